-- Written by a program of this workplace (wip/mp.py) out of the translation.
import Derived.Test.YtaacidhgnappdaaPFnExactFromManyx0
import Derived.Test.YtaacidhgnappdaaPFnExactFromManyx1
import Derived.Test.YtaacidhgnappdaaPFnExactFromManyx2
namespace Go.Proofs.Ytaacidhgnappdaa.PFnExactFromMany
open Go.RowKit Go.Proofs.YtaacidhgnappdaaW.PrintWords Go.Proofs.YtaacidhgnappdaaW.PrintLast Go.Proofs.YtaacidhgnappdaaW.PrintMore Go.Proofs.Ytaacidhgnappdaa.Slim
attribute [local go_sem] max2_int min2_int max_two min_two max_three min_three max_four min_four   -- for this text's walks alone
set_option linter.unusedVariables false
set_option linter.unusedSimpArgs false

/-! ### spec_l3Many: function 97 -/
mutual
def spec_l3Many.l0 : Nat → Int → Int → List Int → List (List Int) → List Int → List (List Int) → List Int → Int → Option ((List (List Int)))
 | 0, _, _, _, _, _, _, _, _ => none
 | k + 1, x0, x1, x2, x3, x4, x11, x12, x13 => if x13 < (x3.length : Int) then (if 0 ≤ x13 then ((spec_l2Leaf.f (rd_L2 x3 x13)).bind fun t249 => (if x11.length < 5864062014805 then ((spec_LeafOf.f k x0 (rd_L2 x3 x13)).bind fun t256 => (if x12.length < 17592186044416 then (spec_l3Many.l0 k x0 x1 x2 x3 x4 (x11 ++ [t249]) (x12 ++ [t256]) (wrap64 (x13 + 1))) else (none))) else (none))) else (none)) else (spec_l3Many.l1 k x0 x1 x2 x4 x11 x12 x1)
def spec_l3Many.l1 : Nat → Int → Int → List Int → List Int → List (List Int) → List Int → Int → Option ((List (List Int)))
 | 0, _, _, _, _, _, _, _ => none
 | k + 1, x0, x1, x2, x4, x11, x12, x14 => if x14 > 1 then (spec_l3Many.l2 k x0 x1 x2 x4 x11 x12 x14 (([] : List Int)) (([] : List Int)) 0) else (if 0 < (x12.length : Int) then ((spec_l2Top.f k x1 (rd x12 0)).bind fun t261 => (if x11.length < 5864062014805 then (some (x11 ++ [t261])) else (none))) else (none))
def spec_l3Many.l2 : Nat → Int → Int → List Int → List Int → List (List Int) → List Int → Int → List Int → List Int → Int → Option ((List (List Int)))
 | 0, _, _, _, _, _, _, _, _, _, _ => none
 | k + 1, x0, x1, x2, x4, x11, x12, x14, x15, x16, x17 => if x17 < x14 then ((spec_l2Has.f k x2 x17).bind fun t273 => ((spec_l2Has.f k x2 (wrap64 (x17 + 1))).bind fun t274 => (if t273 < 0 then (spec_l3Many.j3 k x0 x1 x2 x4 x11 x12 x14 x15 x16 x17 t273 t274 (decide (t274 < 0))) else (spec_l3Many.j3 k x0 x1 x2 x4 x11 x12 x14 x15 x16 x17 t273 t274 false)))) else (spec_l3Many.l1 k x0 x1 x15 x4 x11 x16 (wrap64 (Int.tdiv (wrap64 (x14 + 1)) 2)))
def spec_l3Many.j3 : Nat → Int → Int → List Int → List Int → List (List Int) → List Int → Int → List Int → List Int → Int → Int → Int → Bool → Option ((List (List Int)))
 | 0, _, _, _, _, _, _, _, _, _, _, _, _, _ => none
 | k + 1, x0, x1, x2, x4, x11, x12, x14, x15, x16, x17, x18, x19, x74 => if x74 = true then (spec_l3Many.l2 k x0 x1 x2 x4 x11 x12 x14 x15 x16 (wrap64 (x17 + 2))) else (if x15.length < 17592186044416 then ((some (x15 ++ [wrap64 (Int.tdiv x17 2)] : List Int)).bind fun y275 => (if (wrap64 (x17 + 1)) = x14 then (if 0 ≤ x18 then (if x18 < (x12.length : Int) then (if x16.length < 17592186044416 then (spec_l3Many.l2 k x0 x1 x2 x4 x11 x12 x14 y275 (x16 ++ [rd x12 x18]) (wrap64 (x17 + 2))) else (none)) else (none)) else (none)) else (if x18 < 0 then (spec_l3Many.j4 k x0 x1 x2 x4 x11 x12 x14 y275 x16 x17 x18 x19 0 true) else (spec_l3Many.j4 k x0 x1 x2 x4 x11 x12 x14 y275 x16 x17 x18 x19 0 (decide (x19 < 0)))))) else (none))
def spec_l3Many.j4 : Nat → Int → Int → List Int → List Int → List (List Int) → List Int → Int → List Int → List Int → Int → Int → Int → Int → Bool → Option ((List (List Int)))
 | 0, _, _, _, _, _, _, _, _, _, _, _, _, _, _ => none
 | k + 1, x0, x1, x2, x4, x11, x12, x14, x15, x16, x17, x18, x19, x20, x96 => if x96 = true then (if 0 < (x4.length : Int) then (if 1 ≤ (x4.length : Int) then (spec_l3Many.j5 k x0 x1 x2 (x4.drop 1) x11 x12 x14 x15 x16 x17 x18 x19 (rd x4 0)) else (none)) else (none)) else (spec_l3Many.j5 k x0 x1 x2 x4 x11 x12 x14 x15 x16 x17 x18 x19 x20)
def spec_l3Many.j5 : Nat → Int → Int → List Int → List Int → List (List Int) → List Int → Int → List Int → List Int → Int → Int → Int → Int → Option ((List (List Int)))
 | 0, _, _, _, _, _, _, _, _, _, _, _, _, _ => none
 | k + 1, x0, x1, x2, x4, x11, x12, x14, x15, x16, x17, x18, x19, x20 => if x18 ≥ 0 then (if 0 ≤ x18 then (if x18 < (x12.length : Int) then (spec_l3Many.j6 k x0 x1 x2 x4 x11 x12 x14 x15 x16 x17 x19 (rd x12 x18) x20) else (none)) else (none)) else (spec_l3Many.j6 k x0 x1 x2 x4 x11 x12 x14 x15 x16 x17 x19 x20 x20)
def spec_l3Many.j6 : Nat → Int → Int → List Int → List Int → List (List Int) → List Int → Int → List Int → List Int → Int → Int → Int → Int → Option ((List (List Int)))
 | 0, _, _, _, _, _, _, _, _, _, _, _, _, _ => none
 | k + 1, x0, x1, x2, x4, x11, x12, x14, x15, x16, x17, x19, x21, x22 => if x19 ≥ 0 then (if 0 ≤ x19 then (if x19 < (x12.length : Int) then ((spec_l2Node.f k x21 (rd x12 x19)).bind fun t290 => (if x11.length < 5864062014805 then ((spec_Digest.f k x0 t290).bind fun t296 => (if x16.length < 17592186044416 then (spec_l3Many.l2 k x0 x1 x2 x4 (x11 ++ [t290]) x12 x14 x15 (x16 ++ [t296]) (wrap64 (x17 + 2))) else (none))) else (none))) else (none)) else (none)) else ((spec_l2Node.f k x21 x22).bind fun t300 => (if x11.length < 5864062014805 then ((spec_Digest.f k x0 t300).bind fun t306 => (if x16.length < 17592186044416 then (spec_l3Many.l2 k x0 x1 x2 x4 (x11 ++ [t300]) x12 x14 x15 (x16 ++ [t306]) (wrap64 (x17 + 2))) else (none))) else (none)))
end
def spec_l3Many.f (k : Nat) (a0 : Int) (a1 : Int) (l2 : List Int) (l3 : List (List Int)) (l4 : List Int) : Option ((List (List Int))) := spec_l3Many.l0 k a0 a1 l2 l3 l4 (([] : List (List Int))) (([] : List Int)) 0
set_option maxHeartbeats 8000000 in
set_option maxRecDepth 100000 in
theorem spec_l3Many.calls (k : Nat) (a0 : Int) (a1 : Int) (P2_ : Nat → Prop) (A2 : Option Addr) (c2 : Nat) (l2 : List Int) (A3 : Option Addr) (c3 : Nat) (l3 : List (List Int)) (P4_ : Nat → Prop) (A4 : Option Addr) (c4 : Nat) (l4 : List Int) (r : List (List Int)) (w : World) (hs2 : Kd.V (Kd.int .i64) 3 w w.heap.size (fun k_ => P2_ k_) (.slice A2 l2.length c2) l2) (hr3 : Kd.C (Kd.slice 5 (Kd.int .u8)) w A3 l3.length l3) (hc3 : l3.length ≤ c3) (hs4 : Kd.V (Kd.int .i64) 3 w w.heap.size (fun k_ => P4_ k_) (.slice A4 l4.length c4) l4) (h : spec_l3Many.f k a0 a1 l2 l3 l4 = some r) :
  Calls Try.prog 97 #[.int .i64 a0, .int .i64 a1, .slice A2 l2.length c2, .slice A3 l3.length c3, .slice A4 l4.length c4] w fun e w' => ∃ v0_ : Value, e = .returned (v0_) ∧ Kd.N (Kd.slice 5 (Kd.int .u8)) 22 w' w.heap.size (fun k_ => (w.heap.size ≤ k_)) v0_ r ∧ Below w.heap.size w w' := by
 have HO2 := Aside0.mk (show Kd.V (Kd.int .i64) 3 w w.heap.size (fun k_ => ((P2_ k_ ∨ P4_ k_) ∨ w.heap.size ≤ k_)) (.slice A2 l2.length c2) l2 from Kd.V_mono hs2 (fun k_ hk => .inl (.inl hk)))
 have HR3 := Aside0.mk hr3
 have HC3 := Aside0.mk hc3
 clear hr3 hc3
 have HO4 := Aside0.mk (show Kd.V (Kd.int .i64) 3 w w.heap.size (fun k_ => ((P2_ k_ ∨ P4_ k_) ∨ w.heap.size ≤ k_)) (.slice A4 l4.length c4) l4 from Kd.V_mono hs4 (fun k_ hk => .inl (.inr hk)))
 have HB := Aside0.mk (Below.refl w.heap.size w)
 have H : (spec_l3Many.l0 k a0 a1 l2 l3 l4 (([] : List (List Int))) (([] : List Int)) 0) = some r := h
 clear h
 obtain ⟨y242, hy242⟩ : ∃ y_ : List (List Int), y_ = (([] : List (List Int))) := ⟨_, rfl⟩
 replace H : (spec_l3Many.l0 k a0 a1 l2 l3 l4 y242 (([] : List Int)) 0) = some r := by first | (rw [hy242]; exact H) | exact H
 have Ny242 := Aside0.mk hy242
 clear hy242
 obtain ⟨y245, hy245⟩ : ∃ y_ : List Int, y_ = (([] : List Int)) := ⟨_, rfl⟩
 replace H : (spec_l3Many.l0 k a0 a1 l2 l3 l4 y242 y245 0) = some r := by first | (rw [hy245]; exact H) | exact H
 have Ny245 := Aside0.mk hy245
 clear hy245
 have H' := Aside0.mk H
 clear H
 go_enter Try.func97, Try.ntmps97
 go_wp2_with (first | ((with_reducible refine gate_dst (N := 24) rfl ?_); refine Kd.N_lit (Kd.slice 5 (Kd.int .u8)) _ 22 ?hg (N' := 24) ?hd (xs := ([] : List (List Int))) (inner := []) (ok := (fun k_ => (w.heap.size ≤ k_))) (okp := (fun k_ => (w.heap.size ≤ k_))) ?hr ?hp (fun _ hk => hk) ((show ∀ k_, w.heap.size ≤ k_ → (fun k_ => (w.heap.size ≤ k_)) k_ from fun k_ hk => (Nat.le_trans (below_size (bt)) hk)) _ (Nat.le_refl _)) (Below.refl _ _) (Nat.le_refl _) (by simp) ?_; (case hd => rfl); (case hg => rfl); (case hr => first | (go_simp; done) | (go_simp; rfl)); (case hp => exact (Reps.none _ _)); intro v243 w6 ho7 hb hg_ hnew_; clear hg_ hnew_; (first | rw [← Ny242.out] at ho7 | (simp only [Int.reduceToNat] at ho7; rw [← Ny242.out] at ho7)); replace HO2 := Aside0.mk (Kd.V_elder' (mv HO2.out) (Kd.N_base ho7) hb); replace HO4 := Aside0.mk (Kd.V_elder' (mv HO4.out) (Kd.N_base ho7) hb); have HO244 := Aside0.mk (Kd.N_lower ho7 (below_size (bt))); replace HB := Aside0.mk (below_step (bt) hb); clear hb ho7) | ((with_reducible refine gate_dst (N := 25) rfl ?_); refine Kd.R_lit (Kd.int .i64) _ 3 ?hg (N := 25) ?hd (xs := ([] : List Int)) (inner := []) (ok := fun _ => True) (okp := fun _ => True) ?hr ?hp (fun _ hk => hk) trivial (Below.refl _ _) (Nat.le_refl _) (by simp) ?_; (case hd => rfl); (case hg => rfl); (case hr => first | (go_simp; done) | (go_simp; rfl)); (case hp => exact (Reps.none _ _)); intro v246 w8 ho9 hb hg_ hnew_; clear hg_ hnew_; (first | rw [← Ny245.out] at ho9 | (simp only [Int.reduceToNat] at ho9; rw [← Ny245.out] at ho9)); replace HO2 := Aside0.mk (Kd.V_elder' (mv HO2.out) (Kd.R_base ho9) hb); replace HO4 := Aside0.mk (Kd.V_elder' (mv HO4.out) (Kd.R_base ho9) hb); replace HO244 := Aside0.mk (Kd.N_elder' (mv HO244.out) (Kd.R_base ho9) hb); have HO247 := Aside0.mk (Kd.R_lower (Kd.R_newM (M := fun k_ => (w.heap.size ≤ k_)) ho9 (below_size (bt)) (fun k_ h_ => h_)) (below_size (bt))); replace HB := Aside0.mk (below_step (bt) hb); clear hb ho9))
 go_loopg [11, 12, 13] k (fun kq v11 v12 v13 w' => ∃ (x11_1 : List (List Int)) (x12_1 : List Int) (x13_1 : Int), v13 = .int .i64 x13_1 ∧ Aside0 (spec_l3Many.l0 kq a0 a1 l2 l3 l4 x11_1 x12_1 x13_1 = some r) ∧ Aside0 (kq ≤ k) ∧ Aside0 (Kd.V (Kd.int .i64) 3 w' w.heap.size (fun k_ => ((P2_ k_ ∨ P4_ k_) ∨ w.heap.size ≤ k_) ∧ some k_ ≠ (v11 : Value).ownBlock ∧ some k_ ≠ (v12 : Value).ownBlock) (.slice A2 l2.length c2) l2) ∧ Aside0 (Kd.V (Kd.int .i64) 3 w' w.heap.size (fun k_ => ((P2_ k_ ∨ P4_ k_) ∨ w.heap.size ≤ k_) ∧ some k_ ≠ (v11 : Value).ownBlock ∧ some k_ ≠ (v12 : Value).ownBlock) (.slice A4 l4.length c4) l4) ∧ Aside0 (Kd.N (Kd.slice 5 (Kd.int .u8)) 22 w' w.heap.size (fun k_ => (w.heap.size ≤ k_) ∧ some k_ ≠ (v12 : Value).ownBlock) v11 x11_1) ∧ Aside0 (Kd.R (Kd.int .i64) 3 w' w.heap.size (fun k_ => (w.heap.size ≤ k_)) v12 x12_1) ∧ Aside0 (Below w.heap.size w w'))
 case atStart => exact ⟨(y242), (y245), (0), (by first | rfl | (simp; done) | (simp [*]; done)), H', ⟨Nat.le_refl _⟩, ⟨by (with_reducible repeat (first | apply Kd.V_alloc | apply Kd.V_drewN | apply Kd.V_drew)); exact Kd.V_mono HO2.out (fun _ hk => ⟨hk.1.1, ⟨hk.1.2, hk.2⟩⟩)⟩, ⟨by (with_reducible repeat (first | apply Kd.V_alloc | apply Kd.V_drewN | apply Kd.V_drew)); exact Kd.V_mono HO4.out (fun _ hk => ⟨hk.1.1, ⟨hk.1.2, hk.2⟩⟩)⟩, ⟨mv HO244.out⟩, ⟨by (with_reducible repeat (first | apply Kd.R_alloc | apply Kd.R_drewN | apply Kd.R_drew)); exact Kd.R_mono HO247.out (fun _ hk => hk.1)⟩, ⟨bt⟩⟩
 case round =>
  clear H'
  try clear c2
  try clear p2
  try clear c3
  try clear c4
  try clear c9
  obtain ⟨x11_1, x12_1, x13_1, rfl, HA, HK1, HO_2, HO_4, HO_11, HO_12, HB⟩ := hrel
  cases gk with
  | zero => exact absurd HA.out (by simp [spec_l3Many.l0])
  | succ k1 =>
   have H := HA.out
   clear HA
   simp only [spec_l3Many.l0] at H
   by_cases c10 : x13_1 < (l3.length : Int)
   ·rw [if_pos c10] at H
    have c10b0 : decide (x13_1 < (l3.length : Int)) = true := decide_eq_true c10
    clear c10
    by_cases c11 : 0 ≤ x13_1
    ·rw [if_pos c11] at H
     have c11b0 : decide (0 ≤ x13_1) = true := decide_eq_true c11
     clear c11
     replace H := Option.bind_eq_some_iff.mp H
     obtain ⟨t249, A120, H⟩ := H
     (try dsimp -simprocs only at H)
     have A12 := Aside0.mk A120
     clear A120
     by_cases c13 : x11_1.length < 5864062014805
     ·rw [if_pos c13] at H
      have LMc13 := Aside0.mk c13
      clear c13
      obtain ⟨y252, hy252⟩ : ∃ y_ : List (List Int), y_ = (x11_1 ++ [t249]) := ⟨_, rfl⟩
      replace H : ((spec_LeafOf.f k1 a0 (rd_L2 l3 x13_1)).bind fun t256 => (if x12_1.length < 17592186044416 then (spec_l3Many.l0 k1 a0 a1 l2 l3 l4 y252 (x12_1 ++ [t256]) (wrap64 (x13_1 + 1))) else (none))) = some r := by first | (rw [hy252]; exact H) | exact H
      have Ny252 := Aside0.mk hy252
      clear hy252
      replace H := Option.bind_eq_some_iff.mp H
      obtain ⟨t256, A140, H⟩ := H
      (try dsimp -simprocs only at H)
      have A14 := Aside0.mk A140
      clear A140
      by_cases c15 : x12_1.length < 17592186044416
      ·rw [if_pos c15] at H
       have LMc15 := Aside0.mk c15
       clear c15
       obtain ⟨y257, hy257⟩ : ∃ y_ : List Int, y_ = (x12_1 ++ [t256]) := ⟨_, rfl⟩
       replace H : (spec_l3Many.l0 k1 a0 a1 l2 l3 l4 y252 y257 (wrap64 (x13_1 + 1))) = some r := by first | (rw [hy257]; exact H) | exact H
       have Ny257 := Aside0.mk hy257
       clear hy257
       have H' := Aside0.mk H
       clear H
       have p248 : 0 ≤ (x13_1 : Int) := of_decide_eq_true asm
       have q248 : x13_1 < (l3.length : Int) := of_decide_eq_true asm
       obtain ⟨ad248, A248_0, c248_0, e248, hx248_0, hl248_0, hi248_0⟩ := at_L2 HR3.out x13_1 p248 q248
       cases e248
       replace hx248_0 := (HB.out.cell (World.block_lt_of_cell? w _ hx248_0)).trans hx248_0
       have HR248_0 := Aside0.mk hi248_0
       have HC248_0 := Aside0.mk hl248_0
       clear hi248_0 hl248_0
       replace p248 := eq_true p248
       replace q248 := eq_true q248
       go_wp2_with (first | ((with_reducible refine gate_callee (f := 114) rfl ?_); refine goesL_ (some 37) rfl rfl Try.func114 (by kernel_rfl) rfl #[.slice A248_0 (rd_L2 l3 x13_1).length c248_0] rfl av ?_; (with_reducible refine (spec_l2Leaf.calls _ _ (rd_L2 l3 x13_1) t249 _ ?side1 ?side2 A12.out).mono ?_); (case side1 => exact cv ((Kd.C_below HR248_0.out HB.out))); (case side2 => exact HC248_0.out); rintro e w16 ⟨v250, rfl, ho0, hb⟩; refine ⟨_, rfl, ?_⟩; replace HO_2 := Aside0.mk (Kd.V_elder' (mv HO_2.out) (Kd.R_base ho0) hb); replace HO_4 := Aside0.mk (Kd.V_elder' (mv HO_4.out) (Kd.R_base ho0) hb); replace HO_11 := Aside0.mk (Kd.N_elder' (mv HO_11.out) (Kd.R_base ho0) hb); replace HO_12 := Aside0.mk (Kd.R_below (mv HO_12.out) hb); have HO251 := Aside0.mk (Kd.R_lower (Kd.R_newM (M := fun k_ => (w.heap.size ≤ k_)) ho0 (below_size (bt)) (fun k_ h_ => h_)) (below_size (bt))); replace HB := Aside0.mk (below_step (bt) hb); (try clear hb); (try clear hb2); (try clear hk); (try clear hi); (try clear ho0); obtain ⟨Ao18, co18, eo18⟩ := Kd.R_slice HO251.out; subst eo18) | ((with_reducible refine gate_builtin (b := .append) (xs := #[.tmp 32, .tmp 38]) rfl ?_); at_builtin; refine Kd.N_append (Kd.slice 5 (Kd.int .u8)) (w0 := w) w.heap.size rfl (.tmp 32) (.tmp 38) 30 22 (.slice none 0 0) 24 rfl Try.underlying30 info22 rfl (by decide) (by omega) u11 x11_1 t249 [.slice Ao18 t249.length co18] (fun k_ => (w.heap.size ≤ k_) ∧ some k_ ≠ (u12 : Value).ownBlock) (fun k_ => ((fun k_ => (w.heap.size ≤ k_) ∧ some k_ ≠ (u12 : Value).ownBlock)) k_ ∧ some k_ ≠ (u11 : Value).ownBlock) rfl rfl ?aP (fun _ hk => hk) ?aF ?aO ?aB ?aS ?aL ?_; (case aP => exact (Kd.FK_slice_mk (Kd.R_reads' (Kd.R_mono (ok' := (fun k_ => ((fun k_ => (w.heap.size ≤ k_) ∧ some k_ ≠ (u12 : Value).ownBlock)) k_ ∧ some k_ ≠ (u11 : Value).ownBlock)) (Kd.R_apart' (Kd.R_apart' (HO251.out) (Kd.R_typed HO_12.out) (by decide)) (Kd.N_typed HO_11.out) (by decide)) (fun k_ hk => ⟨⟨(hk.1.1.1), hk.1.2⟩, hk.2⟩))).2.1 (Kd.R_F (Kd.R_mono (ok' := (fun k_ => ((fun k_ => (w.heap.size ≤ k_) ∧ some k_ ≠ (u12 : Value).ownBlock)) k_ ∧ some k_ ≠ (u11 : Value).ownBlock)) (Kd.R_apart' (Kd.R_apart' (HO251.out) (Kd.R_typed HO_12.out) (by decide)) (Kd.N_typed HO_11.out) (by decide)) (fun k_ hk => ⟨⟨(hk.1.1.1), hk.1.2⟩, hk.2⟩))))); (case aB => exact (bt)); (case aF => exact (fun k_ hk => ⟨(Nat.le_trans (below_size (bt)) hk), Kd.fresh' (Kd.R_lt (mv HO_12.out)) k_ hk⟩)); (case aO => exact (by (with_reducible repeat (first | apply Kd.N_alloc | apply Kd.N_drewN | apply Kd.N_drew)); exact Kd.N_mono HO_11.out (fun _ hk => ⟨hk.1.1, hk.1.2⟩))); (case aS => exact (below_size (bt))); (case aL => have := LMc13.out; omega); intro v253 w17 ho hb hg hat; rw [← Ny252.out] at ho; replace HO_2 := Aside0.mk (Kd.V_afterv (ok := (fun k_ => ((P2_ k_ ∨ P4_ k_) ∨ w.heap.size ≤ k_) ∧ some k_ ≠ (u12 : Value).ownBlock ∧ some k_ ≠ (.slice Ao18 t249.length co18 : Value).ownBlock)) (by (with_reducible repeat (first | apply Kd.V_alloc | apply Kd.V_drewN | apply Kd.V_drew)); exact Kd.V_mono HO_2.out (fun _ hk => ⟨⟨hk.1.1, ⟨hk.1.2.2, hk.2⟩⟩, hk.1.2.1⟩)) hg hat); replace HO_4 := Aside0.mk (Kd.V_afterv (ok := (fun k_ => ((P2_ k_ ∨ P4_ k_) ∨ w.heap.size ≤ k_) ∧ some k_ ≠ (u12 : Value).ownBlock ∧ some k_ ≠ (.slice Ao18 t249.length co18 : Value).ownBlock)) (by (with_reducible repeat (first | apply Kd.V_alloc | apply Kd.V_drewN | apply Kd.V_drew)); exact Kd.V_mono HO_4.out (fun _ hk => ⟨⟨hk.1.1, ⟨hk.1.2.2, hk.2⟩⟩, hk.1.2.1⟩)) hg hat); replace HO_12 := Aside0.mk (Kd.R_over' (mv HO_12.out) (Kd.N_typed (mv HO_11.out)) (by decide) hg); replace HB := Aside0.mk (hb); have HO254 := Aside0.mk (ho); clear HO_11 HO251; clear ho hb hg hat; have p255 : 0 ≤ (x13_1 : Int) := of_decide_eq_true asm; have q255 : x13_1 < (l3.length : Int) := of_decide_eq_true asm; obtain ⟨ad255, A255_0, c255_0, e255, hx255_0, hl255_0, hi255_0⟩ := at_L2 HR3.out x13_1 p255 q255; obtain rfl : ad248 = ad255 := (by injection e255); (try (replace hx255_0 := (HB.out.cell (World.block_lt_of_cell? w _ hx255_0)).trans hx255_0)); have HR255_0 := Aside0.mk hi255_0; have HC255_0 := Aside0.mk hl255_0; clear hi255_0 hl255_0; replace p255 := eq_true p255; replace q255 := eq_true q255) | ((with_reducible refine gate_callee (f := 87) rfl ?_); refine goesL_ (some 46) rfl rfl Try.func87 (by kernel_rfl) rfl #[.int .i64 a0, .slice A255_0 (rd_L2 l3 x13_1).length c255_0] rfl av ?_; (with_reducible refine (spec_LeafOf.calls k1 a0 _ _ (rd_L2 l3 x13_1) t256 _ ?side1 ?side2 A14.out).mono ?_); (case side1 => exact cv ((Kd.C_below HR255_0.out HB.out))); (case side2 => exact HC255_0.out); rintro e w19 ⟨rfl, hb⟩; refine ⟨_, rfl, ?_⟩; replace HO_2 := Aside0.mk (Kd.V_below (mv HO_2.out) hb); replace HO_4 := Aside0.mk (Kd.V_below (mv HO_4.out) hb); replace HO_12 := Aside0.mk (Kd.R_below (mv HO_12.out) hb); replace HO254 := Aside0.mk (Kd.N_below (mv HO254.out) hb); replace HB := Aside0.mk (below_step (bt) hb); (try clear hb); (try clear hb2); (try clear hk); (try clear hi)) | ((with_reducible refine gate_builtin (b := .append) (xs := #[.tmp 40, .tmp 47]) rfl ?_); at_builtin; refine Kd.R_append (Kd.int .i64) (w0 := w) w.heap.size rfl (.tmp 40) (.tmp 47) 23 3 (.int .i64 0) 8 rfl Try.underlying23 info3 rfl (by decide) (by omega) u12 x12_1 t256 [.int .i64 t256] (fun k_ => (w.heap.size ≤ k_)) (fun _ => False) rfl rfl ?aP (fun _ hk => hk.elim) ?aF ?aO ?aB ?aS ?aL ?_; (case aP => exact rfl); (case aB => exact (bt)); (case aF => exact (fun k_ hk => (Nat.le_trans (below_size (bt)) hk))); (case aO => exact (mv HO_12.out)); (case aS => exact (below_size (bt))); (case aL => have := LMc15.out; omega); intro v258 w20 ho hb hg hat; rw [← Ny257.out] at ho; replace HO_2 := Aside0.mk (Kd.V_afterv (ok := (fun k_ => ((P2_ k_ ∨ P4_ k_) ∨ w.heap.size ≤ k_) ∧ some k_ ≠ (v253 : Value).ownBlock)) (by (with_reducible repeat (first | apply Kd.V_alloc | apply Kd.V_drewN | apply Kd.V_drew)); exact Kd.V_mono HO_2.out (fun _ hk => ⟨⟨hk.1.1, hk.2⟩, hk.1.2.1⟩)) hg hat); replace HO_4 := Aside0.mk (Kd.V_afterv (ok := (fun k_ => ((P2_ k_ ∨ P4_ k_) ∨ w.heap.size ≤ k_) ∧ some k_ ≠ (v253 : Value).ownBlock)) (by (with_reducible repeat (first | apply Kd.V_alloc | apply Kd.V_drewN | apply Kd.V_drew)); exact Kd.V_mono HO_4.out (fun _ hk => ⟨⟨hk.1.1, hk.2⟩, hk.1.2.1⟩)) hg hat); replace HO254 := Aside0.mk (Kd.N_afterv (ok := (fun k_ => (w.heap.size ≤ k_))) (mv HO254.out) hg hat); replace HB := Aside0.mk (hb); have HO259 := Aside0.mk (ho); clear HO_12; clear ho hb hg hat))
       go_roundg k1
       case measure => have := HK1.out; omega
       case rel => exact ⟨(y252), (y257), (wrap64 (x13_1 + 1)), (by first | rfl | (simp; done) | (simp [*]; done)), H', ⟨by have := HK1.out; omega⟩, ⟨by (with_reducible repeat (first | apply Kd.V_alloc | apply Kd.V_drewN | apply Kd.V_drew)); exact Kd.V_mono HO_2.out (fun _ hk => ⟨hk.1.1, ⟨hk.1.2, hk.2⟩⟩)⟩, ⟨by (with_reducible repeat (first | apply Kd.V_alloc | apply Kd.V_drewN | apply Kd.V_drew)); exact Kd.V_mono HO_4.out (fun _ hk => ⟨hk.1.1, ⟨hk.1.2, hk.2⟩⟩)⟩, ⟨mv HO254.out⟩, ⟨mv HO259.out⟩, ⟨bt⟩⟩
      ·rw [if_neg c15] at H
       exact absurd H (by simp)
     ·rw [if_neg c13] at H
      exact absurd H (by simp)
    ·rw [if_neg c11] at H
     exact absurd H (by simp)
   ·rw [if_neg c10] at H
    have c10b0 : decide (x13_1 < (l3.length : Int)) = false := decide_eq_false c10
    clear c10
    have H' := Aside0.mk H
    clear H
    go_wp2
    go_loopg [2, 4, 11, 12, 14] k1 (fun kq v2 v4 v11 v12 v14 w' => ∃ (x2_2 : List Int) (x4_2 : List Int) (x11_2 : List (List Int)) (x12_2 : List Int) (x14_2 : Int), v14 = .int .i64 x14_2 ∧ Aside0 (spec_l3Many.l1 kq a0 a1 x2_2 x4_2 x11_2 x12_2 x14_2 = some r) ∧ Aside0 (kq ≤ k1) ∧ Aside0 (Kd.V (Kd.int .i64) 3 w' w.heap.size (fun k_ => ((P2_ k_ ∨ P4_ k_) ∨ w.heap.size ≤ k_) ∧ some k_ ≠ (v11 : Value).ownBlock ∧ some k_ ≠ (v12 : Value).ownBlock) v2 x2_2) ∧ Aside0 (Kd.V (Kd.int .i64) 3 w' w.heap.size (fun k_ => ((P2_ k_ ∨ P4_ k_) ∨ w.heap.size ≤ k_) ∧ some k_ ≠ (v11 : Value).ownBlock ∧ some k_ ≠ (v12 : Value).ownBlock) v4 x4_2) ∧ Aside0 (Kd.N (Kd.slice 5 (Kd.int .u8)) 22 w' w.heap.size (fun k_ => (w.heap.size ≤ k_) ∧ some k_ ≠ (v12 : Value).ownBlock) v11 x11_2) ∧ Aside0 (Kd.R (Kd.int .i64) 3 w' w.heap.size (fun k_ => (w.heap.size ≤ k_)) v12 x12_2) ∧ Aside0 (Below w.heap.size w w'))
    case atStart => exact ⟨(l2), (l4), (x11_1), (x12_1), (a1), (by first | rfl | (simp; done) | (simp [*]; done)), H', ⟨Nat.le_refl _⟩, ⟨mv HO_2.out⟩, ⟨mv HO_4.out⟩, ⟨mv HO_11.out⟩, ⟨mv HO_12.out⟩, ⟨bt⟩⟩
    case round =>
     clear H'
     try clear c1
     try clear c2
     try clear p2
     try clear q2
     try clear hx2
     try clear c3
     try clear c4
     try clear p6
     try clear c8
     try clear c9
     try clear c10
     try clear c10b0
     try clear c11
     try clear c11b0
     try clear c13
     try clear c15
     try clear hx248_0
     try clear hx255_0
     try clear p2
     try clear p248
     try clear p255
     try clear q248
     try clear q255
     obtain ⟨x2_2, x4_2, x11_2, x12_2, x14_2, rfl, HA, HK2, HO_2, HO_4, HO_11, HO_12, HB⟩ := hrel
     cases gk with
     | zero => exact absurd HA.out (by simp [spec_l3Many.l1])
     | succ k2 =>
      have H := HA.out
      clear HA
      simp only [spec_l3Many.l1] at H
      by_cases c21 : x14_2 > 1
      ·rw [if_pos c21] at H
       have c21b0 : decide (1 < x14_2) = true := decide_eq_true c21
       clear c21
       obtain ⟨y267, hy267⟩ : ∃ y_ : List Int, y_ = (([] : List Int)) := ⟨_, rfl⟩
       replace H : (spec_l3Many.l2 k2 a0 a1 x2_2 x4_2 x11_2 x12_2 x14_2 y267 (([] : List Int)) 0) = some r := by first | (rw [hy267]; exact H) | exact H
       have Ny267 := Aside0.mk hy267
       clear hy267
       obtain ⟨y270, hy270⟩ : ∃ y_ : List Int, y_ = (([] : List Int)) := ⟨_, rfl⟩
       replace H : (spec_l3Many.l2 k2 a0 a1 x2_2 x4_2 x11_2 x12_2 x14_2 y267 y270 0) = some r := by first | (rw [hy270]; exact H) | exact H
       have Ny270 := Aside0.mk hy270
       clear hy270
       have H' := Aside0.mk H
       clear H
       go_wp2_with (first | ((with_reducible refine gate_dst (N := 55) rfl ?_); refine Kd.R_lit (Kd.int .i64) _ 3 ?hg (N := 55) ?hd (xs := ([] : List Int)) (inner := []) (ok := fun _ => True) (okp := fun _ => True) ?hr ?hp (fun _ hk => hk) trivial (Below.refl _ _) (Nat.le_refl _) (by simp) ?_; (case hd => rfl); (case hg => rfl); (case hr => first | (go_simp; done) | (go_simp; rfl)); (case hp => exact (Reps.none _ _)); intro v268 w22 ho23 hb hg_ hnew_; clear hg_ hnew_; (first | rw [← Ny267.out] at ho23 | (simp only [Int.reduceToNat] at ho23; rw [← Ny267.out] at ho23)); replace HO_2 := Aside0.mk (Kd.V_elder' (mv HO_2.out) (Kd.R_base ho23) hb); replace HO_4 := Aside0.mk (Kd.V_elder' (mv HO_4.out) (Kd.R_base ho23) hb); replace HO_11 := Aside0.mk (Kd.N_elder' (mv HO_11.out) (Kd.R_base ho23) hb); have HO269 := Aside0.mk (Kd.R_lower (Kd.R_new' (Kd.R_newM (M := fun k_ => (w.heap.size ≤ k_)) ho23 (below_size (bt)) (fun k_ h_ => h_)) (Kd.R_lt (mv HO_12.out))) (below_size (bt))); replace HO_12 := Aside0.mk (Kd.R_elder' (mv HO_12.out) (Kd.R_base ho23) hb); replace HB := Aside0.mk (below_step (bt) hb); clear hb ho23) | ((with_reducible refine gate_dst (N := 56) rfl ?_); refine Kd.R_lit (Kd.int .i64) _ 3 ?hg (N := 56) ?hd (xs := ([] : List Int)) (inner := []) (ok := fun _ => True) (okp := fun _ => True) ?hr ?hp (fun _ hk => hk) trivial (Below.refl _ _) (Nat.le_refl _) (by simp) ?_; (case hd => rfl); (case hg => rfl); (case hr => first | (go_simp; done) | (go_simp; rfl)); (case hp => exact (Reps.none _ _)); intro v271 w24 ho25 hb hg_ hnew_; clear hg_ hnew_; (first | rw [← Ny270.out] at ho25 | (simp only [Int.reduceToNat] at ho25; rw [← Ny270.out] at ho25)); replace HO_2 := Aside0.mk (Kd.V_elder' (mv HO_2.out) (Kd.R_base ho25) hb); replace HO_4 := Aside0.mk (Kd.V_elder' (mv HO_4.out) (Kd.R_base ho25) hb); replace HO_11 := Aside0.mk (Kd.N_elder' (mv HO_11.out) (Kd.R_base ho25) hb); have HO272 := Aside0.mk (Kd.R_lower (Kd.R_new' (Kd.R_new' (Kd.R_newM (M := fun k_ => (w.heap.size ≤ k_)) ho25 (below_size (bt)) (fun k_ h_ => h_)) (Kd.R_lt (mv HO_12.out))) (Kd.R_lt (mv HO269.out))) (below_size (bt))); replace HO_12 := Aside0.mk (Kd.R_elder' (mv HO_12.out) (Kd.R_base ho25) hb); replace HO269 := Aside0.mk (Kd.R_elder' (mv HO269.out) (Kd.R_base ho25) hb); replace HB := Aside0.mk (below_step (bt) hb); clear hb ho25))
       go_loopg [4, 11, 15, 16, 17] k2 (fun kq v4 v11 v15 v16 v17 w' => ∃ (x4_3 : List Int) (x11_3 : List (List Int)) (x15_3 : List Int) (x16_3 : List Int) (x17_3 : Int), v17 = .int .i64 x17_3 ∧ Aside0 (spec_l3Many.l2 kq a0 a1 x2_2 x4_3 x11_3 x12_2 x14_2 x15_3 x16_3 x17_3 = some r) ∧ Aside0 (kq ≤ k2) ∧ Aside0 (Kd.V (Kd.int .i64) 3 w' w.heap.size (fun k_ => ((P2_ k_ ∨ P4_ k_) ∨ w.heap.size ≤ k_) ∧ some k_ ≠ (v11 : Value).ownBlock ∧ some k_ ≠ (u12 : Value).ownBlock ∧ some k_ ≠ (v15 : Value).ownBlock ∧ some k_ ≠ (v16 : Value).ownBlock) u2 x2_2) ∧ Aside0 (Kd.V (Kd.int .i64) 3 w' w.heap.size (fun k_ => ((P2_ k_ ∨ P4_ k_) ∨ w.heap.size ≤ k_) ∧ some k_ ≠ (v11 : Value).ownBlock ∧ some k_ ≠ (u12 : Value).ownBlock ∧ some k_ ≠ (v15 : Value).ownBlock ∧ some k_ ≠ (v16 : Value).ownBlock) v4 x4_3) ∧ Aside0 (Kd.N (Kd.slice 5 (Kd.int .u8)) 22 w' w.heap.size (fun k_ => (w.heap.size ≤ k_) ∧ some k_ ≠ (u12 : Value).ownBlock ∧ some k_ ≠ (v15 : Value).ownBlock ∧ some k_ ≠ (v16 : Value).ownBlock) v11 x11_3) ∧ Aside0 (Kd.R (Kd.int .i64) 3 w' w.heap.size (fun k_ => (w.heap.size ≤ k_) ∧ some k_ ≠ (v15 : Value).ownBlock ∧ some k_ ≠ (v16 : Value).ownBlock) u12 x12_2) ∧ Aside0 (Kd.R (Kd.int .i64) 3 w' w.heap.size (fun k_ => (w.heap.size ≤ k_) ∧ some k_ ≠ (u12 : Value).ownBlock ∧ some k_ ≠ (v16 : Value).ownBlock) v15 x15_3) ∧ Aside0 (Kd.R (Kd.int .i64) 3 w' w.heap.size (fun k_ => (w.heap.size ≤ k_) ∧ some k_ ≠ (u12 : Value).ownBlock ∧ some k_ ≠ (v15 : Value).ownBlock) v16 x16_3) ∧ Aside0 (Below w.heap.size w w'))
       case atStart => exact ⟨(x4_2), (x11_2), (y267), (y270), (0), (by first | rfl | (simp; done) | (simp [*]; done)), H', ⟨Nat.le_refl _⟩, ⟨by (with_reducible repeat (first | apply Kd.V_alloc | apply Kd.V_drewN | apply Kd.V_drew)); exact Kd.V_mono HO_2.out (fun _ hk => ⟨hk.1.1.1, ⟨hk.1.1.2.1, ⟨hk.1.1.2.2, ⟨hk.1.2, hk.2⟩⟩⟩⟩)⟩, ⟨by (with_reducible repeat (first | apply Kd.V_alloc | apply Kd.V_drewN | apply Kd.V_drew)); exact Kd.V_mono HO_4.out (fun _ hk => ⟨hk.1.1.1, ⟨hk.1.1.2.1, ⟨hk.1.1.2.2, ⟨hk.1.2, hk.2⟩⟩⟩⟩)⟩, ⟨by (with_reducible repeat (first | apply Kd.N_alloc | apply Kd.N_drewN | apply Kd.N_drew)); exact Kd.N_mono HO_11.out (fun _ hk => ⟨hk.1.1.1, ⟨hk.1.1.2, ⟨hk.1.2, hk.2⟩⟩⟩)⟩, ⟨by (with_reducible repeat (first | apply Kd.R_alloc | apply Kd.R_drewN | apply Kd.R_drew)); exact Kd.R_mono HO_12.out (fun _ hk => ⟨hk.1.1, ⟨hk.1.2, hk.2⟩⟩)⟩, ⟨by (with_reducible repeat (first | apply Kd.R_alloc | apply Kd.R_drewN | apply Kd.R_drew)); exact Kd.R_mono HO269.out (fun _ hk => ⟨hk.1.1.1, ⟨hk.1.2, hk.2⟩⟩)⟩, ⟨by (with_reducible repeat (first | apply Kd.R_alloc | apply Kd.R_drewN | apply Kd.R_drew)); exact Kd.R_mono HO272.out (fun _ hk => ⟨hk.1.1.1, ⟨hk.1.2, hk.2⟩⟩)⟩, ⟨bt⟩⟩
       case round =>
        clear H'
        try clear c1
        try clear c2
        try clear p2
        try clear q2
        try clear hx2
        try clear c3
        try clear c4
        try clear p6
        try clear c8
        try clear c9
        try clear c10
        try clear c10b0
        try clear c11
        try clear c11b0
        try clear c13
        try clear c15
        try clear c21
        try clear c21b0
        try clear c24
        try clear p24
        try clear q24
        try clear hx24
        try clear c25
        try clear p25
        try clear q25
        try clear hx25
        try clear hx248_0
        try clear hx255_0
        try clear p2
        try clear p248
        try clear p255
        try clear p6
        try clear q2
        try clear q248
        try clear q255
        obtain ⟨x4_3, x11_3, x15_3, x16_3, x17_3, rfl, HA, HK3, HO_2, HO_4, HO_11, HO_12, HO_15, HO_16, HB⟩ := hrel
        cases gk with
        | zero => exact absurd HA.out (by simp [spec_l3Many.l2])
        | succ k3 =>
         have H := HA.out
         clear HA
         simp only [spec_l3Many.l2] at H
         by_cases c26 : x17_3 < x14_2
         ·rw [if_pos c26] at H
          have c26b0 : decide (x17_3 < x14_2) = true := decide_eq_true c26
          clear c26
          replace H := Option.bind_eq_some_iff.mp H
          obtain ⟨t273, A270, H⟩ := H
          (try dsimp -simprocs only at H)
          have A27 := Aside0.mk A270
          clear A270
          replace H := Option.bind_eq_some_iff.mp H
          obtain ⟨t274, A280, H⟩ := H
          (try dsimp -simprocs only at H)
          have A28 := Aside0.mk A280
          clear A280
          have HC29 := Aside0.mk H
          clear H
          obtain ⟨Ao30, co30, eo30⟩ := Kd.V_slice HO_2.out
          subst eo30
          go_upto_region 16 with (first | ((with_reducible refine gate_callee (f := 92) rfl ?_); refine goesL_ (some 64) rfl rfl Try.func92 (by kernel_rfl) rfl #[.slice Ao30 x2_2.length co30, .int .i64 x17_3] rfl av ?_; (with_reducible refine (spec_l2Has.calls k3 _ _ x2_2 x17_3 t273 _ ?side1 ?side2 A27.out).mono ?_); (case side1 => exact cv ((Kd.V_reads' HO_2.out).2.2)); (case side2 => exact (Kd.V_reads' HO_2.out).2.1); rintro e w' ⟨rfl, ⟨nd, rfl⟩⟩; refine ⟨_, rfl, ?_⟩) | ((with_reducible refine gate_callee (f := 92) rfl ?_); refine goesL_ (some 68) rfl rfl Try.func92 (by kernel_rfl) rfl #[.slice Ao30 x2_2.length co30, .int .i64 (wrap64 (x17_3 + 1))] rfl av ?_; (with_reducible refine (spec_l2Has.calls k3 _ _ x2_2 (wrap64 (x17_3 + 1)) t274 _ ?side1 ?side2 A28.out).mono ?_); (case side1 => exact cv ((Kd.V_reads' HO_2.out).2.2)); (case side2 => exact (Kd.V_reads' HO_2.out).2.1); rintro e w' ⟨rfl, ⟨nd, rfl⟩⟩; refine ⟨_, rfl, ?_⟩))
          (try simp only [Act.put, List.setIfInBounds_toArray, List.set_cons_zero, List.set_cons_succ])
          go_cut [74] (fun v74 wc => ∃ (kq : Nat) (x74_28 : Bool), v74 = .bool x74_28 ∧ Aside0 (spec_l3Many.j3 kq a0 a1 x2_2 x4_3 x11_3 x12_2 x14_2 x15_3 x16_3 x17_3 t273 t274 x74_28 = some r) ∧ Aside0 (kq ≤ k3) ∧ Aside0 (Kd.V (Kd.int .i64) 3 wc w.heap.size (fun k_ => ((P2_ k_ ∨ P4_ k_) ∨ w.heap.size ≤ k_) ∧ some k_ ≠ (u11 : Value).ownBlock ∧ some k_ ≠ (u12 : Value).ownBlock ∧ some k_ ≠ (u15 : Value).ownBlock ∧ some k_ ≠ (u16 : Value).ownBlock) (.slice Ao30 x2_2.length co30) x2_2) ∧ Aside0 (Kd.V (Kd.int .i64) 3 wc w.heap.size (fun k_ => ((P2_ k_ ∨ P4_ k_) ∨ w.heap.size ≤ k_) ∧ some k_ ≠ (u11 : Value).ownBlock ∧ some k_ ≠ (u12 : Value).ownBlock ∧ some k_ ≠ (u15 : Value).ownBlock ∧ some k_ ≠ (u16 : Value).ownBlock) u4 x4_3) ∧ Aside0 (Kd.N (Kd.slice 5 (Kd.int .u8)) 22 wc w.heap.size (fun k_ => (w.heap.size ≤ k_) ∧ some k_ ≠ (u12 : Value).ownBlock ∧ some k_ ≠ (u15 : Value).ownBlock ∧ some k_ ≠ (u16 : Value).ownBlock) u11 x11_3) ∧ Aside0 (Kd.R (Kd.int .i64) 3 wc w.heap.size (fun k_ => (w.heap.size ≤ k_) ∧ some k_ ≠ (u15 : Value).ownBlock ∧ some k_ ≠ (u16 : Value).ownBlock) u12 x12_2) ∧ Aside0 (Kd.R (Kd.int .i64) 3 wc w.heap.size (fun k_ => (w.heap.size ≤ k_) ∧ some k_ ≠ (u12 : Value).ownBlock ∧ some k_ ≠ (u16 : Value).ownBlock) u15 x15_3) ∧ Aside0 (Kd.R (Kd.int .i64) 3 wc w.heap.size (fun k_ => (w.heap.size ≤ k_) ∧ some k_ ≠ (u12 : Value).ownBlock ∧ some k_ ≠ (u15 : Value).ownBlock) u16 x16_3) ∧ Aside0 (Below w.heap.size w wc))
          case first =>
           have H := HC29.out
           clear HC29
           by_cases c31 : t273 < 0
           ·rw [if_pos c31] at H
            have c31b0 : decide (t273 < 0) = true := decide_eq_true c31
            clear c31
            (first | rw [c31b0] | (simp only [i64_w, i32_w]; rw [c31b0]) | skip)
            have H' := Aside0.mk H
            clear H
            go_wp2
            go_meet
            case rel => exact ⟨_, (decide (t274 < 0)), (by first | rfl | (simp; done) | (simp [*]; done)), H', ⟨by have := HK1.out; have := HK2.out; have := HK3.out; first | omega | exact Nat.le_refl _⟩, ⟨mv HO_2.out⟩, ⟨mv HO_4.out⟩, ⟨mv HO_11.out⟩, ⟨mv HO_12.out⟩, ⟨mv HO_15.out⟩, ⟨mv HO_16.out⟩, ⟨bt⟩⟩
           ·rw [if_neg c31] at H
            have c31b0 : decide (t273 < 0) = false := decide_eq_false c31
            clear c31
            (first | rw [c31b0] | (simp only [i64_w, i32_w]; rw [c31b0]) | skip)
            have H' := Aside0.mk H
            clear H
            go_wp2
            go_meet
            case rel => exact ⟨_, (false), (by first | rfl | (simp; done) | (simp [*]; done)), H', ⟨by have := HK1.out; have := HK2.out; have := HK3.out; first | omega | exact Nat.le_refl _⟩, ⟨mv HO_2.out⟩, ⟨mv HO_4.out⟩, ⟨mv HO_11.out⟩, ⟨mv HO_12.out⟩, ⟨mv HO_15.out⟩, ⟨mv HO_16.out⟩, ⟨bt⟩⟩
          case rest =>
           clear HC29
           try clear c1
           try clear c2
           try clear p2
           try clear q2
           try clear hx2
           try clear c3
           try clear c4
           try clear p6
           try clear c8
           try clear c9
           try clear c10
           try clear c10b0
           try clear c11
           try clear c11b0
           try clear c13
           try clear c15
           try clear c21
           try clear c21b0
           try clear c24
           try clear p24
           try clear q24
           try clear hx24
           try clear c25
           try clear p25
           try clear q25
           try clear hx25
           try clear c26
           try clear c26b0
           try clear c31
           try clear c31b0
           try clear hx248_0
           try clear hx255_0
           try clear p2
           try clear p24
           try clear p248
           try clear p25
           try clear p255
           try clear p6
           try clear q2
           try clear q24
           try clear q248
           try clear q25
           try clear q255
           obtain ⟨kq, x74_28, rfl, HA, HJ28, HO_2, HO_4, HO_11, HO_12, HO_15, HO_16, HB⟩ := hcut
           cases kq with
           | zero => exact absurd HA.out (by simp [spec_l3Many.j3])
           | succ kj28 =>
            have H := HA.out
            clear HA
            simp only [spec_l3Many.j3] at H
            by_cases c32 : x74_28 = true
            ·subst c32
             rw [if_pos rfl] at H
             have H' := Aside0.mk H
             clear H
             go_wp2
             go_roundg kj28
             case measure => have := HK1.out; have := HK2.out; have := HK3.out; have := HJ28.out; omega
             case rel => exact ⟨(x4_3), (x11_3), (x15_3), (x16_3), (wrap64 (x17_3 + 2)), (by first | rfl | (simp; done) | (simp [*]; done)), H', ⟨by have := HK1.out; have := HK2.out; have := HK3.out; have := HJ28.out; omega⟩, ⟨mv HO_2.out⟩, ⟨mv HO_4.out⟩, ⟨mv HO_11.out⟩, ⟨mv HO_12.out⟩, ⟨mv HO_15.out⟩, ⟨mv HO_16.out⟩, ⟨bt⟩⟩
            ·replace c32 := Bool.eq_false_iff.mpr c32
             subst c32
             rw [if_neg (show ¬ (false = true) by decide)] at H
             by_cases c33 : x15_3.length < 17592186044416
             ·rw [if_pos c33] at H
              have LMc33 := Aside0.mk c33
              clear c33
              obtain ⟨y275, hy275⟩ : ∃ y_ : List Int, y_ = (x15_3 ++ [wrap64 (Int.tdiv x17_3 2)]) := ⟨_, rfl⟩
              replace H : (if (wrap64 (x17_3 + 1)) = x14_2 then (if 0 ≤ t273 then (if t273 < (x12_2.length : Int) then (if x16_3.length < 17592186044416 then (spec_l3Many.l2 kj28 a0 a1 x2_2 x4_3 x11_3 x12_2 x14_2 y275 (x16_3 ++ [rd x12_2 t273]) (wrap64 (x17_3 + 2))) else (none)) else (none)) else (none)) else (if t273 < 0 then (spec_l3Many.j4 kj28 a0 a1 x2_2 x4_3 x11_3 x12_2 x14_2 y275 x16_3 x17_3 t273 t274 0 true) else (spec_l3Many.j4 kj28 a0 a1 x2_2 x4_3 x11_3 x12_2 x14_2 y275 x16_3 x17_3 t273 t274 0 (decide (t274 < 0))))) = some r := by first | (rw [hy275]; exact H) | exact H
              have Ny275 := Aside0.mk hy275
              clear hy275
              by_cases c34 : (wrap64 (x17_3 + 1)) = x14_2
              ·rw [if_pos c34] at H
               have c34b0 : ((wrap64 (x17_3 + 1)) == x14_2) = true := beq_iff_eq.mpr c34
               have c34b1 : ((wrap64 (x17_3 + 1)) != x14_2) = false := bne_eq_false_iff_eq.mpr c34
               clear c34
               by_cases c35 : 0 ≤ t273
               ·rw [if_pos c35] at H
                have c35b0 : decide (0 ≤ t273) = true := decide_eq_true c35
                clear c35
                by_cases c36 : t273 < (x12_2.length : Int)
                ·rw [if_pos c36] at H
                 have c36b0 : decide (t273 < (x12_2.length : Int)) = true := decide_eq_true c36
                 clear c36
                 by_cases c37 : x16_3.length < 17592186044416
                 ·rw [if_pos c37] at H
                  have LMc37 := Aside0.mk c37
                  clear c37
                  obtain ⟨y279, hy279⟩ : ∃ y_ : List Int, y_ = (x16_3 ++ [rd x12_2 t273]) := ⟨_, rfl⟩
                  replace H : (spec_l3Many.l2 kj28 a0 a1 x2_2 x4_3 x11_3 x12_2 x14_2 y275 y279 (wrap64 (x17_3 + 2))) = some r := by first | (rw [hy279]; exact H) | exact H
                  have Ny279 := Aside0.mk hy279
                  clear hy279
                  have H' := Aside0.mk H
                  clear H
                  go_wp2_with (first | ((with_reducible refine gate_builtin (b := .append) (xs := #[.tmp 75, .tmp 78]) rfl ?_); at_builtin; refine Kd.R_append (Kd.int .i64) (w0 := w) w.heap.size rfl (.tmp 75) (.tmp 78) 23 3 (.int .i64 0) 8 rfl Try.underlying23 info3 rfl (by decide) (by omega) u15 x15_3 (wrap64 (Int.tdiv x17_3 2)) [.int .i64 (wrap64 (Int.tdiv x17_3 2))] (fun k_ => (w.heap.size ≤ k_) ∧ some k_ ≠ (u12 : Value).ownBlock ∧ some k_ ≠ (u16 : Value).ownBlock) (fun _ => False) rfl rfl ?aP (fun _ hk => hk.elim) ?aF ?aO ?aB ?aS ?aL ?_; (case aP => exact rfl); (case aB => exact (bt)); (case aF => exact (fun k_ hk => ⟨(Nat.le_trans (below_size (bt)) hk), Kd.fresh' (Kd.R_lt (mv HO_12.out)) k_ hk, Kd.fresh' (Kd.R_lt (mv HO_16.out)) k_ hk⟩)); (case aO => exact (mv HO_15.out)); (case aS => exact (below_size (bt))); (case aL => have := LMc33.out; omega); intro v276 w38 ho hb hg hat; rw [← Ny275.out] at ho; replace HO_2 := Aside0.mk (Kd.V_afterv (ok := (fun k_ => ((P2_ k_ ∨ P4_ k_) ∨ w.heap.size ≤ k_) ∧ some k_ ≠ (u11 : Value).ownBlock ∧ some k_ ≠ (u12 : Value).ownBlock ∧ some k_ ≠ (u16 : Value).ownBlock)) (by (with_reducible repeat (first | apply Kd.V_alloc | apply Kd.V_drewN | apply Kd.V_drew)); exact Kd.V_mono HO_2.out (fun _ hk => ⟨⟨hk.1, ⟨hk.2.1, ⟨hk.2.2.1, hk.2.2.2.2⟩⟩⟩, hk.2.2.2.1⟩)) hg hat); replace HO_4 := Aside0.mk (Kd.V_afterv (ok := (fun k_ => ((P2_ k_ ∨ P4_ k_) ∨ w.heap.size ≤ k_) ∧ some k_ ≠ (u11 : Value).ownBlock ∧ some k_ ≠ (u12 : Value).ownBlock ∧ some k_ ≠ (u16 : Value).ownBlock)) (by (with_reducible repeat (first | apply Kd.V_alloc | apply Kd.V_drewN | apply Kd.V_drew)); exact Kd.V_mono HO_4.out (fun _ hk => ⟨⟨hk.1, ⟨hk.2.1, ⟨hk.2.2.1, hk.2.2.2.2⟩⟩⟩, hk.2.2.2.1⟩)) hg hat); replace HO_11 := Aside0.mk (Kd.N_afterv (ok := (fun k_ => (w.heap.size ≤ k_) ∧ some k_ ≠ (u12 : Value).ownBlock ∧ some k_ ≠ (u16 : Value).ownBlock)) (by (with_reducible repeat (first | apply Kd.N_alloc | apply Kd.N_drewN | apply Kd.N_drew)); exact Kd.N_mono HO_11.out (fun _ hk => ⟨⟨hk.1, ⟨hk.2.1, hk.2.2.2⟩⟩, hk.2.2.1⟩)) hg hat); replace HO_12 := Aside0.mk (Kd.R_after (ok := (fun k_ => (w.heap.size ≤ k_) ∧ some k_ ≠ (u16 : Value).ownBlock)) (by (with_reducible repeat (first | apply Kd.R_alloc | apply Kd.R_drewN | apply Kd.R_drew)); exact Kd.R_mono HO_12.out (fun _ hk => ⟨⟨hk.1, hk.2.2⟩, hk.2.1⟩)) hg hat); replace HO_16 := Aside0.mk (Kd.R_after (ok := (fun k_ => (w.heap.size ≤ k_) ∧ some k_ ≠ (u12 : Value).ownBlock)) (by (with_reducible repeat (first | apply Kd.R_alloc | apply Kd.R_drewN | apply Kd.R_drew)); exact Kd.R_mono HO_16.out (fun _ hk => ⟨⟨hk.1, hk.2.1⟩, hk.2.2⟩)) hg hat); replace HB := Aside0.mk (hb); have HO277 := Aside0.mk (ho); clear HO_15; clear ho hb hg hat; obtain ⟨Ao39, co39, eo39⟩ := Kd.R_slice HO_12.out; subst eo39; have p278 : 0 ≤ (t273 : Int) := of_decide_eq_true asm; have q278 : t273 < (x12_2.length : Int) := of_decide_eq_true asm; obtain ⟨ad278, e278, hx278_0⟩ := Kd.at_int (Kd.R_reads' HO_12.out).2.2 t273 p278 q278; cases e278; replace p278 := eq_true p278; replace q278 := eq_true q278) | ((with_reducible refine gate_builtin (b := .append) (xs := #[.tmp 84, .tmp 89]) rfl ?_); at_builtin; refine Kd.R_append (Kd.int .i64) (w0 := w) w.heap.size rfl (.tmp 84) (.tmp 89) 23 3 (.int .i64 0) 8 rfl Try.underlying23 info3 rfl (by decide) (by omega) u16 x16_3 (rd x12_2 t273) [.int .i64 (rd x12_2 t273)] (fun k_ => (w.heap.size ≤ k_) ∧ some k_ ≠ (.slice (some ad278) x12_2.length co39 : Value).ownBlock ∧ some k_ ≠ (v276 : Value).ownBlock) (fun _ => False) rfl rfl ?aP (fun _ hk => hk.elim) ?aF ?aO ?aB ?aS ?aL ?_; (case aP => exact rfl); (case aB => exact (bt)); (case aF => exact (fun k_ hk => ⟨(Nat.le_trans (below_size (bt)) hk), Kd.fresh' (Kd.R_lt (mv HO_12.out)) k_ hk, Kd.fresh' (Kd.R_lt (mv HO277.out)) k_ hk⟩)); (case aO => exact (by (with_reducible repeat (first | apply Kd.R_alloc | apply Kd.R_drewN | apply Kd.R_drew)); exact Kd.R_mono HO_16.out (fun _ hk => ⟨hk.1.1, ⟨hk.1.2, hk.2⟩⟩))); (case aS => exact (below_size (bt))); (case aL => have := LMc37.out; omega); intro v280 w40 ho hb hg hat; rw [← Ny279.out] at ho; replace HO_2 := Aside0.mk (Kd.V_afterv (ok := (fun k_ => ((P2_ k_ ∨ P4_ k_) ∨ w.heap.size ≤ k_) ∧ some k_ ≠ (u11 : Value).ownBlock ∧ some k_ ≠ (.slice (some ad278) x12_2.length co39 : Value).ownBlock ∧ some k_ ≠ (v276 : Value).ownBlock)) (by (with_reducible repeat (first | apply Kd.V_alloc | apply Kd.V_drewN | apply Kd.V_drew)); exact Kd.V_mono HO_2.out (fun _ hk => ⟨⟨hk.1.1, ⟨hk.1.2.1, ⟨hk.1.2.2.1, hk.2⟩⟩⟩, hk.1.2.2.2⟩)) hg hat); replace HO_4 := Aside0.mk (Kd.V_afterv (ok := (fun k_ => ((P2_ k_ ∨ P4_ k_) ∨ w.heap.size ≤ k_) ∧ some k_ ≠ (u11 : Value).ownBlock ∧ some k_ ≠ (.slice (some ad278) x12_2.length co39 : Value).ownBlock ∧ some k_ ≠ (v276 : Value).ownBlock)) (by (with_reducible repeat (first | apply Kd.V_alloc | apply Kd.V_drewN | apply Kd.V_drew)); exact Kd.V_mono HO_4.out (fun _ hk => ⟨⟨hk.1.1, ⟨hk.1.2.1, ⟨hk.1.2.2.1, hk.2⟩⟩⟩, hk.1.2.2.2⟩)) hg hat); replace HO_11 := Aside0.mk (Kd.N_afterv (ok := (fun k_ => (w.heap.size ≤ k_) ∧ some k_ ≠ (.slice (some ad278) x12_2.length co39 : Value).ownBlock ∧ some k_ ≠ (v276 : Value).ownBlock)) (by (with_reducible repeat (first | apply Kd.N_alloc | apply Kd.N_drewN | apply Kd.N_drew)); exact Kd.N_mono HO_11.out (fun _ hk => ⟨⟨hk.1.1, ⟨hk.1.2.1, hk.2⟩⟩, hk.1.2.2⟩)) hg hat); replace HO_12 := Aside0.mk (Kd.R_after (ok := (fun k_ => (w.heap.size ≤ k_) ∧ some k_ ≠ (v276 : Value).ownBlock)) (by (with_reducible repeat (first | apply Kd.R_alloc | apply Kd.R_drewN | apply Kd.R_drew)); exact Kd.R_mono HO_12.out (fun _ hk => ⟨⟨hk.1.1, hk.2⟩, hk.1.2⟩)) hg hat); replace HO277 := Aside0.mk (Kd.R_after (ok := (fun k_ => (w.heap.size ≤ k_) ∧ some k_ ≠ (.slice (some ad278) x12_2.length co39 : Value).ownBlock)) (by (with_reducible repeat (first | apply Kd.R_alloc | apply Kd.R_drewN | apply Kd.R_drew)); exact Kd.R_mono HO277.out (fun _ hk => ⟨⟨hk.1, hk.2.1⟩, hk.2.2⟩)) hg hat); replace HB := Aside0.mk (hb); have HO281 := Aside0.mk (ho); clear HO_16; clear ho hb hg hat))
                  go_roundg kj28
                  case measure => have := HK1.out; have := HK2.out; have := HK3.out; have := HJ28.out; omega
                  case rel => exact ⟨(x4_3), (x11_3), (y275), (y279), (wrap64 (x17_3 + 2)), (by first | rfl | (simp; done) | (simp [*]; done)), H', ⟨by have := HK1.out; have := HK2.out; have := HK3.out; have := HJ28.out; omega⟩, ⟨by (with_reducible repeat (first | apply Kd.V_alloc | apply Kd.V_drewN | apply Kd.V_drew)); exact Kd.V_mono HO_2.out (fun _ hk => ⟨hk.1.1, ⟨hk.1.2.1, ⟨hk.1.2.2.1, ⟨hk.1.2.2.2, hk.2⟩⟩⟩⟩)⟩, ⟨by (with_reducible repeat (first | apply Kd.V_alloc | apply Kd.V_drewN | apply Kd.V_drew)); exact Kd.V_mono HO_4.out (fun _ hk => ⟨hk.1.1, ⟨hk.1.2.1, ⟨hk.1.2.2.1, ⟨hk.1.2.2.2, hk.2⟩⟩⟩⟩)⟩, ⟨by (with_reducible repeat (first | apply Kd.N_alloc | apply Kd.N_drewN | apply Kd.N_drew)); exact Kd.N_mono HO_11.out (fun _ hk => ⟨hk.1.1, ⟨hk.1.2.1, ⟨hk.1.2.2, hk.2⟩⟩⟩)⟩, ⟨by (with_reducible repeat (first | apply Kd.R_alloc | apply Kd.R_drewN | apply Kd.R_drew)); exact Kd.R_mono HO_12.out (fun _ hk => ⟨hk.1.1, ⟨hk.1.2, hk.2⟩⟩)⟩, ⟨by (with_reducible repeat (first | apply Kd.R_alloc | apply Kd.R_drewN | apply Kd.R_drew)); exact Kd.R_mono HO277.out (fun _ hk => ⟨hk.1.1, ⟨hk.1.2, hk.2⟩⟩)⟩, ⟨mv HO281.out⟩, ⟨bt⟩⟩
                 ·rw [if_neg c37] at H
                  exact absurd H (by simp)
                ·rw [if_neg c36] at H
                 exact absurd H (by simp)
               ·rw [if_neg c35] at H
                exact absurd H (by simp)
              ·rw [if_neg c34] at H
               have c34b0 : ((wrap64 (x17_3 + 1)) == x14_2) = false := beq_eq_false_iff_ne.mpr c34
               have c34b1 : ((wrap64 (x17_3 + 1)) != x14_2) = true := bne_iff_ne.mpr c34
               have HC41 := Aside0.mk H
               clear H
               go_upto_region 21 with (first | ((with_reducible refine gate_builtin (b := .append) (xs := #[.tmp 75, .tmp 78]) rfl ?_); at_builtin; refine Kd.R_append (Kd.int .i64) (w0 := w) w.heap.size rfl (.tmp 75) (.tmp 78) 23 3 (.int .i64 0) 8 rfl Try.underlying23 info3 rfl (by decide) (by omega) u15 x15_3 (wrap64 (Int.tdiv x17_3 2)) [.int .i64 (wrap64 (Int.tdiv x17_3 2))] (fun k_ => (w.heap.size ≤ k_) ∧ some k_ ≠ (u12 : Value).ownBlock ∧ some k_ ≠ (u16 : Value).ownBlock) (fun _ => False) rfl rfl ?aP (fun _ hk => hk.elim) ?aF ?aO ?aB ?aS ?aL ?_; (case aP => exact rfl); (case aB => exact (bt)); (case aF => exact (fun k_ hk => ⟨(Nat.le_trans (below_size (bt)) hk), Kd.fresh' (Kd.R_lt (mv HO_12.out)) k_ hk, Kd.fresh' (Kd.R_lt (mv HO_16.out)) k_ hk⟩)); (case aO => exact (mv HO_15.out)); (case aS => exact (below_size (bt))); (case aL => have := LMc33.out; omega); intro v276 w42 ho hb hg hat; rw [← Ny275.out] at ho; replace HO_2 := Aside0.mk (Kd.V_afterv (ok := (fun k_ => ((P2_ k_ ∨ P4_ k_) ∨ w.heap.size ≤ k_) ∧ some k_ ≠ (u11 : Value).ownBlock ∧ some k_ ≠ (u12 : Value).ownBlock ∧ some k_ ≠ (u16 : Value).ownBlock)) (by (with_reducible repeat (first | apply Kd.V_alloc | apply Kd.V_drewN | apply Kd.V_drew)); exact Kd.V_mono HO_2.out (fun _ hk => ⟨⟨hk.1, ⟨hk.2.1, ⟨hk.2.2.1, hk.2.2.2.2⟩⟩⟩, hk.2.2.2.1⟩)) hg hat); replace HO_4 := Aside0.mk (Kd.V_afterv (ok := (fun k_ => ((P2_ k_ ∨ P4_ k_) ∨ w.heap.size ≤ k_) ∧ some k_ ≠ (u11 : Value).ownBlock ∧ some k_ ≠ (u12 : Value).ownBlock ∧ some k_ ≠ (u16 : Value).ownBlock)) (by (with_reducible repeat (first | apply Kd.V_alloc | apply Kd.V_drewN | apply Kd.V_drew)); exact Kd.V_mono HO_4.out (fun _ hk => ⟨⟨hk.1, ⟨hk.2.1, ⟨hk.2.2.1, hk.2.2.2.2⟩⟩⟩, hk.2.2.2.1⟩)) hg hat); replace HO_11 := Aside0.mk (Kd.N_afterv (ok := (fun k_ => (w.heap.size ≤ k_) ∧ some k_ ≠ (u12 : Value).ownBlock ∧ some k_ ≠ (u16 : Value).ownBlock)) (by (with_reducible repeat (first | apply Kd.N_alloc | apply Kd.N_drewN | apply Kd.N_drew)); exact Kd.N_mono HO_11.out (fun _ hk => ⟨⟨hk.1, ⟨hk.2.1, hk.2.2.2⟩⟩, hk.2.2.1⟩)) hg hat); replace HO_12 := Aside0.mk (Kd.R_after (ok := (fun k_ => (w.heap.size ≤ k_) ∧ some k_ ≠ (u16 : Value).ownBlock)) (by (with_reducible repeat (first | apply Kd.R_alloc | apply Kd.R_drewN | apply Kd.R_drew)); exact Kd.R_mono HO_12.out (fun _ hk => ⟨⟨hk.1, hk.2.2⟩, hk.2.1⟩)) hg hat); replace HO_16 := Aside0.mk (Kd.R_after (ok := (fun k_ => (w.heap.size ≤ k_) ∧ some k_ ≠ (u12 : Value).ownBlock)) (by (with_reducible repeat (first | apply Kd.R_alloc | apply Kd.R_drewN | apply Kd.R_drew)); exact Kd.R_mono HO_16.out (fun _ hk => ⟨⟨hk.1, hk.2.1⟩, hk.2.2⟩)) hg hat); replace HB := Aside0.mk (hb); have HO277 := Aside0.mk (ho); clear HO_15; clear ho hb hg hat))
               (try simp only [Act.put, List.setIfInBounds_toArray, List.set_cons_zero, List.set_cons_succ])
               go_cut [96] (fun v96 wc => ∃ (kq : Nat) (x96_40 : Bool), v96 = .bool x96_40 ∧ Aside0 (spec_l3Many.j4 kq a0 a1 x2_2 x4_3 x11_3 x12_2 x14_2 y275 x16_3 x17_3 t273 t274 0 x96_40 = some r) ∧ Aside0 (kq ≤ kj28) ∧ Aside0 (Kd.V (Kd.int .i64) 3 wc w.heap.size (fun k_ => ((P2_ k_ ∨ P4_ k_) ∨ w.heap.size ≤ k_) ∧ some k_ ≠ (u11 : Value).ownBlock ∧ some k_ ≠ (u12 : Value).ownBlock ∧ some k_ ≠ (v276 : Value).ownBlock ∧ some k_ ≠ (u16 : Value).ownBlock) (.slice Ao30 x2_2.length co30) x2_2) ∧ Aside0 (Kd.V (Kd.int .i64) 3 wc w.heap.size (fun k_ => ((P2_ k_ ∨ P4_ k_) ∨ w.heap.size ≤ k_) ∧ some k_ ≠ (u11 : Value).ownBlock ∧ some k_ ≠ (u12 : Value).ownBlock ∧ some k_ ≠ (v276 : Value).ownBlock ∧ some k_ ≠ (u16 : Value).ownBlock) u4 x4_3) ∧ Aside0 (Kd.N (Kd.slice 5 (Kd.int .u8)) 22 wc w.heap.size (fun k_ => (w.heap.size ≤ k_) ∧ some k_ ≠ (u12 : Value).ownBlock ∧ some k_ ≠ (v276 : Value).ownBlock ∧ some k_ ≠ (u16 : Value).ownBlock) u11 x11_3) ∧ Aside0 (Kd.R (Kd.int .i64) 3 wc w.heap.size (fun k_ => (w.heap.size ≤ k_) ∧ some k_ ≠ (v276 : Value).ownBlock ∧ some k_ ≠ (u16 : Value).ownBlock) u12 x12_2) ∧ Aside0 (Kd.R (Kd.int .i64) 3 wc w.heap.size (fun k_ => (w.heap.size ≤ k_) ∧ some k_ ≠ (u12 : Value).ownBlock ∧ some k_ ≠ (u16 : Value).ownBlock) v276 y275) ∧ Aside0 (Kd.R (Kd.int .i64) 3 wc w.heap.size (fun k_ => (w.heap.size ≤ k_) ∧ some k_ ≠ (u12 : Value).ownBlock ∧ some k_ ≠ (v276 : Value).ownBlock) u16 x16_3) ∧ Aside0 (Below w.heap.size w wc))
               case first =>
                have H := HC41.out
                clear HC41
                by_cases c43 : t273 < 0
                ·rw [if_pos c43] at H
                 have c43b0 : decide (t273 < 0) = true := decide_eq_true c43
                 clear c43
                 (first | rw [c43b0] | (simp only [i64_w, i32_w]; rw [c43b0]) | skip)
                 have H' := Aside0.mk H
                 clear H
                 go_wp2
                 go_meet
                 case rel => exact ⟨_, (true), (by first | rfl | (simp; done) | (simp [*]; done)), H', ⟨by have := HK1.out; have := HK2.out; have := HK3.out; have := HJ28.out; first | omega | exact Nat.le_refl _⟩, ⟨by (with_reducible repeat (first | apply Kd.V_alloc | apply Kd.V_drewN | apply Kd.V_drew)); exact Kd.V_mono HO_2.out (fun _ hk => ⟨hk.1.1, ⟨hk.1.2.1, ⟨hk.1.2.2.1, ⟨hk.2, hk.1.2.2.2⟩⟩⟩⟩)⟩, ⟨by (with_reducible repeat (first | apply Kd.V_alloc | apply Kd.V_drewN | apply Kd.V_drew)); exact Kd.V_mono HO_4.out (fun _ hk => ⟨hk.1.1, ⟨hk.1.2.1, ⟨hk.1.2.2.1, ⟨hk.2, hk.1.2.2.2⟩⟩⟩⟩)⟩, ⟨by (with_reducible repeat (first | apply Kd.N_alloc | apply Kd.N_drewN | apply Kd.N_drew)); exact Kd.N_mono HO_11.out (fun _ hk => ⟨hk.1.1, ⟨hk.1.2.1, ⟨hk.2, hk.1.2.2⟩⟩⟩)⟩, ⟨by (with_reducible repeat (first | apply Kd.R_alloc | apply Kd.R_drewN | apply Kd.R_drew)); exact Kd.R_mono HO_12.out (fun _ hk => ⟨hk.1.1, ⟨hk.2, hk.1.2⟩⟩)⟩, ⟨mv HO277.out⟩, ⟨by (with_reducible repeat (first | apply Kd.R_alloc | apply Kd.R_drewN | apply Kd.R_drew)); exact Kd.R_mono HO_16.out (fun _ hk => ⟨hk.1.1, ⟨hk.1.2, hk.2⟩⟩)⟩, ⟨bt⟩⟩
                ·rw [if_neg c43] at H
                 have c43b0 : decide (t273 < 0) = false := decide_eq_false c43
                 clear c43
                 (first | rw [c43b0] | (simp only [i64_w, i32_w]; rw [c43b0]) | skip)
                 have H' := Aside0.mk H
                 clear H
                 go_wp2
                 go_meet
                 case rel => exact ⟨_, (decide (t274 < 0)), (by first | rfl | (simp; done) | (simp [*]; done)), H', ⟨by have := HK1.out; have := HK2.out; have := HK3.out; have := HJ28.out; first | omega | exact Nat.le_refl _⟩, ⟨by (with_reducible repeat (first | apply Kd.V_alloc | apply Kd.V_drewN | apply Kd.V_drew)); exact Kd.V_mono HO_2.out (fun _ hk => ⟨hk.1.1, ⟨hk.1.2.1, ⟨hk.1.2.2.1, ⟨hk.2, hk.1.2.2.2⟩⟩⟩⟩)⟩, ⟨by (with_reducible repeat (first | apply Kd.V_alloc | apply Kd.V_drewN | apply Kd.V_drew)); exact Kd.V_mono HO_4.out (fun _ hk => ⟨hk.1.1, ⟨hk.1.2.1, ⟨hk.1.2.2.1, ⟨hk.2, hk.1.2.2.2⟩⟩⟩⟩)⟩, ⟨by (with_reducible repeat (first | apply Kd.N_alloc | apply Kd.N_drewN | apply Kd.N_drew)); exact Kd.N_mono HO_11.out (fun _ hk => ⟨hk.1.1, ⟨hk.1.2.1, ⟨hk.2, hk.1.2.2⟩⟩⟩)⟩, ⟨by (with_reducible repeat (first | apply Kd.R_alloc | apply Kd.R_drewN | apply Kd.R_drew)); exact Kd.R_mono HO_12.out (fun _ hk => ⟨hk.1.1, ⟨hk.2, hk.1.2⟩⟩)⟩, ⟨mv HO277.out⟩, ⟨by (with_reducible repeat (first | apply Kd.R_alloc | apply Kd.R_drewN | apply Kd.R_drew)); exact Kd.R_mono HO_16.out (fun _ hk => ⟨hk.1.1, ⟨hk.1.2, hk.2⟩⟩)⟩, ⟨bt⟩⟩
               case rest =>
                clear HC41
                try clear c1
                try clear c2
                try clear p2
                try clear q2
                try clear hx2
                try clear c3
                try clear c4
                try clear p6
                try clear c8
                try clear c9
                try clear c10
                try clear c10b0
                try clear c11
                try clear c11b0
                try clear c13
                try clear c15
                try clear c21
                try clear c21b0
                try clear c24
                try clear p24
                try clear q24
                try clear hx24
                try clear c25
                try clear p25
                try clear q25
                try clear hx25
                try clear c26
                try clear c26b0
                try clear p27
                try clear q27
                try clear hx27
                try clear c31
                try clear c31b0
                try clear c32
                try clear c33
                try clear c34
                try clear c34b0
                try clear c34b1
                try clear c35
                try clear c35b0
                try clear c36
                try clear c36b0
                try clear c37
                try clear c43
                try clear c43b0
                try clear hx248_0
                try clear hx255_0
                try clear hx278_0
                try clear p2
                try clear p24
                try clear p248
                try clear p25
                try clear p255
                try clear p278
                try clear p6
                try clear q2
                try clear q24
                try clear q248
                try clear q25
                try clear q255
                try clear q278
                obtain ⟨kq, x96_40, rfl, HA, HJ40, HO_2, HO_4, HO_11, HO_12, HO_15, HO_16, HB⟩ := hcut
                cases kq with
                | zero => exact absurd HA.out (by simp [spec_l3Many.j4])
                | succ kj40 =>
                 have H := HA.out
                 clear HA
                 simp only [spec_l3Many.j4] at H
                 have HC44 := Aside0.mk H
                 clear H
                 go_upto_if 96 with (fail)
                 go_cut [4, 20] (fun v4 v20 wc => ∃ (kq : Nat) (x4_43 : List Int) (x20_43 : Int), v20 = .int .i64 x20_43 ∧ Aside0 (spec_l3Many.j5 kq a0 a1 x2_2 x4_43 x11_3 x12_2 x14_2 y275 x16_3 x17_3 t273 t274 x20_43 = some r) ∧ Aside0 (kq ≤ kj40) ∧ Aside0 (Kd.V (Kd.int .i64) 3 wc w.heap.size (fun k_ => ((P2_ k_ ∨ P4_ k_) ∨ w.heap.size ≤ k_) ∧ some k_ ≠ (u11 : Value).ownBlock ∧ some k_ ≠ (u12 : Value).ownBlock ∧ some k_ ≠ (v276 : Value).ownBlock ∧ some k_ ≠ (u16 : Value).ownBlock) (.slice Ao30 x2_2.length co30) x2_2) ∧ Aside0 (Kd.V (Kd.int .i64) 3 wc w.heap.size (fun k_ => ((P2_ k_ ∨ P4_ k_) ∨ w.heap.size ≤ k_) ∧ some k_ ≠ (u11 : Value).ownBlock ∧ some k_ ≠ (u12 : Value).ownBlock ∧ some k_ ≠ (v276 : Value).ownBlock ∧ some k_ ≠ (u16 : Value).ownBlock) v4 x4_43) ∧ Aside0 (Kd.N (Kd.slice 5 (Kd.int .u8)) 22 wc w.heap.size (fun k_ => (w.heap.size ≤ k_) ∧ some k_ ≠ (u12 : Value).ownBlock ∧ some k_ ≠ (v276 : Value).ownBlock ∧ some k_ ≠ (u16 : Value).ownBlock) u11 x11_3) ∧ Aside0 (Kd.R (Kd.int .i64) 3 wc w.heap.size (fun k_ => (w.heap.size ≤ k_) ∧ some k_ ≠ (v276 : Value).ownBlock ∧ some k_ ≠ (u16 : Value).ownBlock) u12 x12_2) ∧ Aside0 (Kd.R (Kd.int .i64) 3 wc w.heap.size (fun k_ => (w.heap.size ≤ k_) ∧ some k_ ≠ (u12 : Value).ownBlock ∧ some k_ ≠ (u16 : Value).ownBlock) v276 y275) ∧ Aside0 (Kd.R (Kd.int .i64) 3 wc w.heap.size (fun k_ => (w.heap.size ≤ k_) ∧ some k_ ≠ (u12 : Value).ownBlock ∧ some k_ ≠ (v276 : Value).ownBlock) u16 x16_3) ∧ Aside0 (Below w.heap.size w wc))
                 case first =>
                  have H := HC44.out
                  clear HC44
                  by_cases c45 : x96_40 = true
                  ·subst c45
                   rw [if_pos rfl] at H
                   by_cases c46 : 0 < (x4_3.length : Int)
                   ·rw [if_pos c46] at H
                    have c46b0 : decide (0 < (x4_3.length : Int)) = true := decide_eq_true c46
                    have c46b1 : decide (0 < x4_3.length) = true := decide_eq_true (by omega)
                    clear c46
                    (first | rw [c46b0] | (simp only [i64_w, i32_w]; rw [c46b0]) | skip)
                    by_cases c47 : 1 ≤ (x4_3.length : Int)
                    ·rw [if_pos c47] at H
                     have c47b0 := eq_true c47
                     have c47b1 : decide (1 ≤ (x4_3.length : Int)) = true := decide_eq_true c47
                     clear c47
                     obtain ⟨y283, hy283⟩ : ∃ y_ : List Int, y_ = (x4_3.drop 1) := ⟨_, rfl⟩
                     replace H : (spec_l3Many.j5 kj40 a0 a1 x2_2 y283 x11_3 x12_2 x14_2 y275 x16_3 x17_3 t273 t274 (rd x4_3 0)) = some r := by first | (rw [hy283]; exact H) | exact H
                     have Ny283 := Aside0.mk hy283
                     clear hy283
                     have H' := Aside0.mk H
                     clear H
                     obtain ⟨Ao48, co48, eo48⟩ := Kd.V_slice HO_4.out
                     subst eo48
                     have p282 : 0 ≤ (0 : Int) := (by omega)
                     have q282 : 0 < (x4_3.length : Int) := of_decide_eq_true asm
                     obtain ⟨ad282, e282, hx282_0⟩ := Kd.at_int (Kd.V_reads' HO_4.out).2.2 0 p282 q282
                     cases e282
                     have qi282 : (0 < x4_3.length) = True := eq_true (by omega)
                     (try rw [show ((0 : Int)).toNat = 0 from rfl] at hx282_0)
                     (try rw [Addr.add_zero'] at hx282_0)
                     replace p282 := eq_true p282
                     replace q282 := eq_true q282
                     have q49 : (1 : Int) ≤ ((x4_3.length : Int) : Int) := of_decide_eq_true asm
                     obtain ⟨i049, hi049, _, hsz49, _⟩ := info_parts info3
                     have hroom49 : x4_3.length ≤ co48 := (Kd.V_reads' HO_4.out).2.1
                     have hC49 : Kd.F (Kd.int .i64) _ _ (some ad282) x4_3.length x4_3 := (Kd.V_at (base := w.heap.size) HO_4.out).2.2
                     have hcut49 := cut_from (P := Try.prog) 23 3 .i64 Try.underlying23 hi049 1 hsz49 (some ad282) x4_3.length co48 1 (by omega) q49
                     have hr49 := Kd.F_cut (m := (1 : Int).toNat) (c := co48) hC49 (by omega) hroom49
                     obtain ⟨A49, hA49⟩ : ∃ A1, A1 = (if co48 = (1 : Int).toNat then (some ad282) else ((some ad282) : Option Addr).map (·.add ((1 : Int).toNat * 1))) := ⟨_, rfl⟩
                     obtain ⟨c49, hc49⟩ : ∃ c1, c1 = co48 - (1 : Int).toNat := ⟨_, rfl⟩
                     have hy49 : y283.length = x4_3.length - (1 : Int).toNat := (by rw [Ny283.out, List.length_drop] <;> omega)
                     rw [show (x4_3).drop (1 : Int).toNat = y283 from Ny283.out.symm] at hr49
                     replace hr49 : Kd.F (Kd.int .i64) _ _ A49 y283.length y283 := (by rw [hA49]; exact hr49)
                     rw [← hy49, ← hA49, ← hc49] at hcut49
                     have HO287 := Aside0.mk (show Kd.V (Kd.int .i64) 3 _ w.heap.size _ (.slice A49 y283.length c49) y283 from Kd.V_mk (by rw [hy49, hc49]; exact Nat.sub_le_sub_right hroom49 _) hr49)
                     have HC287 := Aside0.mk (show y283.length ≤ c49 from by rw [hy49, hc49]; exact Nat.sub_le_sub_right hroom49 _)
                     clear hr49 hC49 hroom49 hi049 hsz49 hc49
                     have KY49 := Aside0.mk hy49
                     have KA49 := Aside0.mk hA49
                     clear hy49 hA49
                     replace q49 := eq_true q49
                     go_wp2
                     go_meet
                     case rel => exact ⟨_, (y283), (rd x4_3 0), (by first | rfl | (simp; done) | (simp [*]; done)), H', ⟨by have := HK1.out; have := HK2.out; have := HK3.out; have := HJ28.out; have := HJ40.out; first | omega | exact Nat.le_refl _⟩, ⟨mv HO_2.out⟩, ⟨mv HO287.out⟩, ⟨mv HO_11.out⟩, ⟨mv HO_12.out⟩, ⟨mv HO_15.out⟩, ⟨mv HO_16.out⟩, ⟨bt⟩⟩
                    ·rw [if_neg c47] at H
                     exact absurd H (by simp)
                   ·rw [if_neg c46] at H
                    exact absurd H (by simp)
                  ·replace c45 := Bool.eq_false_iff.mpr c45
                   subst c45
                   rw [if_neg (show ¬ (false = true) by decide)] at H
                   have H' := Aside0.mk H
                   clear H
                   go_wp2
                   go_meet
                   case rel => exact ⟨_, (x4_3), (0), (by first | rfl | (simp; done) | (simp [*]; done)), H', ⟨by have := HK1.out; have := HK2.out; have := HK3.out; have := HJ28.out; have := HJ40.out; first | omega | exact Nat.le_refl _⟩, ⟨mv HO_2.out⟩, ⟨mv HO_4.out⟩, ⟨mv HO_11.out⟩, ⟨mv HO_12.out⟩, ⟨mv HO_15.out⟩, ⟨mv HO_16.out⟩, ⟨bt⟩⟩
                 case rest =>
                  clear HC44
                  try clear c1
                  try clear c2
                  try clear p2
                  try clear q2
                  try clear hx2
                  try clear qi2
                  try clear c3
                  try clear c4
                  try clear q4
                  try clear p6
                  try clear c8
                  try clear c9
                  try clear c10
                  try clear c10b0
                  try clear c11
                  try clear c11b0
                  try clear c13
                  try clear c15
                  try clear c21
                  try clear c21b0
                  try clear c24
                  try clear p24
                  try clear q24
                  try clear hx24
                  try clear c25
                  try clear p25
                  try clear q25
                  try clear hx25
                  try clear c26
                  try clear c26b0
                  try clear p27
                  try clear q27
                  try clear hx27
                  try clear p28
                  try clear q28
                  try clear hx28
                  try clear qi28
                  try clear c31
                  try clear c31b0
                  try clear c32
                  try clear c33
                  try clear c34
                  try clear c34b0
                  try clear c34b1
                  try clear c35
                  try clear c35b0
                  try clear c36
                  try clear c36b0
                  try clear c37
                  try clear c43
                  try clear c43b0
                  try clear c45
                  try clear c46
                  try clear c46b0
                  try clear c46b1
                  try clear c47
                  try clear c47b0
                  try clear c47b1
                  try clear c49
                  try clear q49
                  try clear hx248_0
                  try clear hx255_0
                  try clear hx278_0
                  try clear hx282_0
                  try clear p2
                  try clear p24
                  try clear p248
                  try clear p25
                  try clear p255
                  try clear p27
                  try clear p278
                  try clear p282
                  try clear p6
                  try clear q2
                  try clear q24
                  try clear q248
                  try clear q25
                  try clear q255
                  try clear q27
                  try clear q278
                  try clear q282
                  try clear q49
                  obtain ⟨kq, x4_43, x20_43, rfl, HA, HJ43, HO_2, HO_4, HO_11, HO_12, HO_15, HO_16, HB⟩ := hcut
                  cases kq with
                  | zero => exact absurd HA.out (by simp [spec_l3Many.j5])
                  | succ kj43 =>
                   have H := HA.out
                   clear HA
                   simp only [spec_l3Many.j5] at H
                   have HC50 := Aside0.mk H
                   clear H
                   go_upto_if 105 with (fail)
                   go_cut [21] (fun v21 wc => ∃ (kq : Nat) (x21_49 : Int), v21 = .int .i64 x21_49 ∧ Aside0 (spec_l3Many.j6 kq a0 a1 x2_2 x4_43 x11_3 x12_2 x14_2 y275 x16_3 x17_3 t274 x21_49 x20_43 = some r) ∧ Aside0 (kq ≤ kj43) ∧ Aside0 (Kd.V (Kd.int .i64) 3 wc w.heap.size (fun k_ => ((P2_ k_ ∨ P4_ k_) ∨ w.heap.size ≤ k_) ∧ some k_ ≠ (u11 : Value).ownBlock ∧ some k_ ≠ (u12 : Value).ownBlock ∧ some k_ ≠ (v276 : Value).ownBlock ∧ some k_ ≠ (u16 : Value).ownBlock) (.slice Ao30 x2_2.length co30) x2_2) ∧ Aside0 (Kd.V (Kd.int .i64) 3 wc w.heap.size (fun k_ => ((P2_ k_ ∨ P4_ k_) ∨ w.heap.size ≤ k_) ∧ some k_ ≠ (u11 : Value).ownBlock ∧ some k_ ≠ (u12 : Value).ownBlock ∧ some k_ ≠ (v276 : Value).ownBlock ∧ some k_ ≠ (u16 : Value).ownBlock) u4 x4_43) ∧ Aside0 (Kd.N (Kd.slice 5 (Kd.int .u8)) 22 wc w.heap.size (fun k_ => (w.heap.size ≤ k_) ∧ some k_ ≠ (u12 : Value).ownBlock ∧ some k_ ≠ (v276 : Value).ownBlock ∧ some k_ ≠ (u16 : Value).ownBlock) u11 x11_3) ∧ Aside0 (Kd.R (Kd.int .i64) 3 wc w.heap.size (fun k_ => (w.heap.size ≤ k_) ∧ some k_ ≠ (v276 : Value).ownBlock ∧ some k_ ≠ (u16 : Value).ownBlock) u12 x12_2) ∧ Aside0 (Kd.R (Kd.int .i64) 3 wc w.heap.size (fun k_ => (w.heap.size ≤ k_) ∧ some k_ ≠ (u12 : Value).ownBlock ∧ some k_ ≠ (u16 : Value).ownBlock) v276 y275) ∧ Aside0 (Kd.R (Kd.int .i64) 3 wc w.heap.size (fun k_ => (w.heap.size ≤ k_) ∧ some k_ ≠ (u12 : Value).ownBlock ∧ some k_ ≠ (v276 : Value).ownBlock) u16 x16_3) ∧ Aside0 (Below w.heap.size w wc))
                   case first =>
                    have H := HC50.out
                    clear HC50
                    by_cases c51 : t273 ≥ 0
                    ·rw [if_pos c51] at H
                     have c51b0 : decide (0 ≤ t273) = true := decide_eq_true c51
                     clear c51
                     (first | rw [c51b0] | (simp only [i64_w, i32_w]; rw [c51b0]) | skip)
                     by_cases c52 : 0 ≤ t273
                     ·rw [if_pos c52] at H
                      have c52b0 : decide (0 ≤ t273) = true := decide_eq_true c52
                      clear c52
                      by_cases c53 : t273 < (x12_2.length : Int)
                      ·rw [if_pos c53] at H
                       have c53b0 : decide (t273 < (x12_2.length : Int)) = true := decide_eq_true c53
                       clear c53
                       have H' := Aside0.mk H
                       clear H
                       obtain ⟨Ao54, co54, eo54⟩ := Kd.R_slice HO_12.out
                       subst eo54
                       have p288 : 0 ≤ (t273 : Int) := of_decide_eq_true asm
                       have q288 : t273 < (x12_2.length : Int) := of_decide_eq_true asm
                       obtain ⟨ad288, e288, hx288_0⟩ := Kd.at_int (Kd.R_reads' HO_12.out).2.2 t273 p288 q288
                       cases e288
                       replace p288 := eq_true p288
                       replace q288 := eq_true q288
                       go_wp2
                       go_meet
                       case rel => exact ⟨_, (rd x12_2 t273), (by first | rfl | (simp; done) | (simp [*]; done)), H', ⟨by have := HK1.out; have := HK2.out; have := HK3.out; have := HJ28.out; have := HJ40.out; have := HJ43.out; first | omega | exact Nat.le_refl _⟩, ⟨mv HO_2.out⟩, ⟨mv HO_4.out⟩, ⟨mv HO_11.out⟩, ⟨mv HO_12.out⟩, ⟨mv HO_15.out⟩, ⟨mv HO_16.out⟩, ⟨bt⟩⟩
                      ·rw [if_neg c53] at H
                       exact absurd H (by simp)
                     ·rw [if_neg c52] at H
                      exact absurd H (by simp)
                    ·rw [if_neg c51] at H
                     have c51b0 : decide (0 ≤ t273) = false := decide_eq_false c51
                     clear c51
                     (first | rw [c51b0] | (simp only [i64_w, i32_w]; rw [c51b0]) | skip)
                     have H' := Aside0.mk H
                     clear H
                     go_wp2
                     go_meet
                     case rel => exact ⟨_, (x20_43), (by first | rfl | (simp; done) | (simp [*]; done)), H', ⟨by have := HK1.out; have := HK2.out; have := HK3.out; have := HJ28.out; have := HJ40.out; have := HJ43.out; first | omega | exact Nat.le_refl _⟩, ⟨mv HO_2.out⟩, ⟨mv HO_4.out⟩, ⟨mv HO_11.out⟩, ⟨mv HO_12.out⟩, ⟨mv HO_15.out⟩, ⟨mv HO_16.out⟩, ⟨bt⟩⟩
                   case rest =>
                    clear HC50
                    try clear c1
                    try clear c2
                    try clear p2
                    try clear q2
                    try clear hx2
                    try clear qi2
                    try clear c3
                    try clear c4
                    try clear q4
                    try clear c5
                    try clear p6
                    try clear c8
                    try clear c9
                    try clear c10
                    try clear c10b0
                    try clear c11
                    try clear c11b0
                    try clear c13
                    try clear c15
                    try clear c21
                    try clear c21b0
                    try clear c24
                    try clear p24
                    try clear q24
                    try clear hx24
                    try clear c25
                    try clear p25
                    try clear q25
                    try clear hx25
                    try clear c26
                    try clear c26b0
                    try clear p27
                    try clear q27
                    try clear hx27
                    try clear p28
                    try clear q28
                    try clear hx28
                    try clear qi28
                    try clear c31
                    try clear c31b0
                    try clear c32
                    try clear c33
                    try clear c34
                    try clear c34b0
                    try clear c34b1
                    try clear c35
                    try clear c35b0
                    try clear c36
                    try clear c36b0
                    try clear c37
                    try clear c43
                    try clear c43b0
                    try clear c45
                    try clear c46
                    try clear c46b0
                    try clear c46b1
                    try clear c47
                    try clear c47b0
                    try clear c47b1
                    try clear c49
                    try clear q49
                    try clear c51
                    try clear c51b0
                    try clear c52
                    try clear c52b0
                    try clear c53
                    try clear c53b0
                    try clear hx248_0
                    try clear hx255_0
                    try clear hx278_0
                    try clear hx282_0
                    try clear hx288_0
                    try clear p2
                    try clear p24
                    try clear p248
                    try clear p25
                    try clear p255
                    try clear p27
                    try clear p278
                    try clear p28
                    try clear p282
                    try clear p288
                    try clear p6
                    try clear q2
                    try clear q24
                    try clear q248
                    try clear q25
                    try clear q255
                    try clear q27
                    try clear q278
                    try clear q28
                    try clear q282
                    try clear q288
                    try clear q4
                    try clear q49
                    obtain ⟨kq, x21_49, rfl, HA, HJ49, HO_2, HO_4, HO_11, HO_12, HO_15, HO_16, HB⟩ := hcut
                    cases kq with
                    | zero => exact absurd HA.out (by simp [spec_l3Many.j6])
                    | succ kj49 =>
                     have H := HA.out
                     clear HA
                     simp only [spec_l3Many.j6] at H
                     by_cases c55 : t274 ≥ 0
                     ·rw [if_pos c55] at H
                      have c55b0 : decide (0 ≤ t274) = true := decide_eq_true c55
                      clear c55
                      by_cases c56 : 0 ≤ t274
                      ·rw [if_pos c56] at H
                       have c56b0 : decide (0 ≤ t274) = true := decide_eq_true c56
                       clear c56
                       by_cases c57 : t274 < (x12_2.length : Int)
                       ·rw [if_pos c57] at H
                        have c57b0 : decide (t274 < (x12_2.length : Int)) = true := decide_eq_true c57
                        clear c57
                        replace H := Option.bind_eq_some_iff.mp H
                        obtain ⟨t290, A580, H⟩ := H
                        (try dsimp -simprocs only at H)
                        have A58 := Aside0.mk A580
                        clear A580
                        by_cases c59 : x11_3.length < 5864062014805
                        ·rw [if_pos c59] at H
                         have LMc59 := Aside0.mk c59
                         clear c59
                         obtain ⟨y293, hy293⟩ : ∃ y_ : List (List Int), y_ = (x11_3 ++ [t290]) := ⟨_, rfl⟩
                         replace H : ((spec_Digest.f kj49 a0 t290).bind fun t296 => (if x16_3.length < 17592186044416 then (spec_l3Many.l2 kj49 a0 a1 x2_2 x4_43 y293 x12_2 x14_2 y275 (x16_3 ++ [t296]) (wrap64 (x17_3 + 2))) else (none))) = some r := by first | (rw [hy293]; exact H) | exact H
                         have Ny293 := Aside0.mk hy293
                         clear hy293
                         replace H := Option.bind_eq_some_iff.mp H
                         obtain ⟨t296, A600, H⟩ := H
                         (try dsimp -simprocs only at H)
                         have A60 := Aside0.mk A600
                         clear A600
                         by_cases c61 : x16_3.length < 17592186044416
                         ·rw [if_pos c61] at H
                          have LMc61 := Aside0.mk c61
                          clear c61
                          obtain ⟨y297, hy297⟩ : ∃ y_ : List Int, y_ = (x16_3 ++ [t296]) := ⟨_, rfl⟩
                          replace H : (spec_l3Many.l2 kj49 a0 a1 x2_2 x4_43 y293 x12_2 x14_2 y275 y297 (wrap64 (x17_3 + 2))) = some r := by first | (rw [hy297]; exact H) | exact H
                          have Ny297 := Aside0.mk hy297
                          clear hy297
                          have H' := Aside0.mk H
                          clear H
                          obtain ⟨Ao62, co62, eo62⟩ := Kd.R_slice HO_12.out
                          subst eo62
                          have p289 : 0 ≤ (t274 : Int) := of_decide_eq_true asm
                          have q289 : t274 < (x12_2.length : Int) := of_decide_eq_true asm
                          obtain ⟨ad289, e289, hx289_0⟩ := Kd.at_int (Kd.R_reads' HO_12.out).2.2 t274 p289 q289
                          cases e289
                          replace p289 := eq_true p289
                          replace q289 := eq_true q289
                          go_wp2_with (first | ((with_reducible refine gate_callee (f := 115) rfl ?_); refine goesL_ (some 118) rfl rfl Try.func115 (by kernel_rfl) rfl #[.int .i64 x21_49, .int .i64 (rd x12_2 t274)] rfl av ?_; (with_reducible refine (spec_l2Node.calls kj49 x21_49 (rd x12_2 t274) t290 _ A58.out).mono ?_); rintro e w63 ⟨v291, rfl, ho0, hb⟩; refine ⟨_, rfl, ?_⟩; replace HO_2 := Aside0.mk (Kd.V_elder' (mv HO_2.out) (Kd.R_base ho0) hb); replace HO_4 := Aside0.mk (Kd.V_elder' (mv HO_4.out) (Kd.R_base ho0) hb); replace HO_11 := Aside0.mk (Kd.N_elder' (mv HO_11.out) (Kd.R_base ho0) hb); replace HO_12 := Aside0.mk (Kd.R_below (mv HO_12.out) hb); replace HO_15 := Aside0.mk (Kd.R_below (mv HO_15.out) hb); replace HO_16 := Aside0.mk (Kd.R_below (mv HO_16.out) hb); have HO292 := Aside0.mk (Kd.R_lower (Kd.R_newM (M := fun k_ => (w.heap.size ≤ k_)) ho0 (below_size (bt)) (fun k_ h_ => h_)) (below_size (bt))); replace HB := Aside0.mk (below_step (bt) hb); (try clear hb); (try clear hb2); (try clear hk); (try clear hi); (try clear ho0); obtain ⟨Ao65, co65, eo65⟩ := Kd.R_slice HO292.out; subst eo65) | ((with_reducible refine gate_builtin (b := .append) (xs := #[.tmp 119, .tmp 121]) rfl ?_); at_builtin; refine Kd.N_append (Kd.slice 5 (Kd.int .u8)) (w0 := w) w.heap.size rfl (.tmp 119) (.tmp 121) 30 22 (.slice none 0 0) 24 rfl Try.underlying30 info22 rfl (by decide) (by omega) u11 x11_3 t290 [.slice Ao65 t290.length co65] (fun k_ => (w.heap.size ≤ k_) ∧ some k_ ≠ (.slice (some ad289) x12_2.length co62 : Value).ownBlock ∧ some k_ ≠ (v276 : Value).ownBlock ∧ some k_ ≠ (u16 : Value).ownBlock) (fun k_ => ((fun k_ => (w.heap.size ≤ k_) ∧ some k_ ≠ (.slice (some ad289) x12_2.length co62 : Value).ownBlock ∧ some k_ ≠ (v276 : Value).ownBlock ∧ some k_ ≠ (u16 : Value).ownBlock)) k_ ∧ some k_ ≠ (u11 : Value).ownBlock) rfl rfl ?aP (fun _ hk => hk) ?aF ?aO ?aB ?aS ?aL ?_; (case aP => exact (Kd.FK_slice_mk (Kd.R_reads' (Kd.R_mono (ok' := (fun k_ => ((fun k_ => (w.heap.size ≤ k_) ∧ some k_ ≠ (.slice (some ad289) x12_2.length co62 : Value).ownBlock ∧ some k_ ≠ (v276 : Value).ownBlock ∧ some k_ ≠ (u16 : Value).ownBlock)) k_ ∧ some k_ ≠ (u11 : Value).ownBlock)) (Kd.R_apart' (Kd.R_apart' (Kd.R_apart' (Kd.R_apart' (HO292.out) (Kd.R_typed HO_12.out) (by decide)) (Kd.R_typed HO_15.out) (by decide)) (Kd.R_typed HO_16.out) (by decide)) (Kd.N_typed HO_11.out) (by decide)) (fun k_ hk => ⟨⟨(hk.1.1.1.1.1), ⟨hk.1.1.1.2, ⟨hk.1.1.2, hk.1.2⟩⟩⟩, hk.2⟩))).2.1 (Kd.R_F (Kd.R_mono (ok' := (fun k_ => ((fun k_ => (w.heap.size ≤ k_) ∧ some k_ ≠ (.slice (some ad289) x12_2.length co62 : Value).ownBlock ∧ some k_ ≠ (v276 : Value).ownBlock ∧ some k_ ≠ (u16 : Value).ownBlock)) k_ ∧ some k_ ≠ (u11 : Value).ownBlock)) (Kd.R_apart' (Kd.R_apart' (Kd.R_apart' (Kd.R_apart' (HO292.out) (Kd.R_typed HO_12.out) (by decide)) (Kd.R_typed HO_15.out) (by decide)) (Kd.R_typed HO_16.out) (by decide)) (Kd.N_typed HO_11.out) (by decide)) (fun k_ hk => ⟨⟨(hk.1.1.1.1.1), ⟨hk.1.1.1.2, ⟨hk.1.1.2, hk.1.2⟩⟩⟩, hk.2⟩))))); (case aB => exact (bt)); (case aF => exact (fun k_ hk => ⟨(Nat.le_trans (below_size (bt)) hk), Kd.fresh' (Kd.R_lt (mv HO_12.out)) k_ hk, Kd.fresh' (Kd.R_lt (mv HO_15.out)) k_ hk, Kd.fresh' (Kd.R_lt (mv HO_16.out)) k_ hk⟩)); (case aO => exact (by (with_reducible repeat (first | apply Kd.N_alloc | apply Kd.N_drewN | apply Kd.N_drew)); exact Kd.N_mono HO_11.out (fun _ hk => ⟨hk.1.1, ⟨hk.1.2.1, ⟨hk.1.2.2.1, hk.1.2.2.2⟩⟩⟩))); (case aS => exact (below_size (bt))); (case aL => have := LMc59.out; omega); intro v294 w64 ho hb hg hat; rw [← Ny293.out] at ho; have n0_ := Aside0.mk (Kd.V_afterv (ok := (fun k_ => ((P2_ k_ ∨ P4_ k_) ∨ w.heap.size ≤ k_) ∧ some k_ ≠ (.slice (some ad289) x12_2.length co62 : Value).ownBlock ∧ some k_ ≠ (v276 : Value).ownBlock ∧ some k_ ≠ (u16 : Value).ownBlock ∧ some k_ ≠ (.slice Ao65 t290.length co65 : Value).ownBlock)) (by (with_reducible repeat (first | apply Kd.V_alloc | apply Kd.V_drewN | apply Kd.V_drew)); exact Kd.V_mono HO_2.out (fun _ hk => ⟨⟨hk.1.1, ⟨hk.1.2.2.1, ⟨hk.1.2.2.2.1, ⟨hk.1.2.2.2.2, hk.2⟩⟩⟩⟩, hk.1.2.1⟩)) hg hat); have n1_ := Aside0.mk (Kd.V_afterv (ok := (fun k_ => ((P2_ k_ ∨ P4_ k_) ∨ w.heap.size ≤ k_) ∧ some k_ ≠ (.slice (some ad289) x12_2.length co62 : Value).ownBlock ∧ some k_ ≠ (v276 : Value).ownBlock ∧ some k_ ≠ (u16 : Value).ownBlock ∧ some k_ ≠ (.slice Ao65 t290.length co65 : Value).ownBlock)) (by (with_reducible repeat (first | apply Kd.V_alloc | apply Kd.V_drewN | apply Kd.V_drew)); exact Kd.V_mono HO_4.out (fun _ hk => ⟨⟨hk.1.1, ⟨hk.1.2.2.1, ⟨hk.1.2.2.2.1, ⟨hk.1.2.2.2.2, hk.2⟩⟩⟩⟩, hk.1.2.1⟩)) hg hat); have n2_ := Aside0.mk (Kd.R_over' (mv HO_12.out) (Kd.N_typed (mv HO_11.out)) (by decide) hg); have n3_ := Aside0.mk (Kd.R_over' (mv HO_15.out) (Kd.N_typed (mv HO_11.out)) (by decide) hg); have n4_ := Aside0.mk (Kd.R_over' (mv HO_16.out) (Kd.N_typed (mv HO_11.out)) (by decide) hg); have n5_ := Aside0.mk (hb); have n6_ := Aside0.mk (ho); have nm0_ := Aside0.mk (Kd.R_over' (mv HO292.out) (Kd.N_typed (mv HO_11.out)) (by decide) hg); clear HO_2; clear HO_4; clear HO_12; clear HO_15; clear HO_16; clear HB; clear HO_11; clear HO292; have HO_2 := n0_; have HO_4 := n1_; have HO_12 := n2_; have HO_15 := n3_; have HO_16 := n4_; have HB := n5_; have HO295 := n6_; clear n0_ n1_ n2_ n3_ n4_ n5_ n6_; have HO292 := nm0_; clear nm0_; clear ho hb hg hat) | ((with_reducible refine gate_callee (f := 77) rfl ?_); refine goesL_ (some 126) rfl rfl Try.func77 (by kernel_rfl) rfl #[.int .i64 a0, .slice Ao65 t290.length co65] rfl av ?_; (with_reducible refine (spec_Digest.calls kj49 a0 _ _ t290 t296 _ ?side1 ?side2 A60.out).mono ?_); (case side1 => exact cv ((Kd.R_reads' HO292.out).2.2)); (case side2 => exact (Kd.R_reads' HO292.out).2.1); rintro e w66 ⟨rfl, hb⟩; refine ⟨_, rfl, ?_⟩; replace HO_2 := Aside0.mk (Kd.V_below (mv HO_2.out) hb); replace HO_4 := Aside0.mk (Kd.V_below (mv HO_4.out) hb); replace HO_12 := Aside0.mk (Kd.R_below (mv HO_12.out) hb); replace HO_15 := Aside0.mk (Kd.R_below (mv HO_15.out) hb); replace HO_16 := Aside0.mk (Kd.R_below (mv HO_16.out) hb); replace HO295 := Aside0.mk (Kd.N_below (mv HO295.out) hb); replace HB := Aside0.mk (below_step (bt) hb); (try clear hb); (try clear hb2); (try clear hk); (try clear hi)) | ((with_reducible refine gate_builtin (b := .append) (xs := #[.tmp 123, .tmp 127]) rfl ?_); at_builtin; refine Kd.R_append (Kd.int .i64) (w0 := w) w.heap.size rfl (.tmp 123) (.tmp 127) 23 3 (.int .i64 0) 8 rfl Try.underlying23 info3 rfl (by decide) (by omega) u16 x16_3 t296 [.int .i64 t296] (fun k_ => (w.heap.size ≤ k_) ∧ some k_ ≠ (.slice (some ad289) x12_2.length co62 : Value).ownBlock ∧ some k_ ≠ (v276 : Value).ownBlock) (fun _ => False) rfl rfl ?aP (fun _ hk => hk.elim) ?aF ?aO ?aB ?aS ?aL ?_; (case aP => exact rfl); (case aB => exact (bt)); (case aF => exact (fun k_ hk => ⟨(Nat.le_trans (below_size (bt)) hk), Kd.fresh' (Kd.R_lt (mv HO_12.out)) k_ hk, Kd.fresh' (Kd.R_lt (mv HO_15.out)) k_ hk⟩)); (case aO => exact (mv HO_16.out)); (case aS => exact (below_size (bt))); (case aL => have := LMc61.out; omega); intro v298 w67 ho hb hg hat; rw [← Ny297.out] at ho; replace HO_2 := Aside0.mk (Kd.V_afterv (ok := (fun k_ => ((P2_ k_ ∨ P4_ k_) ∨ w.heap.size ≤ k_) ∧ some k_ ≠ (.slice (some ad289) x12_2.length co62 : Value).ownBlock ∧ some k_ ≠ (v276 : Value).ownBlock ∧ some k_ ≠ (v294 : Value).ownBlock)) (by (with_reducible repeat (first | apply Kd.V_alloc | apply Kd.V_drewN | apply Kd.V_drew)); exact Kd.V_mono HO_2.out (fun _ hk => ⟨⟨hk.1.1, ⟨hk.1.2.1, ⟨hk.1.2.2.1, hk.2⟩⟩⟩, hk.1.2.2.2.1⟩)) hg hat); replace HO_4 := Aside0.mk (Kd.V_afterv (ok := (fun k_ => ((P2_ k_ ∨ P4_ k_) ∨ w.heap.size ≤ k_) ∧ some k_ ≠ (.slice (some ad289) x12_2.length co62 : Value).ownBlock ∧ some k_ ≠ (v276 : Value).ownBlock ∧ some k_ ≠ (v294 : Value).ownBlock)) (by (with_reducible repeat (first | apply Kd.V_alloc | apply Kd.V_drewN | apply Kd.V_drew)); exact Kd.V_mono HO_4.out (fun _ hk => ⟨⟨hk.1.1, ⟨hk.1.2.1, ⟨hk.1.2.2.1, hk.2⟩⟩⟩, hk.1.2.2.2.1⟩)) hg hat); replace HO_12 := Aside0.mk (Kd.R_after (ok := (fun k_ => (w.heap.size ≤ k_) ∧ some k_ ≠ (v276 : Value).ownBlock)) (by (with_reducible repeat (first | apply Kd.R_alloc | apply Kd.R_drewN | apply Kd.R_drew)); exact Kd.R_mono HO_12.out (fun _ hk => ⟨⟨hk.1, hk.2.1⟩, hk.2.2⟩)) hg hat); replace HO_15 := Aside0.mk (Kd.R_after (ok := (fun k_ => (w.heap.size ≤ k_) ∧ some k_ ≠ (.slice (some ad289) x12_2.length co62 : Value).ownBlock)) (by (with_reducible repeat (first | apply Kd.R_alloc | apply Kd.R_drewN | apply Kd.R_drew)); exact Kd.R_mono HO_15.out (fun _ hk => ⟨⟨hk.1, hk.2.1⟩, hk.2.2⟩)) hg hat); replace HO295 := Aside0.mk (Kd.N_afterv (ok := (fun k_ => (w.heap.size ≤ k_) ∧ some k_ ≠ (.slice (some ad289) x12_2.length co62 : Value).ownBlock ∧ some k_ ≠ (v276 : Value).ownBlock)) (by (with_reducible repeat (first | apply Kd.N_alloc | apply Kd.N_drewN | apply Kd.N_drew)); exact Kd.N_mono HO295.out (fun _ hk => ⟨⟨hk.1, ⟨hk.2.1, hk.2.2.1⟩⟩, hk.2.2.2⟩)) hg hat); replace HB := Aside0.mk (hb); have HO299 := Aside0.mk (ho); clear HO_16; clear ho hb hg hat))
                          go_roundg kj49
                          case measure => have := HK1.out; have := HK2.out; have := HK3.out; have := HJ28.out; have := HJ40.out; have := HJ43.out; have := HJ49.out; omega
                          case rel => exact ⟨(x4_43), (y293), (y275), (y297), (wrap64 (x17_3 + 2)), (by first | rfl | (simp; done) | (simp [*]; done)), H', ⟨by have := HK1.out; have := HK2.out; have := HK3.out; have := HJ28.out; have := HJ40.out; have := HJ43.out; have := HJ49.out; omega⟩, ⟨by (with_reducible repeat (first | apply Kd.V_alloc | apply Kd.V_drewN | apply Kd.V_drew)); exact Kd.V_mono HO_2.out (fun _ hk => ⟨hk.1.1, ⟨hk.1.2.2.2, ⟨hk.1.2.1, ⟨hk.1.2.2.1, hk.2⟩⟩⟩⟩)⟩, ⟨by (with_reducible repeat (first | apply Kd.V_alloc | apply Kd.V_drewN | apply Kd.V_drew)); exact Kd.V_mono HO_4.out (fun _ hk => ⟨hk.1.1, ⟨hk.1.2.2.2, ⟨hk.1.2.1, ⟨hk.1.2.2.1, hk.2⟩⟩⟩⟩)⟩, ⟨by (with_reducible repeat (first | apply Kd.N_alloc | apply Kd.N_drewN | apply Kd.N_drew)); exact Kd.N_mono HO295.out (fun _ hk => ⟨hk.1.1, ⟨hk.1.2.1, ⟨hk.1.2.2, hk.2⟩⟩⟩)⟩, ⟨by (with_reducible repeat (first | apply Kd.R_alloc | apply Kd.R_drewN | apply Kd.R_drew)); exact Kd.R_mono HO_12.out (fun _ hk => ⟨hk.1.1, ⟨hk.1.2, hk.2⟩⟩)⟩, ⟨by (with_reducible repeat (first | apply Kd.R_alloc | apply Kd.R_drewN | apply Kd.R_drew)); exact Kd.R_mono HO_15.out (fun _ hk => ⟨hk.1.1, ⟨hk.1.2, hk.2⟩⟩)⟩, ⟨mv HO299.out⟩, ⟨bt⟩⟩
                         ·rw [if_neg c61] at H
                          exact absurd H (by simp)
                        ·rw [if_neg c59] at H
                         exact absurd H (by simp)
                       ·rw [if_neg c57] at H
                        exact absurd H (by simp)
                      ·rw [if_neg c56] at H
                       exact absurd H (by simp)
                     ·rw [if_neg c55] at H
                      have c55b0 : decide (0 ≤ t274) = false := decide_eq_false c55
                      clear c55
                      replace H := Option.bind_eq_some_iff.mp H
                      obtain ⟨t300, A680, H⟩ := H
                      (try dsimp -simprocs only at H)
                      have A68 := Aside0.mk A680
                      clear A680
                      by_cases c69 : x11_3.length < 5864062014805
                      ·rw [if_pos c69] at H
                       have LMc69 := Aside0.mk c69
                       clear c69
                       obtain ⟨y303, hy303⟩ : ∃ y_ : List (List Int), y_ = (x11_3 ++ [t300]) := ⟨_, rfl⟩
                       replace H : ((spec_Digest.f kj49 a0 t300).bind fun t306 => (if x16_3.length < 17592186044416 then (spec_l3Many.l2 kj49 a0 a1 x2_2 x4_43 y303 x12_2 x14_2 y275 (x16_3 ++ [t306]) (wrap64 (x17_3 + 2))) else (none))) = some r := by first | (rw [hy303]; exact H) | exact H
                       have Ny303 := Aside0.mk hy303
                       clear hy303
                       replace H := Option.bind_eq_some_iff.mp H
                       obtain ⟨t306, A700, H⟩ := H
                       (try dsimp -simprocs only at H)
                       have A70 := Aside0.mk A700
                       clear A700
                       by_cases c71 : x16_3.length < 17592186044416
                       ·rw [if_pos c71] at H
                        have LMc71 := Aside0.mk c71
                        clear c71
                        obtain ⟨y307, hy307⟩ : ∃ y_ : List Int, y_ = (x16_3 ++ [t306]) := ⟨_, rfl⟩
                        replace H : (spec_l3Many.l2 kj49 a0 a1 x2_2 x4_43 y303 x12_2 x14_2 y275 y307 (wrap64 (x17_3 + 2))) = some r := by first | (rw [hy307]; exact H) | exact H
                        have Ny307 := Aside0.mk hy307
                        clear hy307
                        have H' := Aside0.mk H
                        clear H
                        go_wp2_with (first | ((with_reducible refine gate_callee (f := 115) rfl ?_); refine goesL_ (some 118) rfl rfl Try.func115 (by kernel_rfl) rfl #[.int .i64 x21_49, .int .i64 x20_43] rfl av ?_; (with_reducible refine (spec_l2Node.calls kj49 x21_49 x20_43 t300 _ A68.out).mono ?_); rintro e w72 ⟨v301, rfl, ho0, hb⟩; refine ⟨_, rfl, ?_⟩; replace HO_2 := Aside0.mk (Kd.V_elder' (mv HO_2.out) (Kd.R_base ho0) hb); replace HO_4 := Aside0.mk (Kd.V_elder' (mv HO_4.out) (Kd.R_base ho0) hb); replace HO_11 := Aside0.mk (Kd.N_elder' (mv HO_11.out) (Kd.R_base ho0) hb); replace HO_12 := Aside0.mk (Kd.R_below (mv HO_12.out) hb); replace HO_15 := Aside0.mk (Kd.R_below (mv HO_15.out) hb); replace HO_16 := Aside0.mk (Kd.R_below (mv HO_16.out) hb); have HO302 := Aside0.mk (Kd.R_lower (Kd.R_newM (M := fun k_ => (w.heap.size ≤ k_)) ho0 (below_size (bt)) (fun k_ h_ => h_)) (below_size (bt))); replace HB := Aside0.mk (below_step (bt) hb); (try clear hb); (try clear hb2); (try clear hk); (try clear hi); (try clear ho0); obtain ⟨Ao74, co74, eo74⟩ := Kd.R_slice HO302.out; subst eo74) | ((with_reducible refine gate_builtin (b := .append) (xs := #[.tmp 119, .tmp 121]) rfl ?_); at_builtin; refine Kd.N_append (Kd.slice 5 (Kd.int .u8)) (w0 := w) w.heap.size rfl (.tmp 119) (.tmp 121) 30 22 (.slice none 0 0) 24 rfl Try.underlying30 info22 rfl (by decide) (by omega) u11 x11_3 t300 [.slice Ao74 t300.length co74] (fun k_ => (w.heap.size ≤ k_) ∧ some k_ ≠ (u12 : Value).ownBlock ∧ some k_ ≠ (v276 : Value).ownBlock ∧ some k_ ≠ (u16 : Value).ownBlock) (fun k_ => ((fun k_ => (w.heap.size ≤ k_) ∧ some k_ ≠ (u12 : Value).ownBlock ∧ some k_ ≠ (v276 : Value).ownBlock ∧ some k_ ≠ (u16 : Value).ownBlock)) k_ ∧ some k_ ≠ (u11 : Value).ownBlock) rfl rfl ?aP (fun _ hk => hk) ?aF ?aO ?aB ?aS ?aL ?_; (case aP => exact (Kd.FK_slice_mk (Kd.R_reads' (Kd.R_mono (ok' := (fun k_ => ((fun k_ => (w.heap.size ≤ k_) ∧ some k_ ≠ (u12 : Value).ownBlock ∧ some k_ ≠ (v276 : Value).ownBlock ∧ some k_ ≠ (u16 : Value).ownBlock)) k_ ∧ some k_ ≠ (u11 : Value).ownBlock)) (Kd.R_apart' (Kd.R_apart' (Kd.R_apart' (Kd.R_apart' (HO302.out) (Kd.R_typed HO_12.out) (by decide)) (Kd.R_typed HO_15.out) (by decide)) (Kd.R_typed HO_16.out) (by decide)) (Kd.N_typed HO_11.out) (by decide)) (fun k_ hk => ⟨⟨(hk.1.1.1.1.1), ⟨hk.1.1.1.2, ⟨hk.1.1.2, hk.1.2⟩⟩⟩, hk.2⟩))).2.1 (Kd.R_F (Kd.R_mono (ok' := (fun k_ => ((fun k_ => (w.heap.size ≤ k_) ∧ some k_ ≠ (u12 : Value).ownBlock ∧ some k_ ≠ (v276 : Value).ownBlock ∧ some k_ ≠ (u16 : Value).ownBlock)) k_ ∧ some k_ ≠ (u11 : Value).ownBlock)) (Kd.R_apart' (Kd.R_apart' (Kd.R_apart' (Kd.R_apart' (HO302.out) (Kd.R_typed HO_12.out) (by decide)) (Kd.R_typed HO_15.out) (by decide)) (Kd.R_typed HO_16.out) (by decide)) (Kd.N_typed HO_11.out) (by decide)) (fun k_ hk => ⟨⟨(hk.1.1.1.1.1), ⟨hk.1.1.1.2, ⟨hk.1.1.2, hk.1.2⟩⟩⟩, hk.2⟩))))); (case aB => exact (bt)); (case aF => exact (fun k_ hk => ⟨(Nat.le_trans (below_size (bt)) hk), Kd.fresh' (Kd.R_lt (mv HO_12.out)) k_ hk, Kd.fresh' (Kd.R_lt (mv HO_15.out)) k_ hk, Kd.fresh' (Kd.R_lt (mv HO_16.out)) k_ hk⟩)); (case aO => exact (by (with_reducible repeat (first | apply Kd.N_alloc | apply Kd.N_drewN | apply Kd.N_drew)); exact Kd.N_mono HO_11.out (fun _ hk => ⟨hk.1.1, ⟨hk.1.2.1, ⟨hk.1.2.2.1, hk.1.2.2.2⟩⟩⟩))); (case aS => exact (below_size (bt))); (case aL => have := LMc69.out; omega); intro v304 w73 ho hb hg hat; rw [← Ny303.out] at ho; have n0_ := Aside0.mk (Kd.V_afterv (ok := (fun k_ => ((P2_ k_ ∨ P4_ k_) ∨ w.heap.size ≤ k_) ∧ some k_ ≠ (u12 : Value).ownBlock ∧ some k_ ≠ (v276 : Value).ownBlock ∧ some k_ ≠ (u16 : Value).ownBlock ∧ some k_ ≠ (.slice Ao74 t300.length co74 : Value).ownBlock)) (by (with_reducible repeat (first | apply Kd.V_alloc | apply Kd.V_drewN | apply Kd.V_drew)); exact Kd.V_mono HO_2.out (fun _ hk => ⟨⟨hk.1.1, ⟨hk.1.2.2.1, ⟨hk.1.2.2.2.1, ⟨hk.1.2.2.2.2, hk.2⟩⟩⟩⟩, hk.1.2.1⟩)) hg hat); have n1_ := Aside0.mk (Kd.V_afterv (ok := (fun k_ => ((P2_ k_ ∨ P4_ k_) ∨ w.heap.size ≤ k_) ∧ some k_ ≠ (u12 : Value).ownBlock ∧ some k_ ≠ (v276 : Value).ownBlock ∧ some k_ ≠ (u16 : Value).ownBlock ∧ some k_ ≠ (.slice Ao74 t300.length co74 : Value).ownBlock)) (by (with_reducible repeat (first | apply Kd.V_alloc | apply Kd.V_drewN | apply Kd.V_drew)); exact Kd.V_mono HO_4.out (fun _ hk => ⟨⟨hk.1.1, ⟨hk.1.2.2.1, ⟨hk.1.2.2.2.1, ⟨hk.1.2.2.2.2, hk.2⟩⟩⟩⟩, hk.1.2.1⟩)) hg hat); have n2_ := Aside0.mk (Kd.R_over' (mv HO_12.out) (Kd.N_typed (mv HO_11.out)) (by decide) hg); have n3_ := Aside0.mk (Kd.R_over' (mv HO_15.out) (Kd.N_typed (mv HO_11.out)) (by decide) hg); have n4_ := Aside0.mk (Kd.R_over' (mv HO_16.out) (Kd.N_typed (mv HO_11.out)) (by decide) hg); have n5_ := Aside0.mk (hb); have n6_ := Aside0.mk (ho); have nm0_ := Aside0.mk (Kd.R_over' (mv HO302.out) (Kd.N_typed (mv HO_11.out)) (by decide) hg); clear HO_2; clear HO_4; clear HO_12; clear HO_15; clear HO_16; clear HB; clear HO_11; clear HO302; have HO_2 := n0_; have HO_4 := n1_; have HO_12 := n2_; have HO_15 := n3_; have HO_16 := n4_; have HB := n5_; have HO305 := n6_; clear n0_ n1_ n2_ n3_ n4_ n5_ n6_; have HO302 := nm0_; clear nm0_; clear ho hb hg hat) | ((with_reducible refine gate_callee (f := 77) rfl ?_); refine goesL_ (some 126) rfl rfl Try.func77 (by kernel_rfl) rfl #[.int .i64 a0, .slice Ao74 t300.length co74] rfl av ?_; (with_reducible refine (spec_Digest.calls kj49 a0 _ _ t300 t306 _ ?side1 ?side2 A70.out).mono ?_); (case side1 => exact cv ((Kd.R_reads' HO302.out).2.2)); (case side2 => exact (Kd.R_reads' HO302.out).2.1); rintro e w75 ⟨rfl, hb⟩; refine ⟨_, rfl, ?_⟩; replace HO_2 := Aside0.mk (Kd.V_below (mv HO_2.out) hb); replace HO_4 := Aside0.mk (Kd.V_below (mv HO_4.out) hb); replace HO_12 := Aside0.mk (Kd.R_below (mv HO_12.out) hb); replace HO_15 := Aside0.mk (Kd.R_below (mv HO_15.out) hb); replace HO_16 := Aside0.mk (Kd.R_below (mv HO_16.out) hb); replace HO305 := Aside0.mk (Kd.N_below (mv HO305.out) hb); replace HB := Aside0.mk (below_step (bt) hb); (try clear hb); (try clear hb2); (try clear hk); (try clear hi)) | ((with_reducible refine gate_builtin (b := .append) (xs := #[.tmp 123, .tmp 127]) rfl ?_); at_builtin; refine Kd.R_append (Kd.int .i64) (w0 := w) w.heap.size rfl (.tmp 123) (.tmp 127) 23 3 (.int .i64 0) 8 rfl Try.underlying23 info3 rfl (by decide) (by omega) u16 x16_3 t306 [.int .i64 t306] (fun k_ => (w.heap.size ≤ k_) ∧ some k_ ≠ (u12 : Value).ownBlock ∧ some k_ ≠ (v276 : Value).ownBlock) (fun _ => False) rfl rfl ?aP (fun _ hk => hk.elim) ?aF ?aO ?aB ?aS ?aL ?_; (case aP => exact rfl); (case aB => exact (bt)); (case aF => exact (fun k_ hk => ⟨(Nat.le_trans (below_size (bt)) hk), Kd.fresh' (Kd.R_lt (mv HO_12.out)) k_ hk, Kd.fresh' (Kd.R_lt (mv HO_15.out)) k_ hk⟩)); (case aO => exact (mv HO_16.out)); (case aS => exact (below_size (bt))); (case aL => have := LMc71.out; omega); intro v308 w76 ho hb hg hat; rw [← Ny307.out] at ho; replace HO_2 := Aside0.mk (Kd.V_afterv (ok := (fun k_ => ((P2_ k_ ∨ P4_ k_) ∨ w.heap.size ≤ k_) ∧ some k_ ≠ (u12 : Value).ownBlock ∧ some k_ ≠ (v276 : Value).ownBlock ∧ some k_ ≠ (v304 : Value).ownBlock)) (by (with_reducible repeat (first | apply Kd.V_alloc | apply Kd.V_drewN | apply Kd.V_drew)); exact Kd.V_mono HO_2.out (fun _ hk => ⟨⟨hk.1.1, ⟨hk.1.2.1, ⟨hk.1.2.2.1, hk.2⟩⟩⟩, hk.1.2.2.2.1⟩)) hg hat); replace HO_4 := Aside0.mk (Kd.V_afterv (ok := (fun k_ => ((P2_ k_ ∨ P4_ k_) ∨ w.heap.size ≤ k_) ∧ some k_ ≠ (u12 : Value).ownBlock ∧ some k_ ≠ (v276 : Value).ownBlock ∧ some k_ ≠ (v304 : Value).ownBlock)) (by (with_reducible repeat (first | apply Kd.V_alloc | apply Kd.V_drewN | apply Kd.V_drew)); exact Kd.V_mono HO_4.out (fun _ hk => ⟨⟨hk.1.1, ⟨hk.1.2.1, ⟨hk.1.2.2.1, hk.2⟩⟩⟩, hk.1.2.2.2.1⟩)) hg hat); replace HO_12 := Aside0.mk (Kd.R_after (ok := (fun k_ => (w.heap.size ≤ k_) ∧ some k_ ≠ (v276 : Value).ownBlock)) (by (with_reducible repeat (first | apply Kd.R_alloc | apply Kd.R_drewN | apply Kd.R_drew)); exact Kd.R_mono HO_12.out (fun _ hk => ⟨⟨hk.1, hk.2.1⟩, hk.2.2⟩)) hg hat); replace HO_15 := Aside0.mk (Kd.R_after (ok := (fun k_ => (w.heap.size ≤ k_) ∧ some k_ ≠ (u12 : Value).ownBlock)) (by (with_reducible repeat (first | apply Kd.R_alloc | apply Kd.R_drewN | apply Kd.R_drew)); exact Kd.R_mono HO_15.out (fun _ hk => ⟨⟨hk.1, hk.2.1⟩, hk.2.2⟩)) hg hat); replace HO305 := Aside0.mk (Kd.N_afterv (ok := (fun k_ => (w.heap.size ≤ k_) ∧ some k_ ≠ (u12 : Value).ownBlock ∧ some k_ ≠ (v276 : Value).ownBlock)) (by (with_reducible repeat (first | apply Kd.N_alloc | apply Kd.N_drewN | apply Kd.N_drew)); exact Kd.N_mono HO305.out (fun _ hk => ⟨⟨hk.1, ⟨hk.2.1, hk.2.2.1⟩⟩, hk.2.2.2⟩)) hg hat); replace HB := Aside0.mk (hb); have HO309 := Aside0.mk (ho); clear HO_16; clear ho hb hg hat))
                        go_roundg kj49
                        case measure => have := HK1.out; have := HK2.out; have := HK3.out; have := HJ28.out; have := HJ40.out; have := HJ43.out; have := HJ49.out; omega
                        case rel => exact ⟨(x4_43), (y303), (y275), (y307), (wrap64 (x17_3 + 2)), (by first | rfl | (simp; done) | (simp [*]; done)), H', ⟨by have := HK1.out; have := HK2.out; have := HK3.out; have := HJ28.out; have := HJ40.out; have := HJ43.out; have := HJ49.out; omega⟩, ⟨by (with_reducible repeat (first | apply Kd.V_alloc | apply Kd.V_drewN | apply Kd.V_drew)); exact Kd.V_mono HO_2.out (fun _ hk => ⟨hk.1.1, ⟨hk.1.2.2.2, ⟨hk.1.2.1, ⟨hk.1.2.2.1, hk.2⟩⟩⟩⟩)⟩, ⟨by (with_reducible repeat (first | apply Kd.V_alloc | apply Kd.V_drewN | apply Kd.V_drew)); exact Kd.V_mono HO_4.out (fun _ hk => ⟨hk.1.1, ⟨hk.1.2.2.2, ⟨hk.1.2.1, ⟨hk.1.2.2.1, hk.2⟩⟩⟩⟩)⟩, ⟨by (with_reducible repeat (first | apply Kd.N_alloc | apply Kd.N_drewN | apply Kd.N_drew)); exact Kd.N_mono HO305.out (fun _ hk => ⟨hk.1.1, ⟨hk.1.2.1, ⟨hk.1.2.2, hk.2⟩⟩⟩)⟩, ⟨by (with_reducible repeat (first | apply Kd.R_alloc | apply Kd.R_drewN | apply Kd.R_drew)); exact Kd.R_mono HO_12.out (fun _ hk => ⟨hk.1.1, ⟨hk.1.2, hk.2⟩⟩)⟩, ⟨by (with_reducible repeat (first | apply Kd.R_alloc | apply Kd.R_drewN | apply Kd.R_drew)); exact Kd.R_mono HO_15.out (fun _ hk => ⟨hk.1.1, ⟨hk.1.2, hk.2⟩⟩)⟩, ⟨mv HO309.out⟩, ⟨bt⟩⟩
                       ·rw [if_neg c71] at H
                        exact absurd H (by simp)
                      ·rw [if_neg c69] at H
                       exact absurd H (by simp)
             ·rw [if_neg c33] at H
              exact absurd H (by simp)
         ·rw [if_neg c26] at H
          have c26b0 : decide (x17_3 < x14_2) = false := decide_eq_false c26
          clear c26
          have H' := Aside0.mk H
          clear H
          go_wp2
          go_roundg k3
          case measure => have := HK1.out; have := HK2.out; have := HK3.out; omega
          case rel => exact ⟨(x15_3), (x4_3), (x11_3), (x16_3), (wrap64 (Int.tdiv (wrap64 (x14_2 + 1)) 2)), (by first | rfl | (simp; done) | (simp [*]; done)), H', ⟨by have := HK1.out; have := HK2.out; have := HK3.out; omega⟩, ⟨by have hR_ := (Kd.R_apart' HO_15.out (Kd.N_typed HO_11.out) (by decide)); exact Kd.V_mono (Kd.R_V hR_) (fun k_ hk => ⟨.inr (hk.1.1), ⟨hk.2, hk.1.2.2⟩⟩)⟩, ⟨by (with_reducible repeat (first | apply Kd.V_alloc | apply Kd.V_drewN | apply Kd.V_drew)); exact Kd.V_mono HO_4.out (fun _ hk => ⟨hk.1, ⟨hk.2.1, hk.2.2.2.2⟩⟩)⟩, ⟨by (with_reducible repeat (first | apply Kd.N_alloc | apply Kd.N_drewN | apply Kd.N_drew)); exact Kd.N_mono HO_11.out (fun _ hk => ⟨hk.1, hk.2.2.2⟩)⟩, ⟨by (with_reducible repeat (first | apply Kd.R_alloc | apply Kd.R_drewN | apply Kd.R_drew)); exact Kd.R_mono HO_16.out (fun _ hk => hk.1)⟩, ⟨bt⟩⟩
      ·rw [if_neg c21] at H
       have c21b0 : decide (1 < x14_2) = false := decide_eq_false c21
       clear c21
       by_cases c77 : 0 < (x12_2.length : Int)
       ·rw [if_pos c77] at H
        have c77b0 : decide (0 < (x12_2.length : Int)) = true := decide_eq_true c77
        have c77b1 : decide (0 < x12_2.length) = true := decide_eq_true (by omega)
        clear c77
        replace H := Option.bind_eq_some_iff.mp H
        obtain ⟨t261, A780, H⟩ := H
        (try dsimp -simprocs only at H)
        have A78 := Aside0.mk A780
        clear A780
        by_cases c79 : x11_2.length < 5864062014805
        ·rw [if_pos c79] at H
         have LMc79 := Aside0.mk c79
         clear c79
         obtain ⟨y264, hy264⟩ : ∃ y_ : List (List Int), y_ = (x11_2 ++ [t261]) := ⟨_, rfl⟩
         replace H : (some y264) = some r := by first | (rw [hy264]; exact H) | exact H
         have Ny264 := Aside0.mk hy264
         clear hy264
         obtain rfl := Option.some.inj H
         obtain ⟨Ao80, co80, eo80⟩ := Kd.R_slice HO_12.out
         subst eo80
         have p260 : 0 ≤ (0 : Int) := (by omega)
         have q260 : 0 < (x12_2.length : Int) := of_decide_eq_true asm
         obtain ⟨ad260, e260, hx260_0⟩ := Kd.at_int (Kd.R_reads' HO_12.out).2.2 0 p260 q260
         cases e260
         have qi260 : (0 < x12_2.length) = True := eq_true (by omega)
         (try rw [show ((0 : Int)).toNat = 0 from rfl] at hx260_0)
         (try rw [Addr.add_zero'] at hx260_0)
         replace p260 := eq_true p260
         replace q260 := eq_true q260
         go_wp2_with (first | ((with_reducible refine gate_callee (f := 78) rfl ?_); refine goesL_ (some 136) rfl rfl Try.func78 (by kernel_rfl) rfl #[.int .i64 a1, .int .i64 (rd x12_2 0)] rfl av ?_; (with_reducible refine (spec_l2Top.calls k2 a1 (rd x12_2 0) t261 _ A78.out).mono ?_); rintro e w81 ⟨v262, rfl, ho0, hb⟩; refine ⟨_, rfl, ?_⟩; replace HO_2 := Aside0.mk (Kd.V_elder' (mv HO_2.out) (Kd.R_base ho0) hb); replace HO_4 := Aside0.mk (Kd.V_elder' (mv HO_4.out) (Kd.R_base ho0) hb); replace HO_11 := Aside0.mk (Kd.N_elder' (mv HO_11.out) (Kd.R_base ho0) hb); replace HO_12 := Aside0.mk (Kd.R_below (mv HO_12.out) hb); have HO263 := Aside0.mk (Kd.R_lower (Kd.R_newM (M := fun k_ => (w.heap.size ≤ k_)) ho0 (below_size (bt)) (fun k_ h_ => h_)) (below_size (bt))); replace HB := Aside0.mk (below_step (bt) hb); (try clear hb); (try clear hb2); (try clear hk); (try clear hi); (try clear ho0); obtain ⟨Ao83, co83, eo83⟩ := Kd.R_slice HO263.out; subst eo83) | ((with_reducible refine gate_builtin (b := .append) (xs := #[.tmp 131, .tmp 137]) rfl ?_); at_builtin; refine Kd.N_append (Kd.slice 5 (Kd.int .u8)) (w0 := w) w.heap.size rfl (.tmp 131) (.tmp 137) 30 22 (.slice none 0 0) 24 rfl Try.underlying30 info22 rfl (by decide) (by omega) u11 x11_2 t261 [.slice Ao83 t261.length co83] (fun k_ => (w.heap.size ≤ k_) ∧ some k_ ≠ (.slice (some ad260) x12_2.length co80 : Value).ownBlock) (fun k_ => ((fun k_ => (w.heap.size ≤ k_) ∧ some k_ ≠ (.slice (some ad260) x12_2.length co80 : Value).ownBlock)) k_ ∧ some k_ ≠ (u11 : Value).ownBlock) rfl rfl ?aP (fun _ hk => hk) ?aF ?aO ?aB ?aS ?aL ?_; (case aP => exact (Kd.FK_slice_mk (Kd.R_reads' (Kd.R_mono (ok' := (fun k_ => ((fun k_ => (w.heap.size ≤ k_) ∧ some k_ ≠ (.slice (some ad260) x12_2.length co80 : Value).ownBlock)) k_ ∧ some k_ ≠ (u11 : Value).ownBlock)) (Kd.R_apart' (Kd.R_apart' (HO263.out) (Kd.R_typed HO_12.out) (by decide)) (Kd.N_typed HO_11.out) (by decide)) (fun k_ hk => ⟨⟨(hk.1.1.1), hk.1.2⟩, hk.2⟩))).2.1 (Kd.R_F (Kd.R_mono (ok' := (fun k_ => ((fun k_ => (w.heap.size ≤ k_) ∧ some k_ ≠ (.slice (some ad260) x12_2.length co80 : Value).ownBlock)) k_ ∧ some k_ ≠ (u11 : Value).ownBlock)) (Kd.R_apart' (Kd.R_apart' (HO263.out) (Kd.R_typed HO_12.out) (by decide)) (Kd.N_typed HO_11.out) (by decide)) (fun k_ hk => ⟨⟨(hk.1.1.1), hk.1.2⟩, hk.2⟩))))); (case aB => exact (bt)); (case aF => exact (fun k_ hk => ⟨(Nat.le_trans (below_size (bt)) hk), Kd.fresh' (Kd.R_lt (mv HO_12.out)) k_ hk⟩)); (case aO => exact (by (with_reducible repeat (first | apply Kd.N_alloc | apply Kd.N_drewN | apply Kd.N_drew)); exact Kd.N_mono HO_11.out (fun _ hk => ⟨hk.1.1, hk.1.2⟩))); (case aS => exact (below_size (bt))); (case aL => have := LMc79.out; omega); intro v265 w82 ho hb hg hat; rw [← Ny264.out] at ho; replace HO_2 := Aside0.mk (Kd.V_afterv (ok := (fun k_ => ((P2_ k_ ∨ P4_ k_) ∨ w.heap.size ≤ k_) ∧ some k_ ≠ (.slice (some ad260) x12_2.length co80 : Value).ownBlock ∧ some k_ ≠ (.slice Ao83 t261.length co83 : Value).ownBlock)) (by (with_reducible repeat (first | apply Kd.V_alloc | apply Kd.V_drewN | apply Kd.V_drew)); exact Kd.V_mono HO_2.out (fun _ hk => ⟨⟨hk.1.1, ⟨hk.1.2.2, hk.2⟩⟩, hk.1.2.1⟩)) hg hat); replace HO_4 := Aside0.mk (Kd.V_afterv (ok := (fun k_ => ((P2_ k_ ∨ P4_ k_) ∨ w.heap.size ≤ k_) ∧ some k_ ≠ (.slice (some ad260) x12_2.length co80 : Value).ownBlock ∧ some k_ ≠ (.slice Ao83 t261.length co83 : Value).ownBlock)) (by (with_reducible repeat (first | apply Kd.V_alloc | apply Kd.V_drewN | apply Kd.V_drew)); exact Kd.V_mono HO_4.out (fun _ hk => ⟨⟨hk.1.1, ⟨hk.1.2.2, hk.2⟩⟩, hk.1.2.1⟩)) hg hat); replace HO_12 := Aside0.mk (Kd.R_over' (mv HO_12.out) (Kd.N_typed (mv HO_11.out)) (by decide) hg); replace HB := Aside0.mk (hb); have HO266 := Aside0.mk (ho); clear HO_11 HO263; clear ho hb hg hat))
         go_ret
         exact ⟨_, by first | rfl | (simp [errW_none, errW_some] <;> rfl) | (simp [*, errW_none, errW_some] <;> rfl), by (with_reducible repeat (first | apply Kd.N_alloc | apply Kd.N_drewN | apply Kd.N_drew)); exact Kd.N_mono HO266.out (fun _ hk => hk.1), bt⟩
        ·rw [if_neg c79] at H
         exact absurd H (by simp)
       ·rw [if_neg c77] at H
        exact absurd H (by simp)

end Go.Proofs.Ytaacidhgnappdaa.PFnExactFromMany
