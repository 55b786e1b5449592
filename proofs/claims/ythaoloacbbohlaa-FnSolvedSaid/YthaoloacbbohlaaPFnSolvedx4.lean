-- Written by a program of this workplace (wip/mp.py) out of the translation.
import Derived.Test.YthaoloacbbohlaaPFnSolvedx0
import Derived.Test.YthaoloacbbohlaaPFnSolvedx2
import Derived.Test.YthaoloacbbohlaaPFnSolvedx3
namespace Go.Proofs.Ythaoloacbbohlaa.PFnSolved
open Go.RowKit Go.Proofs.YthaoloacbbohlaaW.PrintWords Go.Proofs.YthaoloacbbohlaaW.PrintLast Go.Proofs.YthaoloacbbohlaaW.PrintMore Go.Proofs.Ythaoloacbbohlaa.Slim
attribute [local go_sem] max2_int min2_int max_two min_two max_three min_three max_four min_four   -- for this text's walks alone
set_option linter.unusedVariables false
set_option linter.unusedSimpArgs false

/-! ### impl_GfSolve: function 26 -/
/-- The first row that is so; -1: there is none. -/
def firstIx (pd : List Int → Bool) : List (List Int) → Nat → Int
 | [], _ => -1
 | x :: l, i => if pd x = true then (i : Int) else firstIx pd l (i + 1)
theorem firstIx_all (pd : List Int → Bool) (l : List (List Int)) : ∀ i : Nat, decide (0 ≤ firstIx pd l i) = !(l.all fun b => !pd b) := by
 induction l with
 | nil => intro i; rfl
 | cons x l ih =>
  intro i
  unfold firstIx
  by_cases h : pd x = true
  ·rw [if_pos h]; simp [h]
  ·rw [if_neg h, ih (i + 1)]; simp [h]
theorem firstIx_piv (i s : Nat) (l : List (List Int)) : ∀ q : Nat, firstIx (fun x => x.getD i 0 != 0) l q = match Mat.pivF i l (q + s) with | none => -1 | some p => (p : Int) - (s : Int) := by
 induction l with
 | nil => intro q; rfl
 | cons x l ih =>
  intro q
  unfold firstIx Mat.pivF
  by_cases h : x.getD i 0 = 0
  ·rw [if_neg (by rw [h]; decide), if_pos h, ih (q + 1), show q + 1 + s = q + s + 1 by omega]
  ·rw [if_pos (bne_iff_ne.mpr h), if_neg h]
   show (q : Int) = ((q + s : Nat) : Int) - (s : Int)
   omega
set_option maxHeartbeats 4000000 in
theorem short_lit (A : Option Addr) (n c g q : Nat) (W : World) (hn : n ≤ 9223372036854775807) (hc : W.cell? ⟨g, 0, none⟩ = some (.int .i64 (q : Int))) :
  Calls Try.prog 52 #[.slice A n c, .pointer (some ⟨g, 0, none⟩)] W fun e w' => e = .returned (.bool (n != q)) ∧ Drawn0 W w' := by
 have hb : ((n : Int) != (q : Int)) = (n != q) := by
  by_cases h : n = q
  ·rw [h]; simp
  ·rw [bne_iff_ne.mpr h, bne_iff_ne.mpr (by omega)]
 go_enter Try.func52, Try.ntmps52
 go_wp2
 go_ret
 exact ⟨by first | rfl | rw [hb] | simp [hb], Drawn0.refl _⟩
set_option maxHeartbeats 4000000 in
theorem nz_lit (b n c g i : Nat) (x : Int) (W : World) (hi : i < n) (hn : n ≤ 1000000) (hc : W.cell? ⟨g, 0, none⟩ = some (.int .i64 (i : Int))) (hx : W.cell? ⟨b, i, none⟩ = some (.int .u8 x)) :
  Calls Try.prog 56 #[.slice (some ⟨b, 0, none⟩) n c, .pointer (some ⟨g, 0, none⟩)] W fun e w' => e = .returned (.bool (x != 0)) ∧ Drawn0 W w' := by
 have p1 : 0 ≤ (i : Int) := Int.natCast_nonneg i
 have q1 : (i : Int) < (n : Int) := by omega
 go_enter Try.func56, Try.ntmps56
 go_wp2
 go_ret
 exact ⟨by first | rfl | simp, Drawn0.refl _⟩
set_option maxHeartbeats 4000000 in
set_option maxRecDepth 100000 in
theorem rows_index (F : Nat) (cap : Value) (pd : List Int → Bool) (eg : ∀ args w, (callFunc F args).run Try.prog w = .ok (.enter F args) w) (A1 : Option Addr) (c1 : Nat) (l1 : List (List Int)) (w : World) (hmax : l1.length ≤ 9223372036854775807)
  (hrow : ∀ k, k < l1.length → ∃ ad A0 c0, A1 = some ad ∧ w.cell? (ad.add k) = some (.slice A0 (l1.getD k []).length c0) ∧ ∀ m : Nat, Calls Try.prog F #[.slice A0 (l1.getD k []).length c0, cap] (w.drewN m) fun e w' => e = .returned (.bool (pd (l1.getD k []))) ∧ Drawn0 (w.drewN m) w') :
  Calls Try.prog 55 #[.slice A1 l1.length c1, .func (.func F) #[] #[cap]] w fun e w' => e = .returned (.int .i64 (firstIx pd l1 0)) ∧ Drawn0 w w' := by
 have HR := Aside0.mk hrow
 have HM := Aside0.mk hmax
 clear hrow hmax
 go_enter Try.func55, Try.ntmps55
 go_wp2
 go_loopw [8] (fun i wr => ∃ k : Nat, i = .int .i64 k ∧ Aside0 (k ≤ l1.length) ∧ Aside0 (firstIx pd (l1.drop k) k = firstIx pd l1 0) ∧ Drawn0 w wr) (fun i _ => l1.length - (intOf i).toNat)
 case atStart => exact ⟨0, rfl, ⟨Nat.zero_le _⟩, ⟨rfl⟩, Drawn0.refl _⟩
 case round =>
  obtain ⟨k, rfl, HK, HF, ⟨m, rfl⟩⟩ := hrel
  by_cases hlt : k < l1.length
  ·have c0 : decide (k < l1.length) = true := decide_eq_true hlt
   have c1 : decide ((k : Int) < (l1.length : Int)) = true := decide_eq_true (by omega)
   have p1 : 0 ≤ (k : Int) := Int.natCast_nonneg k
   have q1 : (k : Int) < (l1.length : Int) := by omega
   obtain ⟨ad, A0, c2, e1, hx, hcall⟩ := HR.out k hlt
   cases e1
   have hcl := hcall m
   have hfx := HF.out
   rw [Mat.drop_cons (d := ([] : List Int)) hlt] at hfx
   rw [show firstIx pd (l1.getD k [] :: l1.drop (k + 1)) k = (if pd (l1.getD k []) = true then (k : Int) else firstIx pd (l1.drop (k + 1)) (k + 1)) from rfl] at hfx
   have HL := Aside0.mk hlt
   clear hlt hcall
   generalize l1.getD k [] = x at hx hcl hfx
   generalize x.length = n at hx hcl
   have HCL := Aside0.mk hcl
   clear hcl
   go_wp2_with fail
   refine HCL.out.mono ?_
   rintro e w' ⟨rfl, ⟨nd, rfl⟩⟩
   have b2 : (k : Int) ≤ 9223372036854775806 := by have := HL.out; have := HM.out; omega
   cases hv : pd x with
   | true =>
    rw [if_pos hv] at hfx
    have HFX := Aside0.mk hfx
    clear hfx
    go_wp2
    go_ret
    exact ⟨by first | (rw [← HFX.out]; done) | (rw [← HFX.out]; rfl) | simp [← HFX.out], by repeat (first | exact Drawn0.refl _ | apply Drawn0.step)⟩
   | false =>
    rw [if_neg (by rw [hv]; decide)] at hfx
    have HFX := Aside0.mk hfx
    clear hfx
    go_wp2
    go_roundw
    case rel => exact ⟨k + 1, by go_num, ⟨HL.out⟩, HFX, by repeat (first | exact Drawn0.refl _ | apply Drawn0.step)⟩
    case measure => have := HL.out; simp [intOf]; omega
  ·have c0 : decide (k < l1.length) = false := decide_eq_false hlt
   have c1 : decide ((k : Int) < (l1.length : Int)) = false := decide_eq_false (by omega)
   have e : firstIx pd l1 0 = -1 := by
    have h := HF.out
    rw [List.drop_eq_nil_of_le (by omega)] at h
    exact h.symm
   have HE := Aside0.mk e
   clear hlt e
   go_wp2
   go_ret
   exact ⟨by first | (rw [HE.out]; done) | (rw [HE.out]; rfl), by repeat (first | exact Drawn0.refl _ | apply Drawn0.step)⟩
set_option maxHeartbeats 4000000 in
theorem short_contains (g q : Nat) (A1 : Option Addr) (c1 : Nat) (l1 : List (List Int)) (w : World) (hc : w.cell? ⟨g, 0, none⟩ = some (.int .i64 (q : Int))) (hr1 : Kd.C (Kd.slice 5 (Kd.int .u8)) w A1 l1.length l1) :
  Calls Try.prog 51 #[.slice A1 l1.length c1, .func (.func 52) #[] #[.pointer (some ⟨g, 0, none⟩)]] w fun e w' => e = .returned (.bool (!(l1.all fun b => !(b.length != q)))) ∧ Drawn0 w w' := by
 have HI := Aside0.mk (rows_index 52 (.pointer (some ⟨g, 0, none⟩)) (fun b => b.length != q) (enters_of Try.func52 (by kernel_rfl) rfl) A1 c1 l1 w hr1.2.1 (fun k hk => by
  obtain ⟨ad, c, e, hl, hK, hcc⟩ := ReadsRow.get_ hr1 ([] : List Int) (k : Int) (Int.natCast_nonneg k) (by omega)
  obtain ⟨A0, c0, rfl, h2, h3⟩ := hK
  rw [Int.toNat_natCast] at hcc h2 h3
  have h4 := hcc 0 _ rfl
  have e1 : k * (Kd.slice 5 (Kd.int .u8)).sz + 0 = k := Nat.mul_one k
  rw [e1] at h4
  exact ⟨ad, A0, c0, e, h4, fun m => short_lit A0 _ c0 g q (w.drewN m) h3.2.1 hc⟩))
 have HF := Aside0.mk (firstIx_all (fun b => b.length != q) l1 0)
 clear hr1 hc
 generalize firstIx (fun b => b.length != q) l1 0 = z at HI HF
 generalize (l1.all fun b => !(b.length != q)) = y at HF ⊢
 go_enter Try.func51, Try.ntmps51
 go_wp2_with (go_at_call 55; refine HI.out.mono ?_; rintro e w' ⟨rfl, ⟨nd, rfl⟩⟩)
 go_ret
 exact ⟨by first | (rw [← HF.out]; done) | (rw [← HF.out]; rfl) | simp [HF.out], by repeat (first | exact Drawn0.refl _ | apply Drawn0.step)⟩
mutual
def impl_GfSolve.j0 : Nat → List (List Int) → List Int → Bool → Option (List Int × Bool)
 | 0, _, _, _ => none
 | k + 1, x0, x1, x36 => if x36 = true then (some (([] : List Int), false)) else (impl_GfSolve.l0 k x1 (([] : List (List Int))) x0 (x0.length : Int) 0)
def impl_GfSolve.l0 : Nat → List Int → List (List Int) → List (List Int) → Int → Int → Option (List Int × Bool)
 | 0, _, _, _, _, _ => none
 | k + 1, x1, x8, x38, x39, x40 => if x40 < x39 then (if 0 ≤ x40 then (if x40 < (x38.length : Int) then ((slices_Clone_byte_byte.f (rd_L2 x38 x40)).bind fun t119 => (if x40 < (x1.length : Int) then ((some (([rd x1 x40] : List Int) : List Int)).bind fun y123 => (if t119.length + y123.length < 140737488355328 then ((some (([(t119 ++ y123)] : List (List Int)) : List (List Int))).bind fun y129 => (if x8.length + y129.length < 5864062014805 then (impl_GfSolve.l0 k x1 (x8 ++ y129) x38 x39 (wrap64 (x40 + 1))) else (none))) else (none))) else (none))) else (none)) else (none)) else (Mat.tailF (impl_GfMul.f k) (impl_GfInv.f k) (impl_GfAxpy.f k) x39 x8)
end
def impl_GfSolve.f0 (k : Nat) (l0 : List (List Int)) (l1 : List Int) : Option (List Int × Bool) := (impl_in.f (l0.length : Int) 1 12).bind fun t114 => (if t114 = true then (impl_GfSolve.j0 k l0 l1 ((l1.length : Int) != (l0.length : Int))) else (impl_GfSolve.j0 k l0 l1 true))
def impl_GfSolve.T9 : Bool × List (List Nat × List Nat) := (true, [([], []), ([], []), ([1], [1]), ([], []), ([], []), ([3, 4], [3, 4]), ([5], [5]), ([6], [6]), ([2, 7, 2], [2, 7]), ([8], [8]), ([0, 9, 8], [0, 9]), ([10, 10, 0, 1, 2, 3, 4, 5, 6, 7, 8, 9, 10], [0, 10])])
def impl_GfSolve.B9 : List Nat := [0, 0, 2, 0, 0, 24, 56, 120, 254, 510, 1023, 2047]
theorem impl_GfSolve.tab9 : rtab .any (opsOf Try.f26 9) = impl_GfSolve.T9 := by kernel_rfl
theorem impl_GfSolve.bits9 : waitsOk impl_GfSolve.T9.2 impl_GfSolve.B9 = true := by kernel_rfl
def impl_GfSolve.f (k : Nat) (l0 : List (List Int)) (l1 : List Int) : Option (List Int × Bool) := if (l0.all fun b => !(b.length != l0.length)) = true then impl_GfSolve.f0 k l0 l1 else some ([], false)
def impl_GfSolve.T17 : Bool × List (List Nat × List Nat) := (true, [([], []), ([], []), ([], []), ([], []), ([], []), ([3, 4], [3, 4]), ([], []), ([], []), ([], []), ([7, 8], [7, 8]), ([6, 9], [6, 9]), ([10], [10]), ([], []), ([], []), ([12, 13], [12, 13]), ([14], [14]), ([0, 1, 0, 1, 6, 7, 8, 9, 10, 11, 15], [0, 1]), ([16, 11, 0, 1, 6, 7, 8, 9, 10, 11, 15], [11, 16]), ([2, 5, 0, 1, 2, 3, 4, 5, 6, 7, 8, 9, 10, 11, 12, 13, 14, 15, 16, 17], [2, 5]), ([18, 15, 17, 0, 1, 2, 3, 4, 5, 6, 7, 8, 9, 10, 11, 12, 13, 14, 15, 16, 17], [15, 18])])
def impl_GfSolve.B17 : List Nat := [0, 0, 0, 0, 0, 24, 0, 0, 0, 384, 960, 1984, 0, 0, 12288, 28672, 65475, 131011, 262143, 524287]
theorem impl_GfSolve.tab17 : rtab .any (opsOf Try.f26 17) = impl_GfSolve.T17 := by kernel_rfl
theorem impl_GfSolve.bits17 : waitsOk impl_GfSolve.T17.2 impl_GfSolve.B17 = true := by kernel_rfl
def impl_GfSolve.T18 : Bool × List (List Nat × List Nat) := (true, [([], []), ([], []), ([0, 1], [0, 1]), ([2], [2]), ([], []), ([3, 4], [3, 4]), ([5], [5]), ([6], [6]), ([7], [7]), ([8], [8]), ([8], [8]), ([9, 7, 0, 1, 2, 3, 4, 5, 6, 7, 8, 9], [9]), ([10, 11, 0, 1, 2, 3, 4, 5, 6, 7, 8, 9, 10, 11], [10])])
def impl_GfSolve.B18 : List Nat := [0, 0, 3, 7, 0, 31, 63, 127, 255, 511, 511, 1023, 4095]
theorem impl_GfSolve.tab18 : rtab .any (opsOf Try.f26 18) = impl_GfSolve.T18 := by kernel_rfl
theorem impl_GfSolve.bits18 : waitsOk impl_GfSolve.T18.2 impl_GfSolve.B18 = true := by kernel_rfl
def impl_GfSolve.T22 : Bool × List (List Nat × List Nat) := (true, [([], []), ([], []), ([0, 1], [0, 1]), ([2], [2]), ([], []), ([], []), ([], []), ([5, 6], [5, 6]), ([7], [7]), ([], []), ([8, 9], [8, 9]), ([10], [10]), ([], []), ([11, 12], [11, 12]), ([3, 4, 0, 1, 2, 3, 4, 5, 6, 7, 8, 9, 10, 11, 12, 13], [3, 4]), ([14, 13, 13, 0, 1, 2, 3, 4, 5, 6, 7, 8, 9, 10, 11, 12, 13], [13, 14])])
def impl_GfSolve.B22 : List Nat := [0, 0, 3, 7, 0, 0, 0, 96, 224, 0, 992, 2016, 0, 8160, 16383, 32767]
theorem impl_GfSolve.tab22 : rtab .any (opsOf Try.f26 22) = impl_GfSolve.T22 := by kernel_rfl
theorem impl_GfSolve.bits22 : waitsOk impl_GfSolve.T22.2 impl_GfSolve.B22 = true := by kernel_rfl
def impl_GfSolve.T28 : Bool × List (List Nat × List Nat) := (true, [([], []), ([], []), ([], []), ([], []), ([2, 3], [2, 3]), ([4], [4]), ([], []), ([], []), ([6, 7], [6, 7]), ([8], [8]), ([], []), ([9, 10], [9, 10]), ([11], [11]), ([], []), ([], []), ([13, 14], [13, 14]), ([15], [15]), ([5, 12, 16], [5, 12, 16]), ([17], [17]), ([18], [18]), ([18], [18]), ([0, 1, 0, 1, 2, 3, 4, 5, 6, 7, 8, 9, 10, 11, 12, 13, 14, 15, 16, 17, 18, 19], [0, 1]), ([21, 19, 17, 0, 1, 2, 3, 4, 5, 6, 7, 8, 9, 10, 11, 12, 13, 14, 15, 16, 17, 18, 19], [19, 21])])
def impl_GfSolve.B28 : List Nat := [0, 0, 0, 0, 12, 28, 0, 0, 192, 448, 0, 1984, 4032, 0, 0, 24576, 57344, 131068, 262140, 524284, 524284, 1048575, 3145727]
theorem impl_GfSolve.tab28 : rtab .any (opsOf Try.f26 28) = impl_GfSolve.T28 := by kernel_rfl
theorem impl_GfSolve.bits28 : waitsOk impl_GfSolve.T28.2 impl_GfSolve.B28 = true := by kernel_rfl
set_option maxHeartbeats 8000000 in
set_option maxRecDepth 100000 in
theorem impl_GfSolve.yes (k : Nat) (A0 : Option Addr) (c0 : Nat) (l0 : List (List Int)) (A1 : Option Addr) (c1 : Nat) (l1 : List Int) (r1 : List Int) (r2 : Bool) (w : World) (hr0 : Kd.C (Kd.slice 5 (Kd.int .u8)) w A0 l0.length l0) (hc0 : l0.length ≤ c0) (hr1 : Kd.C (Kd.int .u8) w A1 l1.length l1) (hc1 : l1.length ≤ c1) (hall : (l0.all fun b => !(b.length != l0.length)) = true) (h : impl_GfSolve.f0 k l0 l1 = some (r1, r2)) :
  Calls Try.prog 26 #[.slice A0 l0.length c0, .slice A1 l1.length c1] w fun e w' => ∃ v0_ : Value, e = .returned (.tuple #[v0_, .bool r2]) ∧ Kd.R (Kd.int .u8) 5 w' w.heap.size (fun _ => True) v0_ r1 ∧ Below w.heap.size w w' := by
 obtain ⟨w1, hw1⟩ : ∃ w1, w1 = w.alloc (.cells #[.int .i64 (l0.length : Int)] 3) := ⟨_, rfl⟩
 obtain ⟨g0, hg0⟩ : ∃ g0, g0 = w.heap.size := ⟨_, rfl⟩
 have hbw : Below w.heap.size w w1 := by rw [hw1]; exact below_alloc (Below.refl _ _) _
 have hbx : Mat.Bx w1 g0 (.int .i64 (l0.length : Int)) := by rw [hw1, hg0]; exact Mat.Bx.new _ _
 have HR0 := Aside0.mk (Kd.C_below hr0 hbw)
 have HC0 := Aside0.mk hc0
 have HR1 := Aside0.mk (Kd.C_below hr1 hbw)
 have HC1 := Aside0.mk hc1
 have hc00 := hbx.cell
 have HSC : Aside0 (Calls Try.prog 51 #[.slice A0 l0.length c0, .func (.func 52) #[] #[.pointer (some ⟨g0, 0, none⟩)]] w1 fun e w' => e = .returned (.bool false) ∧ Drawn0 w1 w') := ⟨by
  have h := short_contains g0 l0.length A0 c0 l0 w1 hc00 HR0.out
  rw [hall] at h
  exact h⟩
 have HB := Aside0.mk (Below.refl w1.heap.size w1)
 have HBW := Aside0.mk hbw
 have HG0 := Aside0.mk hbx
 have HW1 := Aside0.mk hw1
 have HGW := Aside0.mk hg0
 clear hr0 hc0 hr1 hc1 hbw hbx hall hw1 hg0
 have H : ((impl_in.f (l0.length : Int) 1 12).bind fun t114 => (if t114 = true then (impl_GfSolve.j0 k l0 l1 ((l1.length : Int) != (l0.length : Int))) else (impl_GfSolve.j0 k l0 l1 true))) = some (r1, r2) := h
 clear h
 have HC3 := Aside0.mk H
 clear H
 go_enter Try.func26, Try.ntmps26
 go_upto_region 2 with (fail)
 rw [← HW1.out, ← HGW.out]
 go_upto_region 3 with (go_at_call 51; refine HSC.out.mono ?_; rintro e w' ⟨rfl, ⟨nd, rfl⟩⟩)
 go_cut [36] (fun v36 wc => ∃ (kq : Nat) (x36_2 : Bool), v36 = .bool x36_2 ∧ Aside0 (impl_GfSolve.j0 kq l0 l1 x36_2 = some (r1, r2)) ∧ Aside0 (kq ≤ k) ∧ Aside0 (Below w1.heap.size w1 wc))
 case first =>
  have H := HC3.out
  clear HC3
  replace H := Option.bind_eq_some_iff.mp H
  obtain ⟨t114, A40, H⟩ := H
  (try dsimp -simprocs only at H)
  have A4 := Aside0.mk A40
  clear A40
  by_cases c5 : t114 = true
  ·subst c5
   rw [if_pos rfl] at H
   have H' := Aside0.mk H
   clear H
   go_wp2_with (first | ((with_reducible refine gate_callee (f := 53) rfl ?_); refine goesL_ (some 26) rfl rfl Try.func53 (by kernel_rfl) rfl #[.int .i64 (l0.length : Int), .int .i64 1, .int .i64 12] rfl av ?_; (with_reducible refine (impl_in.calls (l0.length : Int) 1 12 true _ A4.out).mono ?_); rintro e w' ⟨rfl, ⟨nd, rfl⟩⟩; refine ⟨_, rfl, ?_⟩))
   go_meet
   case rel => exact ⟨_, (((l1.length : Int) != (l0.length : Int))), (by first | rfl | (simp; done) | (simp [*]; done)), H', ⟨by first | omega | exact Nat.le_refl _⟩, ⟨bt⟩⟩
  ·replace c5 := Bool.eq_false_iff.mpr c5
   subst c5
   rw [if_neg (show ¬ (false = true) by decide)] at H
   have H' := Aside0.mk H
   clear H
   go_wp2_with (first | ((with_reducible refine gate_callee (f := 53) rfl ?_); refine goesL_ (some 26) rfl rfl Try.func53 (by kernel_rfl) rfl #[.int .i64 (l0.length : Int), .int .i64 1, .int .i64 12] rfl av ?_; (with_reducible refine (impl_in.calls (l0.length : Int) 1 12 false _ A4.out).mono ?_); rintro e w' ⟨rfl, ⟨nd, rfl⟩⟩; refine ⟨_, rfl, ?_⟩))
   go_meet
   case rel => exact ⟨_, (true), (by first | rfl | (simp; done) | (simp [*]; done)), H', ⟨by first | omega | exact Nat.le_refl _⟩, ⟨bt⟩⟩
 case rest =>
  clear HC3
  try clear c1
  try clear c2
  try clear p2
  try clear c5
  obtain ⟨kq, x36_2, rfl, HA, HJ2, HB⟩ := hcut
  cases kq with
  | zero => exact absurd HA.out (by simp [impl_GfSolve.j0])
  | succ kj2 =>
   have H := HA.out
   clear HA
   simp only [impl_GfSolve.j0] at H
   by_cases c6 : x36_2 = true
   ·subst c6
    rw [if_pos rfl] at H
    simp only [Option.some.injEq, Prod.mk.injEq] at H
    obtain ⟨rfl, rfl⟩ := H
    go_wp2
    go_ret2
    exact ⟨_, by first | rfl | (simp [errW_none, errW_some] <;> rfl) | (simp [*, errW_none, errW_some] <;> rfl), Kd.R_nil _ _ _ _ _, below_step HBW.out (bt)⟩
   ·replace c6 := Bool.eq_false_iff.mpr c6
    subst c6
    rw [if_neg (show ¬ (false = true) by decide)] at H
    obtain ⟨y115, hy115⟩ : ∃ y_ : List (List Int), y_ = (([] : List (List Int))) := ⟨_, rfl⟩
    replace H : (impl_GfSolve.l0 kj2 l1 y115 l0 (l0.length : Int) 0) = some (r1, r2) := by first | (rw [hy115]; exact H) | exact H
    have Ny115 := Aside0.mk hy115
    clear hy115
    have H' := Aside0.mk H
    clear H
    go_wp2_with (first | ((with_reducible refine gate_dst (N := 37) rfl ?_); (try (refine gate_guard (by rfl) ?_; dsimp only)); refine Kd.S_lit (Kd.slice 5 (Kd.int .u8)) _ 24 ?hg (N := 37) ?hd (xs := ([] : List (List Int))) (inner := []) (ok := (fun _ => True)) (okp := (fun _ => True)) ?hr ?hp (fun _ hk => hk) trivial (Below.refl _ _) (Nat.le_refl _) (by simp) ?_; (case hd => rfl); (case hg => rfl); (case hr => first | (go_simp; done) | (go_simp; rfl)); (case hp => exact (Reps.none _ _)); intro v116 w7 ho8 hb hg_ hnew_; clear hg_ hnew_; (first | rw [← Ny115.out] at ho8 | (simp only [Int.reduceToNat] at ho8; rw [← Ny115.out] at ho8)); have HO117 := Aside0.mk (Kd.S_lower ho8 (below_size (bt))); replace HB := Aside0.mk (below_step (bt) hb); clear hb ho8))
    go_loopg [8, 40] kj2 (fun kq v8 v40 w' => ∃ (x8_2 : List (List Int)) (x40_2 : Int), v40 = .int .i64 x40_2 ∧ Aside0 (impl_GfSolve.l0 kq l1 x8_2 l0 (l0.length : Int) x40_2 = some (r1, r2)) ∧ Aside0 (kq ≤ kj2) ∧ Aside0 (Kd.S (Kd.slice 5 (Kd.int .u8)) 24 w' w1.heap.size (fun _ => True) v8 x8_2) ∧ Aside0 (Below w1.heap.size w1 w'))
    case atStart => exact ⟨(y115), (0), (by first | rfl | (simp; done) | (simp [*]; done)), H', ⟨Nat.le_refl _⟩, ⟨mv HO117.out⟩, ⟨bt⟩⟩
    case round =>
     clear H'
     try clear c1
     try clear c2
     try clear p2
     try clear c5
     try clear c6
     try clear p2
     obtain ⟨x8_2, x40_2, rfl, HA, HK2, HO_8, HB⟩ := hrel
     cases gk with
     | zero => exact absurd HA.out (by simp [impl_GfSolve.l0])
     | succ k2 =>
      have H := HA.out
      clear HA
      simp only [impl_GfSolve.l0] at H
      by_cases c9 : x40_2 < (l0.length : Int)
      ·rw [if_pos c9] at H
       have c9b0 : decide (x40_2 < (l0.length : Int)) = true := decide_eq_true c9
       clear c9
       by_cases c10 : 0 ≤ x40_2
       ·rw [if_pos c10] at H
        have c10b0 : decide (0 ≤ x40_2) = true := decide_eq_true c10
        clear c10
        by_cases c11 : x40_2 < (l0.length : Int)
        ·rw [if_pos c11] at H
         have c11b0 : decide (x40_2 < (l0.length : Int)) = true := decide_eq_true c11
         clear c11
         replace H := Option.bind_eq_some_iff.mp H
         obtain ⟨t119, A120, H⟩ := H
         (try dsimp -simprocs only at H)
         have A12 := Aside0.mk A120
         clear A120
         by_cases c13 : x40_2 < (l1.length : Int)
         ·rw [if_pos c13] at H
          have c13b0 : decide (x40_2 < (l1.length : Int)) = true := decide_eq_true c13
          clear c13
          obtain ⟨y123, hy123⟩ : ∃ y_ : List Int, y_ = (([rd l1 x40_2] : List Int)) := ⟨_, rfl⟩
          replace H : (if t119.length + y123.length < 140737488355328 then ((some (([(t119 ++ y123)] : List (List Int)) : List (List Int))).bind fun y129 => (if x8_2.length + y129.length < 5864062014805 then (impl_GfSolve.l0 k2 l1 (x8_2 ++ y129) l0 (l0.length : Int) (wrap64 (x40_2 + 1))) else (none))) else (none)) = some (r1, r2) := by first | (rw [hy123]; exact H) | exact H
          have Ny123 := Aside0.mk hy123
          clear hy123
          by_cases c14 : t119.length + y123.length < 140737488355328
          ·rw [if_pos c14] at H
           have LMc14 := Aside0.mk c14
           clear c14
           obtain ⟨y126, hy126⟩ : ∃ y_ : List Int, y_ = (t119 ++ y123) := ⟨_, rfl⟩
           replace H : ((some (([y126] : List (List Int)) : List (List Int))).bind fun y129 => (if x8_2.length + y129.length < 5864062014805 then (impl_GfSolve.l0 k2 l1 (x8_2 ++ y129) l0 (l0.length : Int) (wrap64 (x40_2 + 1))) else (none))) = some (r1, r2) := by first | (rw [hy126]; exact H) | exact H
           have Ny126 := Aside0.mk hy126
           clear hy126
           obtain ⟨y129, hy129⟩ : ∃ y_ : List (List Int), y_ = (([y126] : List (List Int))) := ⟨_, rfl⟩
           replace H : (if x8_2.length + y129.length < 5864062014805 then (impl_GfSolve.l0 k2 l1 (x8_2 ++ y129) l0 (l0.length : Int) (wrap64 (x40_2 + 1))) else (none)) = some (r1, r2) := by first | (rw [hy129]; exact H) | exact H
           have Ny129 := Aside0.mk hy129
           clear hy129
           by_cases c15 : x8_2.length + y129.length < 5864062014805
           ·rw [if_pos c15] at H
            have LMc15 := Aside0.mk c15
            clear c15
            obtain ⟨y132, hy132⟩ : ∃ y_ : List (List Int), y_ = (x8_2 ++ y129) := ⟨_, rfl⟩
            replace H : (impl_GfSolve.l0 k2 l1 y132 l0 (l0.length : Int) (wrap64 (x40_2 + 1))) = some (r1, r2) := by first | (rw [hy132]; exact H) | exact H
            have Ny132 := Aside0.mk hy132
            clear hy132
            have H' := Aside0.mk H
            clear H
            have p118 : 0 ≤ (x40_2 : Int) := of_decide_eq_true asm
            have q118 : x40_2 < (l0.length : Int) := of_decide_eq_true asm
            obtain ⟨ad118, A118_0, c118_0, e118, hx118_0, hl118_0, hi118_0⟩ := at_L2 HR0.out x40_2 p118 q118
            cases e118
            replace hx118_0 := (HB.out.cell (World.block_lt_of_cell? w1 _ hx118_0)).trans hx118_0
            have HR118_0 := Aside0.mk hi118_0
            have HC118_0 := Aside0.mk hl118_0
            clear hi118_0 hl118_0
            replace p118 := eq_true p118
            replace q118 := eq_true q118
            obtain ⟨Ao16, co16, eo16⟩ := Kd.S_slice HO_8.out
            subst eo16
            try go_wp2
            have n0_ := Aside0.mk (Kd.S_drew HO_8.out)
            have n1_ := Aside0.mk (below_drew1 HB.out)
            clear HO_8
            clear HB
            have HO_8 := n0_
            have HB := n1_
            clear n0_ n1_
            have p122 : 0 ≤ (x40_2 : Int) := of_decide_eq_true asm
            have q122 : x40_2 < (l1.length : Int) := of_decide_eq_true asm
            obtain ⟨ad122, e122, hx122_0⟩ := Kd.at_int HR1.out x40_2 p122 q122
            have hw122_0 := hx122_0
            cases e122
            replace hx122_0 := (HB.out.cell (World.block_lt_of_cell? w1 _ hx122_0)).trans hx122_0
            replace p122 := eq_true p122
            replace q122 := eq_true q122
            refine start_ (n := 12) (S := fun w' => w'.cell? (ad122.add (x40_2).toNat) = some (.int .u8 (rd l1 x40_2))) (ds := []) #[false, false, false, false, false, false, false, false, false, false, false, false] (by kernel_rfl) rfl rfl (((HB.out.cell (World.block_lt_of_cell? w1 _ hw122_0)).trans hw122_0)) (fun hHeld => ?_); refine with_tabW impl_GfSolve.tab9 impl_GfSolve.bits9 (fun HT_ HW_ => ?_)
            generalize wr.drew = w17 at HO_8 HB hx122_0 hHeld ⊢
            refine pz (i := 0) (N := some 45) #[true, false, false, false, false, false, false, false, false, false, false, false] rfl rfl HT_.out ?_
            refine pz (i := 1) (N := some 46) #[true, true, false, false, false, false, false, false, false, false, false, false] rfl rfl HT_.out ?_
            refine pz (i := 3) (N := some 48) #[true, true, false, true, false, false, false, false, false, false, false, false] rfl rfl HT_.out ?_
            refine pz (i := 4) (N := some 49) #[true, true, false, true, true, false, false, false, false, false, false, false] rfl rfl HT_.out ?_
            refine pz (i := 5) (N := some 50) #[true, true, false, true, true, true, false, false, false, false, false, false] rfl rfl HT_.out ?_
            refine take_ (i := 6) (N := some 51) (v := ?_) (a' := ?_) #[true, true, false, true, true, true, true, false, false, false, false, false] rfl rfl (take_ofW HT_.out HW_.out (by kernel_rfl)) (fun _ _ _ h => h) (Or.inl ⟨by rfl, ?_⟩) hHeld ?_ ?_
            rotate_left
            ·intro w' s0
             go_simp
             with_reducible rfl
            rotate_left
            ·simp only [Act.put, List.setIfInBounds_toArray, List.set_cons_zero, List.set_cons_succ, i64_w, i32_w]
             rfl
            refine join_ (σ := Value × Value) 4 #[true, true, true, true, true, true, true, true, false, false, false, false] (fun s_ => [(47, s_.1), (52, s_.2)]) (fun s_ w' => (w'.cell? (ad122.add (x40_2).toNat) = some (.int .u8 (rd l1 x40_2))) ∧ (Kd.R (Kd.int .u8) 5 w' w1.heap.size (fun k_ => some k_ ≠ (s_.2 : Value).ownBlock) s_.1 t119) ∧ (Kd.R (Kd.int .u8) 5 w' w1.heap.size (fun k_ => some k_ ≠ (s_.1 : Value).ownBlock) s_.2 y123) ∧ (Kd.S (Kd.slice 5 (Kd.int .u8)) 24 w' w1.heap.size (fun k_ => some k_ ≠ (s_.1 : Value).ownBlock ∧ some k_ ≠ (s_.2 : Value).ownBlock) (.slice Ao16 x8_2.length co16) x8_2) ∧ (Below w1.heap.size w1 w')) ?_ ?_
            rotate_left
            ·intro hCont
             refine two_ (i := 2) (j := 7) (Ni := some 47) (Nj := some 52) #[true, true, true, true, true, true, true, false, false, false, false, false] #[true, true, false, true, true, true, true, true, false, false, false, false] rfl rfl rfl rfl (two_of HT_.out (by kernel_rfl)) (by decide) (by decide) (fun K hK => ?_) (fun K hK => ?_)
             ·skip
              refine goes_ Try.func54 (by kernel_rfl) rfl #[.slice A118_0 (rd_L2 l0 x40_2).length c118_0] (by rfl) rfl rfl av ?_
              with_reducible refine (slices_Clone_byte_byte.calls _ _ (rd_L2 l0 x40_2) t119 _ ?side1 ?side2 A12.out).mono ?_
              (case side1 => exact cv ((Kd.C_below HR118_0.out HB.out)))
              (case side2 => exact HC118_0.out)
              rintro e w18 ⟨v120, rfl, ho0, hb⟩
              refine ⟨_, rfl, ?_⟩
              have n0_ := Aside0.mk (Kd.S_elder' (mv HO_8.out) (Kd.R_base ho0) hb)
              have n1_ := Aside0.mk (Kd.R_lower ho0 (below_size (bt)))
              have n2_ := Aside0.mk (below_step (bt) hb)
              clear HO_8
              clear HB
              have HO_8 := n0_
              have HO121 := n1_
              have HB := n2_
              clear n0_ n1_ n2_
              (try clear hb)
              (try clear hb2)
              (try clear hk)
              (try clear hi)
              (try clear ho0)
              refine hK.out _ _ (((HB.out.cell (World.block_lt_of_cell? w1 _ hw122_0)).trans hw122_0)) (fun hHeld => ?_)
              clear hK K
              refine nz (N := some 47) ?_
              refine one_ (i := 7) (N := some 52) #[true, true, true, true, true, true, true, true, false, false, false, false] rfl rfl (one_of HT_.out (by kernel_rfl)) (by decide) (fun K hK => ?_)
              refine Kd.R_lit_step (Kd.int .u8) _ 5 ?hg (N := 52) ?hd (xs := ([rd l1 x40_2] : List Int)) (inner := [.int .u8 (rd l1 x40_2)]) (ok := fun _ => True) (okp := fun _ => True) ?hr ?hp (fun _ hk => hk) trivial (Below.refl _ _) (Nat.le_refl _) (by simp) ?_; (case hd => rfl); (case hg => rfl); (case hr => first | (go_simp; done) | (go_simp; rfl)); (case hp => exact (Reps.one (show Kd.M (Kd.int .u8) _ _ _ (rd l1 x40_2) [.int .u8 (rd l1 x40_2)] from rfl) (Reps.none _ _)))
              intro v124 w19 ho20 hb hg_ hnew_
              clear hg_ hnew_
              (first | rw [← Ny123.out] at ho20 | (simp only [Int.reduceToNat] at ho20; rw [← Ny123.out] at ho20))
              have n0_ := Aside0.mk (Kd.S_elder' (mv HO_8.out) (Kd.R_base ho20) hb)
              have n1_ := Aside0.mk (Kd.R_elder' (mv HO121.out) (Kd.R_base ho20) hb)
              have n2_ := Aside0.mk (Kd.R_lower (Kd.R_new' ho20 (Kd.R_lt (mv HO121.out))) (below_size (bt)))
              have n3_ := Aside0.mk (below_step (bt) hb)
              clear HO_8
              clear HO121
              clear HB
              have HO_8 := n0_
              have HO121 := n1_
              have HO125 := n2_
              have HB := n3_
              clear n0_ n1_ n2_ n3_
              clear hb ho20
              refine hK.out _ _ (((HB.out.cell (World.block_lt_of_cell? w1 _ hw122_0)).trans hw122_0)) (fun hHeld => ?_)
              clear hK K
              refine nz (N := some 52) ?_
              exact norm_ (by simp only [putAll, Act.put, List.setIfInBounds_toArray, List.set_cons_zero, List.set_cons_succ]) (hCont (v120, v124) _ ⟨hHeld, (by (with_reducible repeat (first | apply Kd.R_alloc | apply Kd.R_drewN | apply Kd.R_drew)); exact Kd.R_mono HO121.out (fun _ hk => hk.2)), (by (with_reducible repeat (first | apply Kd.R_alloc | apply Kd.R_drewN | apply Kd.R_drew)); exact Kd.R_mono HO125.out (fun _ hk => hk.2)), (by (with_reducible repeat (first | apply Kd.S_alloc | apply Kd.S_drewN | apply Kd.S_drew)); exact Kd.S_mono HO_8.out (fun _ hk => ⟨hk.1.2, hk.2⟩)), (bt)⟩)
             ·skip
              refine Kd.R_lit_step (Kd.int .u8) _ 5 ?hg (N := 52) ?hd (xs := ([rd l1 x40_2] : List Int)) (inner := [.int .u8 (rd l1 x40_2)]) (ok := fun _ => True) (okp := fun _ => True) ?hr ?hp (fun _ hk => hk) trivial (Below.refl _ _) (Nat.le_refl _) (by simp) ?_; (case hd => rfl); (case hg => rfl); (case hr => first | (go_simp; done) | (go_simp; rfl)); (case hp => exact (Reps.one (show Kd.M (Kd.int .u8) _ _ _ (rd l1 x40_2) [.int .u8 (rd l1 x40_2)] from rfl) (Reps.none _ _)))
              intro v124 w18 ho19 hb hg_ hnew_
              clear hg_ hnew_
              (first | rw [← Ny123.out] at ho19 | (simp only [Int.reduceToNat] at ho19; rw [← Ny123.out] at ho19))
              have n0_ := Aside0.mk (Kd.S_elder' (mv HO_8.out) (Kd.R_base ho19) hb)
              have n1_ := Aside0.mk (Kd.R_lower ho19 (below_size (bt)))
              have n2_ := Aside0.mk (below_step (bt) hb)
              clear HO_8
              clear HB
              have HO_8 := n0_
              have HO125 := n1_
              have HB := n2_
              clear n0_ n1_ n2_
              clear hb ho19
              refine hK.out _ _ (((HB.out.cell (World.block_lt_of_cell? w1 _ hw122_0)).trans hw122_0)) (fun hHeld => ?_)
              clear hK K
              refine nz (N := some 52) ?_
              refine one_ (i := 2) (N := some 47) #[true, true, true, true, true, true, true, true, false, false, false, false] rfl rfl (one_of HT_.out (by kernel_rfl)) (by decide) (fun K hK => ?_)
              refine goes_ Try.func54 (by kernel_rfl) rfl #[.slice A118_0 (rd_L2 l0 x40_2).length c118_0] (by rfl) rfl rfl av ?_
              with_reducible refine (slices_Clone_byte_byte.calls _ _ (rd_L2 l0 x40_2) t119 _ ?side1 ?side2 A12.out).mono ?_
              (case side1 => exact cv ((Kd.C_below HR118_0.out HB.out)))
              (case side2 => exact HC118_0.out)
              rintro e w20 ⟨v120, rfl, ho0, hb⟩
              refine ⟨_, rfl, ?_⟩
              have n0_ := Aside0.mk (Kd.S_elder' (mv HO_8.out) (Kd.R_base ho0) hb)
              have n1_ := Aside0.mk (Kd.R_elder' (mv HO125.out) (Kd.R_base ho0) hb)
              have n2_ := Aside0.mk (Kd.R_lower (Kd.R_new' ho0 (Kd.R_lt (mv HO125.out))) (below_size (bt)))
              have n3_ := Aside0.mk (below_step (bt) hb)
              clear HO_8
              clear HO125
              clear HB
              have HO_8 := n0_
              have HO125 := n1_
              have HO121 := n2_
              have HB := n3_
              clear n0_ n1_ n2_ n3_
              (try clear hb)
              (try clear hb2)
              (try clear hk)
              (try clear hi)
              (try clear ho0)
              refine hK.out _ _ (((HB.out.cell (World.block_lt_of_cell? w1 _ hw122_0)).trans hw122_0)) (fun hHeld => ?_)
              clear hK K
              refine nz (N := some 47) ?_
              exact norm_ (by simp only [putAll, Act.put, List.setIfInBounds_toArray, List.set_cons_zero, List.set_cons_succ]) (hCont (v120, v124) _ ⟨hHeld, (by (with_reducible repeat (first | apply Kd.R_alloc | apply Kd.R_drewN | apply Kd.R_drew)); exact Kd.R_mono HO121.out (fun _ hk => hk.2)), (by (with_reducible repeat (first | apply Kd.R_alloc | apply Kd.R_drewN | apply Kd.R_drew)); exact Kd.R_mono HO125.out (fun _ hk => hk.2)), (by (with_reducible repeat (first | apply Kd.S_alloc | apply Kd.S_drewN | apply Kd.S_drew)); exact Kd.S_mono HO_8.out (fun _ hk => ⟨hk.2, hk.1.2⟩)), (bt)⟩)
            rintro ⟨v120, v124⟩ w21 ⟨hS_, h0_, h1_, h2_, h3_⟩
            have n0_ : Aside0 (Kd.R (Kd.int .u8) 5 w21 w1.heap.size (fun k_ => some k_ ≠ (v124 : Value).ownBlock) v120 t119) := ⟨h0_⟩
            have n1_ : Aside0 (Kd.R (Kd.int .u8) 5 w21 w1.heap.size (fun k_ => some k_ ≠ (v120 : Value).ownBlock) v124 y123) := ⟨h1_⟩
            have n2_ : Aside0 (Kd.S (Kd.slice 5 (Kd.int .u8)) 24 w21 w1.heap.size (fun k_ => some k_ ≠ (v120 : Value).ownBlock ∧ some k_ ≠ (v124 : Value).ownBlock) (.slice Ao16 x8_2.length co16) x8_2) := ⟨h2_⟩
            have n3_ : Aside0 (Below w1.heap.size w1 w21) := ⟨h3_⟩
            clear HO_8
            clear HB
            clear h0_ h1_ h2_ h3_
            have HO121 := n0_
            have HO125 := n1_
            have HO_8 := n2_
            have HB := n3_
            clear n0_ n1_ n2_ n3_
            have hHeld : w21.cell? (ad122.add (x40_2).toNat) = some (.int .u8 (rd l1 x40_2)) := hS_
            obtain ⟨Ao23, co23, eo23⟩ := Kd.R_slice HO125.out
            (first | subst eo23 | (injection eo23 with f1_ f2_ f3_; have f4_ := f1_.symm; have f5_ := f3_.symm; clear f1_ f2_ f3_; subst f4_; subst f5_))
            refine norm_ (a' := ?_) ?_ ?_
            rotate_left
            ·simp only [putAll, Act.put, List.setIfInBounds_toArray, List.set_cons_zero, List.set_cons_succ]
             rfl
            refine one_ (i := 8) (N := some 53) #[true, true, true, true, true, true, true, true, true, false, false, false] rfl rfl (one_of HT_.out (by kernel_rfl)) (by decide) (fun K hK => ?_)
            refine Kd.R_append_rows_step (Kd.int .u8) (w0 := w1) w1.heap.size (by rfl) (.tmp 47) (.tmp 52) 24 5 (.int .u8 0) 1 rfl Try.underlying24 info5 rfl (by decide) (by omega) v120 t119 y123 _ _ _ (fun k_ => some k_ ≠ (.slice Ao23 y123.length co23 : Value).ownBlock) (fun _ => False) rfl rfl ?aO ?aR (fun _ _ h => h) (fun _ h => h.elim) ?aF ?aB ?aS ?aL ?_
            (case aR => exact cv ((Kd.R_reads' HO125.out).2.2))
            (case aB => exact (bt))
            (case aF => exact (fun k_ hk => Kd.fresh' (Kd.R_lt (mv HO125.out)) k_ hk))
            (case aO => exact (mv HO121.out))
            (case aS => exact (below_size (bt)))
            (case aL => have := LMc14.out; omega)
            intro v127 w22 ho hb hg hat
            rw [← Ny126.out] at ho
            have n0_ := Aside0.mk (Kd.S_after (ok := (fun k_ => some k_ ≠ (.slice Ao23 y123.length co23 : Value).ownBlock)) (by (with_reducible repeat (first | apply Kd.S_alloc | apply Kd.S_drewN | apply Kd.S_drew)); exact Kd.S_mono HO_8.out (fun _ hk => ⟨hk.2, hk.1⟩)) hg hat)
            have n1_ := Aside0.mk (Kd.R_after (ok := (fun _ => True)) (by (with_reducible repeat (first | apply Kd.R_alloc | apply Kd.R_drewN | apply Kd.R_drew)); exact Kd.R_mono HO125.out (fun _ hk => ⟨trivial, hk⟩)) hg hat)
            have n2_ := Aside0.mk (hb)
            have n3_ := Aside0.mk (ho)
            clear HO_8
            clear HO125
            clear HB
            clear HO121
            have HO_8 := n0_
            have HO125 := n1_
            have HB := n2_
            have HO128 := n3_
            clear n0_ n1_ n2_ n3_
            clear ho hb hg hat
            obtain ⟨Ao24, co24, eo24⟩ := Kd.R_slice HO128.out
            (first | subst eo24 | (injection eo24 with f1_ f2_ f3_; have f4_ := f1_.symm; have f5_ := f3_.symm; clear f1_ f2_ f3_; subst f4_; subst f5_))
            refine hK.out _ _ (((HB.out.cell (World.block_lt_of_cell? w1 _ hw122_0)).trans hw122_0)) (fun hHeld => ?_)
            clear hK K
            refine nz (N := some 53) ?_
            refine one_ (i := 9) (N := some 54) #[true, true, true, true, true, true, true, true, true, true, false, false] rfl rfl (one_of HT_.out (by kernel_rfl)) (by decide) (fun K hK => ?_)
            refine value_ (w1 := ?_) (v := ?_) (by rfl) rfl ?_ ?_
            rotate_left 2
            ·go_simp
             constructor
             ·rfl
             ·rfl
            refine hK.out _ _ ((((below_alloc HB.out _).cell (World.block_lt_of_cell? w1 _ hw122_0)).trans hw122_0)) (fun hHeld => ?_)
            clear hK K
            refine nz (N := some 54) ?_
            refine one_ (i := 10) (N := some 55) #[true, true, true, true, true, true, true, true, true, true, true, false] rfl rfl (one_of HT_.out (by kernel_rfl)) (by decide) (fun K hK => ?_)
            refine Kd.S_append_step (Kd.slice 5 (Kd.int .u8)) (w0 := w1) w1.heap.size (by rfl) (.tmp 45) (.tmp 54) 22 24 (.slice none 0 0) 24 rfl Try.underlying22 info24 rfl (by decide) (by omega) (.slice Ao16 x8_2.length co16) x8_2 y126 [.slice Ao24 y126.length co24] (fun _ => True) (fun k_ => some k_ = (.slice Ao24 y126.length co24 : Value).ownBlock) rfl rfl ?aP ?aQ (fun _ _ => trivial) ?aO ?aB ?aS ?aL ?_
            (case aP => exact Kd.M_row (Kd.R_tight rfl HO128.out))
            (case aQ => exact fun k_ hk_ => ⟨trivial, ((Kd.R_apart' HO128.out (Kd.S_typed HO_8.out) (by decide)).1 k_ hk_.symm).2⟩)
            (case aB => exact (bt))
            (case aO => exact Kd.S_mono HO_8.out (fun k_ hk => ⟨trivial, fun e_ => hk.2 e_⟩))
            (case aS => exact (below_size (bt)))
            (case aL => have := LMc15.out; have e_ := congrArg List.length Ny129.out; simp only [List.length_cons, List.length_nil] at e_; omega)
            intro v133 w27 ho hb hg hat
            rw [show x8_2 ++ [y126] = y132 by rw [Ny132.out, Ny129.out]] at ho
            have n2_ := Aside0.mk (hb)
            have n3_ := Aside0.mk (ho)
            clear HB
            clear HO_8
            clear HO125
            clear HO128
            have HB := n2_
            have HO134 := n3_
            clear n2_ n3_
            clear ho hb hg hat
            refine hK.out _ _ (((HB.out.cell (World.block_lt_of_cell? w1 _ hw122_0)).trans hw122_0)) (fun hHeld => ?_)
            clear hK K
            refine nz (N := some 55) ?_
            refine pz (i := 11) (N := some 8) #[true, true, true, true, true, true, true, true, true, true, true, true] rfl rfl HT_.out ?_
            refine done_ (done_of HT_.out (by kernel_rfl)) ?_
            (try simp only [Dig.setCell_drewN])
            try go_wp2
            go_roundg k2
            case measure => have := HJ2.out; have := HK2.out; omega
            case rel => exact ⟨(y132), (wrap64 (x40_2 + 1)), (by first | rfl | (simp; done) | (simp [*]; done)), H', ⟨by have := HJ2.out; have := HK2.out; omega⟩, ⟨by (with_reducible repeat (first | apply Kd.S_alloc | apply Kd.S_drewN | apply Kd.S_drew)); exact Kd.S_mono HO134.out (fun _ hk => trivial)⟩, ⟨bt⟩⟩
           ·rw [if_neg c15] at H
            exact absurd H (by simp)
          ·rw [if_neg c14] at H
           exact absurd H (by simp)
         ·rw [if_neg c13] at H
          exact absurd H (by simp)
        ·rw [if_neg c11] at H
         exact absurd H (by simp)
       ·rw [if_neg c10] at H
        exact absurd H (by simp)
      ·rw [if_neg c9] at H
       have c9b0 : decide (x40_2 < (l0.length : Int)) = false := decide_eq_false c9
       clear c9
       have hT : Mat.tailF (impl_GfMul.f k2) (impl_GfInv.f k2) (impl_GfAxpy.f k2) (l0.length : Int) x8_2 = some (r1, r2) := H
       clear H
       unfold Mat.tailF at hT
       by_cases hg : (1 ≤ (l0.length : Int) ∧ (l0.length : Int) ≤ 12) ∧ (x8_2.length : Int) = (l0.length : Int) ∧ ∀ r ∈ x8_2, (r.length : Int) = (l0.length : Int) + 1
       · rw [if_pos hg] at hT
         obtain ⟨R, hS, hL⟩ := Option.map_eq_some_iff.1 hT
         rw [Int.toNat_natCast] at hS hL
         obtain ⟨⟨hg1, hg2⟩, hg3, hg4⟩ := hg
         have hml : x8_2.length = l0.length := by omega
         have hrl : ∀ r ∈ x8_2, r.length = l0.length + 1 := fun r hr => by have := hg4 r hr; omega
         have hn1 : 1 ≤ l0.length := by omega
         have hn2 : l0.length ≤ 12 := by omega
         obtain ⟨g, cap, bs, cs, hv, hcap, hM⟩ := Mat.mt_of_S (m := l0.length + 1) HO_8.out (by omega) (Nat.succ_pos l0.length) hrl
         subst hv
         rw [hml] at hM hcap
         rw [hml]
         have hgL := HG0.out.lt
         have HG := Aside0.mk (HG0.out.below HB.out)
         clear hT hg1 hg2 hg3 hg4 hrl hml HO_8 HR0 HC0 HR1 HC1 HJ2 HK2 HSC hc00 HW1 HGW HG0
         generalize l0.length = n at hS hL hn1 hn2 hM hcap c9b0 HG ⊢
         obtain ⟨m, hm⟩ : ∃ m, m = n + 1 := ⟨_, rfl⟩
         rw [← hm] at hM
         have HS := Aside0.mk hS
         have HL := Aside0.mk hL
         have HM := Aside0.mk hM
         have HN := Aside0.mk (⟨hn1, hn2⟩ : 1 ≤ n ∧ n ≤ 12)
         have HC := Aside0.mk hcap
         have HMN := Aside0.mk hm
         clear hS hL hM hn1 hn2 hcap hm hgL
         go_wp2
         go_loopw [59] (fun v59 w2 => ∃ (i : Nat) (bs cs : Nat → Nat) (M : List (List Int)), v59 = .int .i64 i ∧ Aside0 (i ≤ n) ∧ Aside0 (Mat.Mt w2 w1.heap.size g n m bs cs (fun _ => True) M) ∧ Aside0 (Mat.solveF (impl_GfMul.f k2) (impl_GfInv.f k2) (impl_GfAxpy.f k2) n (n - i) M = some R) ∧ Aside0 (Mat.Bx w2 g0 (.int .i64 (n : Int))) ∧ Aside0 (Below w1.heap.size w1 w2)) (fun v59 _ => n - (intOf v59).toNat)
         case atStart => exact ⟨0, bs, cs, x8_2, rfl, ⟨Nat.zero_le _⟩, HM, by rw [Nat.sub_zero]; exact HS, HG, HB⟩
         case round =>
          clear HM HS HB HG
          obtain ⟨i, bs, cs, M, rfl, HI, HM, HS, HG, HB⟩ := hrel
          have p2 : 0 ≤ (i : Int) := Int.natCast_nonneg i
          have r2_ : (i : Int) ≤ 12 := by have := HI.out; have := HN.out; omega
          by_cases hin : i < n
          · have d1 : decide ((i : Int) < (n : Int)) = true := decide_eq_true (by omega)
            have d1n : decide (i < n) = true := decide_eq_true hin
            have hS := HS.out
            have e1 : n - i = (n - (i + 1)) + 1 := by omega
            rw [e1] at hS
            unfold Mat.solveF at hS
            have e2 : n - ((n - (i + 1)) + 1) = i := by omega
            rw [e2] at hS
            obtain ⟨P, hP⟩ : ∃ P, P = Mat.pivF i (M.drop i) i := ⟨_, rfl⟩
            rw [← hP] at hS
            have q2n : i < m := by have := HMN.out; omega
            have q2 : (i : Int) < (m : Int) := by omega
            have q3n : i < n := hin
            have q3 : (i : Int) < (n : Int) := by omega
            have s1 : i ≤ n := by omega
            have s2 : (i : Int) ≤ (n : Int) := by omega
            have s3 : i ≤ cap := by have := HC.out; omega
            have s4 : (i : Int) ≤ (cap : Int) := by omega
            have s5 : i < cap := by have := HC.out; omega
            have s6 : (i : Int) < (cap : Int) := by omega
            have s7 : ¬ cap = i := by omega
            obtain ⟨w3, hw3⟩ : ∃ w3, w3 = wr.alloc (.cells #[.int .i64 (i : Int)] 3) := ⟨_, rfl⟩
            obtain ⟨gi, hgi⟩ : ∃ gi, gi = wr.heap.size := ⟨_, rfl⟩
            have hb3 : Below wr.heap.size wr w3 := by rw [hw3]; exact below_alloc (Below.refl _ _) _
            have HX3 : Aside0 (Mat.Bx w3 gi (.int .i64 (i : Int))) := ⟨by rw [hw3, hgi]; exact Mat.Bx.new _ _⟩
            have HM3 := Aside0.mk (HM.out.below hb3)
            have HG3 := Aside0.mk (HG.out.below hb3)
            have HB3 := Aside0.mk (below_step HB.out hb3)
            have HGI : Aside0 (w1.heap.size ≤ gi) := ⟨by rw [hgi]; exact HB.out.size⟩
            have hlen : (M.drop i).length = n - i := by rw [List.length_drop, HM.out.len]
            have hmb : m ≤ 1000000 := by have := HMN.out; have := HN.out; omega
            have hix := rows_index 56 (.pointer (some ⟨gi, 0, none⟩)) (fun x => x.getD i 0 != 0) (enters_of Try.func56 (by kernel_rfl) rfl) (some ⟨g, i, none⟩) (cap - i) (M.drop i) w3 (by rw [hlen]; have := HN.out; omega) (fun k hk => by
              have hkn : i + k < n := by rw [hlen] at hk; omega
              have eg : (M.drop i).getD k [] = M.getD (i + k) [] := by rw [List.getD_eq_getElem?_getD, List.getElem?_drop, ← List.getD_eq_getElem?_getD]
              have hrw := HM3.out.row (i + k) hkn trivial
              have hcl := (HM3.out.cell hkn trivial).1
              have ea : (Addr.mk g i none).add k = ⟨g, i + k, none⟩ := by cases k <;> simp [Addr.add]
              rw [eg, hrw.len]
              exact ⟨⟨g, i, none⟩, some ⟨bs (i + k), 0, none⟩, cs (i + k), rfl, by rw [ea]; exact hcl, fun md => nz_lit (bs (i + k)) m (cs (i + k)) gi i _ (w3.drewN md) q2n hmb HX3.out.cell (hrw.cell q2n).1⟩)
            rw [firstIx_piv i i (M.drop i) 0, Nat.zero_add, hlen, ← hP] at hix
            have HW3 := Aside0.mk hw3
            have HGW := Aside0.mk hgi
            have hcx := HX3.out.cell
            cases P with
            | none =>
              dsimp only at hS hix
              have hR := Option.some.inj hS
              have hL := HL.out
              rw [← hR] at hL
              unfold Mat.lastF at hL
              injection hL with hL1 hL2
              subst hL1 hL2
              have HIX := Aside0.mk hix
              clear hS hR HS HL hix hlen hmb hP e1 e2 hin hb3 hw3 hgi HM HB HG
              replace HB := HB3
              go_upto_region 14 with (fail)
              rw [← HW3.out, ← HGW.out]
              go_wp2_with (go_at_call 55; refine HIX.out.mono ?_; rintro e w' ⟨rfl, ⟨nd, rfl⟩⟩)
              go_ret2
              exact ⟨_, by first | rfl | (simp [errW_none, errW_some] <;> rfl) | (simp [*, errW_none, errW_some] <;> rfl), Kd.R_nil _ _ _ _ _, below_step HBW.out (bt)⟩
            | some p =>
              dsimp only at hS hix
              have hps := Mat.pivF_some hP.symm
              rw [hlen] at hps
              obtain ⟨d, hd⟩ : ∃ d, p = i + d := ⟨p - i, by omega⟩
              have hpn : p < n := by omega
              rw [show ((p : Nat) : Int) - (i : Int) = (d : Int) by omega] at hix
              have HIX := Aside0.mk hix
              have HD := Aside0.mk hd
              have HPN := Aside0.mk hpn
              have n0 : decide ((d : Int) < 0) = false := decide_eq_false (by omega)
              have n1 : ¬ (d : Int) < 0 := by omega
              have n2 : 0 ≤ (d : Int) := by omega
              obtain ⟨⟨c, cb⟩, hc, hS⟩ := Option.bind_eq_some_iff.1 hS
              obtain ⟨row, hrow, hS⟩ := Option.bind_eq_some_iff.1 hS
              obtain ⟨M2, hM2, hS⟩ := Option.bind_eq_some_iff.1 hS
              dsimp only at hrow
              have HC2 := Aside0.mk hc
              have HSC := Aside0.mk hrow
              have HEL := Aside0.mk hM2
              have HS2 := Aside0.mk hS
              have ew : IntKind.i64.wrap ((i : Int) + (d : Int)) = (p : Int) := by have := HN.out; rw [IntKind.wrap_i64]; omega
              clear hS HS hix hlen hmb hP e1 e2 hin hb3 hw3 hgi HM HB HG hps hd hc hrow hM2
              go_upto_region 14 with (fail)
              rw [← HW3.out, ← HGW.out]
              go_upto_region 17 with (go_at_call 55; refine HIX.out.mono ?_; rintro e w' ⟨rfl, ⟨nd, rfl⟩⟩)
              have HM5 := Aside0.mk (HM3.out.same (w1 := (w3.drewN nd).drew) rfl)
              have HG5 := Aside0.mk (HG3.out.same (w1 := (w3.drewN nd).drew) rfl)
              have HX5 := Aside0.mk (HX3.out.same (w1 := (w3.drewN nd).drew) rfl)
              have HB5 := Aside0.mk (below_drew1 (pw_below_drewN HB3.out nd))
              have x1 := HX5.out.cell
              obtain ⟨xi, fi⟩ := HM5.out.cell q3n trivial
              obtain ⟨xp, fp⟩ := HM5.out.cell HPN.out trivial
              have p3 : 0 ≤ (p : Int) := Int.natCast_nonneg p
              have q4 : (p : Int) < (n : Int) := by have := HPN.out; omega
              have q4n : p < n := HPN.out
              clear HM3 HG3 HX3 HB3 hcx n0 n1
              refine start_ (n := 20) (S := fun w' => w'.cell? ⟨gi, 0, none⟩ = some (.int .i64 (i : Int)) ∧ w'.cell? ⟨g, p, none⟩ = some (.slice (some ⟨bs p, 0, none⟩) m (cs p))) (ds := [19]) #[false, false, false, false, false, false, false, false, false, false, false, false, false, false, false, false, false, false, false, false] (by kernel_rfl) rfl rfl ⟨x1, xp⟩ (fun hHeld => ?_); refine with_tabW impl_GfSolve.tab17 impl_GfSolve.bits17 (fun HT_ HW_ => ?_)
              generalize (w3.drewN nd).drew = w5 at x1 xi fi xp fp HM5 HG5 HX5 HB5 hHeld ⊢
              refine pz (i := 0) (N := some 69) #[true, false, false, false, false, false, false, false, false, false, false, false, false, false, false, false, false, false, false, false] rfl rfl HT_.out ?_
              refine pz (i := 2) (N := some 71) #[true, false, true, false, false, false, false, false, false, false, false, false, false, false, false, false, false, false, false, false] rfl rfl HT_.out ?_
              refine pz (i := 4) (N := some 73) #[true, false, true, false, true, false, false, false, false, false, false, false, false, false, false, false, false, false, false, false] rfl rfl HT_.out ?_
              refine pz (i := 6) (N := some 75) #[true, false, true, false, true, false, true, false, false, false, false, false, false, false, false, false, false, false, false, false] rfl rfl HT_.out ?_
              refine pz (i := 8) (N := some 77) #[true, false, true, false, true, false, true, false, true, false, false, false, false, false, false, false, false, false, false, false] rfl rfl HT_.out ?_
              refine pz (i := 12) (N := some 81) #[true, false, true, false, true, false, true, false, true, false, false, false, true, false, false, false, false, false, false, false] rfl rfl HT_.out ?_
              refine tz (i := 1) (N := some 70) #[true, true, true, false, true, false, true, false, true, false, false, false, true, false, false, false, false, false, false, false] rfl rfl HT_.out HW_.out hHeld (Or.inl ⟨by rfl, by rintro w' ⟨s0, s1⟩; go_simp; with_reducible rfl⟩) ?_
              refine tz (i := 3) (N := some 72) #[true, true, true, true, true, false, true, false, true, false, false, false, true, false, false, false, false, false, false, false] rfl rfl HT_.out HW_.out hHeld (Or.inl ⟨by rfl, by rintro w' ⟨s0, s1⟩; go_simp; with_reducible rfl⟩) ?_
              refine tz (i := 7) (N := some 76) #[true, true, true, true, true, false, true, true, true, false, false, false, true, false, false, false, false, false, false, false] rfl rfl HT_.out HW_.out hHeld (Or.inl ⟨by rfl, by rintro w' ⟨s0, s1⟩; go_simp; with_reducible rfl⟩) ?_
              refine tz (i := 13) (N := some 82) #[true, true, true, true, true, false, true, true, true, false, false, false, true, true, false, false, false, false, false, false] rfl rfl HT_.out HW_.out hHeld (Or.inl ⟨by rfl, by rintro w' ⟨s0, s1⟩; go_simp; with_reducible rfl⟩) ?_
              refine pz (i := 5) (N := some 74) #[true, true, true, true, true, true, true, true, true, false, false, false, true, true, false, false, false, false, false, false] rfl rfl HT_.out ?_
              refine pz (i := 9) (N := some 78) #[true, true, true, true, true, true, true, true, true, true, false, false, true, true, false, false, false, false, false, false] rfl rfl HT_.out ?_
              refine pz (i := 10) (N := some 79) #[true, true, true, true, true, true, true, true, true, true, true, false, true, true, false, false, false, false, false, false] rfl rfl HT_.out ?_
              refine tz (i := 11) (N := some 80) #[true, true, true, true, true, true, true, true, true, true, true, true, true, true, false, false, false, false, false, false] rfl rfl HT_.out HW_.out hHeld (Or.inl ⟨by rfl, by rintro w' ⟨s0, s1⟩; go_simp; with_reducible rfl⟩) ?_
              refine pz (i := 14) (N := some 83) #[true, true, true, true, true, true, true, true, true, true, true, true, true, true, true, false, false, false, false, false] rfl rfl HT_.out ?_
              refine one_ (i := 15) (N := some 84) #[true, true, true, true, true, true, true, true, true, true, true, true, true, true, true, true, false, false, false, false] rfl rfl (one_of HT_.out (by kernel_rfl)) (by decide) (fun K hK => ?_)
              refine value_ (w1 := ?_) (v := ?_) (by rfl) rfl ?_ ?_
              rotate_left 2
              · go_simp
                constructor
                · rfl
                · rfl
              refine hK.out _ _ ⟨x1, xp⟩ (fun hHeld => ?_)
              clear hK K
              refine nz (N := some 84) ?_
              refine pz (i := 16) (N := some 85) #[true, true, true, true, true, true, true, true, true, true, true, true, true, true, true, true, true, false, false, false] rfl rfl HT_.out ?_
              have hM6 := ((HM5.out.off (on' := fun q => q ≠ p) (fun _ _ => trivial)).seat q3n (HM5.out.row p q4n trivial) (fun q hq hqp _ e => hqp (HM5.out.inj q p hq q4n trivial trivial e))).off (on' := fun q => q ≠ p) (fun q hq => .inr hq)
              have hri := (HM5.out.row i q3n trivial).far (p := ⟨g, i, none⟩) (HM5.out.ne q3n trivial) (.slice (some ⟨bs p, 0, none⟩) m (cs p))
              have hM7 := (hM6.seat q4n hri (fun q hq hqp _ e => by
                by_cases hqi : q = i
                · rw [if_pos hqi] at e
                  exact hqp (hqi.trans (HM5.out.inj p i q4n q3n trivial trivial e).symm)
                · rw [if_neg hqi] at e
                  exact hqi (HM5.out.inj q i hq q3n trivial trivial e))).off (on' := fun _ => True) (fun q _ => by by_cases e : q = p; exact .inl e; exact .inr e)
              have hgg := HG5.out.ne_mt HM5.out
              have hxg := HX5.out.ne_mt HM5.out
              have HG7 := Aside0.mk ((HG5.out.far (p := ⟨g, i, none⟩) hgg (.slice (some ⟨bs p, 0, none⟩) m (cs p))).far (p := ⟨g, p, none⟩) hgg (.slice (some ⟨bs i, 0, none⟩) m (cs i)))
              have HX7 := Aside0.mk ((HX5.out.far (p := ⟨g, i, none⟩) hxg (.slice (some ⟨bs p, 0, none⟩) m (cs p))).far (p := ⟨g, p, none⟩) hxg (.slice (some ⟨bs i, 0, none⟩) m (cs i)))
              have HB7 := Aside0.mk ((HB5.out.setCell (p := ⟨g, i, none⟩) HM5.out.ge (.slice (some ⟨bs p, 0, none⟩) m (cs p))).setCell (p := ⟨g, p, none⟩) HM5.out.ge (.slice (some ⟨bs i, 0, none⟩) m (cs i)))
              have HM7 := Aside0.mk hM7
              obtain ⟨vv, x6, f6⟩ := hM6.any_ q4n
              have HGE := Aside0.mk HM5.out.ge
              have hMi := Mat.swap_get (p := p) (i := i) (M := M) (by rw [HM5.out.len]; exact q3n)
              have HMI := Aside0.mk hMi
              have hML : ((M.set i (M.getD p [])).set p (M.getD i [])).length = n := hM7.len
              have HML := Aside0.mk hML
              have hel := HEL.out
              rw [← Mat.swap_set (X := M.getD p [])] at hel
              have HEL2 := Aside0.mk hel
              clear hM6 hri hM7 hgg hxg hMi hML hel HEL
              have HXP := Aside0.mk (HM5.out.over (i := i) q4n trivial)
              have HXB := Aside0.mk ((HX5.out.far (p := ⟨g, i, none⟩) (HX5.out.ne_mt HM5.out) (.slice (some ⟨bs p, 0, none⟩) m (cs p))).cell)
              refine one_ (i := 17) (N := none) #[true, true, true, true, true, true, true, true, true, true, true, true, true, true, true, true, true, true, false, false] rfl rfl (one_of HT_.out (by kernel_rfl)) (by decide) (fun K hK => ?_)
              refine skip_ (w1 := ?_) (by rfl) rfl ?_ ?_
              rotate_left
              · go_simp
                rfl
              refine hK.out _ _ ⟨HXB.out, HXP.out⟩ (fun hHeld => ?_)
              clear hK K HXB HXP
              refine pz (i := 18) (N := some 86) #[true, true, true, true, true, true, true, true, true, true, true, true, true, true, true, true, true, true, true, false] rfl rfl HT_.out ?_
              refine last_ (i := 19) (N := none) #[true, true, true, true, true, true, true, true, true, true, true, true, true, true, true, true, true, true, true, true] rfl rfl (one_of HT_.out (by kernel_rfl)) (by decide) (fun K hK => ?_)
              refine skip_ (w1 := ?_) (by rfl) rfl ?_ ?_
              rotate_left
              · go_simp
                rfl
              refine hK.out _ _ ?_
              clear hK K
              refine done_ (done_of HT_.out (by kernel_rfl)) ?_
              generalize (w5.setCell ⟨g, i, none⟩ (.slice (some ⟨bs p, 0, none⟩) m (cs p))).setCell ⟨g, p, none⟩ (.slice (some ⟨bs i, 0, none⟩) m (cs i)) = w7 at HM7 HG7 HX7 HB7 ⊢
              clear x1 xi fi xp fp x6 f6 HM5 HG5 HX5 HB5 hHeld HT_ HW_ ew
              generalize (fun q => if q = p then bs i else if q = i then bs p else bs q) = bs7 at HM7
              generalize (fun q => if q = p then cs i else if q = i then cs p else cs q) = cs7 at HM7
              generalize (M.set i (M.getD p [])).set p (M.getD i []) = M1 at HM7 HMI HML HEL2
              go_wp2
              have HM8 := Aside0.mk (HM7.out.same (w1 := w7.drew) rfl)
              have HG8 := Aside0.mk (HG7.out.same (w1 := w7.drew) rfl)
              have HX8 := Aside0.mk (HX7.out.same (w1 := w7.drew) rfl)
              have HB8 := Aside0.mk (below_drew1 HB7.out)
              have x1 := HX8.out.cell
              obtain ⟨xi, fi⟩ := HM8.out.cell q3n trivial
              obtain ⟨y1, g1⟩ := (HM8.out.row i q3n trivial).cell q2n
              obtain ⟨x, hx⟩ : ∃ x, x = (M1.getD i []).getD i 0 := ⟨_, rfl⟩
              rw [← hx] at y1
              have hc2 := HC2.out
              rw [← HMI.out, ← hx] at hc2
              have HC3 := Aside0.mk hc2
              have hsc := HSC.out
              rw [← HMI.out] at hsc
              have HSC2 := Aside0.mk hsc
              clear hx hc2 HC2 hsc HSC HM7 HG7 HX7 HB7
              refine start_ (n := 13) (S := fun w' => w'.cell? ⟨gi, 0, none⟩ = some (.int .i64 (i : Int)) ∧ w'.cell? ⟨g, i, none⟩ = some (.slice (some ⟨bs7 i, 0, none⟩) m (cs7 i)) ∧ w'.cell? ⟨bs7 i, i, none⟩ = some (.int .u8 x)) (ds := []) #[false, false, false, false, false, false, false, false, false, false, false, false, false] (by kernel_rfl) rfl rfl ⟨x1, xi, y1⟩ (fun hHeld => ?_); refine with_tabW impl_GfSolve.tab18 impl_GfSolve.bits18 (fun HT_ HW_ => ?_)
              generalize w7.drew = w8 at x1 xi fi y1 g1 HM8 HG8 HX8 HB8 hHeld ⊢
              refine pz (i := 0) (N := some 88) #[true, false, false, false, false, false, false, false, false, false, false, false, false] rfl rfl HT_.out ?_
              refine tz (i := 1) (N := some 89) #[true, true, false, false, false, false, false, false, false, false, false, false, false] rfl rfl HT_.out HW_.out hHeld (Or.inl ⟨by rfl, by rintro w' ⟨s0, s1, s2⟩; go_simp; with_reducible rfl⟩) ?_
              refine tz (i := 4) (N := some 92) #[true, true, false, false, true, false, false, false, false, false, false, false, false] rfl rfl HT_.out HW_.out hHeld (Or.inl ⟨by rfl, by rintro w' ⟨s0, s1, s2⟩; go_simp; with_reducible rfl⟩) ?_
              refine pz (i := 2) (N := some 90) #[true, true, true, false, true, false, false, false, false, false, false, false, false] rfl rfl HT_.out ?_
              refine tz (i := 3) (N := some 91) #[true, true, true, true, true, false, false, false, false, false, false, false, false] rfl rfl HT_.out HW_.out hHeld (Or.inl ⟨by rfl, by rintro w' ⟨s0, s1, s2⟩; go_simp; with_reducible rfl⟩) ?_
              refine pz (i := 5) (N := some 93) #[true, true, true, true, true, true, false, false, false, false, false, false, false] rfl rfl HT_.out ?_
              refine tz (i := 6) (N := some 94) #[true, true, true, true, true, true, true, false, false, false, false, false, false] rfl rfl HT_.out HW_.out hHeld (Or.inl ⟨by rfl, by rintro w' ⟨s0, s1, s2⟩; go_simp; with_reducible rfl⟩) ?_
              refine one_ (i := 7) (N := some 95) #[true, true, true, true, true, true, true, true, false, false, false, false, false] rfl rfl (one_of HT_.out (by kernel_rfl)) (by decide) (fun K hK => ?_)
              refine goes_ Try.func57 (by kernel_rfl) rfl #[.int .u8 x] (by rfl) rfl rfl av ?_
              with_reducible refine (impl_GfInv.calls k2 x c cb _ HC3.out).mono ?_
              rintro e w' ⟨rfl, ⟨nd8, rfl⟩⟩
              refine ⟨_, rfl, ?_⟩
              refine hK.out _ _ ⟨x1, xi, y1⟩ (fun hHeld => ?_)
              clear hK K
              refine nz (N := some 95) ?_
              refine pz (i := 8) (N := some 87) #[true, true, true, true, true, true, true, true, true, false, false, false, false] rfl rfl HT_.out ?_
              refine pz (i := 9) (N := some 96) #[true, true, true, true, true, true, true, true, true, true, false, false, false] rfl rfl HT_.out ?_
              refine pz (i := 10) (N := some 97) #[true, true, true, true, true, true, true, true, true, true, true, false, false] rfl rfl HT_.out ?_
              refine pz (i := 11) (N := some 13) #[true, true, true, true, true, true, true, true, true, true, true, true, false] rfl rfl HT_.out ?_
              refine pz (i := 12) (N := some 14) #[true, true, true, true, true, true, true, true, true, true, true, true, true] rfl rfl HT_.out ?_
              refine done_ (done_of HT_.out (by kernel_rfl)) ?_
              clear hHeld HT_ HW_ y1 g1
              go_wp2
              go_loopw [103] (fun v103 w9 => ∃ (j : Nat) (r : List Int), v103 = .int .i64 j ∧ Aside0 (j ≤ m) ∧ Aside0 (Mat.Mt w9 w1.heap.size g n m bs7 cs7 (fun _ => True) (M1.set i r)) ∧ Aside0 (∃ s, Mat.scaleF (impl_GfMul.f k2) c (r.drop j) = some s ∧ r.take j ++ s = row) ∧ Aside0 (Mat.Bx w9 g0 (.int .i64 (n : Int))) ∧ Aside0 (Mat.Bx w9 gi (.int .i64 (i : Int))) ∧ Aside0 (Below w1.heap.size w1 w9)) (fun v103 _ => m - (intOf v103).toNat)
              case atStart => exact ⟨0, M1.getD i [], rfl, ⟨Nat.zero_le _⟩, ⟨by rw [Mat.set_self (by rw [HML.out]; exact q3n)]; exact HM8.out.same rfl⟩, ⟨row, by rw [List.drop_zero]; exact HSC2.out, rfl⟩, ⟨HG8.out.same rfl⟩, ⟨HX8.out.same rfl⟩, ⟨pw_below_drewN HB8.out nd8⟩⟩
              case round =>
               clear HM8 HG8 HX8 HB8 HSC2 x1 xi fi
               obtain ⟨j, r, rfl, HJ, HM, HSC, HG, HX, HB⟩ := hrel
               have p4 : 0 ≤ (j : Int) := Int.natCast_nonneg j
               have r3_ : (j : Int) ≤ 13 := by have := HJ.out; have := HN.out; have := HMN.out; omega
               have hri : (M1.set i r).getD i [] = r := Mat.set_get (by rw [HML.out]; exact q3n)
               have hrl : r.length = m := by have h := (HM.out.row i q3n trivial).len; rw [hri] at h; exact h
               by_cases hj : j < m
               · have d3 : decide ((j : Int) < (m : Int)) = true := decide_eq_true (by omega)
                 have d3n : decide (j < m) = true := decide_eq_true hj
                 have q5 : (j : Int) < (m : Int) := by omega
                 obtain ⟨s, hs1, hs2⟩ := HSC.out
                 rw [Mat.drop_cons (d := (0 : Int)) (by rw [hrl]; exact hj)] at hs1
                 unfold Mat.scaleF at hs1
                 obtain ⟨y, hy, hs1⟩ := Option.bind_eq_some_iff.1 hs1
                 obtain ⟨s2_, hs3, hs1⟩ := Option.bind_eq_some_iff.1 hs1
                 obtain rfl := Option.some.inj hs1
                 have hnx : ∃ s, Mat.scaleF (impl_GfMul.f k2) c ((r.set j y).drop (j + 1)) = some s ∧ (r.set j y).take (j + 1) ++ s = row := ⟨s2_, by rw [Mat.set_drop]; exact hs3, by rw [Mat.set_take (by rw [hrl]; exact hj), List.append_assoc]; exact hs2⟩
                 obtain ⟨z, hz⟩ : ∃ z, z = r.getD j 0 := ⟨_, rfl⟩
                 rw [← hz] at hy
                 have HY := Aside0.mk hy
                 have HNX := Aside0.mk hnx
                 have HJL := Aside0.mk hj
                 have HZ := Aside0.mk hz
                 have HRI := Aside0.mk hri
                 clear hs1 hs2 hs3 hy hnx hz hj HSC hri hrl
                 go_wp2
                 have HM9 := Aside0.mk (HM.out.same (w1 := wr.drew) rfl)
                 have HG9 := Aside0.mk (HG.out.same (w1 := wr.drew) rfl)
                 have HX9 := Aside0.mk (HX.out.same (w1 := wr.drew) rfl)
                 have HB9 := Aside0.mk (below_drew1 HB.out)
                 have x1 := HX9.out.cell
                 obtain ⟨xi, fi⟩ := HM9.out.cell q3n trivial
                 obtain ⟨y1, g1⟩ := (HM9.out.row i q3n trivial).cell HJL.out
                 rw [HRI.out, ← HZ.out] at y1
                 clear HM HG HX HB
                 refine start_ (n := 16) (S := fun w' => w'.cell? ⟨gi, 0, none⟩ = some (.int .i64 (i : Int)) ∧ w'.cell? ⟨g, i, none⟩ = some (.slice (some ⟨bs7 i, 0, none⟩) m (cs7 i)) ∧ w'.cell? ⟨bs7 i, j, none⟩ = some (.int .u8 z)) (ds := [15]) #[false, false, false, false, false, false, false, false, false, false, false, false, false, false, false, false] (by kernel_rfl) rfl rfl ⟨x1, xi, y1⟩ (fun hHeld => ?_); refine with_tabW impl_GfSolve.tab22 impl_GfSolve.bits22 (fun HT_ HW_ => ?_)
                 generalize wr.drew = w9 at x1 xi fi y1 g1 HM9 HG9 HX9 HB9 hHeld ⊢
                 refine pz (i := 0) (N := some 106) #[true, false, false, false, false, false, false, false, false, false, false, false, false, false, false, false] rfl rfl HT_.out ?_
                 refine pz (i := 4) (N := some 110) #[true, false, false, false, true, false, false, false, false, false, false, false, false, false, false, false] rfl rfl HT_.out ?_
                 refine pz (i := 5) (N := some 111) #[true, false, false, false, true, true, false, false, false, false, false, false, false, false, false, false] rfl rfl HT_.out ?_
                 refine pz (i := 9) (N := some 115) #[true, false, false, false, true, true, false, false, false, true, false, false, false, false, false, false] rfl rfl HT_.out ?_
                 refine pz (i := 12) (N := some 118) #[true, false, false, false, true, true, false, false, false, true, false, false, true, false, false, false] rfl rfl HT_.out ?_
                 refine tz (i := 1) (N := some 107) #[true, true, false, false, true, true, false, false, false, true, false, false, true, false, false, false] rfl rfl HT_.out HW_.out hHeld (Or.inl ⟨by rfl, by rintro w' ⟨s0, s1, s2⟩; go_simp; with_reducible rfl⟩) ?_
                 refine tz (i := 6) (N := some 112) #[true, true, false, false, true, true, true, false, false, true, false, false, true, false, false, false] rfl rfl HT_.out HW_.out hHeld (Or.inl ⟨by rfl, by rintro w' ⟨s0, s1, s2⟩; go_simp; with_reducible rfl⟩) ?_
                 refine pz (i := 2) (N := some 108) #[true, true, true, false, true, true, true, false, false, true, false, false, true, false, false, false] rfl rfl HT_.out ?_
                 refine pz (i := 7) (N := some 113) #[true, true, true, false, true, true, true, true, false, true, false, false, true, false, false, false] rfl rfl HT_.out ?_
                 refine tz (i := 3) (N := some 109) #[true, true, true, true, true, true, true, true, false, true, false, false, true, false, false, false] rfl rfl HT_.out HW_.out hHeld (Or.inl ⟨by rfl, by rintro w' ⟨s0, s1, s2⟩; go_simp; with_reducible rfl⟩) ?_
                 refine tz (i := 8) (N := some 114) #[true, true, true, true, true, true, true, true, true, true, false, false, true, false, false, false] rfl rfl HT_.out HW_.out hHeld (Or.inl ⟨by rfl, by rintro w' ⟨s0, s1, s2⟩; go_simp; with_reducible rfl⟩) ?_
                 refine pz (i := 10) (N := some 116) #[true, true, true, true, true, true, true, true, true, true, true, false, true, false, false, false] rfl rfl HT_.out ?_
                 refine tz (i := 11) (N := some 117) #[true, true, true, true, true, true, true, true, true, true, true, true, true, false, false, false] rfl rfl HT_.out HW_.out hHeld (Or.inl ⟨by rfl, by rintro w' ⟨s0, s1, s2⟩; go_simp; with_reducible rfl⟩) ?_
                 refine one_ (i := 13) (N := some 119) #[true, true, true, true, true, true, true, true, true, true, true, true, true, true, false, false] rfl rfl (one_of HT_.out (by kernel_rfl)) (by decide) (fun K hK => ?_)
                 refine goes_ Try.func58 (by kernel_rfl) rfl #[.int .u8 z, .int .u8 c] (by rfl) rfl rfl av ?_
                 with_reducible refine (impl_GfMul.calls k2 z c y _ HY.out).mono ?_
                 rintro e w' ⟨rfl, ⟨nd9, rfl⟩⟩
                 refine ⟨_, rfl, ?_⟩
                 refine hK.out _ _ ⟨x1, xi, y1⟩ (fun hHeld => ?_)
                 clear hK K
                 refine nz (N := some 119) ?_
                 refine pz (i := 14) (N := some 120) #[true, true, true, true, true, true, true, true, true, true, true, true, true, true, true, false] rfl rfl HT_.out ?_
                 refine last_ (i := 15) (N := none) #[true, true, true, true, true, true, true, true, true, true, true, true, true, true, true, true] rfl rfl (one_of HT_.out (by kernel_rfl)) (by decide) (fun K hK => ?_)
                 refine skip_ (w1 := ?_) (by rfl) rfl ?_ ?_
                 rotate_left
                 · go_simp
                   rfl
                 refine hK.out _ _ ?_
                 clear hK K
                 refine done_ (done_of HT_.out (by kernel_rfl)) ?_
                 have hbb := (HM9.out.row i q3n trivial)
                 have hM10 := HM9.out.put q3n trivial HJL.out y
                 rw [HRI.out, List.set_set] at hM10
                 have HM10 := Aside0.mk hM10
                 have HG10 := Aside0.mk (HG9.out.far (p := ⟨bs7 i, j, none⟩) (HG9.out.ne_rw hbb) (.int .u8 y))
                 have HX10 := Aside0.mk (HX9.out.far (p := ⟨bs7 i, j, none⟩) (HX9.out.ne_rw hbb) (.int .u8 y))
                 have HB10 := Aside0.mk ((pw_below_drewN HB9.out nd9).setCell (p := ⟨bs7 i, j, none⟩) hbb.ge (.int .u8 y))
                 clear hbb hM10 x1 xi fi y1 g1 HM9 HG9 HX9 HB9 hHeld HT_ HW_
                 (try simp only [Dig.setCell_drewN])
                 go_wp2
                 go_roundw
                 case rel => exact ⟨j + 1, r.set j y, by go_num, ⟨HJL.out⟩, ⟨HM10.out.same rfl⟩, HNX, ⟨HG10.out.same rfl⟩, ⟨HX10.out.same rfl⟩, HB10⟩
                 case measure => have := HJL.out; simp [intOf]; omega
               · have d3 : decide ((j : Int) < (m : Int)) = false := decide_eq_false (by omega)
                 have d3n : decide (j < m) = false := decide_eq_false hj
                 have hr : r = row := by
                   obtain ⟨s, hs1, hs2⟩ := HSC.out
                   rw [List.drop_eq_nil_of_le (by omega)] at hs1
                   unfold Mat.scaleF at hs1
                   obtain rfl := Option.some.inj hs1
                   rw [List.append_nil, List.take_of_length_le (by omega)] at hs2
                   exact hs2
                 subst hr
                 have HRI := Aside0.mk hri
                 have HRL := Aside0.mk hrl
                 clear HSC hj hri hrl
                 generalize M1.set i r = M4 at HM HRI HEL2
                 go_wp2
                 go_loopw [124] (fun v124 w9 => ∃ (j : Nat) (bs3 cs3 : Nat → Nat) (M3 : List (List Int)), v124 = .int .i64 j ∧ Aside0 (j ≤ n) ∧ Aside0 (Mat.Mt w9 w1.heap.size g n m bs3 cs3 (fun _ => True) M3) ∧ Aside0 (M3.getD i [] = r) ∧ Aside0 (∃ s, Mat.elimF (impl_GfAxpy.f k2) i r j (M3.drop j) = some s ∧ M3.take j ++ s = M2) ∧ Aside0 (Mat.Bx w9 g0 (.int .i64 (n : Int))) ∧ Aside0 (Mat.Bx w9 gi (.int .i64 (i : Int))) ∧ Aside0 (Below w1.heap.size w1 w9)) (fun v124 _ => n - (intOf v124).toNat)
                 case atStart => exact ⟨0, bs7, cs7, M4, rfl, ⟨Nat.zero_le _⟩, HM, HRI, ⟨M2, by rw [List.drop_zero]; exact HEL2.out, rfl⟩, HG, HX, HB⟩
                 case round =>
                  clear HM HRI HEL2 HG HX HB
                  obtain ⟨j, bs3, cs3, M3, rfl, HJ, HM, HRI, HEL, HG, HX, HB⟩ := hrel
                  have p5 : 0 ≤ (j : Int) := Int.natCast_nonneg j
                  have r4_ : (j : Int) ≤ 12 := by have := HJ.out; have := HN.out; omega
                  have x0 := HX.out.cell
                  by_cases hj : j < n
                  · have d4 : decide ((j : Int) < (n : Int)) = true := decide_eq_true (by omega)
                    have d4n : decide (j < n) = true := decide_eq_true hj
                    have q5 : (j : Int) < (n : Int) := by omega
                    obtain ⟨s, hs1, hs2⟩ := HEL.out
                    rw [Mat.drop_cons (d := ([] : List Int)) (by rw [HM.out.len]; exact hj)] at hs1
                    unfold Mat.elimF at hs1
                    obtain ⟨y, hy, hs1⟩ := Option.bind_eq_some_iff.1 hs1
                    obtain ⟨s2_, hs3, hs1⟩ := Option.bind_eq_some_iff.1 hs1
                    obtain rfl := Option.some.inj hs1
                    by_cases hji : j = i
                    · rw [if_pos hji] at hy
                      have e5 : ((j : Int) != (i : Int)) = false := bne_eq_false_iff_eq.mpr (by omega)
                      have e5n : (j != i) = false := bne_eq_false_iff_eq.mpr hji
                      have hnx : ∃ s, Mat.elimF (impl_GfAxpy.f k2) i r (j + 1) (M3.drop (j + 1)) = some s ∧ M3.take (j + 1) ++ s = M2 := ⟨s2_, hs3, by rw [Mat.take_next (d := ([] : List Int)) (by rw [HM.out.len]; exact hj), List.append_assoc, Option.some.inj hy]; exact hs2⟩
                      have HNX := Aside0.mk hnx
                      have HJL := Aside0.mk hj
                      clear hs1 hs2 hs3 hy hnx hj hji HEL
                      go_wp2
                      go_roundw
                      case rel => exact ⟨j + 1, bs3, cs3, M3, by go_num, ⟨HJL.out⟩, HM, HRI, HNX, HG, HX, HB⟩
                      case measure => have := HJL.out; simp [intOf]; omega
                    · rw [if_neg hji] at hy
                      have e5 : ((j : Int) != (i : Int)) = true := bne_iff_ne.mpr (by omega)
                      have e5n : (j != i) = true := bne_iff_ne.mpr hji
                      obtain ⟨⟨q, qb⟩, hq, hy⟩ := Option.bind_eq_some_iff.1 hy
                      dsimp only at hy
                      by_cases hql : q.length = r.length
                      · rw [if_pos hql] at hy
                        obtain rfl := Option.some.inj hy
                        have hnx : ∃ s, Mat.elimF (impl_GfAxpy.f k2) i r (j + 1) ((M3.set j q).drop (j + 1)) = some s ∧ (M3.set j q).take (j + 1) ++ s = M2 := ⟨s2_, by rw [Mat.set_drop]; exact hs3, by rw [Mat.set_take (by rw [HM.out.len]; exact hj), List.append_assoc]; exact hs2⟩
                        obtain ⟨z, hz⟩ : ∃ z, z = (M3.getD j []).getD i 0 := ⟨_, rfl⟩
                        rw [← hz] at hq
                        have hm12 : m ≤ 1000000 := by have := HMN.out; have := HN.out; omega
                        have hqm : q.length = m := hql.trans HRL.out
                        have HQ := Aside0.mk hq
                        have HQM := Aside0.mk hqm
                        have HM12 := Aside0.mk hm12
                        have HNX := Aside0.mk hnx
                        have HJL := Aside0.mk hj
                        have HJI := Aside0.mk hji
                        have HZ := Aside0.mk hz
                        clear hs1 hs2 hs3 hq hql hqm hm12 hnx hz hj hji HEL
                        go_wp2
                        have HM9 := Aside0.mk (HM.out.same (w1 := wr.drew) rfl)
                        have HG9 := Aside0.mk (HG.out.same (w1 := wr.drew) rfl)
                        have HX9 := Aside0.mk (HX.out.same (w1 := wr.drew) rfl)
                        have HB9 := Aside0.mk (below_drew1 HB.out)
                        replace x0 := HX9.out.cell
                        obtain ⟨xi, fi⟩ := HM9.out.cell q3n trivial
                        obtain ⟨xj, fj⟩ := HM9.out.cell HJL.out trivial
                        obtain ⟨y1, g1⟩ := (HM9.out.row j HJL.out trivial).cell q2n
                        rw [← HZ.out] at y1
                        clear HM HG HX HB
                        refine start_ (n := 23) (S := fun w' => w'.cell? ⟨gi, 0, none⟩ = some (.int .i64 (i : Int)) ∧ w'.cell? ⟨g, j, none⟩ = some (.slice (some ⟨bs3 j, 0, none⟩) m (cs3 j)) ∧ w'.cell? ⟨bs3 j, i, none⟩ = some (.int .u8 z) ∧ w'.cell? ⟨g, i, none⟩ = some (.slice (some ⟨bs3 i, 0, none⟩) m (cs3 i))) (ds := [22]) #[false, false, false, false, false, false, false, false, false, false, false, false, false, false, false, false, false, false, false, false, false, false, false] (by kernel_rfl) rfl rfl ⟨x0, xj, y1, xi⟩ (fun hHeld => ?_); refine with_tabW impl_GfSolve.tab28 impl_GfSolve.bits28 (fun HT_ HW_ => ?_)
                        generalize wr.drew = w9 at x0 xi fi xj fj y1 g1 HM9 HG9 HX9 HB9 hHeld ⊢
                        refine pz (i := 0) (N := some 131) #[true, false, false, false, false, false, false, false, false, false, false, false, false, false, false, false, false, false, false, false, false, false, false] rfl rfl HT_.out ?_
                        refine pz (i := 1) (N := some 132) #[true, true, false, false, false, false, false, false, false, false, false, false, false, false, false, false, false, false, false, false, false, false, false] rfl rfl HT_.out ?_
                        refine pz (i := 2) (N := some 133) #[true, true, true, false, false, false, false, false, false, false, false, false, false, false, false, false, false, false, false, false, false, false, false] rfl rfl HT_.out ?_
                        refine pz (i := 3) (N := some 134) #[true, true, true, true, false, false, false, false, false, false, false, false, false, false, false, false, false, false, false, false, false, false, false] rfl rfl HT_.out ?_
                        refine pz (i := 4) (N := some 135) #[true, true, true, true, true, false, false, false, false, false, false, false, false, false, false, false, false, false, false, false, false, false, false] rfl rfl HT_.out ?_
                        refine pz (i := 6) (N := some 137) #[true, true, true, true, true, false, true, false, false, false, false, false, false, false, false, false, false, false, false, false, false, false, false] rfl rfl HT_.out ?_
                        refine pz (i := 7) (N := some 138) #[true, true, true, true, true, false, true, true, false, false, false, false, false, false, false, false, false, false, false, false, false, false, false] rfl rfl HT_.out ?_
                        refine pz (i := 8) (N := some 139) #[true, true, true, true, true, false, true, true, true, false, false, false, false, false, false, false, false, false, false, false, false, false, false] rfl rfl HT_.out ?_
                        refine pz (i := 13) (N := some 144) #[true, true, true, true, true, false, true, true, true, false, false, false, false, true, false, false, false, false, false, false, false, false, false] rfl rfl HT_.out ?_
                        refine tz (i := 5) (N := some 136) #[true, true, true, true, true, true, true, true, true, false, false, false, false, true, false, false, false, false, false, false, false, false, false] rfl rfl HT_.out HW_.out hHeld (Or.inl ⟨by rfl, by rintro w' ⟨s0, s1, s2, s3⟩; go_simp; with_reducible rfl⟩) ?_
                        refine tz (i := 9) (N := some 140) #[true, true, true, true, true, true, true, true, true, true, false, false, false, true, false, false, false, false, false, false, false, false, false] rfl rfl HT_.out HW_.out hHeld (Or.inl ⟨by rfl, by rintro w' ⟨s0, s1, s2, s3⟩; go_simp; with_reducible rfl⟩) ?_
                        refine tz (i := 10) (N := some 141) #[true, true, true, true, true, true, true, true, true, true, true, false, false, true, false, false, false, false, false, false, false, false, false] rfl rfl HT_.out HW_.out hHeld (Or.inl ⟨by rfl, by rintro w' ⟨s0, s1, s2, s3⟩; go_simp; with_reducible rfl⟩) ?_
                        refine tz (i := 14) (N := some 145) #[true, true, true, true, true, true, true, true, true, true, true, false, false, true, true, false, false, false, false, false, false, false, false] rfl rfl HT_.out HW_.out hHeld (Or.inl ⟨by rfl, by rintro w' ⟨s0, s1, s2, s3⟩; go_simp; with_reducible rfl⟩) ?_
                        refine pz (i := 11) (N := some 142) #[true, true, true, true, true, true, true, true, true, true, true, true, false, true, true, false, false, false, false, false, false, false, false] rfl rfl HT_.out ?_
                        refine pz (i := 15) (N := some 146) #[true, true, true, true, true, true, true, true, true, true, true, true, false, true, true, true, false, false, false, false, false, false, false] rfl rfl HT_.out ?_
                        refine tz (i := 12) (N := some 143) #[true, true, true, true, true, true, true, true, true, true, true, true, true, true, true, true, false, false, false, false, false, false, false] rfl rfl HT_.out HW_.out hHeld (Or.inl ⟨by rfl, by rintro w' ⟨s0, s1, s2, s3⟩; go_simp; with_reducible rfl⟩) ?_
                        refine tz (i := 16) (N := some 147) #[true, true, true, true, true, true, true, true, true, true, true, true, true, true, true, true, true, false, false, false, false, false, false] rfl rfl HT_.out HW_.out hHeld (Or.inl ⟨by rfl, by rintro w' ⟨s0, s1, s2, s3⟩; go_simp; with_reducible rfl⟩) ?_
                        refine one_ (i := 17) (N := some 148) #[true, true, true, true, true, true, true, true, true, true, true, true, true, true, true, true, true, true, false, false, false, false, false] rfl rfl (one_of HT_.out (by kernel_rfl)) (by decide) (fun K hK => ?_)
                        have hlj : (M3.getD j []).length = m := (HM9.out.row j HJL.out trivial).len
                        have hri := HM9.out.row i q3n trivial
                        rw [HRI.out] at hri
                        have hcall := impl_GfAxpy.calls k2 (some ⟨bs3 j, 0, none⟩) (cs3 j) (M3.getD j []) z (some ⟨bs3 i, 0, none⟩) (cs3 i) r q qb w9 ((HM9.out.row j HJL.out trivial).reads HM12.out) (by rw [hlj]; exact (HM9.out.row j HJL.out trivial).cap) (hri.reads HM12.out) (by rw [hri.len]; exact hri.cap) HQ.out
                        rw [hlj, hri.len] at hcall
                        clear hlj hri
                        refine goes_ Try.func59 (by kernel_rfl) rfl #[.slice (some ⟨bs3 j, 0, none⟩) m (cs3 j), .int .u8 z, .slice (some ⟨bs3 i, 0, none⟩) m (cs3 i)] (by rfl) rfl rfl av ?_
                        with_reducible refine hcall.mono ?_
                        rintro e w6 ⟨v6, rfl, ho, hb⟩
                        refine ⟨_, rfl, ?_⟩
                        obtain ⟨b6, c6, hv6, hR6⟩ := Mat.rw_of_R ho (by have := HQM.out; have := HMN.out; omega)
                        subst hv6
                        rw [HQM.out] at hR6 ⊢
                        have HR6 := Aside0.mk (hR6.lower HB9.out.size)
                        have HM6 := Aside0.mk (HM9.out.below hb)
                        have HG6 := Aside0.mk (HG9.out.below hb)
                        have HX6 := Aside0.mk (HX9.out.below hb)
                        have HB6 := Aside0.mk (below_step HB9.out hb)
                        have hfr : ∀ t, t < n → True → t ≠ j → bs3 t ≠ b6 := fun t ht _ _ e => by
                          have h1 := (HM9.out.row t ht trivial).lt
                          have h2 := hR6.ge
                          omega
                        have HFR := Aside0.mk hfr
                        have x6 := HX6.out.cell
                        have xj6 : w6.cell? ⟨g, j, none⟩ = some (.slice (some ⟨bs3 j, 0, none⟩) m (cs3 j)) := (HM6.out.cell HJL.out trivial).1
                        have fj6 := (HM6.out.cell HJL.out trivial).2
                        have xi6 : w6.cell? ⟨g, i, none⟩ = some (.slice (some ⟨bs3 i, 0, none⟩) m (cs3 i)) := (HM6.out.cell q3n trivial).1
                        have y6 : w6.cell? ⟨bs3 j, i, none⟩ = some (.int .u8 z) := (hb.cell (World.block_lt_of_cell? _ _ y1)).trans y1
                        clear ho hb hR6 hfr hcall x0 xi fi xj fj y1 g1 HM9 HG9 HX9 HB9
                        refine hK.out _ _ ⟨x6, xj6, y6, xi6⟩ (fun hHeld => ?_)
                        clear hK K
                        refine nz (N := some 148) ?_
                        refine pz (i := 18) (N := some 130) #[true, true, true, true, true, true, true, true, true, true, true, true, true, true, true, true, true, true, true, false, false, false, false] rfl rfl HT_.out ?_
                        refine pz (i := 19) (N := some 149) #[true, true, true, true, true, true, true, true, true, true, true, true, true, true, true, true, true, true, true, true, false, false, false] rfl rfl HT_.out ?_
                        refine pz (i := 20) (N := some 150) #[true, true, true, true, true, true, true, true, true, true, true, true, true, true, true, true, true, true, true, true, true, false, false] rfl rfl HT_.out ?_
                        refine pz (i := 21) (N := some 151) #[true, true, true, true, true, true, true, true, true, true, true, true, true, true, true, true, true, true, true, true, true, true, false] rfl rfl HT_.out ?_
                        refine last_ (i := 22) (N := none) #[true, true, true, true, true, true, true, true, true, true, true, true, true, true, true, true, true, true, true, true, true, true, true] rfl rfl (one_of HT_.out (by kernel_rfl)) (by decide) (fun K hK => ?_)
                        refine skip_ (w1 := ?_) (by rfl) rfl ?_ ?_
                        rotate_left
                        · go_simp
                          rfl
                        refine hK.out _ _ ?_
                        clear hK K
                        refine done_ (done_of HT_.out (by kernel_rfl)) ?_
                        have HGe := Aside0.mk HM6.out.ge
                        have HM7 := Aside0.mk ((HM6.out.seat HJL.out HR6.out HFR.out).off (on' := fun _ => True) (fun _ _ => .inr trivial))
                        have HG7 := Aside0.mk (HG6.out.far (p := ⟨g, j, none⟩) (HG6.out.ne_mt HM6.out) (.slice (some ⟨b6, 0, none⟩) m c6))
                        have HX7 := Aside0.mk (HX6.out.far (p := ⟨g, j, none⟩) (HX6.out.ne_mt HM6.out) (.slice (some ⟨b6, 0, none⟩) m c6))
                        have HB7 := Aside0.mk (HB6.out.setCell (p := ⟨g, j, none⟩) HGe.out (.slice (some ⟨b6, 0, none⟩) m c6))
                        have HI7 : Aside0 ((M3.set j q).getD i [] = r) := ⟨by rw [List.getD_eq_getElem?_getD, List.getElem?_set_ne HJI.out, ← List.getD_eq_getElem?_getD]; exact HRI.out⟩
                        clear x6 xj6 fj6 xi6 y6 hHeld HT_ HW_ HR6 HM6 HG6 HX6 HB6 HFR
                        go_wp2
                        go_roundw
                        case rel => exact ⟨j + 1, _, _, M3.set j q, by go_num, ⟨HJL.out⟩, HM7, HI7, HNX, HG7, HX7, HB7⟩
                        case measure => have := HJL.out; simp [intOf]; omega
                      · rw [if_neg hql] at hy
                        cases hy
                  · have d4 : decide ((j : Int) < (n : Int)) = false := decide_eq_false (by omega)
                    have d4n : decide (j < n) = false := decide_eq_false hj
                    have hm3 : M3 = M2 := by
                      obtain ⟨s, hs1, hs2⟩ := HEL.out
                      have hl := HM.out.len
                      rw [List.drop_eq_nil_of_le (by omega)] at hs1
                      unfold Mat.elimF at hs1
                      obtain rfl := Option.some.inj hs1
                      rw [List.append_nil, List.take_of_length_le (by omega)] at hs2
                      exact hs2
                    subst hm3
                    clear HEL HRI hj
                    go_wp2
                    go_roundw
                    case rel => exact ⟨i + 1, bs3, cs3, M3, by go_num, ⟨q3n⟩, HM, HS2, HG, HB⟩
                    case measure => simp [intOf]; omega
          · have d1 : decide ((i : Int) < (n : Int)) = false := decide_eq_false (by omega)
            have d1n : decide (i < n) = false := decide_eq_false hin
            have ei : i = n := Nat.le_antisymm HI.out (Nat.le_of_not_lt hin)
            have hS := HS.out
            rw [show n - i = 0 by omega] at hS
            unfold Mat.solveF at hS
            have hR := Option.some.inj hS
            have hL := HL.out
            rw [← hR] at hL
            unfold Mat.lastF at hL
            injection hL with hL1 hL2
            subst hL1 hL2
            clear hS hR HS HL ei hin
            go_wp2_with (first | ((with_reducible refine gate_dst (N := 154) rfl ?_); (try (refine gate_guard (by rfl) ?_; dsimp only)); refine Kd.R_lit (Kd.int .u8) _ 5 ?hg (N := 154) ?hd (xs := ([] : List Int)) (inner := []) (ok := fun k => wr.heap.size ≤ k) (okp := fun _ => False) ?hr ?hp (fun _ hk => hk.elim) (Nat.le_refl _) (Below.refl _ _) (Nat.le_refl _) (by simp) ?_; (case hd => rfl); (case hg => rfl); (case hr => first | (go_simp; done) | (go_simp; rfl)); (case hp => exact (Reps.none _ _)); intro v16_ w6 ho_ hb hg_ hnew_; clear hg_ hnew_))
            have HR16 : Aside0 (Kd.R (Kd.int .u8) 5 w6 w1.heap.size (fun k => ∀ j, j < n → bs j ≠ k) v16_ ((M.take 0).map fun r => r.getD n 0)) := ⟨Kd.R_lower (Kd.R_mono ho_ (fun k hk j hj => by have := (HM.out.row j hj trivial).lt; omega)) HB.out.size⟩
            have HM6 := Aside0.mk (HM.out.below hb)
            have HG6 := Aside0.mk (HG.out.below hb)
            have HB6 := Aside0.mk (below_step (bt) hb)
            clear ho_ hb HM HB HG
            go_loopw [17, 157] (fun v17 v157 w7 => ∃ j : Nat, v157 = .int .i64 j ∧ Aside0 (j ≤ n) ∧ Aside0 (Mat.Mt w7 w1.heap.size g n m bs cs (fun _ => True) M) ∧ Aside0 (Kd.R (Kd.int .u8) 5 w7 w1.heap.size (fun k => ∀ j, j < n → bs j ≠ k) v17 ((M.take j).map fun r => r.getD n 0)) ∧ Aside0 (Mat.Bx w7 g0 (.int .i64 (n : Int))) ∧ Aside0 (Below w1.heap.size w1 w7)) (fun _ v157 _ => n - (intOf v157).toNat)
            case atStart => exact ⟨0, rfl, ⟨Nat.zero_le _⟩, HM6, HR16, HG6, HB6⟩
            case round =>
             clear HR16 HM6 HB6 HG6
             obtain ⟨j, rfl, HJ, HM, HR16, HG, HB⟩ := hrel
             have p1 : 0 ≤ (j : Int) := Int.natCast_nonneg j
             have p3 : 0 ≤ (n : Int) := Int.natCast_nonneg n
             have r1_ : (j : Int) ≤ 12 := by have := HJ.out; have := HN.out; omega
             have q2 : (n : Int) < (m : Int) := by have := HMN.out; omega
             have q2n : n < m := by have := HMN.out; omega
             by_cases hjn : j < n
             · have d2 : decide ((j : Int) < (n : Int)) = true := decide_eq_true (by omega)
               have d2n : decide (j < n) = true := decide_eq_true hjn
               have q1 : (j : Int) < (n : Int) := by omega
               have xg := HG.out.cell
               obtain ⟨x0, f0⟩ := HM.out.cell hjn trivial
               obtain ⟨y0, g0_⟩ := (HM.out.row j hjn trivial).cell q2n
               obtain ⟨x, hx⟩ : ∃ x, x = (M.getD j []).getD n 0 := ⟨_, rfl⟩
               rw [← hx] at y0
               have hy : (M.take (j + 1)).map (fun r => r.getD n 0) = (M.take j).map (fun r => r.getD n 0) ++ [x] := by
                 rw [Mat.take_next (d := ([] : List Int)) (by rw [HM.out.len]; exact hjn), List.map_append, hx]
                 rfl
               have hyl : ((M.take j).map fun r => r.getD n 0).length = j := by rw [List.length_map, List.length_take, HM.out.len]; omega
               have HY := Aside0.mk hy
               have HYL := Aside0.mk hyl
               have HJN := Aside0.mk hjn
               clear hx hy hyl hjn
               generalize (M.take j).map (fun r => r.getD n 0) = ys at HR16 HY HYL
               go_wp2_with (at_builtin; refine Kd.R_append (Kd.int .u8) (w0 := w1) w1.heap.size rfl (.tmp 161) (.tmp 166) 24 5 (.int .u8 0) 1 rfl Try.underlying24 info5 rfl (by decide) (by omega) _ ys x [.int .u8 x] (fun k => ∀ j, j < n → bs j ≠ k) (fun _ => False) rfl rfl rfl (fun _ hk => hk.elim) (fun k hk q hq => by have := (HM.out.row q hq trivial).lt; omega) HR16.out HB.out HB.out.size (by have := HYL.out; omega) ?_; intro v1 w8 ho hb hg hat)
               have HM2 := Aside0.mk (HM.out.grown hg (by obtain ⟨cells, hc, _⟩ := HM.out.head; exact Kd.R_ne HR16.out hc (by decide)) (fun q hq _ e => HR16.out.1 _ e.symm q hq rfl))
               have HG2 : Aside0 (Mat.Bx w8 g0 (.int .i64 (n : Int))) := ⟨(hg.block g0 HG.out.lt (Kd.R_ne HR16.out HG.out (by decide))).trans HG.out⟩
               have HR2 := Aside0.mk ho
               have HB2 := Aside0.mk hb
               clear ho hb hg hat
               go_roundw
               case rel => exact ⟨j + 1, by go_num, ⟨HJN.out⟩, HM2, ⟨by rw [HY.out]; exact HR2.out⟩, HG2, HB2⟩
               case measure => have := HJN.out; simp [intOf]; omega
             · have d2 : decide ((j : Int) < (n : Int)) = false := decide_eq_false (by omega)
               have d2n : decide (j < n) = false := decide_eq_false hjn
               have ej : j = n := Nat.le_antisymm HJ.out (Nat.le_of_not_lt hjn)
               have HR2 : Aside0 (Kd.R (Kd.int .u8) 5 wr w1.heap.size (fun _ => True) u17 (M.map fun r => r.getD n 0)) := ⟨by have h := HR16.out; rw [List.take_of_length_le (by rw [HM.out.len]; omega)] at h; exact Kd.R_mono h (fun _ _ => trivial)⟩
               clear HR16 hjn ej
               go_wp2
               go_ret2
               exact ⟨_, by first | rfl | (simp [errW_none, errW_some] <;> rfl) | (simp [*, errW_none, errW_some] <;> rfl), Kd.R_lower HR2.out HBW.out.size, below_step HBW.out HB.out⟩
       · rw [if_neg hg] at hT
         cases hT
theorem gin_eq (a b c : Int) : impl_in.f a b c = some (decide (b ≤ a ∧ a ≤ c)) := by
 unfold impl_in.f
 by_cases h : a ≥ b <;> simp [h]
set_option maxHeartbeats 8000000 in
set_option maxRecDepth 100000 in
theorem impl_GfSolve.no (A0 : Option Addr) (c0 : Nat) (l0 : List (List Int)) (A1 : Option Addr) (c1 : Nat) (l1 : List Int) (w : World) (hr0 : Kd.C (Kd.slice 5 (Kd.int .u8)) w A0 l0.length l0) (hall : ¬ (l0.all fun b => !(b.length != l0.length)) = true) :
  Calls Try.prog 26 #[.slice A0 l0.length c0, .slice A1 l1.length c1] w fun e w' => e = .returned (.tuple #[.slice none 0 0, .bool false]) ∧ Below w.heap.size w w' := by
 obtain ⟨w1, hw1⟩ : ∃ w1, w1 = w.alloc (.cells #[.int .i64 (l0.length : Int)] 3) := ⟨_, rfl⟩
 obtain ⟨g0, hg0⟩ : ∃ g0, g0 = w.heap.size := ⟨_, rfl⟩
 have hbw : Below w.heap.size w w1 := by rw [hw1]; exact below_alloc (Below.refl _ _) _
 have hbx : Mat.Bx w1 g0 (.int .i64 (l0.length : Int)) := by rw [hw1, hg0]; exact Mat.Bx.new _ _
 have hc00 := hbx.cell
 have hnb : (l0.all fun b => !(b.length != l0.length)) = false := Bool.eq_false_iff.mpr hall
 have HSC : Aside0 (Calls Try.prog 51 #[.slice A0 l0.length c0, .func (.func 52) #[] #[.pointer (some ⟨g0, 0, none⟩)]] w1 fun e w' => e = .returned (.bool true) ∧ Drawn0 w1 w') := ⟨by
  have h := short_contains g0 l0.length A0 c0 l0 w1 hc00 (Kd.C_below hr0 hbw)
  rw [hnb] at h
  exact h⟩
 have HB := Aside0.mk hbw
 have HW1 := Aside0.mk hw1
 have HGW := Aside0.mk hg0
 obtain ⟨q, hq⟩ : ∃ q, q = decide ((1 : Int) ≤ (l0.length : Int) ∧ (l0.length : Int) ≤ 12) := ⟨_, rfl⟩
 have HQ : Aside0 (impl_in.f (l0.length : Int) 1 12 = some q) := ⟨by rw [gin_eq, hq]⟩
 clear hr0 hall hnb hbw hbx hw1 hg0 hq
 cases q with
 | true =>
  go_enter Try.func26, Try.ntmps26
  go_upto_region 2 with (fail)
  rw [← HW1.out, ← HGW.out]
  go_wp2_with (first | (go_at_call 51; refine HSC.out.mono ?_; rintro e w' ⟨rfl, ⟨nd, rfl⟩⟩) | (go_at_call 53; refine (impl_in.calls (l0.length : Int) 1 12 true _ HQ.out).mono ?_; rintro e w' ⟨rfl, ⟨nd2, rfl⟩⟩))
  go_ret2
  exact ⟨rfl, bt⟩
 | false =>
  go_enter Try.func26, Try.ntmps26
  go_upto_region 2 with (fail)
  rw [← HW1.out, ← HGW.out]
  go_wp2_with (first | (go_at_call 51; refine HSC.out.mono ?_; rintro e w' ⟨rfl, ⟨nd, rfl⟩⟩) | (go_at_call 53; refine (impl_in.calls (l0.length : Int) 1 12 false _ HQ.out).mono ?_; rintro e w' ⟨rfl, ⟨nd2, rfl⟩⟩))
  go_ret2
  exact ⟨rfl, bt⟩
set_option maxHeartbeats 8000000 in
set_option maxRecDepth 100000 in
theorem impl_GfSolve.calls (k : Nat) (A0 : Option Addr) (c0 : Nat) (l0 : List (List Int)) (A1 : Option Addr) (c1 : Nat) (l1 : List Int) (r1 : List Int) (r2 : Bool) (w : World) (hr0 : Kd.C (Kd.slice 5 (Kd.int .u8)) w A0 l0.length l0) (hc0 : l0.length ≤ c0) (hr1 : Kd.C (Kd.int .u8) w A1 l1.length l1) (hc1 : l1.length ≤ c1) (h : impl_GfSolve.f k l0 l1 = some (r1, r2)) :
  Calls Try.prog 26 #[.slice A0 l0.length c0, .slice A1 l1.length c1] w fun e w' => ∃ v0_ : Value, e = .returned (.tuple #[v0_, .bool r2]) ∧ Kd.R (Kd.int .u8) 5 w' w.heap.size (fun _ => True) v0_ r1 ∧ Below w.heap.size w w' := by
 unfold impl_GfSolve.f at h
 by_cases hall : (l0.all fun b => !(b.length != l0.length)) = true
 · rw [if_pos hall] at h
   exact impl_GfSolve.yes k A0 c0 l0 A1 c1 l1 r1 r2 w hr0 hc0 hr1 hc1 hall h
 · rw [if_neg hall] at h
   injection h with h
   injection h with h1 h2
   subst h1 h2
   refine (impl_GfSolve.no A0 c0 l0 A1 c1 l1 w hr0 hall).mono ?_
   rintro e w' ⟨rfl, hb⟩
   exact ⟨_, rfl, Kd.R_nil _ _ _ _ _, hb⟩

end Go.Proofs.Ythaoloacbbohlaa.PFnSolved
