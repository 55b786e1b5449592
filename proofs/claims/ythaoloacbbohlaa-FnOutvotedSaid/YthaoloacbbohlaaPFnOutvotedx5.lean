-- Written by a program of this workplace (wip/mp.py) out of the translation.
import Derived.Test.YthaoloacbbohlaaPFnOutvotedx0
import Derived.Test.YthaoloacbbohlaaPFnOutvotedx1
import Derived.Test.YthaoloacbbohlaaPFnOutvotedx4
namespace Go.Proofs.Ythaoloacbbohlaa.PFnOutvoted
open Go.RowKit Go.Proofs.YthaoloacbbohlaaW.PrintWords Go.Proofs.YthaoloacbbohlaaW.PrintLast Go.Proofs.YthaoloacbbohlaaW.PrintMore Go.Proofs.Ythaoloacbbohlaa.Slim
attribute [local go_sem] max2_int min2_int max_two min_two max_three min_three max_four min_four   -- for this text's walks alone
set_option linter.unusedVariables false
set_option linter.unusedSimpArgs false

/-! ### impl_Decode: function 80 -/
/-- The first row that is so; -1: there is none. -/
def firstIx (pd : List Int → Bool) : List (List Int) → Nat → Int
 | [], _ => -1
 | x :: l, i => if pd x = true then (i : Int) else firstIx pd l (i + 1)
theorem firstIx_all (pd : List Int → Bool) (l : List (List Int)) : ∀ i : Nat, decide (0 ≤ firstIx pd l i) = !(l.all fun b => !pd b) := by
 induction l with
 | nil => intro i; rfl
 | cons x l ih =>
  intro i
  unfold firstIx
  by_cases h : pd x = true
  ·rw [if_pos h]; simp [h]
  ·rw [if_neg h, ih (i + 1)]; simp [h]
set_option maxHeartbeats 4000000 in
theorem notLong_call (A : Option Addr) (n c g q : Nat) (a0 a2 lg : Int) (W : World) (hn : n ≤ 9223372036854775807) (hg : W.cell? ⟨g, 0, none⟩ = some (.int .i64 a0)) (hq : W.cell? ⟨q, 0, none⟩ = some (.int .i64 a2)) (hl : impl_Long.f a0 a2 = some lg) :
  Calls Try.prog 98 #[.slice A n c, .pointer (some ⟨g, 0, none⟩), .pointer (some ⟨q, 0, none⟩)] W fun e w' => e = .returned (.bool ((n : Int) != lg)) ∧ Below W.heap.size W w' := by
 have HB := Aside0.mk (Below.refl W.heap.size W)
 have HL := Aside0.mk hl
 clear hl
 go_enter Try.func98, Try.ntmps98
 go_wp2_with ((with_reducible refine gate_callee (f := 85) rfl ?_); refine goesL_ (some 9) rfl rfl Try.func85 (by kernel_rfl) rfl #[.int .i64 a0, .int .i64 a2] rfl av ?_; (with_reducible refine (impl_Long.calls a0 a2 lg _ HL.out).mono ?_); rintro e w7 ⟨rfl, hb⟩; refine ⟨_, rfl, ?_⟩; replace HB := Aside0.mk (below_step (bt) hb); (try clear hb))
 go_ret
 exact ⟨by first | rfl | simp, bt⟩
set_option maxHeartbeats 4000000 in
theorem notLong_made (a0 a2 : Int) (w : World) : Calls Try.prog 92 #[.int .i64 a0, .int .i64 a2] w fun e w' => ∃ g q : Nat, e = .returned (.func (.func 98) #[] #[.pointer (some ⟨g, 0, none⟩), .pointer (some ⟨q, 0, none⟩)]) ∧ w'.cell? ⟨g, 0, none⟩ = some (.int .i64 a0) ∧ w'.cell? ⟨q, 0, none⟩ = some (.int .i64 a2) ∧ Below w.heap.size w w' := by
 have h1 := Mat.Bx.new w (.int .i64 a0)
 have h2 := Mat.Bx.new (w.alloc (.cells #[.int .i64 a0] 3)) (.int .i64 a2)
 have h3 := (h1.below (below_alloc (Below.refl _ _) (.cells #[.int .i64 a2] 3))).cell
 have h4 : ((w.alloc (.cells #[.int .i64 a0] 3)).alloc (.cells #[.int .i64 a2] 3)).cell? ⟨w.heap.size + 1, 0, none⟩ = some (.int .i64 a2) := by
  have := h2.cell
  rwa [show (w.alloc (.cells #[.int .i64 a0] 3)).heap.size = w.heap.size + 1 from Array.size_push ..] at this
 have hb : Below w.heap.size w ((w.alloc (.cells #[.int .i64 a0] 3)).alloc (.cells #[.int .i64 a2] 3)) := below_alloc (below_alloc (Below.refl _ _) _) _
 have H3 := Aside0.mk h3
 have H4 := Aside0.mk h4
 have HB := Aside0.mk hb
 clear h1 h2 h3 h4 hb
 go_enter Try.func92, Try.ntmps92
 go_wp2
 go_ret
 exact ⟨_, _, rfl, H3.out, H4.out, HB.out⟩
set_option maxHeartbeats 4000000 in
set_option maxRecDepth 100000 in
theorem rows_indexB (F : Nat) (p1 p2 : Value) (pd : List Int → Bool) (eg : ∀ args w, (callFunc F args).run Try.prog w = .ok (.enter F args) w) (A1 : Option Addr) (c1 : Nat) (l1 : List (List Int)) (w : World) (hr1 : Kd.C (Kd.slice 5 (Kd.int .u8)) w A1 l1.length l1)
  (hcall : ∀ W : World, Below w.heap.size w W → ∀ k, k < l1.length → ∀ A0 c0, Calls Try.prog F #[.slice A0 (l1.getD k []).length c0, p1, p2] W fun e w' => e = .returned (.bool (pd (l1.getD k []))) ∧ Below W.heap.size W w') :
  Calls Try.prog 55 #[.slice A1 l1.length c1, .func (.func F) #[] #[p1, p2]] w fun e w' => e = .returned (.int .i64 (firstIx pd l1 0)) ∧ Below w.heap.size w w' := by
 have HR := Aside0.mk hr1
 have HCL := Aside0.mk hcall
 have HM := Aside0.mk hr1.2.1
 have HB := Aside0.mk (Below.refl w.heap.size w)
 clear hr1 hcall
 go_enter Try.func55, Try.ntmps55
 go_wp2
 go_loopw [8] (fun i wr => ∃ k : Nat, i = .int .i64 k ∧ Aside0 (k ≤ l1.length) ∧ Aside0 (firstIx pd (l1.drop k) k = firstIx pd l1 0) ∧ Aside0 (Below w.heap.size w wr)) (fun i _ => l1.length - (intOf i).toNat)
 case atStart => exact ⟨0, rfl, ⟨Nat.zero_le _⟩, ⟨rfl⟩, HB⟩
 case round =>
  clear HB
  obtain ⟨k, rfl, HK, HF, HB⟩ := hrel
  by_cases hlt : k < l1.length
  ·have c0 : decide (k < l1.length) = true := decide_eq_true hlt
   have c1 : decide ((k : Int) < (l1.length : Int)) = true := decide_eq_true (by omega)
   have p1 : 0 ≤ (k : Int) := Int.natCast_nonneg k
   have q1 : (k : Int) < (l1.length : Int) := by omega
   obtain ⟨ad, A0, c2, e1, hx⟩ : ∃ ad A0 c2, A1 = some ad ∧ wr.cell? (ad.add k) = some (.slice A0 (l1.getD k []).length c2) := by
    obtain ⟨ad, c, e, hl, hK, hcc⟩ := ReadsRow.get_ (Kd.C_below HR.out HB.out) ([] : List Int) (k : Int) (Int.natCast_nonneg k) (by omega)
    obtain ⟨A0, c0, rfl, h2, h3⟩ := hK
    rw [Int.toNat_natCast] at hcc h2 h3
    have h4 := hcc 0 _ rfl
    have e1 : k * (Kd.slice 5 (Kd.int .u8)).sz + 0 = k := Nat.mul_one k
    rw [e1] at h4
    exact ⟨ad, A0, c0, e, h4⟩
   cases e1
   have hfx := HF.out
   rw [Mat.drop_cons (d := ([] : List Int)) hlt] at hfx
   rw [show firstIx pd (l1.getD k [] :: l1.drop (k + 1)) k = (if pd (l1.getD k []) = true then (k : Int) else firstIx pd (l1.drop (k + 1)) (k + 1)) from rfl] at hfx
   have HL := Aside0.mk hlt
   have HCK := Aside0.mk (fun W hb => HCL.out W hb k hlt)
   clear hlt
   generalize l1.getD k [] = x at hx hfx HCK
   generalize hxn : x.length = n at hx HCK
   clear hxn
   go_wp2_with fail
   refine (HCK.out _ (bt) A0 c2).mono ?_
   rintro e w' ⟨rfl, hb⟩
   replace HB := Aside0.mk (below_step (bt) hb)
   clear hb
   have b2 : (k : Int) ≤ 9223372036854775806 := by have := HL.out; have := HM.out; omega
   cases hv : pd x with
   | true =>
    rw [if_pos hv] at hfx
    have HFX := Aside0.mk hfx
    clear hfx
    go_wp2
    go_ret
    exact ⟨by first | (rw [← HFX.out]; done) | (rw [← HFX.out]; rfl) | simp [← HFX.out], bt⟩
   | false =>
    rw [if_neg (by rw [hv]; decide)] at hfx
    have HFX := Aside0.mk hfx
    clear hfx
    go_wp2
    go_roundw
    case rel => exact ⟨k + 1, by go_num, ⟨HL.out⟩, HFX, ⟨bt⟩⟩
    case measure => have := HL.out; simp [intOf]; omega
  ·have c0 : decide (k < l1.length) = false := decide_eq_false hlt
   have c1 : decide ((k : Int) < (l1.length : Int)) = false := decide_eq_false (by omega)
   have e : firstIx pd l1 0 = -1 := by
    have h := HF.out
    rw [List.drop_eq_nil_of_le (by omega)] at h
    exact h.symm
   have HE := Aside0.mk e
   clear hlt e
   go_wp2
   go_ret
   exact ⟨by first | (rw [HE.out]; done) | (rw [HE.out]; rfl), bt⟩
set_option maxHeartbeats 4000000 in
theorem notLong_contains (g q : Nat) (a0 a2 lg : Int) (A1 : Option Addr) (c1 : Nat) (l1 : List (List Int)) (w : World) (hg : w.cell? ⟨g, 0, none⟩ = some (.int .i64 a0)) (hq : w.cell? ⟨q, 0, none⟩ = some (.int .i64 a2)) (hl : impl_Long.f a0 a2 = some lg) (hr1 : Kd.C (Kd.slice 5 (Kd.int .u8)) w A1 l1.length l1) :
  Calls Try.prog 51 #[.slice A1 l1.length c1, .func (.func 98) #[] #[.pointer (some ⟨g, 0, none⟩), .pointer (some ⟨q, 0, none⟩)]] w fun e w' => e = .returned (.bool (!(l1.all fun b => !((b.length : Int) != lg)))) ∧ Below w.heap.size w w' := by
 have HI := Aside0.mk (rows_indexB 98 (.pointer (some ⟨g, 0, none⟩)) (.pointer (some ⟨q, 0, none⟩)) (fun b => (b.length : Int) != lg) (enters_of Try.func98 (by kernel_rfl) rfl) A1 c1 l1 w hr1 (fun W hb k hk A0 c0 => by
  have hW := Kd.C_below hr1 hb
  obtain ⟨ad, c, e, _, hK, hcc⟩ := ReadsRow.get_ hW ([] : List Int) (k : Int) (Int.natCast_nonneg k) (by omega)
  obtain ⟨A0', c0', rfl, h2, h3⟩ := hK
  rw [Int.toNat_natCast] at hcc h2 h3
  exact notLong_call A0 _ c0 g q a0 a2 lg W h3.2.1 ((hb.cell (World.block_lt_of_cell? _ _ hg)).trans hg) ((hb.cell (World.block_lt_of_cell? _ _ hq)).trans hq) hl))
 have HF := Aside0.mk (firstIx_all (fun b => (b.length : Int) != lg) l1 0)
 have HB := Aside0.mk (Below.refl w.heap.size w)
 clear hr1 hg hq hl
 generalize firstIx (fun b => (b.length : Int) != lg) l1 0 = z at HI HF
 generalize (l1.all fun b => !((b.length : Int) != lg)) = y at HF ⊢
 go_enter Try.func51, Try.ntmps51
 go_wp2_with ((with_reducible refine gate_callee (f := 55) rfl ?_); refine goesL_ (some 7) rfl rfl Try.func55 (by kernel_rfl) rfl #[.slice A1 l1.length c1, .func (.func 98) #[] #[.pointer (some ⟨g, 0, none⟩), .pointer (some ⟨q, 0, none⟩)]] rfl av ?_; refine HI.out.mono ?_; rintro e w' ⟨rfl, hb⟩; refine ⟨_, rfl, ?_⟩; replace HB := Aside0.mk (below_step (bt) hb); (try clear hb))
 go_ret
 exact ⟨by first | (rw [← HF.out]; done) | (rw [← HF.out]; rfl) | simp [HF.out], bt⟩
def impl_Decode.f (k : Nat) (a0 : Int) (a1 : Int) (a2 : Int) (l3 : List Int) (l4 : List (List Int)) : Option (List Int × Bool) := (impl_shardsOk.f k a0 a1 a2 l3 l4).bind fun t => (if t = true then ((impl_Long.f a0 a2).bind fun lg => (if (l4.all fun b => !((b.length : Int) != lg)) = true then ((impl_decode.f k a0 a2 l3 l4).bind fun d => (some (d, true))) else (some ([], false)))) else (some ([], false)))
set_option maxHeartbeats 8000000 in
set_option maxRecDepth 100000 in
theorem impl_Decode.calls (k : Nat) (a0 : Int) (a1 : Int) (a2 : Int) (A3 : Option Addr) (c3 : Nat) (l3 : List Int) (A4 : Option Addr) (c4 : Nat) (l4 : List (List Int)) (r1 : List Int) (r2 : Bool) (w : World) (hr3 : Kd.C (Kd.int .i64) w A3 l3.length l3) (hc3 : l3.length ≤ c3) (hr4 : Kd.C (Kd.slice 5 (Kd.int .u8)) w A4 l4.length l4) (hc4 : l4.length ≤ c4) (h : impl_Decode.f k a0 a1 a2 l3 l4 = some (r1, r2)) :
  Calls Try.prog 80 #[.int .i64 a0, .int .i64 a1, .int .i64 a2, .slice A3 l3.length c3, .slice A4 l4.length c4] w fun e w' => ∃ v0_ : Value, e = .returned (.tuple #[v0_, .bool r2]) ∧ Kd.R (Kd.int .u8) 5 w' w.heap.size (fun _ => True) v0_ r1 ∧ Below w.heap.size w w' := by
 have HR3 := Aside0.mk hr3
 have HC3 := Aside0.mk hc3
 have HR4 := Aside0.mk hr4
 have HC4 := Aside0.mk hc4
 clear hr3 hc3 hr4 hc4
 have HB := Aside0.mk (Below.refl w.heap.size w)
 unfold impl_Decode.f at h
 obtain ⟨t, a4, H⟩ := Option.bind_eq_some_iff.mp h
 have A4_ := Aside0.mk a4
 clear h a4
 by_cases c5 : t = true
 · subst c5
   rw [if_pos rfl] at H
   obtain ⟨lg, hlg, H⟩ := Option.bind_eq_some_iff.mp H
   have HSC : ∀ (b : Bool), (!(l4.all fun b => !((b.length : Int) != lg))) = b → Aside0 (∀ (W : World) (g q : Nat), W.cell? ⟨g, 0, none⟩ = some (.int .i64 a0) → W.cell? ⟨q, 0, none⟩ = some (.int .i64 a2) → Below w.heap.size w W → Calls Try.prog 51 #[.slice A4 l4.length c4, .func (.func 98) #[] #[.pointer (some ⟨g, 0, none⟩), .pointer (some ⟨q, 0, none⟩)]] W fun e w' => e = .returned (.bool b) ∧ Below W.heap.size W w') := fun b hb => ⟨fun W g q hg hq hW => hb ▸ notLong_contains g q a0 a2 lg A4 c4 l4 W hg hq hlg (Kd.C_below HR4.out hW)⟩
   by_cases c6 : (l4.all fun b => !((b.length : Int) != lg)) = true
   · rw [if_pos c6] at H
     obtain ⟨d, hd, H⟩ := Option.bind_eq_some_iff.mp H
     simp only [Option.some.injEq, Prod.mk.injEq] at H
     obtain ⟨rfl, rfl⟩ := H
     have A8 := Aside0.mk hd
     replace HSC := HSC false (by rw [c6]; rfl)
     clear c6 hd hlg
     go_enter Try.func80, Try.ntmps80
     go_wp2_with (first | ((with_reducible refine gate_callee (f := 77) rfl ?_); refine goesL_ (some 17) rfl rfl Try.func77 (by kernel_rfl) rfl #[.int .i64 a0, .int .i64 a1, .int .i64 a2, .slice A3 l3.length c3, .slice A4 l4.length c4] rfl av ?_; (with_reducible refine (impl_shardsOk.calls k a0 a1 a2 A3 c3 l3 A4 c4 l4 true _ (Kd.C_below HR3.out (bt)) HC3.out (Kd.C_below HR4.out (bt)) HC4.out A4_.out).mono ?_); rintro e w7 ⟨rfl, hb⟩; refine ⟨_, rfl, ?_⟩; replace HB := Aside0.mk (below_step (bt) hb); (try clear hb)) | (go_at_call 92; (with_reducible refine (notLong_made a0 a2 _).mono ?_); rintro e w8 ⟨g, q, rfl, hg, hq, hb⟩; replace HB := Aside0.mk (below_step (bt) hb); have HG := Aside0.mk hg; have HQ := Aside0.mk hq; clear hb hg hq) | (go_at_call 51; (with_reducible refine (HSC.out _ g q HG.out HQ.out (bt)).mono ?_); rintro e w9 ⟨rfl, hb⟩; replace HB := Aside0.mk (below_step (bt) hb); clear hb) | ((with_reducible refine gate_callee (f := 93) rfl ?_); refine goesL_ (some 30) rfl rfl Try.func93 (by kernel_rfl) rfl #[.int .i64 a0, .int .i64 a2, .slice A3 l3.length c3, .slice A4 l4.length c4] rfl av ?_; (with_reducible refine (impl_decode.calls k a0 a2 A3 c3 l3 A4 c4 l4 _ _ (Kd.C_below HR3.out (bt)) HC3.out (Kd.C_below HR4.out (bt)) HC4.out A8.out).mono ?_); rintro e w10 ⟨v0, rfl, ho, hb⟩; refine ⟨_, rfl, ?_⟩; have HO := Aside0.mk (Kd.R_lower ho (below_size (bt))); replace HB := Aside0.mk (below_step (bt) hb); clear hb ho))
     go_ret2
     exact ⟨_, by first | rfl | (simp [errW_none, errW_some] <;> rfl), mv HO.out, bt⟩
   · rw [if_neg c6] at H
     simp only [Option.some.injEq, Prod.mk.injEq] at H
     obtain ⟨rfl, rfl⟩ := H
     replace HSC := HSC true (by rw [Bool.eq_false_iff.mpr c6]; rfl)
     clear c6 hlg
     go_enter Try.func80, Try.ntmps80
     go_wp2_with (first | ((with_reducible refine gate_callee (f := 77) rfl ?_); refine goesL_ (some 17) rfl rfl Try.func77 (by kernel_rfl) rfl #[.int .i64 a0, .int .i64 a1, .int .i64 a2, .slice A3 l3.length c3, .slice A4 l4.length c4] rfl av ?_; (with_reducible refine (impl_shardsOk.calls k a0 a1 a2 A3 c3 l3 A4 c4 l4 true _ (Kd.C_below HR3.out (bt)) HC3.out (Kd.C_below HR4.out (bt)) HC4.out A4_.out).mono ?_); rintro e w7 ⟨rfl, hb⟩; refine ⟨_, rfl, ?_⟩; replace HB := Aside0.mk (below_step (bt) hb); (try clear hb)) | (go_at_call 92; (with_reducible refine (notLong_made a0 a2 _).mono ?_); rintro e w8 ⟨g, q, rfl, hg, hq, hb⟩; replace HB := Aside0.mk (below_step (bt) hb); have HG := Aside0.mk hg; have HQ := Aside0.mk hq; clear hb hg hq) | (go_at_call 51; (with_reducible refine (HSC.out _ g q HG.out HQ.out (bt)).mono ?_); rintro e w9 ⟨rfl, hb⟩; replace HB := Aside0.mk (below_step (bt) hb); clear hb))
     go_ret2
     exact ⟨_, by first | rfl | (simp [errW_none, errW_some] <;> rfl), Kd.R_nil _ _ _ _ _, bt⟩
 · replace c5 := Bool.eq_false_iff.mpr c5
   subst c5
   rw [if_neg (show ¬ (false = true) by decide)] at H
   simp only [Option.some.injEq, Prod.mk.injEq] at H
   obtain ⟨rfl, rfl⟩ := H
   go_enter Try.func80, Try.ntmps80
   go_wp2_with ((with_reducible refine gate_callee (f := 77) rfl ?_); refine goesL_ (some 17) rfl rfl Try.func77 (by kernel_rfl) rfl #[.int .i64 a0, .int .i64 a1, .int .i64 a2, .slice A3 l3.length c3, .slice A4 l4.length c4] rfl av ?_; (with_reducible refine (impl_shardsOk.calls k a0 a1 a2 A3 c3 l3 A4 c4 l4 false _ (Kd.C_below HR3.out (bt)) HC3.out (Kd.C_below HR4.out (bt)) HC4.out A4_.out).mono ?_); rintro e w7 ⟨rfl, hb⟩; refine ⟨_, rfl, ?_⟩; replace HB := Aside0.mk (below_step (bt) hb); (try clear hb))
   go_ret2
   exact ⟨_, by first | rfl | (simp [errW_none, errW_some] <;> rfl), Kd.R_nil _ _ _ _ _, bt⟩

end Go.Proofs.Ythaoloacbbohlaa.PFnOutvoted
