-- Written by a program of this workplace (wip/mp.py) out of the translation.
import Derived.Test.YtchjajbkaiefdaaPFnManyx0
import Derived.Test.YtchjajbkaiefdaaPFnManyx1
namespace Go.Proofs.Ytchjajbkaiefdaa.PFnMany
open Go.RowKit Go.Proofs.YtchjajbkaiefdaaW.PrintWords Go.Proofs.YtchjajbkaiefdaaW.PrintLast Go.Proofs.YtchjajbkaiefdaaW.PrintMore Go.Proofs.Ytchjajbkaiefdaa.Slim
attribute [local go_sem] max2_int min2_int max_two min_two max_three min_three max_four min_four   -- for this text's walks alone
set_option maxHeartbeats 8000000
set_option maxRecDepth 100000
set_option linter.unusedVariables false
set_option linter.unusedSimpArgs false

/-! ### impl_high: function 142 -/
def impl_high.l0 : Nat → Int → List Int → Int → Option (List Int)
 | 0, _, _, _ => none
 | k + 1, x0, x5, x6 => if x6 ≥ 0 then (if 0 ≤ x6 then (if x6 < (x5.length : Int) then (impl_high.l0 k (x0 / 256) (x5.set (x6 : Int).toNat ((x0) % 256)) (wrap64 (x6 - 1))) else (none)) else (none)) else (some x5)
def impl_high.f (k : Nat) (a0 : Int) (a1 : Int) : Option (List Int) := if 0 ≤ a1 then (if (a1 : Int).toNat ≤ 281474976710656 then (impl_high.l0 k a0 (List.replicate (a1 : Int).toNat 0) (wrap64 (a1 - 1))) else (none)) else (none)
theorem impl_high.calls (k : Nat) (a0 : Int) (a1 : Int) (r : List Int) (w : World) (h : impl_high.f k a0 a1 = some r) :
  Calls Try.prog 142 #[.int .i64 a0, .int .i64 a1] w fun e w' => ∃ v0_ : Value, e = .returned (v0_) ∧ Kd.R (Kd.int .u8) 5 w' w.heap.size (fun _ => True) v0_ r ∧ Below w.heap.size w w' := by
 have HB := am (Below.refl w.heap.size w)
 have H : (if 0 ≤ a1 then (if (a1 : Int).toNat ≤ 281474976710656 then (impl_high.l0 k a0 (List.replicate (a1 : Int).toNat 0) (wrap64 (a1 - 1))) else (none)) else (none)) = some r := h
 clear h
 by_cases c3 : 0 ≤ a1
 ·rw [if_pos c3] at H
  have c3b0 := eq_true c3
  have c3b1 : decide (0 ≤ a1) = true := decide_eq_true c3
  clear c3
  by_cases c4 : (a1 : Int).toNat ≤ 281474976710656
  ·rw [if_pos c4] at H
   have c4b0 := eq_true c4
   have c4b1 : decide ((a1 : Int).toNat ≤ 281474976710656) = true := decide_eq_true c4
   clear c4
   obtain ⟨y117, hy117⟩ : ∃ y_ : List Int, y_ = (List.replicate (a1 : Int).toNat 0) := ⟨_, rfl⟩
   replace H : (impl_high.l0 k a0 y117 (wrap64 (a1 - 1))) = some r := by first | (rw [hy117]; exact H) | exact H
   have Ny117 := am hy117
   clear hy117
   have H' := am H
   clear H
   go_enter Try.func142, Try.ntmps142
   go_wp2_with (first | ((with_reducible refine gate_dst (N := 8) rfl ?_); refine Kd.R_make (Kd.int .u8) _ 5 rfl (N := 8) rfl 22 _ _ rfl a1 rfl rfl Try.underlying22 (.int .u8 0) 1 info5 rfl (by decide) (by omega) 0 (ok := fun _ => True) (okp := fun _ => True) rfl (fun _ hk => hk) trivial (of_decide_eq_true asm) (Nat.le_trans (Nat.mul_le_mul_right _ (of_decide_eq_true asm : a1.toNat ≤ 281474976710656)) (by omega)) (Below.refl _ _) (Nat.le_refl _) ?_; intro v118 w5 ho6 hb hg_ hnew_; clear hg_ hnew_; (first | rw [← Ny117.out] at ho6 | (simp only [Int.reduceToNat] at ho6; rw [← Ny117.out] at ho6)); have HO119 := am (Kd.R_lower ho6 (below_size (bt))); replace HB := am (below_step (bt) hb); clear hb ho6))
   go_loopg [0, 6] k (fun kq v0 v6 w' => ∃ (x0_1 : Int) (x5_1 : List Int) (x6_1 : Int), v0 = .int .i64 x0_1 ∧ v6 = .int .i64 x6_1 ∧ Aside0 (impl_high.l0 kq x0_1 x5_1 x6_1 = some r) ∧ Aside0 (kq ≤ k) ∧ Aside0 (Kd.R (Kd.int .u8) 5 w' w.heap.size (fun _ => True) v118 x5_1) ∧ Aside0 (Below w.heap.size w w'))
   case atStart => exact ⟨(a0), (y117), (wrap64 (a1 - 1)), e0, e0, H', ⟨Nat.le_refl _⟩, ⟨mv HO119.out⟩, ⟨bt⟩⟩
   case round =>
    clear H'
    obtain ⟨x0_1, x5_1, x6_1, rfl, rfl, HA, HK1, HO_5, HB⟩ := hrel
    cases gk with
    | zero => exact absurd HA.out (by simp [impl_high.l0])
    | succ k1 =>
     have H := HA.out
     clear HA
     simp only [impl_high.l0] at H
     by_cases c7 : x6_1 ≥ 0
     ·rw [if_pos c7] at H
      have c7b0 : decide (0 ≤ x6_1) = true := decide_eq_true c7
      clear c7
      by_cases c8 : 0 ≤ x6_1
      ·rw [if_pos c8] at H
       have c8b0 : decide (0 ≤ x6_1) = true := decide_eq_true c8
       clear c8
       by_cases c9 : x6_1 < (x5_1.length : Int)
       ·rw [if_pos c9] at H
        have c9b0 : decide (x6_1 < (x5_1.length : Int)) = true := decide_eq_true c9
        clear c9
        obtain ⟨y120, hy120⟩ : ∃ y_ : List Int, y_ = (x5_1.set (x6_1 : Int).toNat ((x0_1) % 256)) := ⟨_, rfl⟩
        replace H : (impl_high.l0 k1 (x0_1 / 256) y120 (wrap64 (x6_1 - 1))) = some r := by first | (rw [hy120]; exact H) | exact H
        have Ny120 := am hy120
        clear hy120
        have H' := am H
        clear H
        have p10 : 0 ≤ (x6_1 : Int) := of_decide_eq_true asm
        have q10 : (x6_1 : Int) < ((x5_1.length : Int) : Int) := of_decide_eq_true asm
        obtain ⟨go10, co10, eo10, gb10, gl10, cl10, HG10⟩ := Kd.R_form HO_5.out (by omega)
        (first | cases eo10 | (injection eo10 with ea_ en_ ec_; (first | subst ea_ | (injection ea_ with ea_; subst ea_)); subst ec_; clear en_))
        have GB10 := am gb10
        have GG10 := am HG10
        clear gb10 gl10 HG10
        obtain ⟨hx10_0, hf10_0⟩ := Kd.R_celln 0 HO_5.out (x6_1 : Int) p10 q10
        replace p10 := eq_true p10
        replace q10 := eq_true q10
        have HP11 := Kd.R_putg HO_5.out (x6_1 : Int) ((x0_1) % 256)
        go_wp2_with (first | ((with_reducible refine gate_store (t := 5) (p := 19) rfl ?_); refine store_event (t := 5) (p := 19) (v := ?vo_w12) (w1 := (wr.setCell ⟨go10, (x6_1 : Int).toNat, none⟩ (.int .u8 ((x0_1) % 256)))) ?hg ?ho ?hn ?hr ?_; (case ho => rfl); (case hg => rfl); (case hn => rfl); (case hr => first | (go_simp; done) | (go_simp; rfl)); intro w12 hw; have hg : wr.grownBy w12 (some go10) := (by rw [hw]; exact HP11.2); have hp_ : Kd.R (Kd.int .u8) 5 w12 w.heap.size (fun _ => True) (.slice (some ⟨go10, 0, none⟩) x5_1.length co10) y120 := (by rw [hw, Ny120.out]; exact HP11.1); clear HP11; replace HO_5 := am (hp_); replace HB := am ((by rw [hw]; exact below_set (HB.out) GB10.out : Below w.heap.size w w12)); clear hg hw hp_))
        go_roundg k1
        case measure => have := HK1.out; omega
        case rel => exact ⟨(x0_1 / 256), (y120), (wrap64 (x6_1 - 1)), e0, e0, H', ⟨by have := HK1.out; omega⟩, ⟨mv HO_5.out⟩, ⟨bt⟩⟩
       ·exact nh c9 H
      ·exact nh c8 H
     ·rw [if_neg c7] at H
      have c7b0 : decide (0 ≤ x6_1) = false := decide_eq_false c7
      clear c7
      obtain rfl := Option.some.inj H
      go_wp2
      go_ret
      exact ⟨_, by first | rfl | (simp [errW_none, errW_some] <;> rfl) | (simp [*, errW_none, errW_some] <;> rfl), rR (h := by exact HO_5.out), bt⟩
  ·exact nh c4 H
 ·exact nh c3 H

/-! ### impl_Eight: function 130 -/
def impl_Eight.f (k : Nat) (a0 : Int) : Option (List Int) := if a0 < 0 then (some ([] : List Int)) else ((impl_high.f k a0 8).bind fun t121 => (some t121))
theorem impl_Eight.calls (k : Nat) (a0 : Int) (r : List Int) (w : World) (h : impl_Eight.f k a0 = some r) :
  Calls Try.prog 130 #[.int .i64 a0] w fun e w' => ∃ v0_ : Value, e = .returned (v0_) ∧ Kd.R (Kd.int .u8) 5 w' w.heap.size (fun _ => True) v0_ r ∧ Below w.heap.size w w' := by
 have HB := am (Below.refl w.heap.size w)
 have H : (if a0 < 0 then (some ([] : List Int)) else ((impl_high.f k a0 8).bind fun t121 => (some t121))) = some r := h
 clear h
 by_cases c2 : a0 < 0
 ·rw [if_pos c2] at H
  have c2b0 : decide (a0 < 0) = true := decide_eq_true c2
  clear c2
  obtain rfl := Option.some.inj H
  go_enter Try.func130, Try.ntmps130
  go_wp2
  go_ret
  exact ⟨_, by first | rfl | (simp [errW_none, errW_some] <;> rfl) | (simp [*, errW_none, errW_some] <;> rfl), by first | exact Kd.R_nil _ _ _ _ _ | exact Kd.N_nil _ _ _ _ _ | exact Kd.V_nil _ _ _ _ _ | exact Kd.Q_nil _ _ _ _ _ | exact Kd.S_nil _ _ _ _ _, bt⟩
 ·rw [if_neg c2] at H
  have c2b0 : decide (a0 < 0) = false := decide_eq_false c2
  clear c2
  obtain ⟨t121, A3, H⟩ := bm H
  (try dsimp -simprocs only at H)
  obtain rfl := Option.some.inj H
  go_enter Try.func130, Try.ntmps130
  go_wp2_with (first | ((with_reducible refine gate_callee (f := 142) rfl ?_); refine goesL_ (some 6) rfl rfl Try.func142 (by kernel_rfl) rfl #[.int .i64 a0, .int .i64 8] rfl av ?_; (with_reducible refine (impl_high.calls k a0 8 t121 _ A3.out).mono ?_); rintro e w4 ⟨v122, rfl, ho0, hb⟩; refine ⟨_, rfl, ?_⟩; have HO123 := am (Kd.R_lower ho0 (below_size (bt))); replace HB := am (below_step (bt) hb); (try clear hb); (try clear hb2); (try clear hk); (try clear hi); (try clear ho0)))
  go_ret
  exact ⟨_, by first | rfl | (simp [errW_none, errW_some] <;> rfl) | (simp [*, errW_none, errW_some] <;> rfl), rR (h := by exact HO123.out), bt⟩

/-! ### slices_Concat_byte_byte: function 134 -/
theorem rowAt8 {w : World} {A : Option Addr} {n : Nat} {xs : List (List Int)} (h : Kd.C (Kd.slice 5 (Kd.int .u8)) w A n xs) (k : Nat) (hk : k < n) :
  ∃ ad A0 c0, A = some ad ∧ w.cell? (ad.add k) = some (.slice A0 (xs.getD k []).length c0) ∧ (xs.getD k []).length ≤ c0 ∧ (Kd.int .u8).C w A0 (xs.getD k []).length (xs.getD k []) := by
 obtain ⟨ad, c, e, hl, hK, hc⟩ := ReadsRow.get_ h ([] : List Int) (k : Int) (Int.natCast_nonneg k) (by omega)
 obtain ⟨A0, c0, rfl, h2, h3⟩ := hK
 rw [Int.toNat_natCast] at hc h2 h3
 have h4 := hc 0 _ rfl
 refine ⟨ad, A0, c0, e, ?_, h2, h3⟩
 have e1 : k * (Kd.slice 5 (Kd.int .u8)).sz + 0 = k := Nat.mul_one k
 rw [e1] at h4
 exact h4
set_option maxHeartbeats 4000000 in
set_option maxRecDepth 100000 in
theorem grow_nil (n : Nat) (w : World) (hl : n < 140737488355328) :
  Calls Try.prog 144 #[.slice none 0 0, .int .i64 n] w fun e w' => ∃ v0_ : Value, e = .returned (v0_) ∧ Kd.R (Kd.int .u8) 5 w' w.heap.size (fun _ => True) v0_ [] ∧ Below w.heap.size w w' := by
 have HB := am (Below.refl w.heap.size w)
 have LM := am hl
 by_cases h0 : 0 < n
 ·have c0 : decide (0 < (n : Int)) = true := decide_eq_true (by omega)
  have c1 : decide ((n : Int) < 0) = false := decide_eq_false (by omega)
  have c2 : (n : Int) - 0 = n := Int.sub_zero _
  have p0 : (0 : Int) ≤ (n : Int) := by omega
  have b2 : (n : Int) ≤ 9223372036854775806 := by omega
  have w0_ : wrap64 (n : Int) = (n : Int) := by unfold wrap64; omega
  have c4 : decide (0 < wrap64 (n : Int)) = true := by rw [w0_]; exact c0
  have p4 : (0 : Int) ≤ wrap64 (n : Int) := by rw [w0_]; exact p0
  have q4 : (wrap64 (n : Int)).toNat = n := by rw [w0_]; rfl
  have HO := am (Kd.R_nil (Kd.int .u8) 5 w w.heap.size (fun _ => True))
  clear h0 hl
  go_enter Try.func144, Try.ntmps144
  go_wp2_with ((with_reducible refine gate_builtin (b := .append) (xs := #[.tmp 20, .tmp 21]) rfl ?_); at_builtin; refine Kd.R_append_zeros (Kd.int .u8) (w0 := w) w.heap.size rfl (.tmp 20) (.tmp 21) 22 3 5 (.int .u8 0) 1 rfl Try.underlying22 Try.underlying3 info5 rfl (by decide) (by omega) (.slice none 0 0) [] 0 (n : Int) (fun _ => True) rfl rfl rfl ?aF ?aO p0 ?aB ?aS ?aL ?_; (case aB => exact HB.out); (case aF => exact (fun _ _ => trivial)); (case aO => exact HO.out); (case aS => exact Nat.le_refl _); (case aL => have := LM.out; simp; omega); intro v22 w5 ho hb hg hat; obtain ⟨A22, c22, rfl⟩ := Kd.R_slice ho; have n1_ := am (Kd.R_take ho (Nat.zero_le _)); have n0_ := am hb; clear HB; have HB := n0_; have HO22 := n1_; clear n0_ n1_; clear ho hb hg hat)
  ·go_ret
   exact ⟨_, rfl, HO22.out, HB.out⟩
  ·exfalso; have := of_decide_eq_true c0; omega
 ·obtain rfl : n = 0 := by omega
  clear h0 hl
  go_enter Try.func144, Try.ntmps144
  go_wp2
  go_ret
  exact ⟨_, rfl, Kd.R_nil _ _ _ _ _, Below.refl _ _⟩
def slices_Concat_byte_byte.f (l0 : List (List Int)) : Option (List Int) := if l0.flatten.length < 140737488355328 then some l0.flatten else none
theorem flat_take (l : List (List Int)) (k : Nat) (hk : k < l.length) : (l.take (k + 1)).flatten = (l.take k).flatten ++ l.getD k [] := by
 rw [List.take_succ_eq_append_getElem hk, List.flatten_append, List.getD_eq_getElem?_getD, List.getElem?_eq_getElem hk]
 simp
theorem flat_take_le (l : List (List Int)) (k : Nat) : (l.take k).flatten.length ≤ l.flatten.length := by
 have h : l.flatten = (l.take k).flatten ++ (l.drop k).flatten := by rw [← List.flatten_append, List.take_append_drop]
 have := congrArg List.length h
 rw [List.length_append] at this
 omega
theorem slices_Concat_byte_byte.calls (A0 : Option Addr) (c0 : Nat) (l0 : List (List Int)) (r : List Int) (w : World) (hr0 : Kd.C (Kd.slice 5 (Kd.int .u8)) w A0 l0.length l0) (hc0 : l0.length ≤ c0) (h : slices_Concat_byte_byte.f l0 = some r) :
  Calls Try.prog 134 #[.slice A0 l0.length c0] w fun e w' => ∃ v0_ : Value, e = .returned (v0_) ∧ Kd.R (Kd.int .u8) 5 w' w.heap.size (fun _ => True) v0_ r ∧ Below w.heap.size w w' := by
 unfold slices_Concat_byte_byte.f at h
 by_cases hl : l0.flatten.length < 140737488355328
 ·rw [if_pos hl] at h
  obtain rfl := Option.some.inj h
  have HR := am hr0
  have LM := am hl
  have HM : Aside0 (l0.length ≤ 9223372036854775807) := ⟨hr0.2.1⟩
  have HB := am (Below.refl w.heap.size w)
  clear hr0 h hl
  go_enter Try.func134, Try.ntmps134
  go_wp2
  go_loopw [3, 11] (fun s i wr => ∃ k : Nat, i = .int .i64 k ∧ s = .int .i64 ((l0.take k).flatten.length : Int) ∧ Aside0 (k ≤ l0.length) ∧ Drawn0 w wr) (fun _ i _ => l0.length - (intOf i).toNat)
  case atStart => exact ⟨0, rfl, rfl, ⟨Nat.zero_le _⟩, Drawn0.refl _⟩
  case round =>
   obtain ⟨k, rfl, rfl, HK, ⟨m, rfl⟩⟩ := hrel
   by_cases hlt : k < l0.length
   ·have d0 : decide (k < l0.length) = true := decide_eq_true hlt
    have d1 : decide ((k : Int) < (l0.length : Int)) = true := decide_eq_true (by omega)
    have p1 : 0 ≤ (k : Int) := Int.natCast_nonneg k
    have q1 : (k : Int) < (l0.length : Int) := by omega
    obtain ⟨ad, A5, c5, e1, hx, hle, hC0⟩ := rowAt8 HR.out k hlt
    cases e1
    have HL := am hlt
    have HT : Aside0 (((l0.take (k + 1)).flatten.length : Int) = ((l0.take k).flatten.length : Int) + ((l0.getD k []).length : Int)) := ⟨by rw [flat_take l0 k hlt, List.length_append]; rfl⟩
    have h7 : (l0.take (k + 1)).flatten.length ≤ l0.flatten.length := flat_take_le l0 (k + 1)
    have h8 := HT.out
    have hlm := LM.out
    generalize (l0.take k).flatten.length = n0 at h8 HT ⊢
    generalize l0.getD k [] = x at hx h8 HT hC0 hle
    have b0 : (0 : Int) ≤ (n0 : Int) := Int.natCast_nonneg _
    have b1 : (0 : Int) ≤ (x.length : Int) := Int.natCast_nonneg _
    have b2 : (n0 : Int) + (x.length : Int) ≤ 9223372036854775806 := by omega
    have b3 : (k : Int) ≤ 9223372036854775806 := by have := HM.out; omega
    have b4 : wrap64 ((n0 : Int) + (x.length : Int)) = (n0 : Int) + (x.length : Int) := by unfold wrap64; omega
    have b5 : decide ((n0 : Int) + (x.length : Int) < 0) = false := decide_eq_false (by omega)
    have b6 : ((n0 : Int) + (x.length : Int) < 0) = False := eq_false (by omega)
    clear hC0 hle h7 h8 hlm hlt
    go_wp2
    go_roundw
    case rel => exact ⟨k + 1, by go_num, by rw [HT.out], ⟨HL.out⟩, by repeat (first | exact Drawn0.refl _ | apply Drawn0.step)⟩
    case measure => have := HL.out; simp [intOf]; omega
   ·have d0 : decide (k < l0.length) = false := decide_eq_false hlt
    have d1 : decide ((k : Int) < (l0.length : Int)) = false := decide_eq_false (by omega)
    have hk : k = l0.length := by have := HK.out; omega
    subst hk
    have et : l0.take l0.length = l0 := List.take_length
    rw [et]
    have LM2 := LM.out
    generalize l0.flatten.length = N at LM2 ⊢
    have b0 : (0 : Int) ≤ (N : Int) := Int.natCast_nonneg _
    have b1 : (N : Int) ≤ 140737488355327 := by omega
    have HG := am (grow_nil N (w.drewN m) LM2)
    clear LM2
    clear hlt et
    go_wp2_with fail
    refine HG.out.mono ?_
    rintro e w1 ⟨v, rfl, ho, hb⟩
    have hb0 : Below w.heap.size w (w.drewN m) := pw_below_drewN HB.out m
    have HB1 : Aside0 (Below w.heap.size w w1) := ⟨below_step hb0 hb⟩
    have HO1 : Aside0 (Kd.R (Kd.int .u8) 5 w1 w.heap.size (fun _ => True) v []) := ⟨Kd.R_lower ho (below_size hb0)⟩
    clear hb0
    clear ho hb HG HB b0 b1
    go_wp2
    go_loopw [6, 27] (fun v i wr => ∃ k : Nat, i = .int .i64 k ∧ Aside0 (k ≤ l0.length) ∧ Aside0 (Below w.heap.size w wr) ∧ Aside0 (Kd.R (Kd.int .u8) 5 wr w.heap.size (fun _ => True) v (l0.take k).flatten)) (fun _ i _ => l0.length - (intOf i).toNat)
    case atStart => exact ⟨0, rfl, ⟨Nat.zero_le _⟩, HB1, HO1⟩
    case round =>
     obtain ⟨k, rfl, HK2, HB, HO⟩ := hrel
     by_cases hlt : k < l0.length
     ·have d0 : decide (k < l0.length) = true := decide_eq_true hlt
      have d1 : decide ((k : Int) < (l0.length : Int)) = true := decide_eq_true (by omega)
      have p1 : 0 ≤ (k : Int) := Int.natCast_nonneg k
      have q1 : (k : Int) < (l0.length : Int) := by omega
      have hrow := rowAt8 (Kd.C_below HR.out HB.out) k hlt
      have HT : Aside0 ((l0.take (k + 1)).flatten = (l0.take k).flatten ++ l0.getD k []) := ⟨flat_take l0 k hlt⟩
      have h7 : (l0.take (k + 1)).flatten.length ≤ l0.flatten.length := flat_take_le l0 (k + 1)
      rw [HT.out, List.length_append] at h7
      have LS : Aside0 ((l0.take k).flatten.length + (l0.getD k []).length ≤ 140737488355328) := ⟨by have := LM.out; omega⟩
      have HL := am hlt
      clear h7
      generalize (l0.take k).flatten = y0 at HT HO LS ⊢
      generalize l0.getD k [] = x at hrow HT LS
      obtain ⟨ad, A5, c5, e1, hx, hle, hC0⟩ := hrow
      have HCC := am hC0
      have b3 : (k : Int) ≤ 9223372036854775806 := by have := HM.out; omega
      cases e1
      clear hC0 hle hlt
      go_wp2_with ((with_reducible refine gate_builtin (b := .append) (xs := #[.tmp 31, .tmp 32]) rfl ?_); at_builtin; refine Kd.R_append_rows (Kd.int .u8) (w0 := w) w.heap.size rfl (.tmp 31) (.tmp 32) 22 5 (.int .u8 0) 1 rfl Try.underlying22 info5 rfl (by decide) (by omega) u6 y0 x _ _ _ (fun _ => True) (fun _ => False) rfl rfl ?aO ?aR (fun _ _ h => h) (fun _ h => h.elim) ?aF ?aB ?aS ?aL ?_; (case aR => exact HCC.out); (case aB => exact HB.out); (case aF => exact (fun _ _ => trivial)); (case aO => exact HO.out); (case aS => exact (below_size HB.out)); (case aL => have := LS.out; omega); intro v33 w5 ho hb hg hat; replace HB := am (hb); have HO33 := am (ho); clear HO; clear ho hb hg hat)
      go_roundw
      case rel => exact ⟨k + 1, by go_num, ⟨HL.out⟩, ⟨HB.out⟩, ⟨by rw [HT.out]; exact HO33.out⟩⟩
      case measure => have := HL.out; simp [intOf]; omega
     ·have e0 : decide (k < l0.length) = false := decide_eq_false hlt
      have e1 : decide ((k : Int) < (l0.length : Int)) = false := decide_eq_false (by omega)
      have hk : k = l0.length := by have := HK2.out; omega
      subst hk
      have HE : Aside0 (l0.take l0.length = l0) := ⟨List.take_length⟩
      clear hlt
      go_wp2
      go_ret
      exact ⟨_, rfl, by have h := HO.out; rw [HE.out] at h; exact h, HB.out⟩
 ·rw [if_neg hl] at h
  cases h

/-! ### impl_nodeInput: function 108 -/
def impl_nodeInput.f (k : Nat) (a0 : Int) (a1 : Int) : Option (List Int) := (impl_Eight.f k a0).bind fun t127 => ((impl_Eight.f k a1).bind fun t130 => ((slices_Concat_byte_byte.f (([(([1] : List Int)), t127, t130] : List (List Int)))).bind fun t136 => (some t136)))
theorem impl_nodeInput.calls (k : Nat) (a0 : Int) (a1 : Int) (r : List Int) (w : World) (h : impl_nodeInput.f k a0 a1 = some r) :
  Calls Try.prog 108 #[.int .i64 a0, .int .i64 a1] w fun e w' => ∃ v0_ : Value, e = .returned (v0_) ∧ Kd.R (Kd.int .u8) 5 w' w.heap.size (fun _ => True) v0_ r ∧ Below w.heap.size w w' := by
 have HB := am (Below.refl w.heap.size w)
 have H : ((impl_Eight.f k a0).bind fun t127 => ((impl_Eight.f k a1).bind fun t130 => ((slices_Concat_byte_byte.f (([(([1] : List Int)), t127, t130] : List (List Int)))).bind fun t136 => (some t136)))) = some r := h
 clear h
 obtain ⟨y124, hy124⟩ : ∃ y_ : List Int, y_ = (([1] : List Int)) := ⟨_, rfl⟩
 replace H : ((impl_Eight.f k a0).bind fun t127 => ((impl_Eight.f k a1).bind fun t130 => ((slices_Concat_byte_byte.f (([y124, t127, t130] : List (List Int)))).bind fun t136 => (some t136)))) = some r := by first | (rw [hy124]; exact H) | exact H
 have Ny124 := am hy124
 clear hy124
 obtain ⟨t127, A3, H⟩ := bm H
 (try dsimp -simprocs only at H)
 obtain ⟨t130, A4, H⟩ := bm H
 (try dsimp -simprocs only at H)
 obtain ⟨y133, hy133⟩ : ∃ y_ : List (List Int), y_ = (([y124, t127, t130] : List (List Int))) := ⟨_, rfl⟩
 replace H : ((slices_Concat_byte_byte.f y133).bind fun t136 => (some t136)) = some r := by first | (rw [hy133]; exact H) | exact H
 have Ny133 := am hy133
 clear hy133
 obtain ⟨t136, A5, H⟩ := bm H
 (try dsimp -simprocs only at H)
 obtain rfl := Option.some.inj H
 go_enter Try.func108, Try.ntmps108
 go_wp2_with (first | ((with_reducible refine gate_dst (N := 5) rfl ?_); refine Kd.R_lit (Kd.int .u8) _ 5 ?hg (N := 5) ?hd (xs := ([1] : List Int)) (inner := [.int .u8 1]) (ok := fun _ => True) (okp := fun _ => True) ?hr ?hp (fun _ hk => hk) trivial (Below.refl _ _) (Nat.le_refl _) (by simp) ?_; (case hd => rfl); (case hg => rfl); (case hr => first | (go_simp; done) | (go_simp; rfl)); (case hp => exact (Reps.one (show Kd.M (Kd.int .u8) _ _ _ 1 [.int .u8 1] from rfl) (Reps.none _ _))); intro v125 w6 ho7 hb hg_ hnew_; clear hg_ hnew_; (first | rw [← Ny124.out] at ho7 | (simp only [Int.reduceToNat] at ho7; rw [← Ny124.out] at ho7)); have HO126 := am (Kd.R_lower ho7 (below_size (bt))); replace HB := am (below_step (bt) hb); clear hb ho7) | ((with_reducible refine gate_callee (f := 130) rfl ?_); refine goesL_ (some 7) rfl rfl Try.func130 (by kernel_rfl) rfl #[.int .i64 a0] rfl av ?_; (with_reducible refine (impl_Eight.calls k a0 t127 _ A3.out).mono ?_); rintro e w8 ⟨v128, rfl, ho0, hb⟩; refine ⟨_, rfl, ?_⟩; have HO129 := am (Kd.R_lower (Kd.R_new' ho0 (Kd.R_lt (mv HO126.out))) (below_size (bt))); replace HO126 := am (Kd.R_elder' (mv HO126.out) (Kd.R_base ho0) hb); replace HB := am (below_step (bt) hb); (try clear hb); (try clear hb2); (try clear hk); (try clear hi); (try clear ho0)) | ((with_reducible refine gate_callee (f := 130) rfl ?_); refine goesL_ (some 9) rfl rfl Try.func130 (by kernel_rfl) rfl #[.int .i64 a1] rfl av ?_; (with_reducible refine (impl_Eight.calls k a1 t130 _ A4.out).mono ?_); rintro e w9 ⟨v131, rfl, ho0, hb⟩; refine ⟨_, rfl, ?_⟩; have HO132 := am (Kd.R_lower (Kd.R_new' (Kd.R_new' ho0 (Kd.R_lt (mv HO126.out))) (Kd.R_lt (mv HO129.out))) (below_size (bt))); replace HO126 := am (Kd.R_elder' (mv HO126.out) (Kd.R_base ho0) hb); replace HO129 := am (Kd.R_elder' (mv HO129.out) (Kd.R_base ho0) hb); replace HB := am (below_step (bt) hb); (try clear hb); (try clear hb2); (try clear hk); (try clear hi); (try clear ho0); obtain ⟨Ao10, co10, eo10⟩ := Kd.R_slice HO126.out; subst eo10; obtain ⟨Ao11, co11, eo11⟩ := Kd.R_slice HO129.out; subst eo11; obtain ⟨Ao12, co12, eo12⟩ := Kd.R_slice HO132.out; subst eo12) | ((with_reducible refine gate_dst (N := 10) rfl ?_); refine Kd.N_lit (Kd.slice 5 (Kd.int .u8)) _ 22 ?hg (N' := 10) ?hd (xs := ([y124, t127, t130] : List (List Int))) (inner := [.slice Ao10 y124.length co10, .slice Ao11 t127.length co11, .slice Ao12 t130.length co12]) (ok := (fun _ => True)) (okp := (fun _ => True)) ?hr ?hp (fun _ hk => hk) ((show ∀ k_, w9.heap.size ≤ k_ → (fun _ => True) k_ from fun k_ hk => trivial) _ (Nat.le_refl _)) (Below.refl _ _) (Nat.le_refl _) (by simp) ?_; (case hd => rfl); (case hg => rfl); (case hr => first | (go_simp; done) | (go_simp; rfl)); (case hp => exact (Reps.one (show Kd.FK (Kd.slice 5 (Kd.int .u8)) _ _ y124 [.slice Ao10 y124.length co10] from (fkR (Kd.R_mono (ok' := (fun _ => True)) (HO126.out) (fun k_ hk => trivial)))) (Reps.one (show Kd.FK (Kd.slice 5 (Kd.int .u8)) _ _ t127 [.slice Ao11 t127.length co11] from (fkR (Kd.R_mono (ok' := (fun _ => True)) (HO129.out) (fun k_ hk => trivial)))) (Reps.one (show Kd.FK (Kd.slice 5 (Kd.int .u8)) _ _ t130 [.slice Ao12 t130.length co12] from (fkR (Kd.R_mono (ok' := (fun _ => True)) (HO132.out) (fun k_ hk => trivial)))) (Reps.none _ _))))); intro v134 w13 ho14 hb hg_ hnew_; clear hg_ hnew_; (first | rw [← Ny133.out] at ho14 | (simp only [Int.reduceToNat] at ho14; rw [← Ny133.out] at ho14)); have HO135 := am (Kd.N_lower ho14 (below_size (bt))); replace HB := am (below_step (bt) hb); clear HO126 HO129 HO132; clear hb ho14; obtain ⟨Ao15, co15, eo15⟩ := Kd.N_slice HO135.out; subst eo15) | ((with_reducible refine gate_callee (f := 134) rfl ?_); refine goesL_ (some 11) rfl rfl Try.func134 (by kernel_rfl) rfl #[.slice Ao15 y133.length co15] rfl av ?_; (with_reducible refine (slices_Concat_byte_byte.calls _ _ y133 t136 _ ?side1 ?side2 A5.out).mono ?_); (case side1 => exact cv ((Kd.N_reads' HO135.out).2.2)); (case side2 => exact (Kd.N_reads' HO135.out).2.1); rintro e w16 ⟨v137, rfl, ho0, hb⟩; refine ⟨_, rfl, ?_⟩; replace HO135 := am (Kd.N_elder' (mv HO135.out) (Kd.R_base ho0) hb); have HO138 := am (Kd.R_lower ho0 (below_size (bt))); replace HB := am (below_step (bt) hb); (try clear hb); (try clear hb2); (try clear hk); (try clear hi); (try clear ho0)))
 go_ret
 exact ⟨_, by first | rfl | (simp [errW_none, errW_some] <;> rfl) | (simp [*, errW_none, errW_some] <;> rfl), rR (h := by exact HO138.out), bt⟩

/-! ### impl_isDigest: function 133 -/
def impl_isDigest.f (a0 : Int) (a1 : Int) : Option (Bool) := (impl_bitsOk.f a0).bind fun t139 => (if t139 = true then (if 0 ≤ a0 then ((impl_in.f a1 0 (wrap64 ((shl .i64 1 a0) - 1))).bind fun t140 => (some t140)) else (none)) else (some false))
theorem impl_isDigest.calls (a0 : Int) (a1 : Int) (r : Bool) (w : World) (h : impl_isDigest.f a0 a1 = some r) :
  Calls Try.prog 133 #[.int .i64 a0, .int .i64 a1] w fun e w' => e = .returned (.bool r) ∧ Drawn0 w w' := by
 have H : ((impl_bitsOk.f a0).bind fun t139 => (if t139 = true then (if 0 ≤ a0 then ((impl_in.f a1 0 (wrap64 ((shl .i64 1 a0) - 1))).bind fun t140 => (some t140)) else (none)) else (some false))) = some r := h
 clear h
 obtain ⟨t139, A3, H⟩ := bm H
 (try dsimp -simprocs only at H)
 by_cases c4 : t139 = true
 ·subst c4
  rw [if_pos rfl] at H
  by_cases c5 : 0 ≤ a0
  ·rw [if_pos c5] at H
   have c5b0 := eq_true c5
   have c5b1 : decide (0 ≤ a0) = true := decide_eq_true c5
   clear c5
   obtain ⟨ji6, hji6⟩ : ∃ j_ : Int, (shl .i64 1 a0) = j_ := ⟨_, rfl⟩
   replace H : ((impl_in.f a1 0 (wrap64 ((ji6) - 1))).bind fun t140 => (some t140)) = some r := by first | (rw [hji6] at H; exact H) | (simp only [hji6] at H ⊢; exact H)
   (try rw [hji6] at A3)
   have hji6_ : (IntKind.i64.wrap (1 * 2 ^ min a0.toNat 64)) = ji6 := hji6
   have hji6z : a0 ≤ 64 → (IntKind.i64.wrap (1 * 2 ^ a0.toNat)) = ji6 := shl_small hji6
   have hji6u : (IntKind.i64.wrap (2 ^ min a0.toNat 64)) = ji6 := by have h_ := hji6_; rw [Int.one_mul] at h_; exact h_
   have hji6v : a0 ≤ 64 → (IntKind.i64.wrap (2 ^ a0.toNat)) = ji6 := fun hle_ => by have h_ := hji6z hle_; rw [Int.one_mul] at h_; exact h_
   have hji6y : (wrap64 (1 * 2 ^ min a0.toNat 64)) = ji6 := (i64_w _).symm.trans hji6_
   have hji6x : a0 ≤ 64 → (wrap64 (1 * 2 ^ a0.toNat)) = ji6 := fun h_ => (i64_w _).symm.trans (hji6z h_)
   obtain ⟨t140, A7, H⟩ := bm H
   (try dsimp -simprocs only at H)
   obtain rfl := Option.some.inj H
   go_enter Try.func133, Try.ntmps133
   go_wp2_with (first | ((with_reducible refine gate_callee (f := 103) rfl ?_); refine goesL_ (some 6) rfl rfl Try.func103 (by kernel_rfl) rfl #[.int .i64 a0] rfl av ?_; (with_reducible refine (impl_bitsOk.calls a0 true _ A3.out).mono ?_); rintro e w' ⟨rfl, ⟨nd, rfl⟩⟩; refine ⟨_, rfl, ?_⟩) | (go_at_call 94; (with_reducible refine (impl_in.calls a1 0 (wrap64 ((ji6) - 1)) t140 _ A7.out).mono ?_); rintro e w' ⟨rfl, ⟨nd, rfl⟩⟩))
   go_ret
   exact ⟨by first | rfl | (simp; done) | (simp only [← hji6] <;> (first | rfl | simp)) | (simp [*]; done), by repeat (first | exact Drawn0.refl _ | apply Drawn0.step)⟩
  ·exact nh c5 H
 ·replace c4 := Bool.eq_false_iff.mpr c4
  subst c4
  rw [if_neg nft] at H
  obtain rfl := Option.some.inj H
  go_enter Try.func133, Try.ntmps133
  go_wp2_with (first | ((with_reducible refine gate_callee (f := 103) rfl ?_); refine goesL_ (some 6) rfl rfl Try.func103 (by kernel_rfl) rfl #[.int .i64 a0] rfl av ?_; (with_reducible refine (impl_bitsOk.calls a0 false _ A3.out).mono ?_); rintro e w' ⟨rfl, ⟨nd, rfl⟩⟩; refine ⟨_, rfl, ?_⟩))
  go_ret
  exact ⟨e0, by repeat (first | exact Drawn0.refl _ | apply Drawn0.step)⟩

/-! ### impl_NodeOf: function 120 -/
def impl_NodeOf.j0 : Nat → Int → Int → Int → Bool → Option (Int)
 | 0, _, _, _, _ => none
 | k + 1, x0, x1, x2, x16 => if x16 = true then (some (-1)) else ((impl_nodeInput.f k x1 x2).bind fun t143 => ((impl_Digest.f x0 t143).bind fun t146 => (some t146)))
def impl_NodeOf.f (k : Nat) (a0 : Int) (a1 : Int) (a2 : Int) : Option (Int) := (impl_isDigest.f a0 a1).bind fun t141 => (if t141 = true then ((impl_isDigest.f a0 a2).bind fun t142 => (impl_NodeOf.j0 k a0 a1 a2 (!t142))) else (impl_NodeOf.j0 k a0 a1 a2 true))
theorem impl_NodeOf.calls (k : Nat) (a0 : Int) (a1 : Int) (a2 : Int) (r : Int) (w : World) (h : impl_NodeOf.f k a0 a1 a2 = some r) :
  Calls Try.prog 120 #[.int .i64 a0, .int .i64 a1, .int .i64 a2] w fun e w' => e = .returned (.int .i64 r) ∧ Below w.heap.size w w' := by
 have HB := am (Below.refl w.heap.size w)
 have H : ((impl_isDigest.f a0 a1).bind fun t141 => (if t141 = true then ((impl_isDigest.f a0 a2).bind fun t142 => (impl_NodeOf.j0 k a0 a1 a2 (!t142))) else (impl_NodeOf.j0 k a0 a1 a2 true))) = some r := h
 clear h
 have HC4 := am H
 clear H
 go_enter Try.func120, Try.ntmps120
 go_upto_region 1 with (fail)
 go_cut [16] (fun v16 wc => ∃ (kq : Nat) (x16_3 : Bool), v16 = .bool x16_3 ∧ Aside0 (impl_NodeOf.j0 kq a0 a1 a2 x16_3 = some r) ∧ Aside0 (kq ≤ k) ∧ Aside0 (Below w.heap.size w wc))
 case first =>
  have H := HC4.out
  clear HC4
  obtain ⟨t141, A5, H⟩ := bm H
  (try dsimp -simprocs only at H)
  by_cases c6 : t141 = true
  ·subst c6
   rw [if_pos rfl] at H
   obtain ⟨t142, A7, H⟩ := bm H
   (try dsimp -simprocs only at H)
   have H' := am H
   clear H
   go_wp2_with (first | ((with_reducible refine gate_callee (f := 133) rfl ?_); refine goesL_ (some 9) rfl rfl Try.func133 (by kernel_rfl) rfl #[.int .i64 a0, .int .i64 a1] rfl av ?_; (with_reducible refine (impl_isDigest.calls a0 a1 true _ A5.out).mono ?_); rintro e w' ⟨rfl, ⟨nd, rfl⟩⟩; refine ⟨_, rfl, ?_⟩) | (go_at_call 133; (with_reducible refine (impl_isDigest.calls a0 a2 t142 _ A7.out).mono ?_); rintro e w' ⟨rfl, ⟨nd, rfl⟩⟩))
   go_meet
   case rel => exact ⟨_, (!t142), e0, H', ⟨by first | omega | exact Nat.le_refl _⟩, ⟨bt⟩⟩
  ·replace c6 := Bool.eq_false_iff.mpr c6
   subst c6
   rw [if_neg nft] at H
   have H' := am H
   clear H
   go_wp2_with (first | ((with_reducible refine gate_callee (f := 133) rfl ?_); refine goesL_ (some 9) rfl rfl Try.func133 (by kernel_rfl) rfl #[.int .i64 a0, .int .i64 a1] rfl av ?_; (with_reducible refine (impl_isDigest.calls a0 a1 false _ A5.out).mono ?_); rintro e w' ⟨rfl, ⟨nd, rfl⟩⟩; refine ⟨_, rfl, ?_⟩))
   go_meet
   case rel => exact ⟨_, (true), e0, H', ⟨by first | omega | exact Nat.le_refl _⟩, ⟨bt⟩⟩
 case rest =>
  clear HC4
  obtain ⟨kq, x16_3, rfl, HA, HJ3, HB⟩ := hcut
  cases kq with
  | zero => exact absurd HA.out (by simp [impl_NodeOf.j0])
  | succ kj3 =>
   have H := HA.out
   clear HA
   simp only [impl_NodeOf.j0] at H
   by_cases c8 : x16_3 = true
   ·subst c8
    rw [if_pos rfl] at H
    obtain rfl := Option.some.inj H
    go_wp2
    go_ret
    exact ⟨by first | rfl | (simp [errW_none, errW_some] <;> rfl) | (simp [*, errW_none, errW_some] <;> rfl), bt⟩
   ·replace c8 := Bool.eq_false_iff.mpr c8
    subst c8
    rw [if_neg nft] at H
    obtain ⟨t143, A9, H⟩ := bm H
    (try dsimp -simprocs only at H)
    obtain ⟨t146, A10, H⟩ := bm H
    (try dsimp -simprocs only at H)
    obtain rfl := Option.some.inj H
    go_wp2_with (first | ((with_reducible refine gate_callee (f := 108) rfl ?_); refine goesL_ (some 20) rfl rfl Try.func108 (by kernel_rfl) rfl #[.int .i64 a1, .int .i64 a2] rfl av ?_; (with_reducible refine (impl_nodeInput.calls kj3 a1 a2 t143 _ A9.out).mono ?_); rintro e w11 ⟨v144, rfl, ho0, hb⟩; refine ⟨_, rfl, ?_⟩; have HO145 := am (Kd.R_lower ho0 (below_size (bt))); replace HB := am (below_step (bt) hb); (try clear hb); (try clear hb2); (try clear hk); (try clear hi); (try clear ho0); obtain ⟨Ao12, co12, eo12⟩ := Kd.R_slice HO145.out; subst eo12) | ((with_reducible refine gate_callee (f := 56) rfl ?_); refine goesL_ (some 21) rfl rfl Try.func56 (by kernel_rfl) rfl #[.int .i64 a0, .slice Ao12 t143.length co12] rfl av ?_; (with_reducible refine (impl_Digest.calls a0 _ _ t143 t146 _ ?side1 ?side2 A10.out).mono ?_); (case side1 => exact cv ((Kd.R_reads' HO145.out).2.2)); (case side2 => exact (Kd.R_reads' HO145.out).2.1); rintro e w13 ⟨rfl, hb⟩; refine ⟨_, rfl, ?_⟩; replace HO145 := am (Kd.R_below (mv HO145.out) hb); replace HB := am (below_step (bt) hb); (try clear hb); (try clear hb2); (try clear hk); (try clear hi)))
    go_ret
    exact ⟨by first | rfl | (simp [errW_none, errW_some] <;> rfl) | (simp [*, errW_none, errW_some] <;> rfl), bt⟩

end Go.Proofs.Ytchjajbkaiefdaa.PFnMany
