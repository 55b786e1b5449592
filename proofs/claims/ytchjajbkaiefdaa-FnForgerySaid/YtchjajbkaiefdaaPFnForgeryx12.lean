-- Written by a program of this workplace (wip/mp.py) out of the translation.
import Derived.Test.YtchjajbkaiefdaaPFnForgeryx0
import Derived.Test.YtchjajbkaiefdaaPFnForgeryx3
namespace Go.Proofs.Ytchjajbkaiefdaa.PFnForgery
open Go.RowKit Go.Proofs.YtchjajbkaiefdaaW.PrintWords Go.Proofs.YtchjajbkaiefdaaW.PrintLast Go.Proofs.YtchjajbkaiefdaaW.PrintMore Go.Proofs.Ytchjajbkaiefdaa.Slim
attribute [local go_sem] max2_int min2_int max_two min_two max_three min_three max_four min_four   -- for this text's walks alone
set_option linter.unusedVariables false
set_option linter.unusedSimpArgs false

/-! ### impl_sameLeaves: function 67 -/
/-- Two texts are alike. -/
def alikeB (p q : List Int) : Bool := (strOfNums p).toList == (strOfNums q).toList
/-- Two lists of texts are alike, from place to place. -/
def alikeL : List (List Int) → List (List Int) → Bool
 | x :: l, y :: m => alikeB x y && alikeL l m
 | [], _ => true
 | _ :: _, [] => true
def impl_sameLeaves.f (l0 l1 : List (List Int)) : Option (Bool) := some (decide (l0.length = l1.length) && alikeL l0 l1)
theorem rowAtS {w : World} {A : Option Addr} {n : Nat} {xs : List (List Int)} (h : Kd.C (Kd.slice 5 (Kd.int .u8)) w A n xs) (k : Nat) (hk : k < n) :
  ∃ ad A0 c0, A = some ad ∧ w.cell? (ad.add k) = some (.slice A0 (xs.getD k []).length c0) ∧ (xs.getD k []).length ≤ c0 ∧ (Kd.int .u8).C w A0 (xs.getD k []).length (xs.getD k []) := by
 obtain ⟨ad, c, e, hl, hK, hc⟩ := ReadsRow.get_ h ([] : List Int) (k : Int) (Int.natCast_nonneg k) (by omega)
 obtain ⟨A0, c0, rfl, h2, h3⟩ := hK
 rw [Int.toNat_natCast] at hc h2 h3
 have h4 := hc 0 _ rfl
 refine ⟨ad, A0, c0, e, ?_, h2, h3⟩
 have e1 : k * (Kd.slice 5 (Kd.int .u8)).sz + 0 = k := Nat.mul_one k
 rw [e1] at h4
 exact h4
set_option maxHeartbeats 4000000 in
set_option maxRecDepth 100000 in
theorem same_eq (A0 : Option Addr) (c0 : Nat) (l0 : List (List Int)) (A1 : Option Addr) (c1 : Nat) (l1 : List (List Int)) (w : World) (hr0 : Kd.C (Kd.slice 5 (Kd.int .u8)) w A0 l0.length l0) (hr1 : Kd.C (Kd.slice 5 (Kd.int .u8)) w A1 l1.length l1) (hne : l0.length = l1.length) :
  Calls Try.prog 109 #[.slice A0 l0.length c0, .slice A1 l1.length c1, .func (.func 60) #[] #[]] w fun e w' => e = .returned (.bool (alikeL l0 l1)) ∧ Drawn0 w w' := by
 have HR0 := am hr0
 have HR1 := am hr1
 have HNE := am hne
 have cn0 : ((l0.length : Int) != (l1.length : Int)) = false := bne_eq_false_iff_eq.mpr (by omega)
 have cn1 : (l0.length != l1.length) = false := bne_eq_false_iff_eq.mpr hne
 have cn2 : (l0.length == l1.length) = true := beq_iff_eq.mpr hne
 clear hr0 hr1 hne
 have eg := enters_of Try.func60 (by kernel_rfl) rfl
 go_enter Try.func109, Try.ntmps109
 go_wp2
 go_loopw [17] (fun i wr => ∃ k : Nat, i = .int .i64 k ∧ Aside0 (k ≤ l0.length) ∧ Aside0 (alikeL (l0.drop k) (l1.drop k) = alikeL l0 l1) ∧ Drawn0 w wr) (fun i _ => l0.length - (intOf i).toNat)
 case atStart => exact ⟨0, rfl, ⟨Nat.zero_le _⟩, ⟨rfl⟩, Drawn0.refl _⟩
 case round =>
  obtain ⟨k, rfl, HK, HF, ⟨m, rfl⟩⟩ := hrel
  have HM : Aside0 (l0.length ≤ 9223372036854775807) := ⟨HR0.out.2.1⟩
  by_cases hlt : k < l0.length
  ·have c0 : decide (k < l0.length) = true := decide_eq_true hlt
   have c2 : decide ((k : Int) < (l0.length : Int)) = true := decide_eq_true (by omega)
   have c3 : decide (k < l1.length) = true := decide_eq_true (by have := HNE.out; omega)
   have c4 : decide ((k : Int) < (l1.length : Int)) = true := decide_eq_true (by have := HNE.out; omega)
   have p1 : 0 ≤ (k : Int) := Int.natCast_nonneg k
   have q1 : (k : Int) < (l0.length : Int) := by omega
   have q2 : (k : Int) < (l1.length : Int) := by have := HNE.out; omega
   obtain ⟨ad, B0, d0, e0, hx, hle, hC⟩ := rowAtS HR0.out k hlt
   cases e0
   obtain ⟨ad1, B1, d1, e1, hx1, hle1, hC1⟩ := rowAtS HR1.out k (by have := HNE.out; omega)
   cases e1
   have ed0 : l0.drop k = l0.getD k [] :: l0.drop (k + 1) := by
    rw [List.getD_eq_getElem?_getD, List.getElem?_eq_getElem hlt]
    exact List.drop_eq_getElem_cons hlt
   have hlt1 : k < l1.length := by have := HNE.out; omega
   have ed1 : l1.drop k = l1.getD k [] :: l1.drop (k + 1) := by
    rw [List.getD_eq_getElem?_getD, List.getElem?_eq_getElem hlt1]
    exact List.drop_eq_getElem_cons hlt1
   have HD0 := am ed0
   have HD1 := am ed1
   have HL := am hlt
   have HC0 := am hC
   have HC1 := am hC1
   have HE0 := am hle
   have HE1 := am hle1
   clear hlt hlt1 ed0 ed1 hC hC1 hle hle1
   generalize l0.getD k [] = x at hx HD0 HC0 HE0
   generalize l1.getD k [] = y at hx1 HD1 HC1 HE1
   go_wp2_with fail
   refine (bytes_Equal.calls B0 d0 x B1 d1 y (alikeB x y) (w.drewN m) HC0.out HE0.out HC1.out HE1.out rfl).mono ?_
   rintro e w' ⟨rfl, ⟨nd, rfl⟩⟩
   have b2 : (k : Int) ≤ 9223372036854775806 := by have := HL.out; have := HM.out; omega
   by_cases hv : alikeB x y = true
   ·rw [hv]
    have HV := am hv
    clear hv
    go_wp2
    go_roundw
    case rel => exact ⟨k + 1, by go_num, ⟨HL.out⟩, ⟨by have h := HF.out; rw [HD0.out, HD1.out] at h; simp only [alikeL, HV.out, Bool.true_and] at h; exact h⟩, by repeat (first | exact Drawn0.refl _ | apply Drawn0.step)⟩
    case measure => have := HL.out; simp [intOf]; omega
   ·replace hv := Bool.eq_false_iff.mpr hv
    rw [hv]
    have HV := am hv
    clear hv
    go_wp2
    go_ret
    exact ⟨by have h := HF.out; rw [HD0.out, HD1.out] at h; simp only [alikeL, HV.out, Bool.false_and] at h; first | (rw [← h]; done) | (rw [← h]; rfl) | simp [← h], by repeat (first | exact Drawn0.refl _ | apply Drawn0.step)⟩
  ·have c0 : decide (k < l0.length) = false := decide_eq_false hlt
   have c2 : decide ((k : Int) < (l0.length : Int)) = false := decide_eq_false (by omega)
   have e : alikeL l0 l1 = true := by
    have h := HF.out
    rw [List.drop_eq_nil_of_le (by omega)] at h
    rw [← h]
    rfl
   have HE := am e
   clear hlt e
   go_wp2
   go_ret
   exact ⟨by first | (rw [HE.out]; done) | (rw [HE.out]; rfl), by repeat (first | exact Drawn0.refl _ | apply Drawn0.step)⟩
set_option maxHeartbeats 4000000 in
theorem same_ne (A0 : Option Addr) (c0 : Nat) (l0 : List (List Int)) (A1 : Option Addr) (c1 : Nat) (l1 : List (List Int)) (w : World) (hne : l0.length ≠ l1.length) :
  Calls Try.prog 109 #[.slice A0 l0.length c0, .slice A1 l1.length c1, .func (.func 60) #[] #[]] w fun e w' => e = .returned (.bool false) ∧ Drawn0 w w' := by
 have cn0 : ((l0.length : Int) != (l1.length : Int)) = true := bne_iff_ne.mpr (by omega)
 have cn1 : (l0.length != l1.length) = true := bne_iff_ne.mpr hne
 have cn2 : (l0.length == l1.length) = false := beq_eq_false_iff_ne.mpr hne
 have cn3 : ((l0.length : Int) == (l1.length : Int)) = false := beq_eq_false_iff_ne.mpr (by omega)
 clear hne
 go_enter Try.func109, Try.ntmps109
 go_wp2
 go_ret
 exact ⟨rfl, Drawn0.refl _⟩
set_option maxHeartbeats 4000000 in
theorem impl_sameLeaves.calls (A0 : Option Addr) (c0 : Nat) (l0 : List (List Int)) (A1 : Option Addr) (c1 : Nat) (l1 : List (List Int)) (r : Bool) (w : World) (hr0 : Kd.C (Kd.slice 5 (Kd.int .u8)) w A0 l0.length l0) (hc0 : l0.length ≤ c0) (hr1 : Kd.C (Kd.slice 5 (Kd.int .u8)) w A1 l1.length l1) (hc1 : l1.length ≤ c1) (h : impl_sameLeaves.f l0 l1 = some r) :
  Calls Try.prog 67 #[.slice A0 l0.length c0, .slice A1 l1.length c1] w fun e w' => e = .returned (.bool r) ∧ Drawn0 w w' := by
 have hr := Option.some.inj h
 subst hr
 clear h
 by_cases hne : l0.length = l1.length
 ·have HI := am (same_eq A0 c0 l0 A1 c1 l1 w hr0 hr1 hne)
  have HN := am hne
  clear hr0 hr1 hne
  go_enter Try.func67, Try.ntmps67
  go_wp2_with (go_at_call 109; refine HI.out.mono ?_; rintro e w' ⟨rfl, ⟨nd, rfl⟩⟩)
  go_ret
  exact ⟨by rw [decide_eq_true HN.out, Bool.true_and]; first | done | rfl, by repeat (first | exact Drawn0.refl _ | apply Drawn0.step)⟩
 ·have HI := am (same_ne A0 c0 l0 A1 c1 l1 w hne)
  have HN := am hne
  clear hr0 hr1 hne
  go_enter Try.func67, Try.ntmps67
  go_wp2_with (go_at_call 109; refine HI.out.mono ?_; rintro e w' ⟨rfl, ⟨nd, rfl⟩⟩)
  go_ret
  exact ⟨by rw [decide_eq_false HN.out, Bool.false_and]; first | done | rfl, by repeat (first | exact Drawn0.refl _ | apply Drawn0.step)⟩

end Go.Proofs.Ytchjajbkaiefdaa.PFnForgery
