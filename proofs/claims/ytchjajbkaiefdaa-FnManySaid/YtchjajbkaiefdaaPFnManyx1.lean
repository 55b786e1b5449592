-- Written by a program of this workplace (wip/mp.py) out of the translation.
import Derived.Test.YtchjajbkaiefdaaPFnManyx0
namespace Go.Proofs.Ytchjajbkaiefdaa.PFnMany
open Go.RowKit Go.Proofs.YtchjajbkaiefdaaW.PrintWords Go.Proofs.YtchjajbkaiefdaaW.PrintLast Go.Proofs.YtchjajbkaiefdaaW.PrintMore Go.Proofs.Ytchjajbkaiefdaa.Slim
attribute [local go_sem] max2_int min2_int max_two min_two max_three min_three max_four min_four   -- for this text's walks alone
set_option maxHeartbeats 8000000
set_option maxRecDepth 100000
set_option linter.unusedVariables false
set_option linter.unusedSimpArgs false

/-! ### laws_big: function 9 -/
def laws_big.f (l0 : List Int) : Option (Bool) := some (decide ((l0.length : Int) > 1048576))
theorem laws_big.calls (A0 : Option Addr) (c0 : Nat) (l0 : List Int) (r : Bool) (w : World) (hr0 : Kd.C (Kd.int .u8) w A0 l0.length l0) (hc0 : l0.length ≤ c0) (h : laws_big.f l0 = some r) :
  Calls Try.prog 9 #[.slice A0 l0.length c0] w fun e w' => e = .returned (.bool r) ∧ Drawn0 w w' := by
 have HR0 := am hr0
 have HC0 := am hc0
 clear hr0 hc0
 have H : (some (decide ((l0.length : Int) > 1048576))) = some r := h
 clear h
 obtain rfl := Option.some.inj H
 go_enter Try.func9, Try.ntmps9
 go_wp2
 go_ret
 exact ⟨e0, by repeat (first | exact Drawn0.refl _ | apply Drawn0.step)⟩

/-! ### impl_in: function 94 -/
def impl_in.f (a0 : Int) (a1 : Int) (a2 : Int) : Option (Bool) := if a0 ≥ a1 then (some (decide (a0 ≤ a2))) else (some false)
theorem impl_in.calls (a0 : Int) (a1 : Int) (a2 : Int) (r : Bool) (w : World) (h : impl_in.f a0 a1 a2 = some r) :
  Calls Try.prog 94 #[.int .i64 a0, .int .i64 a1, .int .i64 a2] w fun e w' => e = .returned (.bool r) ∧ Drawn0 w w' := by
 have H : (if a0 ≥ a1 then (some (decide (a0 ≤ a2))) else (some false)) = some r := h
 clear h
 by_cases c4 : a0 ≥ a1
 ·rw [if_pos c4] at H
  have c4b0 : decide (a1 ≤ a0) = true := decide_eq_true c4
  clear c4
  obtain rfl := Option.some.inj H
  go_enter Try.func94, Try.ntmps94
  go_wp2
  go_ret
  exact ⟨e0, by repeat (first | exact Drawn0.refl _ | apply Drawn0.step)⟩
 ·rw [if_neg c4] at H
  have c4b0 : decide (a1 ≤ a0) = false := decide_eq_false c4
  clear c4
  obtain rfl := Option.some.inj H
  go_enter Try.func94, Try.ntmps94
  go_wp2
  go_ret
  exact ⟨e0, by repeat (first | exact Drawn0.refl _ | apply Drawn0.step)⟩

/-! ### impl_bitsOk: function 103 -/
def impl_bitsOk.f (a0 : Int) : Option (Bool) := (impl_in.f a0 2 60).bind fun t101 => (some t101)
theorem impl_bitsOk.calls (a0 : Int) (r : Bool) (w : World) (h : impl_bitsOk.f a0 = some r) :
  Calls Try.prog 103 #[.int .i64 a0] w fun e w' => e = .returned (.bool r) ∧ Drawn0 w w' := by
 have H : ((impl_in.f a0 2 60).bind fun t101 => (some t101)) = some r := h
 clear h
 obtain ⟨t101, A2, H⟩ := bm H
 (try dsimp -simprocs only at H)
 obtain rfl := Option.some.inj H
 go_enter Try.func103, Try.ntmps103
 go_wp2_with (first | ((with_reducible refine gate_callee (f := 94) rfl ?_); refine goesL_ (some 4) rfl rfl Try.func94 (by kernel_rfl) rfl #[.int .i64 a0, .int .i64 2, .int .i64 60] rfl av ?_; (with_reducible refine (impl_in.calls a0 2 60 t101 _ A2.out).mono ?_); rintro e w' ⟨rfl, ⟨nd, rfl⟩⟩; refine ⟨_, rfl, ?_⟩))
 go_ret
 exact ⟨e0, by repeat (first | exact Drawn0.refl _ | apply Drawn0.step)⟩

/-! ### impl_leavesOk: function 55 -/
def impl_leavesOk.f (a0 : Int) (l1 : List (List Int)) : Option (Bool) := some (decide ((2 ≤ a0 ∧ a0 ≤ 60) ∧ 1 ≤ l1.length ∧ l1.length ≤ 16) && l1.all fun b => decide (b.length < 4000))
theorem rowAt {w : World} {A : Option Addr} {n : Nat} {xs : List (List Int)} (h : Kd.C (Kd.slice 5 (Kd.int .u8)) w A n xs) (k : Nat) (hk : k < n) :
  ∃ ad A0 c0, A = some ad ∧ w.cell? (ad.add k) = some (.slice A0 (xs.getD k []).length c0) ∧ (xs.getD k []).length ≤ c0 ∧ (Kd.int .u8).C w A0 (xs.getD k []).length (xs.getD k []) := by
 obtain ⟨ad, c, e, hl, hK, hc⟩ := ReadsRow.get_ h ([] : List Int) (k : Int) (Int.natCast_nonneg k) (by omega)
 obtain ⟨A0, c0, rfl, h2, h3⟩ := hK
 rw [Int.toNat_natCast] at hc h2 h3
 have h4 := hc 0 _ rfl
 refine ⟨ad, A0, c0, e, ?_, h2, h3⟩
 have e1 : k * (Kd.slice 5 (Kd.int .u8)).sz + 0 = k := Nat.mul_one k
 rw [e1] at h4
 exact h4
set_option maxHeartbeats 4000000 in
theorem long_lit (A : Option Addr) (n c : Nat) (W : World) (hn : n ≤ 9223372036854775807) :
  Calls Try.prog 102 #[.slice A n c] W fun e w' => e = .returned (.bool (decide (4000 ≤ n))) ∧ Drawn0 W w' := by
 by_cases h : 4000 ≤ n
 ·have c0 : decide (4000 ≤ n) = true := decide_eq_true h
  have c1 : decide (4000 ≤ (n : Int)) = true := decide_eq_true (by omega)
  have HH := am c0
  clear h
  go_enter Try.func102, Try.ntmps102
  go_wp2
  go_ret
  exact ⟨by first | rfl | simp [HH.out], Drawn0.refl _⟩
 ·have c0 : decide (4000 ≤ n) = false := decide_eq_false h
  have c1 : decide (4000 ≤ (n : Int)) = false := decide_eq_false (by omega)
  have HH := am c0
  clear h
  go_enter Try.func102, Try.ntmps102
  go_wp2
  go_ret
  exact ⟨by first | rfl | simp [HH.out], Drawn0.refl _⟩
/-- The first row that is long; -1: there is none. -/
def firstLong (l : List (List Int)) (i : Nat) : Int := match l with
 | [] => -1
 | x :: l => if x.length < 4000 then firstLong l (i + 1) else (i : Int)
theorem firstLong_all (l : List (List Int)) : ∀ i : Nat, decide (0 ≤ firstLong l i) = !(l.all fun b => decide (b.length < 4000)) := by
 induction l with
 | nil => intro i; rfl
 | cons x l ih =>
  intro i
  unfold firstLong
  by_cases h : x.length < 4000
  ·rw [if_pos h, ih (i + 1)]; simp [h]
  ·rw [if_neg h]; simp [h]
set_option maxHeartbeats 4000000 in
set_option maxRecDepth 100000 in
theorem long_index (A1 : Option Addr) (c1 : Nat) (l1 : List (List Int)) (w : World) (hr1 : Kd.C (Kd.slice 5 (Kd.int .u8)) w A1 l1.length l1) :
  Calls Try.prog 126 #[.slice A1 l1.length c1, .func (.func 102) #[] #[]] w fun e w' => e = .returned (.int .i64 (firstLong l1 0)) ∧ Drawn0 w w' := by
 have HR := am hr1
 clear hr1
 have eg := enters_of Try.func102 (by kernel_rfl) rfl
 go_enter Try.func126, Try.ntmps126
 go_wp2
 go_loopw [8] (fun i wr => ∃ k : Nat, i = .int .i64 k ∧ Aside0 (k ≤ l1.length) ∧ Aside0 (firstLong (l1.drop k) k = firstLong l1 0) ∧ Drawn0 w wr) (fun i _ => l1.length - (intOf i).toNat)
 case atStart => exact ⟨0, rfl, ⟨Nat.zero_le _⟩, ⟨rfl⟩, Drawn0.refl _⟩
 case round =>
  obtain ⟨k, rfl, HK, HF, ⟨m, rfl⟩⟩ := hrel
  have HM : Aside0 (l1.length ≤ 9223372036854775807) := ⟨HR.out.2.1⟩
  by_cases hlt : k < l1.length
  ·have c0 : decide (k < l1.length) = true := decide_eq_true hlt
   have c1 : decide ((k : Int) < (l1.length : Int)) = true := decide_eq_true (by omega)
   have p1 : 0 ≤ (k : Int) := Int.natCast_nonneg k
   have q1 : (k : Int) < (l1.length : Int) := by omega
   obtain ⟨ad, A0, c2, e1, hx, hle, hC0⟩ := rowAt HR.out k hlt
   cases e1
   have ed : l1.drop k = l1.getD k [] :: l1.drop (k + 1) := by
    rw [List.getD_eq_getElem?_getD, List.getElem?_eq_getElem hlt]
    exact List.drop_eq_getElem_cons hlt
   have HD := am ed
   have HL := am hlt
   have HX := am hC0.2.1
   clear hlt ed hC0 hle
   generalize l1.getD k [] = x at hx HD HX
   generalize hn : x.length = n at hx HX
   have HN := am hn
   clear hn
   go_wp2_with fail
   refine (long_lit A0 n c2 (w.drewN m) HX.out).mono ?_
   rintro e w' ⟨rfl, ⟨nd, rfl⟩⟩
   have b2 : (k : Int) ≤ 9223372036854775806 := by have := HL.out; have := HM.out; omega
   by_cases hv : 4000 ≤ n
   ·have cv : decide (4000 ≤ n) = true := decide_eq_true hv
    have HV := am hv
    clear hv
    go_wp2
    go_ret
    exact ⟨by have h := HF.out; rw [HD.out] at h; have hv := HV.out; have hn := HN.out; simp only [firstLong] at h; rw [if_neg (by omega)] at h; first | (rw [← h]; done) | (rw [← h]; rfl) | simp [← h], by repeat (first | exact Drawn0.refl _ | apply Drawn0.step)⟩
   ·have cv : decide (4000 ≤ n) = false := decide_eq_false hv
    have HV := am hv
    clear hv
    go_wp2
    go_roundw
    case rel => exact ⟨k + 1, by go_num, ⟨HL.out⟩, ⟨by have h := HF.out; rw [HD.out] at h; have hv := HV.out; have hn := HN.out; simp only [firstLong] at h; rw [if_pos (by omega)] at h; exact h⟩, by repeat (first | exact Drawn0.refl _ | apply Drawn0.step)⟩
    case measure => have := HL.out; simp [intOf]; omega
  ·have c0 : decide (k < l1.length) = false := decide_eq_false hlt
   have c1 : decide ((k : Int) < (l1.length : Int)) = false := decide_eq_false (by omega)
   have e : firstLong l1 0 = -1 := by
    have h := HF.out
    rw [List.drop_eq_nil_of_le (by omega)] at h
    exact h.symm
   have HE := am e
   clear hlt e
   go_wp2
   go_ret
   exact ⟨by first | (rw [HE.out]; done) | (rw [HE.out]; rfl), by repeat (first | exact Drawn0.refl _ | apply Drawn0.step)⟩
set_option maxHeartbeats 4000000 in
theorem long_contains (A1 : Option Addr) (c1 : Nat) (l1 : List (List Int)) (w : World) (hr1 : Kd.C (Kd.slice 5 (Kd.int .u8)) w A1 l1.length l1) :
  Calls Try.prog 101 #[.slice A1 l1.length c1, .func (.func 102) #[] #[]] w fun e w' => e = .returned (.bool (!(l1.all fun b => decide (b.length < 4000)))) ∧ Drawn0 w w' := by
 have HI := am (long_index A1 c1 l1 w hr1)
 have HF := am (firstLong_all l1 0)
 clear hr1
 go_enter Try.func101, Try.ntmps101
 go_wp2_with (go_at_call 126; refine HI.out.mono ?_; rintro e w' ⟨rfl, ⟨nd, rfl⟩⟩)
 go_ret
 exact ⟨by first | (rw [← HF.out]; done) | (rw [← HF.out]; rfl), by repeat (first | exact Drawn0.refl _ | apply Drawn0.step)⟩
theorem lbitsOk_eq (a0 : Int) : impl_bitsOk.f a0 = some (decide (2 ≤ a0 ∧ a0 ≤ 60)) := by
 unfold impl_bitsOk.f impl_in.f
 by_cases h : a0 ≥ 2 <;> simp [h]
theorem lin_eq (a b c : Int) : impl_in.f a b c = some (decide (b ≤ a ∧ a ≤ c)) := by
 unfold impl_in.f
 by_cases h : a ≥ b <;> simp [h]
set_option maxHeartbeats 4000000 in
set_option maxRecDepth 100000 in
theorem impl_leavesOk.calls (a0 : Int) (A1 : Option Addr) (c1 : Nat) (l1 : List (List Int)) (r : Bool) (w : World) (hr1 : Kd.C (Kd.slice 5 (Kd.int .u8)) w A1 l1.length l1) (hc1 : l1.length ≤ c1) (h : impl_leavesOk.f a0 l1 = some r) :
  Calls Try.prog 55 #[.int .i64 a0, .slice A1 l1.length c1] w fun e w' => e = .returned (.bool r) ∧ Drawn0 w w' := by
 have hr := Option.some.inj h
 have HL := am (long_contains A1 c1 l1 w hr1)
 clear h hr1
 generalize (l1.all fun b => decide (b.length < 4000)) = q at hr HL
 by_cases h1 : 2 ≤ a0 ∧ a0 ≤ 60
 ·have e1 : impl_bitsOk.f a0 = some true := by rw [lbitsOk_eq]; simp [h1]
  have E1 := am e1
  by_cases h2 : 1 ≤ l1.length ∧ l1.length ≤ 16
  ·have e2 : impl_in.f (l1.length : Int) 1 16 = some true := by rw [lin_eq]; simp; omega
   have E2 := am e2
   have er : r = q := by rw [← hr]; simp [h1, h2]
   subst er
   clear hr e1 e2 h1 h2
   go_enter Try.func55, Try.ntmps55
   go_wp2_with (first | (go_at_call 101; refine HL.out.mono ?_; rintro e w' ⟨rfl, ⟨nd, rfl⟩⟩) | (go_at_call 103; refine (impl_bitsOk.calls a0 true _ E1.out).mono ?_; rintro e w' ⟨rfl, ⟨nd, rfl⟩⟩) | (go_at_call 94; refine (impl_in.calls (l1.length : Int) 1 16 true _ E2.out).mono ?_; rintro e w' ⟨rfl, ⟨nd, rfl⟩⟩))
   go_ret
   exact ⟨by first | rfl | simp, by repeat (first | exact Drawn0.refl _ | apply Drawn0.step)⟩
  ·have e2 : impl_in.f (l1.length : Int) 1 16 = some false := by rw [lin_eq]; simp; omega
   have E2 := am e2
   have er : r = false := by rw [← hr]; simp only [Bool.and_eq_false_imp, decide_eq_true_eq]; intro h; exact absurd h.2 h2
   subst er
   clear hr e1 e2 h1 h2
   go_enter Try.func55, Try.ntmps55
   go_wp2_with (first | (go_at_call 101; refine HL.out.mono ?_; rintro e w' ⟨rfl, ⟨nd, rfl⟩⟩) | (go_at_call 103; refine (impl_bitsOk.calls a0 true _ E1.out).mono ?_; rintro e w' ⟨rfl, ⟨nd, rfl⟩⟩) | (go_at_call 94; refine (impl_in.calls (l1.length : Int) 1 16 false _ E2.out).mono ?_; rintro e w' ⟨rfl, ⟨nd, rfl⟩⟩))
   go_ret
   exact ⟨by first | rfl | simp, by repeat (first | exact Drawn0.refl _ | apply Drawn0.step)⟩
 ·have e1 : impl_bitsOk.f a0 = some false := by rw [lbitsOk_eq]; simp; omega
  have E1 := am e1
  have er : r = false := by rw [← hr]; simp only [Bool.and_eq_false_imp, decide_eq_true_eq]; intro h; exact absurd h.1 h1
  subst er
  clear hr e1 h1
  go_enter Try.func55, Try.ntmps55
  go_wp2_with (first | (go_at_call 101; refine HL.out.mono ?_; rintro e w' ⟨rfl, ⟨nd, rfl⟩⟩) | (go_at_call 103; refine (impl_bitsOk.calls a0 false _ E1.out).mono ?_; rintro e w' ⟨rfl, ⟨nd, rfl⟩⟩))
  go_ret
  exact ⟨by first | rfl | simp, by repeat (first | exact Drawn0.refl _ | apply Drawn0.step)⟩

/-- A state of type 127 at block g of W; what its slices lead to came in by w0. -/
def IsS127 (w0 W : World) (g : Nat) (f0 : Int) (f1 : Int) (f2 : Int) : Prop := W.heap[g]? = some (.cells #[.int .u64 f0, .int .u64 f1, .int .u64 f2] 127 (0, 0)) ∧ w0.heap.size ≤ g
theorem IsS127.grown {w0 W : World} {g : Nat} {f0 : Int} {f1 : Int} {f2 : Int} {W1 : World} {row : Option Nat} (h : IsS127 w0 W g f0 f1 f2) (hw : W.grownBy W1 row) (hne : some g ≠ row) : IsS127 w0 W1 g f0 f1 f2 := by
 obtain ⟨hb, hg⟩ := h
 exact ⟨blk_grown hb hw hne, hg⟩
theorem IsS127.own_neN {w0 W : World} {g : Nat} {f0 : Int} {f1 : Int} {f2 : Int} {α : Type} {d : Kd α} {e : Nat} {base : Nat} {ok : Nat → Prop} {v : Value} {xs : List α} (h : IsS127 w0 W g f0 f1 f2) (ho : Kd.N d e W base ok v xs) (ht : e ≠ 127) : some g ≠ v.ownBlock := by
 obtain ⟨hb, hg⟩ := h
 exact Kd.N_ne ho hb ht
theorem IsS127.fresh {w0 W : World} {g : Nat} {f0 : Int} {f1 : Int} {f2 : Int} (h : IsS127 w0 W g f0 f1 f2) : ∀ k, W.heap.size ≤ k → k ≠ g := by
 obtain ⟨hb, hg⟩ := h
 exact Kd.freshB hb
theorem IsS127.kept {w0 W : World} {g : Nat} {f0 : Int} {f1 : Int} {f2 : Int} {W1 : World} {S : Nat → Prop} (h : IsS127 w0 W g f0 f1 f2) (hk : Kept W W1 S) (hne : ¬ S g) : IsS127 w0 W1 g f0 f1 f2 := by
 obtain ⟨hb, hg⟩ := h
 exact ⟨blk_kept hb hk hne, hg⟩
theorem IsS127.below {w0 W : World} {g : Nat} {f0 : Int} {f1 : Int} {f2 : Int} {W1 : World} (h : IsS127 w0 W g f0 f1 f2) (hw : Below W.heap.size W W1) : IsS127 w0 W1 g f0 f1 f2 := h.grown (grown_of_below hw none) (by simp)
theorem IsS127.alloc {w0 W : World} {g : Nat} {f0 : Int} {f1 : Int} {f2 : Int} (h : IsS127 w0 W g f0 f1 f2) (o : Obj) : IsS127 w0 (W.alloc o) g f0 f1 f2 := h.below (below_alloc (Below.refl _ _) o)
theorem IsS127.drewN {w0 W : World} {g : Nat} {f0 : Int} {f1 : Int} {f2 : Int} (h : IsS127 w0 W g f0 f1 f2) (m : Nat) : IsS127 w0 (W.drewN m) g f0 f1 f2 := h
theorem IsS127.drew {w0 W : World} {g : Nat} {f0 : Int} {f1 : Int} {f2 : Int} (h : IsS127 w0 W g f0 f1 f2) : IsS127 w0 W.drew g f0 f1 f2 := h
theorem IsS127.at_ {w0 W : World} {g : Nat} {f0 : Int} {f1 : Int} {f2 : Int} {w' : World} {m : Nat} (hq : W.drewN m = w') (h : IsS127 w0 W g f0 f1 f2) : IsS127 w0 w' g f0 f1 f2 := by subst hq; exact IsS127.drewN h m
theorem IsS127.apart {w0 W : World} {g : Nat} {f0 : Int} {f1 : Int} {f2 : Int} {α : Type} {d : Kd α} {e : Nat} {base : Nat} {ok : Nat → Prop} {v : Value} {xs : List α} (h : IsS127 w0 W g f0 f1 f2) (ho : d.R e W base ok v xs) (ht : ∀ q, q ∈ e :: d.E → q ≠ 127) : d.R e W base (fun k => ok k ∧ k ≠ g) v xs := by
 obtain ⟨hb, hg⟩ := h
 exact Kd.R_types ho hb ht
theorem IsS127.own_ne {w0 W : World} {g : Nat} {f0 : Int} {f1 : Int} {f2 : Int} {α : Type} {d : Kd α} {e : Nat} {base : Nat} {ok : Nat → Prop} {v : Value} {xs : List α} (h : IsS127 w0 W g f0 f1 f2) (ho : d.R e W base ok v xs) (ht : e ≠ 127) : some g ≠ v.ownBlock := by
 obtain ⟨hb, hg⟩ := h
 exact Kd.R_ne ho hb ht
theorem IsS127.apartQ {w0 W : World} {g : Nat} {f0 : Int} {f1 : Int} {f2 : Int} {α : Type} {d : Kd α} {e : Nat} {base : Nat} {ok : Nat → Prop} {v : Value} {xs : List α} (h : IsS127 w0 W g f0 f1 f2) (ho : d.Q e W base ok v xs) (ht : ∀ q, q ∈ e :: d.E → q ≠ 127) : d.Q e W base (fun k => ok k ∧ k ≠ g) v xs := by
 obtain ⟨hb, hg⟩ := h
 exact Kd.Q_types ho hb ht
theorem IsS127.own_neQ {w0 W : World} {g : Nat} {f0 : Int} {f1 : Int} {f2 : Int} {α : Type} {d : Kd α} {e : Nat} {base : Nat} {ok : Nat → Prop} {v : Value} {xs : List α} (h : IsS127 w0 W g f0 f1 f2) (ho : d.Q e W base ok v xs) (ht : e ≠ 127) : some g ≠ v.ownBlock := by
 obtain ⟨hb, hg⟩ := h
 exact Kd.Q_ne ho hb ht
theorem IsS127.apartS {w0 W : World} {g : Nat} {f0 : Int} {f1 : Int} {f2 : Int} {α : Type} {d : Kd α} {e : Nat} {base : Nat} {ok : Nat → Prop} {v : Value} {xs : List α} (h : IsS127 w0 W g f0 f1 f2) (ho : d.S e W base ok v xs) (ht : ∀ q, q ∈ e :: d.E → q ≠ 127) : d.S e W base (fun k => ok k ∧ k ≠ g) v xs := by
 obtain ⟨hb, hg⟩ := h
 exact Kd.S_types ho hb ht
theorem IsS127.own_neS {w0 W : World} {g : Nat} {f0 : Int} {f1 : Int} {f2 : Int} {α : Type} {d : Kd α} {e : Nat} {base : Nat} {ok : Nat → Prop} {v : Value} {xs : List α} (h : IsS127 w0 W g f0 f1 f2) (ho : d.S e W base ok v xs) (ht : e ≠ 127) : some g ≠ v.ownBlock := by
 obtain ⟨hb, hg⟩ := h
 exact Kd.S_ne ho hb ht
theorem IsS127.lt {w0 W : World} {g : Nat} {f0 : Int} {f1 : Int} {f2 : Int} (h : IsS127 w0 W g f0 f1 f2) : g < W.heap.size := by
 obtain ⟨hb, hg⟩ := h
 exact blk_lt hb
theorem IsS127.ge {w0 W : World} {g : Nat} {f0 : Int} {f1 : Int} {f2 : Int} (h : IsS127 w0 W g f0 f1 f2) : w0.heap.size ≤ g := by
 obtain ⟨hb, hg⟩ := h
 exact hg
theorem IsS127.ne_blk {w0 W : World} {g : Nat} {f0 : Int} {f1 : Int} {f2 : Int} {a : Nat} {cs : Array Value} {t : TypeId} {fr : Nat × Nat} (h : IsS127 w0 W g f0 f1 f2) (hb2 : W.heap[a]? = some (.cells cs t fr)) (ht : t ≠ 127) : g ≠ a := by
 obtain ⟨hb, hg⟩ := h
 rintro rfl
 rw [hb] at hb2
 injection hb2 with hb2
 injection hb2 with _ ht2
 exact ht ht2.symm
theorem IsS127.far {w0 W : World} {g : Nat} {f0 : Int} {f1 : Int} {f2 : Int} {p : Addr} (h : IsS127 w0 W g f0 f1 f2) (hne : g ≠ p.block) (u : Value) : IsS127 w0 (W.setCell p u) g f0 f1 f2 := by
 obtain ⟨hb, hg⟩ := h
 exact ⟨blk_far hb hne u, hg⟩
theorem cellS127_0 {W : World} {g : Nat} {f0 : Int} {f1 : Int} {f2 : Int} (h : W.heap[g]? = some (.cells #[.int .u64 f0, .int .u64 f1, .int .u64 f2] 127 (0, 0))) : W.cell? ⟨g, 0, none⟩ = some (.int .u64 f0) := (blk_cell h 0).trans rfl
theorem IsS127.set_0 {w0 W : World} {g : Nat} {f0 : Int} {f1 : Int} {f2 : Int} (h : IsS127 w0 W g f0 f1 f2) (x : Int) : IsS127 w0 (W.setCell ⟨g, 0, none⟩ (.int .u64 x)) g x f1 f2 := by
 obtain ⟨hb, hg⟩ := h
 exact ⟨by simpa using blk_set hb 0 (.int .u64 x), hg⟩
theorem cellS127_1 {W : World} {g : Nat} {f0 : Int} {f1 : Int} {f2 : Int} (h : W.heap[g]? = some (.cells #[.int .u64 f0, .int .u64 f1, .int .u64 f2] 127 (0, 0))) : W.cell? ⟨g, 1, none⟩ = some (.int .u64 f1) := (blk_cell h 1).trans rfl
theorem IsS127.set_1 {w0 W : World} {g : Nat} {f0 : Int} {f1 : Int} {f2 : Int} (h : IsS127 w0 W g f0 f1 f2) (x : Int) : IsS127 w0 (W.setCell ⟨g, 1, none⟩ (.int .u64 x)) g f0 x f2 := by
 obtain ⟨hb, hg⟩ := h
 exact ⟨by simpa using blk_set hb 1 (.int .u64 x), hg⟩
theorem cellS127_2 {W : World} {g : Nat} {f0 : Int} {f1 : Int} {f2 : Int} (h : W.heap[g]? = some (.cells #[.int .u64 f0, .int .u64 f1, .int .u64 f2] 127 (0, 0))) : W.cell? ⟨g, 2, none⟩ = some (.int .u64 f2) := (blk_cell h 2).trans rfl
theorem IsS127.set_2 {w0 W : World} {g : Nat} {f0 : Int} {f1 : Int} {f2 : Int} (h : IsS127 w0 W g f0 f1 f2) (x : Int) : IsS127 w0 (W.setCell ⟨g, 2, none⟩ (.int .u64 x)) g f0 f1 x := by
 obtain ⟨hb, hg⟩ := h
 exact ⟨by simpa using blk_set hb 2 (.int .u64 x), hg⟩
theorem IsS127.new (w0 W : World) (f0 : Int) (f1 : Int) (f2 : Int) (hB : Below w0.heap.size w0 W) : IsS127 w0 (W.alloc (.cells #[.int .u64 f0, .int .u64 f1, .int .u64 f2] 127)) W.heap.size f0 f1 f2 := ⟨by simpa using heap_alloc_new W _, hB.size⟩
theorem si127_ {q : Prop}  (h : q := by repeat (first | (with_reducible first | exact HI0.out | apply IsS127.alloc | apply IsS127.drewN | apply IsS127.drew | apply IsS127.set_0 | apply IsS127.set_1 | apply IsS127.set_2) | exact HI0.out)) : q := h
theorem si127_1 {p0 q : Prop} (g0 : p0) (h : p0 → q := by intro g_0; repeat (first | (with_reducible first | exact HI0.out | apply IsS127.alloc | apply IsS127.drewN | apply IsS127.drew | apply IsS127.set_0 | apply IsS127.set_1 | apply IsS127.set_2 | refine IsS127.far ?_ g_0 _) | exact HI0.out)) : q := h g0
theorem si127_2 {p0 p1 q : Prop} (g0 : p0) (g1 : p1) (h : p0 → p1 → q := by intro g_0 g_1; repeat (first | (with_reducible first | exact HI0.out | apply IsS127.alloc | apply IsS127.drewN | apply IsS127.drew | apply IsS127.set_0 | apply IsS127.set_1 | apply IsS127.set_2 | refine IsS127.far ?_ g_0 _ | refine IsS127.far ?_ g_1 _) | exact HI0.out)) : q := h g0 g1
theorem si127_3 {p0 p1 p2 q : Prop} (g0 : p0) (g1 : p1) (g2 : p2) (h : p0 → p1 → p2 → q := by intro g_0 g_1 g_2; repeat (first | (with_reducible first | exact HI0.out | apply IsS127.alloc | apply IsS127.drewN | apply IsS127.drew | apply IsS127.set_0 | apply IsS127.set_1 | apply IsS127.set_2 | refine IsS127.far ?_ g_0 _ | refine IsS127.far ?_ g_1 _ | refine IsS127.far ?_ g_2 _) | exact HI0.out)) : q := h g0 g1 g2

/-! ### impl_state_rounds: function 129 -/
def impl_state_rounds.f (s0_0 s0_1 s0_2 : Int) (a1 : Int) : Option (Int × Int × Int) := if a1 ≤ 9223372036854775807 then some (Dig.rnds a1.toNat (s0_0, s0_1, s0_2)) else none
theorem rot13 (x : Int) (w : World) : Calls Try.prog 146 #[.int .u64 x, .int .i64 13] w fun e w' => e = .returned (.int .u64 (Dig.r13 x)) ∧ w' = w := by
 have hb : Go.bits .and .u64 13 63 = 13 := by decide +kernel
 go_enter Try.func146, Try.ntmps146
 go_wp2
 go_ret
 exact ⟨rfl, rfl⟩
theorem rot29 (x : Int) (w : World) : Calls Try.prog 146 #[.int .u64 x, .int .i64 29] w fun e w' => e = .returned (.int .u64 (Dig.r29 x)) ∧ w' = w := by
 have hb : Go.bits .and .u64 29 63 = 29 := by decide +kernel
 go_enter Try.func146, Try.ntmps146
 go_wp2
 go_ret
 exact ⟨rfl, rfl⟩
theorem rot41 (x : Int) (w : World) : Calls Try.prog 146 #[.int .u64 x, .int .i64 41] w fun e w' => e = .returned (.int .u64 (Dig.r41 x)) ∧ w' = w := by
 have hb : Go.bits .and .u64 41 63 = 41 := by decide +kernel
 go_enter Try.func146, Try.ntmps146
 go_wp2
 go_ret
 exact ⟨rfl, rfl⟩
theorem turn13 (x : Int) (w : World) : Calls Try.prog 141 #[.int .u64 x, .int .i64 13] w fun e w' => e = .returned (.int .u64 (Dig.r13 x)) ∧ w' = w := by
 go_enter Try.func141, Try.ntmps141
 go_wp2_with (go_at_call 146; refine (rot13 _ _).mono ?_; rintro e w' ⟨rfl, rfl⟩)
 go_ret
 exact ⟨rfl, rfl⟩
theorem turn29 (x : Int) (w : World) : Calls Try.prog 141 #[.int .u64 x, .int .i64 29] w fun e w' => e = .returned (.int .u64 (Dig.r29 x)) ∧ w' = w := by
 go_enter Try.func141, Try.ntmps141
 go_wp2_with (go_at_call 146; refine (rot29 _ _).mono ?_; rintro e w' ⟨rfl, rfl⟩)
 go_ret
 exact ⟨rfl, rfl⟩
theorem turn41 (x : Int) (w : World) : Calls Try.prog 141 #[.int .u64 x, .int .i64 41] w fun e w' => e = .returned (.int .u64 (Dig.r41 x)) ∧ w' = w := by
 go_enter Try.func141, Try.ntmps141
 go_wp2_with (go_at_call 146; refine (rot41 _ _).mono ?_; rintro e w' ⟨rfl, rfl⟩)
 go_ret
 exact ⟨rfl, rfl⟩
theorem keep_drewR {w w1 : World} {g : Nat} {row : Option Nat} (h : KeepBut w w1 g row) : KeepBut w w1.drew g row := h
theorem lanes_at {w0 W : World} {g : Nat} {a b c : Int} (h : IsS127 w0 W g a b c) :
  W.cell? ⟨g, 0, none⟩ = some (.int .u64 a) ∧ W.cell? ⟨g, 1, none⟩ = some (.int .u64 b) ∧ W.cell? ⟨g, 2, none⟩ = some (.int .u64 c) ∧ ∀ j, W.frozen? ⟨g, j, none⟩ = false := by
 obtain ⟨hh, _⟩ := h
 exact ⟨(blk_cell hh 0).trans rfl, (blk_cell hh 1).trans rfl, (blk_cell hh 2).trans rfl, fun j => by simp [World.frozen?, hh]⟩
set_option maxHeartbeats 4000000 in
set_option maxRecDepth 100000 in
theorem impl_state_rounds.calls (g : Nat) (s0_0 s0_1 s0_2 : Int) (a1 : Int) (r1 r2 r3 : Int) (w0 w : World) (hI : IsS127 w0 w g s0_0 s0_1 s0_2) (hB : Below w0.heap.size w0 w) (h : impl_state_rounds.f s0_0 s0_1 s0_2 a1 = some (r1, r2, r3)) :
  Calls Try.prog 129 #[.pointer (some ⟨g, 0, none⟩), .int .i64 a1] w fun e w' => e = .returned (.tuple #[]) ∧ IsS127 w0 w' g r1 r2 r3 ∧ Below w0.heap.size w0 w' ∧ KeepBut w w' g none := by
 unfold impl_state_rounds.f at h
 by_cases hn : a1 ≤ 9223372036854775807
 ·rw [if_pos hn] at h
  have h := Option.some.inj h
  have HI := am hI
  have HB := am hB
  have HR := am h
  have hm : ((a1.toNat : Nat) : Int) ≤ 9223372036854775807 := by omega
  have HN := am (show ∀ i : Nat, (i : Int) < a1 ↔ i < a1.toNat from fun i => by omega)
  clear hI hB h hn
  go_enter Try.func129, Try.ntmps129
  go_wp2
  go_loopw [5] (fun i wr => ∃ (k : Nat) (a b c : Int), i = .int .i64 k ∧ Aside0 (k ≤ a1.toNat) ∧ Aside0 (Dig.rnds k (s0_0, s0_1, s0_2) = (a, b, c)) ∧ Aside0 (IsS127 w0 wr g a b c) ∧ Aside0 (Below w0.heap.size w0 wr) ∧ Aside0 (KeepBut w wr g none)) (fun i _ => a1.toNat - (intOf i).toNat)
  case atStart => exact ⟨0, s0_0, s0_1, s0_2, rfl, ⟨Nat.zero_le _⟩, ⟨rfl⟩, HI, HB, ⟨KeepBut.refl _ _ _⟩⟩
  case round =>
   obtain ⟨k, a, b, c, rfl, HK, HA, HI1, HB1, HU⟩ := hrel
   by_cases hlt : k < a1.toNat
   ·have c0 : decide ((k : Int) < a1) = true := decide_eq_true ((HN.out k).2 hlt)
    have HL := am hlt
    clear hlt
    obtain ⟨k0, k1, k2, fg⟩ := lanes_at HI1.out
    go_wp2
    go_still_tail 13, (by kernel_rfl)
    still_call (turn13 _ _)
    repeat still_step
    refine wpStill_nil ?_
    change wpList _ _ _ _ _ wr.drew
    have f0 := fg 0
    go_wp2
    clear f0
    change Code.wp _ _ _ _ ((wr.setCell ⟨g, 0, none⟩ (.int .u64 (Dig.rnd0 a b))).drew)
    have HI2 := am (IsS127.drew (IsS127.set_0 HI1.out (Dig.rnd0 a b)))
    have HB2 := am (below_drew (below_set (j := 0) (v := .int .u64 (Dig.rnd0 a b)) HB1.out HI1.out.ge))
    have HU2 := am (keep_drewR (KeepBut.set_ HU.out 0 (.int .u64 (Dig.rnd0 a b))))
    generalize (wr.setCell ⟨g, 0, none⟩ (.int .u64 (Dig.rnd0 a b))).drew = w2 at HI2 HB2 HU2 ⊢
    clear k0 k1 k2 fg
    obtain ⟨k0, k1, k2, fg⟩ := lanes_at HI2.out
    go_wp2
    go_still_tail 17, (by kernel_rfl)
    still_call (turn29 _ _)
    repeat still_step
    refine wpStill_nil ?_
    change wpList _ _ _ _ _ w2.drew
    have f1 := fg 1
    go_wp2
    clear f1
    change Code.wp _ _ _ _ ((w2.setCell ⟨g, 1, none⟩ (.int .u64 (Dig.rnd1 b c (Dig.rnd0 a b)))).drew)
    have HI3 := am (IsS127.drew (IsS127.set_1 HI2.out (Dig.rnd1 b c (Dig.rnd0 a b))))
    have HB3 := am (below_drew (below_set (j := 1) (v := .int .u64 (Dig.rnd1 b c (Dig.rnd0 a b))) HB2.out HI2.out.ge))
    have HU3 := am (keep_drewR (KeepBut.set_ HU2.out 1 (.int .u64 (Dig.rnd1 b c (Dig.rnd0 a b)))))
    generalize (w2.setCell ⟨g, 1, none⟩ (.int .u64 (Dig.rnd1 b c (Dig.rnd0 a b)))).drew = w3 at HI3 HB3 HU3 ⊢
    clear k0 k1 k2 fg
    obtain ⟨k0, k1, k2, fg⟩ := lanes_at HI3.out
    go_wp2
    go_still_tail 18, (by kernel_rfl)
    still_call (turn41 _ _)
    repeat still_step
    refine wpStill_nil ?_
    change wpList _ _ _ _ _ w3.drew
    have f2 := fg 2
    have b1 : 0 ≤ (k : Int) := Int.natCast_nonneg k
    have b2 : (k : Int) ≤ 9223372036854775806 := by have := HL.out; omega
    go_wp2
    go_roundw
    case rel => exact ⟨k + 1, _, _, _, by go_num, ⟨HL.out⟩, ⟨by rw [Dig.rnds_succ, HA.out]; rfl⟩, ⟨IsS127.drew (IsS127.set_2 HI3.out (Dig.rnd2 c (Dig.rnd0 a b) (Dig.rnd1 b c (Dig.rnd0 a b))))⟩, ⟨below_drew (below_set (j := 2) (v := .int .u64 (Dig.rnd2 c (Dig.rnd0 a b) (Dig.rnd1 b c (Dig.rnd0 a b)))) HB3.out HI3.out.ge)⟩, ⟨keep_drewR (KeepBut.set_ HU3.out 2 (.int .u64 (Dig.rnd2 c (Dig.rnd0 a b) (Dig.rnd1 b c (Dig.rnd0 a b)))))⟩⟩
    case measure => have := HL.out; simp [intOf]; omega
   ·have c0 : decide ((k : Int) < a1) = false := decide_eq_false (fun h => hlt ((HN.out k).1 h))
    go_wp2
    go_end0
    have e : k = a1.toNat := by have := HK.out; omega
    subst e
    have h := HA.out.symm.trans HR.out
    simp only [Prod.mk.injEq] at h
    obtain ⟨rfl, rfl, rfl⟩ := h
    exact ⟨rfl, HI1.out, HB1.out, HU.out⟩
 ·rw [if_neg hn] at h
  cases h

/-! ### impl_state_take: function 127 -/
def impl_state_take.f (s0_0 s0_1 s0_2 : Int) (l1 : List Int) : Option (Int × Int × Int) := some (Dig.rnds 6 (Dig.mix (Dig.takes l1 (s0_0, s0_1, s0_2)) (l1.length : Int)))
set_option maxHeartbeats 4000000 in
set_option maxRecDepth 100000 in
theorem impl_state_take.calls (g : Nat) (s0_0 s0_1 s0_2 : Int) (A1 : Option Addr) (c1 : Nat) (l1 : List Int) (r1 r2 r3 : Int) (w0 w : World) (hI : IsS127 w0 w g s0_0 s0_1 s0_2) (hB : Below w0.heap.size w0 w) (hr1 : Kd.C (Kd.int .u8) w A1 l1.length l1) (hc1 : l1.length ≤ c1) (hf1 : ∀ ad, A1 = some ad → 0 < l1.length → ad.block ≠ g) (h : impl_state_take.f s0_0 s0_1 s0_2 l1 = some (r1, r2, r3)) :
  Calls Try.prog 127 #[.pointer (some ⟨g, 0, none⟩), .slice A1 l1.length c1] w fun e w' => e = .returned (.tuple #[]) ∧ IsS127 w0 w' g r1 r2 r3 ∧ Below w0.heap.size w0 w' ∧ KeepBut w w' g none := by
 have h := Option.some.inj h
 have HI := am hI
 have HB := am hB
 have HR := am h
 have HC := am hr1
 have HF := am hf1
 have HM : Aside0 (l1.length ≤ 9223372036854775807) := ⟨hr1.2.1⟩
 clear hI hB h hr1 hc1 hf1
 go_enter Try.func127, Try.ntmps127
 go_wp2
 go_loopw [8] (fun i wr => ∃ (k : Nat) (a b c : Int), i = .int .i64 k ∧ Aside0 (k ≤ l1.length) ∧ Aside0 (Dig.takes (l1.take k) (s0_0, s0_1, s0_2) = (a, b, c)) ∧ Aside0 (IsS127 w0 wr g a b c) ∧ Aside0 (Below w0.heap.size w0 wr) ∧ Aside0 (KeepBut w wr g none)) (fun i _ => l1.length - (intOf i).toNat)
 case atStart => exact ⟨0, s0_0, s0_1, s0_2, rfl, ⟨Nat.zero_le _⟩, ⟨rfl⟩, HI, HB, ⟨KeepBut.refl _ _ _⟩⟩
 case round =>
  obtain ⟨k, a, b, c, rfl, HK, HA, HI1, HB1, HU⟩ := hrel
  by_cases hlt : k < l1.length
  ·have c0 : decide (k < l1.length) = true := decide_eq_true hlt
   have c1 : decide ((k : Int) < (l1.length : Int)) = true := decide_eq_true (by omega)
   have p1 : 0 ≤ (k : Int) := Int.natCast_nonneg k
   have q1 : (k : Int) < (l1.length : Int) := by omega
   obtain ⟨ad, e1, hx⟩ := Kd.at_int HC.out k p1 q1
   cases e1
   rw [Int.toNat_natCast] at hx
   replace hx := keep_cell HU.out hx (by rw [add_block]; exact HF.out ad rfl (by omega))
   have et : l1.take (k + 1) = l1.take k ++ [rd l1 k] := by
    rw [List.take_succ_eq_append_getElem hlt]
    unfold rd
    rw [Int.toNat_natCast, List.getD_eq_getElem?_getD, List.getElem?_eq_getElem hlt]
    rfl
   have HT := am et
   have HL := am hlt
   clear hlt et
   obtain ⟨k0, k1, k2, fg⟩ := lanes_at HI1.out
   generalize rd l1 (k : Int) = v at hx HT
   go_wp2
   go_still_tail 9, (by kernel_rfl)
   change wpList _ _ _ _ _ wr.drew
   have f0 := fg 0
   go_wp2_with fail
   clear f0
   have HI2 := am (IsS127.drew (IsS127.set_0 HI1.out (Go.bits .xor .u64 a (IntKind.u64.wrap v))))
   have HB2 := am (below_drew (below_set (j := 0) (v := .int .u64 (Go.bits .xor .u64 a (IntKind.u64.wrap v))) HB1.out HI1.out.ge))
   have HU2 := am (keep_drewR (KeepBut.set_ HU.out 0 (.int .u64 (Go.bits .xor .u64 a (IntKind.u64.wrap v)))))
   clear k0 k1 k2 fg hx
   generalize (wr.setCell ⟨g, 0, none⟩ (.int .u64 (Go.bits .xor .u64 a (IntKind.u64.wrap v)))).drew = w2 at HI2 HB2 HU2 ⊢
   obtain ⟨⟨x0, x1, x2⟩, hq⟩ : ∃ x, x = Dig.rnds 2 (Dig.mix (a, b, c) v) := ⟨_, rfl⟩
   have HQ := am hq
   clear hq
   refine (impl_state_rounds.calls g _ b c 2 x0 x1 x2 w0 w2 HI2.out HB2.out (by rw [HQ.out]; rfl)).mono ?_
   rintro e w3 ⟨rfl, hi3, hb3, hk3⟩
   have HI3 := am hi3
   have HB3 := am hb3
   have HU3 := am (KeepBut.trans HU2.out hk3 (.inl rfl))
   clear hi3 hb3 hk3
   have b1 : 0 ≤ (k : Int) := Int.natCast_nonneg k
   have b2 : (k : Int) ≤ 9223372036854775806 := by have := HL.out; have := HM.out; omega
   go_wp2
   go_roundw
   case rel => exact ⟨k + 1, x0, x1, x2, by go_num, ⟨HL.out⟩, ⟨by rw [HT.out, Dig.takes_snoc, HA.out]; exact HQ.out.symm⟩, HI3, HB3, HU3⟩
   case measure => have := HL.out; simp [intOf]; omega
  ·have c0 : decide (k < l1.length) = false := decide_eq_false hlt
   have c1 : decide ((k : Int) < (l1.length : Int)) = false := decide_eq_false (by omega)
   have e : k = l1.length := by have := HK.out; omega
   have HE := am e
   clear hlt e
   obtain ⟨k0, k1, k2, fg⟩ := lanes_at HI1.out
   go_wp2
   go_still_tail 10, (by kernel_rfl)
   change wpList _ _ _ _ _ wr.drew
   have f0 := fg 0
   go_wp2_with fail
   clear f0
   have HI2 := am (IsS127.drew (IsS127.set_0 HI1.out (Go.bits .xor .u64 a (IntKind.u64.wrap (l1.length : Int)))))
   have HB2 := am (below_drew (below_set (j := 0) (v := .int .u64 (Go.bits .xor .u64 a (IntKind.u64.wrap (l1.length : Int)))) HB1.out HI1.out.ge))
   have HU2 := am (keep_drewR (KeepBut.set_ HU.out 0 (.int .u64 (Go.bits .xor .u64 a (IntKind.u64.wrap (l1.length : Int))))))
   clear k0 k1 k2 fg
   generalize (wr.setCell ⟨g, 0, none⟩ (.int .u64 (Go.bits .xor .u64 a (IntKind.u64.wrap (l1.length : Int))))).drew = w2 at HI2 HB2 HU2 ⊢
   refine (impl_state_rounds.calls g _ b c 6 r1 r2 r3 w0 w2 HI2.out HB2.out (by rw [← HR.out]; have h := HA.out; rw [HE.out, List.take_length] at h; rw [h]; rfl)).mono ?_
   rintro e w3 ⟨rfl, hi3, hb3, hk3⟩
   go_wp2
   go_end0
   exact ⟨rfl, hi3, hb3, KeepBut.trans HU2.out hk3 (.inl rfl)⟩

/-! ### impl_state_digest: function 128 -/
def impl_state_digest.f (s0_0 : Int) (s0_1 : Int) (s0_2 : Int) (a1 : Int) : Option (Int × Int × Int × Int) := if 0 ≤ a1 then (some (wrap64 (Go.bits .and .u64 (Go.bits .xor .u64 (Go.bits .xor .u64 s0_0 s0_1) s0_2) (IntKind.u64.wrap ((shl .u64 1 a1) - 1))), s0_0, s0_1, s0_2)) else (none)
theorem impl_state_digest.calls (g : Nat) (s0_0 : Int) (s0_1 : Int) (s0_2 : Int) (a1 : Int) (r1 : Int) (r2 : Int) (r3 : Int) (r4 : Int) (w0 w : World) (hI : IsS127 w0 w g s0_0 s0_1 s0_2) (hB : Below w0.heap.size w0 w) (h : impl_state_digest.f s0_0 s0_1 s0_2 a1 = some (r1, r2, r3, r4)) :
  Calls Try.prog 128 #[.pointer (some ⟨g, 0, none⟩), .int .i64 a1] w fun e w' => e = .returned (.int .i64 r1) ∧ IsS127 w0 w' g r2 r3 r4 ∧ Below w0.heap.size w0 w' ∧ KeepBut w w' g none := by
 have HI0 := am hI
 have HK := am (KeepBut.refl w g none)
 have HL := am hB.size
 clear hI
 have HW0 := am hB.size
 have HB := am hB
 clear hB
 have H : (if 0 ≤ a1 then (some (wrap64 (Go.bits .and .u64 (Go.bits .xor .u64 (Go.bits .xor .u64 s0_0 s0_1) s0_2) (IntKind.u64.wrap ((shl .u64 1 a1) - 1))), s0_0, s0_1, s0_2)) else (none)) = some (r1, r2, r3, r4) := h
 clear h
 by_cases c3 : 0 ≤ a1
 ·rw [if_pos c3] at H
  have c3b0 := eq_true c3
  have c3b1 : decide (0 ≤ a1) = true := decide_eq_true c3
  clear c3
  obtain ⟨ji4, hji4⟩ : ∃ j_ : Int, (shl .u64 1 a1) = j_ := ⟨_, rfl⟩
  replace H : (some (wrap64 (Go.bits .and .u64 (Go.bits .xor .u64 (Go.bits .xor .u64 s0_0 s0_1) s0_2) (IntKind.u64.wrap ((ji4) - 1))), s0_0, s0_1, s0_2)) = some (r1, r2, r3, r4) := by first | (rw [hji4] at H; exact H) | (simp only [hji4] at H ⊢; exact H)
  have hji4_ : (IntKind.u64.wrap (1 * 2 ^ min a1.toNat 64)) = ji4 := hji4
  have hji4z : a1 ≤ 64 → (IntKind.u64.wrap (1 * 2 ^ a1.toNat)) = ji4 := shl_small hji4
  have hji4u : (IntKind.u64.wrap (2 ^ min a1.toNat 64)) = ji4 := by have h_ := hji4_; rw [Int.one_mul] at h_; exact h_
  have hji4v : a1 ≤ 64 → (IntKind.u64.wrap (2 ^ a1.toNat)) = ji4 := fun hle_ => by have h_ := hji4z hle_; rw [Int.one_mul] at h_; exact h_
  simp only [Option.some.injEq, Prod.mk.injEq] at H
  obtain ⟨rfl, rfl, rfl, rfl⟩ := H
  obtain ⟨HGz5, hgz5⟩ := HI0.out
  have hcz5_0 := cellS127_0 HGz5
  have hcz5_1 := cellS127_1 HGz5
  have hcz5_2 := cellS127_2 HGz5
  have hfz5_0 := blk_frozen HGz5 0
  have hfz5_1 := blk_frozen HGz5 1
  have hfz5_2 := blk_frozen HGz5 2
  clear HGz5 hgz5
  go_enter Try.func128, Try.ntmps128
  go_wp2
  repeat (go_quiet (fail); try go_wp2)
  go_ret
  exact ⟨by first | rfl | (simp [errW_none, errW_some] <;> rfl) | (simp only [← hji4]; first | rfl | (simp [errW_none, errW_some] <;> rfl)) | (simp [*, errW_none, errW_some] <;> rfl), si127_, b1 (IsS127.ge HI0.out), kp⟩
 ·exact nh c3 H

/-! ### impl_Squeeze: function 104 -/
def impl_Squeeze.f (a0 : Int) (l1 : List Int) (a2 : Int) : Option (List Int × Bool) :=
 if 2 ≤ a0 ∧ a0 ≤ 60 then if l1.length ≤ 4000 then if 1 ≤ a2 ∧ a2 ≤ 40 then some (Dig.squeeze a0 a2.toNat (Dig.rnds 6 (Dig.taken l1)), true) else some ([], false) else some ([], false) else some ([], false)
theorem bitsOk_eq (a0 : Int) : impl_bitsOk.f a0 = some (decide (2 ≤ a0 ∧ a0 ≤ 60)) := by
 unfold impl_bitsOk.f impl_in.f
 by_cases h : a0 ≥ 2 <;> simp [h]
theorem in_eq (a b c : Int) : impl_in.f a b c = some (decide (b ≤ a ∧ a ≤ c)) := by
 unfold impl_in.f
 by_cases h : a ≥ b <;> simp [h]
set_option maxHeartbeats 4000000 in
set_option maxRecDepth 100000 in
theorem squeeze_no (a0 : Int) (A1 : Option Addr) (c1 : Nat) (l1 : List Int) (a2 : Int) (w : World) (h : ¬ ((2 ≤ a0 ∧ a0 ≤ 60) ∧ l1.length ≤ 4000 ∧ 1 ≤ a2 ∧ a2 ≤ 40)) :
  Calls Try.prog 104 #[.int .i64 a0, .slice A1 l1.length c1, .int .i64 a2] w fun e w' => e = .returned (.tuple #[.slice none 0 0, .bool false]) ∧ Drawn0 w w' := by
 by_cases h1 : 2 ≤ a0 ∧ a0 ≤ 60
 ·have e1 : impl_bitsOk.f a0 = some true := by rw [bitsOk_eq]; simp [h1]
  have E1 := am e1
  by_cases h2 : l1.length ≤ 4000
  ·have e2 : decide (4000 < l1.length) = false := decide_eq_false (by omega)
   have e2' : decide (4000 < (l1.length : Int)) = false := decide_eq_false (by omega)
   have e3 : impl_in.f a2 1 40 = some false := by rw [in_eq]; simp; omega
   have E3 := am e3
   clear h h1 h2 e1 e3
   go_enter Try.func104, Try.ntmps104
   go_wp2_with (first | (go_at_call 103; refine (impl_bitsOk.calls a0 true _ E1.out).mono ?_; rintro e w' ⟨rfl, ⟨nd, rfl⟩⟩) | (go_at_call 94; refine (impl_in.calls a2 1 40 false _ E3.out).mono ?_; rintro e w' ⟨rfl, ⟨nd, rfl⟩⟩))
   go_ret2
   exact ⟨rfl, by repeat (first | exact Drawn0.refl _ | apply Drawn0.step)⟩
  ·have e2 : decide (4000 < l1.length) = true := decide_eq_true (by omega)
   have e2' : decide (4000 < (l1.length : Int)) = true := decide_eq_true (by omega)
   clear h h1 h2 e1
   go_enter Try.func104, Try.ntmps104
   go_wp2_with (go_at_call 103; refine (impl_bitsOk.calls a0 true _ E1.out).mono ?_; rintro e w' ⟨rfl, ⟨nd, rfl⟩⟩)
   go_ret2
   exact ⟨rfl, by repeat (first | exact Drawn0.refl _ | apply Drawn0.step)⟩
 ·have e1 : impl_bitsOk.f a0 = some false := by rw [bitsOk_eq]; simp; omega
  have E1 := am e1
  clear h h1 e1
  go_enter Try.func104, Try.ntmps104
  go_wp2_with (go_at_call 103; refine (impl_bitsOk.calls a0 false _ E1.out).mono ?_; rintro e w' ⟨rfl, ⟨nd, rfl⟩⟩)
  go_ret2
  exact ⟨rfl, by repeat (first | exact Drawn0.refl _ | apply Drawn0.step)⟩
theorem lit0 (w : World) : Kd.R (Kd.int .i64) 3 (w.alloc (.cells #[] 3)) w.heap.size (fun _ => True) (.slice (some ⟨w.heap.size, 0, none⟩) 0 0) [] := by
 refine ⟨fun _ _ => trivial, [], ?_, Reps.none _ _⟩
 have h2 := World.ownsRow_lit (base := w.heap.size) (e := 3) (size := (Kd.int .i64).sz) w (#[] : Array Value) 0 (Nat.le_refl _) (by simp) (by simp)
 exact h2
theorem keep_own {w0 W W1 : World} {g base : Nat} {a b c : Int} {v : Value} {xs : List Int} (h : Kd.R (Kd.int .i64) 3 W base (fun _ => True) v xs) (hI : IsS127 w0 W g a b c) (hk : KeepBut W W1 g none) : Kd.R (Kd.int .i64) 3 W1 base (fun _ => True) v xs :=
 Kd.R_mono (Kd.R_keep (Kd.R_types h hI.1 (by intro q hq; simp [Kd.int, Kd.scalar] at hq; omega)) hk (fun _ hk => hk.2)) (fun _ _ => trivial)
set_option maxHeartbeats 4000000 in
set_option maxRecDepth 100000 in
theorem squeeze_yes (a0 : Int) (A1 : Option Addr) (c1 : Nat) (l1 : List Int) (a2 : Int) (w : World) (hr1 : Kd.C (Kd.int .u8) w A1 l1.length l1) (hc1 : l1.length ≤ c1) (h1 : 2 ≤ a0 ∧ a0 ≤ 60) (h2 : l1.length ≤ 4000) (h3 : 1 ≤ a2 ∧ a2 ≤ 40) :
  Calls Try.prog 104 #[.int .i64 a0, .slice A1 l1.length c1, .int .i64 a2] w fun e w' => ∃ v0_ : Value, e = .returned (.tuple #[v0_, .bool true]) ∧ Kd.R (Kd.int .i64) 3 w' w.heap.size (fun _ => True) v0_ (Dig.squeeze a0 a2.toNat (Dig.rnds 6 (Dig.taken l1))) ∧ Below w.heap.size w w' := by
 have e1 : impl_bitsOk.f a0 = some true := by rw [bitsOk_eq]; simp [h1]
 have e2 : decide (4000 < l1.length) = false := decide_eq_false (by omega)
 have e2' : decide (4000 < (l1.length : Int)) = false := decide_eq_false (by omega)
 have e3 : impl_in.f a2 1 40 = some true := by rw [in_eq]; simp [h3]
 have E1 := am e1
 have E3 := am e3
 have HC := am hr1
 have H1 := am h1
 have H3 := am h3
 clear e1 e3 hr1 h1 h2 h3
 have hu := Try.underlying127
 go_enter Try.func104, Try.ntmps104
 go_wp2_with (first | (go_at_call 103; refine (impl_bitsOk.calls a0 true _ E1.out).mono ?_; rintro e w' ⟨rfl, ⟨nd2, rfl⟩⟩) | (go_at_call 94; refine (impl_in.calls a2 1 40 true _ E3.out).mono ?_; rintro e w' ⟨rfl, ⟨nd1, rfl⟩⟩))
 have hr0 := Kd.R_alloc (lit0 (w.drewN (nd2 + nd1))) (.cells #[.int .u64 1, .int .u64 2, .int .u64 3] 127)
 have hi0 : IsS127 w (((w.drewN (nd2 + nd1)).alloc (.cells #[] 3)).alloc (.cells #[.int .u64 1, .int .u64 2, .int .u64 3] 127)) (w.heap.size + 1) 1 2 3 :=
  ⟨by have := heap_alloc_new ((w.drewN (nd2 + nd1)).alloc (.cells #[] 3)) (.cells #[.int .u64 1, .int .u64 2, .int .u64 3] 127); simpa using this, Nat.le_succ _⟩
 have hb0 : Below w.heap.size w (((w.drewN (nd2 + nd1)).alloc (.cells #[] 3)).alloc (.cells #[.int .u64 1, .int .u64 2, .int .u64 3] 127)) :=
  below_alloc (below_alloc (pw_below_drewN (Below.refl _ _) _) _) _
 have hc0 := Kd.C_below HC.out hb0
 have HR0 := am hr0
 have HI0 := am hi0
 have HB0 := am hb0
 have HC0 := am hc0
 clear hr0 hi0 hb0 hc0
 obtain ⟨⟨x0, x1, x2⟩, hq⟩ : ∃ x, x = Dig.rnds 6 (Dig.taken l1) := ⟨_, rfl⟩
 have HQ := am hq
 clear hq
 change Calls _ _ _ (((w.drewN (nd2 + nd1)).alloc (.cells #[] 3)).alloc (.cells #[.int .u64 1, .int .u64 2, .int .u64 3] 127)) _
 generalize (((w.drewN (nd2 + nd1)).alloc (.cells #[] 3)).alloc (.cells #[.int .u64 1, .int .u64 2, .int .u64 3] 127)) = W at HR0 HI0 HB0 HC0 ⊢
 refine (impl_state_take.calls (w.heap.size + 1) 1 2 3 A1 c1 l1 x0 x1 x2 w W HI0.out HB0.out HC0.out hc1 (Kd.far_C (0 : Int) HC.out (Nat.le_succ _)) (by rw [HQ.out]; rfl)).mono ?_
 rintro e w3 ⟨rfl, hi, hb, hk⟩
 have HI1 := am hi
 have HB1 := am hb
 have HR1 := am (keep_own HR0.out HI0.out hk)
 clear hi hb hk HR0 HI0 HB0 HC0
 have HN := am (show ∀ i : Nat, (i : Int) < a2 ↔ i < a2.toNat from fun i => by omega)
 have HM := am (show a2.toNat ≤ 40 by have := H3.out; omega)
 go_wp2
 go_loopw [9, 28] (fun v i wr => ∃ (k : Nat) (a b c : Int), i = .int .i64 k ∧ Aside0 (k ≤ a2.toNat) ∧ Aside0 (Dig.rnds (2 * k) (x0, x1, x2) = (a, b, c)) ∧ Aside0 (IsS127 w wr (w.heap.size + 1) a b c) ∧ Aside0 (Below w.heap.size w wr) ∧ Aside0 (Kd.R (Kd.int .i64) 3 wr w.heap.size (fun _ => True) v (Dig.squeeze a0 k (x0, x1, x2)))) (fun _ i _ => a2.toNat - (intOf i).toNat)
 case atStart => exact ⟨0, x0, x1, x2, rfl, ⟨Nat.zero_le _⟩, ⟨rfl⟩, HI1, HB1, HR1⟩
 case round =>
  obtain ⟨k, a, b, c, rfl, HK, HA, HI2, HB2, HR2⟩ := hrel
  by_cases hlt : k < a2.toNat
  ·have c0 : decide ((k : Int) < a2) = true := decide_eq_true ((HN.out k).2 hlt)
   have HL := am hlt
   clear hlt
   go_wp2_with fail
   have ed : impl_state_digest.f a b c a0 = some (Dig.out a0 (a, b, c), a, b, c) := by
    unfold impl_state_digest.f
    rw [if_pos (by have := H1.out; omega)]
    rfl
   refine (impl_state_digest.calls (w.heap.size + 1) a b c a0 (Dig.out a0 (a, b, c)) a b c w wr HI2.out HB2.out ed).mono ?_
   rintro e w4 ⟨rfl, hi, hb, hk⟩
   have HI3 := am hi
   have HB3 := am hb
   have HR3 := am (keep_own HR2.out HI2.out hk)
   clear hi hb hk ed
   generalize hs : Dig.squeeze a0 k (x0, x1, x2) = ys at HR3
   have HS := am hs
   clear hs
   have hys : ys.length = k := by rw [← HS.out, Dig.squeeze_length]
   have HY := am hys
   clear hys
   go_wp2_with (at_builtin; refine Kd.R_append (Kd.int .i64) (w0 := w) w.heap.size rfl (.tmp 30) (.tmp 33) 29 3 (.int .i64 0) 8 rfl Try.underlying29 info3 rfl (by decide) (by omega) _ ys (Dig.out a0 (a, b, c)) [.int .i64 (Dig.out a0 (a, b, c))] (fun _ => True) (fun _ => False) rfl rfl rfl (fun _ hk => hk.elim) (fun _ _ => trivial) HR3.out HB3.out HB3.out.size (by have := HY.out; have := HL.out; have := HM.out; omega) ?_; intro v1 w5 ho hb hg hat)
   have HI4 := am (IsS127.grown HI3.out hg (IsS127.own_ne HI3.out HR3.out (by decide)))
   have HB4 := am hb
   have HR4 := am ho
   clear ho hb hg hat HI3 HB3 HR3
   go_wp2_with fail
   obtain ⟨⟨y0, y1, y2⟩, hq⟩ : ∃ y, y = Dig.rnds 2 (a, b, c) := ⟨_, rfl⟩
   have HY2 := am hq
   clear hq
   refine (impl_state_rounds.calls (w.heap.size + 1) a b c 2 y0 y1 y2 w w5 HI4.out HB4.out (by rw [HY2.out]; rfl)).mono ?_
   rintro e w6 ⟨rfl, hi, hb, hk⟩
   have HI5 := am hi
   have HB5 := am hb
   have HR5 := am (keep_own HR4.out HI4.out hk)
   clear hi hb hk HI4 HB4 HR4
   have b1 : 0 ≤ (k : Int) := Int.natCast_nonneg k
   have b2 : (k : Int) ≤ 40 := by have := HL.out; have := HM.out; omega
   go_wp2
   go_roundw
   case rel =>
    refine ⟨k + 1, y0, y1, y2, by go_num, ⟨HL.out⟩, ⟨?_⟩, HI5, HB5, ⟨?_⟩⟩
    ·rw [show 2 * (k + 1) = 2 * k + 2 by omega, Dig.rnds_add, HA.out]
     exact HY2.out.symm
    ·have h := HR5.out
     rw [← HS.out] at h
     have e := Dig.squeeze_snoc a0 k (x0, x1, x2)
     rw [HA.out] at e
     rw [e] at h
     exact h
   case measure => have := HL.out; simp [intOf]; omega
  ·have c0 : decide ((k : Int) < a2) = false := decide_eq_false (fun h => hlt ((HN.out k).1 h))
   have e : k = a2.toNat := by have := HK.out; omega
   have HE := am e
   clear hlt e
   go_wp2
   go_ret2
   exact ⟨_, rfl, by have h := HR2.out; rw [HE.out, HQ.out] at h; exact h, HB2.out⟩
theorem impl_Squeeze.calls (a0 : Int) (A1 : Option Addr) (c1 : Nat) (l1 : List Int) (a2 : Int) (r1 : List Int) (r2 : Bool) (w : World) (hr1 : Kd.C (Kd.int .u8) w A1 l1.length l1) (hc1 : l1.length ≤ c1) (h : impl_Squeeze.f a0 l1 a2 = some (r1, r2)) :
  Calls Try.prog 104 #[.int .i64 a0, .slice A1 l1.length c1, .int .i64 a2] w fun e w' => ∃ v0_ : Value, e = .returned (.tuple #[v0_, .bool r2]) ∧ Kd.R (Kd.int .i64) 3 w' w.heap.size (fun _ => True) v0_ r1 ∧ Below w.heap.size w w' := by
 by_cases hg : (2 ≤ a0 ∧ a0 ≤ 60) ∧ l1.length ≤ 4000 ∧ 1 ≤ a2 ∧ a2 ≤ 40
 ·obtain ⟨h1, h2, h3⟩ := hg
  unfold impl_Squeeze.f at h
  rw [if_pos h1, if_pos h2, if_pos h3] at h
  simp only [Option.some.injEq, Prod.mk.injEq] at h
  obtain ⟨rfl, rfl⟩ := h
  exact squeeze_yes a0 A1 c1 l1 a2 w hr1 hc1 h1 h2 h3
 ·have h' : impl_Squeeze.f a0 l1 a2 = some ([], false) := by
   unfold impl_Squeeze.f
   by_cases h1 : 2 ≤ a0 ∧ a0 ≤ 60
   ·rw [if_pos h1]
    by_cases h2 : l1.length ≤ 4000
    ·rw [if_pos h2, if_neg (fun h3 => hg ⟨h1, h2, h3⟩)]
    ·rw [if_neg h2]
   ·rw [if_neg h1]
  rw [h'] at h
  simp only [Option.some.injEq, Prod.mk.injEq] at h
  obtain ⟨rfl, rfl⟩ := h
  refine (squeeze_no a0 A1 c1 l1 a2 w hg).mono ?_
  rintro e w' ⟨rfl, hd⟩
  exact ⟨_, rfl, Kd.R_nil _ _ _ _ _, hd.below⟩

/-! ### impl_Digest: function 56 -/
def impl_Digest.f (a0 : Int) (l1 : List Int) : Option (Int) := (impl_Squeeze.f a0 l1 1).bind fun bt102 => (if bt102.2 = true then (if 0 < (bt102.1.length : Int) then (some (rd bt102.1 0)) else (none)) else (some (-1)))
theorem impl_Digest.calls (a0 : Int) (A1 : Option Addr) (c1 : Nat) (l1 : List Int) (r : Int) (w : World) (hr1 : Kd.C (Kd.int .u8) w A1 l1.length l1) (hc1 : l1.length ≤ c1) (h : impl_Digest.f a0 l1 = some r) :
  Calls Try.prog 56 #[.int .i64 a0, .slice A1 l1.length c1] w fun e w' => e = .returned (.int .i64 r) ∧ Below w.heap.size w w' := by
 have HR1 := am hr1
 have HC1 := am hc1
 clear hr1 hc1
 have HB := am (Below.refl w.heap.size w)
 have H : ((impl_Squeeze.f a0 l1 1).bind fun bt102 => (if bt102.2 = true then (if 0 < (bt102.1.length : Int) then (some (rd bt102.1 0)) else (none)) else (some (-1)))) = some r := h
 clear h
 obtain ⟨⟨t102, t103⟩, A3, H⟩ := bm H
 (try dsimp -simprocs only at H)
 by_cases c4 : t103 = true
 ·subst c4
  rw [if_pos rfl] at H
  by_cases c5 : 0 < (t102.length : Int)
  ·rw [if_pos c5] at H
   have c5b0 : decide (0 < (t102.length : Int)) = true := decide_eq_true c5
   have c5b1 : decide (0 < t102.length) = true := decide_eq_true (by omega)
   clear c5
   obtain rfl := Option.some.inj H
   go_enter Try.func56, Try.ntmps56
   go_wp2_with (first | ((with_reducible refine gate_callee (f := 104) rfl ?_); refine goesL_ (some 10) rfl rfl Try.func104 (by kernel_rfl) rfl #[.int .i64 a0, .slice A1 l1.length c1, .int .i64 1] rfl av ?_; (with_reducible refine (impl_Squeeze.calls a0 _ _ l1 1 t102 true _ ?side1 ?side2 A3.out).mono ?_); (case side1 => exact cv (HR1.out)); (case side2 => exact HC1.out); rintro e w6 ⟨v104, rfl, ho0, hb⟩; refine ⟨_, rfl, ?_⟩; have HO105 := am (Kd.R_lower ho0 (below_size (bt))); replace HB := am (below_step (bt) hb); (try clear hb); (try clear hb2); (try clear hk); (try clear hi); (try clear ho0); obtain ⟨Ao7, co7, eo7⟩ := Kd.R_slice HO105.out; subst eo7; have p106 : 0 ≤ (0 : Int) := (by omega); have q106 : 0 < (t102.length : Int) := of_decide_eq_true asm; obtain ⟨ad106, e106, hx106_0⟩ := Kd.at_int (Kd.R_reads' HO105.out).2.2 0 p106 q106; cases e106; have qi106 : (0 < t102.length) = True := eq_true (by omega); (try rw [show ((0 : Int)).toNat = 0 from rfl] at hx106_0); (try rw [Addr.add_zero'] at hx106_0); replace p106 := eq_true p106; replace q106 := eq_true q106))
   go_ret
   exact ⟨by first | rfl | (simp [errW_none, errW_some] <;> rfl) | (simp [*, errW_none, errW_some] <;> rfl), bt⟩
  ·exact nh c5 H
 ·replace c4 := Bool.eq_false_iff.mpr c4
  subst c4
  rw [if_neg nft] at H
  obtain rfl := Option.some.inj H
  go_enter Try.func56, Try.ntmps56
  go_wp2_with (first | ((with_reducible refine gate_callee (f := 104) rfl ?_); refine goesL_ (some 10) rfl rfl Try.func104 (by kernel_rfl) rfl #[.int .i64 a0, .slice A1 l1.length c1, .int .i64 1] rfl av ?_; (with_reducible refine (impl_Squeeze.calls a0 _ _ l1 1 t102 false _ ?side1 ?side2 A3.out).mono ?_); (case side1 => exact cv (HR1.out)); (case side2 => exact HC1.out); rintro e w8 ⟨v104, rfl, ho0, hb⟩; refine ⟨_, rfl, ?_⟩; have HO105 := am (Kd.R_lower ho0 (below_size (bt))); replace HB := am (below_step (bt) hb); (try clear hb); (try clear hb2); (try clear hk); (try clear hi); (try clear ho0)))
  go_ret
  exact ⟨by first | rfl | (simp [errW_none, errW_some] <;> rfl) | (simp [*, errW_none, errW_some] <;> rfl), bt⟩

/-! ### impl_leafInput: function 107 -/
def impl_leafInput.f (l0 : List Int) : Option (List Int) := (some (([0] : List Int) : List Int)).bind fun y107 => (if y107.length + l0.length < 140737488355328 then (some (y107 ++ l0)) else (none))
theorem impl_leafInput.calls (A0 : Option Addr) (c0 : Nat) (l0 : List Int) (r : List Int) (w : World) (hr0 : Kd.C (Kd.int .u8) w A0 l0.length l0) (hc0 : l0.length ≤ c0) (h : impl_leafInput.f l0 = some r) :
  Calls Try.prog 107 #[.slice A0 l0.length c0] w fun e w' => ∃ v0_ : Value, e = .returned (v0_) ∧ Kd.R (Kd.int .u8) 5 w' w.heap.size (fun _ => True) v0_ r ∧ Below w.heap.size w w' := by
 have HR0 := am hr0
 have HC0 := am hc0
 clear hr0 hc0
 have HB := am (Below.refl w.heap.size w)
 have H : ((some (([0] : List Int) : List Int)).bind fun y107 => (if y107.length + l0.length < 140737488355328 then (some (y107 ++ l0)) else (none))) = some r := h
 clear h
 obtain ⟨y107, hy107⟩ : ∃ y_ : List Int, y_ = (([0] : List Int)) := ⟨_, rfl⟩
 replace H : (if y107.length + l0.length < 140737488355328 then (some (y107 ++ l0)) else (none)) = some r := by first | (rw [hy107]; exact H) | exact H
 have Ny107 := am hy107
 clear hy107
 by_cases c2 : y107.length + l0.length < 140737488355328
 ·rw [if_pos c2] at H
  have LMc2 := am c2
  clear c2
  obtain ⟨y110, hy110⟩ : ∃ y_ : List Int, y_ = (y107 ++ l0) := ⟨_, rfl⟩
  replace H : (some y110) = some r := by first | (rw [hy110]; exact H) | exact H
  have Ny110 := am hy110
  clear hy110
  obtain rfl := Option.some.inj H
  go_enter Try.func107, Try.ntmps107
  go_wp2_with (first | ((with_reducible refine gate_dst (N := 3) rfl ?_); refine Kd.R_lit (Kd.int .u8) _ 5 ?hg (N := 3) ?hd (xs := ([0] : List Int)) (inner := [.int .u8 0]) (ok := fun _ => True) (okp := fun _ => True) ?hr ?hp (fun _ hk => hk) trivial (Below.refl _ _) (Nat.le_refl _) (by simp) ?_; (case hd => rfl); (case hg => rfl); (case hr => first | (go_simp; done) | (go_simp; rfl)); (case hp => exact (Reps.one (show Kd.M (Kd.int .u8) _ _ _ 0 [.int .u8 0] from rfl) (Reps.none _ _))); intro v108 w3 ho4 hb hg_ hnew_; clear hg_ hnew_; (first | rw [← Ny107.out] at ho4 | (simp only [Int.reduceToNat] at ho4; rw [← Ny107.out] at ho4)); have HO109 := am (Kd.R_lower ho4 (below_size (bt))); replace HB := am (below_step (bt) hb); clear hb ho4) | ((with_reducible refine gate_builtin (b := .append) (xs := #[.tmp 3, .tmp 4]) rfl ?_); at_builtin; refine Kd.R_append_rows (Kd.int .u8) (w0 := w) w.heap.size rfl (.tmp 3) (.tmp 4) 22 5 (.int .u8 0) 1 rfl Try.underlying22 info5 rfl (by decide) (by omega) v108 y107 l0 _ _ _ (fun _ => True) (fun _ => False) rfl rfl ?aO ?aR (fun _ _ h => h) (fun _ h => h.elim) ?aF ?aB ?aS ?aL ?_; (case aR => exact cv ((Kd.C_below HR0.out HB.out))); (case aB => exact (bt)); (case aF => exact (fun _ _ => trivial)); (case aO => exact (mv HO109.out)); (case aS => exact (below_size (bt))); (case aL => have := LMc2.out; omega); intro v111 w5 ho hb hg hat; rw [← Ny110.out] at ho; replace HB := am (hb); have HO112 := am (ho); clear HO109; clear ho hb hg hat))
  go_ret
  exact ⟨_, by first | rfl | (simp [errW_none, errW_some] <;> rfl) | (simp [*, errW_none, errW_some] <;> rfl), rR (h := by exact HO112.out), bt⟩
 ·exact nh c2 H

/-! ### impl_LeafOf: function 119 -/
def impl_LeafOf.f (a0 : Int) (l1 : List Int) : Option (Int) := (impl_leafInput.f l1).bind fun t113 => ((impl_Digest.f a0 t113).bind fun t116 => (some t116))
theorem impl_LeafOf.calls (a0 : Int) (A1 : Option Addr) (c1 : Nat) (l1 : List Int) (r : Int) (w : World) (hr1 : Kd.C (Kd.int .u8) w A1 l1.length l1) (hc1 : l1.length ≤ c1) (h : impl_LeafOf.f a0 l1 = some r) :
  Calls Try.prog 119 #[.int .i64 a0, .slice A1 l1.length c1] w fun e w' => e = .returned (.int .i64 r) ∧ Below w.heap.size w w' := by
 have HR1 := am hr1
 have HC1 := am hc1
 clear hr1 hc1
 have HB := am (Below.refl w.heap.size w)
 have H : ((impl_leafInput.f l1).bind fun t113 => ((impl_Digest.f a0 t113).bind fun t116 => (some t116))) = some r := h
 clear h
 obtain ⟨t113, A3, H⟩ := bm H
 (try dsimp -simprocs only at H)
 obtain ⟨t116, A4, H⟩ := bm H
 (try dsimp -simprocs only at H)
 obtain rfl := Option.some.inj H
 go_enter Try.func119, Try.ntmps119
 go_wp2_with (first | ((with_reducible refine gate_callee (f := 107) rfl ?_); refine goesL_ (some 7) rfl rfl Try.func107 (by kernel_rfl) rfl #[.slice A1 l1.length c1] rfl av ?_; (with_reducible refine (impl_leafInput.calls _ _ l1 t113 _ ?side1 ?side2 A3.out).mono ?_); (case side1 => exact cv (HR1.out)); (case side2 => exact HC1.out); rintro e w5 ⟨v114, rfl, ho0, hb⟩; refine ⟨_, rfl, ?_⟩; have HO115 := am (Kd.R_lower ho0 (below_size (bt))); replace HB := am (below_step (bt) hb); (try clear hb); (try clear hb2); (try clear hk); (try clear hi); (try clear ho0); obtain ⟨Ao6, co6, eo6⟩ := Kd.R_slice HO115.out; subst eo6) | ((with_reducible refine gate_callee (f := 56) rfl ?_); refine goesL_ (some 8) rfl rfl Try.func56 (by kernel_rfl) rfl #[.int .i64 a0, .slice Ao6 t113.length co6] rfl av ?_; (with_reducible refine (impl_Digest.calls a0 _ _ t113 t116 _ ?side1 ?side2 A4.out).mono ?_); (case side1 => exact cv ((Kd.R_reads' HO115.out).2.2)); (case side2 => exact (Kd.R_reads' HO115.out).2.1); rintro e w7 ⟨rfl, hb⟩; refine ⟨_, rfl, ?_⟩; replace HO115 := am (Kd.R_below (mv HO115.out) hb); replace HB := am (below_step (bt) hb); (try clear hb); (try clear hb2); (try clear hk); (try clear hi)))
 go_ret
 exact ⟨by first | rfl | (simp [errW_none, errW_some] <;> rfl) | (simp [*, errW_none, errW_some] <;> rfl), bt⟩

end Go.Proofs.Ytchjajbkaiefdaa.PFnMany
