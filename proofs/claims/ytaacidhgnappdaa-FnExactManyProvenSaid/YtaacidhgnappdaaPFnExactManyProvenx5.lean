-- Written by a program of this workplace (wip/mp.py) out of the translation.
import Derived.Test.YtaacidhgnappdaaPFnExactManyProvenx0
import Derived.Test.YtaacidhgnappdaaPFnExactManyProvenx4
namespace Go.Proofs.Ytaacidhgnappdaa.PFnExactManyProven
open Go.RowKit Go.Proofs.YtaacidhgnappdaaW.PrintWords Go.Proofs.YtaacidhgnappdaaW.PrintLast Go.Proofs.YtaacidhgnappdaaW.PrintMore Go.Proofs.Ytaacidhgnappdaa.Slim
attribute [local go_sem] max2_int min2_int max_two min_two max_three min_three max_four min_four   -- for this text's walks alone
set_option linter.unusedVariables false
set_option linter.unusedSimpArgs false

/-! ### impl_state_digest: function 109 -/
def impl_state_digest.f (s0_0 : Int) (s0_1 : Int) (s0_2 : Int) (a1 : Int) : Option (Int × Int × Int × Int) := if 0 ≤ a1 then (some (wrap64 (Go.bits .and .u64 (Go.bits .xor .u64 (Go.bits .xor .u64 s0_0 s0_1) s0_2) (IntKind.u64.wrap ((shl .u64 1 a1) - 1))), s0_0, s0_1, s0_2)) else (none)
set_option maxHeartbeats 8000000 in
set_option maxRecDepth 100000 in
theorem impl_state_digest.calls (g : Nat) (s0_0 : Int) (s0_1 : Int) (s0_2 : Int) (a1 : Int) (r1 : Int) (r2 : Int) (r3 : Int) (r4 : Int) (w0 w : World) (hI : IsS102 w0 w g s0_0 s0_1 s0_2) (hB : Below w0.heap.size w0 w) (h : impl_state_digest.f s0_0 s0_1 s0_2 a1 = some (r1, r2, r3, r4)) :
  Calls Try.prog 109 #[.pointer (some ⟨g, 0, none⟩), .int .i64 a1] w fun e w' => e = .returned (.int .i64 r1) ∧ IsS102 w0 w' g r2 r3 r4 ∧ Below w0.heap.size w0 w' ∧ KeepBut w w' g none := by
 have HI0 := Aside0.mk hI
 have HK := Aside0.mk (KeepBut.refl w g none)
 have HL := Aside0.mk hB.size
 clear hI
 have HW0 := Aside0.mk hB.size
 have HB := Aside0.mk hB
 clear hB
 have H : (if 0 ≤ a1 then (some (wrap64 (Go.bits .and .u64 (Go.bits .xor .u64 (Go.bits .xor .u64 s0_0 s0_1) s0_2) (IntKind.u64.wrap ((shl .u64 1 a1) - 1))), s0_0, s0_1, s0_2)) else (none)) = some (r1, r2, r3, r4) := h
 clear h
 by_cases c3 : 0 ≤ a1
 ·rw [if_pos c3] at H
  have c3b0 := eq_true c3
  have c3b1 : decide (0 ≤ a1) = true := decide_eq_true c3
  clear c3
  obtain ⟨ji4, hji4⟩ : ∃ j_ : Int, (shl .u64 1 a1) = j_ := ⟨_, rfl⟩
  replace H : (some (wrap64 (Go.bits .and .u64 (Go.bits .xor .u64 (Go.bits .xor .u64 s0_0 s0_1) s0_2) (IntKind.u64.wrap ((ji4) - 1))), s0_0, s0_1, s0_2)) = some (r1, r2, r3, r4) := by first | (rw [hji4] at H; exact H) | (simp only [hji4] at H ⊢; exact H)
  have hji4_ : (IntKind.u64.wrap (1 * 2 ^ min a1.toNat 64)) = ji4 := hji4
  have hji4z : a1 ≤ 64 → (IntKind.u64.wrap (1 * 2 ^ a1.toNat)) = ji4 := shl_small hji4
  have hji4u : (IntKind.u64.wrap (2 ^ min a1.toNat 64)) = ji4 := by have h_ := hji4_; rw [Int.one_mul] at h_; exact h_
  have hji4v : a1 ≤ 64 → (IntKind.u64.wrap (2 ^ a1.toNat)) = ji4 := fun hle_ => by have h_ := hji4z hle_; rw [Int.one_mul] at h_; exact h_
  simp only [Option.some.injEq, Prod.mk.injEq] at H
  obtain ⟨rfl, rfl, rfl, rfl⟩ := H
  obtain ⟨HGz5, hgz5⟩ := HI0.out
  have hcz5_0 := cellS102_0 HGz5
  have hcz5_1 := cellS102_1 HGz5
  have hcz5_2 := cellS102_2 HGz5
  have hfz5_0 := blk_frozen HGz5 0
  have hfz5_1 := blk_frozen HGz5 1
  have hfz5_2 := blk_frozen HGz5 2
  clear HGz5 hgz5
  go_enter Try.func109, Try.ntmps109
  go_wp2
  repeat (go_quiet (fail); try go_wp2)
  go_ret
  exact ⟨by first | rfl | (simp [errW_none, errW_some] <;> rfl) | (simp only [← hji4]; first | rfl | (simp [errW_none, errW_some] <;> rfl)) | (simp [*, errW_none, errW_some] <;> rfl), by repeat (first | (with_reducible first | exact HI0.out | apply IsS102.alloc | apply IsS102.drewN | apply IsS102.drew | apply IsS102.set_0 | apply IsS102.set_1 | apply IsS102.set_2) | exact HI0.out), by repeat (first | (with_reducible first | exact HB.out | apply below_alloc | apply pw_below_drewN | apply below_drew1 | refine below_set ?_ (IsS102.ge HI0.out)) | exact HB.out), by repeat (first | (with_reducible first | exact HK.out | apply KeepBut.set_ | apply keep_drewN | apply keep_drew | apply keep_alloc) | exact HK.out)⟩
 ·rw [if_neg c3] at H
  exact absurd H (by simp)

/-! ### impl_Squeeze: function 73 -/
def impl_Squeeze.f (a0 : Int) (l1 : List Int) (a2 : Int) : Option (List Int × Bool) :=
 if 2 ≤ a0 ∧ a0 ≤ 60 then if l1.length ≤ 4000 then if 1 ≤ a2 ∧ a2 ≤ 40 then some (Dig.squeeze a0 a2.toNat (Dig.rnds 6 (Dig.taken l1)), true) else some ([], false) else some ([], false) else some ([], false)
theorem bitsOk_eq (a0 : Int) : impl_bitsOk.f a0 = some (decide (2 ≤ a0 ∧ a0 ≤ 60)) := by
 unfold impl_bitsOk.f impl_in.f
 by_cases h : a0 ≥ 2 <;> simp [h]
theorem in_eq (a b c : Int) : impl_in.f a b c = some (decide (b ≤ a ∧ a ≤ c)) := by
 unfold impl_in.f
 by_cases h : a ≥ b <;> simp [h]
set_option maxHeartbeats 4000000 in
set_option maxRecDepth 100000 in
theorem squeeze_no (a0 : Int) (A1 : Option Addr) (c1 : Nat) (l1 : List Int) (a2 : Int) (w : World) (h : ¬ ((2 ≤ a0 ∧ a0 ≤ 60) ∧ l1.length ≤ 4000 ∧ 1 ≤ a2 ∧ a2 ≤ 40)) :
  Calls Try.prog 73 #[.int .i64 a0, .slice A1 l1.length c1, .int .i64 a2] w fun e w' => e = .returned (.tuple #[.slice none 0 0, .bool false]) ∧ Drawn0 w w' := by
 by_cases h1 : 2 ≤ a0 ∧ a0 ≤ 60
 ·have e1 : impl_bitsOk.f a0 = some true := by rw [bitsOk_eq]; simp [h1]
  have E1 := Aside0.mk e1
  by_cases h2 : l1.length ≤ 4000
  ·have e2 : decide (4000 < l1.length) = false := decide_eq_false (by omega)
   have e2' : decide (4000 < (l1.length : Int)) = false := decide_eq_false (by omega)
   have e3 : impl_in.f a2 1 40 = some false := by rw [in_eq]; simp; omega
   have E3 := Aside0.mk e3
   clear h h1 h2 e1 e3
   go_enter Try.func73, Try.ntmps73
   go_wp2_with (first | (go_at_call 103; refine (impl_bitsOk.calls a0 true _ E1.out).mono ?_; rintro e w' ⟨rfl, ⟨nd, rfl⟩⟩) | (go_at_call 65; refine (impl_in.calls a2 1 40 false _ E3.out).mono ?_; rintro e w' ⟨rfl, ⟨nd, rfl⟩⟩))
   go_ret2
   exact ⟨rfl, by repeat (first | exact Drawn0.refl _ | apply Drawn0.step)⟩
  ·have e2 : decide (4000 < l1.length) = true := decide_eq_true (by omega)
   have e2' : decide (4000 < (l1.length : Int)) = true := decide_eq_true (by omega)
   clear h h1 h2 e1
   go_enter Try.func73, Try.ntmps73
   go_wp2_with (go_at_call 103; refine (impl_bitsOk.calls a0 true _ E1.out).mono ?_; rintro e w' ⟨rfl, ⟨nd, rfl⟩⟩)
   go_ret2
   exact ⟨rfl, by repeat (first | exact Drawn0.refl _ | apply Drawn0.step)⟩
 ·have e1 : impl_bitsOk.f a0 = some false := by rw [bitsOk_eq]; simp; omega
  have E1 := Aside0.mk e1
  clear h h1 e1
  go_enter Try.func73, Try.ntmps73
  go_wp2_with (go_at_call 103; refine (impl_bitsOk.calls a0 false _ E1.out).mono ?_; rintro e w' ⟨rfl, ⟨nd, rfl⟩⟩)
  go_ret2
  exact ⟨rfl, by repeat (first | exact Drawn0.refl _ | apply Drawn0.step)⟩
theorem lit0 (w : World) : Kd.R (Kd.int .i64) 3 (w.alloc (.cells #[] 3)) w.heap.size (fun _ => True) (.slice (some ⟨w.heap.size, 0, none⟩) 0 0) [] := by
 refine ⟨fun _ _ => trivial, [], ?_, Reps.none _ _⟩
 have h2 := World.ownsRow_lit (base := w.heap.size) (e := 3) (size := (Kd.int .i64).sz) w (#[] : Array Value) 0 (Nat.le_refl _) (by simp) (by simp)
 exact h2
theorem keep_own {w0 W W1 : World} {g base : Nat} {a b c : Int} {v : Value} {xs : List Int} (h : Kd.R (Kd.int .i64) 3 W base (fun _ => True) v xs) (hI : IsS102 w0 W g a b c) (hk : KeepBut W W1 g none) : Kd.R (Kd.int .i64) 3 W1 base (fun _ => True) v xs :=
 Kd.R_mono (Kd.R_keep (Kd.R_types h hI.1 (by intro q hq; simp [Kd.int, Kd.scalar] at hq; omega)) hk (fun _ hk => hk.2)) (fun _ _ => trivial)
set_option maxHeartbeats 4000000 in
set_option maxRecDepth 100000 in
theorem squeeze_yes (a0 : Int) (A1 : Option Addr) (c1 : Nat) (l1 : List Int) (a2 : Int) (w : World) (hr1 : Kd.C (Kd.int .u8) w A1 l1.length l1) (hc1 : l1.length ≤ c1) (h1 : 2 ≤ a0 ∧ a0 ≤ 60) (h2 : l1.length ≤ 4000) (h3 : 1 ≤ a2 ∧ a2 ≤ 40) :
  Calls Try.prog 73 #[.int .i64 a0, .slice A1 l1.length c1, .int .i64 a2] w fun e w' => ∃ v0_ : Value, e = .returned (.tuple #[v0_, .bool true]) ∧ Kd.R (Kd.int .i64) 3 w' w.heap.size (fun _ => True) v0_ (Dig.squeeze a0 a2.toNat (Dig.rnds 6 (Dig.taken l1))) ∧ Below w.heap.size w w' := by
 have e1 : impl_bitsOk.f a0 = some true := by rw [bitsOk_eq]; simp [h1]
 have e2 : decide (4000 < l1.length) = false := decide_eq_false (by omega)
 have e2' : decide (4000 < (l1.length : Int)) = false := decide_eq_false (by omega)
 have e3 : impl_in.f a2 1 40 = some true := by rw [in_eq]; simp [h3]
 have E1 := Aside0.mk e1
 have E3 := Aside0.mk e3
 have HC := Aside0.mk hr1
 have H1 := Aside0.mk h1
 have H3 := Aside0.mk h3
 clear e1 e3 hr1 h1 h2 h3
 have hu := Try.underlying102
 go_enter Try.func73, Try.ntmps73
 go_wp2_with (first | (go_at_call 103; refine (impl_bitsOk.calls a0 true _ E1.out).mono ?_; rintro e w' ⟨rfl, ⟨nd2, rfl⟩⟩) | (go_at_call 65; refine (impl_in.calls a2 1 40 true _ E3.out).mono ?_; rintro e w' ⟨rfl, ⟨nd1, rfl⟩⟩))
 have hr0 := Kd.R_alloc (lit0 (w.drewN (nd2 + nd1))) (.cells #[.int .u64 1, .int .u64 2, .int .u64 3] 102)
 have hi0 : IsS102 w (((w.drewN (nd2 + nd1)).alloc (.cells #[] 3)).alloc (.cells #[.int .u64 1, .int .u64 2, .int .u64 3] 102)) (w.heap.size + 1) 1 2 3 :=
  ⟨by have := heap_alloc_new ((w.drewN (nd2 + nd1)).alloc (.cells #[] 3)) (.cells #[.int .u64 1, .int .u64 2, .int .u64 3] 102); simpa using this, Nat.le_succ _⟩
 have hb0 : Below w.heap.size w (((w.drewN (nd2 + nd1)).alloc (.cells #[] 3)).alloc (.cells #[.int .u64 1, .int .u64 2, .int .u64 3] 102)) :=
  below_alloc (below_alloc (pw_below_drewN (Below.refl _ _) _) _) _
 have hc0 := Kd.C_below HC.out hb0
 have HR0 := Aside0.mk hr0
 have HI0 := Aside0.mk hi0
 have HB0 := Aside0.mk hb0
 have HC0 := Aside0.mk hc0
 clear hr0 hi0 hb0 hc0
 obtain ⟨⟨x0, x1, x2⟩, hq⟩ : ∃ x, x = Dig.rnds 6 (Dig.taken l1) := ⟨_, rfl⟩
 have HQ := Aside0.mk hq
 clear hq
 change Calls _ _ _ (((w.drewN (nd2 + nd1)).alloc (.cells #[] 3)).alloc (.cells #[.int .u64 1, .int .u64 2, .int .u64 3] 102)) _
 generalize (((w.drewN (nd2 + nd1)).alloc (.cells #[] 3)).alloc (.cells #[.int .u64 1, .int .u64 2, .int .u64 3] 102)) = W at HR0 HI0 HB0 HC0 ⊢
 refine (impl_state_take.calls (w.heap.size + 1) 1 2 3 A1 c1 l1 x0 x1 x2 w W HI0.out HB0.out HC0.out hc1 (Kd.far_C (0 : Int) HC.out (Nat.le_succ _)) (by rw [HQ.out]; rfl)).mono ?_
 rintro e w3 ⟨rfl, hi, hb, hk⟩
 have HI1 := Aside0.mk hi
 have HB1 := Aside0.mk hb
 have HR1 := Aside0.mk (keep_own HR0.out HI0.out hk)
 clear hi hb hk HR0 HI0 HB0 HC0
 have HN := Aside0.mk (show ∀ i : Nat, (i : Int) < a2 ↔ i < a2.toNat from fun i => by omega)
 have HM := Aside0.mk (show a2.toNat ≤ 40 by have := H3.out; omega)
 go_wp2
 go_loopw [9, 28] (fun v i wr => ∃ (k : Nat) (a b c : Int), i = .int .i64 k ∧ Aside0 (k ≤ a2.toNat) ∧ Aside0 (Dig.rnds (2 * k) (x0, x1, x2) = (a, b, c)) ∧ Aside0 (IsS102 w wr (w.heap.size + 1) a b c) ∧ Aside0 (Below w.heap.size w wr) ∧ Aside0 (Kd.R (Kd.int .i64) 3 wr w.heap.size (fun _ => True) v (Dig.squeeze a0 k (x0, x1, x2)))) (fun _ i _ => a2.toNat - (intOf i).toNat)
 case atStart => exact ⟨0, x0, x1, x2, rfl, ⟨Nat.zero_le _⟩, ⟨rfl⟩, HI1, HB1, HR1⟩
 case round =>
  obtain ⟨k, a, b, c, rfl, HK, HA, HI2, HB2, HR2⟩ := hrel
  by_cases hlt : k < a2.toNat
  ·have c0 : decide ((k : Int) < a2) = true := decide_eq_true ((HN.out k).2 hlt)
   have HL := Aside0.mk hlt
   clear hlt
   go_wp2_with fail
   have ed : impl_state_digest.f a b c a0 = some (Dig.out a0 (a, b, c), a, b, c) := by
    unfold impl_state_digest.f
    rw [if_pos (by have := H1.out; omega)]
    rfl
   refine (impl_state_digest.calls (w.heap.size + 1) a b c a0 (Dig.out a0 (a, b, c)) a b c w wr HI2.out HB2.out ed).mono ?_
   rintro e w4 ⟨rfl, hi, hb, hk⟩
   have HI3 := Aside0.mk hi
   have HB3 := Aside0.mk hb
   have HR3 := Aside0.mk (keep_own HR2.out HI2.out hk)
   clear hi hb hk ed
   generalize hs : Dig.squeeze a0 k (x0, x1, x2) = ys at HR3
   have HS := Aside0.mk hs
   clear hs
   have hys : ys.length = k := by rw [← HS.out, Dig.squeeze_length]
   have HY := Aside0.mk hys
   clear hys
   go_wp2_with (at_builtin; refine Kd.R_append (Kd.int .i64) (w0 := w) w.heap.size rfl (.tmp 30) (.tmp 33) 23 3 (.int .i64 0) 8 rfl Try.underlying23 info3 rfl (by decide) (by omega) _ ys (Dig.out a0 (a, b, c)) [.int .i64 (Dig.out a0 (a, b, c))] (fun _ => True) (fun _ => False) rfl rfl rfl (fun _ hk => hk.elim) (fun _ _ => trivial) HR3.out HB3.out HB3.out.size (by have := HY.out; have := HL.out; have := HM.out; omega) ?_; intro v1 w5 ho hb hg hat)
   have HI4 := Aside0.mk (IsS102.grown HI3.out hg (IsS102.own_ne HI3.out HR3.out (by decide)))
   have HB4 := Aside0.mk hb
   have HR4 := Aside0.mk ho
   clear ho hb hg hat HI3 HB3 HR3
   go_wp2_with fail
   obtain ⟨⟨y0, y1, y2⟩, hq⟩ : ∃ y, y = Dig.rnds 2 (a, b, c) := ⟨_, rfl⟩
   have HY2 := Aside0.mk hq
   clear hq
   refine (impl_state_rounds.calls (w.heap.size + 1) a b c 2 y0 y1 y2 w w5 HI4.out HB4.out (by rw [HY2.out]; rfl)).mono ?_
   rintro e w6 ⟨rfl, hi, hb, hk⟩
   have HI5 := Aside0.mk hi
   have HB5 := Aside0.mk hb
   have HR5 := Aside0.mk (keep_own HR4.out HI4.out hk)
   clear hi hb hk HI4 HB4 HR4
   have b1 : 0 ≤ (k : Int) := Int.natCast_nonneg k
   have b2 : (k : Int) ≤ 40 := by have := HL.out; have := HM.out; omega
   go_wp2
   go_roundw
   case rel =>
    refine ⟨k + 1, y0, y1, y2, by go_num, ⟨HL.out⟩, ⟨?_⟩, HI5, HB5, ⟨?_⟩⟩
    ·rw [show 2 * (k + 1) = 2 * k + 2 by omega, Dig.rnds_add, HA.out]
     exact HY2.out.symm
    ·have h := HR5.out
     rw [← HS.out] at h
     have e := Dig.squeeze_snoc a0 k (x0, x1, x2)
     rw [HA.out] at e
     rw [e] at h
     exact h
   case measure => have := HL.out; simp [intOf]; omega
  ·have c0 : decide ((k : Int) < a2) = false := decide_eq_false (fun h => hlt ((HN.out k).1 h))
   have e : k = a2.toNat := by have := HK.out; omega
   have HE := Aside0.mk e
   clear hlt e
   go_wp2
   go_ret2
   exact ⟨_, rfl, by have h := HR2.out; rw [HE.out, HQ.out] at h; exact h, HB2.out⟩
theorem impl_Squeeze.calls (a0 : Int) (A1 : Option Addr) (c1 : Nat) (l1 : List Int) (a2 : Int) (r1 : List Int) (r2 : Bool) (w : World) (hr1 : Kd.C (Kd.int .u8) w A1 l1.length l1) (hc1 : l1.length ≤ c1) (h : impl_Squeeze.f a0 l1 a2 = some (r1, r2)) :
  Calls Try.prog 73 #[.int .i64 a0, .slice A1 l1.length c1, .int .i64 a2] w fun e w' => ∃ v0_ : Value, e = .returned (.tuple #[v0_, .bool r2]) ∧ Kd.R (Kd.int .i64) 3 w' w.heap.size (fun _ => True) v0_ r1 ∧ Below w.heap.size w w' := by
 by_cases hg : (2 ≤ a0 ∧ a0 ≤ 60) ∧ l1.length ≤ 4000 ∧ 1 ≤ a2 ∧ a2 ≤ 40
 ·obtain ⟨h1, h2, h3⟩ := hg
  unfold impl_Squeeze.f at h
  rw [if_pos h1, if_pos h2, if_pos h3] at h
  simp only [Option.some.injEq, Prod.mk.injEq] at h
  obtain ⟨rfl, rfl⟩ := h
  exact squeeze_yes a0 A1 c1 l1 a2 w hr1 hc1 h1 h2 h3
 ·have h' : impl_Squeeze.f a0 l1 a2 = some ([], false) := by
   unfold impl_Squeeze.f
   by_cases h1 : 2 ≤ a0 ∧ a0 ≤ 60
   ·rw [if_pos h1]
    by_cases h2 : l1.length ≤ 4000
    ·rw [if_pos h2, if_neg (fun h3 => hg ⟨h1, h2, h3⟩)]
    ·rw [if_neg h2]
   ·rw [if_neg h1]
  rw [h'] at h
  simp only [Option.some.injEq, Prod.mk.injEq] at h
  obtain ⟨rfl, rfl⟩ := h
  refine (squeeze_no a0 A1 c1 l1 a2 w hg).mono ?_
  rintro e w' ⟨rfl, hd⟩
  exact ⟨_, rfl, Kd.R_nil _ _ _ _ _, hd.below⟩

/-! ### impl_Digest: function 29 -/
def impl_Digest.f (a0 : Int) (l1 : List Int) : Option (Int) := (impl_Squeeze.f a0 l1 1).bind fun bt244 => (if bt244.2 = true then (if 0 < (bt244.1.length : Int) then (some (rd bt244.1 0)) else (none)) else (some (-1)))
set_option maxHeartbeats 8000000 in
set_option maxRecDepth 100000 in
theorem impl_Digest.calls (a0 : Int) (A1 : Option Addr) (c1 : Nat) (l1 : List Int) (r : Int) (w : World) (hr1 : Kd.C (Kd.int .u8) w A1 l1.length l1) (hc1 : l1.length ≤ c1) (h : impl_Digest.f a0 l1 = some r) :
  Calls Try.prog 29 #[.int .i64 a0, .slice A1 l1.length c1] w fun e w' => e = .returned (.int .i64 r) ∧ Below w.heap.size w w' := by
 have HR1 := Aside0.mk hr1
 have HC1 := Aside0.mk hc1
 clear hr1 hc1
 have HB := Aside0.mk (Below.refl w.heap.size w)
 have H : ((impl_Squeeze.f a0 l1 1).bind fun bt244 => (if bt244.2 = true then (if 0 < (bt244.1.length : Int) then (some (rd bt244.1 0)) else (none)) else (some (-1)))) = some r := h
 clear h
 replace H := Option.bind_eq_some_iff.mp H
 obtain ⟨⟨t244, t245⟩, A30, H⟩ := H
 (try dsimp -simprocs only at H)
 have A3 := Aside0.mk A30
 clear A30
 by_cases c4 : t245 = true
 ·subst c4
  rw [if_pos rfl] at H
  by_cases c5 : 0 < (t244.length : Int)
  ·rw [if_pos c5] at H
   have c5b0 : decide (0 < (t244.length : Int)) = true := decide_eq_true c5
   have c5b1 : decide (0 < t244.length) = true := decide_eq_true (by omega)
   clear c5
   obtain rfl := Option.some.inj H
   go_enter Try.func29, Try.ntmps29
   go_wp2_with (first | ((with_reducible refine gate_callee (f := 73) rfl ?_); refine goesL_ (some 10) rfl rfl Try.func73 (by kernel_rfl) rfl #[.int .i64 a0, .slice A1 l1.length c1, .int .i64 1] rfl av ?_; (with_reducible refine (impl_Squeeze.calls a0 _ _ l1 1 t244 true _ ?side1 ?side2 A3.out).mono ?_); (case side1 => exact cv (HR1.out)); (case side2 => exact HC1.out); rintro e w6 ⟨v246, rfl, ho0, hb⟩; refine ⟨_, rfl, ?_⟩; have HO247 := Aside0.mk (Kd.R_lower ho0 (below_size (bt))); replace HB := Aside0.mk (below_step (bt) hb); (try clear hb); (try clear hb2); (try clear hk); (try clear hi); (try clear ho0); obtain ⟨Ao7, co7, eo7⟩ := Kd.R_slice HO247.out; subst eo7; have p248 : 0 ≤ (0 : Int) := (by omega); have q248 : 0 < (t244.length : Int) := of_decide_eq_true asm; obtain ⟨ad248, e248, hx248_0⟩ := Kd.at_int (Kd.R_reads' HO247.out).2.2 0 p248 q248; cases e248; have qi248 : (0 < t244.length) = True := eq_true (by omega); (try rw [show ((0 : Int)).toNat = 0 from rfl] at hx248_0); (try rw [Addr.add_zero'] at hx248_0); replace p248 := eq_true p248; replace q248 := eq_true q248))
   go_ret
   exact ⟨by first | rfl | (simp [errW_none, errW_some] <;> rfl) | (simp [*, errW_none, errW_some] <;> rfl), bt⟩
  ·rw [if_neg c5] at H
   exact absurd H (by simp)
 ·replace c4 := Bool.eq_false_iff.mpr c4
  subst c4
  rw [if_neg (show ¬ (false = true) by decide)] at H
  obtain rfl := Option.some.inj H
  go_enter Try.func29, Try.ntmps29
  go_wp2_with (first | ((with_reducible refine gate_callee (f := 73) rfl ?_); refine goesL_ (some 10) rfl rfl Try.func73 (by kernel_rfl) rfl #[.int .i64 a0, .slice A1 l1.length c1, .int .i64 1] rfl av ?_; (with_reducible refine (impl_Squeeze.calls a0 _ _ l1 1 t244 false _ ?side1 ?side2 A3.out).mono ?_); (case side1 => exact cv (HR1.out)); (case side2 => exact HC1.out); rintro e w8 ⟨v246, rfl, ho0, hb⟩; refine ⟨_, rfl, ?_⟩; have HO247 := Aside0.mk (Kd.R_lower ho0 (below_size (bt))); replace HB := Aside0.mk (below_step (bt) hb); (try clear hb); (try clear hb2); (try clear hk); (try clear hi); (try clear ho0)))
  go_ret
  exact ⟨by first | rfl | (simp [errW_none, errW_some] <;> rfl) | (simp [*, errW_none, errW_some] <;> rfl), bt⟩

/-! ### impl_lastOf: function 68 -/
def impl_lastOf.f (a0 : Int) (l1 : List (List Int)) (a2 : Bool) : Option (Int) := if a2 = true then (if 0 ≤ (wrap64 ((l1.length : Int) - 1)) then (if (wrap64 ((l1.length : Int) - 1)) < (l1.length : Int) then ((impl_Digest.f a0 (rd_L2 l1 (wrap64 ((l1.length : Int) - 1)))).bind fun t250 => (some t250)) else (none)) else (none)) else (some (-1))
set_option maxHeartbeats 8000000 in
set_option maxRecDepth 100000 in
theorem impl_lastOf.calls (a0 : Int) (A1 : Option Addr) (c1 : Nat) (l1 : List (List Int)) (a2 : Bool) (r : Int) (w : World) (hr1 : Kd.C (Kd.slice 5 (Kd.int .u8)) w A1 l1.length l1) (hc1 : l1.length ≤ c1) (h : impl_lastOf.f a0 l1 a2 = some r) :
  Calls Try.prog 68 #[.int .i64 a0, .slice A1 l1.length c1, .bool a2] w fun e w' => e = .returned (.int .i64 r) ∧ Below w.heap.size w w' := by
 have HR1 := Aside0.mk hr1
 have HC1 := Aside0.mk hc1
 clear hr1 hc1
 have HB := Aside0.mk (Below.refl w.heap.size w)
 have H : (if a2 = true then (if 0 ≤ (wrap64 ((l1.length : Int) - 1)) then (if (wrap64 ((l1.length : Int) - 1)) < (l1.length : Int) then ((impl_Digest.f a0 (rd_L2 l1 (wrap64 ((l1.length : Int) - 1)))).bind fun t250 => (some t250)) else (none)) else (none)) else (some (-1))) = some r := h
 clear h
 by_cases c4 : a2 = true
 ·subst c4
  rw [if_pos rfl] at H
  obtain ⟨ji5, hji5⟩ : ∃ j_ : Int, (wrap64 ((l1.length : Int) - 1)) = j_ := ⟨_, rfl⟩
  replace H : (if 0 ≤ (ji5) then (if (ji5) < (l1.length : Int) then ((impl_Digest.f a0 (rd_L2 l1 (ji5))).bind fun t250 => (some t250)) else (none)) else (none)) = some r := by first | (rw [hji5] at H; exact H) | (simp only [hji5] at H ⊢; exact H)
  have hji5w : (IntKind.i64.wrap ((l1.length : Int) - 1)) = ji5 := (i64_w _).trans hji5
  by_cases c6 : 0 ≤ (ji5)
  ·rw [if_pos c6] at H
   have c6b0 : decide (0 ≤ (ji5)) = true := decide_eq_true c6
   clear c6
   by_cases c7 : (ji5) < (l1.length : Int)
   ·rw [if_pos c7] at H
    have c7b0 : decide ((ji5) < (l1.length : Int)) = true := decide_eq_true c7
    clear c7
    replace H := Option.bind_eq_some_iff.mp H
    obtain ⟨t250, A80, H⟩ := H
    (try dsimp -simprocs only at H)
    have A8 := Aside0.mk A80
    clear A80
    obtain rfl := Option.some.inj H
    have p249 : 0 ≤ ((ji5) : Int) := of_decide_eq_true asm
    have q249 : (ji5) < (l1.length : Int) := of_decide_eq_true asm
    obtain ⟨ad249, A249_0, c249_0, e249, hx249_0, hl249_0, hi249_0⟩ := at_L2 HR1.out (ji5) p249 q249
    cases e249
    have HR249_0 := Aside0.mk hi249_0
    have HC249_0 := Aside0.mk hl249_0
    clear hi249_0 hl249_0
    replace p249 := eq_true p249
    replace q249 := eq_true q249
    go_enter Try.func68, Try.ntmps68
    go_wp2_with (first | ((with_reducible refine gate_callee (f := 29) rfl ?_); refine goesL_ (some 16) rfl rfl Try.func29 (by kernel_rfl) rfl #[.int .i64 a0, .slice A249_0 (rd_L2 l1 (ji5)).length c249_0] rfl (by (try simp only [List.map_toArray, List.map_cons, List.map_nil]); first | done | (simp only [hji5]; rfl) | rfl | (simp only [List.length_drop, List.length_take]; rfl)) ?_; (with_reducible refine (impl_Digest.calls a0 _ _ (rd_L2 l1 (ji5)) t250 _ ?side1 ?side2 A8.out).mono ?_); (case side1 => exact cv (HR249_0.out)); (case side2 => exact HC249_0.out); rintro e w9 ⟨rfl, hb⟩; refine ⟨_, rfl, ?_⟩; replace HB := Aside0.mk (below_step (bt) hb); (try clear hb); (try clear hb2); (try clear hk); (try clear hi)))
    go_ret
    exact ⟨by first | rfl | (simp [errW_none, errW_some] <;> rfl) | (simp only [← hji5]; first | rfl | (simp [errW_none, errW_some] <;> rfl)) | (simp [*, errW_none, errW_some] <;> rfl), bt⟩
   ·rw [if_neg c7] at H
    exact absurd H (by simp)
  ·rw [if_neg c6] at H
   exact absurd H (by simp)
 ·replace c4 := Bool.eq_false_iff.mpr c4
  subst c4
  rw [if_neg (show ¬ (false = true) by decide)] at H
  obtain rfl := Option.some.inj H
  go_enter Try.func68, Try.ntmps68
  go_wp2
  go_ret
  exact ⟨by first | rfl | (simp [errW_none, errW_some] <;> rfl) | (simp [*, errW_none, errW_some] <;> rfl), bt⟩

/-! ### impl_leavesOk: function 63 -/
def impl_leavesOk.f (a0 : Int) (l1 : List (List Int)) : Option (Bool) := some (decide ((2 ≤ a0 ∧ a0 ≤ 60) ∧ 1 ≤ l1.length ∧ l1.length ≤ 16) && l1.all fun b => decide (b.length < 4000))
theorem rowAt {w : World} {A : Option Addr} {n : Nat} {xs : List (List Int)} (h : Kd.C (Kd.slice 5 (Kd.int .u8)) w A n xs) (k : Nat) (hk : k < n) :
  ∃ ad A0 c0, A = some ad ∧ w.cell? (ad.add k) = some (.slice A0 (xs.getD k []).length c0) ∧ (xs.getD k []).length ≤ c0 ∧ (Kd.int .u8).C w A0 (xs.getD k []).length (xs.getD k []) := by
 obtain ⟨ad, c, e, hl, hK, hc⟩ := ReadsRow.get_ h ([] : List Int) (k : Int) (Int.natCast_nonneg k) (by omega)
 obtain ⟨A0, c0, rfl, h2, h3⟩ := hK
 rw [Int.toNat_natCast] at hc h2 h3
 have h4 := hc 0 _ rfl
 refine ⟨ad, A0, c0, e, ?_, h2, h3⟩
 have e1 : k * (Kd.slice 5 (Kd.int .u8)).sz + 0 = k := Nat.mul_one k
 rw [e1] at h4
 exact h4
set_option maxHeartbeats 4000000 in
theorem long_lit (A : Option Addr) (n c : Nat) (W : World) (hn : n ≤ 9223372036854775807) :
  Calls Try.prog 102 #[.slice A n c] W fun e w' => e = .returned (.bool (decide (4000 ≤ n))) ∧ Drawn0 W w' := by
 by_cases h : 4000 ≤ n
 ·have c0 : decide (4000 ≤ n) = true := decide_eq_true h
  have c1 : decide (4000 ≤ (n : Int)) = true := decide_eq_true (by omega)
  have HH := Aside0.mk c0
  clear h
  go_enter Try.func102, Try.ntmps102
  go_wp2
  go_ret
  exact ⟨by first | rfl | simp [HH.out], Drawn0.refl _⟩
 ·have c0 : decide (4000 ≤ n) = false := decide_eq_false h
  have c1 : decide (4000 ≤ (n : Int)) = false := decide_eq_false (by omega)
  have HH := Aside0.mk c0
  clear h
  go_enter Try.func102, Try.ntmps102
  go_wp2
  go_ret
  exact ⟨by first | rfl | simp [HH.out], Drawn0.refl _⟩
/-- The first row that is long; -1: there is none. -/
def firstLong (l : List (List Int)) (i : Nat) : Int := match l with
 | [] => -1
 | x :: l => if x.length < 4000 then firstLong l (i + 1) else (i : Int)
theorem firstLong_all (l : List (List Int)) : ∀ i : Nat, decide (0 ≤ firstLong l i) = !(l.all fun b => decide (b.length < 4000)) := by
 induction l with
 | nil => intro i; rfl
 | cons x l ih =>
  intro i
  unfold firstLong
  by_cases h : x.length < 4000
  ·rw [if_pos h, ih (i + 1)]; simp [h]
  ·rw [if_neg h]; simp [h]
set_option maxHeartbeats 4000000 in
set_option maxRecDepth 100000 in
theorem long_index (A1 : Option Addr) (c1 : Nat) (l1 : List (List Int)) (w : World) (hr1 : Kd.C (Kd.slice 5 (Kd.int .u8)) w A1 l1.length l1) :
  Calls Try.prog 120 #[.slice A1 l1.length c1, .func (.func 102) #[] #[]] w fun e w' => e = .returned (.int .i64 (firstLong l1 0)) ∧ Drawn0 w w' := by
 have HR := Aside0.mk hr1
 clear hr1
 have eg := enters_of Try.func102 (by kernel_rfl) rfl
 go_enter Try.func120, Try.ntmps120
 go_wp2
 go_loopw [8] (fun i wr => ∃ k : Nat, i = .int .i64 k ∧ Aside0 (k ≤ l1.length) ∧ Aside0 (firstLong (l1.drop k) k = firstLong l1 0) ∧ Drawn0 w wr) (fun i _ => l1.length - (intOf i).toNat)
 case atStart => exact ⟨0, rfl, ⟨Nat.zero_le _⟩, ⟨rfl⟩, Drawn0.refl _⟩
 case round =>
  obtain ⟨k, rfl, HK, HF, ⟨m, rfl⟩⟩ := hrel
  have HM : Aside0 (l1.length ≤ 9223372036854775807) := ⟨HR.out.2.1⟩
  by_cases hlt : k < l1.length
  ·have c0 : decide (k < l1.length) = true := decide_eq_true hlt
   have c1 : decide ((k : Int) < (l1.length : Int)) = true := decide_eq_true (by omega)
   have p1 : 0 ≤ (k : Int) := Int.natCast_nonneg k
   have q1 : (k : Int) < (l1.length : Int) := by omega
   obtain ⟨ad, A0, c2, e1, hx, hle, hC0⟩ := rowAt HR.out k hlt
   cases e1
   have ed : l1.drop k = l1.getD k [] :: l1.drop (k + 1) := by
    rw [List.getD_eq_getElem?_getD, List.getElem?_eq_getElem hlt]
    exact List.drop_eq_getElem_cons hlt
   have HD := Aside0.mk ed
   have HL := Aside0.mk hlt
   have HX := Aside0.mk hC0.2.1
   clear hlt ed hC0 hle
   generalize l1.getD k [] = x at hx HD HX
   generalize hn : x.length = n at hx HX
   have HN := Aside0.mk hn
   clear hn
   go_wp2_with fail
   refine (long_lit A0 n c2 (w.drewN m) HX.out).mono ?_
   rintro e w' ⟨rfl, ⟨nd, rfl⟩⟩
   have b2 : (k : Int) ≤ 9223372036854775806 := by have := HL.out; have := HM.out; omega
   by_cases hv : 4000 ≤ n
   ·have cv : decide (4000 ≤ n) = true := decide_eq_true hv
    have HV := Aside0.mk hv
    clear hv
    go_wp2
    go_ret
    exact ⟨by have h := HF.out; rw [HD.out] at h; have hv := HV.out; have hn := HN.out; simp only [firstLong] at h; rw [if_neg (by omega)] at h; first | (rw [← h]; done) | (rw [← h]; rfl) | simp [← h], by repeat (first | exact Drawn0.refl _ | apply Drawn0.step)⟩
   ·have cv : decide (4000 ≤ n) = false := decide_eq_false hv
    have HV := Aside0.mk hv
    clear hv
    go_wp2
    go_roundw
    case rel => exact ⟨k + 1, by go_num, ⟨HL.out⟩, ⟨by have h := HF.out; rw [HD.out] at h; have hv := HV.out; have hn := HN.out; simp only [firstLong] at h; rw [if_pos (by omega)] at h; exact h⟩, by repeat (first | exact Drawn0.refl _ | apply Drawn0.step)⟩
    case measure => have := HL.out; simp [intOf]; omega
  ·have c0 : decide (k < l1.length) = false := decide_eq_false hlt
   have c1 : decide ((k : Int) < (l1.length : Int)) = false := decide_eq_false (by omega)
   have e : firstLong l1 0 = -1 := by
    have h := HF.out
    rw [List.drop_eq_nil_of_le (by omega)] at h
    exact h.symm
   have HE := Aside0.mk e
   clear hlt e
   go_wp2
   go_ret
   exact ⟨by first | (rw [HE.out]; done) | (rw [HE.out]; rfl), by repeat (first | exact Drawn0.refl _ | apply Drawn0.step)⟩
set_option maxHeartbeats 4000000 in
theorem long_contains (A1 : Option Addr) (c1 : Nat) (l1 : List (List Int)) (w : World) (hr1 : Kd.C (Kd.slice 5 (Kd.int .u8)) w A1 l1.length l1) :
  Calls Try.prog 101 #[.slice A1 l1.length c1, .func (.func 102) #[] #[]] w fun e w' => e = .returned (.bool (!(l1.all fun b => decide (b.length < 4000)))) ∧ Drawn0 w w' := by
 have HI := Aside0.mk (long_index A1 c1 l1 w hr1)
 have HF := Aside0.mk (firstLong_all l1 0)
 clear hr1
 go_enter Try.func101, Try.ntmps101
 go_wp2_with (go_at_call 120; refine HI.out.mono ?_; rintro e w' ⟨rfl, ⟨nd, rfl⟩⟩)
 go_ret
 exact ⟨by first | (rw [← HF.out]; done) | (rw [← HF.out]; rfl), by repeat (first | exact Drawn0.refl _ | apply Drawn0.step)⟩
theorem lbitsOk_eq (a0 : Int) : impl_bitsOk.f a0 = some (decide (2 ≤ a0 ∧ a0 ≤ 60)) := by
 unfold impl_bitsOk.f impl_in.f
 by_cases h : a0 ≥ 2 <;> simp [h]
theorem lin_eq (a b c : Int) : impl_in.f a b c = some (decide (b ≤ a ∧ a ≤ c)) := by
 unfold impl_in.f
 by_cases h : a ≥ b <;> simp [h]
set_option maxHeartbeats 4000000 in
set_option maxRecDepth 100000 in
theorem impl_leavesOk.calls (a0 : Int) (A1 : Option Addr) (c1 : Nat) (l1 : List (List Int)) (r : Bool) (w : World) (hr1 : Kd.C (Kd.slice 5 (Kd.int .u8)) w A1 l1.length l1) (hc1 : l1.length ≤ c1) (h : impl_leavesOk.f a0 l1 = some r) :
  Calls Try.prog 63 #[.int .i64 a0, .slice A1 l1.length c1] w fun e w' => e = .returned (.bool r) ∧ Drawn0 w w' := by
 have hr := Option.some.inj h
 have HL := Aside0.mk (long_contains A1 c1 l1 w hr1)
 clear h hr1
 generalize (l1.all fun b => decide (b.length < 4000)) = q at hr HL
 by_cases h1 : 2 ≤ a0 ∧ a0 ≤ 60
 ·have e1 : impl_bitsOk.f a0 = some true := by rw [lbitsOk_eq]; simp [h1]
  have E1 := Aside0.mk e1
  by_cases h2 : 1 ≤ l1.length ∧ l1.length ≤ 16
  ·have e2 : impl_in.f (l1.length : Int) 1 16 = some true := by rw [lin_eq]; simp; omega
   have E2 := Aside0.mk e2
   have er : r = q := by rw [← hr]; simp [h1, h2]
   subst er
   clear hr e1 e2 h1 h2
   go_enter Try.func63, Try.ntmps63
   go_wp2_with (first | (go_at_call 101; refine HL.out.mono ?_; rintro e w' ⟨rfl, ⟨nd, rfl⟩⟩) | (go_at_call 103; refine (impl_bitsOk.calls a0 true _ E1.out).mono ?_; rintro e w' ⟨rfl, ⟨nd, rfl⟩⟩) | (go_at_call 65; refine (impl_in.calls (l1.length : Int) 1 16 true _ E2.out).mono ?_; rintro e w' ⟨rfl, ⟨nd, rfl⟩⟩))
   go_ret
   exact ⟨by first | rfl | simp, by repeat (first | exact Drawn0.refl _ | apply Drawn0.step)⟩
  ·have e2 : impl_in.f (l1.length : Int) 1 16 = some false := by rw [lin_eq]; simp; omega
   have E2 := Aside0.mk e2
   have er : r = false := by rw [← hr]; simp only [Bool.and_eq_false_imp, decide_eq_true_eq]; intro h; exact absurd h.2 h2
   subst er
   clear hr e1 e2 h1 h2
   go_enter Try.func63, Try.ntmps63
   go_wp2_with (first | (go_at_call 101; refine HL.out.mono ?_; rintro e w' ⟨rfl, ⟨nd, rfl⟩⟩) | (go_at_call 103; refine (impl_bitsOk.calls a0 true _ E1.out).mono ?_; rintro e w' ⟨rfl, ⟨nd, rfl⟩⟩) | (go_at_call 65; refine (impl_in.calls (l1.length : Int) 1 16 false _ E2.out).mono ?_; rintro e w' ⟨rfl, ⟨nd, rfl⟩⟩))
   go_ret
   exact ⟨by first | rfl | simp, by repeat (first | exact Drawn0.refl _ | apply Drawn0.step)⟩
 ·have e1 : impl_bitsOk.f a0 = some false := by rw [lbitsOk_eq]; simp; omega
  have E1 := Aside0.mk e1
  have er : r = false := by rw [← hr]; simp only [Bool.and_eq_false_imp, decide_eq_true_eq]; intro h; exact absurd h.1 h1
  subst er
  clear hr e1 h1
  go_enter Try.func63, Try.ntmps63
  go_wp2_with (first | (go_at_call 101; refine HL.out.mono ?_; rintro e w' ⟨rfl, ⟨nd, rfl⟩⟩) | (go_at_call 103; refine (impl_bitsOk.calls a0 false _ E1.out).mono ?_; rintro e w' ⟨rfl, ⟨nd, rfl⟩⟩))
  go_ret
  exact ⟨by first | rfl | simp, by repeat (first | exact Drawn0.refl _ | apply Drawn0.step)⟩

/-! ### impl_leafInput: function 70 -/
def impl_leafInput.f (l0 : List Int) : Option (List Int) := (some (([0] : List Int) : List Int)).bind fun y251 => (if y251.length + l0.length < 140737488355328 then (some (y251 ++ l0)) else (none))
set_option maxHeartbeats 8000000 in
set_option maxRecDepth 100000 in
theorem impl_leafInput.calls (A0 : Option Addr) (c0 : Nat) (l0 : List Int) (r : List Int) (w : World) (hr0 : Kd.C (Kd.int .u8) w A0 l0.length l0) (hc0 : l0.length ≤ c0) (h : impl_leafInput.f l0 = some r) :
  Calls Try.prog 70 #[.slice A0 l0.length c0] w fun e w' => ∃ v0_ : Value, e = .returned (v0_) ∧ Kd.R (Kd.int .u8) 5 w' w.heap.size (fun _ => True) v0_ r ∧ Below w.heap.size w w' := by
 have HR0 := Aside0.mk hr0
 have HC0 := Aside0.mk hc0
 clear hr0 hc0
 have HB := Aside0.mk (Below.refl w.heap.size w)
 have H : ((some (([0] : List Int) : List Int)).bind fun y251 => (if y251.length + l0.length < 140737488355328 then (some (y251 ++ l0)) else (none))) = some r := h
 clear h
 obtain ⟨y251, hy251⟩ : ∃ y_ : List Int, y_ = (([0] : List Int)) := ⟨_, rfl⟩
 replace H : (if y251.length + l0.length < 140737488355328 then (some (y251 ++ l0)) else (none)) = some r := by first | (rw [hy251]; exact H) | exact H
 have Ny251 := Aside0.mk hy251
 clear hy251
 by_cases c2 : y251.length + l0.length < 140737488355328
 ·rw [if_pos c2] at H
  have LMc2 := Aside0.mk c2
  clear c2
  obtain ⟨y254, hy254⟩ : ∃ y_ : List Int, y_ = (y251 ++ l0) := ⟨_, rfl⟩
  replace H : (some y254) = some r := by first | (rw [hy254]; exact H) | exact H
  have Ny254 := Aside0.mk hy254
  clear hy254
  obtain rfl := Option.some.inj H
  go_enter Try.func70, Try.ntmps70
  go_wp2_with (first | ((with_reducible refine gate_dst (N := 3) rfl ?_); refine Kd.R_lit (Kd.int .u8) _ 5 ?hg (N := 3) ?hd (xs := ([0] : List Int)) (inner := [.int .u8 0]) (ok := fun _ => True) (okp := fun _ => True) ?hr ?hp (fun _ hk => hk) trivial (Below.refl _ _) (Nat.le_refl _) (by simp) ?_; (case hd => rfl); (case hg => rfl); (case hr => first | (go_simp; done) | (go_simp; rfl)); (case hp => exact (Reps.one (show Kd.M (Kd.int .u8) _ _ _ 0 [.int .u8 0] from rfl) (Reps.none _ _))); intro v252 w3 ho4 hb hg_ hnew_; clear hg_ hnew_; (first | rw [← Ny251.out] at ho4 | (simp only [Int.reduceToNat] at ho4; rw [← Ny251.out] at ho4)); have HO253 := Aside0.mk (Kd.R_lower ho4 (below_size (bt))); replace HB := Aside0.mk (below_step (bt) hb); clear hb ho4) | ((with_reducible refine gate_builtin (b := .append) (xs := #[.tmp 3, .tmp 4]) rfl ?_); at_builtin; refine Kd.R_append_rows (Kd.int .u8) (w0 := w) w.heap.size rfl (.tmp 3) (.tmp 4) 22 5 (.int .u8 0) 1 rfl Try.underlying22 info5 rfl (by decide) (by omega) v252 y251 l0 _ _ _ (fun _ => True) (fun _ => False) rfl rfl ?aO ?aR (fun _ _ h => h) (fun _ h => h.elim) ?aF ?aB ?aS ?aL ?_; (case aR => exact cv ((Kd.C_below HR0.out HB.out))); (case aB => exact (bt)); (case aF => exact (fun _ _ => trivial)); (case aO => exact (mv HO253.out)); (case aS => exact (below_size (bt))); (case aL => have := LMc2.out; omega); intro v255 w5 ho hb hg hat; rw [← Ny254.out] at ho; replace HB := Aside0.mk (hb); have HO256 := Aside0.mk (ho); clear HO253; clear ho hb hg hat))
  go_ret
  exact ⟨_, by first | rfl | (simp [errW_none, errW_some] <;> rfl) | (simp [*, errW_none, errW_some] <;> rfl), by (with_reducible repeat (first | apply Kd.R_alloc | apply Kd.R_drewN | apply Kd.R_drew)); exact HO256.out, bt⟩
 ·rw [if_neg c2] at H
  exact absurd H (by simp)

/-! ### slices_Concat_byte_byte: function 106 -/
theorem rowAt8 {w : World} {A : Option Addr} {n : Nat} {xs : List (List Int)} (h : Kd.C (Kd.slice 5 (Kd.int .u8)) w A n xs) (k : Nat) (hk : k < n) :
  ∃ ad A0 c0, A = some ad ∧ w.cell? (ad.add k) = some (.slice A0 (xs.getD k []).length c0) ∧ (xs.getD k []).length ≤ c0 ∧ (Kd.int .u8).C w A0 (xs.getD k []).length (xs.getD k []) := by
 obtain ⟨ad, c, e, hl, hK, hc⟩ := ReadsRow.get_ h ([] : List Int) (k : Int) (Int.natCast_nonneg k) (by omega)
 obtain ⟨A0, c0, rfl, h2, h3⟩ := hK
 rw [Int.toNat_natCast] at hc h2 h3
 have h4 := hc 0 _ rfl
 refine ⟨ad, A0, c0, e, ?_, h2, h3⟩
 have e1 : k * (Kd.slice 5 (Kd.int .u8)).sz + 0 = k := Nat.mul_one k
 rw [e1] at h4
 exact h4
set_option maxHeartbeats 4000000 in
set_option maxRecDepth 100000 in
theorem grow_nil (n : Nat) (w : World) (hl : n < 140737488355328) :
  Calls Try.prog 123 #[.slice none 0 0, .int .i64 n] w fun e w' => ∃ v0_ : Value, e = .returned (v0_) ∧ Kd.R (Kd.int .u8) 5 w' w.heap.size (fun _ => True) v0_ [] ∧ Below w.heap.size w w' := by
 have HB := Aside0.mk (Below.refl w.heap.size w)
 have LM := Aside0.mk hl
 by_cases h0 : 0 < n
 ·have c0 : decide (0 < (n : Int)) = true := decide_eq_true (by omega)
  have c1 : decide ((n : Int) < 0) = false := decide_eq_false (by omega)
  have c2 : (n : Int) - 0 = n := Int.sub_zero _
  have p0 : (0 : Int) ≤ (n : Int) := by omega
  have b2 : (n : Int) ≤ 9223372036854775806 := by omega
  have w0_ : wrap64 (n : Int) = (n : Int) := by unfold wrap64; omega
  have c4 : decide (0 < wrap64 (n : Int)) = true := by rw [w0_]; exact c0
  have p4 : (0 : Int) ≤ wrap64 (n : Int) := by rw [w0_]; exact p0
  have q4 : (wrap64 (n : Int)).toNat = n := by rw [w0_]; rfl
  have HO := Aside0.mk (Kd.R_nil (Kd.int .u8) 5 w w.heap.size (fun _ => True))
  clear h0 hl
  go_enter Try.func123, Try.ntmps123
  go_wp2_with ((with_reducible refine gate_builtin (b := .append) (xs := #[.tmp 20, .tmp 21]) rfl ?_); at_builtin; refine Kd.R_append_zeros (Kd.int .u8) (w0 := w) w.heap.size rfl (.tmp 20) (.tmp 21) 22 3 5 (.int .u8 0) 1 rfl Try.underlying22 Try.underlying3 info5 rfl (by decide) (by omega) (.slice none 0 0) [] 0 (n : Int) (fun _ => True) rfl rfl rfl ?aF ?aO p0 ?aB ?aS ?aL ?_; (case aB => exact HB.out); (case aF => exact (fun _ _ => trivial)); (case aO => exact HO.out); (case aS => exact Nat.le_refl _); (case aL => have := LM.out; simp; omega); intro v22 w5 ho hb hg hat; obtain ⟨A22, c22, rfl⟩ := Kd.R_slice ho; have n1_ := Aside0.mk (Kd.R_take ho (Nat.zero_le _)); have n0_ := Aside0.mk hb; clear HB; have HB := n0_; have HO22 := n1_; clear n0_ n1_; clear ho hb hg hat)
  ·go_ret
   exact ⟨_, rfl, HO22.out, HB.out⟩
  ·exfalso; have := of_decide_eq_true c0; omega
 ·obtain rfl : n = 0 := by omega
  clear h0 hl
  go_enter Try.func123, Try.ntmps123
  go_wp2
  go_ret
  exact ⟨_, rfl, Kd.R_nil _ _ _ _ _, Below.refl _ _⟩
def slices_Concat_byte_byte.f (l0 : List (List Int)) : Option (List Int) := if l0.flatten.length < 140737488355328 then some l0.flatten else none
theorem flat_take (l : List (List Int)) (k : Nat) (hk : k < l.length) : (l.take (k + 1)).flatten = (l.take k).flatten ++ l.getD k [] := by
 rw [List.take_succ_eq_append_getElem hk, List.flatten_append, List.getD_eq_getElem?_getD, List.getElem?_eq_getElem hk]
 simp
theorem flat_take_le (l : List (List Int)) (k : Nat) : (l.take k).flatten.length ≤ l.flatten.length := by
 have h : l.flatten = (l.take k).flatten ++ (l.drop k).flatten := by rw [← List.flatten_append, List.take_append_drop]
 have := congrArg List.length h
 rw [List.length_append] at this
 omega
set_option maxHeartbeats 8000000 in
set_option maxRecDepth 100000 in
theorem slices_Concat_byte_byte.calls (A0 : Option Addr) (c0 : Nat) (l0 : List (List Int)) (r : List Int) (w : World) (hr0 : Kd.C (Kd.slice 5 (Kd.int .u8)) w A0 l0.length l0) (hc0 : l0.length ≤ c0) (h : slices_Concat_byte_byte.f l0 = some r) :
  Calls Try.prog 106 #[.slice A0 l0.length c0] w fun e w' => ∃ v0_ : Value, e = .returned (v0_) ∧ Kd.R (Kd.int .u8) 5 w' w.heap.size (fun _ => True) v0_ r ∧ Below w.heap.size w w' := by
 unfold slices_Concat_byte_byte.f at h
 by_cases hl : l0.flatten.length < 140737488355328
 ·rw [if_pos hl] at h
  obtain rfl := Option.some.inj h
  have HR := Aside0.mk hr0
  have LM := Aside0.mk hl
  have HM : Aside0 (l0.length ≤ 9223372036854775807) := ⟨hr0.2.1⟩
  have HB := Aside0.mk (Below.refl w.heap.size w)
  clear hr0 h hl
  go_enter Try.func106, Try.ntmps106
  go_wp2
  go_loopw [3, 11] (fun s i wr => ∃ k : Nat, i = .int .i64 k ∧ s = .int .i64 ((l0.take k).flatten.length : Int) ∧ Aside0 (k ≤ l0.length) ∧ Drawn0 w wr) (fun _ i _ => l0.length - (intOf i).toNat)
  case atStart => exact ⟨0, rfl, rfl, ⟨Nat.zero_le _⟩, Drawn0.refl _⟩
  case round =>
   obtain ⟨k, rfl, rfl, HK, ⟨m, rfl⟩⟩ := hrel
   by_cases hlt : k < l0.length
   ·have d0 : decide (k < l0.length) = true := decide_eq_true hlt
    have d1 : decide ((k : Int) < (l0.length : Int)) = true := decide_eq_true (by omega)
    have p1 : 0 ≤ (k : Int) := Int.natCast_nonneg k
    have q1 : (k : Int) < (l0.length : Int) := by omega
    obtain ⟨ad, A5, c5, e1, hx, hle, hC0⟩ := rowAt8 HR.out k hlt
    cases e1
    have HL := Aside0.mk hlt
    have HT : Aside0 (((l0.take (k + 1)).flatten.length : Int) = ((l0.take k).flatten.length : Int) + ((l0.getD k []).length : Int)) := ⟨by rw [flat_take l0 k hlt, List.length_append]; rfl⟩
    have h7 : (l0.take (k + 1)).flatten.length ≤ l0.flatten.length := flat_take_le l0 (k + 1)
    have h8 := HT.out
    have hlm := LM.out
    generalize (l0.take k).flatten.length = n0 at h8 HT ⊢
    generalize l0.getD k [] = x at hx h8 HT hC0 hle
    have b0 : (0 : Int) ≤ (n0 : Int) := Int.natCast_nonneg _
    have b1 : (0 : Int) ≤ (x.length : Int) := Int.natCast_nonneg _
    have b2 : (n0 : Int) + (x.length : Int) ≤ 9223372036854775806 := by omega
    have b3 : (k : Int) ≤ 9223372036854775806 := by have := HM.out; omega
    have b4 : wrap64 ((n0 : Int) + (x.length : Int)) = (n0 : Int) + (x.length : Int) := by unfold wrap64; omega
    have b5 : decide ((n0 : Int) + (x.length : Int) < 0) = false := decide_eq_false (by omega)
    have b6 : ((n0 : Int) + (x.length : Int) < 0) = False := eq_false (by omega)
    clear hC0 hle h7 h8 hlm hlt
    go_wp2
    go_roundw
    case rel => exact ⟨k + 1, by go_num, by rw [HT.out], ⟨HL.out⟩, by repeat (first | exact Drawn0.refl _ | apply Drawn0.step)⟩
    case measure => have := HL.out; simp [intOf]; omega
   ·have d0 : decide (k < l0.length) = false := decide_eq_false hlt
    have d1 : decide ((k : Int) < (l0.length : Int)) = false := decide_eq_false (by omega)
    have hk : k = l0.length := by have := HK.out; omega
    subst hk
    have et : l0.take l0.length = l0 := List.take_length
    rw [et]
    have LM2 := LM.out
    generalize l0.flatten.length = N at LM2 ⊢
    have b0 : (0 : Int) ≤ (N : Int) := Int.natCast_nonneg _
    have b1 : (N : Int) ≤ 140737488355327 := by omega
    have HG := Aside0.mk (grow_nil N (w.drewN m) LM2)
    clear LM2
    clear hlt et
    go_wp2_with fail
    refine HG.out.mono ?_
    rintro e w1 ⟨v, rfl, ho, hb⟩
    have hb0 : Below w.heap.size w (w.drewN m) := pw_below_drewN HB.out m
    have HB1 : Aside0 (Below w.heap.size w w1) := ⟨below_step hb0 hb⟩
    have HO1 : Aside0 (Kd.R (Kd.int .u8) 5 w1 w.heap.size (fun _ => True) v []) := ⟨Kd.R_lower ho (below_size hb0)⟩
    clear hb0
    clear ho hb HG HB b0 b1
    go_wp2
    go_loopw [6, 27] (fun v i wr => ∃ k : Nat, i = .int .i64 k ∧ Aside0 (k ≤ l0.length) ∧ Aside0 (Below w.heap.size w wr) ∧ Aside0 (Kd.R (Kd.int .u8) 5 wr w.heap.size (fun _ => True) v (l0.take k).flatten)) (fun _ i _ => l0.length - (intOf i).toNat)
    case atStart => exact ⟨0, rfl, ⟨Nat.zero_le _⟩, HB1, HO1⟩
    case round =>
     obtain ⟨k, rfl, HK2, HB, HO⟩ := hrel
     by_cases hlt : k < l0.length
     ·have d0 : decide (k < l0.length) = true := decide_eq_true hlt
      have d1 : decide ((k : Int) < (l0.length : Int)) = true := decide_eq_true (by omega)
      have p1 : 0 ≤ (k : Int) := Int.natCast_nonneg k
      have q1 : (k : Int) < (l0.length : Int) := by omega
      have hrow := rowAt8 (Kd.C_below HR.out HB.out) k hlt
      have HT : Aside0 ((l0.take (k + 1)).flatten = (l0.take k).flatten ++ l0.getD k []) := ⟨flat_take l0 k hlt⟩
      have h7 : (l0.take (k + 1)).flatten.length ≤ l0.flatten.length := flat_take_le l0 (k + 1)
      rw [HT.out, List.length_append] at h7
      have LS : Aside0 ((l0.take k).flatten.length + (l0.getD k []).length ≤ 140737488355328) := ⟨by have := LM.out; omega⟩
      have HL := Aside0.mk hlt
      clear h7
      generalize (l0.take k).flatten = y0 at HT HO LS ⊢
      generalize l0.getD k [] = x at hrow HT LS
      obtain ⟨ad, A5, c5, e1, hx, hle, hC0⟩ := hrow
      have HCC := Aside0.mk hC0
      have b3 : (k : Int) ≤ 9223372036854775806 := by have := HM.out; omega
      cases e1
      clear hC0 hle hlt
      go_wp2_with ((with_reducible refine gate_builtin (b := .append) (xs := #[.tmp 31, .tmp 32]) rfl ?_); at_builtin; refine Kd.R_append_rows (Kd.int .u8) (w0 := w) w.heap.size rfl (.tmp 31) (.tmp 32) 22 5 (.int .u8 0) 1 rfl Try.underlying22 info5 rfl (by decide) (by omega) u6 y0 x _ _ _ (fun _ => True) (fun _ => False) rfl rfl ?aO ?aR (fun _ _ h => h) (fun _ h => h.elim) ?aF ?aB ?aS ?aL ?_; (case aR => exact HCC.out); (case aB => exact HB.out); (case aF => exact (fun _ _ => trivial)); (case aO => exact HO.out); (case aS => exact (below_size HB.out)); (case aL => have := LS.out; omega); intro v33 w5 ho hb hg hat; replace HB := Aside0.mk (hb); have HO33 := Aside0.mk (ho); clear HO; clear ho hb hg hat)
      go_roundw
      case rel => exact ⟨k + 1, by go_num, ⟨HL.out⟩, ⟨HB.out⟩, ⟨by rw [HT.out]; exact HO33.out⟩⟩
      case measure => have := HL.out; simp [intOf]; omega
     ·have e0 : decide (k < l0.length) = false := decide_eq_false hlt
      have e1 : decide ((k : Int) < (l0.length : Int)) = false := decide_eq_false (by omega)
      have hk : k = l0.length := by have := HK2.out; omega
      subst hk
      have HE : Aside0 (l0.take l0.length = l0) := ⟨List.take_length⟩
      clear hlt
      go_wp2
      go_ret
      exact ⟨_, rfl, by have h := HO.out; rw [HE.out] at h; exact h, HB.out⟩
 ·rw [if_neg hl] at h
  cases h

/-! ### impl_high: function 124 -/
def impl_high.l0 : Nat → Int → List Int → Int → Option (List Int)
 | 0, _, _, _ => none
 | k + 1, x0, x5, x6 => if x6 ≥ 0 then (if 0 ≤ x6 then (if x6 < (x5.length : Int) then (impl_high.l0 k (x0 / 256) (x5.set (x6 : Int).toNat ((x0) % 256)) (wrap64 (x6 - 1))) else (none)) else (none)) else (some x5)
def impl_high.f (k : Nat) (a0 : Int) (a1 : Int) : Option (List Int) := if 0 ≤ a1 then (if (a1 : Int).toNat ≤ 281474976710656 then (impl_high.l0 k a0 (List.replicate (a1 : Int).toNat 0) (wrap64 (a1 - 1))) else (none)) else (none)
set_option maxHeartbeats 8000000 in
set_option maxRecDepth 100000 in
theorem impl_high.calls (k : Nat) (a0 : Int) (a1 : Int) (r : List Int) (w : World) (h : impl_high.f k a0 a1 = some r) :
  Calls Try.prog 124 #[.int .i64 a0, .int .i64 a1] w fun e w' => ∃ v0_ : Value, e = .returned (v0_) ∧ Kd.R (Kd.int .u8) 5 w' w.heap.size (fun _ => True) v0_ r ∧ Below w.heap.size w w' := by
 have HB := Aside0.mk (Below.refl w.heap.size w)
 have H : (if 0 ≤ a1 then (if (a1 : Int).toNat ≤ 281474976710656 then (impl_high.l0 k a0 (List.replicate (a1 : Int).toNat 0) (wrap64 (a1 - 1))) else (none)) else (none)) = some r := h
 clear h
 by_cases c3 : 0 ≤ a1
 ·rw [if_pos c3] at H
  have c3b0 := eq_true c3
  have c3b1 : decide (0 ≤ a1) = true := decide_eq_true c3
  clear c3
  by_cases c4 : (a1 : Int).toNat ≤ 281474976710656
  ·rw [if_pos c4] at H
   have c4b0 := eq_true c4
   have c4b1 : decide ((a1 : Int).toNat ≤ 281474976710656) = true := decide_eq_true c4
   clear c4
   obtain ⟨y257, hy257⟩ : ∃ y_ : List Int, y_ = (List.replicate (a1 : Int).toNat 0) := ⟨_, rfl⟩
   replace H : (impl_high.l0 k a0 y257 (wrap64 (a1 - 1))) = some r := by first | (rw [hy257]; exact H) | exact H
   have Ny257 := Aside0.mk hy257
   clear hy257
   have H' := Aside0.mk H
   clear H
   go_enter Try.func124, Try.ntmps124
   go_wp2_with (first | ((with_reducible refine gate_dst (N := 8) rfl ?_); refine Kd.R_make (Kd.int .u8) _ 5 rfl (N := 8) rfl 22 _ _ rfl a1 rfl rfl Try.underlying22 (.int .u8 0) 1 info5 rfl (by decide) (by omega) 0 (ok := fun _ => True) (okp := fun _ => True) rfl (fun _ hk => hk) trivial (of_decide_eq_true asm) (Nat.le_trans (Nat.mul_le_mul_right _ (of_decide_eq_true asm : a1.toNat ≤ 281474976710656)) (by omega)) (Below.refl _ _) (Nat.le_refl _) ?_; intro v258 w5 ho6 hb hg_ hnew_; clear hg_ hnew_; (first | rw [← Ny257.out] at ho6 | (simp only [Int.reduceToNat] at ho6; rw [← Ny257.out] at ho6)); have HO259 := Aside0.mk (Kd.R_lower ho6 (below_size (bt))); replace HB := Aside0.mk (below_step (bt) hb); clear hb ho6))
   go_loopg [0, 6] k (fun kq v0 v6 w' => ∃ (x0_1 : Int) (x5_1 : List Int) (x6_1 : Int), v0 = .int .i64 x0_1 ∧ v6 = .int .i64 x6_1 ∧ Aside0 (impl_high.l0 kq x0_1 x5_1 x6_1 = some r) ∧ Aside0 (kq ≤ k) ∧ Aside0 (Kd.R (Kd.int .u8) 5 w' w.heap.size (fun _ => True) v258 x5_1) ∧ Aside0 (Below w.heap.size w w'))
   case atStart => exact ⟨(a0), (y257), (wrap64 (a1 - 1)), (by first | rfl | (simp; done) | (simp [*]; done)), (by first | rfl | (simp; done) | (simp [*]; done)), H', ⟨Nat.le_refl _⟩, ⟨mv HO259.out⟩, ⟨bt⟩⟩
   case round =>
    clear H'
    try clear c1
    try clear p2
    try clear c3
    try clear c3b0
    try clear c3b1
    try clear c4
    try clear c4b0
    try clear c4b1
    try clear p6
    obtain ⟨x0_1, x5_1, x6_1, rfl, rfl, HA, HK1, HO_5, HB⟩ := hrel
    cases gk with
    | zero => exact absurd HA.out (by simp [impl_high.l0])
    | succ k1 =>
     have H := HA.out
     clear HA
     simp only [impl_high.l0] at H
     by_cases c7 : x6_1 ≥ 0
     ·rw [if_pos c7] at H
      have c7b0 : decide (0 ≤ x6_1) = true := decide_eq_true c7
      clear c7
      by_cases c8 : 0 ≤ x6_1
      ·rw [if_pos c8] at H
       have c8b0 : decide (0 ≤ x6_1) = true := decide_eq_true c8
       clear c8
       by_cases c9 : x6_1 < (x5_1.length : Int)
       ·rw [if_pos c9] at H
        have c9b0 : decide (x6_1 < (x5_1.length : Int)) = true := decide_eq_true c9
        clear c9
        obtain ⟨y260, hy260⟩ : ∃ y_ : List Int, y_ = (x5_1.set (x6_1 : Int).toNat ((x0_1) % 256)) := ⟨_, rfl⟩
        replace H : (impl_high.l0 k1 (x0_1 / 256) y260 (wrap64 (x6_1 - 1))) = some r := by first | (rw [hy260]; exact H) | exact H
        have Ny260 := Aside0.mk hy260
        clear hy260
        have H' := Aside0.mk H
        clear H
        have p10 : 0 ≤ (x6_1 : Int) := of_decide_eq_true asm
        have q10 : (x6_1 : Int) < ((x5_1.length : Int) : Int) := of_decide_eq_true asm
        obtain ⟨go10, co10, eo10, gb10, gl10, cl10, HG10⟩ := Kd.R_form HO_5.out (by omega)
        (first | cases eo10 | (injection eo10 with ea_ en_ ec_; (first | subst ea_ | (injection ea_ with ea_; subst ea_)); subst ec_; clear en_))
        have GB10 := Aside0.mk gb10
        have GG10 := Aside0.mk HG10
        clear gb10 gl10 HG10
        obtain ⟨hx10_0, hf10_0⟩ := Kd.R_celln 0 HO_5.out (x6_1 : Int) p10 q10
        replace p10 := eq_true p10
        replace q10 := eq_true q10
        have HP11 := Kd.R_putg HO_5.out (x6_1 : Int) ((x0_1) % 256)
        go_wp2_with (first | ((with_reducible refine gate_store (t := 5) (p := 19) rfl ?_); refine store_event (t := 5) (p := 19) (v := ?vo_w12) (w1 := (wr.setCell ⟨go10, (x6_1 : Int).toNat, none⟩ (.int .u8 ((x0_1) % 256)))) ?hg ?ho ?hn ?hr ?_; (case ho => rfl); (case hg => rfl); (case hn => rfl); (case hr => first | (go_simp; done) | (go_simp; rfl)); intro w12 hw; have hg : wr.grownBy w12 (some go10) := (by rw [hw]; exact HP11.2); have hp_ : Kd.R (Kd.int .u8) 5 w12 w.heap.size (fun _ => True) (.slice (some ⟨go10, 0, none⟩) x5_1.length co10) y260 := (by rw [hw, Ny260.out]; exact HP11.1); clear HP11; replace HO_5 := Aside0.mk (hp_); replace HB := Aside0.mk ((by rw [hw]; exact below_set (HB.out) GB10.out : Below w.heap.size w w12)); clear hg hw hp_))
        go_roundg k1
        case measure => have := HK1.out; omega
        case rel => exact ⟨(x0_1 / 256), (y260), (wrap64 (x6_1 - 1)), (by first | rfl | (simp; done) | (simp [*]; done)), (by first | rfl | (simp; done) | (simp [*]; done)), H', ⟨by have := HK1.out; omega⟩, ⟨mv HO_5.out⟩, ⟨bt⟩⟩
       ·rw [if_neg c9] at H
        exact absurd H (by simp)
      ·rw [if_neg c8] at H
       exact absurd H (by simp)
     ·rw [if_neg c7] at H
      have c7b0 : decide (0 ≤ x6_1) = false := decide_eq_false c7
      clear c7
      obtain rfl := Option.some.inj H
      go_wp2
      go_ret
      exact ⟨_, by first | rfl | (simp [errW_none, errW_some] <;> rfl) | (simp [*, errW_none, errW_some] <;> rfl), by (with_reducible repeat (first | apply Kd.R_alloc | apply Kd.R_drewN | apply Kd.R_drew)); exact HO_5.out, bt⟩
  ·rw [if_neg c4] at H
   exact absurd H (by simp)
 ·rw [if_neg c3] at H
  exact absurd H (by simp)

/-! ### impl_Eight: function 107 -/
def impl_Eight.f (k : Nat) (a0 : Int) : Option (List Int) := if a0 < 0 then (some ([] : List Int)) else ((impl_high.f k a0 8).bind fun t261 => (some t261))
set_option maxHeartbeats 8000000 in
set_option maxRecDepth 100000 in
theorem impl_Eight.calls (k : Nat) (a0 : Int) (r : List Int) (w : World) (h : impl_Eight.f k a0 = some r) :
  Calls Try.prog 107 #[.int .i64 a0] w fun e w' => ∃ v0_ : Value, e = .returned (v0_) ∧ Kd.R (Kd.int .u8) 5 w' w.heap.size (fun _ => True) v0_ r ∧ Below w.heap.size w w' := by
 have HB := Aside0.mk (Below.refl w.heap.size w)
 have H : (if a0 < 0 then (some ([] : List Int)) else ((impl_high.f k a0 8).bind fun t261 => (some t261))) = some r := h
 clear h
 by_cases c2 : a0 < 0
 ·rw [if_pos c2] at H
  have c2b0 : decide (a0 < 0) = true := decide_eq_true c2
  clear c2
  obtain rfl := Option.some.inj H
  go_enter Try.func107, Try.ntmps107
  go_wp2
  go_ret
  exact ⟨_, by first | rfl | (simp [errW_none, errW_some] <;> rfl) | (simp [*, errW_none, errW_some] <;> rfl), by first | exact Kd.R_nil _ _ _ _ _ | exact Kd.N_nil _ _ _ _ _ | exact Kd.V_nil _ _ _ _ _ | exact Kd.Q_nil _ _ _ _ _ | exact Kd.S_nil _ _ _ _ _, bt⟩
 ·rw [if_neg c2] at H
  have c2b0 : decide (a0 < 0) = false := decide_eq_false c2
  clear c2
  replace H := Option.bind_eq_some_iff.mp H
  obtain ⟨t261, A30, H⟩ := H
  (try dsimp -simprocs only at H)
  have A3 := Aside0.mk A30
  clear A30
  obtain rfl := Option.some.inj H
  go_enter Try.func107, Try.ntmps107
  go_wp2_with (first | ((with_reducible refine gate_callee (f := 124) rfl ?_); refine goesL_ (some 6) rfl rfl Try.func124 (by kernel_rfl) rfl #[.int .i64 a0, .int .i64 8] rfl av ?_; (with_reducible refine (impl_high.calls k a0 8 t261 _ A3.out).mono ?_); rintro e w4 ⟨v262, rfl, ho0, hb⟩; refine ⟨_, rfl, ?_⟩; have HO263 := Aside0.mk (Kd.R_lower ho0 (below_size (bt))); replace HB := Aside0.mk (below_step (bt) hb); (try clear hb); (try clear hb2); (try clear hk); (try clear hi); (try clear ho0)))
  go_ret
  exact ⟨_, by first | rfl | (simp [errW_none, errW_some] <;> rfl) | (simp [*, errW_none, errW_some] <;> rfl), by (with_reducible repeat (first | apply Kd.R_alloc | apply Kd.R_drewN | apply Kd.R_drew)); exact HO263.out, bt⟩

/-! ### impl_nodeInput: function 72 -/
def impl_nodeInput.f (k : Nat) (a0 : Int) (a1 : Int) : Option (List Int) := (impl_Eight.f k a0).bind fun t267 => ((impl_Eight.f k a1).bind fun t270 => ((slices_Concat_byte_byte.f (([(([1] : List Int)), t267, t270] : List (List Int)))).bind fun t276 => (some t276)))
set_option maxHeartbeats 8000000 in
set_option maxRecDepth 100000 in
theorem impl_nodeInput.calls (k : Nat) (a0 : Int) (a1 : Int) (r : List Int) (w : World) (h : impl_nodeInput.f k a0 a1 = some r) :
  Calls Try.prog 72 #[.int .i64 a0, .int .i64 a1] w fun e w' => ∃ v0_ : Value, e = .returned (v0_) ∧ Kd.R (Kd.int .u8) 5 w' w.heap.size (fun _ => True) v0_ r ∧ Below w.heap.size w w' := by
 have HB := Aside0.mk (Below.refl w.heap.size w)
 have H : ((impl_Eight.f k a0).bind fun t267 => ((impl_Eight.f k a1).bind fun t270 => ((slices_Concat_byte_byte.f (([(([1] : List Int)), t267, t270] : List (List Int)))).bind fun t276 => (some t276)))) = some r := h
 clear h
 obtain ⟨y264, hy264⟩ : ∃ y_ : List Int, y_ = (([1] : List Int)) := ⟨_, rfl⟩
 replace H : ((impl_Eight.f k a0).bind fun t267 => ((impl_Eight.f k a1).bind fun t270 => ((slices_Concat_byte_byte.f (([y264, t267, t270] : List (List Int)))).bind fun t276 => (some t276)))) = some r := by first | (rw [hy264]; exact H) | exact H
 have Ny264 := Aside0.mk hy264
 clear hy264
 replace H := Option.bind_eq_some_iff.mp H
 obtain ⟨t267, A30, H⟩ := H
 (try dsimp -simprocs only at H)
 have A3 := Aside0.mk A30
 clear A30
 replace H := Option.bind_eq_some_iff.mp H
 obtain ⟨t270, A40, H⟩ := H
 (try dsimp -simprocs only at H)
 have A4 := Aside0.mk A40
 clear A40
 obtain ⟨y273, hy273⟩ : ∃ y_ : List (List Int), y_ = (([y264, t267, t270] : List (List Int))) := ⟨_, rfl⟩
 replace H : ((slices_Concat_byte_byte.f y273).bind fun t276 => (some t276)) = some r := by first | (rw [hy273]; exact H) | exact H
 have Ny273 := Aside0.mk hy273
 clear hy273
 replace H := Option.bind_eq_some_iff.mp H
 obtain ⟨t276, A50, H⟩ := H
 (try dsimp -simprocs only at H)
 have A5 := Aside0.mk A50
 clear A50
 obtain rfl := Option.some.inj H
 go_enter Try.func72, Try.ntmps72
 go_wp2_with (first | ((with_reducible refine gate_dst (N := 5) rfl ?_); refine Kd.R_lit (Kd.int .u8) _ 5 ?hg (N := 5) ?hd (xs := ([1] : List Int)) (inner := [.int .u8 1]) (ok := fun _ => True) (okp := fun _ => True) ?hr ?hp (fun _ hk => hk) trivial (Below.refl _ _) (Nat.le_refl _) (by simp) ?_; (case hd => rfl); (case hg => rfl); (case hr => first | (go_simp; done) | (go_simp; rfl)); (case hp => exact (Reps.one (show Kd.M (Kd.int .u8) _ _ _ 1 [.int .u8 1] from rfl) (Reps.none _ _))); intro v265 w6 ho7 hb hg_ hnew_; clear hg_ hnew_; (first | rw [← Ny264.out] at ho7 | (simp only [Int.reduceToNat] at ho7; rw [← Ny264.out] at ho7)); have HO266 := Aside0.mk (Kd.R_lower ho7 (below_size (bt))); replace HB := Aside0.mk (below_step (bt) hb); clear hb ho7) | ((with_reducible refine gate_callee (f := 107) rfl ?_); refine goesL_ (some 7) rfl rfl Try.func107 (by kernel_rfl) rfl #[.int .i64 a0] rfl av ?_; (with_reducible refine (impl_Eight.calls k a0 t267 _ A3.out).mono ?_); rintro e w8 ⟨v268, rfl, ho0, hb⟩; refine ⟨_, rfl, ?_⟩; have HO269 := Aside0.mk (Kd.R_lower (Kd.R_new' ho0 (Kd.R_lt (mv HO266.out))) (below_size (bt))); replace HO266 := Aside0.mk (Kd.R_elder' (mv HO266.out) (Kd.R_base ho0) hb); replace HB := Aside0.mk (below_step (bt) hb); (try clear hb); (try clear hb2); (try clear hk); (try clear hi); (try clear ho0)) | ((with_reducible refine gate_callee (f := 107) rfl ?_); refine goesL_ (some 9) rfl rfl Try.func107 (by kernel_rfl) rfl #[.int .i64 a1] rfl av ?_; (with_reducible refine (impl_Eight.calls k a1 t270 _ A4.out).mono ?_); rintro e w9 ⟨v271, rfl, ho0, hb⟩; refine ⟨_, rfl, ?_⟩; have HO272 := Aside0.mk (Kd.R_lower (Kd.R_new' (Kd.R_new' ho0 (Kd.R_lt (mv HO266.out))) (Kd.R_lt (mv HO269.out))) (below_size (bt))); replace HO266 := Aside0.mk (Kd.R_elder' (mv HO266.out) (Kd.R_base ho0) hb); replace HO269 := Aside0.mk (Kd.R_elder' (mv HO269.out) (Kd.R_base ho0) hb); replace HB := Aside0.mk (below_step (bt) hb); (try clear hb); (try clear hb2); (try clear hk); (try clear hi); (try clear ho0); obtain ⟨Ao10, co10, eo10⟩ := Kd.R_slice HO266.out; subst eo10; obtain ⟨Ao11, co11, eo11⟩ := Kd.R_slice HO269.out; subst eo11; obtain ⟨Ao12, co12, eo12⟩ := Kd.R_slice HO272.out; subst eo12) | ((with_reducible refine gate_dst (N := 10) rfl ?_); refine Kd.N_lit (Kd.slice 5 (Kd.int .u8)) _ 22 ?hg (N' := 10) ?hd (xs := ([y264, t267, t270] : List (List Int))) (inner := [.slice Ao10 y264.length co10, .slice Ao11 t267.length co11, .slice Ao12 t270.length co12]) (ok := (fun _ => True)) (okp := (fun _ => True)) ?hr ?hp (fun _ hk => hk) ((show ∀ k_, w9.heap.size ≤ k_ → (fun _ => True) k_ from fun k_ hk => trivial) _ (Nat.le_refl _)) (Below.refl _ _) (Nat.le_refl _) (by simp) ?_; (case hd => rfl); (case hg => rfl); (case hr => first | (go_simp; done) | (go_simp; rfl)); (case hp => exact (Reps.one (show Kd.FK (Kd.slice 5 (Kd.int .u8)) _ _ y264 [.slice Ao10 y264.length co10] from (Kd.FK_slice_mk (Kd.R_reads' (Kd.R_mono (ok' := (fun _ => True)) (HO266.out) (fun k_ hk => trivial))).2.1 (Kd.R_F (Kd.R_mono (ok' := (fun _ => True)) (HO266.out) (fun k_ hk => trivial))))) (Reps.one (show Kd.FK (Kd.slice 5 (Kd.int .u8)) _ _ t267 [.slice Ao11 t267.length co11] from (Kd.FK_slice_mk (Kd.R_reads' (Kd.R_mono (ok' := (fun _ => True)) (HO269.out) (fun k_ hk => trivial))).2.1 (Kd.R_F (Kd.R_mono (ok' := (fun _ => True)) (HO269.out) (fun k_ hk => trivial))))) (Reps.one (show Kd.FK (Kd.slice 5 (Kd.int .u8)) _ _ t270 [.slice Ao12 t270.length co12] from (Kd.FK_slice_mk (Kd.R_reads' (Kd.R_mono (ok' := (fun _ => True)) (HO272.out) (fun k_ hk => trivial))).2.1 (Kd.R_F (Kd.R_mono (ok' := (fun _ => True)) (HO272.out) (fun k_ hk => trivial))))) (Reps.none _ _))))); intro v274 w13 ho14 hb hg_ hnew_; clear hg_ hnew_; (first | rw [← Ny273.out] at ho14 | (simp only [Int.reduceToNat] at ho14; rw [← Ny273.out] at ho14)); have HO275 := Aside0.mk (Kd.N_lower ho14 (below_size (bt))); replace HB := Aside0.mk (below_step (bt) hb); clear HO266 HO269 HO272; clear hb ho14; obtain ⟨Ao15, co15, eo15⟩ := Kd.N_slice HO275.out; subst eo15) | ((with_reducible refine gate_callee (f := 106) rfl ?_); refine goesL_ (some 11) rfl rfl Try.func106 (by kernel_rfl) rfl #[.slice Ao15 y273.length co15] rfl av ?_; (with_reducible refine (slices_Concat_byte_byte.calls _ _ y273 t276 _ ?side1 ?side2 A5.out).mono ?_); (case side1 => exact cv ((Kd.N_reads' HO275.out).2.2)); (case side2 => exact (Kd.N_reads' HO275.out).2.1); rintro e w16 ⟨v277, rfl, ho0, hb⟩; refine ⟨_, rfl, ?_⟩; replace HO275 := Aside0.mk (Kd.N_elder' (mv HO275.out) (Kd.R_base ho0) hb); have HO278 := Aside0.mk (Kd.R_lower ho0 (below_size (bt))); replace HB := Aside0.mk (below_step (bt) hb); (try clear hb); (try clear hb2); (try clear hk); (try clear hi); (try clear ho0)))
 go_ret
 exact ⟨_, by first | rfl | (simp [errW_none, errW_some] <;> rfl) | (simp [*, errW_none, errW_some] <;> rfl), by (with_reducible repeat (first | apply Kd.R_alloc | apply Kd.R_drewN | apply Kd.R_drew)); exact HO278.out, bt⟩

end Go.Proofs.Ytaacidhgnappdaa.PFnExactManyProven
