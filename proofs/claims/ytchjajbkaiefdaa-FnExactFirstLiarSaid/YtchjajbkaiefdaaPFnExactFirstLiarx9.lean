-- Written by a program of this workplace (wip/mp.py) out of the translation.
import Derived.Test.YtchjajbkaiefdaaPFnExactFirstLiarx0
import Derived.Test.YtchjajbkaiefdaaPFnExactFirstLiarx8
namespace Go.Proofs.Ytchjajbkaiefdaa.PFnExactFirstLiar
open Go.RowKit Go.Proofs.YtchjajbkaiefdaaW.PrintWords Go.Proofs.YtchjajbkaiefdaaW.PrintLast Go.Proofs.YtchjajbkaiefdaaW.PrintMore Go.Proofs.Ytchjajbkaiefdaa.Slim
attribute [local go_sem] max2_int min2_int max_two min_two max_three min_three max_four min_four   -- for this text's walks alone
set_option linter.unusedVariables false
set_option linter.unusedSimpArgs false

/-! ### impl_Squeeze: function 104 -/
def impl_Squeeze.f (a0 : Int) (l1 : List Int) (a2 : Int) : Option (List Int × Bool) :=
 if 2 ≤ a0 ∧ a0 ≤ 60 then if l1.length ≤ 4000 then if 1 ≤ a2 ∧ a2 ≤ 40 then some (Dig.squeeze a0 a2.toNat (Dig.rnds 6 (Dig.taken l1)), true) else some ([], false) else some ([], false) else some ([], false)
theorem bitsOk_eq (a0 : Int) : impl_bitsOk.f a0 = some (decide (2 ≤ a0 ∧ a0 ≤ 60)) := by
 unfold impl_bitsOk.f impl_in.f
 by_cases h : a0 ≥ 2 <;> simp [h]
theorem in_eq (a b c : Int) : impl_in.f a b c = some (decide (b ≤ a ∧ a ≤ c)) := by
 unfold impl_in.f
 by_cases h : a ≥ b <;> simp [h]
set_option maxHeartbeats 4000000 in
set_option maxRecDepth 100000 in
theorem squeeze_no (a0 : Int) (A1 : Option Addr) (c1 : Nat) (l1 : List Int) (a2 : Int) (w : World) (h : ¬ ((2 ≤ a0 ∧ a0 ≤ 60) ∧ l1.length ≤ 4000 ∧ 1 ≤ a2 ∧ a2 ≤ 40)) :
  Calls Try.prog 104 #[.int .i64 a0, .slice A1 l1.length c1, .int .i64 a2] w fun e w' => e = .returned (.tuple #[.slice none 0 0, .bool false]) ∧ Drawn0 w w' := by
 by_cases h1 : 2 ≤ a0 ∧ a0 ≤ 60
 ·have e1 : impl_bitsOk.f a0 = some true := by rw [bitsOk_eq]; simp [h1]
  have E1 := Aside0.mk e1
  by_cases h2 : l1.length ≤ 4000
  ·have e2 : decide (4000 < l1.length) = false := decide_eq_false (by omega)
   have e2' : decide (4000 < (l1.length : Int)) = false := decide_eq_false (by omega)
   have e3 : impl_in.f a2 1 40 = some false := by rw [in_eq]; simp; omega
   have E3 := Aside0.mk e3
   clear h h1 h2 e1 e3
   go_enter Try.func104, Try.ntmps104
   go_wp2_with (first | (go_at_call 103; refine (impl_bitsOk.calls a0 true _ E1.out).mono ?_; rintro e w' ⟨rfl, ⟨nd, rfl⟩⟩) | (go_at_call 94; refine (impl_in.calls a2 1 40 false _ E3.out).mono ?_; rintro e w' ⟨rfl, ⟨nd, rfl⟩⟩))
   go_ret2
   exact ⟨rfl, by repeat (first | exact Drawn0.refl _ | apply Drawn0.step)⟩
  ·have e2 : decide (4000 < l1.length) = true := decide_eq_true (by omega)
   have e2' : decide (4000 < (l1.length : Int)) = true := decide_eq_true (by omega)
   clear h h1 h2 e1
   go_enter Try.func104, Try.ntmps104
   go_wp2_with (go_at_call 103; refine (impl_bitsOk.calls a0 true _ E1.out).mono ?_; rintro e w' ⟨rfl, ⟨nd, rfl⟩⟩)
   go_ret2
   exact ⟨rfl, by repeat (first | exact Drawn0.refl _ | apply Drawn0.step)⟩
 ·have e1 : impl_bitsOk.f a0 = some false := by rw [bitsOk_eq]; simp; omega
  have E1 := Aside0.mk e1
  clear h h1 e1
  go_enter Try.func104, Try.ntmps104
  go_wp2_with (go_at_call 103; refine (impl_bitsOk.calls a0 false _ E1.out).mono ?_; rintro e w' ⟨rfl, ⟨nd, rfl⟩⟩)
  go_ret2
  exact ⟨rfl, by repeat (first | exact Drawn0.refl _ | apply Drawn0.step)⟩
theorem lit0 (w : World) : Kd.R (Kd.int .i64) 3 (w.alloc (.cells #[] 3)) w.heap.size (fun _ => True) (.slice (some ⟨w.heap.size, 0, none⟩) 0 0) [] := by
 refine ⟨fun _ _ => trivial, [], ?_, Reps.none _ _⟩
 have h2 := World.ownsRow_lit (base := w.heap.size) (e := 3) (size := (Kd.int .i64).sz) w (#[] : Array Value) 0 (Nat.le_refl _) (by simp) (by simp)
 exact h2
theorem keep_own {w0 W W1 : World} {g base : Nat} {a b c : Int} {v : Value} {xs : List Int} (h : Kd.R (Kd.int .i64) 3 W base (fun _ => True) v xs) (hI : IsS127 w0 W g a b c) (hk : KeepBut W W1 g none) : Kd.R (Kd.int .i64) 3 W1 base (fun _ => True) v xs :=
 Kd.R_mono (Kd.R_keep (Kd.R_types h hI.1 (by intro q hq; simp [Kd.int, Kd.scalar] at hq; omega)) hk (fun _ hk => hk.2)) (fun _ _ => trivial)
set_option maxHeartbeats 4000000 in
set_option maxRecDepth 100000 in
theorem squeeze_yes (a0 : Int) (A1 : Option Addr) (c1 : Nat) (l1 : List Int) (a2 : Int) (w : World) (hr1 : Kd.C (Kd.int .u8) w A1 l1.length l1) (hc1 : l1.length ≤ c1) (h1 : 2 ≤ a0 ∧ a0 ≤ 60) (h2 : l1.length ≤ 4000) (h3 : 1 ≤ a2 ∧ a2 ≤ 40) :
  Calls Try.prog 104 #[.int .i64 a0, .slice A1 l1.length c1, .int .i64 a2] w fun e w' => ∃ v0_ : Value, e = .returned (.tuple #[v0_, .bool true]) ∧ Kd.R (Kd.int .i64) 3 w' w.heap.size (fun _ => True) v0_ (Dig.squeeze a0 a2.toNat (Dig.rnds 6 (Dig.taken l1))) ∧ Below w.heap.size w w' := by
 have e1 : impl_bitsOk.f a0 = some true := by rw [bitsOk_eq]; simp [h1]
 have e2 : decide (4000 < l1.length) = false := decide_eq_false (by omega)
 have e2' : decide (4000 < (l1.length : Int)) = false := decide_eq_false (by omega)
 have e3 : impl_in.f a2 1 40 = some true := by rw [in_eq]; simp [h3]
 have E1 := Aside0.mk e1
 have E3 := Aside0.mk e3
 have HC := Aside0.mk hr1
 have H1 := Aside0.mk h1
 have H3 := Aside0.mk h3
 clear e1 e3 hr1 h1 h2 h3
 have hu := Try.underlying127
 go_enter Try.func104, Try.ntmps104
 go_wp2_with (first | (go_at_call 103; refine (impl_bitsOk.calls a0 true _ E1.out).mono ?_; rintro e w' ⟨rfl, ⟨nd2, rfl⟩⟩) | (go_at_call 94; refine (impl_in.calls a2 1 40 true _ E3.out).mono ?_; rintro e w' ⟨rfl, ⟨nd1, rfl⟩⟩))
 have hr0 := Kd.R_alloc (lit0 (w.drewN (nd2 + nd1))) (.cells #[.int .u64 1, .int .u64 2, .int .u64 3] 127)
 have hi0 : IsS127 w (((w.drewN (nd2 + nd1)).alloc (.cells #[] 3)).alloc (.cells #[.int .u64 1, .int .u64 2, .int .u64 3] 127)) (w.heap.size + 1) 1 2 3 :=
  ⟨by have := heap_alloc_new ((w.drewN (nd2 + nd1)).alloc (.cells #[] 3)) (.cells #[.int .u64 1, .int .u64 2, .int .u64 3] 127); simpa using this, Nat.le_succ _⟩
 have hb0 : Below w.heap.size w (((w.drewN (nd2 + nd1)).alloc (.cells #[] 3)).alloc (.cells #[.int .u64 1, .int .u64 2, .int .u64 3] 127)) :=
  below_alloc (below_alloc (pw_below_drewN (Below.refl _ _) _) _) _
 have hc0 := Kd.C_below HC.out hb0
 have HR0 := Aside0.mk hr0
 have HI0 := Aside0.mk hi0
 have HB0 := Aside0.mk hb0
 have HC0 := Aside0.mk hc0
 clear hr0 hi0 hb0 hc0
 obtain ⟨⟨x0, x1, x2⟩, hq⟩ : ∃ x, x = Dig.rnds 6 (Dig.taken l1) := ⟨_, rfl⟩
 have HQ := Aside0.mk hq
 clear hq
 change Calls _ _ _ (((w.drewN (nd2 + nd1)).alloc (.cells #[] 3)).alloc (.cells #[.int .u64 1, .int .u64 2, .int .u64 3] 127)) _
 generalize (((w.drewN (nd2 + nd1)).alloc (.cells #[] 3)).alloc (.cells #[.int .u64 1, .int .u64 2, .int .u64 3] 127)) = W at HR0 HI0 HB0 HC0 ⊢
 refine (impl_state_take.calls (w.heap.size + 1) 1 2 3 A1 c1 l1 x0 x1 x2 w W HI0.out HB0.out HC0.out hc1 (Kd.far_C (0 : Int) HC.out (Nat.le_succ _)) (by rw [HQ.out]; rfl)).mono ?_
 rintro e w3 ⟨rfl, hi, hb, hk⟩
 have HI1 := Aside0.mk hi
 have HB1 := Aside0.mk hb
 have HR1 := Aside0.mk (keep_own HR0.out HI0.out hk)
 clear hi hb hk HR0 HI0 HB0 HC0
 have HN := Aside0.mk (show ∀ i : Nat, (i : Int) < a2 ↔ i < a2.toNat from fun i => by omega)
 have HM := Aside0.mk (show a2.toNat ≤ 40 by have := H3.out; omega)
 go_wp2
 go_loopw [9, 28] (fun v i wr => ∃ (k : Nat) (a b c : Int), i = .int .i64 k ∧ Aside0 (k ≤ a2.toNat) ∧ Aside0 (Dig.rnds (2 * k) (x0, x1, x2) = (a, b, c)) ∧ Aside0 (IsS127 w wr (w.heap.size + 1) a b c) ∧ Aside0 (Below w.heap.size w wr) ∧ Aside0 (Kd.R (Kd.int .i64) 3 wr w.heap.size (fun _ => True) v (Dig.squeeze a0 k (x0, x1, x2)))) (fun _ i _ => a2.toNat - (intOf i).toNat)
 case atStart => exact ⟨0, x0, x1, x2, rfl, ⟨Nat.zero_le _⟩, ⟨rfl⟩, HI1, HB1, HR1⟩
 case round =>
  obtain ⟨k, a, b, c, rfl, HK, HA, HI2, HB2, HR2⟩ := hrel
  by_cases hlt : k < a2.toNat
  ·have c0 : decide ((k : Int) < a2) = true := decide_eq_true ((HN.out k).2 hlt)
   have HL := Aside0.mk hlt
   clear hlt
   go_wp2_with fail
   have ed : impl_state_digest.f a b c a0 = some (Dig.out a0 (a, b, c), a, b, c) := by
    unfold impl_state_digest.f
    rw [if_pos (by have := H1.out; omega)]
    rfl
   refine (impl_state_digest.calls (w.heap.size + 1) a b c a0 (Dig.out a0 (a, b, c)) a b c w wr HI2.out HB2.out ed).mono ?_
   rintro e w4 ⟨rfl, hi, hb, hk⟩
   have HI3 := Aside0.mk hi
   have HB3 := Aside0.mk hb
   have HR3 := Aside0.mk (keep_own HR2.out HI2.out hk)
   clear hi hb hk ed
   generalize hs : Dig.squeeze a0 k (x0, x1, x2) = ys at HR3
   have HS := Aside0.mk hs
   clear hs
   have hys : ys.length = k := by rw [← HS.out, Dig.squeeze_length]
   have HY := Aside0.mk hys
   clear hys
   go_wp2_with (at_builtin; refine Kd.R_append (Kd.int .i64) (w0 := w) w.heap.size rfl (.tmp 30) (.tmp 33) 29 3 (.int .i64 0) 8 rfl Try.underlying29 info3 rfl (by decide) (by omega) _ ys (Dig.out a0 (a, b, c)) [.int .i64 (Dig.out a0 (a, b, c))] (fun _ => True) (fun _ => False) rfl rfl rfl (fun _ hk => hk.elim) (fun _ _ => trivial) HR3.out HB3.out HB3.out.size (by have := HY.out; have := HL.out; have := HM.out; omega) ?_; intro v1 w5 ho hb hg hat)
   have HI4 := Aside0.mk (IsS127.grown HI3.out hg (IsS127.own_ne HI3.out HR3.out (by decide)))
   have HB4 := Aside0.mk hb
   have HR4 := Aside0.mk ho
   clear ho hb hg hat HI3 HB3 HR3
   go_wp2_with fail
   obtain ⟨⟨y0, y1, y2⟩, hq⟩ : ∃ y, y = Dig.rnds 2 (a, b, c) := ⟨_, rfl⟩
   have HY2 := Aside0.mk hq
   clear hq
   refine (impl_state_rounds.calls (w.heap.size + 1) a b c 2 y0 y1 y2 w w5 HI4.out HB4.out (by rw [HY2.out]; rfl)).mono ?_
   rintro e w6 ⟨rfl, hi, hb, hk⟩
   have HI5 := Aside0.mk hi
   have HB5 := Aside0.mk hb
   have HR5 := Aside0.mk (keep_own HR4.out HI4.out hk)
   clear hi hb hk HI4 HB4 HR4
   have b1 : 0 ≤ (k : Int) := Int.natCast_nonneg k
   have b2 : (k : Int) ≤ 40 := by have := HL.out; have := HM.out; omega
   go_wp2
   go_roundw
   case rel =>
    refine ⟨k + 1, y0, y1, y2, by go_num, ⟨HL.out⟩, ⟨?_⟩, HI5, HB5, ⟨?_⟩⟩
    ·rw [show 2 * (k + 1) = 2 * k + 2 by omega, Dig.rnds_add, HA.out]
     exact HY2.out.symm
    ·have h := HR5.out
     rw [← HS.out] at h
     have e := Dig.squeeze_snoc a0 k (x0, x1, x2)
     rw [HA.out] at e
     rw [e] at h
     exact h
   case measure => have := HL.out; simp [intOf]; omega
  ·have c0 : decide ((k : Int) < a2) = false := decide_eq_false (fun h => hlt ((HN.out k).1 h))
   have e : k = a2.toNat := by have := HK.out; omega
   have HE := Aside0.mk e
   clear hlt e
   go_wp2
   go_ret2
   exact ⟨_, rfl, by have h := HR2.out; rw [HE.out, HQ.out] at h; exact h, HB2.out⟩
theorem impl_Squeeze.calls (a0 : Int) (A1 : Option Addr) (c1 : Nat) (l1 : List Int) (a2 : Int) (r1 : List Int) (r2 : Bool) (w : World) (hr1 : Kd.C (Kd.int .u8) w A1 l1.length l1) (hc1 : l1.length ≤ c1) (h : impl_Squeeze.f a0 l1 a2 = some (r1, r2)) :
  Calls Try.prog 104 #[.int .i64 a0, .slice A1 l1.length c1, .int .i64 a2] w fun e w' => ∃ v0_ : Value, e = .returned (.tuple #[v0_, .bool r2]) ∧ Kd.R (Kd.int .i64) 3 w' w.heap.size (fun _ => True) v0_ r1 ∧ Below w.heap.size w w' := by
 by_cases hg : (2 ≤ a0 ∧ a0 ≤ 60) ∧ l1.length ≤ 4000 ∧ 1 ≤ a2 ∧ a2 ≤ 40
 ·obtain ⟨h1, h2, h3⟩ := hg
  unfold impl_Squeeze.f at h
  rw [if_pos h1, if_pos h2, if_pos h3] at h
  simp only [Option.some.injEq, Prod.mk.injEq] at h
  obtain ⟨rfl, rfl⟩ := h
  exact squeeze_yes a0 A1 c1 l1 a2 w hr1 hc1 h1 h2 h3
 ·have h' : impl_Squeeze.f a0 l1 a2 = some ([], false) := by
   unfold impl_Squeeze.f
   by_cases h1 : 2 ≤ a0 ∧ a0 ≤ 60
   ·rw [if_pos h1]
    by_cases h2 : l1.length ≤ 4000
    ·rw [if_pos h2, if_neg (fun h3 => hg ⟨h1, h2, h3⟩)]
    ·rw [if_neg h2]
   ·rw [if_neg h1]
  rw [h'] at h
  simp only [Option.some.injEq, Prod.mk.injEq] at h
  obtain ⟨rfl, rfl⟩ := h
  refine (squeeze_no a0 A1 c1 l1 a2 w hg).mono ?_
  rintro e w' ⟨rfl, hd⟩
  exact ⟨_, rfl, Kd.R_nil _ _ _ _ _, hd.below⟩

/-! ### impl_Digest: function 56 -/
def impl_Digest.f (a0 : Int) (l1 : List Int) : Option (Int) := (impl_Squeeze.f a0 l1 1).bind fun bt326 => (if bt326.2 = true then (if 0 < (bt326.1.length : Int) then (some (rd bt326.1 0)) else (none)) else (some (-1)))
set_option maxHeartbeats 8000000 in
set_option maxRecDepth 100000 in
theorem impl_Digest.calls (a0 : Int) (A1 : Option Addr) (c1 : Nat) (l1 : List Int) (r : Int) (w : World) (hr1 : Kd.C (Kd.int .u8) w A1 l1.length l1) (hc1 : l1.length ≤ c1) (h : impl_Digest.f a0 l1 = some r) :
  Calls Try.prog 56 #[.int .i64 a0, .slice A1 l1.length c1] w fun e w' => e = .returned (.int .i64 r) ∧ Below w.heap.size w w' := by
 have HR1 := Aside0.mk hr1
 have HC1 := Aside0.mk hc1
 clear hr1 hc1
 have HB := Aside0.mk (Below.refl w.heap.size w)
 have H : ((impl_Squeeze.f a0 l1 1).bind fun bt326 => (if bt326.2 = true then (if 0 < (bt326.1.length : Int) then (some (rd bt326.1 0)) else (none)) else (some (-1)))) = some r := h
 clear h
 replace H := Option.bind_eq_some_iff.mp H
 obtain ⟨⟨t326, t327⟩, A30, H⟩ := H
 (try dsimp -simprocs only at H)
 have A3 := Aside0.mk A30
 clear A30
 by_cases c4 : t327 = true
 ·subst c4
  rw [if_pos rfl] at H
  by_cases c5 : 0 < (t326.length : Int)
  ·rw [if_pos c5] at H
   have c5b0 : decide (0 < (t326.length : Int)) = true := decide_eq_true c5
   have c5b1 : decide (0 < t326.length) = true := decide_eq_true (by omega)
   clear c5
   obtain rfl := Option.some.inj H
   go_enter Try.func56, Try.ntmps56
   go_wp2_with (first | ((with_reducible refine gate_callee (f := 104) rfl ?_); refine goesL_ (some 10) rfl rfl Try.func104 (by kernel_rfl) rfl #[.int .i64 a0, .slice A1 l1.length c1, .int .i64 1] rfl av ?_; (with_reducible refine (impl_Squeeze.calls a0 _ _ l1 1 t326 true _ ?side1 ?side2 A3.out).mono ?_); (case side1 => exact cv (HR1.out)); (case side2 => exact HC1.out); rintro e w6 ⟨v328, rfl, ho0, hb⟩; refine ⟨_, rfl, ?_⟩; have HO329 := Aside0.mk (Kd.R_lower ho0 (below_size (bt))); replace HB := Aside0.mk (below_step (bt) hb); (try clear hb); (try clear hb2); (try clear hk); (try clear hi); (try clear ho0); obtain ⟨Ao7, co7, eo7⟩ := Kd.R_slice HO329.out; subst eo7; have p330 : 0 ≤ (0 : Int) := (by omega); have q330 : 0 < (t326.length : Int) := of_decide_eq_true asm; obtain ⟨ad330, e330, hx330_0⟩ := Kd.at_int (Kd.R_reads' HO329.out).2.2 0 p330 q330; cases e330; have qi330 : (0 < t326.length) = True := eq_true (by omega); (try rw [show ((0 : Int)).toNat = 0 from rfl] at hx330_0); (try rw [Addr.add_zero'] at hx330_0); replace p330 := eq_true p330; replace q330 := eq_true q330))
   go_ret
   exact ⟨by first | rfl | (simp [errW_none, errW_some] <;> rfl) | (simp [*, errW_none, errW_some] <;> rfl), bt⟩
  ·rw [if_neg c5] at H
   exact absurd H (by simp)
 ·replace c4 := Bool.eq_false_iff.mpr c4
  subst c4
  rw [if_neg (show ¬ (false = true) by decide)] at H
  obtain rfl := Option.some.inj H
  go_enter Try.func56, Try.ntmps56
  go_wp2_with (first | ((with_reducible refine gate_callee (f := 104) rfl ?_); refine goesL_ (some 10) rfl rfl Try.func104 (by kernel_rfl) rfl #[.int .i64 a0, .slice A1 l1.length c1, .int .i64 1] rfl av ?_; (with_reducible refine (impl_Squeeze.calls a0 _ _ l1 1 t326 false _ ?side1 ?side2 A3.out).mono ?_); (case side1 => exact cv (HR1.out)); (case side2 => exact HC1.out); rintro e w8 ⟨v328, rfl, ho0, hb⟩; refine ⟨_, rfl, ?_⟩; have HO329 := Aside0.mk (Kd.R_lower ho0 (below_size (bt))); replace HB := Aside0.mk (below_step (bt) hb); (try clear hb); (try clear hb2); (try clear hk); (try clear hi); (try clear ho0)))
  go_ret
  exact ⟨by first | rfl | (simp [errW_none, errW_some] <;> rfl) | (simp [*, errW_none, errW_some] <;> rfl), bt⟩

/-! ### impl_leafInput: function 107 -/
def impl_leafInput.f (l0 : List Int) : Option (List Int) := (some (([0] : List Int) : List Int)).bind fun y331 => (if y331.length + l0.length < 140737488355328 then (some (y331 ++ l0)) else (none))
set_option maxHeartbeats 8000000 in
set_option maxRecDepth 100000 in
theorem impl_leafInput.calls (A0 : Option Addr) (c0 : Nat) (l0 : List Int) (r : List Int) (w : World) (hr0 : Kd.C (Kd.int .u8) w A0 l0.length l0) (hc0 : l0.length ≤ c0) (h : impl_leafInput.f l0 = some r) :
  Calls Try.prog 107 #[.slice A0 l0.length c0] w fun e w' => ∃ v0_ : Value, e = .returned (v0_) ∧ Kd.R (Kd.int .u8) 5 w' w.heap.size (fun _ => True) v0_ r ∧ Below w.heap.size w w' := by
 have HR0 := Aside0.mk hr0
 have HC0 := Aside0.mk hc0
 clear hr0 hc0
 have HB := Aside0.mk (Below.refl w.heap.size w)
 have H : ((some (([0] : List Int) : List Int)).bind fun y331 => (if y331.length + l0.length < 140737488355328 then (some (y331 ++ l0)) else (none))) = some r := h
 clear h
 obtain ⟨y331, hy331⟩ : ∃ y_ : List Int, y_ = (([0] : List Int)) := ⟨_, rfl⟩
 replace H : (if y331.length + l0.length < 140737488355328 then (some (y331 ++ l0)) else (none)) = some r := by first | (rw [hy331]; exact H) | exact H
 have Ny331 := Aside0.mk hy331
 clear hy331
 by_cases c2 : y331.length + l0.length < 140737488355328
 ·rw [if_pos c2] at H
  have LMc2 := Aside0.mk c2
  clear c2
  obtain ⟨y334, hy334⟩ : ∃ y_ : List Int, y_ = (y331 ++ l0) := ⟨_, rfl⟩
  replace H : (some y334) = some r := by first | (rw [hy334]; exact H) | exact H
  have Ny334 := Aside0.mk hy334
  clear hy334
  obtain rfl := Option.some.inj H
  go_enter Try.func107, Try.ntmps107
  go_wp2_with (first | ((with_reducible refine gate_dst (N := 3) rfl ?_); refine Kd.R_lit (Kd.int .u8) _ 5 ?hg (N := 3) ?hd (xs := ([0] : List Int)) (inner := [.int .u8 0]) (ok := fun _ => True) (okp := fun _ => True) ?hr ?hp (fun _ hk => hk) trivial (Below.refl _ _) (Nat.le_refl _) (by simp) ?_; (case hd => rfl); (case hg => rfl); (case hr => first | (go_simp; done) | (go_simp; rfl)); (case hp => exact (Reps.one (show Kd.M (Kd.int .u8) _ _ _ 0 [.int .u8 0] from rfl) (Reps.none _ _))); intro v332 w3 ho4 hb hg_ hnew_; clear hg_ hnew_; (first | rw [← Ny331.out] at ho4 | (simp only [Int.reduceToNat] at ho4; rw [← Ny331.out] at ho4)); have HO333 := Aside0.mk (Kd.R_lower ho4 (below_size (bt))); replace HB := Aside0.mk (below_step (bt) hb); clear hb ho4) | ((with_reducible refine gate_builtin (b := .append) (xs := #[.tmp 3, .tmp 4]) rfl ?_); at_builtin; refine Kd.R_append_rows (Kd.int .u8) (w0 := w) w.heap.size rfl (.tmp 3) (.tmp 4) 22 5 (.int .u8 0) 1 rfl Try.underlying22 info5 rfl (by decide) (by omega) v332 y331 l0 _ _ _ (fun _ => True) (fun _ => False) rfl rfl ?aO ?aR (fun _ _ h => h) (fun _ h => h.elim) ?aF ?aB ?aS ?aL ?_; (case aR => exact cv ((Kd.C_below HR0.out HB.out))); (case aB => exact (bt)); (case aF => exact (fun _ _ => trivial)); (case aO => exact (mv HO333.out)); (case aS => exact (below_size (bt))); (case aL => have := LMc2.out; omega); intro v335 w5 ho hb hg hat; rw [← Ny334.out] at ho; replace HB := Aside0.mk (hb); have HO336 := Aside0.mk (ho); clear HO333; clear ho hb hg hat))
  go_ret
  exact ⟨_, by first | rfl | (simp [errW_none, errW_some] <;> rfl) | (simp [*, errW_none, errW_some] <;> rfl), by (with_reducible repeat (first | apply Kd.R_alloc | apply Kd.R_drewN | apply Kd.R_drew)); exact HO336.out, bt⟩
 ·rw [if_neg c2] at H
  exact absurd H (by simp)

/-! ### impl_LeafOf: function 119 -/
def impl_LeafOf.f (a0 : Int) (l1 : List Int) : Option (Int) := (impl_leafInput.f l1).bind fun t337 => ((impl_Digest.f a0 t337).bind fun t340 => (some t340))
set_option maxHeartbeats 8000000 in
set_option maxRecDepth 100000 in
theorem impl_LeafOf.calls (a0 : Int) (A1 : Option Addr) (c1 : Nat) (l1 : List Int) (r : Int) (w : World) (hr1 : Kd.C (Kd.int .u8) w A1 l1.length l1) (hc1 : l1.length ≤ c1) (h : impl_LeafOf.f a0 l1 = some r) :
  Calls Try.prog 119 #[.int .i64 a0, .slice A1 l1.length c1] w fun e w' => e = .returned (.int .i64 r) ∧ Below w.heap.size w w' := by
 have HR1 := Aside0.mk hr1
 have HC1 := Aside0.mk hc1
 clear hr1 hc1
 have HB := Aside0.mk (Below.refl w.heap.size w)
 have H : ((impl_leafInput.f l1).bind fun t337 => ((impl_Digest.f a0 t337).bind fun t340 => (some t340))) = some r := h
 clear h
 replace H := Option.bind_eq_some_iff.mp H
 obtain ⟨t337, A30, H⟩ := H
 (try dsimp -simprocs only at H)
 have A3 := Aside0.mk A30
 clear A30
 replace H := Option.bind_eq_some_iff.mp H
 obtain ⟨t340, A40, H⟩ := H
 (try dsimp -simprocs only at H)
 have A4 := Aside0.mk A40
 clear A40
 obtain rfl := Option.some.inj H
 go_enter Try.func119, Try.ntmps119
 go_wp2_with (first | ((with_reducible refine gate_callee (f := 107) rfl ?_); refine goesL_ (some 7) rfl rfl Try.func107 (by kernel_rfl) rfl #[.slice A1 l1.length c1] rfl av ?_; (with_reducible refine (impl_leafInput.calls _ _ l1 t337 _ ?side1 ?side2 A3.out).mono ?_); (case side1 => exact cv (HR1.out)); (case side2 => exact HC1.out); rintro e w5 ⟨v338, rfl, ho0, hb⟩; refine ⟨_, rfl, ?_⟩; have HO339 := Aside0.mk (Kd.R_lower ho0 (below_size (bt))); replace HB := Aside0.mk (below_step (bt) hb); (try clear hb); (try clear hb2); (try clear hk); (try clear hi); (try clear ho0); obtain ⟨Ao6, co6, eo6⟩ := Kd.R_slice HO339.out; subst eo6) | ((with_reducible refine gate_callee (f := 56) rfl ?_); refine goesL_ (some 8) rfl rfl Try.func56 (by kernel_rfl) rfl #[.int .i64 a0, .slice Ao6 t337.length co6] rfl av ?_; (with_reducible refine (impl_Digest.calls a0 _ _ t337 t340 _ ?side1 ?side2 A4.out).mono ?_); (case side1 => exact cv ((Kd.R_reads' HO339.out).2.2)); (case side2 => exact (Kd.R_reads' HO339.out).2.1); rintro e w7 ⟨rfl, hb⟩; refine ⟨_, rfl, ?_⟩; replace HO339 := Aside0.mk (Kd.R_below (mv HO339.out) hb); replace HB := Aside0.mk (below_step (bt) hb); (try clear hb); (try clear hb2); (try clear hk); (try clear hi)))
 go_ret
 exact ⟨by first | rfl | (simp [errW_none, errW_some] <;> rfl) | (simp [*, errW_none, errW_some] <;> rfl), bt⟩

/-! ### impl_high: function 142 -/
def impl_high.l0 : Nat → Int → List Int → Int → Option (List Int)
 | 0, _, _, _ => none
 | k + 1, x0, x5, x6 => if x6 ≥ 0 then (if 0 ≤ x6 then (if x6 < (x5.length : Int) then (impl_high.l0 k (x0 / 256) (x5.set (x6 : Int).toNat ((x0) % 256)) (wrap64 (x6 - 1))) else (none)) else (none)) else (some x5)
def impl_high.f (k : Nat) (a0 : Int) (a1 : Int) : Option (List Int) := if 0 ≤ a1 then (if (a1 : Int).toNat ≤ 281474976710656 then (impl_high.l0 k a0 (List.replicate (a1 : Int).toNat 0) (wrap64 (a1 - 1))) else (none)) else (none)
set_option maxHeartbeats 8000000 in
set_option maxRecDepth 100000 in
theorem impl_high.calls (k : Nat) (a0 : Int) (a1 : Int) (r : List Int) (w : World) (h : impl_high.f k a0 a1 = some r) :
  Calls Try.prog 142 #[.int .i64 a0, .int .i64 a1] w fun e w' => ∃ v0_ : Value, e = .returned (v0_) ∧ Kd.R (Kd.int .u8) 5 w' w.heap.size (fun _ => True) v0_ r ∧ Below w.heap.size w w' := by
 have HB := Aside0.mk (Below.refl w.heap.size w)
 have H : (if 0 ≤ a1 then (if (a1 : Int).toNat ≤ 281474976710656 then (impl_high.l0 k a0 (List.replicate (a1 : Int).toNat 0) (wrap64 (a1 - 1))) else (none)) else (none)) = some r := h
 clear h
 by_cases c3 : 0 ≤ a1
 ·rw [if_pos c3] at H
  have c3b0 := eq_true c3
  have c3b1 : decide (0 ≤ a1) = true := decide_eq_true c3
  clear c3
  by_cases c4 : (a1 : Int).toNat ≤ 281474976710656
  ·rw [if_pos c4] at H
   have c4b0 := eq_true c4
   have c4b1 : decide ((a1 : Int).toNat ≤ 281474976710656) = true := decide_eq_true c4
   clear c4
   obtain ⟨y341, hy341⟩ : ∃ y_ : List Int, y_ = (List.replicate (a1 : Int).toNat 0) := ⟨_, rfl⟩
   replace H : (impl_high.l0 k a0 y341 (wrap64 (a1 - 1))) = some r := by first | (rw [hy341]; exact H) | exact H
   have Ny341 := Aside0.mk hy341
   clear hy341
   have H' := Aside0.mk H
   clear H
   go_enter Try.func142, Try.ntmps142
   go_wp2_with (first | ((with_reducible refine gate_dst (N := 8) rfl ?_); refine Kd.R_make (Kd.int .u8) _ 5 rfl (N := 8) rfl 22 _ _ rfl a1 rfl rfl Try.underlying22 (.int .u8 0) 1 info5 rfl (by decide) (by omega) 0 (ok := fun _ => True) (okp := fun _ => True) rfl (fun _ hk => hk) trivial (of_decide_eq_true asm) (Nat.le_trans (Nat.mul_le_mul_right _ (of_decide_eq_true asm : a1.toNat ≤ 281474976710656)) (by omega)) (Below.refl _ _) (Nat.le_refl _) ?_; intro v342 w5 ho6 hb hg_ hnew_; clear hg_ hnew_; (first | rw [← Ny341.out] at ho6 | (simp only [Int.reduceToNat] at ho6; rw [← Ny341.out] at ho6)); have HO343 := Aside0.mk (Kd.R_lower ho6 (below_size (bt))); replace HB := Aside0.mk (below_step (bt) hb); clear hb ho6))
   go_loopg [0, 6] k (fun kq v0 v6 w' => ∃ (x0_1 : Int) (x5_1 : List Int) (x6_1 : Int), v0 = .int .i64 x0_1 ∧ v6 = .int .i64 x6_1 ∧ Aside0 (impl_high.l0 kq x0_1 x5_1 x6_1 = some r) ∧ Aside0 (kq ≤ k) ∧ Aside0 (Kd.R (Kd.int .u8) 5 w' w.heap.size (fun _ => True) v342 x5_1) ∧ Aside0 (Below w.heap.size w w'))
   case atStart => exact ⟨(a0), (y341), (wrap64 (a1 - 1)), (by first | rfl | (simp; done) | (simp [*]; done)), (by first | rfl | (simp; done) | (simp [*]; done)), H', ⟨Nat.le_refl _⟩, ⟨mv HO343.out⟩, ⟨bt⟩⟩
   case round =>
    clear H'
    try clear c1
    try clear p2
    try clear c3
    try clear c3b0
    try clear c3b1
    try clear c4
    try clear c4b0
    try clear c4b1
    try clear p6
    obtain ⟨x0_1, x5_1, x6_1, rfl, rfl, HA, HK1, HO_5, HB⟩ := hrel
    cases gk with
    | zero => exact absurd HA.out (by simp [impl_high.l0])
    | succ k1 =>
     have H := HA.out
     clear HA
     simp only [impl_high.l0] at H
     by_cases c7 : x6_1 ≥ 0
     ·rw [if_pos c7] at H
      have c7b0 : decide (0 ≤ x6_1) = true := decide_eq_true c7
      clear c7
      by_cases c8 : 0 ≤ x6_1
      ·rw [if_pos c8] at H
       have c8b0 : decide (0 ≤ x6_1) = true := decide_eq_true c8
       clear c8
       by_cases c9 : x6_1 < (x5_1.length : Int)
       ·rw [if_pos c9] at H
        have c9b0 : decide (x6_1 < (x5_1.length : Int)) = true := decide_eq_true c9
        clear c9
        obtain ⟨y344, hy344⟩ : ∃ y_ : List Int, y_ = (x5_1.set (x6_1 : Int).toNat ((x0_1) % 256)) := ⟨_, rfl⟩
        replace H : (impl_high.l0 k1 (x0_1 / 256) y344 (wrap64 (x6_1 - 1))) = some r := by first | (rw [hy344]; exact H) | exact H
        have Ny344 := Aside0.mk hy344
        clear hy344
        have H' := Aside0.mk H
        clear H
        have p10 : 0 ≤ (x6_1 : Int) := of_decide_eq_true asm
        have q10 : (x6_1 : Int) < ((x5_1.length : Int) : Int) := of_decide_eq_true asm
        obtain ⟨go10, co10, eo10, gb10, gl10, cl10, HG10⟩ := Kd.R_form HO_5.out (by omega)
        (first | cases eo10 | (injection eo10 with ea_ en_ ec_; (first | subst ea_ | (injection ea_ with ea_; subst ea_)); subst ec_; clear en_))
        have GB10 := Aside0.mk gb10
        have GG10 := Aside0.mk HG10
        clear gb10 gl10 HG10
        obtain ⟨hx10_0, hf10_0⟩ := Kd.R_celln 0 HO_5.out (x6_1 : Int) p10 q10
        replace p10 := eq_true p10
        replace q10 := eq_true q10
        have HP11 := Kd.R_putg HO_5.out (x6_1 : Int) ((x0_1) % 256)
        go_wp2_with (first | ((with_reducible refine gate_store (t := 5) (p := 19) rfl ?_); refine store_event (t := 5) (p := 19) (v := ?vo_w12) (w1 := (wr.setCell ⟨go10, (x6_1 : Int).toNat, none⟩ (.int .u8 ((x0_1) % 256)))) ?hg ?ho ?hn ?hr ?_; (case ho => rfl); (case hg => rfl); (case hn => rfl); (case hr => first | (go_simp; done) | (go_simp; rfl)); intro w12 hw; have hg : wr.grownBy w12 (some go10) := (by rw [hw]; exact HP11.2); have hp_ : Kd.R (Kd.int .u8) 5 w12 w.heap.size (fun _ => True) (.slice (some ⟨go10, 0, none⟩) x5_1.length co10) y344 := (by rw [hw, Ny344.out]; exact HP11.1); clear HP11; replace HO_5 := Aside0.mk (hp_); replace HB := Aside0.mk ((by rw [hw]; exact below_set (HB.out) GB10.out : Below w.heap.size w w12)); clear hg hw hp_))
        go_roundg k1
        case measure => have := HK1.out; omega
        case rel => exact ⟨(x0_1 / 256), (y344), (wrap64 (x6_1 - 1)), (by first | rfl | (simp; done) | (simp [*]; done)), (by first | rfl | (simp; done) | (simp [*]; done)), H', ⟨by have := HK1.out; omega⟩, ⟨mv HO_5.out⟩, ⟨bt⟩⟩
       ·rw [if_neg c9] at H
        exact absurd H (by simp)
      ·rw [if_neg c8] at H
       exact absurd H (by simp)
     ·rw [if_neg c7] at H
      have c7b0 : decide (0 ≤ x6_1) = false := decide_eq_false c7
      clear c7
      obtain rfl := Option.some.inj H
      go_wp2
      go_ret
      exact ⟨_, by first | rfl | (simp [errW_none, errW_some] <;> rfl) | (simp [*, errW_none, errW_some] <;> rfl), by (with_reducible repeat (first | apply Kd.R_alloc | apply Kd.R_drewN | apply Kd.R_drew)); exact HO_5.out, bt⟩
  ·rw [if_neg c4] at H
   exact absurd H (by simp)
 ·rw [if_neg c3] at H
  exact absurd H (by simp)

/-! ### impl_Eight: function 130 -/
def impl_Eight.f (k : Nat) (a0 : Int) : Option (List Int) := if a0 < 0 then (some ([] : List Int)) else ((impl_high.f k a0 8).bind fun t345 => (some t345))
set_option maxHeartbeats 8000000 in
set_option maxRecDepth 100000 in
theorem impl_Eight.calls (k : Nat) (a0 : Int) (r : List Int) (w : World) (h : impl_Eight.f k a0 = some r) :
  Calls Try.prog 130 #[.int .i64 a0] w fun e w' => ∃ v0_ : Value, e = .returned (v0_) ∧ Kd.R (Kd.int .u8) 5 w' w.heap.size (fun _ => True) v0_ r ∧ Below w.heap.size w w' := by
 have HB := Aside0.mk (Below.refl w.heap.size w)
 have H : (if a0 < 0 then (some ([] : List Int)) else ((impl_high.f k a0 8).bind fun t345 => (some t345))) = some r := h
 clear h
 by_cases c2 : a0 < 0
 ·rw [if_pos c2] at H
  have c2b0 : decide (a0 < 0) = true := decide_eq_true c2
  clear c2
  obtain rfl := Option.some.inj H
  go_enter Try.func130, Try.ntmps130
  go_wp2
  go_ret
  exact ⟨_, by first | rfl | (simp [errW_none, errW_some] <;> rfl) | (simp [*, errW_none, errW_some] <;> rfl), by first | exact Kd.R_nil _ _ _ _ _ | exact Kd.N_nil _ _ _ _ _ | exact Kd.V_nil _ _ _ _ _ | exact Kd.Q_nil _ _ _ _ _ | exact Kd.S_nil _ _ _ _ _, bt⟩
 ·rw [if_neg c2] at H
  have c2b0 : decide (a0 < 0) = false := decide_eq_false c2
  clear c2
  replace H := Option.bind_eq_some_iff.mp H
  obtain ⟨t345, A30, H⟩ := H
  (try dsimp -simprocs only at H)
  have A3 := Aside0.mk A30
  clear A30
  obtain rfl := Option.some.inj H
  go_enter Try.func130, Try.ntmps130
  go_wp2_with (first | ((with_reducible refine gate_callee (f := 142) rfl ?_); refine goesL_ (some 6) rfl rfl Try.func142 (by kernel_rfl) rfl #[.int .i64 a0, .int .i64 8] rfl av ?_; (with_reducible refine (impl_high.calls k a0 8 t345 _ A3.out).mono ?_); rintro e w4 ⟨v346, rfl, ho0, hb⟩; refine ⟨_, rfl, ?_⟩; have HO347 := Aside0.mk (Kd.R_lower ho0 (below_size (bt))); replace HB := Aside0.mk (below_step (bt) hb); (try clear hb); (try clear hb2); (try clear hk); (try clear hi); (try clear ho0)))
  go_ret
  exact ⟨_, by first | rfl | (simp [errW_none, errW_some] <;> rfl) | (simp [*, errW_none, errW_some] <;> rfl), by (with_reducible repeat (first | apply Kd.R_alloc | apply Kd.R_drewN | apply Kd.R_drew)); exact HO347.out, bt⟩

/-! ### slices_Concat_byte_byte: function 134 -/
theorem rowAt8 {w : World} {A : Option Addr} {n : Nat} {xs : List (List Int)} (h : Kd.C (Kd.slice 5 (Kd.int .u8)) w A n xs) (k : Nat) (hk : k < n) :
  ∃ ad A0 c0, A = some ad ∧ w.cell? (ad.add k) = some (.slice A0 (xs.getD k []).length c0) ∧ (xs.getD k []).length ≤ c0 ∧ (Kd.int .u8).C w A0 (xs.getD k []).length (xs.getD k []) := by
 obtain ⟨ad, c, e, hl, hK, hc⟩ := ReadsRow.get_ h ([] : List Int) (k : Int) (Int.natCast_nonneg k) (by omega)
 obtain ⟨A0, c0, rfl, h2, h3⟩ := hK
 rw [Int.toNat_natCast] at hc h2 h3
 have h4 := hc 0 _ rfl
 refine ⟨ad, A0, c0, e, ?_, h2, h3⟩
 have e1 : k * (Kd.slice 5 (Kd.int .u8)).sz + 0 = k := Nat.mul_one k
 rw [e1] at h4
 exact h4
set_option maxHeartbeats 4000000 in
set_option maxRecDepth 100000 in
theorem grow_nil (n : Nat) (w : World) (hl : n < 140737488355328) :
  Calls Try.prog 144 #[.slice none 0 0, .int .i64 n] w fun e w' => ∃ v0_ : Value, e = .returned (v0_) ∧ Kd.R (Kd.int .u8) 5 w' w.heap.size (fun _ => True) v0_ [] ∧ Below w.heap.size w w' := by
 have HB := Aside0.mk (Below.refl w.heap.size w)
 have LM := Aside0.mk hl
 by_cases h0 : 0 < n
 ·have c0 : decide (0 < (n : Int)) = true := decide_eq_true (by omega)
  have c1 : decide ((n : Int) < 0) = false := decide_eq_false (by omega)
  have c2 : (n : Int) - 0 = n := Int.sub_zero _
  have p0 : (0 : Int) ≤ (n : Int) := by omega
  have b2 : (n : Int) ≤ 9223372036854775806 := by omega
  have w0_ : wrap64 (n : Int) = (n : Int) := by unfold wrap64; omega
  have c4 : decide (0 < wrap64 (n : Int)) = true := by rw [w0_]; exact c0
  have p4 : (0 : Int) ≤ wrap64 (n : Int) := by rw [w0_]; exact p0
  have q4 : (wrap64 (n : Int)).toNat = n := by rw [w0_]; rfl
  have HO := Aside0.mk (Kd.R_nil (Kd.int .u8) 5 w w.heap.size (fun _ => True))
  clear h0 hl
  go_enter Try.func144, Try.ntmps144
  go_wp2_with ((with_reducible refine gate_builtin (b := .append) (xs := #[.tmp 20, .tmp 21]) rfl ?_); at_builtin; refine Kd.R_append_zeros (Kd.int .u8) (w0 := w) w.heap.size rfl (.tmp 20) (.tmp 21) 22 3 5 (.int .u8 0) 1 rfl Try.underlying22 Try.underlying3 info5 rfl (by decide) (by omega) (.slice none 0 0) [] 0 (n : Int) (fun _ => True) rfl rfl rfl ?aF ?aO p0 ?aB ?aS ?aL ?_; (case aB => exact HB.out); (case aF => exact (fun _ _ => trivial)); (case aO => exact HO.out); (case aS => exact Nat.le_refl _); (case aL => have := LM.out; simp; omega); intro v22 w5 ho hb hg hat; obtain ⟨A22, c22, rfl⟩ := Kd.R_slice ho; have n1_ := Aside0.mk (Kd.R_take ho (Nat.zero_le _)); have n0_ := Aside0.mk hb; clear HB; have HB := n0_; have HO22 := n1_; clear n0_ n1_; clear ho hb hg hat)
  ·go_ret
   exact ⟨_, rfl, HO22.out, HB.out⟩
  ·exfalso; have := of_decide_eq_true c0; omega
 ·obtain rfl : n = 0 := by omega
  clear h0 hl
  go_enter Try.func144, Try.ntmps144
  go_wp2
  go_ret
  exact ⟨_, rfl, Kd.R_nil _ _ _ _ _, Below.refl _ _⟩
def slices_Concat_byte_byte.f (l0 : List (List Int)) : Option (List Int) := if l0.flatten.length < 140737488355328 then some l0.flatten else none
theorem flat_take (l : List (List Int)) (k : Nat) (hk : k < l.length) : (l.take (k + 1)).flatten = (l.take k).flatten ++ l.getD k [] := by
 rw [List.take_succ_eq_append_getElem hk, List.flatten_append, List.getD_eq_getElem?_getD, List.getElem?_eq_getElem hk]
 simp
theorem flat_take_le (l : List (List Int)) (k : Nat) : (l.take k).flatten.length ≤ l.flatten.length := by
 have h : l.flatten = (l.take k).flatten ++ (l.drop k).flatten := by rw [← List.flatten_append, List.take_append_drop]
 have := congrArg List.length h
 rw [List.length_append] at this
 omega
set_option maxHeartbeats 8000000 in
set_option maxRecDepth 100000 in
theorem slices_Concat_byte_byte.calls (A0 : Option Addr) (c0 : Nat) (l0 : List (List Int)) (r : List Int) (w : World) (hr0 : Kd.C (Kd.slice 5 (Kd.int .u8)) w A0 l0.length l0) (hc0 : l0.length ≤ c0) (h : slices_Concat_byte_byte.f l0 = some r) :
  Calls Try.prog 134 #[.slice A0 l0.length c0] w fun e w' => ∃ v0_ : Value, e = .returned (v0_) ∧ Kd.R (Kd.int .u8) 5 w' w.heap.size (fun _ => True) v0_ r ∧ Below w.heap.size w w' := by
 unfold slices_Concat_byte_byte.f at h
 by_cases hl : l0.flatten.length < 140737488355328
 ·rw [if_pos hl] at h
  obtain rfl := Option.some.inj h
  have HR := Aside0.mk hr0
  have LM := Aside0.mk hl
  have HM : Aside0 (l0.length ≤ 9223372036854775807) := ⟨hr0.2.1⟩
  have HB := Aside0.mk (Below.refl w.heap.size w)
  clear hr0 h hl
  go_enter Try.func134, Try.ntmps134
  go_wp2
  go_loopw [3, 11] (fun s i wr => ∃ k : Nat, i = .int .i64 k ∧ s = .int .i64 ((l0.take k).flatten.length : Int) ∧ Aside0 (k ≤ l0.length) ∧ Drawn0 w wr) (fun _ i _ => l0.length - (intOf i).toNat)
  case atStart => exact ⟨0, rfl, rfl, ⟨Nat.zero_le _⟩, Drawn0.refl _⟩
  case round =>
   obtain ⟨k, rfl, rfl, HK, ⟨m, rfl⟩⟩ := hrel
   by_cases hlt : k < l0.length
   ·have d0 : decide (k < l0.length) = true := decide_eq_true hlt
    have d1 : decide ((k : Int) < (l0.length : Int)) = true := decide_eq_true (by omega)
    have p1 : 0 ≤ (k : Int) := Int.natCast_nonneg k
    have q1 : (k : Int) < (l0.length : Int) := by omega
    obtain ⟨ad, A5, c5, e1, hx, hle, hC0⟩ := rowAt8 HR.out k hlt
    cases e1
    have HL := Aside0.mk hlt
    have HT : Aside0 (((l0.take (k + 1)).flatten.length : Int) = ((l0.take k).flatten.length : Int) + ((l0.getD k []).length : Int)) := ⟨by rw [flat_take l0 k hlt, List.length_append]; rfl⟩
    have h7 : (l0.take (k + 1)).flatten.length ≤ l0.flatten.length := flat_take_le l0 (k + 1)
    have h8 := HT.out
    have hlm := LM.out
    generalize (l0.take k).flatten.length = n0 at h8 HT ⊢
    generalize l0.getD k [] = x at hx h8 HT hC0 hle
    have b0 : (0 : Int) ≤ (n0 : Int) := Int.natCast_nonneg _
    have b1 : (0 : Int) ≤ (x.length : Int) := Int.natCast_nonneg _
    have b2 : (n0 : Int) + (x.length : Int) ≤ 9223372036854775806 := by omega
    have b3 : (k : Int) ≤ 9223372036854775806 := by have := HM.out; omega
    have b4 : wrap64 ((n0 : Int) + (x.length : Int)) = (n0 : Int) + (x.length : Int) := by unfold wrap64; omega
    have b5 : decide ((n0 : Int) + (x.length : Int) < 0) = false := decide_eq_false (by omega)
    have b6 : ((n0 : Int) + (x.length : Int) < 0) = False := eq_false (by omega)
    clear hC0 hle h7 h8 hlm hlt
    go_wp2
    go_roundw
    case rel => exact ⟨k + 1, by go_num, by rw [HT.out], ⟨HL.out⟩, by repeat (first | exact Drawn0.refl _ | apply Drawn0.step)⟩
    case measure => have := HL.out; simp [intOf]; omega
   ·have d0 : decide (k < l0.length) = false := decide_eq_false hlt
    have d1 : decide ((k : Int) < (l0.length : Int)) = false := decide_eq_false (by omega)
    have hk : k = l0.length := by have := HK.out; omega
    subst hk
    have et : l0.take l0.length = l0 := List.take_length
    rw [et]
    have LM2 := LM.out
    generalize l0.flatten.length = N at LM2 ⊢
    have b0 : (0 : Int) ≤ (N : Int) := Int.natCast_nonneg _
    have b1 : (N : Int) ≤ 140737488355327 := by omega
    have HG := Aside0.mk (grow_nil N (w.drewN m) LM2)
    clear LM2
    clear hlt et
    go_wp2_with fail
    refine HG.out.mono ?_
    rintro e w1 ⟨v, rfl, ho, hb⟩
    have hb0 : Below w.heap.size w (w.drewN m) := pw_below_drewN HB.out m
    have HB1 : Aside0 (Below w.heap.size w w1) := ⟨below_step hb0 hb⟩
    have HO1 : Aside0 (Kd.R (Kd.int .u8) 5 w1 w.heap.size (fun _ => True) v []) := ⟨Kd.R_lower ho (below_size hb0)⟩
    clear hb0
    clear ho hb HG HB b0 b1
    go_wp2
    go_loopw [6, 27] (fun v i wr => ∃ k : Nat, i = .int .i64 k ∧ Aside0 (k ≤ l0.length) ∧ Aside0 (Below w.heap.size w wr) ∧ Aside0 (Kd.R (Kd.int .u8) 5 wr w.heap.size (fun _ => True) v (l0.take k).flatten)) (fun _ i _ => l0.length - (intOf i).toNat)
    case atStart => exact ⟨0, rfl, ⟨Nat.zero_le _⟩, HB1, HO1⟩
    case round =>
     obtain ⟨k, rfl, HK2, HB, HO⟩ := hrel
     by_cases hlt : k < l0.length
     ·have d0 : decide (k < l0.length) = true := decide_eq_true hlt
      have d1 : decide ((k : Int) < (l0.length : Int)) = true := decide_eq_true (by omega)
      have p1 : 0 ≤ (k : Int) := Int.natCast_nonneg k
      have q1 : (k : Int) < (l0.length : Int) := by omega
      have hrow := rowAt8 (Kd.C_below HR.out HB.out) k hlt
      have HT : Aside0 ((l0.take (k + 1)).flatten = (l0.take k).flatten ++ l0.getD k []) := ⟨flat_take l0 k hlt⟩
      have h7 : (l0.take (k + 1)).flatten.length ≤ l0.flatten.length := flat_take_le l0 (k + 1)
      rw [HT.out, List.length_append] at h7
      have LS : Aside0 ((l0.take k).flatten.length + (l0.getD k []).length ≤ 140737488355328) := ⟨by have := LM.out; omega⟩
      have HL := Aside0.mk hlt
      clear h7
      generalize (l0.take k).flatten = y0 at HT HO LS ⊢
      generalize l0.getD k [] = x at hrow HT LS
      obtain ⟨ad, A5, c5, e1, hx, hle, hC0⟩ := hrow
      have HCC := Aside0.mk hC0
      have b3 : (k : Int) ≤ 9223372036854775806 := by have := HM.out; omega
      cases e1
      clear hC0 hle hlt
      go_wp2_with ((with_reducible refine gate_builtin (b := .append) (xs := #[.tmp 31, .tmp 32]) rfl ?_); at_builtin; refine Kd.R_append_rows (Kd.int .u8) (w0 := w) w.heap.size rfl (.tmp 31) (.tmp 32) 22 5 (.int .u8 0) 1 rfl Try.underlying22 info5 rfl (by decide) (by omega) u6 y0 x _ _ _ (fun _ => True) (fun _ => False) rfl rfl ?aO ?aR (fun _ _ h => h) (fun _ h => h.elim) ?aF ?aB ?aS ?aL ?_; (case aR => exact HCC.out); (case aB => exact HB.out); (case aF => exact (fun _ _ => trivial)); (case aO => exact HO.out); (case aS => exact (below_size HB.out)); (case aL => have := LS.out; omega); intro v33 w5 ho hb hg hat; replace HB := Aside0.mk (hb); have HO33 := Aside0.mk (ho); clear HO; clear ho hb hg hat)
      go_roundw
      case rel => exact ⟨k + 1, by go_num, ⟨HL.out⟩, ⟨HB.out⟩, ⟨by rw [HT.out]; exact HO33.out⟩⟩
      case measure => have := HL.out; simp [intOf]; omega
     ·have e0 : decide (k < l0.length) = false := decide_eq_false hlt
      have e1 : decide ((k : Int) < (l0.length : Int)) = false := decide_eq_false (by omega)
      have hk : k = l0.length := by have := HK2.out; omega
      subst hk
      have HE : Aside0 (l0.take l0.length = l0) := ⟨List.take_length⟩
      clear hlt
      go_wp2
      go_ret
      exact ⟨_, rfl, by have h := HO.out; rw [HE.out] at h; exact h, HB.out⟩
 ·rw [if_neg hl] at h
  cases h

/-! ### impl_nodeInput: function 108 -/
def impl_nodeInput.f (k : Nat) (a0 : Int) (a1 : Int) : Option (List Int) := (impl_Eight.f k a0).bind fun t351 => ((impl_Eight.f k a1).bind fun t354 => ((slices_Concat_byte_byte.f (([(([1] : List Int)), t351, t354] : List (List Int)))).bind fun t360 => (some t360)))
set_option maxHeartbeats 8000000 in
set_option maxRecDepth 100000 in
theorem impl_nodeInput.calls (k : Nat) (a0 : Int) (a1 : Int) (r : List Int) (w : World) (h : impl_nodeInput.f k a0 a1 = some r) :
  Calls Try.prog 108 #[.int .i64 a0, .int .i64 a1] w fun e w' => ∃ v0_ : Value, e = .returned (v0_) ∧ Kd.R (Kd.int .u8) 5 w' w.heap.size (fun _ => True) v0_ r ∧ Below w.heap.size w w' := by
 have HB := Aside0.mk (Below.refl w.heap.size w)
 have H : ((impl_Eight.f k a0).bind fun t351 => ((impl_Eight.f k a1).bind fun t354 => ((slices_Concat_byte_byte.f (([(([1] : List Int)), t351, t354] : List (List Int)))).bind fun t360 => (some t360)))) = some r := h
 clear h
 obtain ⟨y348, hy348⟩ : ∃ y_ : List Int, y_ = (([1] : List Int)) := ⟨_, rfl⟩
 replace H : ((impl_Eight.f k a0).bind fun t351 => ((impl_Eight.f k a1).bind fun t354 => ((slices_Concat_byte_byte.f (([y348, t351, t354] : List (List Int)))).bind fun t360 => (some t360)))) = some r := by first | (rw [hy348]; exact H) | exact H
 have Ny348 := Aside0.mk hy348
 clear hy348
 replace H := Option.bind_eq_some_iff.mp H
 obtain ⟨t351, A30, H⟩ := H
 (try dsimp -simprocs only at H)
 have A3 := Aside0.mk A30
 clear A30
 replace H := Option.bind_eq_some_iff.mp H
 obtain ⟨t354, A40, H⟩ := H
 (try dsimp -simprocs only at H)
 have A4 := Aside0.mk A40
 clear A40
 obtain ⟨y357, hy357⟩ : ∃ y_ : List (List Int), y_ = (([y348, t351, t354] : List (List Int))) := ⟨_, rfl⟩
 replace H : ((slices_Concat_byte_byte.f y357).bind fun t360 => (some t360)) = some r := by first | (rw [hy357]; exact H) | exact H
 have Ny357 := Aside0.mk hy357
 clear hy357
 replace H := Option.bind_eq_some_iff.mp H
 obtain ⟨t360, A50, H⟩ := H
 (try dsimp -simprocs only at H)
 have A5 := Aside0.mk A50
 clear A50
 obtain rfl := Option.some.inj H
 go_enter Try.func108, Try.ntmps108
 go_wp2_with (first | ((with_reducible refine gate_dst (N := 5) rfl ?_); refine Kd.R_lit (Kd.int .u8) _ 5 ?hg (N := 5) ?hd (xs := ([1] : List Int)) (inner := [.int .u8 1]) (ok := fun _ => True) (okp := fun _ => True) ?hr ?hp (fun _ hk => hk) trivial (Below.refl _ _) (Nat.le_refl _) (by simp) ?_; (case hd => rfl); (case hg => rfl); (case hr => first | (go_simp; done) | (go_simp; rfl)); (case hp => exact (Reps.one (show Kd.M (Kd.int .u8) _ _ _ 1 [.int .u8 1] from rfl) (Reps.none _ _))); intro v349 w6 ho7 hb hg_ hnew_; clear hg_ hnew_; (first | rw [← Ny348.out] at ho7 | (simp only [Int.reduceToNat] at ho7; rw [← Ny348.out] at ho7)); have HO350 := Aside0.mk (Kd.R_lower ho7 (below_size (bt))); replace HB := Aside0.mk (below_step (bt) hb); clear hb ho7) | ((with_reducible refine gate_callee (f := 130) rfl ?_); refine goesL_ (some 7) rfl rfl Try.func130 (by kernel_rfl) rfl #[.int .i64 a0] rfl av ?_; (with_reducible refine (impl_Eight.calls k a0 t351 _ A3.out).mono ?_); rintro e w8 ⟨v352, rfl, ho0, hb⟩; refine ⟨_, rfl, ?_⟩; have HO353 := Aside0.mk (Kd.R_lower (Kd.R_new' ho0 (Kd.R_lt (mv HO350.out))) (below_size (bt))); replace HO350 := Aside0.mk (Kd.R_elder' (mv HO350.out) (Kd.R_base ho0) hb); replace HB := Aside0.mk (below_step (bt) hb); (try clear hb); (try clear hb2); (try clear hk); (try clear hi); (try clear ho0)) | ((with_reducible refine gate_callee (f := 130) rfl ?_); refine goesL_ (some 9) rfl rfl Try.func130 (by kernel_rfl) rfl #[.int .i64 a1] rfl av ?_; (with_reducible refine (impl_Eight.calls k a1 t354 _ A4.out).mono ?_); rintro e w9 ⟨v355, rfl, ho0, hb⟩; refine ⟨_, rfl, ?_⟩; have HO356 := Aside0.mk (Kd.R_lower (Kd.R_new' (Kd.R_new' ho0 (Kd.R_lt (mv HO350.out))) (Kd.R_lt (mv HO353.out))) (below_size (bt))); replace HO350 := Aside0.mk (Kd.R_elder' (mv HO350.out) (Kd.R_base ho0) hb); replace HO353 := Aside0.mk (Kd.R_elder' (mv HO353.out) (Kd.R_base ho0) hb); replace HB := Aside0.mk (below_step (bt) hb); (try clear hb); (try clear hb2); (try clear hk); (try clear hi); (try clear ho0); obtain ⟨Ao10, co10, eo10⟩ := Kd.R_slice HO350.out; subst eo10; obtain ⟨Ao11, co11, eo11⟩ := Kd.R_slice HO353.out; subst eo11; obtain ⟨Ao12, co12, eo12⟩ := Kd.R_slice HO356.out; subst eo12) | ((with_reducible refine gate_dst (N := 10) rfl ?_); refine Kd.N_lit (Kd.slice 5 (Kd.int .u8)) _ 22 ?hg (N' := 10) ?hd (xs := ([y348, t351, t354] : List (List Int))) (inner := [.slice Ao10 y348.length co10, .slice Ao11 t351.length co11, .slice Ao12 t354.length co12]) (ok := (fun _ => True)) (okp := (fun _ => True)) ?hr ?hp (fun _ hk => hk) ((show ∀ k_, w9.heap.size ≤ k_ → (fun _ => True) k_ from fun k_ hk => trivial) _ (Nat.le_refl _)) (Below.refl _ _) (Nat.le_refl _) (by simp) ?_; (case hd => rfl); (case hg => rfl); (case hr => first | (go_simp; done) | (go_simp; rfl)); (case hp => exact (Reps.one (show Kd.FK (Kd.slice 5 (Kd.int .u8)) _ _ y348 [.slice Ao10 y348.length co10] from (Kd.FK_slice_mk (Kd.R_reads' (Kd.R_mono (ok' := (fun _ => True)) (HO350.out) (fun k_ hk => trivial))).2.1 (Kd.R_F (Kd.R_mono (ok' := (fun _ => True)) (HO350.out) (fun k_ hk => trivial))))) (Reps.one (show Kd.FK (Kd.slice 5 (Kd.int .u8)) _ _ t351 [.slice Ao11 t351.length co11] from (Kd.FK_slice_mk (Kd.R_reads' (Kd.R_mono (ok' := (fun _ => True)) (HO353.out) (fun k_ hk => trivial))).2.1 (Kd.R_F (Kd.R_mono (ok' := (fun _ => True)) (HO353.out) (fun k_ hk => trivial))))) (Reps.one (show Kd.FK (Kd.slice 5 (Kd.int .u8)) _ _ t354 [.slice Ao12 t354.length co12] from (Kd.FK_slice_mk (Kd.R_reads' (Kd.R_mono (ok' := (fun _ => True)) (HO356.out) (fun k_ hk => trivial))).2.1 (Kd.R_F (Kd.R_mono (ok' := (fun _ => True)) (HO356.out) (fun k_ hk => trivial))))) (Reps.none _ _))))); intro v358 w13 ho14 hb hg_ hnew_; clear hg_ hnew_; (first | rw [← Ny357.out] at ho14 | (simp only [Int.reduceToNat] at ho14; rw [← Ny357.out] at ho14)); have HO359 := Aside0.mk (Kd.N_lower ho14 (below_size (bt))); replace HB := Aside0.mk (below_step (bt) hb); clear HO350 HO353 HO356; clear hb ho14; obtain ⟨Ao15, co15, eo15⟩ := Kd.N_slice HO359.out; subst eo15) | ((with_reducible refine gate_callee (f := 134) rfl ?_); refine goesL_ (some 11) rfl rfl Try.func134 (by kernel_rfl) rfl #[.slice Ao15 y357.length co15] rfl av ?_; (with_reducible refine (slices_Concat_byte_byte.calls _ _ y357 t360 _ ?side1 ?side2 A5.out).mono ?_); (case side1 => exact cv ((Kd.N_reads' HO359.out).2.2)); (case side2 => exact (Kd.N_reads' HO359.out).2.1); rintro e w16 ⟨v361, rfl, ho0, hb⟩; refine ⟨_, rfl, ?_⟩; replace HO359 := Aside0.mk (Kd.N_elder' (mv HO359.out) (Kd.R_base ho0) hb); have HO362 := Aside0.mk (Kd.R_lower ho0 (below_size (bt))); replace HB := Aside0.mk (below_step (bt) hb); (try clear hb); (try clear hb2); (try clear hk); (try clear hi); (try clear ho0)))
 go_ret
 exact ⟨_, by first | rfl | (simp [errW_none, errW_some] <;> rfl) | (simp [*, errW_none, errW_some] <;> rfl), by (with_reducible repeat (first | apply Kd.R_alloc | apply Kd.R_drewN | apply Kd.R_drew)); exact HO362.out, bt⟩

/-! ### impl_isDigest: function 133 -/
def impl_isDigest.f (a0 : Int) (a1 : Int) : Option (Bool) := (impl_bitsOk.f a0).bind fun t363 => (if t363 = true then (if 0 ≤ a0 then ((impl_in.f a1 0 (wrap64 ((shl .i64 1 a0) - 1))).bind fun t364 => (some t364)) else (none)) else (some false))
set_option maxHeartbeats 8000000 in
set_option maxRecDepth 100000 in
theorem impl_isDigest.calls (a0 : Int) (a1 : Int) (r : Bool) (w : World) (h : impl_isDigest.f a0 a1 = some r) :
  Calls Try.prog 133 #[.int .i64 a0, .int .i64 a1] w fun e w' => e = .returned (.bool r) ∧ Drawn0 w w' := by
 have H : ((impl_bitsOk.f a0).bind fun t363 => (if t363 = true then (if 0 ≤ a0 then ((impl_in.f a1 0 (wrap64 ((shl .i64 1 a0) - 1))).bind fun t364 => (some t364)) else (none)) else (some false))) = some r := h
 clear h
 replace H := Option.bind_eq_some_iff.mp H
 obtain ⟨t363, A30, H⟩ := H
 (try dsimp -simprocs only at H)
 have A3 := Aside0.mk A30
 clear A30
 by_cases c4 : t363 = true
 ·subst c4
  rw [if_pos rfl] at H
  by_cases c5 : 0 ≤ a0
  ·rw [if_pos c5] at H
   have c5b0 := eq_true c5
   have c5b1 : decide (0 ≤ a0) = true := decide_eq_true c5
   clear c5
   obtain ⟨ji6, hji6⟩ : ∃ j_ : Int, (shl .i64 1 a0) = j_ := ⟨_, rfl⟩
   replace H : ((impl_in.f a1 0 (wrap64 ((ji6) - 1))).bind fun t364 => (some t364)) = some r := by first | (rw [hji6] at H; exact H) | (simp only [hji6] at H ⊢; exact H)
   (try rw [hji6] at A3)
   have hji6_ : (IntKind.i64.wrap (1 * 2 ^ min a0.toNat 64)) = ji6 := hji6
   have hji6z : a0 ≤ 64 → (IntKind.i64.wrap (1 * 2 ^ a0.toNat)) = ji6 := shl_small hji6
   have hji6u : (IntKind.i64.wrap (2 ^ min a0.toNat 64)) = ji6 := by have h_ := hji6_; rw [Int.one_mul] at h_; exact h_
   have hji6v : a0 ≤ 64 → (IntKind.i64.wrap (2 ^ a0.toNat)) = ji6 := fun hle_ => by have h_ := hji6z hle_; rw [Int.one_mul] at h_; exact h_
   have hji6y : (wrap64 (1 * 2 ^ min a0.toNat 64)) = ji6 := (i64_w _).symm.trans hji6_
   have hji6x : a0 ≤ 64 → (wrap64 (1 * 2 ^ a0.toNat)) = ji6 := fun h_ => (i64_w _).symm.trans (hji6z h_)
   replace H := Option.bind_eq_some_iff.mp H
   obtain ⟨t364, A70, H⟩ := H
   (try dsimp -simprocs only at H)
   have A7 := Aside0.mk A70
   clear A70
   obtain rfl := Option.some.inj H
   go_enter Try.func133, Try.ntmps133
   go_wp2_with (first | ((with_reducible refine gate_callee (f := 103) rfl ?_); refine goesL_ (some 6) rfl rfl Try.func103 (by kernel_rfl) rfl #[.int .i64 a0] rfl av ?_; (with_reducible refine (impl_bitsOk.calls a0 true _ A3.out).mono ?_); rintro e w' ⟨rfl, ⟨nd, rfl⟩⟩; refine ⟨_, rfl, ?_⟩) | (go_at_call 94; (with_reducible refine (impl_in.calls a1 0 (wrap64 ((ji6) - 1)) t364 _ A7.out).mono ?_); rintro e w' ⟨rfl, ⟨nd, rfl⟩⟩))
   go_ret
   exact ⟨by first | rfl | (simp; done) | (simp only [← hji6] <;> (first | rfl | simp)) | (simp [*]; done), by repeat (first | exact Drawn0.refl _ | apply Drawn0.step)⟩
  ·rw [if_neg c5] at H
   exact absurd H (by simp)
 ·replace c4 := Bool.eq_false_iff.mpr c4
  subst c4
  rw [if_neg (show ¬ (false = true) by decide)] at H
  obtain rfl := Option.some.inj H
  go_enter Try.func133, Try.ntmps133
  go_wp2_with (first | ((with_reducible refine gate_callee (f := 103) rfl ?_); refine goesL_ (some 6) rfl rfl Try.func103 (by kernel_rfl) rfl #[.int .i64 a0] rfl av ?_; (with_reducible refine (impl_bitsOk.calls a0 false _ A3.out).mono ?_); rintro e w' ⟨rfl, ⟨nd, rfl⟩⟩; refine ⟨_, rfl, ?_⟩))
  go_ret
  exact ⟨by first | rfl | (simp; done) | (simp [*]; done), by repeat (first | exact Drawn0.refl _ | apply Drawn0.step)⟩

/-! ### impl_NodeOf: function 120 -/
def impl_NodeOf.j0 : Nat → Int → Int → Int → Bool → Option (Int)
 | 0, _, _, _, _ => none
 | k + 1, x0, x1, x2, x16 => if x16 = true then (some (-1)) else ((impl_nodeInput.f k x1 x2).bind fun t367 => ((impl_Digest.f x0 t367).bind fun t370 => (some t370)))
def impl_NodeOf.f (k : Nat) (a0 : Int) (a1 : Int) (a2 : Int) : Option (Int) := (impl_isDigest.f a0 a1).bind fun t365 => (if t365 = true then ((impl_isDigest.f a0 a2).bind fun t366 => (impl_NodeOf.j0 k a0 a1 a2 (!t366))) else (impl_NodeOf.j0 k a0 a1 a2 true))
set_option maxHeartbeats 8000000 in
set_option maxRecDepth 100000 in
theorem impl_NodeOf.calls (k : Nat) (a0 : Int) (a1 : Int) (a2 : Int) (r : Int) (w : World) (h : impl_NodeOf.f k a0 a1 a2 = some r) :
  Calls Try.prog 120 #[.int .i64 a0, .int .i64 a1, .int .i64 a2] w fun e w' => e = .returned (.int .i64 r) ∧ Below w.heap.size w w' := by
 have HB := Aside0.mk (Below.refl w.heap.size w)
 have H : ((impl_isDigest.f a0 a1).bind fun t365 => (if t365 = true then ((impl_isDigest.f a0 a2).bind fun t366 => (impl_NodeOf.j0 k a0 a1 a2 (!t366))) else (impl_NodeOf.j0 k a0 a1 a2 true))) = some r := h
 clear h
 have HC4 := Aside0.mk H
 clear H
 go_enter Try.func120, Try.ntmps120
 go_upto_region 1 with (fail)
 go_cut [16] (fun v16 wc => ∃ (kq : Nat) (x16_3 : Bool), v16 = .bool x16_3 ∧ Aside0 (impl_NodeOf.j0 kq a0 a1 a2 x16_3 = some r) ∧ Aside0 (kq ≤ k) ∧ Aside0 (Below w.heap.size w wc))
 case first =>
  have H := HC4.out
  clear HC4
  replace H := Option.bind_eq_some_iff.mp H
  obtain ⟨t365, A50, H⟩ := H
  (try dsimp -simprocs only at H)
  have A5 := Aside0.mk A50
  clear A50
  by_cases c6 : t365 = true
  ·subst c6
   rw [if_pos rfl] at H
   replace H := Option.bind_eq_some_iff.mp H
   obtain ⟨t366, A70, H⟩ := H
   (try dsimp -simprocs only at H)
   have A7 := Aside0.mk A70
   clear A70
   have H' := Aside0.mk H
   clear H
   go_wp2_with (first | ((with_reducible refine gate_callee (f := 133) rfl ?_); refine goesL_ (some 9) rfl rfl Try.func133 (by kernel_rfl) rfl #[.int .i64 a0, .int .i64 a1] rfl av ?_; (with_reducible refine (impl_isDigest.calls a0 a1 true _ A5.out).mono ?_); rintro e w' ⟨rfl, ⟨nd, rfl⟩⟩; refine ⟨_, rfl, ?_⟩) | (go_at_call 133; (with_reducible refine (impl_isDigest.calls a0 a2 t366 _ A7.out).mono ?_); rintro e w' ⟨rfl, ⟨nd, rfl⟩⟩))
   go_meet
   case rel => exact ⟨_, (!t366), (by first | rfl | (simp; done) | (simp [*]; done)), H', ⟨by first | omega | exact Nat.le_refl _⟩, ⟨bt⟩⟩
  ·replace c6 := Bool.eq_false_iff.mpr c6
   subst c6
   rw [if_neg (show ¬ (false = true) by decide)] at H
   have H' := Aside0.mk H
   clear H
   go_wp2_with (first | ((with_reducible refine gate_callee (f := 133) rfl ?_); refine goesL_ (some 9) rfl rfl Try.func133 (by kernel_rfl) rfl #[.int .i64 a0, .int .i64 a1] rfl av ?_; (with_reducible refine (impl_isDigest.calls a0 a1 false _ A5.out).mono ?_); rintro e w' ⟨rfl, ⟨nd, rfl⟩⟩; refine ⟨_, rfl, ?_⟩))
   go_meet
   case rel => exact ⟨_, (true), (by first | rfl | (simp; done) | (simp [*]; done)), H', ⟨by first | omega | exact Nat.le_refl _⟩, ⟨bt⟩⟩
 case rest =>
  clear HC4
  try clear c1
  try clear p2
  try clear c6
  obtain ⟨kq, x16_3, rfl, HA, HJ3, HB⟩ := hcut
  cases kq with
  | zero => exact absurd HA.out (by simp [impl_NodeOf.j0])
  | succ kj3 =>
   have H := HA.out
   clear HA
   simp only [impl_NodeOf.j0] at H
   by_cases c8 : x16_3 = true
   ·subst c8
    rw [if_pos rfl] at H
    obtain rfl := Option.some.inj H
    go_wp2
    go_ret
    exact ⟨by first | rfl | (simp [errW_none, errW_some] <;> rfl) | (simp [*, errW_none, errW_some] <;> rfl), bt⟩
   ·replace c8 := Bool.eq_false_iff.mpr c8
    subst c8
    rw [if_neg (show ¬ (false = true) by decide)] at H
    replace H := Option.bind_eq_some_iff.mp H
    obtain ⟨t367, A90, H⟩ := H
    (try dsimp -simprocs only at H)
    have A9 := Aside0.mk A90
    clear A90
    replace H := Option.bind_eq_some_iff.mp H
    obtain ⟨t370, A100, H⟩ := H
    (try dsimp -simprocs only at H)
    have A10 := Aside0.mk A100
    clear A100
    obtain rfl := Option.some.inj H
    go_wp2_with (first | ((with_reducible refine gate_callee (f := 108) rfl ?_); refine goesL_ (some 20) rfl rfl Try.func108 (by kernel_rfl) rfl #[.int .i64 a1, .int .i64 a2] rfl av ?_; (with_reducible refine (impl_nodeInput.calls kj3 a1 a2 t367 _ A9.out).mono ?_); rintro e w11 ⟨v368, rfl, ho0, hb⟩; refine ⟨_, rfl, ?_⟩; have HO369 := Aside0.mk (Kd.R_lower ho0 (below_size (bt))); replace HB := Aside0.mk (below_step (bt) hb); (try clear hb); (try clear hb2); (try clear hk); (try clear hi); (try clear ho0); obtain ⟨Ao12, co12, eo12⟩ := Kd.R_slice HO369.out; subst eo12) | ((with_reducible refine gate_callee (f := 56) rfl ?_); refine goesL_ (some 21) rfl rfl Try.func56 (by kernel_rfl) rfl #[.int .i64 a0, .slice Ao12 t367.length co12] rfl av ?_; (with_reducible refine (impl_Digest.calls a0 _ _ t367 t370 _ ?side1 ?side2 A10.out).mono ?_); (case side1 => exact cv ((Kd.R_reads' HO369.out).2.2)); (case side2 => exact (Kd.R_reads' HO369.out).2.1); rintro e w13 ⟨rfl, hb⟩; refine ⟨_, rfl, ?_⟩; replace HO369 := Aside0.mk (Kd.R_below (mv HO369.out) hb); replace HB := Aside0.mk (below_step (bt) hb); (try clear hb); (try clear hb2); (try clear hk); (try clear hi)))
    go_ret
    exact ⟨by first | rfl | (simp [errW_none, errW_some] <;> rfl) | (simp [*, errW_none, errW_some] <;> rfl), bt⟩

end Go.Proofs.Ytchjajbkaiefdaa.PFnExactFirstLiar
