-- Written by a program of this workplace (wip/mp.py) out of the translation.
import Derived.Test.YthaoloacbbohlaaPFnInterpolatedx0
import Derived.Test.YthaoloacbbohlaaPFnInterpolatedx1
namespace Go.Proofs.Ythaoloacbbohlaa.PFnInterpolated
open Go.RowKit Go.Proofs.YthaoloacbbohlaaW.PrintWords Go.Proofs.YthaoloacbbohlaaW.PrintLast Go.Proofs.YthaoloacbbohlaaW.PrintMore Go.Proofs.Ythaoloacbbohlaa.Slim
attribute [local go_sem] max2_int min2_int max_two min_two max_three min_three max_four min_four   -- for this text's walks alone
set_option linter.unusedVariables false
set_option linter.unusedSimpArgs false

/-! ### impl_GfDot: function 31 -/
def impl_GfDot.l0 : Nat → List Int → Int → List Int → Int → Int → Option (Int × Bool)
 | 0, _, _, _, _, _ => none
 | k + 1, x1, x6, x14, x15, x16 => if x16 < x15 then (if 0 ≤ x16 then (if x16 < (x14.length : Int) then (if x16 < (x1.length : Int) then ((impl_GfMul.f k (rd x14 x16) (rd x1 x16)).bind fun t168 => (impl_GfDot.l0 k x1 (Go.bits .xor .u8 x6 t168) x14 x15 (wrap64 (x16 + 1)))) else (none)) else (none)) else (none)) else (some (x6, true))
def impl_GfDot.f (k : Nat) (l0 : List Int) (l1 : List Int) : Option (Int × Bool) := if (l0.length : Int) = (l1.length : Int) then (impl_GfDot.l0 k l1 0 l0 (l0.length : Int) 0) else (some (0, false))
set_option maxHeartbeats 8000000 in
set_option maxRecDepth 100000 in
theorem impl_GfDot.calls (k : Nat) (A0 : Option Addr) (c0 : Nat) (l0 : List Int) (A1 : Option Addr) (c1 : Nat) (l1 : List Int) (r1 : Int) (r2 : Bool) (w : World) (hr0 : Kd.C (Kd.int .u8) w A0 l0.length l0) (hc0 : l0.length ≤ c0) (hr1 : Kd.C (Kd.int .u8) w A1 l1.length l1) (hc1 : l1.length ≤ c1) (h : impl_GfDot.f k l0 l1 = some (r1, r2)) :
  Calls Try.prog 31 #[.slice A0 l0.length c0, .slice A1 l1.length c1] w fun e w' => e = .returned (.tuple #[.int .u8 r1, .bool r2]) ∧ Drawn0 w w' := by
 have HR0 := Aside0.mk hr0
 have HC0 := Aside0.mk hc0
 clear hr0 hc0
 have HR1 := Aside0.mk hr1
 have HC1 := Aside0.mk hc1
 clear hr1 hc1
 have H : (if (l0.length : Int) = (l1.length : Int) then (impl_GfDot.l0 k l1 0 l0 (l0.length : Int) 0) else (some (0, false))) = some (r1, r2) := h
 clear h
 by_cases c3 : (l0.length : Int) = (l1.length : Int)
 ·rw [if_pos c3] at H
  have c3b0 : ((l0.length : Int) == (l1.length : Int)) = true := beq_iff_eq.mpr c3
  have c3b1 : ((l0.length : Int) != (l1.length : Int)) = false := bne_eq_false_iff_eq.mpr c3
  have c3b2 : (l0.length == l1.length) = true := by first | simpa using c3 | (simp at c3 ⊢; omega)
  clear c3
  have H' := Aside0.mk H
  clear H
  go_enter Try.func31, Try.ntmps31
  go_wp2
  go_loopg [6, 16] k (fun kq v6 v16 w' => ∃ (x6_1 : Int) (x16_1 : Int), v6 = .int .u8 x6_1 ∧ v16 = .int .i64 x16_1 ∧ Aside0 (impl_GfDot.l0 kq l1 x6_1 l0 (l0.length : Int) x16_1 = some (r1, r2)) ∧ Aside0 (kq ≤ k) ∧ Drawn0 w w')
  case atStart => exact ⟨(0), (0), (by first | rfl | (simp; done) | (simp [*]; done)), (by first | rfl | (simp; done) | (simp [*]; done)), H', ⟨Nat.le_refl _⟩, by repeat (first | exact Drawn0.refl _ | apply Drawn0.step)⟩
  case round =>
   clear H'
   try clear c1
   try clear p2
   try clear c3
   try clear c3b0
   try clear c3b1
   try clear c3b2
   obtain ⟨x6_1, x16_1, rfl, rfl, HA, HK1, ⟨m1, rfl⟩⟩ := hrel
   cases gk with
   | zero => exact absurd HA.out (by simp [impl_GfDot.l0])
   | succ k1 =>
    have H := HA.out
    clear HA
    simp only [impl_GfDot.l0] at H
    by_cases c4 : x16_1 < (l0.length : Int)
    ·rw [if_pos c4] at H
     have c4b0 : decide (x16_1 < (l0.length : Int)) = true := decide_eq_true c4
     clear c4
     by_cases c5 : 0 ≤ x16_1
     ·rw [if_pos c5] at H
      have c5b0 : decide (0 ≤ x16_1) = true := decide_eq_true c5
      clear c5
      by_cases c6 : x16_1 < (l0.length : Int)
      ·rw [if_pos c6] at H
       have c6b0 : decide (x16_1 < (l0.length : Int)) = true := decide_eq_true c6
       clear c6
       by_cases c7 : x16_1 < (l1.length : Int)
       ·rw [if_pos c7] at H
        have c7b0 : decide (x16_1 < (l1.length : Int)) = true := decide_eq_true c7
        clear c7
        replace H := Option.bind_eq_some_iff.mp H
        obtain ⟨t168, A80, H⟩ := H
        (try dsimp -simprocs only at H)
        have A8 := Aside0.mk A80
        clear A80
        have H' := Aside0.mk H
        clear H
        have p166 : 0 ≤ (x16_1 : Int) := of_decide_eq_true asm
        have q166 : x16_1 < (l0.length : Int) := of_decide_eq_true asm
        obtain ⟨ad166, e166, hx166_0⟩ := Kd.at_int HR0.out x16_1 p166 q166
        cases e166
        replace p166 := eq_true p166
        replace q166 := eq_true q166
        have p167 : 0 ≤ (x16_1 : Int) := of_decide_eq_true asm
        have q167 : x16_1 < (l1.length : Int) := of_decide_eq_true asm
        obtain ⟨ad167, e167, hx167_0⟩ := Kd.at_int HR1.out x16_1 p167 q167
        cases e167
        replace p167 := eq_true p167
        replace q167 := eq_true q167
        go_wp2_with (first | ((with_reducible refine gate_callee (f := 58) rfl ?_); refine goesL_ (some 27) rfl rfl Try.func58 (by kernel_rfl) rfl #[.int .u8 (rd l0 x16_1), .int .u8 (rd l1 x16_1)] rfl av ?_; (with_reducible refine (impl_GfMul.calls k1 (rd l0 x16_1) (rd l1 x16_1) t168 _ A8.out).mono ?_); rintro e w' ⟨rfl, ⟨nd, rfl⟩⟩; refine ⟨_, rfl, ?_⟩))
        go_roundg k1
        case measure => have := HK1.out; omega
        case rel => exact ⟨(Go.bits .xor .u8 x6_1 t168), (wrap64 (x16_1 + 1)), (by first | rfl | (simp; done) | (simp [*]; done)), (by first | rfl | (simp; done) | (simp [*]; done)), H', ⟨by have := HK1.out; omega⟩, by repeat (first | exact Drawn0.refl _ | apply Drawn0.step)⟩
       ·rw [if_neg c7] at H
        exact absurd H (by simp)
      ·rw [if_neg c6] at H
       exact absurd H (by simp)
     ·rw [if_neg c5] at H
      exact absurd H (by simp)
    ·rw [if_neg c4] at H
     have c4b0 : decide (x16_1 < (l0.length : Int)) = false := decide_eq_false c4
     clear c4
     simp only [Option.some.injEq, Prod.mk.injEq] at H
     obtain ⟨rfl, rfl⟩ := H
     go_wp2
     go_ret2
     exact ⟨by first | rfl | (simp; done) | (simp [*]; done), by repeat (first | exact Drawn0.refl _ | apply Drawn0.step)⟩
 ·rw [if_neg c3] at H
  have c3b0 : ((l0.length : Int) == (l1.length : Int)) = false := beq_eq_false_iff_ne.mpr c3
  have c3b1 : ((l0.length : Int) != (l1.length : Int)) = true := bne_iff_ne.mpr c3
  have c3b2 : (l0.length == l1.length) = false := by first | simpa using c3 | (simp at c3 ⊢; omega)
  simp only [Option.some.injEq, Prod.mk.injEq] at H
  obtain ⟨rfl, rfl⟩ := H
  go_enter Try.func31, Try.ntmps31
  go_wp2
  go_ret2
  exact ⟨by first | rfl | (simp; done) | (simp [*]; done), by repeat (first | exact Drawn0.refl _ | apply Drawn0.step)⟩

/-! ### impl_in: function 53 -/
def impl_in.f (a0 : Int) (a1 : Int) (a2 : Int) : Option (Bool) := if a0 ≥ a1 then (some (decide (a0 ≤ a2))) else (some false)
set_option maxHeartbeats 8000000 in
set_option maxRecDepth 100000 in
theorem impl_in.calls (a0 : Int) (a1 : Int) (a2 : Int) (r : Bool) (w : World) (h : impl_in.f a0 a1 a2 = some r) :
  Calls Try.prog 53 #[.int .i64 a0, .int .i64 a1, .int .i64 a2] w fun e w' => e = .returned (.bool r) ∧ Drawn0 w w' := by
 have H : (if a0 ≥ a1 then (some (decide (a0 ≤ a2))) else (some false)) = some r := h
 clear h
 by_cases c4 : a0 ≥ a1
 ·rw [if_pos c4] at H
  have c4b0 : decide (a1 ≤ a0) = true := decide_eq_true c4
  clear c4
  obtain rfl := Option.some.inj H
  go_enter Try.func53, Try.ntmps53
  go_wp2
  go_ret
  exact ⟨by first | rfl | (simp; done) | (simp [*]; done), by repeat (first | exact Drawn0.refl _ | apply Drawn0.step)⟩
 ·rw [if_neg c4] at H
  have c4b0 : decide (a1 ≤ a0) = false := decide_eq_false c4
  clear c4
  obtain rfl := Option.some.inj H
  go_enter Try.func53, Try.ntmps53
  go_wp2
  go_ret
  exact ⟨by first | rfl | (simp; done) | (simp [*]; done), by repeat (first | exact Drawn0.refl _ | apply Drawn0.step)⟩

/-! ### slices_Clone_byte_byte: function 54 -/
def slices_Clone_byte_byte.f (l0 : List Int) : Option (List Int) := if l0.length < 140737488355328 then some l0 else none
set_option maxHeartbeats 4000000 in
set_option maxRecDepth 100000 in
theorem slices_Clone_byte_byte.calls (A0 : Option Addr) (c0 : Nat) (l0 : List Int) (r : List Int) (w : World) (hr0 : Kd.C (Kd.int .u8) w A0 l0.length l0) (hc0 : l0.length ≤ c0) (h : slices_Clone_byte_byte.f l0 = some r) :
  Calls Try.prog 54 #[.slice A0 l0.length c0] w fun e w' => ∃ v0_ : Value, e = .returned (v0_) ∧ Kd.R (Kd.int .u8) 5 w' w.heap.size (fun _ => True) v0_ r ∧ Below w.heap.size w w' := by
 unfold slices_Clone_byte_byte.f at h
 by_cases hl : l0.length < 140737488355328
 ·rw [if_pos hl] at h
  obtain rfl := Option.some.inj h
  have HR0 := Aside0.mk hr0
  have LM := Aside0.mk hl
  have hq := fun W : World => Go.Lib.run_eql_slice_nil (P := Try.prog) W 24 5 A0 l0.length c0 0 0 Try.underlying24
  clear hr0 h hl
  cases A0 with
  | none =>
   have hz : l0 = [] := by
    obtain ⟨_, _, h3⟩ := HR0.out
    cases l0 with
    | nil => rfl
    | cons x l =>
     obtain ⟨ad, e, _⟩ := h3 (by simp)
     cases e
   have HZ := Aside0.mk hz
   clear hz
   have hq1 := hq
   simp only [Option.isNone_none] at hq1
   clear hq
   go_enter Try.func54, Try.ntmps54
   go_wp2
   go_ret
   exact ⟨_, rfl, by rw [HZ.out]; exact Kd.R_nil _ _ _ _ _, Below.refl _ _⟩
  | some ad =>
   have hq1 := hq
   simp only [Option.isNone_some] at hq1
   clear hq
   have HB := Aside0.mk (Below.refl w.heap.size w)
   go_enter Try.func54, Try.ntmps54
   go_wp2_with (first | ((with_reducible refine gate_dst (N := 5) rfl ?_); refine Kd.R_lit (Kd.int .u8) _ 5 ?hg (N := 5) ?hd (xs := ([] : List Int)) (inner := []) (ok := fun _ => True) (okp := fun _ => True) ?hr ?hp (fun _ hk => hk) trivial (Below.refl _ _) (Nat.le_refl _) (by simp) ?_; (case hd => rfl); (case hg => rfl); (case hr => first | (go_simp; done) | (go_simp; rfl)); (case hp => exact (Reps.none _ _)); intro v166 w3 ho4 hb hg_ hnew_; clear hg_ hnew_; have HO167 := Aside0.mk (Kd.R_lower ho4 (below_size (bt))); replace HB := Aside0.mk (below_step (bt) hb); clear hb ho4) | ((with_reducible refine gate_builtin (b := .append) (xs := #[.tmp 5, .tmp 6]) rfl ?_); at_builtin; refine Kd.R_append_rows (Kd.int .u8) (w0 := w) w.heap.size rfl (.tmp 5) (.tmp 6) 24 5 (.int .u8 0) 1 rfl Try.underlying24 info5 rfl (by decide) (by omega) v166 [] l0 _ _ _ (fun _ => True) (fun _ => False) rfl rfl ?aO ?aR (fun _ _ h => h) (fun _ h => h.elim) ?aF ?aB ?aS ?aL ?_; (case aR => exact (Kd.C_below HR0.out HB.out)); (case aB => exact HB.out); (case aF => exact (fun _ _ => trivial)); (case aO => exact HO167.out); (case aS => exact (below_size HB.out)); (case aL => have := LM.out; simp; omega); intro v169 w5 ho hb hg hat; replace HB := Aside0.mk (hb); have HO170 := Aside0.mk (ho); clear HO167; clear ho hb hg hat))
   go_ret
   exact ⟨_, rfl, HO170.out, HB.out⟩
 ·rw [if_neg hl] at h
  cases h

/-! ### impl_distinct: function 75 -/
/-- Of each run of alike numbers the first. -/
def compact : List Int → List Int
 | x :: y :: l => if x = y then compact (y :: l) else x :: compact (y :: l)
 | l => l
theorem compact_snoc (l : List Int) (x u : Int) : ∃ v, (l ++ [x]).getD l.length 0 = x ∧ v = compact (l ++ [x]) ∧ compact (l ++ [x, u]) = if x = u then v else v ++ [u] := by
 induction l with
 | nil =>
  refine ⟨[x], rfl, rfl, ?_⟩
  by_cases h : x = u
  ·subst h; simp [compact]
  ·simp [compact, h]
 | cons a l ih =>
  obtain ⟨v, h1, h2, h3⟩ := ih
  refine ⟨_, by simp, rfl, ?_⟩
  cases l with
  | nil =>
   by_cases h : a = x
   ·subst h
    by_cases h4 : a = u
    ·subst h4; simp [compact]
    ·simp [compact, h4]
   ·by_cases h4 : x = u
    ·subst h4; simp [compact, h]
    ·simp [compact, h, h4]
  | cons c l =>
   simp only [List.cons_append] at h2 h3 ⊢
   unfold compact
   by_cases h : a = c
   ·rw [if_pos h, if_pos h, ← h2, h3]
   ·rw [if_neg h, if_neg h, ← h2, h3]
    by_cases h4 : x = u
    ·rw [if_pos h4, if_pos h4]
    ·rw [if_neg h4, if_neg h4]; rfl
theorem take_two (xs : List Int) (m : Nat) (h : m + 1 < xs.length) : xs.take (m + 2) = xs.take m ++ [xs.getD m 0, xs.getD (m + 1) 0] ∧ xs.take (m + 1) = xs.take m ++ [xs.getD m 0] := by
 have e1 : xs.take (m + 1) = xs.take m ++ [xs.getD m 0] := by
  rw [List.take_succ_eq_append_getElem (by omega), List.getD_eq_getElem?_getD, List.getElem?_eq_getElem (by omega)]; rfl
 have e2 : xs.take (m + 2) = xs.take (m + 1) ++ [xs.getD (m + 1) 0] := by
  rw [List.take_succ_eq_append_getElem (by omega), List.getD_eq_getElem?_getD, List.getElem?_eq_getElem (by omega)]; rfl
 refine ⟨?_, e1⟩
 rw [e2, e1, List.append_assoc]
 rfl
theorem compact_take (xs : List Int) (m : Nat) (h : m + 1 < xs.length) : compact (xs.take (m + 2)) = if xs.getD (m + 1) 0 = xs.getD m 0 then compact (xs.take (m + 1)) else compact (xs.take (m + 1)) ++ [xs.getD (m + 1) 0] := by
 obtain ⟨e1, e2⟩ := take_two xs m h
 obtain ⟨v, _, h2, h3⟩ := compact_snoc (xs.take m) (xs.getD m 0) (xs.getD (m + 1) 0)
 rw [e1, e2, h3, h2]
 by_cases h4 : xs.getD m 0 = xs.getD (m + 1) 0
 ·rw [if_pos h4, if_pos h4.symm]
 ·rw [if_neg h4, if_neg (fun e => h4 e.symm)]
/-- No two neighbours among the first are alike. -/
theorem compact_none (xs : List Int) : ∀ m : Nat, m + 1 ≤ xs.length → (∀ j, j + 1 ≤ m → xs.getD (j + 1) 0 ≠ xs.getD j 0) → compact (xs.take (m + 1)) = xs.take (m + 1) := by
 intro m
 induction m with
 | zero =>
  intro h _
  match xs, h with
  | x :: xs, _ => rfl
 | succ m ih =>
  intro h hn
  rw [compact_take xs m (by omega), if_neg (hn m (by omega)), ih (by omega) (fun j hj => hn j (by omega))]
  obtain ⟨e1, e2⟩ := take_two xs m (by omega)
  rw [e1, e2, List.append_assoc]
  rfl
theorem compact_short {xs : List Int} (h : xs.length < 2) : compact xs = xs := by
 match xs, h with
 | [], _ => rfl
 | [x], _ => rfl
theorem wrap_small {z : Int} (h0 : 0 ≤ z) (h1 : z ≤ 9223372036854775807) : IntKind.i64.wrap z = z := by
 rw [IntKind.wrap_i64]
 omega
theorem cell_R {w : World} {base g n cap : Nat} {ok : Nat → Prop} {xs : List Int} (h : (Kd.int .u8).R 5 w base ok (.slice (some ⟨g, 0, none⟩) n cap) xs) (i : Nat) (hi : i < xs.length) :
  w.cell? ⟨g, i, none⟩ = some (.int .u8 (xs.getD i 0)) ∧ w.frozen? ⟨g, i, none⟩ = false := by
 obtain ⟨g', cap', hv, hb, hl, cells, hc⟩ := Kd.R_form h (by omega)
 injection hv with hv1 hv2 hv3
 injection hv1 with hv1
 injection hv1 with hv1
 subst hv1
 obtain ⟨_, _, hC⟩ := Kd.R_reads' h
 obtain ⟨ad, c, e, hlen, hK, hcell⟩ := ReadsRow.get_ hC (0 : Int) (i : Int) (Int.natCast_nonneg i) (by omega)
 injection e with e
 subst e
 have hK' : c = [.int .u8 (xs.getD i 0)] := by
  rw [Int.toNat_natCast] at hK
  exact hK
 subst hK'
 have h4 := hcell 0 _ rfl
 refine ⟨?_, blk_frozen hc i⟩
 rw [Int.toNat_natCast] at h4
 have e1 : (Addr.mk g 0 none).add (i * (Kd.int .u8).sz + 0) = ⟨g, i, none⟩ := by
  have e2 : i * (Kd.int .u8).sz + 0 = i := Nat.mul_one i
  rw [e2]
  cases i <;> simp [Addr.add]
 rw [e1] at h4
 exact h4
theorem R_setCells {base g cap n : Nat} {ok : Nat → Prop} {w0 : World} (hg : base ≤ g) (m : Nat) : ∀ (w : World) (xs : List Int) (i : Nat), (Kd.int .u8).R 5 w base ok (.slice (some ⟨g, 0, none⟩) n cap) xs → Below base w0 w →
  ∃ ys, (Kd.int .u8).R 5 (w.setCells g i (List.replicate m (.int .u8 0))) base ok (.slice (some ⟨g, 0, none⟩) n cap) ys ∧ ys.take i = xs.take i ∧ ys.length = xs.length ∧ Below base w0 (w.setCells g i (List.replicate m (.int .u8 0))) := by
 induction m with
 | zero => intro w xs i h hb; exact ⟨xs, h, rfl, rfl, hb⟩
 | succ m ih =>
  intro w xs i h hb
  have h1 := Kd.R_putn h ((i : Nat) : Int) (0 : Int)
  rw [Int.toNat_natCast] at h1
  obtain ⟨ys, h2, h3, h4, h5⟩ := ih (w.setCell ⟨g, i, none⟩ (.int .u8 0)) (xs.set i 0) (i + 1) h1 (hb.setCell hg _)
  refine ⟨ys, h2, ?_, by rw [h4, List.length_set], h5⟩
  have h6 := congrArg (List.take i) h3
  rw [List.take_take, List.take_take, Nat.min_eq_left (by omega), List.take_set] at h6
  rw [h6]
  exact List.set_eq_of_length_le (by rw [List.length_take]; omega)
theorem take_put (ys : List Int) (k : Nat) (a : Int) (h : k < ys.length) : (ys.set k a).take (k + 1) = ys.take k ++ [a] := by
 rw [List.take_succ_eq_append_getElem (by rw [List.length_set]; exact h), List.getElem_set_self, List.take_set, List.set_eq_of_length_le (by rw [List.length_take]; omega)]
set_option maxHeartbeats 4000000 in
set_option maxRecDepth 100000 in
theorem compact_walk (g cap n base : Nat) (ok : Nat → Prop) (xs : List Int) (w0 w : World) (hr : (Kd.int .u8).R 5 w base ok (.slice (some ⟨g, 0, none⟩) n cap) xs) (hn : n = xs.length) (hm : n ≤ 1000000) (hc : n ≤ cap) (hB : Below base w0 w) (hg : base ≤ g) :
  Calls Try.prog 90 #[.slice (some ⟨g, 0, none⟩) n cap] w fun e w' => e = .returned (.slice (some ⟨g, 0, none⟩) (compact xs).length cap) ∧ (Kd.int .u8).R 5 w' base ok (.slice (some ⟨g, 0, none⟩) (compact xs).length cap) (compact xs) ∧ Below base w0 w' := by
 have HR := Aside0.mk hr
 have HB := Aside0.mk hB
 have HN := Aside0.mk hn
 have HM := Aside0.mk hm
 have HC := Aside0.mk hc
 clear hr hB hn hm hc
 by_cases h2 : n < 2
 ·have c2 : decide (n < 2) = true := decide_eq_true h2
  have c3 : decide ((n : Int) < 2) = true := decide_eq_true (by omega)
  have e : compact xs = xs := compact_short (by have := HN.out; omega)
  rw [e]
  clear h2 e
  go_enter Try.func90, Try.ntmps90
  go_wp2
  go_ret
  exact ⟨by rw [HN.out]; rfl, by have h := HR.out; rw [HN.out] at h; exact h, HB.out⟩
 ·have c2 : decide (n < 2) = false := decide_eq_false h2
  have c3 : decide ((n : Int) < 2) = false := decide_eq_false (by omega)
  have H2 := Aside0.mk h2
  clear h2
  go_enter Try.func90, Try.ntmps90
  go_wp2
  go_loopw [3] (fun i wr => ∃ k : Nat, i = .int .i64 ((k : Int) + 1) ∧ Aside0 (k + 1 ≤ n) ∧ Aside0 (∀ j, j + 1 ≤ k → xs.getD (j + 1) 0 ≠ xs.getD j 0) ∧ Aside0 ((Kd.int .u8).R 5 wr base ok (.slice (some ⟨g, 0, none⟩) n cap) xs) ∧ Aside0 (Below base w0 wr)) (fun i _ => n - (intOf i).toNat)
  case atStart => exact ⟨0, by go_num, ⟨by have := H2.out; omega⟩, ⟨fun j hj => by omega⟩, HR, HB⟩
  case round =>
   obtain ⟨k, rfl, HK, HX, HR1, HB1⟩ := hrel
   have p1 : 0 ≤ (k : Int) := Int.natCast_nonneg k
   have p2 : (k : Int) ≤ 1000000 := by have := HK.out; have := HM.out; omega
   have p3 : 0 ≤ (k : Int) + 1 := by omega
   have p4 : IntKind.i64.wrap (k : Int) = (k : Int) := wrap_small p1 (by omega)
   by_cases hlt : k + 1 < n
   ·have d1 : decide ((k : Int) + 1 < (n : Int)) = true := decide_eq_true (by omega)
    have q1 : (k : Int) + 1 < (n : Int) := by omega
    have q2 : (k : Int) < (n : Int) := by omega
    have HL := Aside0.mk hlt
    obtain ⟨x1, f1⟩ := cell_R HR1.out (k + 1) (by have := HN.out; omega)
    obtain ⟨x0, f0⟩ := cell_R HR1.out k (by have := HN.out; omega)
    clear hlt
    obtain ⟨u, hu⟩ : ∃ u, u = xs.getD (k + 1) 0 := ⟨_, rfl⟩
    obtain ⟨v, hv⟩ : ∃ v, v = xs.getD k 0 := ⟨_, rfl⟩
    rw [← hu] at x1
    rw [← hv] at x0
    have HU := Aside0.mk hu
    have HV := Aside0.mk hv
    clear hu hv
    by_cases huv : u = v
    ·have e1 : (u == v) = true := beq_iff_eq.mpr huv
     have HE := Aside0.mk huv
     clear huv
     --L2
     have q3 : k + 1 ≤ n := by have := HL.out; omega
     have q4 : k + 1 ≤ cap := by have := HL.out; have := HC.out; omega
     have q5 : (k : Int) + 1 ≤ (n : Int) := by have := HL.out; omega
     have q6 : (k : Int) + 1 ≤ (cap : Int) := by have := HL.out; have := HC.out; omega
     have q7 : ¬ cap = k + 1 := by have := HL.out; have := HC.out; omega
     have q8 : k + 1 < cap := by omega
     have q9 : (k : Int) + 1 < (cap : Int) := by omega
     go_wp2
     go_still (by kernel_rfl)
     go_wp2
     clear x0 x1 f0 f1
     go_loopw [3, 5] (fun s i wr => ∃ (kk j : Nat) (ys : List Int), s = .int .i64 ((kk : Int) + 1) ∧ i = .int .i64 ((j : Int) + 1) ∧ Aside0 (k + j + 2 ≤ n) ∧ Aside0 (kk ≤ k + j) ∧ Aside0 (ys.length = n) ∧ Aside0 (ys.take (kk + 1) = compact (xs.take (k + j + 2))) ∧ Aside0 (∀ a, kk + 1 ≤ a → ys.getD a 0 = xs.getD a 0) ∧ Aside0 ((Kd.int .u8).R 5 wr base ok (.slice (some ⟨g, 0, none⟩) n cap) ys) ∧ Aside0 (Below base w0 wr)) (fun _ i _ => n - (intOf i).toNat)
     case atStart =>
      refine ⟨k, 0, xs, rfl, by go_num, ⟨HL.out⟩, ⟨Nat.le_refl _⟩, ⟨HN.out.symm⟩, ⟨?_⟩, ⟨fun a _ => rfl⟩, ⟨Kd.R_drew HR1.out⟩, ⟨below_drew HB1.out⟩⟩
      have hL := HL.out
      have hN := HN.out
      rw [show k + 0 + 2 = k + 2 from rfl, compact_take xs k (by omega), if_pos (by rw [← HU.out, ← HV.out]; exact HE.out), compact_none xs k (by omega) HX.out]
     case round =>
      obtain ⟨kk, j, ys, rfl, rfl, HJ, HKK, HYL, HT, HH, HR2, HB2⟩ := hrel
      have r1 : 0 ≤ (j : Int) := Int.natCast_nonneg j
      have r2 : (j : Int) ≤ 1000000 := by have := HJ.out; have := HM.out; omega
      have r3 : 0 ≤ (j : Int) + 1 := by omega
      have r4 : IntKind.i64.wrap (j : Int) = (j : Int) := wrap_small r1 (by omega)
      have s1 : 0 ≤ (kk : Int) := Int.natCast_nonneg kk
      have s2 : (kk : Int) ≤ 1000000 := by have := HKK.out; have := HJ.out; have := HM.out; omega
      have s3 : 0 ≤ (kk : Int) + 1 := by omega
      by_cases hlt : k + j + 2 < n
      ·have d2 : decide ((j : Int) + 1 < ((n - (k + 1) : Nat) : Int)) = true := decide_eq_true (by omega)
       have t1 : (j : Int) + 1 < ((n - (k + 1) : Nat) : Int) := by omega
       have t2 : (j : Int) < ((n - (k + 1) : Nat) : Int) := by omega
       have t3 : (kk : Int) + 1 < (n : Int) := by have := HKK.out; omega
       have HLT := Aside0.mk hlt
       obtain ⟨x1, f1⟩ := cell_R HR2.out (k + 1 + (j + 1)) (by have := HYL.out; omega)
       obtain ⟨x0, f0⟩ := cell_R HR2.out (k + 1 + j) (by have := HYL.out; omega)
       obtain ⟨xk, fk⟩ := cell_R HR2.out (kk + 1) (by have := HYL.out; have := HKK.out; omega)
       rw [HH.out _ (by have := HKK.out; omega)] at x1 x0
       clear hlt
       obtain ⟨a, ha⟩ : ∃ a, a = xs.getD (k + 1 + (j + 1)) 0 := ⟨_, rfl⟩
       obtain ⟨b, hb⟩ : ∃ b, b = xs.getD (k + 1 + j) 0 := ⟨_, rfl⟩
       obtain ⟨d, hd⟩ : ∃ d, d = ys.getD (kk + 1) 0 := ⟨_, rfl⟩
       rw [← ha] at x1
       rw [← hb] at x0
       rw [← hd] at xk
       have HA := Aside0.mk ha
       have HBB := Aside0.mk hb
       clear ha hb hd
       by_cases hab : a = b
       ·have e2 : (a != b) = false := bne_eq_false_iff_eq.mpr hab
        have HE2 := Aside0.mk hab
        clear hab
        go_wp2
        go_still (by kernel_rfl)
        go_wp2
        go_roundw
        case rel =>
         refine ⟨kk, j + 1, ys, rfl, by go_num, ⟨by have := HLT.out; omega⟩, ⟨by have := HKK.out; omega⟩, HYL, ⟨?_⟩, HH, ⟨Kd.R_drew HR2.out⟩, ⟨below_drew HB2.out⟩⟩
         have hL := HLT.out
         have hN := HN.out
         have hc := compact_take xs (k + j + 1) (by omega)
         rw [show k + (j + 1) + 2 = k + j + 1 + 2 by omega, hc, if_pos (by have := HE2.out; rw [HA.out, HBB.out] at this; rw [show k + j + 1 + 1 = k + 1 + (j + 1) by omega, show k + j + 1 = k + 1 + j by omega]; exact this)]
         exact HT.out
        case measure => have := HLT.out; simp [intOf]; omega
       ·have e2 : (a != b) = true := bne_iff_ne.mpr hab
        have HE2 := Aside0.mk hab
        clear hab
        go_wp2
        go_still (by kernel_rfl)
        go_wp2
        go_roundw
        case rel =>
         have hL := HLT.out
         have hN := HN.out
         have hK := HKK.out
         have hY := HYL.out
         have h := Kd.R_putn HR2.out ((kk + 1 : Nat) : Int) a
         rw [Int.toNat_natCast] at h
         refine ⟨kk + 1, j + 1, ys.set (kk + 1) a, by go_num, by go_num, ⟨by omega⟩, ⟨by omega⟩, ⟨by rw [List.length_set]; exact hY⟩, ⟨?_⟩, ⟨fun z hz => ?_⟩, ⟨Kd.R_drew h⟩, ⟨below_drew (HB2.out.setCell hg _)⟩⟩
         ·have hc := compact_take xs (k + j + 1) (by omega)
          rw [take_put ys (kk + 1) a (by omega), HT.out, show k + (j + 1) + 2 = k + j + 1 + 2 by omega, hc, if_neg (by have := HE2.out; rw [HA.out, HBB.out] at this; rw [show k + j + 1 + 1 = k + 1 + (j + 1) by omega, show k + j + 1 = k + 1 + j by omega]; exact this), HA.out, show k + j + 1 + 1 = k + 1 + (j + 1) by omega]
         ·rw [List.getD_eq_getElem?_getD, List.getElem?_set_ne (by omega), ← List.getD_eq_getElem?_getD]
          exact HH.out z (by omega)
        case measure => have := HLT.out; simp [intOf]; omega
      ·have d2 : decide ((j : Int) + 1 < ((n - (k + 1) : Nat) : Int)) = false := decide_eq_false (by have := HJ.out; omega)
       have em : k + j + 2 = n := by have := HJ.out; omega
       have t3 : kk + 1 < n := by have := HKK.out; omega
       have t4 : kk + 1 ≤ n := by omega
       have t5 : kk + 1 ≤ cap := by have := HC.out; omega
       have t6 : ¬ cap = kk + 1 := by have := HC.out; omega
       have t7 : (kk : Int) + 1 < (n : Int) := by omega
       have t8 : (kk : Int) + 1 < (cap : Int) := by have := HC.out; omega
       have t9 : (kk : Int) + 1 ≤ (n : Int) := by omega
       have t10 : (kk : Int) + 1 ≤ (cap : Int) := by omega
       have hY := HYL.out
       have hcl : ∀ ty, (Builtin.clear_ #[24] ty #[.slice (some ⟨g, kk + 1, none⟩) (n - (kk + 1)) (cap - (kk + 1))]).run Try.prog wr = .ok (.tuple #[]) (wr.setCells g (kk + 1) (List.replicate (n - (kk + 1)) (.int .u8 0))) := fun ty =>
        Go.Lib.run_clear_slice wr 24 5 ty _ Try.underlying24 Try.zeroValue5 rfl rfl g (kk + 1) _ _ (by omega) (fun z hz => by rw [(cell_R HR2.out (kk + 1 + z) (by omega)).1]; rfl) (fun z hz => (cell_R HR2.out (kk + 1 + z) (by omega)).2)
       have HEM := Aside0.mk em
       have HY2 := Aside0.mk hY
       clear hlt em hY
       go_wp2
       go_ret
       have hT := HT.out
       rw [HEM.out, List.take_of_length_le (l := xs) (by have := HN.out; omega)] at hT
       have hlen : (compact xs).length = kk + 1 := by
        rw [← hT, List.length_take, HY2.out]
        omega
       obtain ⟨zs, z1, z2, z3, z4⟩ := R_setCells hg (n - (kk + 1)) wr ys (kk + 1) HR2.out HB2.out
       have z5 := Kd.R_take z1 (m := kk + 1) (by rw [z3, HY2.out]; omega)
       rw [z2, hT] at z5
       rw [hlen]
       exact ⟨rfl, z5, z4⟩
    ·have e1 : (u == v) = false := beq_eq_false_iff_ne.mpr huv
     have HE := Aside0.mk huv
     clear huv
     go_wp2
     go_still (by kernel_rfl)
     go_wp2
     go_roundw
     case rel =>
      refine ⟨k + 1, by go_num, ⟨HL.out⟩, ⟨fun j hj => ?_⟩, ⟨Kd.R_drew HR1.out⟩, ⟨below_drew HB1.out⟩⟩
      by_cases e : j = k
      ·subst e
       have := HE.out
       rw [HU.out, HV.out] at this
       exact this
      ·exact HX.out j (by omega)
     case measure => have := HL.out; simp [intOf]; omega
   ·have d1 : decide ((k : Int) + 1 < (n : Int)) = false := decide_eq_false (by omega)
    have ek : k + 1 = n := by have := HK.out; omega
    have hc := compact_none xs k (by have := HN.out; omega) HX.out
    rw [List.take_of_length_le (by have := HN.out; omega)] at hc
    have HCE := Aside0.mk hc
    clear hlt ek hc
    go_wp2
    go_ret
    exact ⟨by rw [HCE.out, HN.out]; rfl, by have h := HR1.out; rw [HCE.out]; rw [HN.out] at h; exact h, HB1.out⟩
set_option maxHeartbeats 4000000 in
theorem compact_small (A : Option Addr) (n cap : Nat) (w : World) (hn : n < 2) : Calls Try.prog 90 #[.slice A n cap] w fun e w' => e = .returned (.slice A n cap) ∧ w' = w := by
 have c2 : decide (n < 2) = true := decide_eq_true hn
 have c3 : decide ((n : Int) < 2) = true := decide_eq_true (by omega)
 clear hn
 go_enter Try.func90, Try.ntmps90
 go_wp2
 go_ret
 exact ⟨rfl, rfl⟩

/-- The bytes in ascending order. -/
def sorted8 (l : List Int) : List Int := l.mergeSort fun x y => decide (x ≤ y)
def impl_distinct.f (l0 : List Int) : Option Bool := if 1 ≤ l0.length ∧ l0.length ≤ 1000 then some (decide ((compact (sorted8 l0)).length = l0.length)) else none
theorem heap_sorted8 {w : World} {g n : Nat} {os : Array Obj} {cur : Array Value} {e : TypeId} {fr : Nat × Nat} (d : Array Int) (hb : w.heap[g]? = some (.cells cur e fr)) :
  (Go.Sort.grow (Go.Sort.putRow (Value.int .u8) (Go.Sort.ahead w n) g 0 d) os).heap[g]? = some (.cells (Go.Sort.putCells (Value.int .u8) 0 d cur) e fr) := by
 have hg : g < w.heap.size := (Array.getElem?_eq_some_iff.1 hb).1
 rw [Go.Sort.heap_grow_old _ _ (by simpa using hg)]
 simp [Go.Sort.putRow, Go.Sort.mapBlock, Go.Sort.ahead, Array.getElem?_modify, hb, Go.Sort.onCells]
theorem grownBy_sorted8 {w : World} {g n : Nat} {os : Array Obj} (d : Array Int) : w.grownBy (Go.Sort.grow (Go.Sort.putRow (Value.int .u8) (Go.Sort.ahead w n) g 0 d) os) (some g) := by
 refine ⟨rfl, rfl, rfl, by simp, fun k hk hne => ?_⟩
 rw [Go.Sort.heap_grow_old _ _ (by simpa using hk)]
 have : g ≠ k := fun e => hne (by rw [e])
 simp [Go.Sort.putRow, Go.Sort.mapBlock, Go.Sort.ahead, Array.getElem?_modify, this]
theorem take_putCells8 (cur : Array Value) (ts : List Int) (h : ts.length ≤ cur.size) : (Go.Sort.putCells (Value.int .u8) 0 ts.toArray cur).toList.take ts.length = ts.map (Value.int .u8) := by
 apply List.ext_getElem?
 intro j
 by_cases hj : j < ts.length
 ·rw [List.getElem?_take_of_lt hj, Array.getElem?_toList]
  simp [Go.Sort.putCells, hj, show j < cur.size by omega]
 ·rw [List.getElem?_take_eq_none (by omega), List.getElem?_eq_none (by simp; omega)]
theorem R_sorted8 {w : World} {base g cap m : Nat} {os : Array Obj} {ok : Nat → Prop} {xs ts : List Int} (hl : ts.length = xs.length) (h : (Kd.int .u8).R 5 w base ok (.slice (some ⟨g, 0, none⟩) xs.length cap) xs) :
  (Kd.int .u8).R 5 (Go.Sort.grow (Go.Sort.putRow (Value.int .u8) (Go.Sort.ahead w m) g 0 ts.toArray) os) base ok (.slice (some ⟨g, 0, none⟩) ts.length cap) ts := by
 have h0 := h.1
 obtain ⟨_, ho⟩ := Kd.own_of_R h
 rcases ho with ⟨h1, _⟩ | ⟨g', cap', cur, hv, hg, hh, h1, h2, h3, _⟩
 ·cases h1
 ·cases hv
  refine Kd.R_of_own ⟨by simp [encs], .inr ⟨g, cap, _, rfl, hg, heap_sorted8 _ hh, by omega, h2, by simp [Go.Sort.putCells, h3], ?_⟩⟩ h0
  rw [Nat.mul_one]
  exact take_putCells8 cur ts (by omega)
set_option maxHeartbeats 4000000 in
set_option maxRecDepth 100000 in
theorem impl_distinct.calls (A0 : Option Addr) (c0 : Nat) (l0 : List Int) (r : Bool) (w : World) (hr0 : Kd.C (Kd.int .u8) w A0 l0.length l0) (hc0 : l0.length ≤ c0) (h : impl_distinct.f l0 = some r) :
  Calls Try.prog 75 #[.slice A0 l0.length c0] w fun e w' => e = .returned (.bool r) ∧ Below w.heap.size w w' := by
 unfold impl_distinct.f at h
 by_cases hs : 1 ≤ l0.length ∧ l0.length ≤ 1000
 ·rw [if_pos hs] at h
  have hr := Option.some.inj h
  have hls : (sorted8 l0).length = l0.length := List.length_mergeSort ..
  have H1 := Aside0.mk (slices_Clone_byte_byte.calls A0 c0 l0 l0 w hr0 hc0 (by unfold slices_Clone_byte_byte.f; rw [if_pos (by omega)]))
  have HR := Aside0.mk hr
  have HS := Aside0.mk hs
  have HLS := Aside0.mk hls
  clear h hs hr hr0 hls
  have hrt : ((((compact (sorted8 l0)).length : Nat) : Int) == (l0.length : Int)) = r := by
   rw [← HR.out]
   by_cases e : (compact (sorted8 l0)).length = l0.length
   ·rw [decide_eq_true e, e]; simp
   ·rw [decide_eq_false e]
    exact beq_eq_false_iff_ne.mpr (fun e2 => e (Int.ofNat.inj e2))
  go_enter Try.func75, Try.ntmps75
  go_wp2_with (first
   | (go_at_call 54; refine H1.out.mono ?_; rintro e w1 ⟨v, rfl, ho, hb⟩; obtain ⟨g, cap, hv, hg, hlt, cells, hcell⟩ := Kd.R_form ho (by have := HS.out; omega); subst hv; have HO := Aside0.mk ho; have HB := Aside0.mk hb; have HG := Aside0.mk hg; have HLT := Aside0.mk hlt; clear ho hb hg hlt hcell)
   | (go_at_call 89; refine (Srt.sort_u8 g 0 cap l0 w1 (fun j hj => by have hj2 : j < l0.length := (by simpa using hj); have hc := cell_R HO.out j hj2; rw [Nat.zero_add]; have ej : l0.toArray[j]! = l0.getD j 0 := (by simp [List.getD_eq_getElem?_getD, hj2]); rw [ej]; exact hc) HLT.out (by have := HS.out; omega)).mono ?_; rintro e w2 ⟨rfl, n, os, hw2⟩; have HO2 := Aside0.mk (R_sorted8 (m := n) (os := os) HLS.out HO.out); have HB2 := Aside0.mk (Below.grown HB.out (grownBy_sorted8 (n := n) (os := os) (sorted8 l0).toArray) HB.out.size (fun k hk => by cases hk; exact HG.out)); rw [show Go.Sort.grow (Go.Sort.putRow (Value.int .u8) (Go.Sort.ahead w1 n) g 0 (sorted8 l0).toArray) os = w2 from hw2.symm] at HO2 HB2; clear hw2)
   | (go_at_call 90; rw [← HLS.out]; refine (compact_walk g cap (sorted8 l0).length w.heap.size (fun _ => True) (sorted8 l0) w w2 HO2.out rfl (by have := HS.out; have := HLS.out; omega) (Kd.R_reads' HO2.out).2.1 HB2.out HG.out).mono ?_; rintro e w3 ⟨rfl, ho3, hb3⟩; have HB3 := Aside0.mk hb3; clear ho3 hb3))
  go_ret
  exact ⟨by first | rfl | (rw [HLS.out, hrt]; rfl), HB3.out⟩
 ·rw [if_neg hs] at h
  cases h

/-! ### impl_GfPow: function 34 -/
mutual
def impl_GfPow.j0 : Nat → Int → Int → Bool → Option (Int)
 | 0, _, _, _ => none
 | k + 1, x0, x1, x6 => if x6 = true then (some 0) else (if x1 = 0 then (some 1) else (impl_GfPow.l0 k x0 (Int.tmod x1 255) 1))
def impl_GfPow.l0 : Nat → Int → Int → Int → Option (Int)
 | 0, _, _, _ => none
 | k + 1, x0, x1, x5 => if x1 > 0 then (if (Go.bits .and .i64 x1 1) = 1 then ((impl_GfMul.f k x5 x0).bind fun t169 => ((impl_GfMul.f k x0 x0).bind fun t170 => (impl_GfPow.l0 k t170 (x1 / 2) t169))) else ((impl_GfMul.f k x0 x0).bind fun t171 => (impl_GfPow.l0 k t171 (x1 / 2) x5))) else (some x5)
end
def impl_GfPow.f (k : Nat) (a0 : Int) (a1 : Int) : Option (Int) := if a1 < 0 then (impl_GfPow.j0 k a0 a1 true) else (if a1 > 0 then (impl_GfPow.j0 k a0 a1 (a0 == 0)) else (impl_GfPow.j0 k a0 a1 false))
set_option maxHeartbeats 8000000 in
set_option maxRecDepth 100000 in
theorem impl_GfPow.calls (k : Nat) (a0 : Int) (a1 : Int) (r : Int) (w : World) (h : impl_GfPow.f k a0 a1 = some r) :
  Calls Try.prog 34 #[.int .u8 a0, .int .i64 a1] w fun e w' => e = .returned (.int .u8 r) ∧ Drawn0 w w' := by
 have H : (if a1 < 0 then (impl_GfPow.j0 k a0 a1 true) else (if a1 > 0 then (impl_GfPow.j0 k a0 a1 (a0 == 0)) else (impl_GfPow.j0 k a0 a1 false))) = some r := h
 clear h
 have HC3 := Aside0.mk H
 clear H
 go_enter Try.func34, Try.ntmps34
 go_upto_region 1 with (fail)
 go_cut [6] (fun v6 wc => ∃ (kq : Nat) (x6_2 : Bool), v6 = .bool x6_2 ∧ Aside0 (impl_GfPow.j0 kq a0 a1 x6_2 = some r) ∧ Aside0 (kq ≤ k) ∧ Drawn0 w wc)
 case first =>
  have H := HC3.out
  clear HC3
  by_cases c4 : a1 < 0
  ·rw [if_pos c4] at H
   have c4b0 : decide (a1 < 0) = true := decide_eq_true c4
   clear c4
   (first | rw [c4b0] | (simp only [i64_w, i32_w]; rw [c4b0]) | skip)
   have H' := Aside0.mk H
   clear H
   go_wp2
   go_meet
   case rel => exact ⟨_, (true), (by first | rfl | (simp; done) | (simp [*]; done)), H', ⟨by first | omega | exact Nat.le_refl _⟩, by repeat (first | exact Drawn0.refl _ | apply Drawn0.step)⟩
  ·rw [if_neg c4] at H
   have c4b0 : decide (a1 < 0) = false := decide_eq_false c4
   clear c4
   (first | rw [c4b0] | (simp only [i64_w, i32_w]; rw [c4b0]) | skip)
   by_cases c5 : a1 > 0
   ·rw [if_pos c5] at H
    have c5b0 : decide (0 < a1) = true := decide_eq_true c5
    clear c5
    have H' := Aside0.mk H
    clear H
    go_wp2
    go_meet
    case rel => exact ⟨_, ((a0 == 0)), (by first | rfl | (simp; done) | (simp [*]; done)), H', ⟨by first | omega | exact Nat.le_refl _⟩, by repeat (first | exact Drawn0.refl _ | apply Drawn0.step)⟩
   ·rw [if_neg c5] at H
    have c5b0 : decide (0 < a1) = false := decide_eq_false c5
    clear c5
    have H' := Aside0.mk H
    clear H
    go_wp2
    go_meet
    case rel => exact ⟨_, (false), (by first | rfl | (simp; done) | (simp [*]; done)), H', ⟨by first | omega | exact Nat.le_refl _⟩, by repeat (first | exact Drawn0.refl _ | apply Drawn0.step)⟩
 case rest =>
  clear HC3
  try clear p2
  try clear c3
  try clear c4
  try clear c4b0
  try clear c5
  try clear c5b0
  obtain ⟨kq, x6_2, rfl, HA, HJ2, ⟨mc2, rfl⟩⟩ := hcut
  cases kq with
  | zero => exact absurd HA.out (by simp [impl_GfPow.j0])
  | succ kj2 =>
   have H := HA.out
   clear HA
   simp only [impl_GfPow.j0] at H
   by_cases c6 : x6_2 = true
   ·subst c6
    rw [if_pos rfl] at H
    obtain rfl := Option.some.inj H
    go_wp2
    go_ret
    exact ⟨by first | rfl | (simp; done) | (simp [*]; done), by repeat (first | exact Drawn0.refl _ | apply Drawn0.step)⟩
   ·replace c6 := Bool.eq_false_iff.mpr c6
    subst c6
    rw [if_neg (show ¬ (false = true) by decide)] at H
    by_cases c7 : a1 = 0
    ·rw [if_pos c7] at H
     have c7b0 : (a1 == 0) = true := beq_iff_eq.mpr c7
     have c7b1 : (a1 != 0) = false := bne_eq_false_iff_eq.mpr c7
     clear c7
     obtain rfl := Option.some.inj H
     go_wp2
     go_ret
     exact ⟨by first | rfl | (simp; done) | (simp [*]; done), by repeat (first | exact Drawn0.refl _ | apply Drawn0.step)⟩
    ·rw [if_neg c7] at H
     have c7b0 : (a1 == 0) = false := beq_eq_false_iff_ne.mpr c7
     have c7b1 : (a1 != 0) = true := bne_iff_ne.mpr c7
     have H' := Aside0.mk H
     clear H
     go_wp2
     go_loopg [0, 1, 5] kj2 (fun kq v0 v1 v5 w' => ∃ (x0_2 : Int) (x1_2 : Int) (x5_2 : Int), v0 = .int .u8 x0_2 ∧ v1 = .int .i64 x1_2 ∧ v5 = .int .u8 x5_2 ∧ Aside0 (impl_GfPow.l0 kq x0_2 x1_2 x5_2 = some r) ∧ Aside0 (kq ≤ kj2) ∧ Drawn0 w w')
     case atStart => exact ⟨(a0), (Int.tmod a1 255), (1), (by first | rfl | (simp; done) | (simp [*]; done)), (by first | rfl | (simp; done) | (simp [*]; done)), (by first | rfl | (simp; done) | (simp [*]; done)), H', ⟨Nat.le_refl _⟩, by repeat (first | exact Drawn0.refl _ | apply Drawn0.step)⟩
     case round =>
      clear H'
      try clear c2
      try clear p2
      try clear c3
      try clear c4
      try clear c4b0
      try clear c5
      try clear c5b0
      try clear c6
      try clear c7
      try clear c7b0
      try clear c7b1
      try clear p2
      obtain ⟨x0_2, x1_2, x5_2, rfl, rfl, rfl, HA, HK2, ⟨m2, rfl⟩⟩ := hrel
      cases gk with
      | zero => exact absurd HA.out (by simp [impl_GfPow.l0])
      | succ k2 =>
       have H := HA.out
       clear HA
       simp only [impl_GfPow.l0] at H
       by_cases c8 : x1_2 > 0
       ·rw [if_pos c8] at H
        have c8b0 : decide (0 < x1_2) = true := decide_eq_true c8
        clear c8
        by_cases c9 : (Go.bits .and .i64 x1_2 1) = 1
        ·rw [if_pos c9] at H
         have c9b0 : ((Go.bits .and .i64 x1_2 1) == 1) = true := beq_iff_eq.mpr c9
         have c9b1 : ((Go.bits .and .i64 x1_2 1) != 1) = false := bne_eq_false_iff_eq.mpr c9
         clear c9
         replace H := Option.bind_eq_some_iff.mp H
         obtain ⟨t169, A100, H⟩ := H
         (try dsimp -simprocs only at H)
         have A10 := Aside0.mk A100
         clear A100
         replace H := Option.bind_eq_some_iff.mp H
         obtain ⟨t170, A110, H⟩ := H
         (try dsimp -simprocs only at H)
         have A11 := Aside0.mk A110
         clear A110
         have H' := Aside0.mk H
         clear H
         go_wp2_with (first | ((with_reducible refine gate_callee (f := 58) rfl ?_); refine goesL_ (some 31) rfl rfl Try.func58 (by kernel_rfl) rfl #[.int .u8 x5_2, .int .u8 x0_2] rfl av ?_; (with_reducible refine (impl_GfMul.calls k2 x5_2 x0_2 t169 _ A10.out).mono ?_); rintro e w' ⟨rfl, ⟨nd, rfl⟩⟩; refine ⟨_, rfl, ?_⟩) | ((with_reducible refine gate_callee (f := 58) rfl ?_); refine goesL_ (some 34) rfl rfl Try.func58 (by kernel_rfl) rfl #[.int .u8 x0_2, .int .u8 x0_2] rfl av ?_; (with_reducible refine (impl_GfMul.calls k2 x0_2 x0_2 t170 _ A11.out).mono ?_); rintro e w' ⟨rfl, ⟨nd, rfl⟩⟩; refine ⟨_, rfl, ?_⟩))
         go_roundg k2
         case measure => have := HJ2.out; have := HK2.out; omega
         case rel => exact ⟨(t170), (x1_2 / 2), (t169), (by first | rfl | (simp; done) | (simp [*]; done)), (by first | rfl | (simp; done) | (simp [*]; done)), (by first | rfl | (simp; done) | (simp [*]; done)), H', ⟨by have := HJ2.out; have := HK2.out; omega⟩, by repeat (first | exact Drawn0.refl _ | apply Drawn0.step)⟩
        ·rw [if_neg c9] at H
         have c9b0 : ((Go.bits .and .i64 x1_2 1) == 1) = false := beq_eq_false_iff_ne.mpr c9
         have c9b1 : ((Go.bits .and .i64 x1_2 1) != 1) = true := bne_iff_ne.mpr c9
         replace H := Option.bind_eq_some_iff.mp H
         obtain ⟨t171, A120, H⟩ := H
         (try dsimp -simprocs only at H)
         have A12 := Aside0.mk A120
         clear A120
         have H' := Aside0.mk H
         clear H
         go_wp2_with (first | ((with_reducible refine gate_callee (f := 58) rfl ?_); refine goesL_ (some 34) rfl rfl Try.func58 (by kernel_rfl) rfl #[.int .u8 x0_2, .int .u8 x0_2] rfl av ?_; (with_reducible refine (impl_GfMul.calls k2 x0_2 x0_2 t171 _ A12.out).mono ?_); rintro e w' ⟨rfl, ⟨nd, rfl⟩⟩; refine ⟨_, rfl, ?_⟩))
         go_roundg k2
         case measure => have := HJ2.out; have := HK2.out; omega
         case rel => exact ⟨(t171), (x1_2 / 2), (x5_2), (by first | rfl | (simp; done) | (simp [*]; done)), (by first | rfl | (simp; done) | (simp [*]; done)), (by first | rfl | (simp; done) | (simp [*]; done)), H', ⟨by have := HJ2.out; have := HK2.out; omega⟩, by repeat (first | exact Drawn0.refl _ | apply Drawn0.step)⟩
       ·rw [if_neg c8] at H
        have c8b0 : decide (0 < x1_2) = false := decide_eq_false c8
        clear c8
        obtain rfl := Option.some.inj H
        go_wp2
        go_ret
        exact ⟨by first | rfl | (simp; done) | (simp [*]; done), by repeat (first | exact Drawn0.refl _ | apply Drawn0.step)⟩

/-! ### impl_GfInv: function 57 -/
def impl_GfInv.f (k : Nat) (a0 : Int) : Option (Int × Bool) := if a0 = 0 then (some (0, false)) else ((impl_GfPow.f k a0 254).bind fun t172 => (some (t172, true)))
set_option maxHeartbeats 8000000 in
set_option maxRecDepth 100000 in
theorem impl_GfInv.calls (k : Nat) (a0 : Int) (r1 : Int) (r2 : Bool) (w : World) (h : impl_GfInv.f k a0 = some (r1, r2)) :
  Calls Try.prog 57 #[.int .u8 a0] w fun e w' => e = .returned (.tuple #[.int .u8 r1, .bool r2]) ∧ Drawn0 w w' := by
 have H : (if a0 = 0 then (some (0, false)) else ((impl_GfPow.f k a0 254).bind fun t172 => (some (t172, true)))) = some (r1, r2) := h
 clear h
 by_cases c2 : a0 = 0
 ·rw [if_pos c2] at H
  have c2b0 : (a0 == 0) = true := beq_iff_eq.mpr c2
  have c2b1 : (a0 != 0) = false := bne_eq_false_iff_eq.mpr c2
  clear c2
  simp only [Option.some.injEq, Prod.mk.injEq] at H
  obtain ⟨rfl, rfl⟩ := H
  go_enter Try.func57, Try.ntmps57
  go_wp2
  go_ret2
  exact ⟨by first | rfl | (simp; done) | (simp [*]; done), by repeat (first | exact Drawn0.refl _ | apply Drawn0.step)⟩
 ·rw [if_neg c2] at H
  have c2b0 : (a0 == 0) = false := beq_eq_false_iff_ne.mpr c2
  have c2b1 : (a0 != 0) = true := bne_iff_ne.mpr c2
  replace H := Option.bind_eq_some_iff.mp H
  obtain ⟨t172, A30, H⟩ := H
  (try dsimp -simprocs only at H)
  have A3 := Aside0.mk A30
  clear A30
  simp only [Option.some.injEq, Prod.mk.injEq] at H
  obtain ⟨rfl, rfl⟩ := H
  go_enter Try.func57, Try.ntmps57
  go_wp2_with (first | ((with_reducible refine gate_callee (f := 34) rfl ?_); refine goesL_ (some 7) rfl rfl Try.func34 (by kernel_rfl) rfl #[.int .u8 a0, .int .i64 254] rfl av ?_; (with_reducible refine (impl_GfPow.calls k a0 254 t172 _ A3.out).mono ?_); rintro e w' ⟨rfl, ⟨nd, rfl⟩⟩; refine ⟨_, rfl, ?_⟩))
  go_ret2
  exact ⟨by first | rfl | (simp; done) | (simp [*]; done), by repeat (first | exact Drawn0.refl _ | apply Drawn0.step)⟩

end Go.Proofs.Ythaoloacbbohlaa.PFnInterpolated
