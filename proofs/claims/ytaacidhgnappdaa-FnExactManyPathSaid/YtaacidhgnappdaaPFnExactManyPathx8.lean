-- Written by a program of this workplace (wip/mp.py) out of the translation.
import Derived.Test.YtaacidhgnappdaaPFnExactManyPathx0
import Derived.Test.YtaacidhgnappdaaPFnExactManyPathx5
import Derived.Test.YtaacidhgnappdaaPFnExactManyPathx7
namespace Go.Proofs.Ytaacidhgnappdaa.PFnExactManyPath
open Go.RowKit Go.Proofs.YtaacidhgnappdaaW.PrintWords Go.Proofs.YtaacidhgnappdaaW.PrintLast Go.Proofs.YtaacidhgnappdaaW.PrintMore Go.Proofs.Ytaacidhgnappdaa.Slim
attribute [local go_sem] max2_int min2_int max_two min_two max_three min_three max_four min_four   -- for this text's walks alone
set_option linter.unusedVariables false
set_option linter.unusedSimpArgs false

/-! ### impl_above: function 96 -/
/-- Of each run of alike numbers the first. -/
def compact : List Int → List Int
 | x :: y :: l => if x = y then compact (y :: l) else x :: compact (y :: l)
 | l => l
theorem compact_snoc (l : List Int) (x u : Int) : ∃ v, (l ++ [x]).getD l.length 0 = x ∧ v = compact (l ++ [x]) ∧ compact (l ++ [x, u]) = if x = u then v else v ++ [u] := by
 induction l with
 | nil =>
  refine ⟨[x], rfl, rfl, ?_⟩
  by_cases h : x = u
  ·subst h; simp [compact]
  ·simp [compact, h]
 | cons a l ih =>
  obtain ⟨v, h1, h2, h3⟩ := ih
  refine ⟨_, by simp, rfl, ?_⟩
  cases l with
  | nil =>
   by_cases h : a = x
   ·subst h
    by_cases h4 : a = u
    ·subst h4; simp [compact]
    ·simp [compact, h4]
   ·by_cases h4 : x = u
    ·subst h4; simp [compact, h]
    ·simp [compact, h, h4]
  | cons c l =>
   simp only [List.cons_append] at h2 h3 ⊢
   unfold compact
   by_cases h : a = c
   ·rw [if_pos h, if_pos h, ← h2, h3]
   ·rw [if_neg h, if_neg h, ← h2, h3]
    by_cases h4 : x = u
    ·rw [if_pos h4, if_pos h4]
    ·rw [if_neg h4, if_neg h4]; rfl
theorem take_two (xs : List Int) (m : Nat) (h : m + 1 < xs.length) : xs.take (m + 2) = xs.take m ++ [xs.getD m 0, xs.getD (m + 1) 0] ∧ xs.take (m + 1) = xs.take m ++ [xs.getD m 0] := by
 have e1 : xs.take (m + 1) = xs.take m ++ [xs.getD m 0] := by
  rw [List.take_succ_eq_append_getElem (by omega), List.getD_eq_getElem?_getD, List.getElem?_eq_getElem (by omega)]; rfl
 have e2 : xs.take (m + 2) = xs.take (m + 1) ++ [xs.getD (m + 1) 0] := by
  rw [List.take_succ_eq_append_getElem (by omega), List.getD_eq_getElem?_getD, List.getElem?_eq_getElem (by omega)]; rfl
 refine ⟨?_, e1⟩
 rw [e2, e1, List.append_assoc]
 rfl
theorem compact_take (xs : List Int) (m : Nat) (h : m + 1 < xs.length) : compact (xs.take (m + 2)) = if xs.getD (m + 1) 0 = xs.getD m 0 then compact (xs.take (m + 1)) else compact (xs.take (m + 1)) ++ [xs.getD (m + 1) 0] := by
 obtain ⟨e1, e2⟩ := take_two xs m h
 obtain ⟨v, _, h2, h3⟩ := compact_snoc (xs.take m) (xs.getD m 0) (xs.getD (m + 1) 0)
 rw [e1, e2, h3, h2]
 by_cases h4 : xs.getD m 0 = xs.getD (m + 1) 0
 ·rw [if_pos h4, if_pos h4.symm]
 ·rw [if_neg h4, if_neg (fun e => h4 e.symm)]
/-- No two neighbours among the first are alike. -/
theorem compact_none (xs : List Int) : ∀ m : Nat, m + 1 ≤ xs.length → (∀ j, j + 1 ≤ m → xs.getD (j + 1) 0 ≠ xs.getD j 0) → compact (xs.take (m + 1)) = xs.take (m + 1) := by
 intro m
 induction m with
 | zero =>
  intro h _
  match xs, h with
  | x :: xs, _ => rfl
 | succ m ih =>
  intro h hn
  rw [compact_take xs m (by omega), if_neg (hn m (by omega)), ih (by omega) (fun j hj => hn j (by omega))]
  obtain ⟨e1, e2⟩ := take_two xs m (by omega)
  rw [e1, e2, List.append_assoc]
  rfl
theorem compact_short {xs : List Int} (h : xs.length < 2) : compact xs = xs := by
 match xs, h with
 | [], _ => rfl
 | [x], _ => rfl
theorem wrap_small {z : Int} (h0 : 0 ≤ z) (h1 : z ≤ 9223372036854775807) : IntKind.i64.wrap z = z := by
 rw [IntKind.wrap_i64]
 omega
theorem cell_R {w : World} {base g n cap : Nat} {ok : Nat → Prop} {xs : List Int} (h : (Kd.int .i64).R 3 w base ok (.slice (some ⟨g, 0, none⟩) n cap) xs) (i : Nat) (hi : i < xs.length) :
  w.cell? ⟨g, i, none⟩ = some (.int .i64 (xs.getD i 0)) ∧ w.frozen? ⟨g, i, none⟩ = false := by
 obtain ⟨g', cap', hv, hb, hl, cells, hc⟩ := Kd.R_form h (by omega)
 injection hv with hv1 hv2 hv3
 injection hv1 with hv1
 injection hv1 with hv1
 subst hv1
 obtain ⟨_, _, hC⟩ := Kd.R_reads' h
 obtain ⟨ad, c, e, hlen, hK, hcell⟩ := ReadsRow.get_ hC (0 : Int) (i : Int) (Int.natCast_nonneg i) (by omega)
 injection e with e
 subst e
 have hK' : c = [.int .i64 (xs.getD i 0)] := by
  rw [Int.toNat_natCast] at hK
  exact hK
 subst hK'
 have h4 := hcell 0 _ rfl
 refine ⟨?_, blk_frozen hc i⟩
 rw [Int.toNat_natCast] at h4
 have e1 : (Addr.mk g 0 none).add (i * (Kd.int .i64).sz + 0) = ⟨g, i, none⟩ := by
  have e2 : i * (Kd.int .i64).sz + 0 = i := Nat.mul_one i
  rw [e2]
  cases i <;> simp [Addr.add]
 rw [e1] at h4
 exact h4
theorem R_setCells {base g cap n : Nat} {ok : Nat → Prop} {w0 : World} (hg : base ≤ g) (m : Nat) : ∀ (w : World) (xs : List Int) (i : Nat), (Kd.int .i64).R 3 w base ok (.slice (some ⟨g, 0, none⟩) n cap) xs → Below base w0 w →
  ∃ ys, (Kd.int .i64).R 3 (w.setCells g i (List.replicate m (.int .i64 0))) base ok (.slice (some ⟨g, 0, none⟩) n cap) ys ∧ ys.take i = xs.take i ∧ ys.length = xs.length ∧ Below base w0 (w.setCells g i (List.replicate m (.int .i64 0))) := by
 induction m with
 | zero => intro w xs i h hb; exact ⟨xs, h, rfl, rfl, hb⟩
 | succ m ih =>
  intro w xs i h hb
  have h1 := Kd.R_putn h ((i : Nat) : Int) (0 : Int)
  rw [Int.toNat_natCast] at h1
  obtain ⟨ys, h2, h3, h4, h5⟩ := ih (w.setCell ⟨g, i, none⟩ (.int .i64 0)) (xs.set i 0) (i + 1) h1 (hb.setCell hg _)
  refine ⟨ys, h2, ?_, by rw [h4, List.length_set], h5⟩
  have h6 := congrArg (List.take i) h3
  rw [List.take_take, List.take_take, Nat.min_eq_left (by omega), List.take_set] at h6
  rw [h6]
  exact List.set_eq_of_length_le (by rw [List.length_take]; omega)
theorem take_put (ys : List Int) (k : Nat) (a : Int) (h : k < ys.length) : (ys.set k a).take (k + 1) = ys.take k ++ [a] := by
 rw [List.take_succ_eq_append_getElem (by rw [List.length_set]; exact h), List.getElem_set_self, List.take_set, List.set_eq_of_length_le (by rw [List.length_take]; omega)]
set_option maxHeartbeats 4000000 in
set_option maxRecDepth 100000 in
theorem compact_walk (g cap n base : Nat) (ok : Nat → Prop) (xs : List Int) (w0 w : World) (hr : (Kd.int .i64).R 3 w base ok (.slice (some ⟨g, 0, none⟩) n cap) xs) (hn : n = xs.length) (hm : n ≤ 1000000) (hc : n ≤ cap) (hB : Below base w0 w) (hg : base ≤ g) :
  Calls Try.prog 119 #[.slice (some ⟨g, 0, none⟩) n cap] w fun e w' => e = .returned (.slice (some ⟨g, 0, none⟩) (compact xs).length cap) ∧ (Kd.int .i64).R 3 w' base ok (.slice (some ⟨g, 0, none⟩) (compact xs).length cap) (compact xs) ∧ Below base w0 w' := by
 have HR := Aside0.mk hr
 have HB := Aside0.mk hB
 have HN := Aside0.mk hn
 have HM := Aside0.mk hm
 have HC := Aside0.mk hc
 clear hr hB hn hm hc
 by_cases h2 : n < 2
 ·have c2 : decide (n < 2) = true := decide_eq_true h2
  have c3 : decide ((n : Int) < 2) = true := decide_eq_true (by omega)
  have e : compact xs = xs := compact_short (by have := HN.out; omega)
  rw [e]
  clear h2 e
  go_enter Try.func119, Try.ntmps119
  go_wp2
  go_ret
  exact ⟨by rw [HN.out]; rfl, by have h := HR.out; rw [HN.out] at h; exact h, HB.out⟩
 ·have c2 : decide (n < 2) = false := decide_eq_false h2
  have c3 : decide ((n : Int) < 2) = false := decide_eq_false (by omega)
  have H2 := Aside0.mk h2
  clear h2
  go_enter Try.func119, Try.ntmps119
  go_wp2
  go_loopw [3] (fun i wr => ∃ k : Nat, i = .int .i64 ((k : Int) + 1) ∧ Aside0 (k + 1 ≤ n) ∧ Aside0 (∀ j, j + 1 ≤ k → xs.getD (j + 1) 0 ≠ xs.getD j 0) ∧ Aside0 ((Kd.int .i64).R 3 wr base ok (.slice (some ⟨g, 0, none⟩) n cap) xs) ∧ Aside0 (Below base w0 wr)) (fun i _ => n - (intOf i).toNat)
  case atStart => exact ⟨0, by go_num, ⟨by have := H2.out; omega⟩, ⟨fun j hj => by omega⟩, HR, HB⟩
  case round =>
   obtain ⟨k, rfl, HK, HX, HR1, HB1⟩ := hrel
   have p1 : 0 ≤ (k : Int) := Int.natCast_nonneg k
   have p2 : (k : Int) ≤ 1000000 := by have := HK.out; have := HM.out; omega
   have p3 : 0 ≤ (k : Int) + 1 := by omega
   have p4 : IntKind.i64.wrap (k : Int) = (k : Int) := wrap_small p1 (by omega)
   by_cases hlt : k + 1 < n
   ·have d1 : decide ((k : Int) + 1 < (n : Int)) = true := decide_eq_true (by omega)
    have q1 : (k : Int) + 1 < (n : Int) := by omega
    have q2 : (k : Int) < (n : Int) := by omega
    have HL := Aside0.mk hlt
    obtain ⟨x1, f1⟩ := cell_R HR1.out (k + 1) (by have := HN.out; omega)
    obtain ⟨x0, f0⟩ := cell_R HR1.out k (by have := HN.out; omega)
    clear hlt
    obtain ⟨u, hu⟩ : ∃ u, u = xs.getD (k + 1) 0 := ⟨_, rfl⟩
    obtain ⟨v, hv⟩ : ∃ v, v = xs.getD k 0 := ⟨_, rfl⟩
    rw [← hu] at x1
    rw [← hv] at x0
    have HU := Aside0.mk hu
    have HV := Aside0.mk hv
    clear hu hv
    by_cases huv : u = v
    ·have e1 : (u == v) = true := beq_iff_eq.mpr huv
     have HE := Aside0.mk huv
     clear huv
     --L2
     have q3 : k + 1 ≤ n := by have := HL.out; omega
     have q4 : k + 1 ≤ cap := by have := HL.out; have := HC.out; omega
     have q5 : (k : Int) + 1 ≤ (n : Int) := by have := HL.out; omega
     have q6 : (k : Int) + 1 ≤ (cap : Int) := by have := HL.out; have := HC.out; omega
     have q7 : ¬ cap = k + 1 := by have := HL.out; have := HC.out; omega
     have q8 : k + 1 < cap := by omega
     have q9 : (k : Int) + 1 < (cap : Int) := by omega
     go_wp2
     go_still (by kernel_rfl)
     go_wp2
     clear x0 x1 f0 f1
     go_loopw [3, 5] (fun s i wr => ∃ (kk j : Nat) (ys : List Int), s = .int .i64 ((kk : Int) + 1) ∧ i = .int .i64 ((j : Int) + 1) ∧ Aside0 (k + j + 2 ≤ n) ∧ Aside0 (kk ≤ k + j) ∧ Aside0 (ys.length = n) ∧ Aside0 (ys.take (kk + 1) = compact (xs.take (k + j + 2))) ∧ Aside0 (∀ a, kk + 1 ≤ a → ys.getD a 0 = xs.getD a 0) ∧ Aside0 ((Kd.int .i64).R 3 wr base ok (.slice (some ⟨g, 0, none⟩) n cap) ys) ∧ Aside0 (Below base w0 wr)) (fun _ i _ => n - (intOf i).toNat)
     case atStart =>
      refine ⟨k, 0, xs, rfl, by go_num, ⟨HL.out⟩, ⟨Nat.le_refl _⟩, ⟨HN.out.symm⟩, ⟨?_⟩, ⟨fun a _ => rfl⟩, ⟨Kd.R_drew HR1.out⟩, ⟨below_drew HB1.out⟩⟩
      have hL := HL.out
      have hN := HN.out
      rw [show k + 0 + 2 = k + 2 from rfl, compact_take xs k (by omega), if_pos (by rw [← HU.out, ← HV.out]; exact HE.out), compact_none xs k (by omega) HX.out]
     case round =>
      obtain ⟨kk, j, ys, rfl, rfl, HJ, HKK, HYL, HT, HH, HR2, HB2⟩ := hrel
      have r1 : 0 ≤ (j : Int) := Int.natCast_nonneg j
      have r2 : (j : Int) ≤ 1000000 := by have := HJ.out; have := HM.out; omega
      have r3 : 0 ≤ (j : Int) + 1 := by omega
      have r4 : IntKind.i64.wrap (j : Int) = (j : Int) := wrap_small r1 (by omega)
      have s1 : 0 ≤ (kk : Int) := Int.natCast_nonneg kk
      have s2 : (kk : Int) ≤ 1000000 := by have := HKK.out; have := HJ.out; have := HM.out; omega
      have s3 : 0 ≤ (kk : Int) + 1 := by omega
      by_cases hlt : k + j + 2 < n
      ·have d2 : decide ((j : Int) + 1 < ((n - (k + 1) : Nat) : Int)) = true := decide_eq_true (by omega)
       have t1 : (j : Int) + 1 < ((n - (k + 1) : Nat) : Int) := by omega
       have t2 : (j : Int) < ((n - (k + 1) : Nat) : Int) := by omega
       have t3 : (kk : Int) + 1 < (n : Int) := by have := HKK.out; omega
       have HLT := Aside0.mk hlt
       obtain ⟨x1, f1⟩ := cell_R HR2.out (k + 1 + (j + 1)) (by have := HYL.out; omega)
       obtain ⟨x0, f0⟩ := cell_R HR2.out (k + 1 + j) (by have := HYL.out; omega)
       obtain ⟨xk, fk⟩ := cell_R HR2.out (kk + 1) (by have := HYL.out; have := HKK.out; omega)
       rw [HH.out _ (by have := HKK.out; omega)] at x1 x0
       clear hlt
       obtain ⟨a, ha⟩ : ∃ a, a = xs.getD (k + 1 + (j + 1)) 0 := ⟨_, rfl⟩
       obtain ⟨b, hb⟩ : ∃ b, b = xs.getD (k + 1 + j) 0 := ⟨_, rfl⟩
       obtain ⟨d, hd⟩ : ∃ d, d = ys.getD (kk + 1) 0 := ⟨_, rfl⟩
       rw [← ha] at x1
       rw [← hb] at x0
       rw [← hd] at xk
       have HA := Aside0.mk ha
       have HBB := Aside0.mk hb
       clear ha hb hd
       by_cases hab : a = b
       ·have e2 : (a != b) = false := bne_eq_false_iff_eq.mpr hab
        have HE2 := Aside0.mk hab
        clear hab
        go_wp2
        go_still (by kernel_rfl)
        go_wp2
        go_roundw
        case rel =>
         refine ⟨kk, j + 1, ys, rfl, by go_num, ⟨by have := HLT.out; omega⟩, ⟨by have := HKK.out; omega⟩, HYL, ⟨?_⟩, HH, ⟨Kd.R_drew HR2.out⟩, ⟨below_drew HB2.out⟩⟩
         have hL := HLT.out
         have hN := HN.out
         have hc := compact_take xs (k + j + 1) (by omega)
         rw [show k + (j + 1) + 2 = k + j + 1 + 2 by omega, hc, if_pos (by have := HE2.out; rw [HA.out, HBB.out] at this; rw [show k + j + 1 + 1 = k + 1 + (j + 1) by omega, show k + j + 1 = k + 1 + j by omega]; exact this)]
         exact HT.out
        case measure => have := HLT.out; simp [intOf]; omega
       ·have e2 : (a != b) = true := bne_iff_ne.mpr hab
        have HE2 := Aside0.mk hab
        clear hab
        go_wp2
        go_still (by kernel_rfl)
        go_wp2
        go_roundw
        case rel =>
         have hL := HLT.out
         have hN := HN.out
         have hK := HKK.out
         have hY := HYL.out
         have h := Kd.R_putn HR2.out ((kk + 1 : Nat) : Int) a
         rw [Int.toNat_natCast] at h
         refine ⟨kk + 1, j + 1, ys.set (kk + 1) a, by go_num, by go_num, ⟨by omega⟩, ⟨by omega⟩, ⟨by rw [List.length_set]; exact hY⟩, ⟨?_⟩, ⟨fun z hz => ?_⟩, ⟨Kd.R_drew h⟩, ⟨below_drew (HB2.out.setCell hg _)⟩⟩
         ·have hc := compact_take xs (k + j + 1) (by omega)
          rw [take_put ys (kk + 1) a (by omega), HT.out, show k + (j + 1) + 2 = k + j + 1 + 2 by omega, hc, if_neg (by have := HE2.out; rw [HA.out, HBB.out] at this; rw [show k + j + 1 + 1 = k + 1 + (j + 1) by omega, show k + j + 1 = k + 1 + j by omega]; exact this), HA.out, show k + j + 1 + 1 = k + 1 + (j + 1) by omega]
         ·rw [List.getD_eq_getElem?_getD, List.getElem?_set_ne (by omega), ← List.getD_eq_getElem?_getD]
          exact HH.out z (by omega)
        case measure => have := HLT.out; simp [intOf]; omega
      ·have d2 : decide ((j : Int) + 1 < ((n - (k + 1) : Nat) : Int)) = false := decide_eq_false (by have := HJ.out; omega)
       have em : k + j + 2 = n := by have := HJ.out; omega
       have t3 : kk + 1 < n := by have := HKK.out; omega
       have t4 : kk + 1 ≤ n := by omega
       have t5 : kk + 1 ≤ cap := by have := HC.out; omega
       have t6 : ¬ cap = kk + 1 := by have := HC.out; omega
       have t7 : (kk : Int) + 1 < (n : Int) := by omega
       have t8 : (kk : Int) + 1 < (cap : Int) := by have := HC.out; omega
       have t9 : (kk : Int) + 1 ≤ (n : Int) := by omega
       have t10 : (kk : Int) + 1 ≤ (cap : Int) := by omega
       have hY := HYL.out
       have hcl : ∀ ty, (Builtin.clear_ #[23] ty #[.slice (some ⟨g, kk + 1, none⟩) (n - (kk + 1)) (cap - (kk + 1))]).run Try.prog wr = .ok (.tuple #[]) (wr.setCells g (kk + 1) (List.replicate (n - (kk + 1)) (.int .i64 0))) := fun ty =>
        Go.Lib.run_clear_slice wr 23 3 ty _ Try.underlying23 Try.zeroValue3 rfl rfl g (kk + 1) _ _ (by omega) (fun z hz => by rw [(cell_R HR2.out (kk + 1 + z) (by omega)).1]; rfl) (fun z hz => (cell_R HR2.out (kk + 1 + z) (by omega)).2)
       have HEM := Aside0.mk em
       have HY2 := Aside0.mk hY
       clear hlt em hY
       go_wp2
       go_ret
       have hT := HT.out
       rw [HEM.out, List.take_of_length_le (l := xs) (by have := HN.out; omega)] at hT
       have hlen : (compact xs).length = kk + 1 := by
        rw [← hT, List.length_take, HY2.out]
        omega
       obtain ⟨zs, z1, z2, z3, z4⟩ := R_setCells hg (n - (kk + 1)) wr ys (kk + 1) HR2.out HB2.out
       have z5 := Kd.R_take z1 (m := kk + 1) (by rw [z3, HY2.out]; omega)
       rw [z2, hT] at z5
       rw [hlen]
       exact ⟨rfl, z5, z4⟩
    ·have e1 : (u == v) = false := beq_eq_false_iff_ne.mpr huv
     have HE := Aside0.mk huv
     clear huv
     go_wp2
     go_still (by kernel_rfl)
     go_wp2
     go_roundw
     case rel =>
      refine ⟨k + 1, by go_num, ⟨HL.out⟩, ⟨fun j hj => ?_⟩, ⟨Kd.R_drew HR1.out⟩, ⟨below_drew HB1.out⟩⟩
      by_cases e : j = k
      ·subst e
       have := HE.out
       rw [HU.out, HV.out] at this
       exact this
      ·exact HX.out j (by omega)
     case measure => have := HL.out; simp [intOf]; omega
   ·have d1 : decide ((k : Int) + 1 < (n : Int)) = false := decide_eq_false (by omega)
    have ek : k + 1 = n := by have := HK.out; omega
    have hc := compact_none xs k (by have := HN.out; omega) HX.out
    rw [List.take_of_length_le (by have := HN.out; omega)] at hc
    have HCE := Aside0.mk hc
    clear hlt ek hc
    go_wp2
    go_ret
    exact ⟨by rw [HCE.out, HN.out]; rfl, by have h := HR1.out; rw [HCE.out]; rw [HN.out] at h; exact h, HB1.out⟩
set_option maxHeartbeats 4000000 in
theorem compact_small (A : Option Addr) (n cap : Nat) (w : World) (hn : n < 2) : Calls Try.prog 119 #[.slice A n cap] w fun e w' => e = .returned (.slice A n cap) ∧ w' = w := by
 have c2 : decide (n < 2) = true := decide_eq_true hn
 have c3 : decide ((n : Int) < 2) = true := decide_eq_true (by omega)
 clear hn
 go_enter Try.func119, Try.ntmps119
 go_wp2
 go_ret
 exact ⟨rfl, rfl⟩
def half (x : Int) : Int := wrap64 (Int.tdiv x 2)
def impl_above.f (l0 : List Int) : Option (List Int) := if l0.length ≤ 1000000 then some (compact (l0.map half)) else none
theorem lit0' (w : World) : Kd.R (Kd.int .i64) 3 (w.alloc (.cells #[] 3)) w.heap.size (fun _ => True) (.slice (some ⟨w.heap.size, 0, none⟩) 0 0) [] := by
 refine ⟨fun _ _ => trivial, [], ?_, Reps.none _ _⟩
 have h2 := World.ownsRow_lit (base := w.heap.size) (e := 3) (size := (Kd.int .i64).sz) w (#[] : Array Value) 0 (Nat.le_refl _) (by simp) (by simp)
 exact h2
set_option maxHeartbeats 4000000 in
set_option maxRecDepth 100000 in
theorem impl_above.calls (A0 : Option Addr) (c0 : Nat) (l0 : List Int) (r : List Int) (w : World) (hr0 : Kd.C (Kd.int .i64) w A0 l0.length l0) (hc0 : l0.length ≤ c0) (h : impl_above.f l0 = some r) :
  Calls Try.prog 96 #[.slice A0 l0.length c0] w fun e w' => ∃ v0_ : Value, e = .returned v0_ ∧ Kd.R (Kd.int .i64) 3 w' w.heap.size (fun _ => True) v0_ r ∧ Below w.heap.size w w' := by
 unfold impl_above.f at h
 by_cases hs : l0.length ≤ 1000000
 ·rw [if_pos hs] at h
  have hr := Option.some.inj h
  have HR := Aside0.mk hr
  have HC := Aside0.mk hr0
  have HS := Aside0.mk hs
  clear h hs hr hr0
  go_enter Try.func96, Try.ntmps96
  go_wp2
  have HR0 := Aside0.mk (lit0' w)
  have HB0 := Aside0.mk (below_alloc (Below.refl w.heap.size w) (.cells #[] 3))
  go_loopw [3, 9] (fun v i wr => ∃ k : Nat, i = .int .i64 k ∧ Aside0 (k ≤ l0.length) ∧ Aside0 (Below w.heap.size w wr) ∧ Aside0 (Kd.R (Kd.int .i64) 3 wr w.heap.size (fun _ => True) v ((l0.take k).map half))) (fun _ i _ => l0.length - (intOf i).toNat)
  case atStart => exact ⟨0, rfl, ⟨Nat.zero_le _⟩, HB0, HR0⟩
  case round =>
   obtain ⟨k, rfl, HK, HB1, HR1⟩ := hrel
   have p1 : 0 ≤ (k : Int) := Int.natCast_nonneg k
   have p2 : (k : Int) ≤ 1000000 := by have := HK.out; have := HS.out; omega
   by_cases hlt : k < l0.length
   ·have c0' : decide (k < l0.length) = true := decide_eq_true hlt
    have c1' : decide ((k : Int) < (l0.length : Int)) = true := decide_eq_true (by omega)
    have q1 : (k : Int) < (l0.length : Int) := by omega
    have HL := Aside0.mk hlt
    obtain ⟨ad, c, e, hlen, hK, hcell⟩ := ReadsRow.get_ (Kd.C_below HC.out HB1.out) (0 : Int) (k : Int) p1 q1
    cases e
    have hK' : c = [.int .i64 (l0.getD k 0)] := by
     rw [Int.toNat_natCast] at hK
     exact hK
    subst hK'
    have hx := hcell 0 _ rfl
    have e1 : k * (Kd.int .i64).sz + 0 = k := Nat.mul_one k
    rw [Int.toNat_natCast, e1] at hx
    have et : (l0.take (k + 1)).map half = (l0.take k).map half ++ [half (l0.getD k 0)] := by
     rw [List.take_succ_eq_append_getElem hlt, List.map_append, List.getD_eq_getElem?_getD, List.getElem?_eq_getElem hlt]
     rfl
    have HT := Aside0.mk et
    have HYL : Aside0 (((l0.take k).map half).length = k) := ⟨by rw [List.length_map, List.length_take]; omega⟩
    clear hlen hK hcell e1 et hlt
    generalize l0.getD k 0 = x at hx HT
    generalize (l0.take k).map half = ys at HR1 HT HYL
    have hz : decide ((2 : Int) = 0) = false := by decide
    go_wp2_with (at_builtin; refine Kd.R_append (Kd.int .i64) (w0 := w) w.heap.size rfl (.tmp 13) (.tmp 16) 23 3 (.int .i64 0) 8 rfl Try.underlying23 info3 rfl (by decide) (by omega) _ ys (half x) [.int .i64 (half x)] (fun _ => True) (fun _ => False) rfl rfl rfl (fun _ hk => hk.elim) (fun _ _ => trivial) HR1.out HB1.out HB1.out.size (by have := HYL.out; have := HL.out; have := HS.out; omega) ?_; intro v1 w5 ho hb hg hat; have HR2 := Aside0.mk ho; have HB2 := Aside0.mk hb; clear ho hb hg hat)
    go_roundw
    case rel => exact ⟨k + 1, by go_num, ⟨HL.out⟩, HB2, ⟨by rw [HT.out]; exact HR2.out⟩⟩
    case measure => have := HL.out; simp [intOf]; omega
   ·have c0' : decide (k < l0.length) = false := decide_eq_false hlt
    have c1' : decide ((k : Int) < (l0.length : Int)) = false := decide_eq_false (by omega)
    have ek : k = l0.length := Nat.le_antisymm HK.out (Nat.le_of_not_lt hlt)
    subst ek
    have HR3 : Aside0 (Kd.R (Kd.int .i64) 3 wr w.heap.size (fun _ => True) u3 (l0.map half)) := ⟨by have h := HR1.out; rw [List.take_length] at h; exact h⟩
    clear hlt HR1
    generalize hm : l0.map half = ms at HR HR3
    have HML : Aside0 (ms.length = l0.length) := ⟨by rw [← hm, List.length_map]⟩
    clear hm
    by_cases hs2 : l0.length < 2
    ·obtain ⟨A3, c3, hv3⟩ := Kd.R_slice HR3.out
     subst hv3
     have H3 := Aside0.mk (compact_small A3 ms.length c3 wr (by rw [HML.out]; exact hs2))
     have HE : Aside0 (compact ms = ms) := ⟨compact_short (by rw [HML.out]; exact hs2)⟩
     clear hs2
     go_wp2_with (go_at_call 119; refine H3.out.mono ?_; rintro e w' ⟨rfl, rfl⟩)
     go_ret
     exact ⟨_, rfl, by rw [← HR.out, HE.out]; exact HR3.out, HB1.out⟩
    ·obtain ⟨g, cap, hv3, hg, _, _⟩ := Kd.R_form HR3.out (by rw [HML.out]; exact Nat.lt_of_lt_of_le (by decide) (Nat.le_of_not_lt hs2))
     subst hv3
     have H3 := Aside0.mk (compact_walk g cap ms.length w.heap.size (fun _ => True) ms w wr HR3.out rfl (by rw [HML.out]; exact HS.out) (Kd.R_reads' HR3.out).2.1 HB1.out hg)
     clear hs2 hg
     go_wp2_with (go_at_call 119; refine H3.out.mono ?_; rintro e w' ⟨rfl, ho, hb⟩)
     go_ret
     exact ⟨_, rfl, by rw [← HR.out]; exact ho, hb⟩
 ·rw [if_neg hs] at h
  cases h

theorem lv_after {W W' : World} {ad : Addr} {A : Option Addr} {base n c cc : Nat} {i : Int} {t : List (List Int)} {ok : Nat → Prop} {row : Option Nat} (hS : Kd.S (Kd.slice 3 (Kd.int .i64)) 23 W' base ok (.slice (some ad) n c) t) (h0 : 0 ≤ i) (h1 : i < (t.length : Int))
    (hg : W.grownBy W' row) (hne : some ad.block ≠ row) (hc : W.cell? (ad.add i.toNat) = some (.slice A (rd_L3 t i).length cc)) : Kd.C (Kd.int .i64) W' A (rd_L3 t i).length (rd_L3 t i) ∧ W'.cell? (ad.add i.toNat) = some (.slice A (rd_L3 t i).length cc) ∧ 0 ≤ i ∧ i < (t.length : Int) := by
  have hb : (ad.add i.toNat).block = ad.block := add_block _ _
  have hlt := World.block_lt_of_cell? W _ hc
  have e : W'.cell? (ad.add i.toNat) = W.cell? (ad.add i.toNat) := by
    have := hg.block (ad.add i.toNat).block hlt (by rw [hb]; exact hne)
    simp [World.cell?, this]
  obtain ⟨ad', A', c', e1, hx, _, hC⟩ := at_L3 (Kd.S_reads' hS).2.2 i h0 h1
  cases e1
  rw [e, hc] at hx
  injection hx with hx
  injection hx with h2 h3 h4
  subst h2
  exact ⟨hC, e.trans hc, h0, h1⟩
/-! ### impl_ManyPath: function 55 -/
mutual
def impl_ManyPath.j0 : Nat → Int → List (List Int) → List Int → Bool → Option (List Int × Bool)
 | 0, _, _, _, _ => none
 | k + 1, x0, x1, x2, x23 => if x23 = true then (some (([] : List Int), false)) else ((impl_levels.f k x0 x1).bind fun t310 => (impl_ManyPath.l0 k x2 (([] : List Int)) t310 (t310.length : Int) 0))
def impl_ManyPath.l0 : Nat → List Int → List Int → List (List Int) → Int → Int → Option (List Int × Bool)
 | 0, _, _, _, _, _ => none
 | k + 1, x2, x8, x27, x28, x29 => if x29 < x28 then (if 0 ≤ x29 then (if x29 < (x27.length : Int) then (impl_ManyPath.l1 k x2 x8 (rd_L3 x27 x29) x27 x28 x29 x2 (x2.length : Int) 0) else (none)) else (none)) else (some (x8, true))
def impl_ManyPath.l1 : Nat → List Int → List Int → List Int → List (List Int) → Int → Int → List Int → Int → Int → Option (List Int × Bool)
 | 0, _, _, _, _, _, _, _, _, _ => none
 | k + 1, x2, x8, x10, x27, x28, x29, x33, x34, x35 => if x35 < x34 then (if 0 ≤ x35 then (if x35 < (x33.length : Int) then (if (Go.bits .xor .i64 (rd x33 x35) 1) < (x10.length : Int) then ((slices_Contains_int_int.f k x2 (Go.bits .xor .i64 (rd x33 x35) 1)).bind fun t315 => (if t315 = true then (impl_ManyPath.l1 k x2 x8 x10 x27 x28 x29 x33 x34 (wrap64 (x35 + 1))) else (if 0 ≤ (Go.bits .xor .i64 (rd x33 x35) 1) then (if x8.length < 17592186044416 then (impl_ManyPath.l1 k x2 (x8 ++ [rd x10 (Go.bits .xor .i64 (rd x33 x35) 1)]) x10 x27 x28 x29 x33 x34 (wrap64 (x35 + 1))) else (none)) else (none)))) else (impl_ManyPath.l1 k x2 x8 x10 x27 x28 x29 x33 x34 (wrap64 (x35 + 1)))) else (none)) else (none)) else ((impl_above.f x2).bind fun t320 => (impl_ManyPath.l0 k t320 x8 x27 x28 (wrap64 (x29 + 1))))
end
def impl_ManyPath.f (k : Nat) (a0 : Int) (l1 : List (List Int)) (l2 : List Int) : Option (List Int × Bool) := (impl_leavesOk.f a0 l1).bind fun t305 => (if t305 = true then ((impl_placesOk.f k l2 (l1.length : Int)).bind fun t306 => (impl_ManyPath.j0 k a0 l1 l2 (!t306))) else (impl_ManyPath.j0 k a0 l1 l2 true))
set_option maxHeartbeats 8000000 in
set_option maxRecDepth 100000 in
theorem impl_ManyPath.calls (k : Nat) (a0 : Int) (A1 : Option Addr) (c1 : Nat) (l1 : List (List Int)) (P2_ : Nat → Prop) (A2 : Option Addr) (c2 : Nat) (l2 : List Int) (r1 : List Int) (r2 : Bool) (w : World) (hr1 : Kd.C (Kd.slice 5 (Kd.int .u8)) w A1 l1.length l1) (hc1 : l1.length ≤ c1) (hs2 : Kd.V (Kd.int .i64) 3 w w.heap.size (fun k_ => P2_ k_) (.slice A2 l2.length c2) l2) (h : impl_ManyPath.f k a0 l1 l2 = some (r1, r2)) :
  Calls Try.prog 55 #[.int .i64 a0, .slice A1 l1.length c1, .slice A2 l2.length c2] w fun e w' => ∃ v0_ : Value, e = .returned (.tuple #[v0_, .bool r2]) ∧ Kd.R (Kd.int .i64) 3 w' w.heap.size (fun k_ => (w.heap.size ≤ k_)) v0_ r1 ∧ Below w.heap.size w w' := by
 have HR1 := Aside0.mk hr1
 have HC1 := Aside0.mk hc1
 clear hr1 hc1
 have HO2 := Aside0.mk (show Kd.V (Kd.int .i64) 3 w w.heap.size (fun k_ => (P2_ k_ ∨ w.heap.size ≤ k_)) (.slice A2 l2.length c2) l2 from Kd.V_mono hs2 (fun k_ hk => .inl hk))
 have HB := Aside0.mk (Below.refl w.heap.size w)
 have H : ((impl_leavesOk.f a0 l1).bind fun t305 => (if t305 = true then ((impl_placesOk.f k l2 (l1.length : Int)).bind fun t306 => (impl_ManyPath.j0 k a0 l1 l2 (!t306))) else (impl_ManyPath.j0 k a0 l1 l2 true))) = some (r1, r2) := h
 clear h
 have HC4 := Aside0.mk H
 clear H
 go_enter Try.func55, Try.ntmps55
 go_upto_region 1 with (fail)
 go_cut [23] (fun v23 wc => ∃ (kq : Nat) (x23_3 : Bool), v23 = .bool x23_3 ∧ Aside0 (impl_ManyPath.j0 kq a0 l1 l2 x23_3 = some (r1, r2)) ∧ Aside0 (kq ≤ k) ∧ Aside0 (Kd.V (Kd.int .i64) 3 wc w.heap.size (fun k_ => (P2_ k_ ∨ w.heap.size ≤ k_)) (.slice A2 l2.length c2) l2) ∧ Aside0 (Below w.heap.size w wc))
 case first =>
  have H := HC4.out
  clear HC4
  replace H := Option.bind_eq_some_iff.mp H
  obtain ⟨t305, A50, H⟩ := H
  (try dsimp -simprocs only at H)
  have A5 := Aside0.mk A50
  clear A50
  by_cases c6 : t305 = true
  ·subst c6
   rw [if_pos rfl] at H
   replace H := Option.bind_eq_some_iff.mp H
   obtain ⟨t306, A70, H⟩ := H
   (try dsimp -simprocs only at H)
   have A7 := Aside0.mk A70
   clear A70
   have H' := Aside0.mk H
   clear H
   go_wp2_with (first | ((with_reducible refine gate_callee (f := 63) rfl ?_); refine goesL_ (some 15) rfl rfl Try.func63 (by kernel_rfl) rfl #[.int .i64 a0, .slice A1 l1.length c1] rfl av ?_; (with_reducible refine (impl_leavesOk.calls a0 _ _ l1 true _ ?side1 ?side2 A5.out).mono ?_); (case side1 => exact cv ((Kd.C_below HR1.out HB.out))); (case side2 => exact HC1.out); rintro e w' ⟨rfl, ⟨nd, rfl⟩⟩; refine ⟨_, rfl, ?_⟩) | (go_at_call 93; (with_reducible refine (impl_placesOk.calls k _ _ l2 (l1.length : Int) t306 _ ?side1 ?side2 A7.out).mono ?_); (case side1 => exact cv ((Kd.V_reads' HO2.out).2.2)); (case side2 => exact (Kd.V_reads' HO2.out).2.1); rintro e w' ⟨rfl, ⟨nd, rfl⟩⟩))
   go_meet
   case rel => exact ⟨_, (!t306), (by first | rfl | (simp; done) | (simp [*]; done)), H', ⟨by first | omega | exact Nat.le_refl _⟩, ⟨mv HO2.out⟩, ⟨bt⟩⟩
  ·replace c6 := Bool.eq_false_iff.mpr c6
   subst c6
   rw [if_neg (show ¬ (false = true) by decide)] at H
   have H' := Aside0.mk H
   clear H
   go_wp2_with (first | ((with_reducible refine gate_callee (f := 63) rfl ?_); refine goesL_ (some 15) rfl rfl Try.func63 (by kernel_rfl) rfl #[.int .i64 a0, .slice A1 l1.length c1] rfl av ?_; (with_reducible refine (impl_leavesOk.calls a0 _ _ l1 false _ ?side1 ?side2 A5.out).mono ?_); (case side1 => exact cv ((Kd.C_below HR1.out HB.out))); (case side2 => exact HC1.out); rintro e w' ⟨rfl, ⟨nd, rfl⟩⟩; refine ⟨_, rfl, ?_⟩))
   go_meet
   case rel => exact ⟨_, (true), (by first | rfl | (simp; done) | (simp [*]; done)), H', ⟨by first | omega | exact Nat.le_refl _⟩, ⟨mv HO2.out⟩, ⟨bt⟩⟩
 case rest =>
  clear HC4
  try clear c1
  try clear c2
  try clear p2
  try clear c5
  try clear c6
  obtain ⟨kq, x23_3, rfl, HA, HJ3, HO_2, HB⟩ := hcut
  cases kq with
  | zero => exact absurd HA.out (by simp [impl_ManyPath.j0])
  | succ kj3 =>
   have H := HA.out
   clear HA
   simp only [impl_ManyPath.j0] at H
   by_cases c8 : x23_3 = true
   ·subst c8
    rw [if_pos rfl] at H
    simp only [Option.some.injEq, Prod.mk.injEq] at H
    obtain ⟨rfl, rfl⟩ := H
    go_wp2
    go_ret2
    exact ⟨_, by first | rfl | (simp [errW_none, errW_some] <;> rfl) | (simp [*, errW_none, errW_some] <;> rfl), by first | exact Kd.R_nil _ _ _ _ _ | exact Kd.N_nil _ _ _ _ _ | exact Kd.V_nil _ _ _ _ _ | exact Kd.Q_nil _ _ _ _ _ | exact Kd.S_nil _ _ _ _ _, bt⟩
   ·replace c8 := Bool.eq_false_iff.mpr c8
    subst c8
    rw [if_neg (show ¬ (false = true) by decide)] at H
    obtain ⟨y307, hy307⟩ : ∃ y_ : List Int, y_ = (([] : List Int)) := ⟨_, rfl⟩
    replace H : ((impl_levels.f kj3 a0 l1).bind fun t310 => (impl_ManyPath.l0 kj3 l2 y307 t310 (t310.length : Int) 0)) = some (r1, r2) := by first | (rw [hy307]; exact H) | exact H
    have Ny307 := Aside0.mk hy307
    clear hy307
    replace H := Option.bind_eq_some_iff.mp H
    obtain ⟨t310, A90, H⟩ := H
    (try dsimp -simprocs only at H)
    have A9 := Aside0.mk A90
    clear A90
    have H' := Aside0.mk H
    clear H
    go_wp2_with (first | ((with_reducible refine gate_dst (N := 24) rfl ?_); (try (refine gate_guard (by rfl) ?_; dsimp only)); refine Kd.R_lit (Kd.int .i64) _ 3 ?hg (N := 24) ?hd (xs := ([] : List Int)) (inner := []) (ok := fun _ => True) (okp := fun _ => True) ?hr ?hp (fun _ hk => hk) trivial (Below.refl _ _) (Nat.le_refl _) (by simp) ?_; (case hd => rfl); (case hg => rfl); (case hr => first | (go_simp; done) | (go_simp; rfl)); (case hp => exact (Reps.none _ _)); intro v308 w10 ho11 hb hg_ hnew_; clear hg_ hnew_; (first | rw [← Ny307.out] at ho11 | (simp only [Int.reduceToNat] at ho11; rw [← Ny307.out] at ho11)); replace HO_2 := Aside0.mk (Kd.V_elder' (mv HO_2.out) (Kd.R_base ho11) hb); have HO309 := Aside0.mk (Kd.R_lower (Kd.R_newM (M := fun k_ => (w.heap.size ≤ k_)) ho11 (below_size (bt)) (fun k_ h_ => h_)) (below_size (bt))); replace HB := Aside0.mk (below_step (bt) hb); clear hb ho11) | ((with_reducible refine gate_callee (f := 94) rfl ?_); refine goesL_ (some 27) rfl rfl Try.func94 (by kernel_rfl) rfl #[.int .i64 a0, .slice A1 l1.length c1] rfl av ?_; (with_reducible refine (impl_levels.calls kj3 a0 _ _ l1 t310 _ ?side1 ?side2 A9.out).mono ?_); (case side1 => exact cv ((Kd.C_below HR1.out HB.out))); (case side2 => exact HC1.out); rintro e w12 ⟨v311, rfl, ho0, hb⟩; refine ⟨_, rfl, ?_⟩; replace HO_2 := Aside0.mk (Kd.V_elder' (mv HO_2.out) (Kd.S_base ho0) hb); have HO312 := Aside0.mk (Kd.S_lower (Kd.S_new' (Kd.S_newM (M := fun k_ => (w.heap.size ≤ k_)) ho0 (below_size (bt)) (fun k_ h_ => h_)) (Kd.R_lt (mv HO309.out))) (below_size (bt))); replace HO309 := Aside0.mk (Kd.R_below (mv HO309.out) hb); replace HB := Aside0.mk (below_step (bt) hb); (try clear hb); (try clear hb2); (try clear hk); (try clear hi); (try clear ho0); obtain ⟨Ao13, co13, eo13⟩ := Kd.S_slice HO312.out; subst eo13))
    go_loopg [2, 8, 29] kj3 (fun kq v2 v8 v29 w' => ∃ (x2_2 : List Int) (x8_2 : List Int) (x29_2 : Int), v29 = .int .i64 x29_2 ∧ Aside0 (impl_ManyPath.l0 kq x2_2 x8_2 t310 (t310.length : Int) x29_2 = some (r1, r2)) ∧ Aside0 (kq ≤ kj3) ∧ Aside0 (Kd.V (Kd.int .i64) 3 w' w.heap.size (fun k_ => (P2_ k_ ∨ w.heap.size ≤ k_) ∧ some k_ ≠ (v8 : Value).ownBlock ∧ some k_ ≠ ((.slice Ao13 t310.length co13) : Value).ownBlock) v2 x2_2) ∧ Aside0 (Kd.R (Kd.int .i64) 3 w' w.heap.size (fun k_ => (w.heap.size ≤ k_)) v8 x8_2) ∧ Aside0 (Kd.S (Kd.slice 3 (Kd.int .i64)) 23 w' w.heap.size (fun k_ => (w.heap.size ≤ k_) ∧ some k_ ≠ (v8 : Value).ownBlock) (.slice Ao13 t310.length co13) t310) ∧ Aside0 (Below w.heap.size w w'))
    case atStart => exact ⟨(l2), (y307), (0), (by first | rfl | (simp; done) | (simp [*]; done)), H', ⟨Nat.le_refl _⟩, ⟨by (with_reducible repeat (first | apply Kd.V_alloc | apply Kd.V_drewN | apply Kd.V_drew)); exact Kd.V_mono HO_2.out (fun _ hk => ⟨hk.1.1, ⟨hk.1.2, hk.2⟩⟩)⟩, ⟨by (with_reducible repeat (first | apply Kd.R_alloc | apply Kd.R_drewN | apply Kd.R_drew)); exact Kd.R_mono HO309.out (fun _ hk => hk.1)⟩, ⟨by (with_reducible repeat (first | apply Kd.S_alloc | apply Kd.S_drewN | apply Kd.S_drew)); exact Kd.S_mono HO312.out (fun _ hk => ⟨hk.1.1, hk.2⟩)⟩, ⟨bt⟩⟩
    case round =>
     clear H'
     try clear c1
     try clear c2
     try clear p2
     try clear c5
     try clear c6
     try clear c8
     try clear c9
     try clear p2
     obtain ⟨x2_2, x8_2, x29_2, rfl, HA, HK2, HO_2, HO_8, HO_27, HB⟩ := hrel
     cases gk with
     | zero => exact absurd HA.out (by simp [impl_ManyPath.l0])
     | succ k2 =>
      have H := HA.out
      clear HA
      simp only [impl_ManyPath.l0] at H
      by_cases c14 : x29_2 < (t310.length : Int)
      ·rw [if_pos c14] at H
       have c14b0 : decide (x29_2 < (t310.length : Int)) = true := decide_eq_true c14
       clear c14
       by_cases c15 : 0 ≤ x29_2
       ·rw [if_pos c15] at H
        have c15b0 : decide (0 ≤ x29_2) = true := decide_eq_true c15
        clear c15
        by_cases c16 : x29_2 < (t310.length : Int)
        ·rw [if_pos c16] at H
         have c16b0 : decide (x29_2 < (t310.length : Int)) = true := decide_eq_true c16
         clear c16
         have H' := Aside0.mk H
         clear H
         have p313 : 0 ≤ (x29_2 : Int) := of_decide_eq_true asm
         have q313 : x29_2 < (t310.length : Int) := of_decide_eq_true asm
         obtain ⟨ad313, A313_0, c313_0, e313, hx313_0, hl313_0, hi313_0⟩ := at_L3 (Kd.S_reads' HO_27.out).2.2 x29_2 p313 q313
         cases e313
         obtain ⟨ce313, hce313, hMe313, hcc313⟩ := Kd.S_get HO_27.out [] x29_2 p313 (by first | exact q313 | exact of_decide_eq_true asm | (have e_ := (Kd.S_reads' HO_27.out).1; omega))
         obtain ⟨ve313_0, rfl, ge313_0⟩ := hMe313
         have hv313_0 := hcc313 0 _ rfl
         rw [Nat.add_zero, show ((Kd.slice 3 (Kd.int .i64))).sz = 1 from rfl, Nat.mul_one] at hv313_0
         replace hv313_0 := Option.some.inj (hv313_0.symm.trans hx313_0)
         rw [hv313_0] at ge313_0
         have HL313_0 := Aside0.mk (show Kd.R (Kd.int .i64) 3 _ _ _ _ (rd_L3 t310 x29_2) from ge313_0)
         clear hv313_0 ge313_0
         clear hcc313 hce313
         have HR313_0 := Aside0.mk hi313_0
         have HC313_0 := Aside0.mk hl313_0
         clear hi313_0 hl313_0
         replace p313 := eq_true p313
         replace q313 := eq_true q313
         obtain ⟨Ao17, co17, eo17⟩ := Kd.V_slice HO_2.out
         subst eo17
         go_wp2
         go_loopg [8, 35] k2 (fun kq v8 v35 w' => ∃ (x8_3 : List Int) (x35_3 : Int), v35 = .int .i64 x35_3 ∧ Aside0 (impl_ManyPath.l1 kq x2_2 x8_3 (rd_L3 t310 x29_2) t310 (t310.length : Int) x29_2 x2_2 (x2_2.length : Int) x35_3 = some (r1, r2)) ∧ Aside0 (kq ≤ k2) ∧ Aside0 (Kd.V (Kd.int .i64) 3 w' w.heap.size (fun k_ => (P2_ k_ ∨ w.heap.size ≤ k_) ∧ some k_ ≠ (v8 : Value).ownBlock ∧ some k_ ≠ ((.slice (some ad313) t310.length co13) : Value).ownBlock) (.slice Ao17 x2_2.length co17) x2_2) ∧ Aside0 (Kd.R (Kd.int .i64) 3 w' w.heap.size (fun k_ => (w.heap.size ≤ k_)) v8 x8_3) ∧ Aside0 (Kd.S (Kd.slice 3 (Kd.int .i64)) 23 w' w.heap.size (fun k_ => (w.heap.size ≤ k_) ∧ some k_ ≠ (v8 : Value).ownBlock) (.slice (some ad313) t310.length co13) t310) ∧ Aside0 (Kd.V (Kd.int .i64) 3 w' w.heap.size (fun k_ => (P2_ k_ ∨ w.heap.size ≤ k_) ∧ some k_ ≠ (v8 : Value).ownBlock ∧ some k_ ≠ ((.slice (some ad313) t310.length co13) : Value).ownBlock) (.slice Ao17 x2_2.length co17) x2_2) ∧ Aside0 (Kd.C (Kd.int .i64) w' A313_0 (rd_L3 t310 x29_2).length (rd_L3 t310 x29_2) ∧ w'.cell? (ad313.add x29_2.toNat) = some (.slice A313_0 (rd_L3 t310 x29_2).length c313_0) ∧ 0 ≤ x29_2 ∧ x29_2 < (t310.length : Int)) ∧ Aside0 (Below w.heap.size w w'))
         case atStart => exact ⟨(x8_2), (0), (by first | rfl | (simp; done) | (simp [*]; done)), H', ⟨Nat.le_refl _⟩, ⟨mv HO_2.out⟩, ⟨mv HO_8.out⟩, ⟨mv HO_27.out⟩, ⟨mv HO_2.out⟩, ⟨HR313_0.out, hx313_0, of_decide_eq_true asm, of_decide_eq_true asm⟩, ⟨bt⟩⟩
         case round =>
          clear H'
          try clear c1
          try clear c2
          try clear p2
          try clear c3
          try clear p3
          try clear q3
          try clear hx3
          try clear c5
          try clear c6
          try clear c8
          try clear c9
          try clear c14
          try clear c14b0
          try clear c15
          try clear c15b0
          try clear c16
          try clear c16b0
          try clear hx313_0
          try clear p2
          try clear p313
          try clear q313
          obtain ⟨x8_3, x35_3, rfl, HA, HK3, HO_2, HO_8, HO_27, HO_33, HLV, HB⟩ := hrel
          cases gk with
          | zero => exact absurd HA.out (by simp [impl_ManyPath.l1])
          | succ k3 =>
           have H := HA.out
           clear HA
           simp only [impl_ManyPath.l1] at H
           by_cases c18 : x35_3 < (x2_2.length : Int)
           ·rw [if_pos c18] at H
            have c18b0 : decide (x35_3 < (x2_2.length : Int)) = true := decide_eq_true c18
            clear c18
            by_cases c19 : 0 ≤ x35_3
            ·rw [if_pos c19] at H
             have c19b0 : decide (0 ≤ x35_3) = true := decide_eq_true c19
             clear c19
             by_cases c20 : x35_3 < (x2_2.length : Int)
             ·rw [if_pos c20] at H
              have c20b0 : decide (x35_3 < (x2_2.length : Int)) = true := decide_eq_true c20
              clear c20
              by_cases c21 : (Go.bits .xor .i64 (rd x2_2 x35_3) 1) < ((rd_L3 t310 x29_2).length : Int)
              ·rw [if_pos c21] at H
               have c21b0 : decide ((Go.bits .xor .i64 (rd x2_2 x35_3) 1) < ((rd_L3 t310 x29_2).length : Int)) = true := decide_eq_true c21
               clear c21
               replace H := Option.bind_eq_some_iff.mp H
               obtain ⟨t315, A220, H⟩ := H
               (try dsimp -simprocs only at H)
               have A22 := Aside0.mk A220
               clear A220
               by_cases c23 : t315 = true
               ·subst c23
                rw [if_pos rfl] at H
                have H' := Aside0.mk H
                clear H
                have p314 : 0 ≤ (x35_3 : Int) := of_decide_eq_true asm
                have q314 : x35_3 < (x2_2.length : Int) := of_decide_eq_true asm
                obtain ⟨ad314, e314, hx314_0⟩ := Kd.at_int (Kd.V_reads' HO_33.out).2.2 x35_3 p314 q314
                cases e314
                replace p314 := eq_true p314
                replace q314 := eq_true q314
                go_wp2_with (first | (go_at_call 95; (with_reducible refine (slices_Contains_int_int.calls k3 _ _ x2_2 (Go.bits .xor .i64 (rd x2_2 x35_3) 1) true _ ?side1 ?side2 A22.out).mono ?_); (case side1 => exact cv ((Kd.V_reads' HO_2.out).2.2)); (case side2 => exact (Kd.V_reads' HO_2.out).2.1); rintro e w' ⟨rfl, ⟨nd, rfl⟩⟩))
                go_roundg k3
                case measure => have := HJ3.out; have := HK2.out; have := HK3.out; omega
                case rel => exact ⟨(x8_3), (wrap64 (x35_3 + 1)), (by first | rfl | (simp; done) | (simp [*]; done)), H', ⟨by have := HJ3.out; have := HK2.out; have := HK3.out; omega⟩, ⟨mv HO_2.out⟩, ⟨mv HO_8.out⟩, ⟨mv HO_27.out⟩, ⟨mv HO_33.out⟩, ⟨HLV.out.1, HLV.out.2⟩, ⟨bt⟩⟩
               ·replace c23 := Bool.eq_false_iff.mpr c23
                subst c23
                rw [if_neg (show ¬ (false = true) by decide)] at H
                by_cases c24 : 0 ≤ (Go.bits .xor .i64 (rd x2_2 x35_3) 1)
                ·rw [if_pos c24] at H
                 have c24b0 : decide (0 ≤ (Go.bits .xor .i64 (rd x2_2 x35_3) 1)) = true := decide_eq_true c24
                 clear c24
                 by_cases c25 : x8_3.length < 17592186044416
                 ·rw [if_pos c25] at H
                  have LMc25 := Aside0.mk c25
                  clear c25
                  obtain ⟨y317, hy317⟩ : ∃ y_ : List Int, y_ = (x8_3 ++ [rd (rd_L3 t310 x29_2) (Go.bits .xor .i64 (rd x2_2 x35_3) 1)]) := ⟨_, rfl⟩
                  replace H : (impl_ManyPath.l1 k3 x2_2 y317 (rd_L3 t310 x29_2) t310 (t310.length : Int) x29_2 x2_2 (x2_2.length : Int) (wrap64 (x35_3 + 1))) = some (r1, r2) := by first | (rw [hy317]; exact H) | exact H
                  have Ny317 := Aside0.mk hy317
                  clear hy317
                  have H' := Aside0.mk H
                  clear H
                  have p314 : 0 ≤ (x35_3 : Int) := of_decide_eq_true asm
                  have q314 : x35_3 < (x2_2.length : Int) := of_decide_eq_true asm
                  obtain ⟨ad314, e314, hx314_0⟩ := Kd.at_int (Kd.V_reads' HO_33.out).2.2 x35_3 p314 q314
                  cases e314
                  replace p314 := eq_true p314
                  replace q314 := eq_true q314
                  go_wp2_with (first | (go_at_call 95; (with_reducible refine (slices_Contains_int_int.calls k3 _ _ x2_2 (Go.bits .xor .i64 (rd x2_2 x35_3) 1) false _ ?side1 ?side2 A22.out).mono ?_); (case side1 => exact cv ((Kd.V_reads' HO_2.out).2.2)); (case side2 => exact (Kd.V_reads' HO_2.out).2.1); rintro e w' ⟨rfl, ⟨nd, rfl⟩⟩; have p316 : 0 ≤ ((Go.bits .xor .i64 (rd x2_2 x35_3) 1) : Int) := of_decide_eq_true asm; have q316 : (Go.bits .xor .i64 (rd x2_2 x35_3) 1) < ((rd_L3 t310 x29_2).length : Int) := of_decide_eq_true asm; obtain ⟨ad316, e316, hx316_0⟩ := Kd.at_int HLV.out.1 (Go.bits .xor .i64 (rd x2_2 x35_3) 1) p316 q316; cases e316; replace p316 := eq_true p316; replace q316 := eq_true q316) | ((with_reducible refine gate_builtin (b := .append) (xs := #[.tmp 51, .tmp 57]) rfl ?_); (try (refine gate_guard (by rfl) ?_; dsimp only)); at_builtin; refine Kd.R_append (Kd.int .i64) (w0 := w) w.heap.size rfl (.tmp 51) (.tmp 57) 23 3 (.int .i64 0) 8 rfl Try.underlying23 info3 rfl (by decide) (by omega) u8 x8_3 (rd (rd_L3 t310 x29_2) (Go.bits .xor .i64 (rd x2_2 x35_3) 1)) [.int .i64 (rd (rd_L3 t310 x29_2) (Go.bits .xor .i64 (rd x2_2 x35_3) 1))] (fun k_ => (w.heap.size ≤ k_)) (fun _ => False) rfl rfl ?aP (fun _ hk => hk.elim) ?aF ?aO ?aB ?aS ?aL ?_; (case aP => exact rfl); (case aB => exact (bt)); (case aF => exact (fun k_ hk => (Nat.le_trans (below_size (bt)) hk))); (case aO => exact (mv HO_8.out)); (case aS => exact (below_size (bt))); (case aL => have := LMc25.out; omega); intro v318 w26 ho hb hg hat; rw [← Ny317.out] at ho; have hne_ := ((Kd.S_R HO_27.out).1 _ rfl).2; have lvc_ := HLV.out.2.1; have lv0_ := HLV.out.2.2.1; have lv1_ := HLV.out.2.2.2; replace HO_2 := Aside0.mk (Kd.V_afterv (ok := (fun k_ => (P2_ k_ ∨ w.heap.size ≤ k_) ∧ some k_ ≠ (.slice (some ad313) t310.length co13 : Value).ownBlock)) (by (with_reducible repeat (first | apply Kd.V_alloc | apply Kd.V_drewN | apply Kd.V_drew)); exact Kd.V_mono HO_2.out (fun _ hk => ⟨⟨hk.1, hk.2.2⟩, hk.2.1⟩)) hg hat); replace HO_27 := Aside0.mk (Kd.S_after (ok := (fun k_ => (w.heap.size ≤ k_))) (mv HO_27.out) hg hat); have HLV := Aside0.mk (lv_after HO_27.out lv0_ lv1_ hg hne_ lvc_); clear lvc_ lv0_ lv1_ hne_; replace HO_33 := Aside0.mk (Kd.V_afterv (ok := (fun k_ => (P2_ k_ ∨ w.heap.size ≤ k_) ∧ some k_ ≠ (.slice (some ad313) t310.length co13 : Value).ownBlock)) (by (with_reducible repeat (first | apply Kd.V_alloc | apply Kd.V_drewN | apply Kd.V_drew)); exact Kd.V_mono HO_33.out (fun _ hk => ⟨⟨hk.1, hk.2.2⟩, hk.2.1⟩)) hg hat); replace HB := Aside0.mk (hb); have HO319 := Aside0.mk (ho); clear HO_8; clear ho hb hg hat))
                  go_roundg k3
                  case measure => have := HJ3.out; have := HK2.out; have := HK3.out; omega
                  case rel => exact ⟨(y317), (wrap64 (x35_3 + 1)), (by first | rfl | (simp; done) | (simp [*]; done)), H', ⟨by have := HJ3.out; have := HK2.out; have := HK3.out; omega⟩, ⟨by (with_reducible repeat (first | apply Kd.V_alloc | apply Kd.V_drewN | apply Kd.V_drew)); exact Kd.V_mono HO_2.out (fun _ hk => ⟨hk.1.1, ⟨hk.2, hk.1.2⟩⟩)⟩, ⟨mv HO319.out⟩, ⟨mv HO_27.out⟩, ⟨by (with_reducible repeat (first | apply Kd.V_alloc | apply Kd.V_drewN | apply Kd.V_drew)); exact Kd.V_mono HO_33.out (fun _ hk => ⟨hk.1.1, ⟨hk.2, hk.1.2⟩⟩)⟩, ⟨HLV.out.1, HLV.out.2⟩, ⟨bt⟩⟩
                 ·rw [if_neg c25] at H
                  exact absurd H (by simp)
                ·rw [if_neg c24] at H
                 exact absurd H (by simp)
              ·rw [if_neg c21] at H
               have c21b0 : decide ((Go.bits .xor .i64 (rd x2_2 x35_3) 1) < ((rd_L3 t310 x29_2).length : Int)) = false := decide_eq_false c21
               clear c21
               have H' := Aside0.mk H
               clear H
               have p314 : 0 ≤ (x35_3 : Int) := of_decide_eq_true asm
               have q314 : x35_3 < (x2_2.length : Int) := of_decide_eq_true asm
               obtain ⟨ad314, e314, hx314_0⟩ := Kd.at_int (Kd.V_reads' HO_33.out).2.2 x35_3 p314 q314
               cases e314
               replace p314 := eq_true p314
               replace q314 := eq_true q314
               go_wp2
               go_roundg k3
               case measure => have := HJ3.out; have := HK2.out; have := HK3.out; omega
               case rel => exact ⟨(x8_3), (wrap64 (x35_3 + 1)), (by first | rfl | (simp; done) | (simp [*]; done)), H', ⟨by have := HJ3.out; have := HK2.out; have := HK3.out; omega⟩, ⟨mv HO_2.out⟩, ⟨mv HO_8.out⟩, ⟨mv HO_27.out⟩, ⟨mv HO_33.out⟩, ⟨HLV.out.1, HLV.out.2⟩, ⟨bt⟩⟩
             ·rw [if_neg c20] at H
              exact absurd H (by simp)
            ·rw [if_neg c19] at H
             exact absurd H (by simp)
           ·rw [if_neg c18] at H
            have c18b0 : decide (x35_3 < (x2_2.length : Int)) = false := decide_eq_false c18
            clear c18
            replace H := Option.bind_eq_some_iff.mp H
            obtain ⟨t320, A270, H⟩ := H
            (try dsimp -simprocs only at H)
            have A27 := Aside0.mk A270
            clear A270
            have H' := Aside0.mk H
            clear H
            go_wp2_with (first | ((with_reducible refine gate_callee (f := 96) rfl ?_); refine goesL_ (some 61) rfl rfl Try.func96 (by kernel_rfl) rfl #[.slice Ao17 x2_2.length co17] rfl av ?_; (with_reducible refine (impl_above.calls _ _ x2_2 t320 _ ?side1 ?side2 A27.out).mono ?_); (case side1 => exact cv ((Kd.V_reads' HO_2.out).2.2)); (case side2 => exact (Kd.V_reads' HO_2.out).2.1); rintro e w28 ⟨v321, rfl, ho0, hb⟩; refine ⟨_, rfl, ?_⟩; replace HO_2 := Aside0.mk (Kd.V_elder' (mv HO_2.out) (Kd.R_base ho0) hb); replace HO_27 := Aside0.mk (Kd.S_elder' (mv HO_27.out) (Kd.R_base ho0) hb); replace HO_33 := Aside0.mk (Kd.V_elder' (mv HO_33.out) (Kd.R_base ho0) hb); have HO322 := Aside0.mk (Kd.R_lower (Kd.R_new' (Kd.R_newM (M := fun k_ => (w.heap.size ≤ k_)) ho0 (below_size (bt)) (fun k_ h_ => h_)) (Kd.R_lt (mv HO_8.out))) (below_size (bt))); replace HO_8 := Aside0.mk (Kd.R_elder' (mv HO_8.out) (Kd.R_base ho0) hb); replace HB := Aside0.mk (below_step (bt) hb); (try clear hb); (try clear hb2); (try clear hk); (try clear hi); (try clear ho0)))
            go_roundg k3
            case measure => have := HJ3.out; have := HK2.out; have := HK3.out; omega
            case rel => exact ⟨(t320), (x8_3), (wrap64 (x29_2 + 1)), (by first | rfl | (simp; done) | (simp [*]; done)), H', ⟨by have := HJ3.out; have := HK2.out; have := HK3.out; omega⟩, ⟨by have hR_ := Kd.R_apart' HO322.out (Kd.S_typed HO_27.out) (by decide); exact Kd.V_mono (Kd.R_V hR_) (fun k_ hk => ⟨.inr hk.1.1.1, hk.1.2, hk.2⟩)⟩, ⟨by (with_reducible repeat (first | apply Kd.R_alloc | apply Kd.R_drewN | apply Kd.R_drew)); exact Kd.R_mono HO_8.out (fun _ hk => hk.1)⟩, ⟨by (with_reducible repeat (first | apply Kd.S_alloc | apply Kd.S_drewN | apply Kd.S_drew)); exact Kd.S_mono HO_27.out (fun _ hk => ⟨hk.1.1, hk.1.2⟩)⟩, ⟨bt⟩⟩
        ·rw [if_neg c16] at H
         exact absurd H (by simp)
       ·rw [if_neg c15] at H
        exact absurd H (by simp)
      ·rw [if_neg c14] at H
       have c14b0 : decide (x29_2 < (t310.length : Int)) = false := decide_eq_false c14
       clear c14
       simp only [Option.some.injEq, Prod.mk.injEq] at H
       obtain ⟨rfl, rfl⟩ := H
       go_wp2
       go_ret2
       exact ⟨_, by first | rfl | (simp [errW_none, errW_some] <;> rfl) | (simp [*, errW_none, errW_some] <;> rfl), by (with_reducible repeat (first | apply Kd.R_alloc | apply Kd.R_drewN | apply Kd.R_drew)); exact HO_8.out, bt⟩

/-! ### laws_szByteS: function 74 -/
def laws_szByteS.f (l0 : List Int) (a1 : Int) : Option (Int) := if (wrap64 (a1 - (l0.length : Int))) < 0 then (some (-1)) else (some (wrap64 (a1 - (l0.length : Int))))
set_option maxHeartbeats 8000000 in
set_option maxRecDepth 100000 in
theorem laws_szByteS.calls (A0 : Option Addr) (c0 : Nat) (l0 : List Int) (a1 : Int) (r : Int) (w : World) (hr0 : Kd.C (Kd.int .u8) w A0 l0.length l0) (hc0 : l0.length ≤ c0) (h : laws_szByteS.f l0 a1 = some r) :
  Calls Try.prog 74 #[.slice A0 l0.length c0, .int .i64 a1] w fun e w' => e = .returned (.int .i64 r) ∧ Drawn0 w w' := by
 have HR0 := Aside0.mk hr0
 have HC0 := Aside0.mk hc0
 clear hr0 hc0
 have H : (if (wrap64 (a1 - (l0.length : Int))) < 0 then (some (-1)) else (some (wrap64 (a1 - (l0.length : Int))))) = some r := h
 clear h
 by_cases c3 : (wrap64 (a1 - (l0.length : Int))) < 0
 ·rw [if_pos c3] at H
  have c3b0 : decide ((wrap64 (a1 - (l0.length : Int))) < 0) = true := decide_eq_true c3
  clear c3
  obtain rfl := Option.some.inj H
  go_enter Try.func74, Try.ntmps74
  go_wp2
  go_ret
  exact ⟨by first | rfl | (simp; done) | (simp [*]; done), by repeat (first | exact Drawn0.refl _ | apply Drawn0.step)⟩
 ·rw [if_neg c3] at H
  have c3b0 : decide ((wrap64 (a1 - (l0.length : Int))) < 0) = false := decide_eq_false c3
  clear c3
  obtain rfl := Option.some.inj H
  go_enter Try.func74, Try.ntmps74
  go_wp2
  go_ret
  exact ⟨by first | rfl | (simp; done) | (simp [*]; done), by repeat (first | exact Drawn0.refl _ | apply Drawn0.step)⟩

end Go.Proofs.Ytaacidhgnappdaa.PFnExactManyPath
