-- Written by a program of this workplace (wip/mp.py) out of the translation.
import Derived.Test.YtchjajbkaiefdaaPFnForgeryx0
import Derived.Test.YtchjajbkaiefdaaPFnForgeryx1
import Derived.Test.YtchjajbkaiefdaaPFnForgeryx2
import Derived.Test.YtchjajbkaiefdaaPFnForgeryx4
import Derived.Test.YtchjajbkaiefdaaPFnForgeryx8
namespace Go.Proofs.Ytchjajbkaiefdaa.PFnForgery
open Go.RowKit Go.Proofs.YtchjajbkaiefdaaW.PrintWords Go.Proofs.YtchjajbkaiefdaaW.PrintLast Go.Proofs.YtchjajbkaiefdaaW.PrintMore Go.Proofs.Ytchjajbkaiefdaa.Slim
attribute [local go_sem] max2_int min2_int max_two min_two max_three min_three max_four min_four   -- for this text's walks alone
set_option linter.unusedVariables false
set_option linter.unusedSimpArgs false

theorem fk_of_R {α : Type} {d : Kd α} {e base : Nat} {W : World} {ok : Nat → Prop} {v : Value} {xs : List α} (h : d.R e W base ok v xs) : Kd.FK (Kd.slice e d) W ok xs [v] := by
 obtain ⟨A, c, rfl⟩ := Kd.R_slice h
 exact Kd.FK_slice_mk (Kd.R_reads' h).2.1 (Kd.R_F h)
/-! ### spec_l3Forge: function 63 -/
def spec_l3Forge.l0 : Nat → Int → List (List Int) → Int → Int → Int → List Int → Int → Int → Int → Int → List Int → List Int → Option (Int × Int × List Int × List Int × Int × Int)
 | 0, _, _, _, _, _, _, _, _, _, _, _, _ => none
 | k + 1, x1, x2, x3, x11, x12, x1000, x1001, x1002, x432000, x432001, x432002, x432003 => if x12 < 40 then ((spec_l1DrawData.f k x1000 x1001 x1002 4).bind fun bt433 => (if 0 ≤ x3 then (if x3 < (x2.length : Int) then ((spec_l1Same.f bt433.1 (rd_L1 x2 x3)).bind fun t439 => (if t439 = true then (spec_l3Forge.l0 k x1 x2 x3 x11 (wrap64 (x12 + 1)) x1000 bt433.2.1 bt433.2.2 x432000 x432001 x432002 x432003) else ((spec_Proven.f k x1 x11 x432000 x3 bt433.1 x432003).bind fun t440 => (if t440 = true then (some (x432000, x432001, bt433.1, x432003, bt433.2.1, bt433.2.2)) else (spec_l3Forge.l0 k x1 x2 x3 x11 (wrap64 (x12 + 1)) x1000 bt433.2.1 bt433.2.2 x432000 x432001 x432002 x432003))))) else (none)) else (none))) else (some (x432000, x432001, x432002, x432003, x1001, x1002))
def spec_l3Forge.f (k : Nat) (s0_0 : List Int) (s0_1 : Int) (s0_2 : Int) (a1 : Int) (l2 : List (List Int)) (a3 : Int) : Option (Int × Int × List Int × List Int × Int × Int) := (spec_Honest.f k a1 l2 a3).bind fun bt422 => ((spec_TreeRoot.f k a1 l2).bind fun t432 => (spec_l3Forge.l0 k a1 l2 a3 t432 0 s0_0 s0_1 s0_2 bt422.1 bt422.2.1 bt422.2.2.1 bt422.2.2.2.1))
set_option maxHeartbeats 8000000 in
set_option maxRecDepth 100000 in
theorem spec_l3Forge.calls (k : Nat) (g : Nat) (s0_0 : List Int) (s0_1 : Int) (s0_2 : Int) (a1 : Int) (A2 : Option Addr) (c2 : Nat) (l2 : List (List Int)) (a3 : Int) (r1 : Int) (r2 : Int) (r3 : List Int) (r4 : List Int) (r5 : Int) (r6 : Int) (w0 w : World) (hI : IsS113 w0 w g s0_0 s0_1 s0_2) (hB : Below w0.heap.size w0 w) (hr2 : ∀ W_, KeepBut w W_ g none → Kd.C (Kd.slice 5 (Kd.int .u8)) W_ A2 l2.length l2) (hc2 : l2.length ≤ c2) (h : spec_l3Forge.f k s0_0 s0_1 s0_2 a1 l2 a3 = some (r1, r2, r3, r4, r5, r6)) :
  Calls Try.prog 63 #[.pointer (some ⟨g, 0, none⟩), .int .i64 a1, .slice A2 l2.length c2, .int .i64 a3] w fun e w' => ∃ v2_ v3_ : Value, e = .returned (.agg #[.int .i64 r1, .int .i64 r2, v2_, v3_]) ∧ Kd.R (Kd.int .u8) 5 w' w.heap.size (fun _ => True) v2_ r3 ∧ Kd.R (Kd.int .i64) 3 w' w.heap.size (fun _ => True) v3_ r4 ∧ IsS113 w0 w' g s0_0 r5 r6 ∧ Below w0.heap.size w0 w' ∧ KeepBut w w' g none := by
 have hu31 := Try.underlying31
 have HR2 := am hr2
 have HC2 := am hc2
 clear hr2 hc2
 have HI0 := am hI
 have HK := am (KeepBut.refl w g none)
 have HL := am hB.size
 clear hI
 have HW0 := am hB.size
 have HB := am hB
 clear hB
 have H : ((spec_Honest.f k a1 l2 a3).bind fun bt422 => ((spec_TreeRoot.f k a1 l2).bind fun t432 => (spec_l3Forge.l0 k a1 l2 a3 t432 0 s0_0 s0_1 s0_2 bt422.1 bt422.2.1 bt422.2.2.1 bt422.2.2.2.1))) = some (r1, r2, r3, r4, r5, r6) := h
 clear h
 replace H := Option.bind_eq_some_iff.mp H
 obtain ⟨⟨t422, t423, t424, t427, t430⟩, A50, H⟩ := H
 (try dsimp -simprocs only at H)
 have A5 := am A50
 clear A50
 replace H := Option.bind_eq_some_iff.mp H
 obtain ⟨t432, A60, H⟩ := H
 (try dsimp -simprocs only at H)
 have A6 := am A60
 clear A60
 have H' := am H
 clear H
 go_enter Try.func63, Try.ntmps63
 go_wp2_with (first | ((with_reducible refine gate_dst (N := 8) rfl ?_); refine box_event ?hg (N := 8) ?hd (cs := #[.int .i64 0, .int .i64 0, .slice none 0 0, .slice none 0 0]) (t := 31) ?hr ?_; (case hd => rfl); (case hg => rfl); (case hr => first | (go_simp; done) | (go_simp; rfl)); intro gb421 hg w7 hbox hb; replace HB := am (below_step (b1 (IsS113.ge HI0.out)) hb); have BK421 := am (hbox); have GW421 := am ((by rw [hg]; exact (keep_size (w := w) (g := g) (row := none) (kp)) : w.heap.size ≤ gb421)); have GE421 := am ((Nat.le_trans HW0.out (by rw [hg]; exact (keep_size (w := w) (g := g) (row := none) (kp)) : w.heap.size ≤ gb421) : w0.heap.size ≤ gb421)); replace HK := am (KeepBut.trans (kp) (KeepBut.of_below hb g none) (.inl rfl)); have NB0_421 := am ((by rw [hg]; exact Nat.ne_of_lt (IsS113.lt (show IsS113 w0 _ g s0_0 s0_1 s0_2 from si113_)) : g ≠ gb421)); have NB421_0 := am ((by rw [hg]; exact Nat.ne_of_gt (IsS113.lt (show IsS113 w0 _ g s0_0 s0_1 s0_2 from si113_)) : gb421 ≠ g)); replace HI0 := am (IsS113.below (si113_) hb); clear hb hbox hg) | ((with_reducible refine gate_callee (f := 68) rfl ?_); refine goesL_ (some 18) rfl rfl Try.func68 (by kernel_rfl) rfl #[.int .i64 a1, .slice A2 l2.length c2, .int .i64 a3] rfl av ?_; (with_reducible refine (spec_Honest.calls k a1 _ _ l2 a3 t422 t423 t424 t427 t430 _ ?side1 ?side2 A5.out).mono ?_); (case side1 => exact Kd.C_foot_now HR2.out (kp1 GW421.out)); (case side2 => exact HC2.out); rintro e w8 ⟨v425, v428, rfl, ho0, ho1, hb⟩; refine ⟨_, rfl, ?_⟩; have HO426 := am (Kd.R_lower ho0 (keep_size (w := w) (g := g) (row := none) (kp1 GW421.out))); have HO429 := am (Kd.R_lower ho1 (keep_size (w := w) (g := g) (row := none) (kp1 GW421.out))); replace BK421 := am (blk_below (g := gb421) (o := .cells #[.int .i64 0, .int .i64 0, .slice none 0 0, .slice none 0 0] 31 (0, 0)) (mb BK421.out) hb); replace HK := am (KeepBut.trans (kp1 GW421.out) (KeepBut.of_below hb g none) (.inl rfl)); replace HB := am (below_step (b2 (IsS113.ge HI0.out) GE421.out) hb); replace HI0 := am (IsS113.below (si113_1 NB0_421.out) hb); (try clear hb); (try clear hb2); (try clear hk); (try clear hi); (try clear ho0); (try clear ho1)) | ((with_reducible refine gate_dst (N := 9) rfl ?_); refine box_event ?hg (N := 9) ?hd (cs := #[.int .i64 0, .int .i64 0, .slice none 0 0, .slice none 0 0]) (t := 31) ?hr ?_; (case hd => rfl); (case hg => rfl); (case hr => first | (go_simp; done) | (go_simp; rfl)); intro gb431 hg w9 hbox hb; replace HO426 := am (Kd.R_below (mv HO426.out) hb); replace HO429 := am (Kd.R_below (mv HO429.out) hb); replace HB := am (below_step (b2 (IsS113.ge HI0.out) GE421.out) hb); have BK431 := am (hbox); have GW431 := am ((by rw [hg]; exact (keep_size (w := w) (g := g) (row := none) (kp1 GW421.out)) : w.heap.size ≤ gb431)); have GE431 := am ((Nat.le_trans HW0.out (by rw [hg]; exact (keep_size (w := w) (g := g) (row := none) (kp1 GW421.out)) : w.heap.size ≤ gb431) : w0.heap.size ≤ gb431)); replace HK := am (KeepBut.trans (kp1 GW421.out) (KeepBut.of_below hb g none) (.inl rfl)); have NB421_431 := am ((by rw [hg]; exact Nat.ne_of_lt (blk_lt (g := gb421) (o := .cells #[.int .i64 0, .int .i64 0, .slice none 0 0, .slice none 0 0] 31 (0, 0)) (mb BK421.out)) : gb421 ≠ gb431)); have NB431_421 := am ((by rw [hg]; exact Nat.ne_of_gt (blk_lt (g := gb421) (o := .cells #[.int .i64 0, .int .i64 0, .slice none 0 0, .slice none 0 0] 31 (0, 0)) (mb BK421.out)) : gb431 ≠ gb421)); replace BK421 := am (blk_below (g := gb421) (o := .cells #[.int .i64 0, .int .i64 0, .slice none 0 0, .slice none 0 0] 31 (0, 0)) (mb BK421.out) hb); have NB0_431 := am ((by rw [hg]; exact Nat.ne_of_lt (IsS113.lt (show IsS113 w0 _ g s0_0 s0_1 s0_2 from si113_1 NB0_421.out)) : g ≠ gb431)); have NB431_0 := am ((by rw [hg]; exact Nat.ne_of_gt (IsS113.lt (show IsS113 w0 _ g s0_0 s0_1 s0_2 from si113_1 NB0_421.out)) : gb431 ≠ g)); replace HI0 := am (IsS113.below (si113_1 NB0_421.out) hb); clear hb hbox hg; have hnb10 := NB431_421.out; have hnc10 := NB421_431.out; have hnb11 := NB431_0.out; have hnc11 := NB0_431.out; have hcz12_0 : w9.cell? ⟨gb431, 0, none⟩ = some (.int .i64 0) := (blk_cell BK431.out 0).trans rfl; have hcz12_1 : w9.cell? ⟨gb431, 1, none⟩ = some (.int .i64 0) := (blk_cell BK431.out 1).trans rfl; have hcz12_2 : w9.cell? ⟨gb431, 2, none⟩ = some (.slice none 0 0) := (blk_cell BK431.out 2).trans rfl; have hcz12_3 : w9.cell? ⟨gb431, 3, none⟩ = some (.slice none 0 0) := (blk_cell BK431.out 3).trans rfl; have hfz12_0 := blk_frozen BK431.out 0; have hfz12_1 := blk_frozen BK431.out 1; have hfz12_2 := blk_frozen BK431.out 2; have hfz12_3 := blk_frozen BK431.out 3; obtain ⟨Ao13, co13, eo13⟩ := Kd.R_slice HO426.out; subst eo13; obtain ⟨Ao14, co14, eo14⟩ := Kd.R_slice HO429.out; subst eo14) | ((with_reducible refine gate_callee (f := 73) rfl ?_); refine goesL_ (some 23) rfl rfl Try.func73 (by kernel_rfl) rfl #[.int .i64 a1, .slice A2 l2.length c2] rfl av ?_; (with_reducible refine (spec_TreeRoot.calls k a1 _ _ l2 t432 _ ?side1 ?side2 A6.out).mono ?_); (case side1 => exact Kd.C_foot_now HR2.out (kp2 GW421.out GW431.out)); (case side2 => exact HC2.out); rintro e w15 ⟨rfl, hb⟩; refine ⟨_, rfl, ?_⟩; replace HO426 := am (Kd.R_below (by (with_reducible repeat (first | apply Kd.R_alloc | apply Kd.R_drewN | apply Kd.R_drew)); exact (Kd.R_mono (Kd.R_far (p := ⟨gb431, 3, none⟩) (Kd.R_far (p := ⟨gb431, 2, none⟩) (Kd.R_far (p := ⟨gb431, 1, none⟩) (Kd.R_far (p := ⟨gb431, 0, none⟩) (Kd.R_types HO426.out BK431.out (by decide)) (fun _ hk => hk.2) (.int .i64 t422)) (fun _ hk => hk.2) (.int .i64 t423)) (fun _ hk => hk.2) (.slice Ao13 t424.length co13)) (fun _ hk => hk.2) (.slice Ao14 t427.length co14)) (fun _ h_ => h_.1))) hb); replace HO429 := am (Kd.R_below (by (with_reducible repeat (first | apply Kd.R_alloc | apply Kd.R_drewN | apply Kd.R_drew)); exact (Kd.R_mono (Kd.R_far (p := ⟨gb431, 3, none⟩) (Kd.R_far (p := ⟨gb431, 2, none⟩) (Kd.R_far (p := ⟨gb431, 1, none⟩) (Kd.R_far (p := ⟨gb431, 0, none⟩) (Kd.R_types HO429.out BK431.out (by decide)) (fun _ hk => hk.2) (.int .i64 t422)) (fun _ hk => hk.2) (.int .i64 t423)) (fun _ hk => hk.2) (.slice Ao13 t424.length co13)) (fun _ hk => hk.2) (.slice Ao14 t427.length co14)) (fun _ h_ => h_.1))) hb); replace BK421 := am (blk_below (g := gb421) (o := .cells #[.int .i64 0, .int .i64 0, .slice none 0 0, .slice none 0 0] 31 (0, 0)) (by (with_reducible repeat (first | refine blk_drewN ?_ _ | refine blk_drew ?_ | refine blk_alloc ?_ _)); refine blk_far ?_ NB421_431.out _; (with_reducible repeat (first | refine blk_drewN ?_ _ | refine blk_drew ?_ | refine blk_alloc ?_ _)); refine blk_far ?_ NB421_431.out _; (with_reducible repeat (first | refine blk_drewN ?_ _ | refine blk_drew ?_ | refine blk_alloc ?_ _)); refine blk_far ?_ NB421_431.out _; (with_reducible repeat (first | refine blk_drewN ?_ _ | refine blk_drew ?_ | refine blk_alloc ?_ _)); refine blk_far ?_ NB421_431.out _; (with_reducible repeat (first | refine blk_drewN ?_ _ | refine blk_drew ?_ | refine blk_alloc ?_ _)); exact BK421.out) hb); replace BK431 := am (blk_below (g := gb431) (o := .cells #[.int .i64 t422, .int .i64 t423, .slice Ao13 t424.length co13, .slice Ao14 t427.length co14] 31 (0, 0)) (by (with_reducible repeat (first | refine blk_drewN ?_ _ | refine blk_drew ?_ | refine blk_alloc ?_ _)); refine blk_put (cs := #[.int .i64 t422, .int .i64 t423, .slice Ao13 t424.length co13, .slice none 0 0]) ?_ 3 _ rfl; (with_reducible repeat (first | refine blk_drewN ?_ _ | refine blk_drew ?_ | refine blk_alloc ?_ _)); refine blk_put (cs := #[.int .i64 t422, .int .i64 t423, .slice none 0 0, .slice none 0 0]) ?_ 2 _ rfl; (with_reducible repeat (first | refine blk_drewN ?_ _ | refine blk_drew ?_ | refine blk_alloc ?_ _)); refine blk_put (cs := #[.int .i64 t422, .int .i64 0, .slice none 0 0, .slice none 0 0]) ?_ 1 _ rfl; (with_reducible repeat (first | refine blk_drewN ?_ _ | refine blk_drew ?_ | refine blk_alloc ?_ _)); refine blk_put (cs := #[.int .i64 0, .int .i64 0, .slice none 0 0, .slice none 0 0]) ?_ 0 _ rfl; (with_reducible repeat (first | refine blk_drewN ?_ _ | refine blk_drew ?_ | refine blk_alloc ?_ _)); exact BK431.out) hb); replace HK := am (KeepBut.trans (kp2 GW421.out GW431.out) (KeepBut.of_below hb g none) (.inl rfl)); replace HB := am (below_step (b3 (IsS113.ge HI0.out) GE421.out GE431.out) hb); replace HI0 := am (IsS113.below (show IsS113 w0 ((((w9.setCell ⟨gb431, 0, none⟩ (.int .i64 t422)).setCell ⟨gb431, 1, none⟩ (.int .i64 t423)).setCell ⟨gb431, 2, none⟩ (.slice Ao13 t424.length co13)).setCell ⟨gb431, 3, none⟩ (.slice Ao14 t427.length co14)) g s0_0 s0_1 s0_2 from si113_2 NB0_421.out NB0_431.out) hb); (try clear hb); (try clear hb2); (try clear hk); (try clear hi)))
 go_loopg [12] k (fun kq v12 w' => ∃ (x12_1 : Int) (x1001_1 : Int) (x1002_1 : Int) (x422000_1 : Int) (x422001_1 : Int) (x432002_1 : List Int) (u432002 : Value), v12 = .int .i64 x12_1 ∧ Aside0 (spec_l3Forge.l0 kq a1 l2 a3 t432 x12_1 s0_0 x1001_1 x1002_1 t422 t423 x432002_1 t427 = some (r1, r2, r3, r4, r5, r6)) ∧ Aside0 (kq ≤ k) ∧ Aside0 (Kd.R (Kd.int .u8) 5 w' w.heap.size (fun _ => True) u432002 x432002_1) ∧ Aside0 (Kd.R (Kd.int .i64) 3 w' w.heap.size (fun _ => True) (.slice Ao14 t427.length co14) t427) ∧ Aside0 (w'.heap[gb421]? = some (.cells #[.int .i64 x422000_1, .int .i64 x422001_1, (.slice none 0 0), (.slice none 0 0)] 31 (0, 0))) ∧ Aside0 (w'.heap[gb431]? = some (.cells #[.int .i64 t422, .int .i64 t423, u432002, (.slice Ao14 t427.length co14)] 31 (0, 0))) ∧ Aside0 (IsS113 w0 w' g s0_0 x1001_1 x1002_1) ∧ Aside0 (KeepBut w w' g none) ∧ Aside0 (Below w0.heap.size w0 w'))
 case atStart => exact ⟨(0), (s0_1), (s0_2), (0), (0), (t424), (.slice Ao13 t424.length co13), (by first | rfl | (simp; done) | (simp [*]; done)), H', ⟨Nat.le_refl _⟩, ⟨mv HO426.out⟩, ⟨mv HO429.out⟩, ⟨mb BK421.out⟩, ⟨mb BK431.out⟩, ⟨si113_2 NB0_421.out NB0_431.out⟩, ⟨kp2 GW421.out GW431.out⟩, ⟨b3 (IsS113.ge HI0.out) GE421.out GE431.out⟩⟩
 case round =>
  clear H'
  try clear c1
  try clear c2
  try clear p2
  try clear c6
  try clear c7
  try clear c10
  try clear c11
  try clear hcz12_0
  try clear hcz12_1
  try clear hcz12_2
  try clear hcz12_3
  try clear hfz12_0
  try clear hfz12_1
  try clear hfz12_2
  try clear hfz12_3
  obtain ⟨x12_1, x1001_1, x1002_1, x422000_1, x422001_1, x432002_1, u432002, rfl, HA, HK1, HO_432002, HO_432003, BK421, BK431, HI0, HK, HB⟩ := hrel
  cases gk with
  | zero => exact absurd HA.out (by simp [spec_l3Forge.l0])
  | succ k1 =>
   have H := HA.out
   clear HA
   simp only [spec_l3Forge.l0] at H
   by_cases c16 : x12_1 < 40
   ·rw [if_pos c16] at H
    have c16b0 : decide (x12_1 < 40) = true := decide_eq_true c16
    clear c16
    replace H := Option.bind_eq_some_iff.mp H
    obtain ⟨⟨t433, t436, t437⟩, A170, H⟩ := H
    (try dsimp -simprocs only at H)
    have A17 := am A170
    clear A170
    by_cases c18 : 0 ≤ a3
    ·rw [if_pos c18] at H
     have c18b0 : decide (0 ≤ a3) = true := decide_eq_true c18
     clear c18
     by_cases c19 : a3 < (l2.length : Int)
     ·rw [if_pos c19] at H
      have c19b0 : decide (a3 < (l2.length : Int)) = true := decide_eq_true c19
      clear c19
      replace H := Option.bind_eq_some_iff.mp H
      obtain ⟨t439, A200, H⟩ := H
      (try dsimp -simprocs only at H)
      have A20 := am A200
      clear A200
      by_cases c21 : t439 = true
      ·subst c21
       rw [if_pos rfl] at H
       have H' := am H
       clear H
       go_wp2_with (first | ((with_reducible refine gate_callee (f := 64) rfl ?_); refine goesL_ (some 29) rfl rfl Try.func64 (by kernel_rfl) rfl #[.pointer (some ⟨g, 0, none⟩), .int .i64 4] rfl av ?_; (with_reducible refine (spec_l1DrawData.calls k1 g s0_0 x1001_1 x1002_1 4 t433 t436 t437 w0 _ ?side1 ?side2 A17.out).mono ?_); (case side1 => exact si113_2 NB0_421.out NB0_431.out); (case side2 => exact b3 (IsS113.ge HI0.out) GE421.out GE431.out); rintro e w22 ⟨v434, rfl, ho0, hi, hb, hk⟩; refine ⟨_, rfl, ?_⟩; replace HO_432003 := am (Kd.R_mono (Kd.R_keep (IsS113.apart (show IsS113 w0 _ g s0_0 x1001_1 x1002_1 from si113_2 NB0_421.out NB0_431.out) (mv HO_432003.out) (by decide)) hk (fun _ h => h.2)) (fun _ h => h.1)); replace BK421 := am (KeepBut.blk hk (g' := gb421) (o := .cells #[.int .i64 x422000_1, .int .i64 x422001_1, .slice none 0 0, .slice none 0 0] 31 (0, 0)) (mb BK421.out) NB421_0.out (by simp)); replace BK431 := am (KeepBut.blk hk (g' := gb431) (o := .cells #[.int .i64 t422, .int .i64 t423, u432002, .slice Ao14 t427.length co14] 31 (0, 0)) (mb BK431.out) NB431_0.out (by simp)); have HO435 := am (Kd.R_lower (Kd.R_new' ho0 (Kd.R_lt (mv HO_432002.out))) (keep_size (w := w) (g := g) (row := none) (kp2 GW421.out GW431.out))); replace HO_432002 := am (Kd.R_mono (Kd.R_told (Kd.R_oldK (IsS113.apart (show IsS113 w0 _ g s0_0 x1001_1 x1002_1 from si113_2 NB0_421.out NB0_431.out) (mv HO_432002.out) (by decide)) hk) (Kd.R_base ho0)) (fun _ h_ => h_.1)); replace HK := am (KeepBut.trans (kp2 GW421.out GW431.out) hk (.inl rfl)); replace HB := am (hb); replace HI0 := am (hi); (try clear hb); (try clear hb2); (try clear hk); (try clear hi); (try clear ho0); have p438 : 0 ≤ (a3 : Int) := of_decide_eq_true asm; have q438 : a3 < (l2.length : Int) := of_decide_eq_true asm; obtain ⟨ad438, A438_0, c438_0, e438, hx438_0, hl438_0, hi438_0⟩ := at_L1 (Kd.C_foot_now HR2.out HK.out) a3 p438 q438; cases e438; have HR438_0 := am hi438_0; have HC438_0 := am hl438_0; clear hi438_0 hl438_0; replace p438 := eq_true p438; replace q438 := eq_true q438; obtain ⟨Ao23, co23, eo23⟩ := Kd.R_slice HO435.out; subst eo23) | ((with_reducible refine gate_callee (f := 75) rfl ?_); refine goesL_ (some 35) rfl rfl Try.func75 (by kernel_rfl) rfl #[.slice Ao23 t433.length co23, .slice A438_0 (rd_L1 l2 a3).length c438_0] rfl av ?_; (with_reducible refine (spec_l1Same.calls _ _ t433 _ _ (rd_L1 l2 a3) true _ ?side1 ?side2 ?side3 ?side4 A20.out).mono ?_); (case side1 => exact cv ((Kd.R_reads' HO435.out).2.2)); (case side2 => exact (Kd.R_reads' HO435.out).2.1); (case side3 => repeat (first | exact (cv HR438_0.out) | (with_reducible refine Kd.C_alloc ?_ _) | (with_reducible refine Kd.C_drewN ?_ _) | (with_reducible refine Kd.C_drew ?_))); (case side4 => exact HC438_0.out); rintro e w' ⟨rfl, ⟨nd, rfl⟩⟩; refine ⟨_, rfl, ?_⟩))
       go_roundg k1
       case measure => have := HK1.out; omega
       case rel => exact ⟨(wrap64 (x12_1 + 1)), (t436), (t437), (x422000_1), (x422001_1), (x432002_1), (u432002), (by first | rfl | (simp; done) | (simp [*]; done)), H', ⟨by have := HK1.out; omega⟩, ⟨by (with_reducible repeat (first | apply Kd.R_alloc | apply Kd.R_drewN | apply Kd.R_drew)); exact Kd.R_mono HO_432002.out (fun _ hk => trivial)⟩, ⟨mv HO_432003.out⟩, ⟨mb BK421.out⟩, ⟨mb BK431.out⟩, ⟨si113_2 NB0_421.out NB0_431.out⟩, ⟨kp2 GW421.out GW431.out⟩, ⟨b3 (IsS113.ge HI0.out) GE421.out GE431.out⟩⟩
      ·replace c21 := Bool.eq_false_iff.mpr c21
       subst c21
       rw [if_neg (show ¬ (false = true) by decide)] at H
       replace H := Option.bind_eq_some_iff.mp H
       obtain ⟨t440, A240, H⟩ := H
       (try dsimp -simprocs only at H)
       have A24 := am A240
       clear A240
       by_cases c25 : t440 = true
       ·subst c25
        rw [if_pos rfl] at H
        simp only [Option.some.injEq, Prod.mk.injEq] at H
        obtain ⟨rfl, rfl, rfl, rfl, rfl, rfl⟩ := H
        go_wp2_with (first | ((with_reducible refine gate_callee (f := 64) rfl ?_); refine goesL_ (some 29) rfl rfl Try.func64 (by kernel_rfl) rfl #[.pointer (some ⟨g, 0, none⟩), .int .i64 4] rfl av ?_; (with_reducible refine (spec_l1DrawData.calls k1 g s0_0 x1001_1 x1002_1 4 t433 t436 t437 w0 _ ?side1 ?side2 A17.out).mono ?_); (case side1 => exact si113_2 NB0_421.out NB0_431.out); (case side2 => exact b3 (IsS113.ge HI0.out) GE421.out GE431.out); rintro e w26 ⟨v434, rfl, ho0, hi, hb, hk⟩; refine ⟨_, rfl, ?_⟩; replace HO_432003 := am (Kd.R_mono (Kd.R_keep (IsS113.apart (show IsS113 w0 _ g s0_0 x1001_1 x1002_1 from si113_2 NB0_421.out NB0_431.out) (mv HO_432003.out) (by decide)) hk (fun _ h => h.2)) (fun _ h => h.1)); replace BK421 := am (KeepBut.blk hk (g' := gb421) (o := .cells #[.int .i64 x422000_1, .int .i64 x422001_1, .slice none 0 0, .slice none 0 0] 31 (0, 0)) (mb BK421.out) NB421_0.out (by simp)); replace BK431 := am (KeepBut.blk hk (g' := gb431) (o := .cells #[.int .i64 t422, .int .i64 t423, u432002, .slice Ao14 t427.length co14] 31 (0, 0)) (mb BK431.out) NB431_0.out (by simp)); have HO435 := am (Kd.R_lower (Kd.R_new' ho0 (Kd.R_lt (mv HO_432002.out))) (keep_size (w := w) (g := g) (row := none) (kp2 GW421.out GW431.out))); replace HO_432002 := am (Kd.R_mono (Kd.R_told (Kd.R_oldK (IsS113.apart (show IsS113 w0 _ g s0_0 x1001_1 x1002_1 from si113_2 NB0_421.out NB0_431.out) (mv HO_432002.out) (by decide)) hk) (Kd.R_base ho0)) (fun _ h_ => h_.1)); replace HK := am (KeepBut.trans (kp2 GW421.out GW431.out) hk (.inl rfl)); replace HB := am (hb); replace HI0 := am (hi); (try clear hb); (try clear hb2); (try clear hk); (try clear hi); (try clear ho0); have p438 : 0 ≤ (a3 : Int) := of_decide_eq_true asm; have q438 : a3 < (l2.length : Int) := of_decide_eq_true asm; obtain ⟨ad438, A438_0, c438_0, e438, hx438_0, hl438_0, hi438_0⟩ := at_L1 (Kd.C_foot_now HR2.out HK.out) a3 p438 q438; cases e438; have HR438_0 := am hi438_0; have HC438_0 := am hl438_0; clear hi438_0 hl438_0; replace p438 := eq_true p438; replace q438 := eq_true q438; obtain ⟨Ao27, co27, eo27⟩ := Kd.R_slice HO435.out; subst eo27) | ((with_reducible refine gate_callee (f := 75) rfl ?_); refine goesL_ (some 35) rfl rfl Try.func75 (by kernel_rfl) rfl #[.slice Ao27 t433.length co27, .slice A438_0 (rd_L1 l2 a3).length c438_0] rfl av ?_; (with_reducible refine (spec_l1Same.calls _ _ t433 _ _ (rd_L1 l2 a3) false _ ?side1 ?side2 ?side3 ?side4 A20.out).mono ?_); (case side1 => exact cv ((Kd.R_reads' HO435.out).2.2)); (case side2 => exact (Kd.R_reads' HO435.out).2.1); (case side3 => repeat (first | exact (cv HR438_0.out) | (with_reducible refine Kd.C_alloc ?_ _) | (with_reducible refine Kd.C_drewN ?_ _) | (with_reducible refine Kd.C_drew ?_))); (case side4 => exact HC438_0.out); rintro e w' ⟨rfl, ⟨nd, rfl⟩⟩; refine ⟨_, rfl, ?_⟩; (try (rw [drewN_self w26]; generalize hq_ : World.drewN w26 _ = w26; have n0_ : Aside0 (Kd.R (Kd.int .u8) 5 w26 w.heap.size (fun k_ => some k_ ≠ (u432002 : Value).ownBlock) (.slice Ao27 t433.length co27) t433) := ⟨by rw [← hq_]; exact (by (with_reducible repeat (first | apply Kd.R_alloc | apply Kd.R_drewN | apply Kd.R_drew)); exact Kd.R_mono HO435.out (fun _ hk => hk.2))⟩; have n1_ : Aside0 (Kd.R (Kd.int .u8) 5 w26 w.heap.size (fun k_ => some k_ ≠ (.slice Ao27 t433.length co27 : Value).ownBlock) u432002 x432002_1) := ⟨by rw [← hq_]; exact (by (with_reducible repeat (first | apply Kd.R_alloc | apply Kd.R_drewN | apply Kd.R_drew)); exact Kd.R_mono HO_432002.out (fun _ hk => hk.2))⟩; have n2_ : Aside0 (Kd.R (Kd.int .i64) 3 w26 w.heap.size (fun _ => True) (.slice Ao14 t427.length co14) t427) := ⟨by rw [← hq_]; exact (mv HO_432003.out)⟩; have n3_ : Aside0 (w26.heap[gb421]? = some (.cells #[.int .i64 x422000_1, .int .i64 x422001_1, .slice none 0 0, .slice none 0 0] 31 (0, 0))) := ⟨by rw [← hq_]; exact (mb BK421.out)⟩; have n4_ : Aside0 (w26.heap[gb431]? = some (.cells #[.int .i64 t422, .int .i64 t423, u432002, .slice Ao14 t427.length co14] 31 (0, 0))) := ⟨by rw [← hq_]; exact (mb BK431.out)⟩; have n5_ : Aside0 (IsS113 w0 w26 g s0_0 t436 t437) := ⟨by rw [← hq_]; exact (si113_2 NB0_421.out NB0_431.out)⟩; have n6_ : Aside0 (KeepBut w w26 g none) := ⟨by rw [← hq_]; exact (kp2 GW421.out GW431.out)⟩; have n7_ : Aside0 (Below w0.heap.size w0 w26) := ⟨by rw [← hq_]; exact (b3 (IsS113.ge HI0.out) GE421.out GE431.out)⟩; have n8_ : Aside0 (Kd.C (Kd.int .u8) w26 A438_0 (rd_L1 l2 a3).length (rd_L1 l2 a3)) := ⟨by rw [← hq_]; exact (cv HR438_0.out)⟩; clear HO435 HO_432002 HO_432003 BK421 BK431 HI0 HK HB HR438_0 hq_; have HO435 := n0_; have HO_432002 := n1_; have HO_432003 := n2_; have BK421 := n3_; have BK431 := n4_; have HI0 := n5_; have HK := n6_; have HB := n7_; have HR438_0 := n8_; clear n0_ n1_ n2_ n3_ n4_ n5_ n6_ n7_ n8_)); have hnb28 := NB431_421.out; have hnc28 := NB421_431.out; have hnb29 := NB431_0.out; have hnc29 := NB0_431.out; have hcz30_0 : w26.cell? ⟨gb431, 0, none⟩ = some (.int .i64 t422) := (blk_cell BK431.out 0).trans rfl; have hcz30_1 : w26.cell? ⟨gb431, 1, none⟩ = some (.int .i64 t423) := (blk_cell BK431.out 1).trans rfl; have hcz30_2 : w26.cell? ⟨gb431, 2, none⟩ = some (u432002) := (blk_cell BK431.out 2).trans rfl; have hcz30_3 : w26.cell? ⟨gb431, 3, none⟩ = some (.slice Ao14 t427.length co14) := (blk_cell BK431.out 3).trans rfl; have hfz30_0 := blk_frozen BK431.out 0; have hfz30_1 := blk_frozen BK431.out 1; have hfz30_2 := blk_frozen BK431.out 2; have hfz30_3 := blk_frozen BK431.out 3) | (go_at_call 83; (with_reducible refine (spec_Proven.calls k1 a1 t432 t422 a3 _ _ t433 _ _ t427 true _ ?side1 ?side2 ?side3 ?side4 A24.out).mono ?_); (case side1 => exact cv ((Kd.R_reads' HO435.out).2.2)); (case side2 => exact (Kd.R_reads' HO435.out).2.1); (case side3 => exact cv ((Kd.R_reads' HO_432003.out).2.2)); (case side4 => exact (Kd.R_reads' HO_432003.out).2.1); rintro e w31 ⟨rfl, hb⟩; replace HO_432002 := am (Kd.R_below (mv HO_432002.out) hb); replace HO_432003 := am (Kd.R_below (mv HO_432003.out) hb); replace HO435 := am (Kd.R_below (mv HO435.out) hb); replace BK421 := am (blk_below (g := gb421) (o := .cells #[.int .i64 x422000_1, .int .i64 x422001_1, .slice none 0 0, .slice none 0 0] 31 (0, 0)) (mb BK421.out) hb); replace BK431 := am (blk_below (g := gb431) (o := .cells #[.int .i64 t422, .int .i64 t423, u432002, .slice Ao14 t427.length co14] 31 (0, 0)) (mb BK431.out) hb); replace HR438_0 := am (Kd.C_below (cv HR438_0.out) hb); replace HK := am (KeepBut.trans (kp2 GW421.out GW431.out) (KeepBut.of_below hb g none) (.inl rfl)); replace HB := am (below_step (b3 (IsS113.ge HI0.out) GE421.out GE431.out) hb); replace HI0 := am (IsS113.below (si113_2 NB0_421.out NB0_431.out) hb); (try clear hb); (try clear hb2); (try clear hk); (try clear hi); have hcz32_0 : w31.cell? ⟨gb431, 0, none⟩ = some (.int .i64 t422) := (blk_cell BK431.out 0).trans rfl; have hcz32_1 : w31.cell? ⟨gb431, 1, none⟩ = some (.int .i64 t423) := (blk_cell BK431.out 1).trans rfl; have hcz32_2 : w31.cell? ⟨gb431, 2, none⟩ = some (u432002) := (blk_cell BK431.out 2).trans rfl; have hcz32_3 : w31.cell? ⟨gb431, 3, none⟩ = some (.slice Ao14 t427.length co14) := (blk_cell BK431.out 3).trans rfl; have hfz32_0 := blk_frozen BK431.out 0; have hfz32_1 := blk_frozen BK431.out 1; have hfz32_2 := blk_frozen BK431.out 2; have hfz32_3 := blk_frozen BK431.out 3; have hnb33 := NB421_0.out; have hnc33 := NB0_421.out; have hcz34_0 : w31.cell? ⟨gb421, 0, none⟩ = some (.int .i64 x422000_1) := (blk_cell BK421.out 0).trans rfl; have hcz34_1 : w31.cell? ⟨gb421, 1, none⟩ = some (.int .i64 x422001_1) := (blk_cell BK421.out 1).trans rfl; have hcz34_2 : w31.cell? ⟨gb421, 2, none⟩ = some (.slice none 0 0) := (blk_cell BK421.out 2).trans rfl; have hcz34_3 : w31.cell? ⟨gb421, 3, none⟩ = some (.slice none 0 0) := (blk_cell BK421.out 3).trans rfl; have hfz34_0 := blk_frozen BK421.out 0; have hfz34_1 := blk_frozen BK421.out 1; have hfz34_2 := blk_frozen BK421.out 2; have hfz34_3 := blk_frozen BK421.out 3))
        refine bodyPost_ret (results_cell_row rfl _ _ gb421 31 #[.int .i64 t422, .int .i64 t423, .slice Ao27 t433.length co27, .slice Ao14 t427.length co14] (0, 0) _ rfl (by (with_reducible repeat (first | refine blk_drewN ?_ _ | refine blk_drew ?_ | refine blk_alloc ?_ _)); refine blk_put (cs := #[.int .i64 t422, .int .i64 t423, .slice Ao27 t433.length co27, .slice none 0 0]) ?_ 3 _ rfl; (with_reducible repeat (first | refine blk_drewN ?_ _ | refine blk_drew ?_ | refine blk_alloc ?_ _)); refine blk_put (cs := #[.int .i64 t422, .int .i64 t423, .slice none 0 0, .slice none 0 0]) ?_ 2 _ rfl; (with_reducible repeat (first | refine blk_drewN ?_ _ | refine blk_drew ?_ | refine blk_alloc ?_ _)); refine blk_put (cs := #[.int .i64 t422, .int .i64 x422001_1, .slice none 0 0, .slice none 0 0]) ?_ 1 _ rfl; (with_reducible repeat (first | refine blk_drewN ?_ _ | refine blk_drew ?_ | refine blk_alloc ?_ _)); refine blk_put (cs := #[.int .i64 x422000_1, .int .i64 x422001_1, .slice none 0 0, .slice none 0 0]) ?_ 0 _ rfl; (with_reducible repeat (first | refine blk_drewN ?_ _ | refine blk_drew ?_ | refine blk_alloc ?_ _)); refine blk_far ?_ NB421_431.out _; (with_reducible repeat (first | refine blk_drewN ?_ _ | refine blk_drew ?_ | refine blk_alloc ?_ _)); exact BK421.out) Try.underlying31 rfl (by kernel_rfl)) rfl ?_
        exact ⟨_, _, by first | rfl | (simp [errW_none, errW_some] <;> rfl) | (simp [*, errW_none, errW_some] <;> rfl), by (with_reducible repeat (first | apply Kd.R_alloc | apply Kd.R_drewN | apply Kd.R_drew)); exact Kd.R_mono (Kd.R_far (p := ⟨gb421, 3, none⟩) (Kd.R_far (p := ⟨gb421, 2, none⟩) (Kd.R_far (p := ⟨gb421, 1, none⟩) (Kd.R_far (p := ⟨gb421, 0, none⟩) (Kd.R_far (p := ⟨gb431, 2, none⟩) (Kd.R_types (Kd.R_types HO435.out BK431.out (by decide)) BK421.out (by decide)) (fun _ hk => hk.1.2) (.slice Ao27 t433.length co27)) (fun _ hk => hk.2) (.int .i64 t422)) (fun _ hk => hk.2) (.int .i64 t423)) (fun _ hk => hk.2) (.slice Ao27 t433.length co27)) (fun _ hk => hk.2) (.slice Ao14 t427.length co14)) (fun _ hk => trivial), by (with_reducible repeat (first | apply Kd.R_alloc | apply Kd.R_drewN | apply Kd.R_drew)); exact Kd.R_mono (Kd.R_far (p := ⟨gb421, 3, none⟩) (Kd.R_far (p := ⟨gb421, 2, none⟩) (Kd.R_far (p := ⟨gb421, 1, none⟩) (Kd.R_far (p := ⟨gb421, 0, none⟩) (Kd.R_far (p := ⟨gb431, 2, none⟩) (Kd.R_types (Kd.R_types HO_432003.out BK431.out (by decide)) BK421.out (by decide)) (fun _ hk => hk.1.2) (.slice Ao27 t433.length co27)) (fun _ hk => hk.2) (.int .i64 t422)) (fun _ hk => hk.2) (.int .i64 t423)) (fun _ hk => hk.2) (.slice Ao27 t433.length co27)) (fun _ hk => hk.2) (.slice Ao14 t427.length co14)) (fun _ hk => trivial), si113_2 NB0_421.out NB0_431.out, b3 (IsS113.ge HI0.out) GE421.out GE431.out, kp2 GW421.out GW431.out⟩
       ·replace c25 := Bool.eq_false_iff.mpr c25
        subst c25
        rw [if_neg (show ¬ (false = true) by decide)] at H
        have H' := am H
        clear H
        go_wp2_with (first | ((with_reducible refine gate_callee (f := 64) rfl ?_); refine goesL_ (some 29) rfl rfl Try.func64 (by kernel_rfl) rfl #[.pointer (some ⟨g, 0, none⟩), .int .i64 4] rfl av ?_; (with_reducible refine (spec_l1DrawData.calls k1 g s0_0 x1001_1 x1002_1 4 t433 t436 t437 w0 _ ?side1 ?side2 A17.out).mono ?_); (case side1 => exact si113_2 NB0_421.out NB0_431.out); (case side2 => exact b3 (IsS113.ge HI0.out) GE421.out GE431.out); rintro e w35 ⟨v434, rfl, ho0, hi, hb, hk⟩; refine ⟨_, rfl, ?_⟩; replace HO_432003 := am (Kd.R_mono (Kd.R_keep (IsS113.apart (show IsS113 w0 _ g s0_0 x1001_1 x1002_1 from si113_2 NB0_421.out NB0_431.out) (mv HO_432003.out) (by decide)) hk (fun _ h => h.2)) (fun _ h => h.1)); replace BK421 := am (KeepBut.blk hk (g' := gb421) (o := .cells #[.int .i64 x422000_1, .int .i64 x422001_1, .slice none 0 0, .slice none 0 0] 31 (0, 0)) (mb BK421.out) NB421_0.out (by simp)); replace BK431 := am (KeepBut.blk hk (g' := gb431) (o := .cells #[.int .i64 t422, .int .i64 t423, u432002, .slice Ao14 t427.length co14] 31 (0, 0)) (mb BK431.out) NB431_0.out (by simp)); have HO435 := am (Kd.R_lower (Kd.R_new' ho0 (Kd.R_lt (mv HO_432002.out))) (keep_size (w := w) (g := g) (row := none) (kp2 GW421.out GW431.out))); replace HO_432002 := am (Kd.R_mono (Kd.R_told (Kd.R_oldK (IsS113.apart (show IsS113 w0 _ g s0_0 x1001_1 x1002_1 from si113_2 NB0_421.out NB0_431.out) (mv HO_432002.out) (by decide)) hk) (Kd.R_base ho0)) (fun _ h_ => h_.1)); replace HK := am (KeepBut.trans (kp2 GW421.out GW431.out) hk (.inl rfl)); replace HB := am (hb); replace HI0 := am (hi); (try clear hb); (try clear hb2); (try clear hk); (try clear hi); (try clear ho0); have p438 : 0 ≤ (a3 : Int) := of_decide_eq_true asm; have q438 : a3 < (l2.length : Int) := of_decide_eq_true asm; obtain ⟨ad438, A438_0, c438_0, e438, hx438_0, hl438_0, hi438_0⟩ := at_L1 (Kd.C_foot_now HR2.out HK.out) a3 p438 q438; cases e438; have HR438_0 := am hi438_0; have HC438_0 := am hl438_0; clear hi438_0 hl438_0; replace p438 := eq_true p438; replace q438 := eq_true q438; obtain ⟨Ao36, co36, eo36⟩ := Kd.R_slice HO435.out; subst eo36) | ((with_reducible refine gate_callee (f := 75) rfl ?_); refine goesL_ (some 35) rfl rfl Try.func75 (by kernel_rfl) rfl #[.slice Ao36 t433.length co36, .slice A438_0 (rd_L1 l2 a3).length c438_0] rfl av ?_; (with_reducible refine (spec_l1Same.calls _ _ t433 _ _ (rd_L1 l2 a3) false _ ?side1 ?side2 ?side3 ?side4 A20.out).mono ?_); (case side1 => exact cv ((Kd.R_reads' HO435.out).2.2)); (case side2 => exact (Kd.R_reads' HO435.out).2.1); (case side3 => repeat (first | exact (cv HR438_0.out) | (with_reducible refine Kd.C_alloc ?_ _) | (with_reducible refine Kd.C_drewN ?_ _) | (with_reducible refine Kd.C_drew ?_))); (case side4 => exact HC438_0.out); rintro e w' ⟨rfl, ⟨nd, rfl⟩⟩; refine ⟨_, rfl, ?_⟩; have hnb37 := NB431_421.out; have hnc37 := NB421_431.out; have hnb38 := NB431_0.out; have hnc38 := NB0_431.out; have hcz39_0 : w35.cell? ⟨gb431, 0, none⟩ = some (.int .i64 t422) := (blk_cell BK431.out 0).trans rfl; have hcz39_1 : w35.cell? ⟨gb431, 1, none⟩ = some (.int .i64 t423) := (blk_cell BK431.out 1).trans rfl; have hcz39_2 : w35.cell? ⟨gb431, 2, none⟩ = some (u432002) := (blk_cell BK431.out 2).trans rfl; have hcz39_3 : w35.cell? ⟨gb431, 3, none⟩ = some (.slice Ao14 t427.length co14) := (blk_cell BK431.out 3).trans rfl; have hfz39_0 := blk_frozen BK431.out 0; have hfz39_1 := blk_frozen BK431.out 1; have hfz39_2 := blk_frozen BK431.out 2; have hfz39_3 := blk_frozen BK431.out 3) | (go_at_call 83; (with_reducible refine (spec_Proven.calls k1 a1 t432 t422 a3 _ _ t433 _ _ t427 false _ ?side1 ?side2 ?side3 ?side4 A24.out).mono ?_); (case side1 => exact cv ((Kd.R_reads' HO435.out).2.2)); (case side2 => exact (Kd.R_reads' HO435.out).2.1); (case side3 => exact cv ((Kd.R_reads' HO_432003.out).2.2)); (case side4 => exact (Kd.R_reads' HO_432003.out).2.1); rintro e w40 ⟨rfl, hb⟩; replace HO_432002 := am (Kd.R_below (mv HO_432002.out) hb); replace HO_432003 := am (Kd.R_below (mv HO_432003.out) hb); replace HO435 := am (Kd.R_below (mv HO435.out) hb); replace BK421 := am (blk_below (g := gb421) (o := .cells #[.int .i64 x422000_1, .int .i64 x422001_1, .slice none 0 0, .slice none 0 0] 31 (0, 0)) (mb BK421.out) hb); replace BK431 := am (blk_below (g := gb431) (o := .cells #[.int .i64 t422, .int .i64 t423, u432002, .slice Ao14 t427.length co14] 31 (0, 0)) (mb BK431.out) hb); replace HR438_0 := am (Kd.C_below (cv HR438_0.out) hb); replace HK := am (KeepBut.trans (kp2 GW421.out GW431.out) (KeepBut.of_below hb g none) (.inl rfl)); replace HB := am (below_step (b3 (IsS113.ge HI0.out) GE421.out GE431.out) hb); replace HI0 := am (IsS113.below (si113_2 NB0_421.out NB0_431.out) hb); (try clear hb); (try clear hb2); (try clear hk); (try clear hi)))
        go_roundg k1
        case measure => have := HK1.out; omega
        case rel => exact ⟨(wrap64 (x12_1 + 1)), (t436), (t437), (x422000_1), (x422001_1), (x432002_1), (u432002), (by first | rfl | (simp; done) | (simp [*]; done)), H', ⟨by have := HK1.out; omega⟩, ⟨by (with_reducible repeat (first | apply Kd.R_alloc | apply Kd.R_drewN | apply Kd.R_drew)); exact Kd.R_mono HO_432002.out (fun _ hk => trivial)⟩, ⟨mv HO_432003.out⟩, ⟨mb BK421.out⟩, ⟨mb BK431.out⟩, ⟨si113_2 NB0_421.out NB0_431.out⟩, ⟨kp2 GW421.out GW431.out⟩, ⟨b3 (IsS113.ge HI0.out) GE421.out GE431.out⟩⟩
     ·rw [if_neg c19] at H
      exact absurd H (by simp)
    ·rw [if_neg c18] at H
     exact absurd H (by simp)
   ·rw [if_neg c16] at H
    have c16b0 : decide (x12_1 < 40) = false := decide_eq_false c16
    clear c16
    simp only [Option.some.injEq, Prod.mk.injEq] at H
    obtain ⟨rfl, rfl, rfl, rfl, rfl, rfl⟩ := H
    have hnb41 := NB431_421.out
    have hnc41 := NB421_431.out
    have hnb42 := NB431_0.out
    have hnc42 := NB0_431.out
    have hcz43_0 : wr.cell? ⟨gb431, 0, none⟩ = some (.int .i64 t422) := (blk_cell BK431.out 0).trans rfl
    have hcz43_1 : wr.cell? ⟨gb431, 1, none⟩ = some (.int .i64 t423) := (blk_cell BK431.out 1).trans rfl
    have hcz43_2 : wr.cell? ⟨gb431, 2, none⟩ = some (u432002) := (blk_cell BK431.out 2).trans rfl
    have hcz43_3 : wr.cell? ⟨gb431, 3, none⟩ = some (.slice Ao14 t427.length co14) := (blk_cell BK431.out 3).trans rfl
    have hfz43_0 := blk_frozen BK431.out 0
    have hfz43_1 := blk_frozen BK431.out 1
    have hfz43_2 := blk_frozen BK431.out 2
    have hfz43_3 := blk_frozen BK431.out 3
    have hnb44 := NB421_0.out
    have hnc44 := NB0_421.out
    have hcz45_0 : wr.cell? ⟨gb421, 0, none⟩ = some (.int .i64 x422000_1) := (blk_cell BK421.out 0).trans rfl
    have hcz45_1 : wr.cell? ⟨gb421, 1, none⟩ = some (.int .i64 x422001_1) := (blk_cell BK421.out 1).trans rfl
    have hcz45_2 : wr.cell? ⟨gb421, 2, none⟩ = some (.slice none 0 0) := (blk_cell BK421.out 2).trans rfl
    have hcz45_3 : wr.cell? ⟨gb421, 3, none⟩ = some (.slice none 0 0) := (blk_cell BK421.out 3).trans rfl
    have hfz45_0 := blk_frozen BK421.out 0
    have hfz45_1 := blk_frozen BK421.out 1
    have hfz45_2 := blk_frozen BK421.out 2
    have hfz45_3 := blk_frozen BK421.out 3
    obtain ⟨Ao46, co46, eo46⟩ := Kd.R_slice HO_432002.out
    subst eo46
    go_wp2
    refine bodyPost_ret (results_cell_row rfl _ _ gb421 31 #[.int .i64 t422, .int .i64 t423, .slice Ao46 x432002_1.length co46, .slice Ao14 t427.length co14] (0, 0) _ rfl (by (with_reducible repeat (first | refine blk_drewN ?_ _ | refine blk_drew ?_ | refine blk_alloc ?_ _)); refine blk_put (cs := #[.int .i64 t422, .int .i64 t423, .slice Ao46 x432002_1.length co46, .slice none 0 0]) ?_ 3 _ rfl; (with_reducible repeat (first | refine blk_drewN ?_ _ | refine blk_drew ?_ | refine blk_alloc ?_ _)); refine blk_put (cs := #[.int .i64 t422, .int .i64 t423, .slice none 0 0, .slice none 0 0]) ?_ 2 _ rfl; (with_reducible repeat (first | refine blk_drewN ?_ _ | refine blk_drew ?_ | refine blk_alloc ?_ _)); refine blk_put (cs := #[.int .i64 t422, .int .i64 x422001_1, .slice none 0 0, .slice none 0 0]) ?_ 1 _ rfl; (with_reducible repeat (first | refine blk_drewN ?_ _ | refine blk_drew ?_ | refine blk_alloc ?_ _)); refine blk_put (cs := #[.int .i64 x422000_1, .int .i64 x422001_1, .slice none 0 0, .slice none 0 0]) ?_ 0 _ rfl; (with_reducible repeat (first | refine blk_drewN ?_ _ | refine blk_drew ?_ | refine blk_alloc ?_ _)); exact BK421.out) Try.underlying31 rfl (by kernel_rfl)) rfl ?_
    exact ⟨_, _, by first | rfl | (simp [errW_none, errW_some] <;> rfl) | (simp [*, errW_none, errW_some] <;> rfl), by (with_reducible repeat (first | apply Kd.R_alloc | apply Kd.R_drewN | apply Kd.R_drew)); exact Kd.R_mono (Kd.R_far (p := ⟨gb421, 3, none⟩) (Kd.R_far (p := ⟨gb421, 2, none⟩) (Kd.R_far (p := ⟨gb421, 1, none⟩) (Kd.R_far (p := ⟨gb421, 0, none⟩) (Kd.R_types HO_432002.out BK421.out (by decide)) (fun _ hk => hk.2) (.int .i64 t422)) (fun _ hk => hk.2) (.int .i64 t423)) (fun _ hk => hk.2) (.slice Ao46 x432002_1.length co46)) (fun _ hk => hk.2) (.slice Ao14 t427.length co14)) (fun _ hk => trivial), by (with_reducible repeat (first | apply Kd.R_alloc | apply Kd.R_drewN | apply Kd.R_drew)); exact Kd.R_mono (Kd.R_far (p := ⟨gb421, 3, none⟩) (Kd.R_far (p := ⟨gb421, 2, none⟩) (Kd.R_far (p := ⟨gb421, 1, none⟩) (Kd.R_far (p := ⟨gb421, 0, none⟩) (Kd.R_types HO_432003.out BK421.out (by decide)) (fun _ hk => hk.2) (.int .i64 t422)) (fun _ hk => hk.2) (.int .i64 t423)) (fun _ hk => hk.2) (.slice Ao46 x432002_1.length co46)) (fun _ hk => hk.2) (.slice Ao14 t427.length co14)) (fun _ hk => trivial), si113_2 NB0_421.out NB0_431.out, b3 (IsS113.ge HI0.out) GE421.out GE431.out, kp2 GW421.out GW431.out⟩

/-! ### spec_l1Once: function 65 -/
def spec_l1Once.f (s0_0 : List Int) (s0_1 : Int) (s0_2 : Int) (a1 : Int) : Option (Bool × Int × Int) := (spec_l1Below.f s0_0 s0_1 s0_2 a1).bind fun bt441 => (some ((bt441.1 == 0), bt441.2.1, bt441.2.2))
set_option maxHeartbeats 8000000 in
set_option maxRecDepth 100000 in
theorem spec_l1Once.calls (g : Nat) (s0_0 : List Int) (s0_1 : Int) (s0_2 : Int) (a1 : Int) (r1 : Bool) (r2 : Int) (r3 : Int) (w0 w : World) (hI : IsS113 w0 w g s0_0 s0_1 s0_2) (hB : Below w0.heap.size w0 w) (h : spec_l1Once.f s0_0 s0_1 s0_2 a1 = some (r1, r2, r3)) :
  Calls Try.prog 65 #[.pointer (some ⟨g, 0, none⟩), .int .i64 a1] w fun e w' => e = .returned (.bool r1) ∧ IsS113 w0 w' g s0_0 r2 r3 ∧ Below w0.heap.size w0 w' ∧ KeepBut w w' g none := by
 have HI0 := am hI
 have HK := am (KeepBut.refl w g none)
 have HL := am hB.size
 clear hI
 have HW0 := am hB.size
 have HB := am hB
 clear hB
 have H : ((spec_l1Below.f s0_0 s0_1 s0_2 a1).bind fun bt441 => (some ((bt441.1 == 0), bt441.2.1, bt441.2.2))) = some (r1, r2, r3) := h
 clear h
 replace H := Option.bind_eq_some_iff.mp H
 obtain ⟨⟨t441, t442, t443⟩, A30, H⟩ := H
 (try dsimp -simprocs only at H)
 have A3 := am A30
 clear A30
 simp only [Option.some.injEq, Prod.mk.injEq] at H
 obtain ⟨rfl, rfl, rfl⟩ := H
 go_enter Try.func65, Try.ntmps65
 go_wp2_with (first | ((with_reducible refine gate_callee (f := 53) rfl ?_); refine goesL_ (some 7) rfl rfl Try.func53 (by kernel_rfl) rfl #[.pointer (some ⟨g, 0, none⟩), .int .i64 a1] rfl av ?_; (with_reducible refine (spec_l1Below.calls g s0_0 s0_1 s0_2 a1 t441 t442 t443 w0 _ ?side1 ?side2 A3.out).mono ?_); (case side1 => exact si113_); (case side2 => exact b1 (IsS113.ge HI0.out)); rintro e w4 ⟨rfl, hi, hb, hk⟩; refine ⟨_, rfl, ?_⟩; replace HK := am (KeepBut.trans (kp) hk (.inl rfl)); replace HB := am (hb); replace HI0 := am (hi); (try clear hb); (try clear hb2); (try clear hk); (try clear hi)))
 go_ret
 exact ⟨by first | rfl | (simp [errW_none, errW_some] <;> rfl) | (simp [*, errW_none, errW_some] <;> rfl), si113_, b1 (IsS113.ge HI0.out), kp⟩

/-! ### spec_l1DrawBits: function 66 -/
def spec_l1DrawBits.f (s0_0 : List Int) (s0_1 : Int) (s0_2 : Int) : Option (Int × Int × Int) := (spec_l1Once.f s0_0 s0_1 s0_2 20).bind fun bt444 => (if bt444.1 = true then ((spec_l1PickInt.f s0_0 bt444.2.1 bt444.2.2 (([(-1), 1, 61, 64] : List Int))).bind fun bt450 => (some (bt450.1, bt450.2.1, bt450.2.2))) else ((spec_l1PickInt.f s0_0 bt444.2.1 bt444.2.2 (([2, 3, 4, 8, 16, 32, 60, 5] : List Int))).bind fun bt456 => (some (bt456.1, bt456.2.1, bt456.2.2))))
set_option maxHeartbeats 8000000 in
set_option maxRecDepth 100000 in
theorem spec_l1DrawBits.calls (g : Nat) (s0_0 : List Int) (s0_1 : Int) (s0_2 : Int) (r1 : Int) (r2 : Int) (r3 : Int) (w0 w : World) (hI : IsS113 w0 w g s0_0 s0_1 s0_2) (hB : Below w0.heap.size w0 w) (h : spec_l1DrawBits.f s0_0 s0_1 s0_2 = some (r1, r2, r3)) :
  Calls Try.prog 66 #[.pointer (some ⟨g, 0, none⟩)] w fun e w' => e = .returned (.int .i64 r1) ∧ IsS113 w0 w' g s0_0 r2 r3 ∧ Below w0.heap.size w0 w' ∧ KeepBut w w' g none := by
 have HI0 := am hI
 have HK := am (KeepBut.refl w g none)
 have HL := am hB.size
 clear hI
 have HW0 := am hB.size
 have HB := am hB
 clear hB
 have H : ((spec_l1Once.f s0_0 s0_1 s0_2 20).bind fun bt444 => (if bt444.1 = true then ((spec_l1PickInt.f s0_0 bt444.2.1 bt444.2.2 (([(-1), 1, 61, 64] : List Int))).bind fun bt450 => (some (bt450.1, bt450.2.1, bt450.2.2))) else ((spec_l1PickInt.f s0_0 bt444.2.1 bt444.2.2 (([2, 3, 4, 8, 16, 32, 60, 5] : List Int))).bind fun bt456 => (some (bt456.1, bt456.2.1, bt456.2.2))))) = some (r1, r2, r3) := h
 clear h
 replace H := Option.bind_eq_some_iff.mp H
 obtain ⟨⟨t444, t445, t446⟩, A20, H⟩ := H
 (try dsimp -simprocs only at H)
 have A2 := am A20
 clear A20
 by_cases c3 : t444 = true
 ·subst c3
  rw [if_pos rfl] at H
  obtain ⟨y447, hy447⟩ : ∃ y_ : List Int, y_ = (([(-1), 1, 61, 64] : List Int)) := ⟨_, rfl⟩
  replace H : ((spec_l1PickInt.f s0_0 t445 t446 y447).bind fun bt450 => (some (bt450.1, bt450.2.1, bt450.2.2))) = some (r1, r2, r3) := by first | (rw [hy447]; exact H) | exact H
  have Ny447 := am hy447
  clear hy447
  replace H := Option.bind_eq_some_iff.mp H
  obtain ⟨⟨t450, t451, t452⟩, A40, H⟩ := H
  (try dsimp -simprocs only at H)
  have A4 := am A40
  clear A40
  simp only [Option.some.injEq, Prod.mk.injEq] at H
  obtain ⟨rfl, rfl, rfl⟩ := H
  go_enter Try.func66, Try.ntmps66
  go_wp2_with (first | ((with_reducible refine gate_callee (f := 65) rfl ?_); refine goesL_ (some 4) rfl rfl Try.func65 (by kernel_rfl) rfl #[.pointer (some ⟨g, 0, none⟩), .int .i64 20] rfl av ?_; (with_reducible refine (spec_l1Once.calls g s0_0 s0_1 s0_2 20 true t445 t446 w0 _ ?side1 ?side2 A2.out).mono ?_); (case side1 => exact si113_); (case side2 => exact b1 (IsS113.ge HI0.out)); rintro e w5 ⟨rfl, hi, hb, hk⟩; refine ⟨_, rfl, ?_⟩; replace HK := am (KeepBut.trans (kp) hk (.inl rfl)); replace HB := am (hb); replace HI0 := am (hi); (try clear hb); (try clear hb2); (try clear hk); (try clear hi)) | ((with_reducible refine gate_dst (N := 6) rfl ?_); refine Kd.R_lit (Kd.int .i64) _ 3 ?hg (N := 6) ?hd (xs := ([(-1), 1, 61, 64] : List Int)) (inner := [.int .i64 (-1), .int .i64 1, .int .i64 61, .int .i64 64]) (ok := fun _ => True) (okp := fun _ => True) ?hr ?hp (fun _ hk => hk) trivial (Below.refl _ _) (Nat.le_refl _) (by simp) ?_; (case hd => rfl); (case hg => rfl); (case hr => first | (go_simp; done) | (go_simp; rfl)); (case hp => exact (Reps.one (show Kd.M (Kd.int .i64) _ _ _ (-1) [.int .i64 (-1)] from rfl) (Reps.one (show Kd.M (Kd.int .i64) _ _ _ 1 [.int .i64 1] from rfl) (Reps.one (show Kd.M (Kd.int .i64) _ _ _ 61 [.int .i64 61] from rfl) (Reps.one (show Kd.M (Kd.int .i64) _ _ _ 64 [.int .i64 64] from rfl) (Reps.none _ _)))))); intro v448 w6 ho7 hb hg_ hnew_; clear hg_ hnew_; (first | rw [← Ny447.out] at ho7 | (simp only [Int.reduceToNat] at ho7; rw [← Ny447.out] at ho7)); have HO449 := am (Kd.R_lower ho7 (keep_size (w := w) (g := g) (row := none) (kp))); replace HK := am (KeepBut.trans (kp) (KeepBut.of_below hb g none) (.inl rfl)); replace HB := am (below_step (b1 (IsS113.ge HI0.out)) hb); replace HI0 := am (IsS113.below (si113_) hb); clear hb ho7; obtain ⟨Ao8, co8, eo8⟩ := Kd.R_slice HO449.out; subst eo8) | ((with_reducible refine gate_callee (f := 88) rfl ?_); refine goesL_ (some 7) rfl rfl Try.func88 (by kernel_rfl) rfl #[.pointer (some ⟨g, 0, none⟩), .slice Ao8 y447.length co8] rfl av ?_; (with_reducible refine (spec_l1PickInt.calls g s0_0 t445 t446 _ _ y447 t450 t451 t452 w0 _ ?side1 ?side2 ?side3 ?side4 ?side5 A4.out).mono ?_); (case side1 => exact si113_); (case side2 => exact b1 (IsS113.ge HI0.out)); (case side3 => exact cv ((Kd.R_reads' HO449.out).2.2)); (case side4 => exact (Kd.R_reads' HO449.out).2.1); (case side5 => exact far_slice (IsS113.own_ne HI0.out HO449.out (by decide))); rintro e w9 ⟨rfl, hi, hb, hk⟩; refine ⟨_, rfl, ?_⟩; replace HO449 := am (Kd.R_mono (Kd.R_keep (IsS113.apart (show IsS113 w0 _ g s0_0 t445 t446 from si113_) (mv HO449.out) (by decide)) hk (fun _ h => h.2)) (fun _ h => h.1)); replace HK := am (KeepBut.trans (kp) hk (.inl rfl)); replace HB := am (hb); replace HI0 := am (hi); (try clear hb); (try clear hb2); (try clear hk); (try clear hi)))
  go_ret
  exact ⟨by first | rfl | (simp [errW_none, errW_some] <;> rfl) | (simp [*, errW_none, errW_some] <;> rfl), si113_, b1 (IsS113.ge HI0.out), kp⟩
 ·replace c3 := Bool.eq_false_iff.mpr c3
  subst c3
  rw [if_neg (show ¬ (false = true) by decide)] at H
  obtain ⟨y453, hy453⟩ : ∃ y_ : List Int, y_ = (([2, 3, 4, 8, 16, 32, 60, 5] : List Int)) := ⟨_, rfl⟩
  replace H : ((spec_l1PickInt.f s0_0 t445 t446 y453).bind fun bt456 => (some (bt456.1, bt456.2.1, bt456.2.2))) = some (r1, r2, r3) := by first | (rw [hy453]; exact H) | exact H
  have Ny453 := am hy453
  clear hy453
  replace H := Option.bind_eq_some_iff.mp H
  obtain ⟨⟨t456, t457, t458⟩, A100, H⟩ := H
  (try dsimp -simprocs only at H)
  have A10 := am A100
  clear A100
  simp only [Option.some.injEq, Prod.mk.injEq] at H
  obtain ⟨rfl, rfl, rfl⟩ := H
  go_enter Try.func66, Try.ntmps66
  go_wp2_with (first | ((with_reducible refine gate_callee (f := 65) rfl ?_); refine goesL_ (some 4) rfl rfl Try.func65 (by kernel_rfl) rfl #[.pointer (some ⟨g, 0, none⟩), .int .i64 20] rfl av ?_; (with_reducible refine (spec_l1Once.calls g s0_0 s0_1 s0_2 20 false t445 t446 w0 _ ?side1 ?side2 A2.out).mono ?_); (case side1 => exact si113_); (case side2 => exact b1 (IsS113.ge HI0.out)); rintro e w11 ⟨rfl, hi, hb, hk⟩; refine ⟨_, rfl, ?_⟩; replace HK := am (KeepBut.trans (kp) hk (.inl rfl)); replace HB := am (hb); replace HI0 := am (hi); (try clear hb); (try clear hb2); (try clear hk); (try clear hi)) | ((with_reducible refine gate_dst (N := 9) rfl ?_); refine Kd.R_lit (Kd.int .i64) _ 3 ?hg (N := 9) ?hd (xs := ([2, 3, 4, 8, 16, 32, 60, 5] : List Int)) (inner := [.int .i64 2, .int .i64 3, .int .i64 4, .int .i64 8, .int .i64 16, .int .i64 32, .int .i64 60, .int .i64 5]) (ok := fun _ => True) (okp := fun _ => True) ?hr ?hp (fun _ hk => hk) trivial (Below.refl _ _) (Nat.le_refl _) (by simp) ?_; (case hd => rfl); (case hg => rfl); (case hr => first | (go_simp; done) | (go_simp; rfl)); (case hp => exact (Reps.one (show Kd.M (Kd.int .i64) _ _ _ 2 [.int .i64 2] from rfl) (Reps.one (show Kd.M (Kd.int .i64) _ _ _ 3 [.int .i64 3] from rfl) (Reps.one (show Kd.M (Kd.int .i64) _ _ _ 4 [.int .i64 4] from rfl) (Reps.one (show Kd.M (Kd.int .i64) _ _ _ 8 [.int .i64 8] from rfl) (Reps.one (show Kd.M (Kd.int .i64) _ _ _ 16 [.int .i64 16] from rfl) (Reps.one (show Kd.M (Kd.int .i64) _ _ _ 32 [.int .i64 32] from rfl) (Reps.one (show Kd.M (Kd.int .i64) _ _ _ 60 [.int .i64 60] from rfl) (Reps.one (show Kd.M (Kd.int .i64) _ _ _ 5 [.int .i64 5] from rfl) (Reps.none _ _)))))))))); intro v454 w12 ho13 hb hg_ hnew_; clear hg_ hnew_; (first | rw [← Ny453.out] at ho13 | (simp only [Int.reduceToNat] at ho13; rw [← Ny453.out] at ho13)); have HO455 := am (Kd.R_lower ho13 (keep_size (w := w) (g := g) (row := none) (kp))); replace HK := am (KeepBut.trans (kp) (KeepBut.of_below hb g none) (.inl rfl)); replace HB := am (below_step (b1 (IsS113.ge HI0.out)) hb); replace HI0 := am (IsS113.below (si113_) hb); clear hb ho13; obtain ⟨Ao14, co14, eo14⟩ := Kd.R_slice HO455.out; subst eo14) | ((with_reducible refine gate_callee (f := 88) rfl ?_); refine goesL_ (some 10) rfl rfl Try.func88 (by kernel_rfl) rfl #[.pointer (some ⟨g, 0, none⟩), .slice Ao14 y453.length co14] rfl av ?_; (with_reducible refine (spec_l1PickInt.calls g s0_0 t445 t446 _ _ y453 t456 t457 t458 w0 _ ?side1 ?side2 ?side3 ?side4 ?side5 A10.out).mono ?_); (case side1 => exact si113_); (case side2 => exact b1 (IsS113.ge HI0.out)); (case side3 => exact cv ((Kd.R_reads' HO455.out).2.2)); (case side4 => exact (Kd.R_reads' HO455.out).2.1); (case side5 => exact far_slice (IsS113.own_ne HI0.out HO455.out (by decide))); rintro e w15 ⟨rfl, hi, hb, hk⟩; refine ⟨_, rfl, ?_⟩; replace HO455 := am (Kd.R_mono (Kd.R_keep (IsS113.apart (show IsS113 w0 _ g s0_0 t445 t446 from si113_) (mv HO455.out) (by decide)) hk (fun _ h => h.2)) (fun _ h => h.1)); replace HK := am (KeepBut.trans (kp) hk (.inl rfl)); replace HB := am (hb); replace HI0 := am (hi); (try clear hb); (try clear hb2); (try clear hk); (try clear hi)))
  go_ret
  exact ⟨by first | rfl | (simp [errW_none, errW_some] <;> rfl) | (simp [*, errW_none, errW_some] <;> rfl), si113_, b1 (IsS113.ge HI0.out), kp⟩

theorem fldC (a b v1 v2 : Value) (W : World) : (Instr.field 31 (.agg #[a, b, v1, v2]) 2).run Try.prog W = .ok v1 W := by
 unfold Instr.field
 simp [go_sem, part, asAgg]
/-! ### spec_DrawFromLeaves: function 17 -/
def spec_DrawFromLeaves.j0 : Nat → Int → List (List Int) → List (List Int) → List Int → Int → Int → Option (Int × (List (List Int)) × (List (List Int)))
 | 0, _, _, _, _, _, _ => none
 | k + 1, x6, x7, x8, x463000, x463001, x463002 => (spec_l1Once.f x463000 x463001 x463002 20).bind fun bt504 => (if bt504.1 = true then ((spec_l1DrawBits.f x463000 bt504.2.1 bt504.2.2).bind fun bt507 => (some (bt507.1, x7, x8))) else (some (x6, x7, x8)))
def spec_DrawFromLeaves.f (k : Nat) (l0 : List Int) : Option (Int × (List (List Int)) × (List (List Int))) := (spec_l1New.f k l0).bind fun bt459 => ((spec_l3DrawSmall.f k bt459.1 bt459.2.1 bt459.2.2).bind fun bt463 => ((spec_l1Lists.f k bt463.2.1).bind fun t469 => ((spec_l1Below.f bt459.1 bt463.2.2.1 bt463.2.2.2 4).bind fun bt472 => (if bt472.1 = 0 then ((spec_l3DrawSmall.f k bt459.1 bt472.2.1 bt472.2.2).bind fun bt475 => (spec_DrawFromLeaves.j0 k bt463.1 bt463.2.1 bt475.2.1 bt459.1 bt475.2.2.1 bt475.2.2.2)) else (if bt472.1 = 1 then ((spec_l1Below.f bt459.1 bt472.2.1 bt472.2.2 (bt463.2.1.length : Int)).bind fun bt481 => ((spec_l3Forge.f k bt459.1 bt481.2.1 bt481.2.2 bt463.1 bt463.2.1 bt481.1).bind fun bt484 => (if 0 ≤ bt481.1 then (if bt481.1 < (t469.length : Int) then (spec_DrawFromLeaves.j0 k bt463.1 bt463.2.1 (t469.set (bt481.1 : Int).toNat bt484.2.2.1) bt459.1 bt484.2.2.2.2.1 bt484.2.2.2.2.2) else (none)) else (none)))) else (if bt472.1 = 2 then ((spec_l1Below.f bt459.1 bt472.2.1 bt472.2.2 (t469.length : Int)).bind fun bt495 => ((spec_l1DrawData.f k bt459.1 bt495.2.1 bt495.2.2 4).bind fun bt498 => (if 0 ≤ bt495.1 then (if bt495.1 < (t469.length : Int) then (spec_DrawFromLeaves.j0 k bt463.1 bt463.2.1 (t469.set (bt495.1 : Int).toNat bt498.1) bt459.1 bt498.2.1 bt498.2.2) else (none)) else (none)))) else (spec_DrawFromLeaves.j0 k bt463.1 bt463.2.1 t469 bt459.1 bt472.2.1 bt472.2.2)))))))
set_option maxHeartbeats 8000000 in
set_option maxRecDepth 100000 in
theorem spec_DrawFromLeaves.calls (k : Nat) (A0 : Option Addr) (c0 : Nat) (l0 : List Int) (r1 : Int) (r2 : List (List Int)) (r3 : List (List Int)) (w : World) (hr0 : Kd.C (Kd.int .u8) w A0 l0.length l0) (hc0 : l0.length ≤ c0) (h : spec_DrawFromLeaves.f k l0 = some (r1, r2, r3)) :
  Calls Try.prog 17 #[.slice A0 l0.length c0] w fun e w' => ∃ v1_ v2_ : Value, e = .returned (.tuple #[.int .i64 r1, v1_, v2_]) ∧ Kd.N (Kd.slice 5 (Kd.int .u8)) 22 w' w.heap.size (fun k_ => (w.heap.size ≤ k_) ∧ some k_ ≠ (v2_ : Value).ownBlock) v1_ r2 ∧ Kd.N (Kd.slice 5 (Kd.int .u8)) 22 w' w.heap.size (fun k_ => (w.heap.size ≤ k_) ∧ some k_ ≠ (v1_ : Value).ownBlock) v2_ r3 ∧ Below w.heap.size w w' := by
 have hfld := fldC
 have hu31 := Try.underlying31
 have HR0 := am hr0
 have HC0 := am hc0
 clear hr0 hc0
 have HB := am (Below.refl w.heap.size w)
 have H : ((spec_l1New.f k l0).bind fun bt459 => ((spec_l3DrawSmall.f k bt459.1 bt459.2.1 bt459.2.2).bind fun bt463 => ((spec_l1Lists.f k bt463.2.1).bind fun t469 => ((spec_l1Below.f bt459.1 bt463.2.2.1 bt463.2.2.2 4).bind fun bt472 => (if bt472.1 = 0 then ((spec_l3DrawSmall.f k bt459.1 bt472.2.1 bt472.2.2).bind fun bt475 => (spec_DrawFromLeaves.j0 k bt463.1 bt463.2.1 bt475.2.1 bt459.1 bt475.2.2.1 bt475.2.2.2)) else (if bt472.1 = 1 then ((spec_l1Below.f bt459.1 bt472.2.1 bt472.2.2 (bt463.2.1.length : Int)).bind fun bt481 => ((spec_l3Forge.f k bt459.1 bt481.2.1 bt481.2.2 bt463.1 bt463.2.1 bt481.1).bind fun bt484 => (if 0 ≤ bt481.1 then (if bt481.1 < (t469.length : Int) then (spec_DrawFromLeaves.j0 k bt463.1 bt463.2.1 (t469.set (bt481.1 : Int).toNat bt484.2.2.1) bt459.1 bt484.2.2.2.2.1 bt484.2.2.2.2.2) else (none)) else (none)))) else (if bt472.1 = 2 then ((spec_l1Below.f bt459.1 bt472.2.1 bt472.2.2 (t469.length : Int)).bind fun bt495 => ((spec_l1DrawData.f k bt459.1 bt495.2.1 bt495.2.2 4).bind fun bt498 => (if 0 ≤ bt495.1 then (if bt495.1 < (t469.length : Int) then (spec_DrawFromLeaves.j0 k bt463.1 bt463.2.1 (t469.set (bt495.1 : Int).toNat bt498.1) bt459.1 bt498.2.1 bt498.2.2) else (none)) else (none)))) else (spec_DrawFromLeaves.j0 k bt463.1 bt463.2.1 t469 bt459.1 bt472.2.1 bt472.2.2)))))))) = some (r1, r2, r3) := h
 clear h
 replace H := Option.bind_eq_some_iff.mp H
 obtain ⟨⟨t459, t460, t461⟩, A20, H⟩ := H
 (try dsimp -simprocs only at H)
 have A2 := am A20
 clear A20
 replace H := Option.bind_eq_some_iff.mp H
 obtain ⟨⟨t463, t464, t467, t468⟩, A30, H⟩ := H
 (try dsimp -simprocs only at H)
 have A3 := am A30
 clear A30
 replace H := Option.bind_eq_some_iff.mp H
 obtain ⟨t469, A40, H⟩ := H
 (try dsimp -simprocs only at H)
 have A4 := am A40
 clear A40
 replace H := Option.bind_eq_some_iff.mp H
 obtain ⟨⟨t472, t473, t474⟩, A50, H⟩ := H
 (try dsimp -simprocs only at H)
 have A5 := am A50
 clear A50
 have HC6 := am H
 clear H
 go_enter Try.func17, Try.ntmps17
 go_upto_block 0 with (first | ((with_reducible refine gate_callee (f := 51) rfl ?_); refine goesL_ (some 11) rfl rfl Try.func51 (by kernel_rfl) rfl #[.slice A0 l0.length c0] rfl av ?_; (with_reducible refine (spec_l1New.calls k _ _ l0 t459 t460 t461 w _ ?side1 ?side2 ?side3 A2.out).mono ?_); (case side1 => exact bt); (case side2 => exact HR0.out); (case side3 => exact HC0.out); rintro e w7 ⟨g462, rfl, hi, hb, hb2⟩; refine ⟨_, rfl, ?_⟩; replace HB := am (hb); have HI462 := am (hi); (try clear hb); (try clear hb2); (try clear hk); (try clear hi)) | ((with_reducible refine gate_callee (f := 52) rfl ?_); refine goesL_ (some 14) rfl rfl Try.func52 (by kernel_rfl) rfl #[.pointer (some ⟨g462, 0, none⟩)] rfl av ?_; (with_reducible refine (spec_l3DrawSmall.calls k g462 t459 t460 t461 t463 t464 t467 t468 w _ ?side1 ?side2 A3.out).mono ?_); (case side1 => repeat (first | (with_reducible first | exact HI462.out | apply IsS113.alloc | apply IsS113.drewN | apply IsS113.drew | apply IsS113.set_1 | apply IsS113.set_2) | exact HI462.out)); (case side2 => exact b1 (IsS113.ge HI462.out)); rintro e w8 ⟨v465, rfl, ho0, hi, hb, hk⟩; refine ⟨_, rfl, ?_⟩; have HO466 := am (Kd.N_lower (Kd.N_mono (ok' := fun k_ => (w.heap.size ≤ k_) ∧ k_ ≠ g462) ho0 (fun k_ hk_ => ⟨(Nat.le_trans (below_size (b1 (IsS113.ge HI462.out))) hk_), (IsS113.fresh (by repeat (first | (with_reducible first | exact HI462.out | apply IsS113.alloc | apply IsS113.drewN | apply IsS113.drew | apply IsS113.set_1 | apply IsS113.set_2) | exact HI462.out)) k_ hk_)⟩)) (below_size (b1 (IsS113.ge HI462.out)))); replace HB := am (hb); replace HI462 := am (hi); (try clear hb); (try clear hb2); (try clear hk); (try clear hi); (try clear ho0); obtain ⟨Ao9, co9, eo9⟩ := Kd.N_slice HO466.out; subst eo9) | ((with_reducible refine gate_callee (f := 62) rfl ?_); refine goesL_ (some 18) rfl rfl Try.func62 (by kernel_rfl) rfl #[.slice Ao9 t464.length co9] rfl av ?_; (with_reducible refine (spec_l1Lists.calls k _ _ t464 t469 _ ?side1 ?side2 A4.out).mono ?_); (case side1 => exact cv ((Kd.N_reads' HO466.out).2.2)); (case side2 => exact (Kd.N_reads' HO466.out).2.1); rintro e w10 ⟨v470, rfl, ho0, hb⟩; refine ⟨_, rfl, ?_⟩; have HO471 := am (Kd.N_lower (Kd.N_mono (ok' := fun k_ => (w.heap.size ≤ k_) ∧ some k_ ≠ (.slice Ao9 t464.length co9 : Value).ownBlock ∧ k_ ≠ g462) (Kd.R_N (Kd.S_R (Kd.S_bound ho0))) (fun k_ hk_ => ⟨(Nat.le_trans (below_size (b1 (IsS113.ge HI462.out))) hk_.2.1), (Kd.fresh' (Kd.N_lt (mv HO466.out)) k_ hk_.2.1), (IsS113.fresh (by repeat (first | (with_reducible first | exact HI462.out | apply IsS113.alloc | apply IsS113.drewN | apply IsS113.drew | apply IsS113.set_1 | apply IsS113.set_2) | exact HI462.out)) k_ hk_.2.1)⟩)) (below_size (b1 (IsS113.ge HI462.out)))); replace HO466 := am (Kd.N_elder' (mv HO466.out) (by first | exact Kd.N_base ho0 | exact Kd.S_base ho0) hb); replace HB := am (below_step (b1 (IsS113.ge HI462.out)) hb); replace HI462 := am (IsS113.below (by repeat (first | (with_reducible first | exact HI462.out | apply IsS113.alloc | apply IsS113.drewN | apply IsS113.drew | apply IsS113.set_1 | apply IsS113.set_2) | exact HI462.out)) hb); (try clear hb); (try clear hb2); (try clear hk); (try clear hi); (try clear ho0)) | ((with_reducible refine gate_callee (f := 53) rfl ?_); refine goesL_ (some 20) rfl rfl Try.func53 (by kernel_rfl) rfl #[.pointer (some ⟨g462, 0, none⟩), .int .i64 4] rfl av ?_; (with_reducible refine (spec_l1Below.calls g462 t459 t467 t468 4 t472 t473 t474 w _ ?side1 ?side2 A5.out).mono ?_); (case side1 => repeat (first | (with_reducible first | exact HI462.out | apply IsS113.alloc | apply IsS113.drewN | apply IsS113.drew | apply IsS113.set_1 | apply IsS113.set_2) | exact HI462.out)); (case side2 => exact b1 (IsS113.ge HI462.out)); rintro e w11 ⟨rfl, hi, hb, hk⟩; refine ⟨_, rfl, ?_⟩; replace HO466 := am (Kd.N_mono (Kd.N_keep (Kd.N_mono (ok := fun k_ => ((((w.heap.size ≤ k_)) ∧ k_ ≠ g462) ∧ some k_ ≠ (v470 : Value).ownBlock)) (mv HO466.out) (fun k_ hk_ => (⟨hk_, hk_.1.2⟩ : _ ∧ k_ ≠ g462))) hk (fun _ h => h.2)) (fun _ h => h.1)); replace HO471 := am (Kd.N_mono (Kd.N_keep (Kd.N_mono (ok := fun k_ => (((w.heap.size ≤ k_)) ∧ (some k_ ≠ (.slice Ao9 t464.length co9 : Value).ownBlock ∧ k_ ≠ g462))) (mv HO471.out) (fun k_ hk_ => (⟨hk_, hk_.2.2⟩ : _ ∧ k_ ≠ g462))) hk (fun _ h => h.2)) (fun _ h => h.1)); replace HB := am (hb); replace HI462 := am (hi); (try clear hb); (try clear hb2); (try clear hk); (try clear hi)))
 (try simp only [Act.put, List.setIfInBounds_toArray, List.set_cons_zero, List.set_cons_succ])
 go_cut [8] (fun v8 wc => ∃ (kq : Nat) (x7_5 : List (List Int)) (x8_5 : List (List Int)) (x463001_5 : Int) (x463002_5 : Int), Aside0 (spec_DrawFromLeaves.j0 kq t463 x7_5 x8_5 t459 x463001_5 x463002_5 = some (r1, r2, r3)) ∧ Aside0 (kq ≤ k) ∧ Aside0 (Kd.N (Kd.slice 5 (Kd.int .u8)) 22 wc w.heap.size (fun k_ => (w.heap.size ≤ k_) ∧ some k_ ≠ (v8 : Value).ownBlock ∧ k_ ≠ g462) (.slice Ao9 t464.length co9) x7_5) ∧ Aside0 (Kd.N (Kd.slice 5 (Kd.int .u8)) 22 wc w.heap.size (fun k_ => (w.heap.size ≤ k_) ∧ some k_ ≠ ((.slice Ao9 t464.length co9) : Value).ownBlock ∧ k_ ≠ g462) v8 x8_5) ∧ Aside0 (IsS113 w wc g462 t459 x463001_5 x463002_5) ∧ Aside0 (Below w.heap.size w wc))
 case first =>
  have H := HC6.out
  clear HC6
  by_cases c12 : t472 = 0
  ·rw [if_pos c12] at H
   have c12b0 : (t472 == 0) = true := beq_iff_eq.mpr c12
   have c12b1 : (t472 != 0) = false := bne_eq_false_iff_eq.mpr c12
   clear c12
   (first | rw [c12b0] | (simp only [i64_w, i32_w]; rw [c12b0]) | skip)
   replace H := Option.bind_eq_some_iff.mp H
   obtain ⟨⟨t475, t476, t479, t480⟩, A130, H⟩ := H
   (try dsimp -simprocs only at H)
   have A13 := am A130
   clear A130
   have H' := am H
   clear H
   go_wp2_with (first | ((with_reducible refine gate_callee (f := 52) rfl ?_); refine goesL_ (some 25) rfl rfl Try.func52 (by kernel_rfl) rfl #[.pointer (some ⟨g462, 0, none⟩)] rfl av ?_; (with_reducible refine (spec_l3DrawSmall.calls k g462 t459 t473 t474 t475 t476 t479 t480 w _ ?side1 ?side2 A13.out).mono ?_); (case side1 => repeat (first | (with_reducible first | exact HI462.out | apply IsS113.alloc | apply IsS113.drewN | apply IsS113.drew | apply IsS113.set_1 | apply IsS113.set_2) | exact HI462.out)); (case side2 => exact b1 (IsS113.ge HI462.out)); rintro e w14 ⟨v477, rfl, ho0, hi, hb, hk⟩; refine ⟨_, rfl, ?_⟩; have HO478 := am (Kd.N_lower (Kd.N_mono (ok' := fun k_ => (w.heap.size ≤ k_) ∧ some k_ ≠ (.slice Ao9 t464.length co9 : Value).ownBlock ∧ some k_ ≠ (v470 : Value).ownBlock ∧ k_ ≠ g462) ho0 (fun k_ hk_ => ⟨(Nat.le_trans (below_size (b1 (IsS113.ge HI462.out))) hk_), (Kd.fresh' (Kd.N_lt (mv HO466.out)) k_ hk_), (Kd.fresh' (Kd.N_lt (mv HO471.out)) k_ hk_), (IsS113.fresh (by repeat (first | (with_reducible first | exact HI462.out | apply IsS113.alloc | apply IsS113.drewN | apply IsS113.drew | apply IsS113.set_1 | apply IsS113.set_2) | exact HI462.out)) k_ hk_)⟩)) (below_size (b1 (IsS113.ge HI462.out)))); replace HO466 := am (Kd.N_mono (Kd.N_told (Kd.N_oldK (Kd.N_mono (ok := fun k_ => ((((w.heap.size ≤ k_)) ∧ k_ ≠ g462) ∧ some k_ ≠ (v470 : Value).ownBlock)) (mv HO466.out) (fun k_ hk_ => (⟨hk_, hk_.1.2⟩ : _ ∧ k_ ≠ g462))) hk) (by first | exact Kd.N_base ho0 | exact Kd.S_base ho0)) (fun _ h_ => h_.1)); replace HO471 := am (Kd.N_mono (Kd.N_told (Kd.N_oldK (Kd.N_mono (ok := fun k_ => (((w.heap.size ≤ k_)) ∧ (some k_ ≠ (.slice Ao9 t464.length co9 : Value).ownBlock ∧ k_ ≠ g462))) (mv HO471.out) (fun k_ hk_ => (⟨hk_, hk_.2.2⟩ : _ ∧ k_ ≠ g462))) hk) (by first | exact Kd.N_base ho0 | exact Kd.S_base ho0)) (fun _ h_ => h_.1)); replace HB := am (hb); replace HI462 := am (hi); (try clear hb); (try clear hb2); (try clear hk); (try clear hi); (try clear ho0)))
   go_meet
   case rel => exact ⟨_, (t464), (t476), (t479), (t480), H', ⟨by first | omega | exact Nat.le_refl _⟩, ⟨by (with_reducible repeat (first | apply Kd.N_alloc | apply Kd.N_drewN | apply Kd.N_drew)); exact Kd.N_mono HO466.out (fun _ hk => ⟨hk.1.1.1, ⟨hk.2, hk.1.1.2⟩⟩)⟩, ⟨by (with_reducible repeat (first | apply Kd.N_alloc | apply Kd.N_drewN | apply Kd.N_drew)); exact Kd.N_mono HO478.out (fun _ hk => ⟨hk.1, ⟨hk.2.1, hk.2.2.2⟩⟩)⟩, ⟨by repeat (first | (with_reducible first | exact HI462.out | apply IsS113.alloc | apply IsS113.drewN | apply IsS113.drew | apply IsS113.set_1 | apply IsS113.set_2) | exact HI462.out)⟩, ⟨b1 (IsS113.ge HI462.out)⟩⟩
  ·rw [if_neg c12] at H
   have c12b0 : (t472 == 0) = false := beq_eq_false_iff_ne.mpr c12
   have c12b1 : (t472 != 0) = true := bne_iff_ne.mpr c12
   (first | rw [c12b0] | (simp only [i64_w, i32_w]; rw [c12b0]) | skip)
   by_cases c15 : t472 = 1
   ·rw [if_pos c15] at H
    have c15b0 : (t472 == 1) = true := beq_iff_eq.mpr c15
    have c15b1 : (t472 != 1) = false := bne_eq_false_iff_eq.mpr c15
    clear c15
    replace H := Option.bind_eq_some_iff.mp H
    obtain ⟨⟨t481, t482, t483⟩, A160, H⟩ := H
    (try dsimp -simprocs only at H)
    have A16 := am A160
    clear A160
    replace H := Option.bind_eq_some_iff.mp H
    obtain ⟨⟨t484, t485, t486, t489, t492, t493⟩, A170, H⟩ := H
    (try dsimp -simprocs only at H)
    have A17 := am A170
    clear A170
    by_cases c18 : 0 ≤ t481
    ·rw [if_pos c18] at H
     have c18b0 : decide (0 ≤ t481) = true := decide_eq_true c18
     clear c18
     by_cases c19 : t481 < (t469.length : Int)
     ·rw [if_pos c19] at H
      have c19b0 : decide (t481 < (t469.length : Int)) = true := decide_eq_true c19
      clear c19
      obtain ⟨y494, hy494⟩ : ∃ y_ : List (List Int), y_ = (t469.set (t481 : Int).toNat t486) := ⟨_, rfl⟩
      replace H : (spec_DrawFromLeaves.j0 k t463 t464 y494 t459 t492 t493) = some (r1, r2, r3) := by first | (rw [hy494]; exact H) | exact H
      have Ny494 := am hy494
      clear hy494
      have H' := am H
      clear H
      go_wp2_with (first | ((with_reducible refine gate_callee (f := 53) rfl ?_); refine goesL_ (some 33) rfl rfl Try.func53 (by kernel_rfl) rfl #[.pointer (some ⟨g462, 0, none⟩), .int .i64 (t464.length : Int)] rfl av ?_; (with_reducible refine (spec_l1Below.calls g462 t459 t473 t474 (t464.length : Int) t481 t482 t483 w _ ?side1 ?side2 A16.out).mono ?_); (case side1 => repeat (first | (with_reducible first | exact HI462.out | apply IsS113.alloc | apply IsS113.drewN | apply IsS113.drew | apply IsS113.set_1 | apply IsS113.set_2) | exact HI462.out)); (case side2 => exact b1 (IsS113.ge HI462.out)); rintro e w21 ⟨rfl, hi, hb, hk⟩; refine ⟨_, rfl, ?_⟩; replace HO466 := am (Kd.N_mono (Kd.N_keep (Kd.N_mono (ok := fun k_ => ((((w.heap.size ≤ k_)) ∧ k_ ≠ g462) ∧ some k_ ≠ (v470 : Value).ownBlock)) (mv HO466.out) (fun k_ hk_ => (⟨hk_, hk_.1.2⟩ : _ ∧ k_ ≠ g462))) hk (fun _ h => h.2)) (fun _ h => h.1)); replace HO471 := am (Kd.N_mono (Kd.N_keep (Kd.N_mono (ok := fun k_ => (((w.heap.size ≤ k_)) ∧ (some k_ ≠ (.slice Ao9 t464.length co9 : Value).ownBlock ∧ k_ ≠ g462))) (mv HO471.out) (fun k_ hk_ => (⟨hk_, hk_.2.2⟩ : _ ∧ k_ ≠ g462))) hk (fun _ h => h.2)) (fun _ h => h.1)); replace HB := am (hb); replace HI462 := am (hi); (try clear hb); (try clear hb2); (try clear hk); (try clear hi)) | ((with_reducible refine gate_callee (f := 63) rfl ?_); refine goesL_ (some 40) rfl rfl Try.func63 (by kernel_rfl) rfl #[.pointer (some ⟨g462, 0, none⟩), .int .i64 t463, .slice Ao9 t464.length co9, .int .i64 t481] rfl av ?_; (with_reducible refine (spec_l3Forge.calls k g462 t459 t482 t483 t463 _ _ t464 t481 t484 t485 t486 t489 t492 t493 w _ ?side1 ?side2 ?side3 ?side4 A17.out).mono ?_); (case side1 => repeat (first | (with_reducible first | exact HI462.out | apply IsS113.alloc | apply IsS113.drewN | apply IsS113.drew | apply IsS113.set_1 | apply IsS113.set_2) | exact HI462.out)); (case side2 => exact b1 (IsS113.ge HI462.out)); (case side3 => exact Kd.C_foot_ownV (base := 0) (Kd.N_V (Kd.N_mono (ok := fun k_ => ((((w.heap.size ≤ k_)) ∧ k_ ≠ g462) ∧ some k_ ≠ (v470 : Value).ownBlock)) (mv HO466.out) (fun k_ hk_ => (⟨hk_, hk_.1.2⟩ : _ ∧ k_ ≠ g462)))) (fun _ h_ => h_.2)); (case side4 => exact (Kd.N_reads' HO466.out).2.1); rintro e w22 ⟨v487, v490, rfl, ho0, ho1, hi, hb, hk⟩; refine ⟨_, rfl, ?_⟩; obtain ⟨Av487, cv487, rfl⟩ := Kd.R_slice ho0; obtain ⟨Av490, cv490, rfl⟩ := Kd.R_slice ho1; replace HO466 := am (Kd.N_mono (Kd.N_told (Kd.N_told (Kd.N_oldK (Kd.N_mono (ok := fun k_ => ((((w.heap.size ≤ k_)) ∧ k_ ≠ g462) ∧ some k_ ≠ (v470 : Value).ownBlock)) (mv HO466.out) (fun k_ hk_ => (⟨hk_, hk_.1.2⟩ : _ ∧ k_ ≠ g462))) hk) (Kd.R_base ho0)) (Kd.R_base ho1)) (fun _ h_ => h_.1)); replace HO471 := am (Kd.N_mono (Kd.N_told (Kd.N_told (Kd.N_oldK (Kd.N_mono (ok := fun k_ => (((w.heap.size ≤ k_)) ∧ (some k_ ≠ (.slice Ao9 t464.length co9 : Value).ownBlock ∧ k_ ≠ g462))) (mv HO471.out) (fun k_ hk_ => (⟨hk_, hk_.2.2⟩ : _ ∧ k_ ≠ g462))) hk) (Kd.R_base ho0)) (Kd.R_base ho1)) (fun _ h_ => h_.1)); have HO488 := am (Kd.R_lower (Kd.R_newM (M := fun k_ => (w.heap.size ≤ k_)) ho0 (below_size (b1 (IsS113.ge HI462.out))) (fun k_ h_ => h_)) (below_size (b1 (IsS113.ge HI462.out)))); have HO491 := am (Kd.R_lower (Kd.R_newM (M := fun k_ => (w.heap.size ≤ k_)) ho1 (below_size (b1 (IsS113.ge HI462.out))) (fun k_ h_ => h_)) (below_size (b1 (IsS113.ge HI462.out)))); replace HB := am (hb); replace HI462 := am (hi); (try clear hb); (try clear hb2); (try clear hk); (try clear hi); (try clear ho0); (try clear ho1); have p20 : 0 ≤ (t481 : Int) := of_decide_eq_true asm; have q20 : (t481 : Int) < ((t469.length : Int) : Int) := of_decide_eq_true asm; obtain ⟨go20, co20, eo20, gb20, gl20, cl20, HG20⟩ := Kd.N_form HO471.out (by omega); (first | cases eo20 | (injection eo20 with ea_ en_ ec_; (first | subst ea_ | (injection ea_ with ea_; subst ea_)); subst ec_; clear en_)); have GB20 := am gb20; have GG20 := am HG20; clear gb20 gl20 HG20; obtain ⟨ce20, hcl20, hM20, hcc20, hfr20⟩ := Kd.N_elem HO471.out [] (t481 : Int) p20 q20; obtain ⟨ua20_0, uc20_0, rfl, ul20_0, ge20_0⟩ := Kd.FK_slice_open hM20; have hx20_0 := hcc20 0 _ rfl; have hf20_0 := hfr20 0; (try simp only [show ((Kd.slice 5 (Kd.int .u8))).sz = 1 from rfl, Nat.mul_one, Nat.add_zero] at hx20_0); (try simp only [show ((Kd.slice 5 (Kd.int .u8))).sz = 1 from rfl, Nat.mul_one, Nat.add_zero] at hf20_0); clear hcl20 hcc20 hfr20; (try clear hM20); replace p20 := eq_true p20; replace q20 := eq_true q20; have n_ := am (Kd.N_mono (ok' := (fun k_ => (w.heap.size ≤ k_) ∧ some k_ ≠ (.slice Ao9 t464.length co9 : Value).ownBlock ∧ some k_ ≠ ((.slice Av487 t486.length cv487) : Value).ownBlock ∧ some k_ ≠ ((.slice Av490 t489.length cv490) : Value).ownBlock ∧ k_ ≠ g462)) HO471.out (fun k_ hk => ⟨hk.1.1.1, ⟨hk.1.1.2.1, ⟨hk.1.2, ⟨hk.2, hk.1.1.2.2⟩⟩⟩⟩)); clear HO471; have HO471 := n_; clear n_; have HX23 := am (show Kd.N (Kd.slice 5 (Kd.int .u8)) 22 w22 w.heap.size (fun k_ => (w.heap.size ≤ k_) ∧ some k_ ≠ (.slice Ao9 t464.length co9 : Value).ownBlock ∧ some k_ ≠ ((.slice Av490 t489.length cv490) : Value).ownBlock ∧ k_ ≠ g462) (.slice (some ⟨go20, 0, none⟩) t469.length co20) t469 from (by (with_reducible repeat (first | apply Kd.N_alloc | apply Kd.N_drewN | apply Kd.N_drew)); exact Kd.N_mono HO471.out (fun _ hk => ⟨hk.1, ⟨hk.2.1, ⟨hk.2.2.2.1, hk.2.2.2.2⟩⟩⟩))); obtain ⟨ce23, hcl23, hM23, hcc23, hfr23⟩ := Kd.N_elem HX23.out [] (t481 : Int) (of_decide_eq_true asm) (by have h_ : (t481 : Int) < ((t469.length : Int) : Int) := of_decide_eq_true asm; first | exact h_ | (have e_ := (Kd.N_reads' HO471.out).1; omega) | simpa using h_); obtain ⟨ua23_0, uc23_0, rfl, ul23_0, ge23_0⟩ := Kd.FK_slice_open hM23; have xa0_0 := Kd.R_apart' (HO488.out) (Kd.N_typed HO466.out) (by decide); have xa0_1 := Kd.R_apart' xa0_0 (Kd.R_typed HO491.out) (by decide); have xa0_2 := Kd.R_apart' xa0_1 (Kd.N_typed HO471.out) (by decide); have xb0 := IsS113.apart HI462.out xa0_2 (by decide); have HP23 := Kd.N_seg HX23.out (t481 : Int) (of_decide_eq_true asm) (by have h_ : (t481 : Int) < ((t469.length : Int) : Int) := of_decide_eq_true asm; first | exact h_ | (have e_ := (Kd.N_reads' HO471.out).1; omega) | simpa using h_) (seg := [(.slice Av487 t486.length cv487)]) (j := 0) hcl23 hcc23 (show 1 ≤ 1 from by decide) (x' := t486) (fk_of_R (Kd.R_mono (ok' := (fun k_ => ((fun k_ => (w.heap.size ≤ k_) ∧ some k_ ≠ (.slice Ao9 t464.length co9 : Value).ownBlock ∧ some k_ ≠ ((.slice Av490 t489.length cv490) : Value).ownBlock ∧ k_ ≠ g462)) k_ ∧ k_ ≠ go20)) xb0 (fun k_ hk => ⟨⟨hk.1.1.1.1.1, ⟨hk.1.1.1.2, ⟨hk.1.1.2, hk.2⟩⟩⟩, fun e_ => (hk.1.2) (by rw [e_]; rfl)⟩))) (fun _ hk => hk); clear xa0_0 xa0_1 xa0_2 xb0; have hx23_0 := hcc23 0 _ rfl; (try simp only [show ((Kd.slice 5 (Kd.int .u8))).sz = 1 from rfl, Nat.mul_one, Nat.add_zero] at hx23_0); have hf23_0 := hfr23 0; (try simp only [show ((Kd.slice 5 (Kd.int .u8))).sz = 1 from rfl, Nat.mul_one, Nat.add_zero] at hf23_0); clear hcl23 hcc23 hfr23; (try clear hM23); (try simp only [show ((Kd.slice 5 (Kd.int .u8))).sz = 1 from rfl, Nat.mul_one, Nat.add_zero] at HP23); (try simp only [show ((Kd.slice 5 (Kd.int .u8))).sz = 1 from rfl, Nat.mul_one, Nat.add_zero] at HP23)) | ((with_reducible refine gate_store (t := 22) (p := 42) rfl ?_); refine store_event (t := 22) (p := 42) (v := ?vo_w24) (w1 := (w22.setCell ⟨go20, (t481 : Int).toNat, none⟩ ((.slice Av487 t486.length cv487)))) ?hg ?ho ?hn ?hr ?_; (case ho => rfl); (case hg => rfl); (case hn => rfl); (case hr => first | (go_simp; done) | (go_simp; rfl)); intro w24 hw; have hg : w22.grownBy w24 (some go20) := (by rw [hw]; exact HP23.2); have hp_ : Kd.N (Kd.slice 5 (Kd.int .u8)) 22 w24 w.heap.size (fun k_ => (w.heap.size ≤ k_) ∧ some k_ ≠ (.slice Ao9 t464.length co9 : Value).ownBlock ∧ some k_ ≠ ((.slice Av490 t489.length cv490) : Value).ownBlock ∧ k_ ≠ g462) (.slice (some ⟨go20, 0, none⟩) t469.length co20) y494 := (by rw [hw, Ny494.out]; exact HP23.1); clear HP23; replace HI462 := am (IsS113.grown (by repeat (first | (with_reducible first | exact HI462.out | apply IsS113.alloc | apply IsS113.drewN | apply IsS113.drew | apply IsS113.set_1 | apply IsS113.set_2) | exact HI462.out)) hg (IsS113.own_neN HI462.out HO471.out (by decide))); replace HO466 := am (Kd.N_afterv (v := (.slice (some ⟨go20, 0, none⟩) t469.length co20)) (v1 := (.slice (some ⟨go20, 0, none⟩) t469.length co20)) (ok := (fun k_ => (w.heap.size ≤ k_) ∧ some k_ ≠ ((.slice Av487 t486.length cv487) : Value).ownBlock ∧ some k_ ≠ ((.slice Av490 t489.length cv490) : Value).ownBlock ∧ k_ ≠ g462)) (by (with_reducible repeat (first | apply Kd.N_alloc | apply Kd.N_drewN | apply Kd.N_drew)); exact Kd.N_mono HO466.out (fun _ hk => ⟨⟨hk.1.1.1.1, ⟨hk.1.2, ⟨hk.2, hk.1.1.1.2⟩⟩⟩, hk.1.1.2⟩)) hg (.inl rfl)); replace HO491 := am (Kd.R_over' (v := (.slice (some ⟨go20, 0, none⟩) t469.length co20)) (mv HO491.out) (Kd.N_typed HO471.out) (by decide) hg); replace HO471 := am (hp_); replace HB := am ((by rw [hw]; exact below_set (HB.out) GB20.out : Below w.heap.size w w24)); clear HO488; clear hg hw hp_))
      go_meet
      case rel => exact ⟨_, (t464), (y494), (t492), (t493), H', ⟨by first | omega | exact Nat.le_refl _⟩, ⟨by (with_reducible repeat (first | apply Kd.N_alloc | apply Kd.N_drewN | apply Kd.N_drew)); exact Kd.N_mono HO466.out (fun _ hk => ⟨hk.1.1, ⟨hk.2, hk.1.2.2.2⟩⟩)⟩, ⟨by (with_reducible repeat (first | apply Kd.N_alloc | apply Kd.N_drewN | apply Kd.N_drew)); exact Kd.N_mono HO471.out (fun _ hk => ⟨hk.1, ⟨hk.2.1, hk.2.2.2⟩⟩)⟩, ⟨by repeat (first | (with_reducible first | exact HI462.out | apply IsS113.alloc | apply IsS113.drewN | apply IsS113.drew | apply IsS113.set_1 | apply IsS113.set_2) | exact HI462.out)⟩, ⟨b1 (IsS113.ge HI462.out)⟩⟩
     ·rw [if_neg c19] at H
      exact absurd H (by simp)
    ·rw [if_neg c18] at H
     exact absurd H (by simp)
   ·rw [if_neg c15] at H
    have c15b0 : (t472 == 1) = false := beq_eq_false_iff_ne.mpr c15
    have c15b1 : (t472 != 1) = true := bne_iff_ne.mpr c15
    by_cases c25 : t472 = 2
    ·rw [if_pos c25] at H
     have c25b0 : (t472 == 2) = true := beq_iff_eq.mpr c25
     have c25b1 : (t472 != 2) = false := bne_eq_false_iff_eq.mpr c25
     clear c25
     replace H := Option.bind_eq_some_iff.mp H
     obtain ⟨⟨t495, t496, t497⟩, A260, H⟩ := H
     (try dsimp -simprocs only at H)
     have A26 := am A260
     clear A260
     replace H := Option.bind_eq_some_iff.mp H
     obtain ⟨⟨t498, t501, t502⟩, A270, H⟩ := H
     (try dsimp -simprocs only at H)
     have A27 := am A270
     clear A270
     by_cases c28 : 0 ≤ t495
     ·rw [if_pos c28] at H
      have c28b0 : decide (0 ≤ t495) = true := decide_eq_true c28
      clear c28
      by_cases c29 : t495 < (t469.length : Int)
      ·rw [if_pos c29] at H
       have c29b0 : decide (t495 < (t469.length : Int)) = true := decide_eq_true c29
       clear c29
       obtain ⟨y503, hy503⟩ : ∃ y_ : List (List Int), y_ = (t469.set (t495 : Int).toNat t498) := ⟨_, rfl⟩
       replace H : (spec_DrawFromLeaves.j0 k t463 t464 y503 t459 t501 t502) = some (r1, r2, r3) := by first | (rw [hy503]; exact H) | exact H
       have Ny503 := am hy503
       clear hy503
       have H' := am H
       clear H
       obtain ⟨Ao31, co31, eo31⟩ := Kd.N_slice HO471.out
       subst eo31
       go_wp2_with (first | ((with_reducible refine gate_callee (f := 53) rfl ?_); refine goesL_ (some 49) rfl rfl Try.func53 (by kernel_rfl) rfl #[.pointer (some ⟨g462, 0, none⟩), .int .i64 (t469.length : Int)] rfl av ?_; (with_reducible refine (spec_l1Below.calls g462 t459 t473 t474 (t469.length : Int) t495 t496 t497 w _ ?side1 ?side2 A26.out).mono ?_); (case side1 => repeat (first | (with_reducible first | exact HI462.out | apply IsS113.alloc | apply IsS113.drewN | apply IsS113.drew | apply IsS113.set_1 | apply IsS113.set_2) | exact HI462.out)); (case side2 => exact b1 (IsS113.ge HI462.out)); rintro e w32 ⟨rfl, hi, hb, hk⟩; refine ⟨_, rfl, ?_⟩; replace HO466 := am (Kd.N_mono (Kd.N_keep (Kd.N_mono (ok := fun k_ => ((((w.heap.size ≤ k_)) ∧ k_ ≠ g462) ∧ some k_ ≠ (.slice Ao31 t469.length co31 : Value).ownBlock)) (mv HO466.out) (fun k_ hk_ => (⟨hk_, hk_.1.2⟩ : _ ∧ k_ ≠ g462))) hk (fun _ h => h.2)) (fun _ h => h.1)); replace HO471 := am (Kd.N_mono (Kd.N_keep (Kd.N_mono (ok := fun k_ => (((w.heap.size ≤ k_)) ∧ (some k_ ≠ (.slice Ao9 t464.length co9 : Value).ownBlock ∧ k_ ≠ g462))) (mv HO471.out) (fun k_ hk_ => (⟨hk_, hk_.2.2⟩ : _ ∧ k_ ≠ g462))) hk (fun _ h => h.2)) (fun _ h => h.1)); replace HB := am (hb); replace HI462 := am (hi); (try clear hb); (try clear hb2); (try clear hk); (try clear hi)) | ((with_reducible refine gate_callee (f := 64) rfl ?_); refine goesL_ (some 51) rfl rfl Try.func64 (by kernel_rfl) rfl #[.pointer (some ⟨g462, 0, none⟩), .int .i64 4] rfl av ?_; (with_reducible refine (spec_l1DrawData.calls k g462 t459 t496 t497 4 t498 t501 t502 w _ ?side1 ?side2 A27.out).mono ?_); (case side1 => repeat (first | (with_reducible first | exact HI462.out | apply IsS113.alloc | apply IsS113.drewN | apply IsS113.drew | apply IsS113.set_1 | apply IsS113.set_2) | exact HI462.out)); (case side2 => exact b1 (IsS113.ge HI462.out)); rintro e w33 ⟨v499, rfl, ho0, hi, hb, hk⟩; refine ⟨_, rfl, ?_⟩; obtain ⟨Av499, cv499, rfl⟩ := Kd.R_slice ho0; replace HO466 := am (Kd.N_mono (Kd.N_told (Kd.N_oldK (Kd.N_mono (ok := fun k_ => ((((w.heap.size ≤ k_)) ∧ k_ ≠ g462) ∧ some k_ ≠ (.slice Ao31 t469.length co31 : Value).ownBlock)) (mv HO466.out) (fun k_ hk_ => (⟨hk_, hk_.1.2⟩ : _ ∧ k_ ≠ g462))) hk) (Kd.R_base ho0)) (fun _ h_ => h_.1)); replace HO471 := am (Kd.N_mono (Kd.N_told (Kd.N_oldK (Kd.N_mono (ok := fun k_ => (((w.heap.size ≤ k_)) ∧ (some k_ ≠ (.slice Ao9 t464.length co9 : Value).ownBlock ∧ k_ ≠ g462))) (mv HO471.out) (fun k_ hk_ => (⟨hk_, hk_.2.2⟩ : _ ∧ k_ ≠ g462))) hk) (Kd.R_base ho0)) (fun _ h_ => h_.1)); have HO500 := am (Kd.R_lower (Kd.R_newM (M := fun k_ => (w.heap.size ≤ k_)) ho0 (below_size (b1 (IsS113.ge HI462.out))) (fun k_ h_ => h_)) (below_size (b1 (IsS113.ge HI462.out)))); replace HB := am (hb); replace HI462 := am (hi); (try clear hb); (try clear hb2); (try clear hk); (try clear hi); (try clear ho0); have p30 : 0 ≤ (t495 : Int) := of_decide_eq_true asm; have q30 : (t495 : Int) < ((t469.length : Int) : Int) := of_decide_eq_true asm; obtain ⟨go30, co30, eo30, gb30, gl30, cl30, HG30⟩ := Kd.N_form HO471.out (by omega); (first | cases eo30 | (injection eo30 with ea_ en_ ec_; (first | subst ea_ | (injection ea_ with ea_; subst ea_)); subst ec_; clear en_)); have GB30 := am gb30; have GG30 := am HG30; clear gb30 gl30 HG30; obtain ⟨ce30, hcl30, hM30, hcc30, hfr30⟩ := Kd.N_elem HO471.out [] (t495 : Int) p30 q30; obtain ⟨ua30_0, uc30_0, rfl, ul30_0, ge30_0⟩ := Kd.FK_slice_open hM30; have hx30_0 := hcc30 0 _ rfl; have hf30_0 := hfr30 0; (try simp only [show ((Kd.slice 5 (Kd.int .u8))).sz = 1 from rfl, Nat.mul_one, Nat.add_zero] at hx30_0); (try simp only [show ((Kd.slice 5 (Kd.int .u8))).sz = 1 from rfl, Nat.mul_one, Nat.add_zero] at hf30_0); clear hcl30 hcc30 hfr30; (try clear hM30); replace p30 := eq_true p30; replace q30 := eq_true q30; have n_ := am (Kd.N_mono (ok' := (fun k_ => (w.heap.size ≤ k_) ∧ some k_ ≠ (.slice Ao9 t464.length co9 : Value).ownBlock ∧ some k_ ≠ ((.slice Av499 t498.length cv499) : Value).ownBlock ∧ k_ ≠ g462)) HO471.out (fun k_ hk => ⟨hk.1.1, ⟨hk.1.2.1, ⟨hk.2, hk.1.2.2⟩⟩⟩)); clear HO471; have HO471 := n_; clear n_; have HX34 := am (show Kd.N (Kd.slice 5 (Kd.int .u8)) 22 w33 w.heap.size (fun k_ => (w.heap.size ≤ k_) ∧ some k_ ≠ (.slice Ao9 t464.length co9 : Value).ownBlock ∧ k_ ≠ g462) (.slice (some ⟨go30, 0, none⟩) t469.length co31) t469 from (by (with_reducible repeat (first | apply Kd.N_alloc | apply Kd.N_drewN | apply Kd.N_drew)); exact Kd.N_mono HO471.out (fun _ hk => ⟨hk.1, ⟨hk.2.1, hk.2.2.2⟩⟩))); obtain ⟨ce34, hcl34, hM34, hcc34, hfr34⟩ := Kd.N_elem HX34.out [] (t495 : Int) (of_decide_eq_true asm) (by have h_ : (t495 : Int) < ((t469.length : Int) : Int) := of_decide_eq_true asm; first | exact h_ | (have e_ := (Kd.N_reads' HO471.out).1; omega) | simpa using h_); obtain ⟨ua34_0, uc34_0, rfl, ul34_0, ge34_0⟩ := Kd.FK_slice_open hM34; have xa1_0 := Kd.R_apart' (HO500.out) (Kd.N_typed HO466.out) (by decide); have xa1_1 := Kd.R_apart' xa1_0 (Kd.N_typed HO471.out) (by decide); have xb1 := IsS113.apart HI462.out xa1_1 (by decide); have HP34 := Kd.N_seg HX34.out (t495 : Int) (of_decide_eq_true asm) (by have h_ : (t495 : Int) < ((t469.length : Int) : Int) := of_decide_eq_true asm; first | exact h_ | (have e_ := (Kd.N_reads' HO471.out).1; omega) | simpa using h_) (seg := [(.slice Av499 t498.length cv499)]) (j := 0) hcl34 hcc34 (show 1 ≤ 1 from by decide) (x' := t498) (fk_of_R (Kd.R_mono (ok' := (fun k_ => ((fun k_ => (w.heap.size ≤ k_) ∧ some k_ ≠ (.slice Ao9 t464.length co9 : Value).ownBlock ∧ k_ ≠ g462)) k_ ∧ k_ ≠ go30)) xb1 (fun k_ hk => ⟨⟨hk.1.1.1.1, ⟨hk.1.1.2, hk.2⟩⟩, fun e_ => (hk.1.2) (by rw [e_]; rfl)⟩))) (fun _ hk => hk); clear xa1_0 xa1_1 xb1; have hx34_0 := hcc34 0 _ rfl; (try simp only [show ((Kd.slice 5 (Kd.int .u8))).sz = 1 from rfl, Nat.mul_one, Nat.add_zero] at hx34_0); have hf34_0 := hfr34 0; (try simp only [show ((Kd.slice 5 (Kd.int .u8))).sz = 1 from rfl, Nat.mul_one, Nat.add_zero] at hf34_0); clear hcl34 hcc34 hfr34; (try clear hM34); (try simp only [show ((Kd.slice 5 (Kd.int .u8))).sz = 1 from rfl, Nat.mul_one, Nat.add_zero] at HP34); (try simp only [show ((Kd.slice 5 (Kd.int .u8))).sz = 1 from rfl, Nat.mul_one, Nat.add_zero] at HP34)) | ((with_reducible refine gate_store (t := 22) (p := 52) rfl ?_); refine store_event (t := 22) (p := 52) (v := ?vo_w35) (w1 := (w33.setCell ⟨go30, (t495 : Int).toNat, none⟩ ((.slice Av499 t498.length cv499)))) ?hg ?ho ?hn ?hr ?_; (case ho => rfl); (case hg => rfl); (case hn => rfl); (case hr => first | (go_simp; done) | (go_simp; rfl)); intro w35 hw; have hg : w33.grownBy w35 (some go30) := (by rw [hw]; exact HP34.2); have hp_ : Kd.N (Kd.slice 5 (Kd.int .u8)) 22 w35 w.heap.size (fun k_ => (w.heap.size ≤ k_) ∧ some k_ ≠ (.slice Ao9 t464.length co9 : Value).ownBlock ∧ k_ ≠ g462) (.slice (some ⟨go30, 0, none⟩) t469.length co31) y503 := (by rw [hw, Ny503.out]; exact HP34.1); clear HP34; replace HI462 := am (IsS113.grown (by repeat (first | (with_reducible first | exact HI462.out | apply IsS113.alloc | apply IsS113.drewN | apply IsS113.drew | apply IsS113.set_1 | apply IsS113.set_2) | exact HI462.out)) hg (IsS113.own_neN HI462.out HO471.out (by decide))); replace HO466 := am (Kd.N_afterv (v := (.slice (some ⟨go30, 0, none⟩) t469.length co31)) (v1 := (.slice (some ⟨go30, 0, none⟩) t469.length co31)) (ok := (fun k_ => (w.heap.size ≤ k_) ∧ some k_ ≠ ((.slice Av499 t498.length cv499) : Value).ownBlock ∧ k_ ≠ g462)) (by (with_reducible repeat (first | apply Kd.N_alloc | apply Kd.N_drewN | apply Kd.N_drew)); exact Kd.N_mono HO466.out (fun _ hk => ⟨⟨hk.1.1.1, ⟨hk.2, hk.1.1.2⟩⟩, hk.1.2⟩)) hg (.inl rfl)); replace HO471 := am (hp_); replace HB := am ((by rw [hw]; exact below_set (HB.out) GB30.out : Below w.heap.size w w35)); clear HO500; clear hg hw hp_))
       go_meet
       case rel => exact ⟨_, (t464), (y503), (t501), (t502), H', ⟨by first | omega | exact Nat.le_refl _⟩, ⟨by (with_reducible repeat (first | apply Kd.N_alloc | apply Kd.N_drewN | apply Kd.N_drew)); exact Kd.N_mono HO466.out (fun _ hk => ⟨hk.1.1, ⟨hk.2, hk.1.2.2⟩⟩)⟩, ⟨mv HO471.out⟩, ⟨by repeat (first | (with_reducible first | exact HI462.out | apply IsS113.alloc | apply IsS113.drewN | apply IsS113.drew | apply IsS113.set_1 | apply IsS113.set_2) | exact HI462.out)⟩, ⟨b1 (IsS113.ge HI462.out)⟩⟩
      ·rw [if_neg c29] at H
       exact absurd H (by simp)
     ·rw [if_neg c28] at H
      exact absurd H (by simp)
    ·rw [if_neg c25] at H
     have c25b0 : (t472 == 2) = false := beq_eq_false_iff_ne.mpr c25
     have c25b1 : (t472 != 2) = true := bne_iff_ne.mpr c25
     have H' := am H
     clear H
     go_wp2
     go_meet
     case rel => exact ⟨_, (t464), (t469), (t473), (t474), H', ⟨by first | omega | exact Nat.le_refl _⟩, ⟨by (with_reducible repeat (first | apply Kd.N_alloc | apply Kd.N_drewN | apply Kd.N_drew)); exact Kd.N_mono HO466.out (fun _ hk => ⟨hk.1.1, ⟨hk.2, hk.1.2⟩⟩)⟩, ⟨mv HO471.out⟩, ⟨by repeat (first | (with_reducible first | exact HI462.out | apply IsS113.alloc | apply IsS113.drewN | apply IsS113.drew | apply IsS113.set_1 | apply IsS113.set_2) | exact HI462.out)⟩, ⟨b1 (IsS113.ge HI462.out)⟩⟩
 case rest =>
  clear HC6
  try clear c1
  try clear c2
  try clear p2
  try clear q2
  try clear hx2
  try clear hf2
  try clear c3
  try clear p3
  try clear q3
  try clear hx3
  try clear hf3
  try clear c5
  try clear c6
  try clear c12
  try clear c12b0
  try clear c12b1
  try clear c15
  try clear c15b0
  try clear c15b1
  try clear c17
  try clear c18
  try clear c18b0
  try clear c19
  try clear c19b0
  try clear c20
  try clear p20
  try clear q20
  try clear hx20
  try clear hf20
  try clear c23
  try clear hx23
  try clear hf23
  try clear c25
  try clear c25b0
  try clear c25b1
  try clear c28
  try clear c28b0
  try clear c29
  try clear c29b0
  try clear c30
  try clear p30
  try clear q30
  try clear hx30
  try clear hf30
  try clear c34
  try clear hx34
  try clear hf34
  try clear hx20_0
  try clear hx23_0
  try clear hx30_0
  try clear hx34_0
  try clear p20
  try clear p30
  try clear q20
  try clear q30
  obtain ⟨kq, x7_5, x8_5, x463001_5, x463002_5, HA, HJ5, HO_7, HO_8, HI462, HB⟩ := hcut
  have hl7_5 := (Kd.N_reads' HO_7.out).1
  rw [hl7_5] at HO_7
  (try simp only [hl7_5])
  (try simp only [hl7_5] at HO_8)
  cases kq with
  | zero => exact absurd HA.out (by simp [spec_DrawFromLeaves.j0])
  | succ kj5 =>
   have H := HA.out
   clear HA
   simp only [spec_DrawFromLeaves.j0] at H
   replace H := Option.bind_eq_some_iff.mp H
   obtain ⟨⟨t504, t505, t506⟩, A360, H⟩ := H
   (try dsimp -simprocs only at H)
   have A36 := am A360
   clear A360
   by_cases c37 : t504 = true
   ·subst c37
    rw [if_pos rfl] at H
    replace H := Option.bind_eq_some_iff.mp H
    obtain ⟨⟨t507, t508, t509⟩, A380, H⟩ := H
    (try dsimp -simprocs only at H)
    have A38 := am A380
    clear A380
    simp only [Option.some.injEq, Prod.mk.injEq] at H
    obtain ⟨rfl, rfl, rfl⟩ := H
    go_wp2_with (first | ((with_reducible refine gate_callee (f := 65) rfl ?_); refine goesL_ (some 54) rfl rfl Try.func65 (by kernel_rfl) rfl #[.pointer (some ⟨g462, 0, none⟩), .int .i64 20] rfl av ?_; (with_reducible refine (spec_l1Once.calls g462 t459 x463001_5 x463002_5 20 true t505 t506 w _ ?side1 ?side2 A36.out).mono ?_); (case side1 => repeat (first | (with_reducible first | exact HI462.out | apply IsS113.alloc | apply IsS113.drewN | apply IsS113.drew | apply IsS113.set_1 | apply IsS113.set_2) | exact HI462.out)); (case side2 => exact b1 (IsS113.ge HI462.out)); rintro e w39 ⟨rfl, hi, hb, hk⟩; refine ⟨_, rfl, ?_⟩; replace HO_7 := am (Kd.N_mono (Kd.N_keep (Kd.N_mono (ok := fun k_ => (((w.heap.size ≤ k_)) ∧ (some k_ ≠ (u8 : Value).ownBlock ∧ k_ ≠ g462))) (mv HO_7.out) (fun k_ hk_ => (⟨hk_, hk_.2.2⟩ : _ ∧ k_ ≠ g462))) hk (fun _ h => h.2)) (fun _ h => h.1)); replace HO_8 := am (Kd.N_mono (Kd.N_keep (Kd.N_mono (ok := fun k_ => (((w.heap.size ≤ k_)) ∧ (some k_ ≠ (.slice Ao9 x7_5.length co9 : Value).ownBlock ∧ k_ ≠ g462))) (mv HO_8.out) (fun k_ hk_ => (⟨hk_, hk_.2.2⟩ : _ ∧ k_ ≠ g462))) hk (fun _ h => h.2)) (fun _ h => h.1)); replace HB := am (hb); replace HI462 := am (hi); (try clear hb); (try clear hb2); (try clear hk); (try clear hi)) | ((with_reducible refine gate_callee (f := 66) rfl ?_); refine goesL_ (some 56) rfl rfl Try.func66 (by kernel_rfl) rfl #[.pointer (some ⟨g462, 0, none⟩)] rfl av ?_; (with_reducible refine (spec_l1DrawBits.calls g462 t459 t505 t506 t507 t508 t509 w _ ?side1 ?side2 A38.out).mono ?_); (case side1 => repeat (first | (with_reducible first | exact HI462.out | apply IsS113.alloc | apply IsS113.drewN | apply IsS113.drew | apply IsS113.set_1 | apply IsS113.set_2) | exact HI462.out)); (case side2 => exact b1 (IsS113.ge HI462.out)); rintro e w40 ⟨rfl, hi, hb, hk⟩; refine ⟨_, rfl, ?_⟩; replace HO_7 := am (Kd.N_mono (Kd.N_keep (Kd.N_mono (ok := fun k_ => (((w.heap.size ≤ k_)) ∧ (some k_ ≠ (u8 : Value).ownBlock ∧ k_ ≠ g462))) (mv HO_7.out) (fun k_ hk_ => (⟨hk_, hk_.2.2⟩ : _ ∧ k_ ≠ g462))) hk (fun _ h => h.2)) (fun _ h => h.1)); replace HO_8 := am (Kd.N_mono (Kd.N_keep (Kd.N_mono (ok := fun k_ => (((w.heap.size ≤ k_)) ∧ (some k_ ≠ (.slice Ao9 x7_5.length co9 : Value).ownBlock ∧ k_ ≠ g462))) (mv HO_8.out) (fun k_ hk_ => (⟨hk_, hk_.2.2⟩ : _ ∧ k_ ≠ g462))) hk (fun _ h => h.2)) (fun _ h => h.1)); replace HB := am (hb); replace HI462 := am (hi); (try clear hb); (try clear hb2); (try clear hk); (try clear hi)))
    go_ret3
    exact ⟨_, _, by first | rfl | (simp [errW_none, errW_some] <;> rfl) | (simp [*, errW_none, errW_some] <;> rfl), by (with_reducible repeat (first | apply Kd.N_alloc | apply Kd.N_drewN | apply Kd.N_drew)); exact Kd.N_mono HO_7.out (fun _ hk => ⟨hk.1, hk.2.1⟩), by (with_reducible repeat (first | apply Kd.N_alloc | apply Kd.N_drewN | apply Kd.N_drew)); exact Kd.N_mono HO_8.out (fun _ hk => ⟨hk.1, hk.2.1⟩), b1 (IsS113.ge HI462.out)⟩
   ·replace c37 := Bool.eq_false_iff.mpr c37
    subst c37
    rw [if_neg (show ¬ (false = true) by decide)] at H
    simp only [Option.some.injEq, Prod.mk.injEq] at H
    obtain ⟨rfl, rfl, rfl⟩ := H
    go_wp2_with (first | ((with_reducible refine gate_callee (f := 65) rfl ?_); refine goesL_ (some 54) rfl rfl Try.func65 (by kernel_rfl) rfl #[.pointer (some ⟨g462, 0, none⟩), .int .i64 20] rfl av ?_; (with_reducible refine (spec_l1Once.calls g462 t459 x463001_5 x463002_5 20 false t505 t506 w _ ?side1 ?side2 A36.out).mono ?_); (case side1 => repeat (first | (with_reducible first | exact HI462.out | apply IsS113.alloc | apply IsS113.drewN | apply IsS113.drew | apply IsS113.set_1 | apply IsS113.set_2) | exact HI462.out)); (case side2 => exact b1 (IsS113.ge HI462.out)); rintro e w41 ⟨rfl, hi, hb, hk⟩; refine ⟨_, rfl, ?_⟩; replace HO_7 := am (Kd.N_mono (Kd.N_keep (Kd.N_mono (ok := fun k_ => (((w.heap.size ≤ k_)) ∧ (some k_ ≠ (u8 : Value).ownBlock ∧ k_ ≠ g462))) (mv HO_7.out) (fun k_ hk_ => (⟨hk_, hk_.2.2⟩ : _ ∧ k_ ≠ g462))) hk (fun _ h => h.2)) (fun _ h => h.1)); replace HO_8 := am (Kd.N_mono (Kd.N_keep (Kd.N_mono (ok := fun k_ => (((w.heap.size ≤ k_)) ∧ (some k_ ≠ (.slice Ao9 x7_5.length co9 : Value).ownBlock ∧ k_ ≠ g462))) (mv HO_8.out) (fun k_ hk_ => (⟨hk_, hk_.2.2⟩ : _ ∧ k_ ≠ g462))) hk (fun _ h => h.2)) (fun _ h => h.1)); replace HB := am (hb); replace HI462 := am (hi); (try clear hb); (try clear hb2); (try clear hk); (try clear hi)))
    go_ret3
    exact ⟨_, _, by first | rfl | (simp [errW_none, errW_some] <;> rfl) | (simp [*, errW_none, errW_some] <;> rfl), by (with_reducible repeat (first | apply Kd.N_alloc | apply Kd.N_drewN | apply Kd.N_drew)); exact Kd.N_mono HO_7.out (fun _ hk => ⟨hk.1, hk.2.1⟩), by (with_reducible repeat (first | apply Kd.N_alloc | apply Kd.N_drewN | apply Kd.N_drew)); exact Kd.N_mono HO_8.out (fun _ hk => ⟨hk.1, hk.2.1⟩), b1 (IsS113.ge HI462.out)⟩

/-! ### impl_digests: function 106 -/
/-- Is it a digest of so many bits. -/
def isDig (bits x : Int) : Bool := decide ((2 ≤ bits ∧ bits ≤ 60) ∧ 0 ≤ x ∧ x < 2 ^ bits.toNat)
def impl_digests.f (a0 : Int) (l1 : List Int) : Option (Bool) := if l1.all (fun x => (impl_isDigest.f a0 x).isSome) then some (l1.all fun x => (impl_isDigest.f a0 x).getD false) else none
/-- The first number that is no digest; -1: there is none. -/
def firstNot (a0 : Int) (l : List Int) (i : Nat) : Int := match l with
 | [] => -1
 | x :: l => if (impl_isDigest.f a0 x).getD false = true then firstNot a0 l (i + 1) else (i : Int)
theorem firstNot_all (a0 : Int) (l : List Int) : ∀ i : Nat, decide (0 ≤ firstNot a0 l i) = !(l.all fun x => (impl_isDigest.f a0 x).getD false) := by
 induction l with
 | nil => intro i; rfl
 | cons x l ih =>
  intro i
  unfold firstNot
  by_cases h : (impl_isDigest.f a0 x).getD false = true
  ·rw [if_pos h, ih (i + 1)]; simp [h]
  ·rw [if_neg h]; simp [h]
set_option maxHeartbeats 4000000 in
theorem digest_lit (a0 x : Int) (v : Bool) (B : Nat) (W : World) (hc : W.cell? ⟨B, 0, none⟩ = some (.int .i64 a0)) (h : impl_isDigest.f a0 x = some v) :
  Calls Try.prog 132 #[.int .i64 x, .pointer (some ⟨B, 0, none⟩)] W fun e w' => e = .returned (.bool (!v)) ∧ Drawn0 W w' := by
 have H := am h
 clear h
 go_enter Try.func132, Try.ntmps132
 go_wp2_with (go_at_call 133; refine (impl_isDigest.calls a0 x v _ H.out).mono ?_; rintro e w' ⟨rfl, ⟨nd, rfl⟩⟩)
 go_ret
 exact ⟨rfl, by repeat (first | exact Drawn0.refl _ | apply Drawn0.step)⟩
set_option maxHeartbeats 4000000 in
set_option maxRecDepth 100000 in
theorem digests_index (a0 : Int) (A1 : Option Addr) (c1 : Nat) (l1 : List Int) (B : Nat) (w : World) (hr1 : Kd.C (Kd.int .i64) w A1 l1.length l1) (hc : w.cell? ⟨B, 0, none⟩ = some (.int .i64 a0)) (h : ∀ x ∈ l1, ∃ v, impl_isDigest.f a0 x = some v) :
  Calls Try.prog 143 #[.slice A1 l1.length c1, .func (.func 132) #[] #[.pointer (some ⟨B, 0, none⟩)]] w fun e w' => e = .returned (.int .i64 (firstNot a0 l1 0)) ∧ Drawn0 w w' := by
 have HR := am hr1
 have HC := am hc
 have HH := am h
 clear hr1 hc h
 have eg := enters_of Try.func132 (by kernel_rfl) rfl
 go_enter Try.func143, Try.ntmps143
 go_wp2
 go_loopw [8] (fun i wr => ∃ k : Nat, i = .int .i64 k ∧ Aside0 (k ≤ l1.length) ∧ Aside0 (firstNot a0 (l1.drop k) k = firstNot a0 l1 0) ∧ Drawn0 w wr) (fun i _ => l1.length - (intOf i).toNat)
 case atStart => exact ⟨0, rfl, ⟨Nat.zero_le _⟩, ⟨rfl⟩, Drawn0.refl _⟩
 case round =>
  obtain ⟨k, rfl, HK, HF, ⟨m, rfl⟩⟩ := hrel
  have HM : Aside0 (l1.length ≤ 9223372036854775807) := ⟨HR.out.2.1⟩
  by_cases hlt : k < l1.length
  ·have c0 : decide (k < l1.length) = true := decide_eq_true hlt
   have c1 : decide ((k : Int) < (l1.length : Int)) = true := decide_eq_true (by omega)
   have p1 : 0 ≤ (k : Int) := Int.natCast_nonneg k
   have q1 : (k : Int) < (l1.length : Int) := by omega
   obtain ⟨ad, e1, hx⟩ := Kd.at_int HR.out k p1 q1
   cases e1
   rw [Int.toNat_natCast] at hx
   have ed : l1.drop k = rd l1 k :: l1.drop (k + 1) := by
    unfold rd
    rw [Int.toNat_natCast, List.getD_eq_getElem?_getD, List.getElem?_eq_getElem hlt]
    exact List.drop_eq_getElem_cons hlt
   obtain ⟨v, hv⟩ := HH.out (rd l1 k) (by unfold rd; rw [Int.toNat_natCast, List.getD_eq_getElem?_getD, List.getElem?_eq_getElem hlt]; exact List.getElem_mem hlt)
   have HV := am hv
   have HD := am ed
   have HL := am hlt
   clear hlt ed hv
   generalize rd l1 (k : Int) = x at hx HV HD
   go_wp2_with fail
   refine (digest_lit a0 x v B (w.drewN m) HC.out HV.out).mono ?_
   rintro e w' ⟨rfl, ⟨nd, rfl⟩⟩
   have b2 : (k : Int) ≤ 9223372036854775806 := by have := HL.out; have := HM.out; omega
   cases v with
   | true =>
    go_wp2
    go_roundw
    case rel => exact ⟨k + 1, by go_num, ⟨HL.out⟩, ⟨by have h := HF.out; rw [HD.out] at h; simp only [firstNot, HV.out, Option.getD_some, if_true] at h; exact h⟩, by repeat (first | exact Drawn0.refl _ | apply Drawn0.step)⟩
    case measure => have := HL.out; simp [intOf]; omega
   | false =>
    go_wp2
    go_ret
    exact ⟨by have h := HF.out; rw [HD.out] at h; simp only [firstNot, HV.out, Option.getD_some] at h; rw [← h]; simp, by repeat (first | exact Drawn0.refl _ | apply Drawn0.step)⟩
  ·have c0 : decide (k < l1.length) = false := decide_eq_false hlt
   have c1 : decide ((k : Int) < (l1.length : Int)) = false := decide_eq_false (by omega)
   have e : firstNot a0 l1 0 = -1 := by
    have h := HF.out
    rw [List.drop_eq_nil_of_le (by omega)] at h
    exact h.symm
   have HE := am e
   clear hlt e
   go_wp2
   go_ret
   exact ⟨by first | (rw [HE.out]; done) | (rw [HE.out]; rfl), by repeat (first | exact Drawn0.refl _ | apply Drawn0.step)⟩
set_option maxHeartbeats 4000000 in
theorem digests_contains (a0 : Int) (A1 : Option Addr) (c1 : Nat) (l1 : List Int) (B : Nat) (w : World) (hr1 : Kd.C (Kd.int .i64) w A1 l1.length l1) (hc : w.cell? ⟨B, 0, none⟩ = some (.int .i64 a0)) (h : ∀ x ∈ l1, ∃ v, impl_isDigest.f a0 x = some v) :
  Calls Try.prog 131 #[.slice A1 l1.length c1, .func (.func 132) #[] #[.pointer (some ⟨B, 0, none⟩)]] w fun e w' => e = .returned (.bool (decide (0 ≤ firstNot a0 l1 0))) ∧ Drawn0 w w' := by
 have HI := am (digests_index a0 A1 c1 l1 B w hr1 hc h)
 clear hr1 hc h
 go_enter Try.func131, Try.ntmps131
 go_wp2_with (go_at_call 143; refine HI.out.mono ?_; rintro e w' ⟨rfl, ⟨nd, rfl⟩⟩)
 go_ret
 exact ⟨rfl, by repeat (first | exact Drawn0.refl _ | apply Drawn0.step)⟩
set_option maxHeartbeats 4000000 in
theorem impl_digests.calls (a0 : Int) (A1 : Option Addr) (c1 : Nat) (l1 : List Int) (r : Bool) (w : World) (hr1 : Kd.C (Kd.int .i64) w A1 l1.length l1) (hc1 : l1.length ≤ c1) (h : impl_digests.f a0 l1 = some r) :
  Calls Try.prog 106 #[.int .i64 a0, .slice A1 l1.length c1] w fun e w' => e = .returned (.bool r) ∧ Below w.heap.size w w' := by
 unfold impl_digests.f at h
 by_cases ha : (l1.all fun x => (impl_isDigest.f a0 x).isSome) = true
 ·rw [if_pos ha] at h
  have hr := Option.some.inj h
  have hall : ∀ x ∈ l1, ∃ v, impl_isDigest.f a0 x = some v := fun x hx => by
   have := List.all_eq_true.1 ha x hx
   exact Option.isSome_iff_exists.1 this
  have hf := firstNot_all a0 l1 0
  rw [hr] at hf
  have hb : Below w.heap.size w (w.alloc (.cells #[.int .i64 a0] 3)) := below_alloc (Below.refl _ _) _
  have hcell : (w.alloc (.cells #[.int .i64 a0] 3)).cell? ⟨w.heap.size, 0, none⟩ = some (.int .i64 a0) := by
   exact (blk_cell (blk_new w (.cells #[.int .i64 a0] 3)) 0).trans rfl
  have HC := am (digests_contains a0 A1 c1 l1 w.heap.size _ (Kd.C_below hr1 hb) hcell hall)
  have HF := am hf
  have HB := am hb
  clear h ha hr hall hf hb hcell hr1
  go_enter Try.func106, Try.ntmps106
  go_wp2_with (go_at_call 131; refine HC.out.mono ?_; rintro e w' ⟨rfl, hd⟩)
  go_ret
  exact ⟨by rw [HF.out]; simp, HB.out.trans (hd.below.mono HB.out.size)⟩
 ·rw [if_neg ha] at h
  cases h

/-! ### fake_lf_one: function 163 -/
abbrev fake_lf_one.f (b : Int) (l : List Int) : Option Bool := impl_leavesOk.f b [l]

end Go.Proofs.Ytchjajbkaiefdaa.PFnForgery
