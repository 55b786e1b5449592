-- Written by a program of this workplace (wip/mp.py) out of the translation.
import Derived.Test.YtchjajbkaiefdaaPFnForgeryx0
import Derived.Test.YtchjajbkaiefdaaPFnForgeryx1
import Derived.Test.YtchjajbkaiefdaaPFnForgeryx3
import Derived.Test.YtchjajbkaiefdaaPFnForgeryx4
import Derived.Test.YtchjajbkaiefdaaPFnForgeryx9
import Derived.Test.YtchjajbkaiefdaaPFnForgeryx10
import Derived.Test.YtchjajbkaiefdaaPFnForgeryx11
import Derived.Test.YtchjajbkaiefdaaPFnForgeryx13
import Derived.Test.YtchjajbkaiefdaaPFnForgeryx14
import Derived.Test.YtchjajbkaiefdaaPFnForgeryx15
namespace Go.Proofs.Ytchjajbkaiefdaa.PFnForgery
open Go.RowKit Go.Proofs.YtchjajbkaiefdaaW.PrintWords Go.Proofs.YtchjajbkaiefdaaW.PrintLast Go.Proofs.YtchjajbkaiefdaaW.PrintMore Go.Proofs.Ytchjajbkaiefdaa.Slim
attribute [local go_sem] max2_int min2_int max_two min_two max_three min_three max_four min_four   -- for this text's walks alone
set_option linter.unusedVariables false
set_option linter.unusedSimpArgs false

/-! ### impl_RootFrom: function 22 -/
def impl_RootFrom.f (k : Nat) (a0 : Int) (a1 : Int) (a2 : Int) (l3 : List Int) (l4 : List Int) : Option (Int) := (impl_climb.f k a0 a1 a2 l3 l4).bind fun bt691 => ((impl_lastOf.f a0 bt691.1 bt691.2).bind fun t695 => (some t695))
set_option maxHeartbeats 8000000 in
set_option maxRecDepth 100000 in
theorem impl_RootFrom.calls (k : Nat) (a0 : Int) (a1 : Int) (a2 : Int) (A3 : Option Addr) (c3 : Nat) (l3 : List Int) (A4 : Option Addr) (c4 : Nat) (l4 : List Int) (r : Int) (w : World) (hr3 : Kd.C (Kd.int .u8) w A3 l3.length l3) (hc3 : l3.length ≤ c3) (hr4 : Kd.C (Kd.int .i64) w A4 l4.length l4) (hc4 : l4.length ≤ c4) (h : impl_RootFrom.f k a0 a1 a2 l3 l4 = some r) :
  Calls Try.prog 22 #[.int .i64 a0, .int .i64 a1, .int .i64 a2, .slice A3 l3.length c3, .slice A4 l4.length c4] w fun e w' => e = .returned (.int .i64 r) ∧ Below w.heap.size w w' := by
 have HR3 := am hr3
 have HC3 := am hc3
 clear hr3 hc3
 have HR4 := am hr4
 have HC4 := am hc4
 clear hr4 hc4
 have HB := am (Below.refl w.heap.size w)
 have H : ((impl_climb.f k a0 a1 a2 l3 l4).bind fun bt691 => ((impl_lastOf.f a0 bt691.1 bt691.2).bind fun t695 => (some t695))) = some r := h
 clear h
 replace H := Option.bind_eq_some_iff.mp H
 obtain ⟨⟨t691, t694⟩, A60, H⟩ := H
 (try dsimp -simprocs only at H)
 have A6 := am A60
 clear A60
 replace H := Option.bind_eq_some_iff.mp H
 obtain ⟨t695, A70, H⟩ := H
 (try dsimp -simprocs only at H)
 have A7 := am A70
 clear A70
 obtain rfl := Option.some.inj H
 go_enter Try.func22, Try.ntmps22
 go_wp2_with (first | ((with_reducible refine gate_callee (f := 59) rfl ?_); refine goesL_ (some 19) rfl rfl Try.func59 (by kernel_rfl) rfl #[.int .i64 a0, .int .i64 a1, .int .i64 a2, .slice A3 l3.length c3, .slice A4 l4.length c4] rfl av ?_; (with_reducible refine (impl_climb.calls k a0 a1 a2 _ _ l3 (fun k_ => k_ < w.heap.size) _ _ l4 t691 t694 _ ?side1 ?side2 ?side3 A6.out).mono ?_); (case side1 => exact cv (HR3.out)); (case side2 => exact HC3.out); (case side3 => exact Kd.V_mk HC4.out (Kd.F_below (Kd.C_F (Kd.heap_int .i64) HR4.out) (bt))); rintro e w8 ⟨v692, rfl, ho0, hb⟩; refine ⟨_, rfl, ?_⟩; have HO693 := am (Kd.S_lower (Kd.S_mono (ok' := fun k_ => True) ho0 (fun _ hk_ => trivial)) (below_size (bt))); replace HB := am (below_step (bt) hb); (try clear hb); (try clear hb2); (try clear hk); (try clear hi); (try clear ho0); obtain ⟨Ao9, co9, eo9⟩ := Kd.S_slice HO693.out; subst eo9) | ((with_reducible refine gate_callee (f := 69) rfl ?_); refine goesL_ (some 25) rfl rfl Try.func69 (by kernel_rfl) rfl #[.int .i64 a0, .slice Ao9 t691.length co9, .bool t694] rfl av ?_; (with_reducible refine (impl_lastOf.calls a0 _ _ t691 t694 t695 _ ?side1 ?side2 A7.out).mono ?_); (case side1 => exact cv ((Kd.S_reads' HO693.out).2.2)); (case side2 => exact (Kd.S_reads' HO693.out).2.1); rintro e w10 ⟨rfl, hb⟩; refine ⟨_, rfl, ?_⟩; replace HO693 := am (Kd.S_below (mv HO693.out) hb); replace HB := am (below_step (bt) hb); (try clear hb); (try clear hb2); (try clear hk); (try clear hi)))
 go_ret
 exact ⟨by first | rfl | (simp [errW_none, errW_some] <;> rfl) | (simp [*, errW_none, errW_some] <;> rfl), bt⟩

/-! ### spec_DrawFromData: function 23 -/
def spec_DrawFromData.f (k : Nat) (l0 : List Int) : Option (Int × List Int × List Int) := (spec_l1New.f k l0).bind fun bt696 => ((spec_l1DrawBits.f bt696.1 bt696.2.1 bt696.2.2).bind fun bt700 => ((spec_l1DrawData.f k bt696.1 bt700.2.1 bt700.2.2 4).bind fun bt703 => ((spec_l1DrawData.f k bt696.1 bt703.2.1 bt703.2.2 4).bind fun bt708 => (some (bt700.1, bt703.1, bt708.1)))))
set_option maxHeartbeats 8000000 in
set_option maxRecDepth 100000 in
theorem spec_DrawFromData.calls (k : Nat) (A0 : Option Addr) (c0 : Nat) (l0 : List Int) (r1 : Int) (r2 : List Int) (r3 : List Int) (w : World) (hr0 : Kd.C (Kd.int .u8) w A0 l0.length l0) (hc0 : l0.length ≤ c0) (h : spec_DrawFromData.f k l0 = some (r1, r2, r3)) :
  Calls Try.prog 23 #[.slice A0 l0.length c0] w fun e w' => ∃ v1_ v2_ : Value, e = .returned (.tuple #[.int .i64 r1, v1_, v2_]) ∧ Kd.R (Kd.int .u8) 5 w' w.heap.size (fun k_ => some k_ ≠ (v2_ : Value).ownBlock) v1_ r2 ∧ Kd.R (Kd.int .u8) 5 w' w.heap.size (fun k_ => some k_ ≠ (v1_ : Value).ownBlock) v2_ r3 ∧ Below w.heap.size w w' := by
 have HR0 := am hr0
 have HC0 := am hc0
 clear hr0 hc0
 have HB := am (Below.refl w.heap.size w)
 have H : ((spec_l1New.f k l0).bind fun bt696 => ((spec_l1DrawBits.f bt696.1 bt696.2.1 bt696.2.2).bind fun bt700 => ((spec_l1DrawData.f k bt696.1 bt700.2.1 bt700.2.2 4).bind fun bt703 => ((spec_l1DrawData.f k bt696.1 bt703.2.1 bt703.2.2 4).bind fun bt708 => (some (bt700.1, bt703.1, bt708.1)))))) = some (r1, r2, r3) := h
 clear h
 replace H := Option.bind_eq_some_iff.mp H
 obtain ⟨⟨t696, t697, t698⟩, A20, H⟩ := H
 (try dsimp -simprocs only at H)
 have A2 := am A20
 clear A20
 replace H := Option.bind_eq_some_iff.mp H
 obtain ⟨⟨t700, t701, t702⟩, A30, H⟩ := H
 (try dsimp -simprocs only at H)
 have A3 := am A30
 clear A30
 replace H := Option.bind_eq_some_iff.mp H
 obtain ⟨⟨t703, t706, t707⟩, A40, H⟩ := H
 (try dsimp -simprocs only at H)
 have A4 := am A40
 clear A40
 replace H := Option.bind_eq_some_iff.mp H
 obtain ⟨⟨t708, t711, t712⟩, A50, H⟩ := H
 (try dsimp -simprocs only at H)
 have A5 := am A50
 clear A50
 simp only [Option.some.injEq, Prod.mk.injEq] at H
 obtain ⟨rfl, rfl, rfl⟩ := H
 go_enter Try.func23, Try.ntmps23
 go_wp2_with (first | ((with_reducible refine gate_callee (f := 51) rfl ?_); refine goesL_ (some 7) rfl rfl Try.func51 (by kernel_rfl) rfl #[.slice A0 l0.length c0] rfl av ?_; (with_reducible refine (spec_l1New.calls k _ _ l0 t696 t697 t698 w _ ?side1 ?side2 ?side3 A2.out).mono ?_); (case side1 => exact bt); (case side2 => exact HR0.out); (case side3 => exact HC0.out); rintro e w6 ⟨g699, rfl, hi, hb, hb2⟩; refine ⟨_, rfl, ?_⟩; replace HB := am (hb); have HI699 := am (hi); (try clear hb); (try clear hb2); (try clear hk); (try clear hi)) | ((with_reducible refine gate_callee (f := 66) rfl ?_); refine goesL_ (some 9) rfl rfl Try.func66 (by kernel_rfl) rfl #[.pointer (some ⟨g699, 0, none⟩)] rfl av ?_; (with_reducible refine (spec_l1DrawBits.calls g699 t696 t697 t698 t700 t701 t702 w _ ?side1 ?side2 A3.out).mono ?_); (case side1 => repeat (first | (with_reducible first | exact HI699.out | apply IsS113.alloc | apply IsS113.drewN | apply IsS113.drew | apply IsS113.set_1 | apply IsS113.set_2) | exact HI699.out)); (case side2 => exact b1 (IsS113.ge HI699.out)); rintro e w7 ⟨rfl, hi, hb, hk⟩; refine ⟨_, rfl, ?_⟩; replace HB := am (hb); replace HI699 := am (hi); (try clear hb); (try clear hb2); (try clear hk); (try clear hi)) | ((with_reducible refine gate_callee (f := 64) rfl ?_); refine goesL_ (some 11) rfl rfl Try.func64 (by kernel_rfl) rfl #[.pointer (some ⟨g699, 0, none⟩), .int .i64 4] rfl av ?_; (with_reducible refine (spec_l1DrawData.calls k g699 t696 t701 t702 4 t703 t706 t707 w _ ?side1 ?side2 A4.out).mono ?_); (case side1 => repeat (first | (with_reducible first | exact HI699.out | apply IsS113.alloc | apply IsS113.drewN | apply IsS113.drew | apply IsS113.set_1 | apply IsS113.set_2) | exact HI699.out)); (case side2 => exact b1 (IsS113.ge HI699.out)); rintro e w8 ⟨v704, rfl, ho0, hi, hb, hk⟩; refine ⟨_, rfl, ?_⟩; have HO705 := am (Kd.R_lower ho0 (below_size (b1 (IsS113.ge HI699.out)))); replace HB := am (hb); replace HI699 := am (hi); (try clear hb); (try clear hb2); (try clear hk); (try clear hi); (try clear ho0)) | ((with_reducible refine gate_callee (f := 64) rfl ?_); refine goesL_ (some 13) rfl rfl Try.func64 (by kernel_rfl) rfl #[.pointer (some ⟨g699, 0, none⟩), .int .i64 4] rfl av ?_; (with_reducible refine (spec_l1DrawData.calls k g699 t696 t706 t707 4 t708 t711 t712 w _ ?side1 ?side2 A5.out).mono ?_); (case side1 => repeat (first | (with_reducible first | exact HI699.out | apply IsS113.alloc | apply IsS113.drewN | apply IsS113.drew | apply IsS113.set_1 | apply IsS113.set_2) | exact HI699.out)); (case side2 => exact b1 (IsS113.ge HI699.out)); rintro e w9 ⟨v709, rfl, ho0, hi, hb, hk⟩; refine ⟨_, rfl, ?_⟩; have HO710 := am (Kd.R_lower (Kd.R_new' ho0 (Kd.R_lt (mv HO705.out))) (below_size (b1 (IsS113.ge HI699.out)))); replace HO705 := am (Kd.R_mono (Kd.R_told (Kd.R_oldK (IsS113.apart (show IsS113 w _ g699 t696 t706 t707 from by repeat (first | (with_reducible first | exact HI699.out | apply IsS113.alloc | apply IsS113.drewN | apply IsS113.drew | apply IsS113.set_1 | apply IsS113.set_2) | exact HI699.out)) (mv HO705.out) (by decide)) hk) (Kd.R_base ho0)) (fun _ h_ => h_.1)); replace HB := am (hb); replace HI699 := am (hi); (try clear hb); (try clear hb2); (try clear hk); (try clear hi); (try clear ho0)))
 go_ret3
 exact ⟨_, _, by first | rfl | (simp [errW_none, errW_some] <;> rfl) | (simp [*, errW_none, errW_some] <;> rfl), by (with_reducible repeat (first | apply Kd.R_alloc | apply Kd.R_drewN | apply Kd.R_drew)); exact Kd.R_mono HO705.out (fun _ hk => hk.2), by (with_reducible repeat (first | apply Kd.R_alloc | apply Kd.R_drewN | apply Kd.R_drew)); exact Kd.R_mono HO710.out (fun _ hk => hk.2), b1 (IsS113.ge HI699.out)⟩

/-! ### impl_FromData: function 24 -/
def impl_FromData.f (a0 : Int) (l1 : List Int) (l2 : List Int) : Option (List Int × List Int × Bool) := (impl_Collides.f a0 l1 l2).bind fun t714 => (if t714 = true then ((impl_pairOf.f l1 l2).bind fun bt715 => (some (bt715.1, bt715.2, true))) else (some (([] : List Int), ([] : List Int), false)))
set_option maxHeartbeats 8000000 in
set_option maxRecDepth 100000 in
theorem impl_FromData.calls (a0 : Int) (A1 : Option Addr) (c1 : Nat) (l1 : List Int) (A2 : Option Addr) (c2 : Nat) (l2 : List Int) (r1 : List Int) (r2 : List Int) (r3 : Bool) (w : World) (hr1 : Kd.C (Kd.int .u8) w A1 l1.length l1) (hc1 : l1.length ≤ c1) (hr2 : Kd.C (Kd.int .u8) w A2 l2.length l2) (hc2 : l2.length ≤ c2) (h : impl_FromData.f a0 l1 l2 = some (r1, r2, r3)) :
  Calls Try.prog 24 #[.int .i64 a0, .slice A1 l1.length c1, .slice A2 l2.length c2] w fun e w' => ∃ v0_ v1_ : Value, e = .returned (.tuple #[.agg #[v0_, v1_], .bool r3]) ∧ Kd.R (Kd.int .u8) 5 w' w.heap.size (fun k_ => some k_ ≠ (v1_ : Value).ownBlock) v0_ r1 ∧ Kd.R (Kd.int .u8) 5 w' w.heap.size (fun k_ => some k_ ≠ (v0_ : Value).ownBlock) v1_ r2 ∧ Below w.heap.size w w' := by
 have hu33 := Try.underlying33
 have HR1 := am hr1
 have HC1 := am hc1
 clear hr1 hc1
 have HR2 := am hr2
 have HC2 := am hc2
 clear hr2 hc2
 have HB := am (Below.refl w.heap.size w)
 have H : ((impl_Collides.f a0 l1 l2).bind fun t714 => (if t714 = true then ((impl_pairOf.f l1 l2).bind fun bt715 => (some (bt715.1, bt715.2, true))) else (some (([] : List Int), ([] : List Int), false)))) = some (r1, r2, r3) := h
 clear h
 replace H := Option.bind_eq_some_iff.mp H
 obtain ⟨t714, A40, H⟩ := H
 (try dsimp -simprocs only at H)
 have A4 := am A40
 clear A40
 by_cases c5 : t714 = true
 ·subst c5
  rw [if_pos rfl] at H
  replace H := Option.bind_eq_some_iff.mp H
  obtain ⟨⟨t715, t718⟩, A60, H⟩ := H
  (try dsimp -simprocs only at H)
  have A6 := am A60
  clear A60
  simp only [Option.some.injEq, Prod.mk.injEq] at H
  obtain ⟨rfl, rfl, rfl⟩ := H
  go_enter Try.func24, Try.ntmps24
  go_wp2_with (first | ((with_reducible refine gate_dst (N := 6) rfl ?_); refine box_event ?hg (N := 6) ?hd (cs := #[.slice none 0 0, .slice none 0 0]) (t := 33) ?hr ?_; (case hd => rfl); (case hg => rfl); (case hr => first | (go_simp; done) | (go_simp; rfl)); intro gb713 hg w7 hbox hb; have BK713 := am (hbox); have GW713 := am ((by rw [hg]; exact (below_size (bt)) : w.heap.size ≤ gb713)); have GE713 := am ((by rw [hg]; exact (below_size (bt)) : w.heap.size ≤ gb713)); replace HB := am (below_step (bt) hb); clear hb hbox hg) | ((with_reducible refine gate_callee (f := 13) rfl ?_); refine goesL_ (some 12) rfl rfl Try.func13 (by kernel_rfl) rfl #[.int .i64 a0, .agg #[.slice A1 l1.length c1, .slice A2 l2.length c2]] rfl av ?_; (with_reducible refine (impl_Collides.calls a0 _ _ l1 _ _ l2 true _ ?side1 ?side2 ?side3 ?side4 A4.out).mono ?_); (case side1 => exact cv ((Kd.C_below HR1.out HB.out))); (case side2 => exact HC1.out); (case side3 => exact cv ((Kd.C_below HR2.out HB.out))); (case side4 => exact HC2.out); rintro e w8 ⟨rfl, hb⟩; refine ⟨_, rfl, ?_⟩; replace BK713 := am (blk_below (g := gb713) (o := .cells #[.slice none 0 0, .slice none 0 0] 33 (0, 0)) (mb BK713.out) hb); replace HB := am (below_step (b1 GE713.out) hb); (try clear hb); (try clear hb2); (try clear hk); (try clear hi)) | ((with_reducible refine gate_callee (f := 71) rfl ?_); refine goesL_ (some 17) rfl rfl Try.func71 (by kernel_rfl) rfl #[.slice A1 l1.length c1, .slice A2 l2.length c2] rfl av ?_; (with_reducible refine (impl_pairOf.calls _ _ l1 _ _ l2 t715 t718 _ ?side1 ?side2 ?side3 ?side4 A6.out).mono ?_); (case side1 => exact cv ((Kd.C_below HR1.out HB.out))); (case side2 => exact HC1.out); (case side3 => exact cv ((Kd.C_below HR2.out HB.out))); (case side4 => exact HC2.out); rintro e w9 ⟨v716, v719, rfl, ho0, ho1, hb⟩; refine ⟨_, rfl, ?_⟩; have HO717 := am (Kd.R_lower ho0 (below_size (b1 GE713.out))); have HO720 := am (Kd.R_lower ho1 (below_size (b1 GE713.out))); replace BK713 := am (blk_below (g := gb713) (o := .cells #[.slice none 0 0, .slice none 0 0] 33 (0, 0)) (mb BK713.out) hb); replace HB := am (below_step (b1 GE713.out) hb); (try clear hb); (try clear hb2); (try clear hk); (try clear hi); (try clear ho0); (try clear ho1); obtain ⟨Ao10, co10, eo10⟩ := Kd.R_slice HO717.out; subst eo10; have hcz11_0 : w9.cell? ⟨gb713, 0, none⟩ = some (.slice none 0 0) := (blk_cell BK713.out 0).trans rfl; have hcz11_1 : w9.cell? ⟨gb713, 1, none⟩ = some (.slice none 0 0) := (blk_cell BK713.out 1).trans rfl; have hfz11_0 := blk_frozen BK713.out 0; have hfz11_1 := blk_frozen BK713.out 1; obtain ⟨Ao12, co12, eo12⟩ := Kd.R_slice HO720.out; subst eo12))
  refine bodyPost_ret (results_ct rfl _ _ gb713 33 #[.slice Ao10 t715.length co10, .slice Ao12 t718.length co12] (0, 0) _ rfl (by (with_reducible repeat (first | refine blk_drewN ?_ _ | refine blk_drew ?_ | refine blk_alloc ?_ _)); refine blk_put (cs := #[.slice Ao10 t715.length co10, .slice none 0 0]) ?_ 1 _ rfl; (with_reducible repeat (first | refine blk_drewN ?_ _ | refine blk_drew ?_ | refine blk_alloc ?_ _)); refine blk_put (cs := #[.slice none 0 0, .slice none 0 0]) ?_ 0 _ rfl; (with_reducible repeat (first | refine blk_drewN ?_ _ | refine blk_drew ?_ | refine blk_alloc ?_ _)); exact BK713.out) Try.underlying33 rfl (by kernel_rfl)) rfl ?_
  exact ⟨_, _, by first | rfl | (simp [errW_none, errW_some] <;> rfl) | (simp [*, errW_none, errW_some] <;> rfl), by (with_reducible repeat (first | apply Kd.R_alloc | apply Kd.R_drewN | apply Kd.R_drew)); exact Kd.R_mono (Kd.R_far (p := ⟨gb713, 1, none⟩) (Kd.R_far (p := ⟨gb713, 0, none⟩) (Kd.R_types HO717.out BK713.out (by decide)) (fun _ hk => hk.2) (.slice Ao10 t715.length co10)) (fun _ hk => hk.2) (.slice Ao12 t718.length co12)) (fun _ hk => hk.1), by (with_reducible repeat (first | apply Kd.R_alloc | apply Kd.R_drewN | apply Kd.R_drew)); exact Kd.R_mono (Kd.R_far (p := ⟨gb713, 1, none⟩) (Kd.R_far (p := ⟨gb713, 0, none⟩) (Kd.R_types HO720.out BK713.out (by decide)) (fun _ hk => hk.2) (.slice Ao10 t715.length co10)) (fun _ hk => hk.2) (.slice Ao12 t718.length co12)) (fun _ hk => hk.1), b1 GE713.out⟩
 ·replace c5 := Bool.eq_false_iff.mpr c5
  subst c5
  rw [if_neg (show ¬ (false = true) by decide)] at H
  simp only [Option.some.injEq, Prod.mk.injEq] at H
  obtain ⟨rfl, rfl, rfl⟩ := H
  go_enter Try.func24, Try.ntmps24
  go_wp2_with (first | ((with_reducible refine gate_dst (N := 6) rfl ?_); refine box_event ?hg (N := 6) ?hd (cs := #[.slice none 0 0, .slice none 0 0]) (t := 33) ?hr ?_; (case hd => rfl); (case hg => rfl); (case hr => first | (go_simp; done) | (go_simp; rfl)); intro gb713 hg w13 hbox hb; have BK713 := am (hbox); have GW713 := am ((by rw [hg]; exact (below_size (bt)) : w.heap.size ≤ gb713)); have GE713 := am ((by rw [hg]; exact (below_size (bt)) : w.heap.size ≤ gb713)); replace HB := am (below_step (bt) hb); clear hb hbox hg) | ((with_reducible refine gate_callee (f := 13) rfl ?_); refine goesL_ (some 12) rfl rfl Try.func13 (by kernel_rfl) rfl #[.int .i64 a0, .agg #[.slice A1 l1.length c1, .slice A2 l2.length c2]] rfl av ?_; (with_reducible refine (impl_Collides.calls a0 _ _ l1 _ _ l2 false _ ?side1 ?side2 ?side3 ?side4 A4.out).mono ?_); (case side1 => exact cv ((Kd.C_below HR1.out HB.out))); (case side2 => exact HC1.out); (case side3 => exact cv ((Kd.C_below HR2.out HB.out))); (case side4 => exact HC2.out); rintro e w14 ⟨rfl, hb⟩; refine ⟨_, rfl, ?_⟩; replace BK713 := am (blk_below (g := gb713) (o := .cells #[.slice none 0 0, .slice none 0 0] 33 (0, 0)) (mb BK713.out) hb); replace HB := am (below_step (b1 GE713.out) hb); (try clear hb); (try clear hb2); (try clear hk); (try clear hi); have hcz15_0 : w14.cell? ⟨gb713, 0, none⟩ = some (.slice none 0 0) := (blk_cell BK713.out 0).trans rfl; have hcz15_1 : w14.cell? ⟨gb713, 1, none⟩ = some (.slice none 0 0) := (blk_cell BK713.out 1).trans rfl; have hfz15_0 := blk_frozen BK713.out 0; have hfz15_1 := blk_frozen BK713.out 1))
  refine bodyPost_ret (results_ct rfl _ _ gb713 33 #[.slice none 0 0, .slice none 0 0] (0, 0) _ rfl (by (with_reducible repeat (first | refine blk_drewN ?_ _ | refine blk_drew ?_ | refine blk_alloc ?_ _)); refine blk_put (cs := #[.slice none 0 0, .slice none 0 0]) ?_ 1 _ rfl; (with_reducible repeat (first | refine blk_drewN ?_ _ | refine blk_drew ?_ | refine blk_alloc ?_ _)); refine blk_put (cs := #[.slice none 0 0, .slice none 0 0]) ?_ 0 _ rfl; (with_reducible repeat (first | refine blk_drewN ?_ _ | refine blk_drew ?_ | refine blk_alloc ?_ _)); exact BK713.out) Try.underlying33 rfl (by kernel_rfl)) rfl ?_
  exact ⟨_, _, by first | rfl | (simp [errW_none, errW_some] <;> rfl) | (simp [*, errW_none, errW_some] <;> rfl), by first | exact Kd.R_nil _ _ _ _ _ | exact Kd.N_nil _ _ _ _ _ | exact Kd.V_nil _ _ _ _ _ | exact Kd.Q_nil _ _ _ _ _ | exact Kd.S_nil _ _ _ _ _, by first | exact Kd.R_nil _ _ _ _ _ | exact Kd.N_nil _ _ _ _ _ | exact Kd.V_nil _ _ _ _ _ | exact Kd.Q_nil _ _ _ _ _ | exact Kd.S_nil _ _ _ _ _, b1 GE713.out⟩

/-! ### laws_FnForgery: function 4 -/
mutual
def laws_FnForgery.j0 : Nat → List Int → Bool → Option (Bool)
 | 0, _, _ => none
 | k + 1, x0, x70 => if x70 = true then (some false) else ((spec_DrawFromPaths.f k x0).bind fun bt743 => ((impl_FromPaths.f k bt743.1 bt743.2.1 bt743.2.2.1 bt743.2.2.2.1 bt743.2.2.2.2.1 bt743.2.2.2.2.2.1 bt743.2.2.2.2.2.2).bind fun bt758 => ((impl_RootFrom.f k bt743.1 bt743.2.1 bt743.2.2.1 bt743.2.2.2.1 bt743.2.2.2.2.1).bind fun t766 => ((impl_RootFrom.f k bt743.1 bt743.2.1 bt743.2.2.1 bt743.2.2.2.2.2.1 bt743.2.2.2.2.2.2).bind fun t767 => (if bt758.2.2 = true then ((impl_Collides.f bt743.1 bt758.1 bt758.2.1).bind fun t768 => (if t768 = true then (if t766 = t767 then (if t766 < 0 then (laws_FnForgery.j1 k x0 true) else (laws_FnForgery.j1 k x0 false)) else (laws_FnForgery.j1 k x0 true)) else (laws_FnForgery.j1 k x0 true))) else (if t766 ≥ 0 then (if t766 = t767 then (laws_FnForgery.j1 k x0 ((strOfNums bt743.2.2.2.1).toList != (strOfNums bt743.2.2.2.2.2.1).toList)) else (laws_FnForgery.j1 k x0 false)) else (laws_FnForgery.j1 k x0 false)))))))
def laws_FnForgery.j1 : Nat → List Int → Bool → Option (Bool)
 | 0, _, _ => none
 | k + 1, x0, x139 => if x139 = true then (some false) else ((spec_DrawFromData.f k x0).bind fun bt769 => ((impl_FromData.f bt769.1 bt769.2.1 bt769.2.2).bind fun bt776 => ((impl_Collides.f bt769.1 bt769.2.1 bt769.2.2).bind fun t784 => (if (bt776.2.2 == t784) = true then (if bt776.2.2 = true then (some ((strOfNums bt776.1).toList == (strOfNums bt769.2.1).toList)) else (some true)) else (some false)))))
end
def laws_FnForgery.f (k : Nat) (l0 : List Int) : Option (Bool) := (laws_big.f l0).bind fun t721 => (if t721 = true then (some true) else ((spec_DrawFromLeaves.f k l0).bind fun bt722 => ((impl_FromLeaves.f k bt722.1 bt722.2.1 bt722.2.2).bind fun bt729 => ((impl_TreeRoot.f k bt722.1 bt722.2.1).bind fun t737 => ((impl_TreeRoot.f k bt722.1 bt722.2.2).bind fun t738 => (if t737 ≥ 0 then (if t737 = t738 then ((laws_sameLists.f bt722.2.1 bt722.2.2).bind fun t739 => (if (bt729.2.2 != (!t739)) = true then (laws_FnForgery.j0 k l0 true) else (if bt729.2.2 = true then ((impl_Collides.f bt722.1 bt729.1 bt729.2.1).bind fun t740 => (laws_FnForgery.j0 k l0 (!t740))) else (laws_FnForgery.j0 k l0 false)))) else (if (bt729.2.2 != false) = true then (laws_FnForgery.j0 k l0 true) else (if bt729.2.2 = true then ((impl_Collides.f bt722.1 bt729.1 bt729.2.1).bind fun t741 => (laws_FnForgery.j0 k l0 (!t741))) else (laws_FnForgery.j0 k l0 false)))) else (if (bt729.2.2 != false) = true then (laws_FnForgery.j0 k l0 true) else (if bt729.2.2 = true then ((impl_Collides.f bt722.1 bt729.1 bt729.2.1).bind fun t742 => (laws_FnForgery.j0 k l0 (!t742))) else (laws_FnForgery.j0 k l0 false)))))))))
set_option maxHeartbeats 8000000 in
set_option maxRecDepth 100000 in
theorem laws_FnForgery.calls (k : Nat) (A0 : Option Addr) (c0 : Nat) (l0 : List Int) (r : Bool) (w : World) (hT : Aside0 (r = true)) (hr0 : Kd.C (Kd.int .u8) w A0 l0.length l0) (hc0 : l0.length ≤ c0) (h : laws_FnForgery.f k l0 = some r) :
  Calls Try.prog 4 #[.slice A0 l0.length c0] w fun e w' => e = .returned (.bool r) ∧ Below w.heap.size w w' := by
 have hu33 := Try.underlying33
 have HR0 := am hr0
 have HC0 := am hc0
 clear hr0 hc0
 have HB := am (Below.refl w.heap.size w)
 have H : ((laws_big.f l0).bind fun t721 => (if t721 = true then (some true) else ((spec_DrawFromLeaves.f k l0).bind fun bt722 => ((impl_FromLeaves.f k bt722.1 bt722.2.1 bt722.2.2).bind fun bt729 => ((impl_TreeRoot.f k bt722.1 bt722.2.1).bind fun t737 => ((impl_TreeRoot.f k bt722.1 bt722.2.2).bind fun t738 => (if t737 ≥ 0 then (if t737 = t738 then ((laws_sameLists.f bt722.2.1 bt722.2.2).bind fun t739 => (if (bt729.2.2 != (!t739)) = true then (laws_FnForgery.j0 k l0 true) else (if bt729.2.2 = true then ((impl_Collides.f bt722.1 bt729.1 bt729.2.1).bind fun t740 => (laws_FnForgery.j0 k l0 (!t740))) else (laws_FnForgery.j0 k l0 false)))) else (if (bt729.2.2 != false) = true then (laws_FnForgery.j0 k l0 true) else (if bt729.2.2 = true then ((impl_Collides.f bt722.1 bt729.1 bt729.2.1).bind fun t741 => (laws_FnForgery.j0 k l0 (!t741))) else (laws_FnForgery.j0 k l0 false)))) else (if (bt729.2.2 != false) = true then (laws_FnForgery.j0 k l0 true) else (if bt729.2.2 = true then ((impl_Collides.f bt722.1 bt729.1 bt729.2.1).bind fun t742 => (laws_FnForgery.j0 k l0 (!t742))) else (laws_FnForgery.j0 k l0 false)))))))))) = some r := h
 clear h
 replace H := Option.bind_eq_some_iff.mp H
 obtain ⟨t721, A20, H⟩ := H
 (try dsimp -simprocs only at H)
 have A2 := am A20
 clear A20
 by_cases c3 : t721 = true
 ·subst c3
  rw [if_pos rfl] at H
  obtain rfl := Option.some.inj H
  go_enter Try.func4, Try.ntmps4
  go_wp2_with (first | ((with_reducible refine gate_callee (f := 9) rfl ?_); refine goesL_ (some 27) rfl rfl Try.func9 (by kernel_rfl) rfl #[.slice A0 l0.length c0] rfl av ?_; (with_reducible refine (laws_big.calls _ _ l0 true _ ?side1 ?side2 A2.out).mono ?_); (case side1 => exact cv (HR0.out)); (case side2 => exact HC0.out); rintro e w' ⟨rfl, ⟨nd, rfl⟩⟩; refine ⟨_, rfl, ?_⟩))
  go_ret
  exact ⟨by first | rfl | (simp [errW_none, errW_some] <;> rfl) | (simp [*, errW_none, errW_some] <;> rfl), bt⟩
 ·replace c3 := Bool.eq_false_iff.mpr c3
  subst c3
  rw [if_neg (show ¬ (false = true) by decide)] at H
  replace H := Option.bind_eq_some_iff.mp H
  obtain ⟨⟨t722, t723, t726⟩, A40, H⟩ := H
  (try dsimp -simprocs only at H)
  have A4 := am A40
  clear A40
  replace H := Option.bind_eq_some_iff.mp H
  obtain ⟨⟨t729, t732, t735⟩, A50, H⟩ := H
  (try dsimp -simprocs only at H)
  have A5 := am A50
  clear A50
  replace H := Option.bind_eq_some_iff.mp H
  obtain ⟨t737, A60, H⟩ := H
  (try dsimp -simprocs only at H)
  have A6 := am A60
  clear A60
  replace H := Option.bind_eq_some_iff.mp H
  obtain ⟨t738, A70, H⟩ := H
  (try dsimp -simprocs only at H)
  have A7 := am A70
  clear A70
  have HC8 := am H
  clear H
  go_enter Try.func4, Try.ntmps4
  go_upto_region 6 with (first | ((with_reducible refine gate_callee (f := 9) rfl ?_); refine goesL_ (some 27) rfl rfl Try.func9 (by kernel_rfl) rfl #[.slice A0 l0.length c0] rfl av ?_; (with_reducible refine (laws_big.calls _ _ l0 false _ ?side1 ?side2 A2.out).mono ?_); (case side1 => exact cv (HR0.out)); (case side2 => exact HC0.out); rintro e w' ⟨rfl, ⟨nd, rfl⟩⟩; refine ⟨_, rfl, ?_⟩) | ((with_reducible refine gate_callee (f := 17) rfl ?_); refine goesL_ (some 30) rfl rfl Try.func17 (by kernel_rfl) rfl #[.slice A0 l0.length c0] rfl av ?_; (with_reducible refine (spec_DrawFromLeaves.calls k _ _ l0 t722 t723 t726 _ ?side1 ?side2 A4.out).mono ?_); (case side1 => exact cv (HR0.out)); (case side2 => exact HC0.out); rintro e w9 ⟨v724, v727, rfl, ho0, ho1, hb⟩; refine ⟨_, rfl, ?_⟩; have HO725 := am (Kd.N_lower (Kd.N_mono (ok' := fun k_ => some k_ ≠ (v727 : Value).ownBlock) ho0 (fun k_ hk_ => hk_.2)) (below_size (bt))); have HO728 := am (Kd.N_lower (Kd.N_mono (ok' := fun k_ => some k_ ≠ (v724 : Value).ownBlock) ho1 (fun k_ hk_ => hk_.2)) (below_size (bt))); replace HB := am (below_step (bt) hb); (try clear hb); (try clear hb2); (try clear hk); (try clear hi); (try clear ho0); (try clear ho1); obtain ⟨Ao10, co10, eo10⟩ := Kd.N_slice HO725.out; subst eo10; obtain ⟨Ao11, co11, eo11⟩ := Kd.N_slice HO728.out; subst eo11) | ((with_reducible refine gate_callee (f := 18) rfl ?_); refine goesL_ (some 38) rfl rfl Try.func18 (by kernel_rfl) rfl #[.int .i64 t722, .slice Ao10 t723.length co10, .slice Ao11 t726.length co11] rfl av ?_; (with_reducible refine (impl_FromLeaves.calls k t722 _ _ t723 _ _ t726 t729 t732 t735 _ ?side1 ?side2 ?side3 ?side4 A5.out).mono ?_); (case side1 => exact cv ((Kd.N_reads' HO725.out).2.2)); (case side2 => exact (Kd.N_reads' HO725.out).2.1); (case side3 => exact cv ((Kd.N_reads' HO728.out).2.2)); (case side4 => exact (Kd.N_reads' HO728.out).2.1); rintro e w12 ⟨v730, v733, rfl, ho0, ho1, hb⟩; refine ⟨_, rfl, ?_⟩; replace HO725 := am (Kd.N_mono (Kd.N_told (Kd.N_told (Kd.N_old (mv HO725.out) hb) (Kd.R_base ho0)) (Kd.R_base ho1)) (fun _ h_ => h_.1)); replace HO728 := am (Kd.N_mono (Kd.N_told (Kd.N_told (Kd.N_old (mv HO728.out) hb) (Kd.R_base ho0)) (Kd.R_base ho1)) (fun _ h_ => h_.1)); have HO731 := am (Kd.R_lower ho0 (below_size (bt))); have HO734 := am (Kd.R_lower ho1 (below_size (bt))); replace HB := am (below_step (bt) hb); (try clear hb); (try clear hb2); (try clear hk); (try clear hi); (try clear ho0); (try clear ho1)) | ((with_reducible refine gate_dst (N := 6) rfl ?_); refine box_event ?hg (N := 6) ?hd (cs := #[.slice none 0 0, .slice none 0 0]) (t := 33) ?hr ?_; (case hd => rfl); (case hg => rfl); (case hr => first | (go_simp; done) | (go_simp; rfl)); intro gb736 hg w13 hbox hb; replace HO725 := am (Kd.N_below (Kd.N_elderB (mv HO725.out) gb736 (Nat.le_of_eq hg.symm)) hb); replace HO728 := am (Kd.N_below (Kd.N_elderB (mv HO728.out) gb736 (Nat.le_of_eq hg.symm)) hb); replace HO731 := am (Kd.R_below (mv HO731.out) hb); replace HO734 := am (Kd.R_below (mv HO734.out) hb); have BK736 := am (hbox); have GW736 := am ((by rw [hg]; exact (below_size (bt)) : w.heap.size ≤ gb736)); have GE736 := am ((by rw [hg]; exact (below_size (bt)) : w.heap.size ≤ gb736)); replace HB := am (below_step (bt) hb); clear hb hbox hg; obtain ⟨Ao14, co14, eo14⟩ := Kd.R_slice HO731.out; subst eo14; have hcz15_0 : w13.cell? ⟨gb736, 0, none⟩ = some (.slice none 0 0) := (blk_cell BK736.out 0).trans rfl; have hcz15_1 : w13.cell? ⟨gb736, 1, none⟩ = some (.slice none 0 0) := (blk_cell BK736.out 1).trans rfl; have hfz15_0 := blk_frozen BK736.out 0; have hfz15_1 := blk_frozen BK736.out 1; obtain ⟨Ao16, co16, eo16⟩ := Kd.R_slice HO734.out; subst eo16) | ((with_reducible refine gate_callee (f := 11) rfl ?_); refine goesL_ (some 43) rfl rfl Try.func11 (by kernel_rfl) rfl #[.int .i64 t722, .slice Ao10 t723.length co10] rfl av ?_; (with_reducible refine (impl_TreeRoot.calls k t722 _ _ t723 t737 _ ?side1 ?side2 A6.out).mono ?_); (case side1 => refine (Kd.N_reads' (e := 22) (base := w.heap.size) (ok := fun k_ => (((some k_ ≠ (.slice Ao11 t726.length co11 : Value).ownBlock ∧ some k_ ≠ (.slice Ao14 t729.length co14 : Value).ownBlock) ∧ some k_ ≠ (.slice Ao16 t732.length co16 : Value).ownBlock) ∧ k_ ≠ gb736)) (n := t723.length) (c := co10) ?_).2.2; exact (by (with_reducible repeat (first | apply Kd.N_alloc | apply Kd.N_drewN | apply Kd.N_drew)); exact (Kd.N_mono (Kd.N_far (p := ⟨gb736, 1, none⟩) (Kd.N_far (p := ⟨gb736, 0, none⟩) (Kd.N_mono HO725.out (fun k_ hk => (⟨hk, hk.2⟩ : _ ∧ k_ ≠ gb736))) (fun _ hk => hk.2) (.slice Ao14 t729.length co14)) (fun _ hk => hk.2) (.slice Ao16 t732.length co16)) (fun _ h_ => h_.1)))); (case side2 => exact (Kd.N_reads' HO725.out).2.1); rintro e w17 ⟨rfl, hb⟩; refine ⟨_, rfl, ?_⟩; replace HO725 := am (Kd.N_below (by (with_reducible repeat (first | apply Kd.N_alloc | apply Kd.N_drewN | apply Kd.N_drew)); exact (Kd.N_mono (Kd.N_far (p := ⟨gb736, 1, none⟩) (Kd.N_far (p := ⟨gb736, 0, none⟩) (Kd.N_mono HO725.out (fun k_ hk => (⟨hk, hk.2⟩ : _ ∧ k_ ≠ gb736))) (fun _ hk => hk.2) (.slice Ao14 t729.length co14)) (fun _ hk => hk.2) (.slice Ao16 t732.length co16)) (fun _ h_ => h_.1))) hb); replace HO728 := am (Kd.N_below (by (with_reducible repeat (first | apply Kd.N_alloc | apply Kd.N_drewN | apply Kd.N_drew)); exact (Kd.N_mono (Kd.N_far (p := ⟨gb736, 1, none⟩) (Kd.N_far (p := ⟨gb736, 0, none⟩) (Kd.N_mono HO728.out (fun k_ hk => (⟨hk, hk.2⟩ : _ ∧ k_ ≠ gb736))) (fun _ hk => hk.2) (.slice Ao14 t729.length co14)) (fun _ hk => hk.2) (.slice Ao16 t732.length co16)) (fun _ h_ => h_.1))) hb); replace HO731 := am (Kd.R_below (by (with_reducible repeat (first | apply Kd.R_alloc | apply Kd.R_drewN | apply Kd.R_drew)); exact (Kd.R_mono (Kd.R_far (p := ⟨gb736, 1, none⟩) (Kd.R_far (p := ⟨gb736, 0, none⟩) (Kd.R_types HO731.out BK736.out (by decide)) (fun _ hk => hk.2) (.slice Ao14 t729.length co14)) (fun _ hk => hk.2) (.slice Ao16 t732.length co16)) (fun _ h_ => h_.1))) hb); replace HO734 := am (Kd.R_below (by (with_reducible repeat (first | apply Kd.R_alloc | apply Kd.R_drewN | apply Kd.R_drew)); exact (Kd.R_mono (Kd.R_far (p := ⟨gb736, 1, none⟩) (Kd.R_far (p := ⟨gb736, 0, none⟩) (Kd.R_types HO734.out BK736.out (by decide)) (fun _ hk => hk.2) (.slice Ao14 t729.length co14)) (fun _ hk => hk.2) (.slice Ao16 t732.length co16)) (fun _ h_ => h_.1))) hb); replace BK736 := am (blk_below (g := gb736) (o := .cells #[.slice Ao14 t729.length co14, .slice Ao16 t732.length co16] 33 (0, 0)) (by (with_reducible repeat (first | refine blk_drewN ?_ _ | refine blk_drew ?_ | refine blk_alloc ?_ _)); refine blk_put (cs := #[.slice Ao14 t729.length co14, .slice none 0 0]) ?_ 1 _ rfl; (with_reducible repeat (first | refine blk_drewN ?_ _ | refine blk_drew ?_ | refine blk_alloc ?_ _)); refine blk_put (cs := #[.slice none 0 0, .slice none 0 0]) ?_ 0 _ rfl; (with_reducible repeat (first | refine blk_drewN ?_ _ | refine blk_drew ?_ | refine blk_alloc ?_ _)); exact BK736.out) hb); replace HB := am (below_step (b1 GE736.out) hb); (try clear hb); (try clear hb2); (try clear hk); (try clear hi)) | ((with_reducible refine gate_callee (f := 11) rfl ?_); refine goesL_ (some 46) rfl rfl Try.func11 (by kernel_rfl) rfl #[.int .i64 t722, .slice Ao11 t726.length co11] rfl av ?_; (with_reducible refine (impl_TreeRoot.calls k t722 _ _ t726 t738 _ ?side1 ?side2 A7.out).mono ?_); (case side1 => exact cv ((Kd.N_reads' HO728.out).2.2)); (case side2 => exact (Kd.N_reads' HO728.out).2.1); rintro e w18 ⟨rfl, hb⟩; refine ⟨_, rfl, ?_⟩; replace HO725 := am (Kd.N_below (mv HO725.out) hb); replace HO728 := am (Kd.N_below (mv HO728.out) hb); replace HO731 := am (Kd.R_below (mv HO731.out) hb); replace HO734 := am (Kd.R_below (mv HO734.out) hb); replace BK736 := am (blk_below (g := gb736) (o := .cells #[.slice Ao14 t729.length co14, .slice Ao16 t732.length co16] 33 (0, 0)) (mb BK736.out) hb); replace HB := am (below_step (b1 GE736.out) hb); (try clear hb); (try clear hb2); (try clear hk); (try clear hi)))
  (try simp only [Act.put, List.setIfInBounds_toArray, List.set_cons_zero, List.set_cons_succ])
  go_cut [70] (fun v70 wc => ∃ (kq : Nat) (x70_7 : Bool), v70 = .bool x70_7 ∧ Aside0 (laws_FnForgery.j0 kq l0 x70_7 = some r) ∧ Aside0 (kq ≤ k) ∧ Aside0 (Kd.R (Kd.int .u8) 5 wc w.heap.size (fun k_ => some k_ ≠ ((.slice Ao16 t732.length co16) : Value).ownBlock) (.slice Ao14 t729.length co14) t729) ∧ Aside0 (Kd.R (Kd.int .u8) 5 wc w.heap.size (fun k_ => some k_ ≠ ((.slice Ao14 t729.length co14) : Value).ownBlock) (.slice Ao16 t732.length co16) t732) ∧ Aside0 (wc.heap[gb736]? = some (.cells #[(.slice Ao14 t729.length co14), (.slice Ao16 t732.length co16)] 33 (0, 0))) ∧ Aside0 (Below w.heap.size w wc))
  case first =>
   have H := HC8.out
   clear HC8
   by_cases c19 : t737 ≥ 0
   ·rw [if_pos c19] at H
    have c19b0 : decide (0 ≤ t737) = true := decide_eq_true c19
    clear c19
    (first | rw [c19b0] | (simp only [i64_w, i32_w]; rw [c19b0]) | skip)
    by_cases c20 : t737 = t738
    ·rw [if_pos c20] at H
     have c20b0 : (t737 == t738) = true := beq_iff_eq.mpr c20
     have c20b1 : (t737 != t738) = false := bne_eq_false_iff_eq.mpr c20
     clear c20
     replace H := Option.bind_eq_some_iff.mp H
     obtain ⟨t739, A210, H⟩ := H
     (try dsimp -simprocs only at H)
     have A21 := am A210
     clear A210
     by_cases c22 : (t735 != (!t739)) = true
     ·rw [if_pos c22] at H
      have c22b0 : (t735 != (!t739)) = true := c22
      (try (have c22b1 : decide (t735 = (!t739)) = false := by simpa using c22))
      (try (have c22b2 : (t735 == (!t739)) = false := by simpa using c22))
      (try (have c22b3 : ¬ (t735 = (!t739)) := by simpa using c22))
      clear c22
      have H' := am H
      clear H
      cases t735
      ·cases t739
       ·go_wp2_with (first | (go_at_call 19; (with_reducible refine (laws_sameLists.calls _ _ t723 _ _ t726 _ _ ?side1 ?side2 ?side3 ?side4 A21.out).mono ?_); (case side1 => exact cv ((Kd.N_reads' HO725.out).2.2)); (case side2 => exact (Kd.N_reads' HO725.out).2.1); (case side3 => exact cv ((Kd.N_reads' HO728.out).2.2)); (case side4 => exact (Kd.N_reads' HO728.out).2.1); rintro e w' ⟨rfl, ⟨nd, rfl⟩⟩))
        go_meet
        case rel => exact ⟨_, (true), (by first | rfl | (simp; done) | (simp [*]; done)), H', ⟨by first | omega | exact Nat.le_refl _⟩, ⟨mv HO731.out⟩, ⟨mv HO734.out⟩, ⟨mb BK736.out⟩, ⟨b1 GE736.out⟩⟩
       ·exact absurd c22b0 (by decide)
      ·cases t739
       ·exact absurd c22b0 (by decide)
       ·go_wp2_with (first | (go_at_call 19; (with_reducible refine (laws_sameLists.calls _ _ t723 _ _ t726 _ _ ?side1 ?side2 ?side3 ?side4 A21.out).mono ?_); (case side1 => exact cv ((Kd.N_reads' HO725.out).2.2)); (case side2 => exact (Kd.N_reads' HO725.out).2.1); (case side3 => exact cv ((Kd.N_reads' HO728.out).2.2)); (case side4 => exact (Kd.N_reads' HO728.out).2.1); rintro e w' ⟨rfl, ⟨nd, rfl⟩⟩))
        go_meet
        case rel => exact ⟨_, (true), (by first | rfl | (simp; done) | (simp [*]; done)), H', ⟨by first | omega | exact Nat.le_refl _⟩, ⟨mv HO731.out⟩, ⟨mv HO734.out⟩, ⟨mb BK736.out⟩, ⟨b1 GE736.out⟩⟩
     ·rw [if_neg c22] at H
      have c22b0 : (t735 != (!t739)) = false := by simpa using c22
      (try (have c22b1 : decide (t735 = (!t739)) = true := by simpa using c22))
      (try (have c22b2 : (t735 == (!t739)) = true := by simpa using c22))
      clear c22
      by_cases c23 : t735 = true
      ·subst c23
       rw [if_pos rfl] at H
       replace H := Option.bind_eq_some_iff.mp H
       obtain ⟨t740, A240, H⟩ := H
       (try dsimp -simprocs only at H)
       have A24 := am A240
       clear A240
       have H' := am H
       clear H
       cases t739
       ·cases t740
        ·go_wp2_with (first | (go_at_call 19; (with_reducible refine (laws_sameLists.calls _ _ t723 _ _ t726 _ _ ?side1 ?side2 ?side3 ?side4 A21.out).mono ?_); (case side1 => exact cv ((Kd.N_reads' HO725.out).2.2)); (case side2 => exact (Kd.N_reads' HO725.out).2.1); (case side3 => exact cv ((Kd.N_reads' HO728.out).2.2)); (case side4 => exact (Kd.N_reads' HO728.out).2.1); rintro e w' ⟨rfl, ⟨nd, rfl⟩⟩; have hcz25_0 : w18.cell? ⟨gb736, 0, none⟩ = some (.slice Ao14 t729.length co14) := (blk_cell BK736.out 0).trans rfl; have hcz25_1 : w18.cell? ⟨gb736, 1, none⟩ = some (.slice Ao16 t732.length co16) := (blk_cell BK736.out 1).trans rfl; have hfz25_0 := blk_frozen BK736.out 0; have hfz25_1 := blk_frozen BK736.out 1) | (go_at_call 13; (with_reducible refine (impl_Collides.calls t722 _ _ t729 _ _ t732 _ _ ?side1 ?side2 ?side3 ?side4 A24.out).mono ?_); (case side1 => exact cv ((Kd.R_reads' HO731.out).2.2)); (case side2 => exact (Kd.R_reads' HO731.out).2.1); (case side3 => exact cv ((Kd.R_reads' HO734.out).2.2)); (case side4 => exact (Kd.R_reads' HO734.out).2.1); rintro e w26 ⟨rfl, hb⟩; replace HO725 := am (Kd.N_below (mv HO725.out) hb); replace HO728 := am (Kd.N_below (mv HO728.out) hb); replace HO731 := am (Kd.R_below (mv HO731.out) hb); replace HO734 := am (Kd.R_below (mv HO734.out) hb); replace BK736 := am (blk_below (g := gb736) (o := .cells #[.slice Ao14 t729.length co14, .slice Ao16 t732.length co16] 33 (0, 0)) (mb BK736.out) hb); replace HB := am (below_step (b1 GE736.out) hb); (try clear hb); (try clear hb2); (try clear hk); (try clear hi)))
         go_meet
         case rel => exact ⟨_, _, (by first | rfl | (simp; done) | (simp [*]; done)), H', ⟨by first | omega | exact Nat.le_refl _⟩, ⟨mv HO731.out⟩, ⟨mv HO734.out⟩, ⟨mb BK736.out⟩, ⟨b1 GE736.out⟩⟩
        ·go_wp2_with (first | (go_at_call 19; (with_reducible refine (laws_sameLists.calls _ _ t723 _ _ t726 _ _ ?side1 ?side2 ?side3 ?side4 A21.out).mono ?_); (case side1 => exact cv ((Kd.N_reads' HO725.out).2.2)); (case side2 => exact (Kd.N_reads' HO725.out).2.1); (case side3 => exact cv ((Kd.N_reads' HO728.out).2.2)); (case side4 => exact (Kd.N_reads' HO728.out).2.1); rintro e w' ⟨rfl, ⟨nd, rfl⟩⟩; have hcz25_0 : w18.cell? ⟨gb736, 0, none⟩ = some (.slice Ao14 t729.length co14) := (blk_cell BK736.out 0).trans rfl; have hcz25_1 : w18.cell? ⟨gb736, 1, none⟩ = some (.slice Ao16 t732.length co16) := (blk_cell BK736.out 1).trans rfl; have hfz25_0 := blk_frozen BK736.out 0; have hfz25_1 := blk_frozen BK736.out 1) | (go_at_call 13; (with_reducible refine (impl_Collides.calls t722 _ _ t729 _ _ t732 _ _ ?side1 ?side2 ?side3 ?side4 A24.out).mono ?_); (case side1 => exact cv ((Kd.R_reads' HO731.out).2.2)); (case side2 => exact (Kd.R_reads' HO731.out).2.1); (case side3 => exact cv ((Kd.R_reads' HO734.out).2.2)); (case side4 => exact (Kd.R_reads' HO734.out).2.1); rintro e w26 ⟨rfl, hb⟩; replace HO725 := am (Kd.N_below (mv HO725.out) hb); replace HO728 := am (Kd.N_below (mv HO728.out) hb); replace HO731 := am (Kd.R_below (mv HO731.out) hb); replace HO734 := am (Kd.R_below (mv HO734.out) hb); replace BK736 := am (blk_below (g := gb736) (o := .cells #[.slice Ao14 t729.length co14, .slice Ao16 t732.length co16] 33 (0, 0)) (mb BK736.out) hb); replace HB := am (below_step (b1 GE736.out) hb); (try clear hb); (try clear hb2); (try clear hk); (try clear hi)))
         go_meet
         case rel => exact ⟨_, _, (by first | rfl | (simp; done) | (simp [*]; done)), H', ⟨by first | omega | exact Nat.le_refl _⟩, ⟨mv HO731.out⟩, ⟨mv HO734.out⟩, ⟨mb BK736.out⟩, ⟨b1 GE736.out⟩⟩
       ·cases t740
        ·exact absurd c22b0 (by decide)
        ·exact absurd c22b0 (by decide)
      ·replace c23 := Bool.eq_false_iff.mpr c23
       subst c23
       rw [if_neg (show ¬ (false = true) by decide)] at H
       have H' := am H
       clear H
       cases t739
       ·exact absurd c22b0 (by decide)
       ·go_wp2_with (first | (go_at_call 19; (with_reducible refine (laws_sameLists.calls _ _ t723 _ _ t726 _ _ ?side1 ?side2 ?side3 ?side4 A21.out).mono ?_); (case side1 => exact cv ((Kd.N_reads' HO725.out).2.2)); (case side2 => exact (Kd.N_reads' HO725.out).2.1); (case side3 => exact cv ((Kd.N_reads' HO728.out).2.2)); (case side4 => exact (Kd.N_reads' HO728.out).2.1); rintro e w' ⟨rfl, ⟨nd, rfl⟩⟩))
        go_meet
        case rel => exact ⟨_, (false), (by first | rfl | (simp; done) | (simp [*]; done)), H', ⟨by first | omega | exact Nat.le_refl _⟩, ⟨mv HO731.out⟩, ⟨mv HO734.out⟩, ⟨mb BK736.out⟩, ⟨b1 GE736.out⟩⟩
    ·rw [if_neg c20] at H
     have c20b0 : (t737 == t738) = false := beq_eq_false_iff_ne.mpr c20
     have c20b1 : (t737 != t738) = true := bne_iff_ne.mpr c20
     by_cases c27 : (t735 != false) = true
     ·rw [if_pos c27] at H
      have c27b0 : (t735 != false) = true := c27
      (try (have c27b1 : decide (t735 = false) = false := by simpa using c27))
      (try (have c27b2 : (t735 == false) = false := by simpa using c27))
      (try (have c27b3 : ¬ (t735 = false) := by simpa using c27))
      clear c27
      have H' := am H
      clear H
      cases t735
      ·exact absurd c27b0 (by decide)
      ·go_wp2
       go_meet
       case rel => exact ⟨_, (true), (by first | rfl | (simp; done) | (simp [*]; done)), H', ⟨by first | omega | exact Nat.le_refl _⟩, ⟨mv HO731.out⟩, ⟨mv HO734.out⟩, ⟨mb BK736.out⟩, ⟨b1 GE736.out⟩⟩
     ·rw [if_neg c27] at H
      have c27b0 : (t735 != false) = false := by simpa using c27
      (try (have c27b1 : decide (t735 = false) = true := by simpa using c27))
      (try (have c27b2 : (t735 == false) = true := by simpa using c27))
      clear c27
      by_cases c28 : t735 = true
      ·subst c28
       rw [if_pos rfl] at H
       replace H := Option.bind_eq_some_iff.mp H
       obtain ⟨t741, A290, H⟩ := H
       (try dsimp -simprocs only at H)
       have A29 := am A290
       clear A290
       have H' := am H
       clear H
       have hcz30_0 : w18.cell? ⟨gb736, 0, none⟩ = some (.slice Ao14 t729.length co14) := (blk_cell BK736.out 0).trans rfl
       have hcz30_1 : w18.cell? ⟨gb736, 1, none⟩ = some (.slice Ao16 t732.length co16) := (blk_cell BK736.out 1).trans rfl
       have hfz30_0 := blk_frozen BK736.out 0
       have hfz30_1 := blk_frozen BK736.out 1
       go_wp2_with (first | (go_at_call 13; (with_reducible refine (impl_Collides.calls t722 _ _ t729 _ _ t732 t741 _ ?side1 ?side2 ?side3 ?side4 A29.out).mono ?_); (case side1 => exact cv ((Kd.R_reads' HO731.out).2.2)); (case side2 => exact (Kd.R_reads' HO731.out).2.1); (case side3 => exact cv ((Kd.R_reads' HO734.out).2.2)); (case side4 => exact (Kd.R_reads' HO734.out).2.1); rintro e w31 ⟨rfl, hb⟩; replace HO725 := am (Kd.N_below (mv HO725.out) hb); replace HO728 := am (Kd.N_below (mv HO728.out) hb); replace HO731 := am (Kd.R_below (mv HO731.out) hb); replace HO734 := am (Kd.R_below (mv HO734.out) hb); replace BK736 := am (blk_below (g := gb736) (o := .cells #[.slice Ao14 t729.length co14, .slice Ao16 t732.length co16] 33 (0, 0)) (mb BK736.out) hb); replace HB := am (below_step (b1 GE736.out) hb); (try clear hb); (try clear hb2); (try clear hk); (try clear hi)))
       go_meet
       case rel => exact ⟨_, (!t741), (by first | rfl | (simp; done) | (simp [*]; done)), H', ⟨by first | omega | exact Nat.le_refl _⟩, ⟨mv HO731.out⟩, ⟨mv HO734.out⟩, ⟨mb BK736.out⟩, ⟨b1 GE736.out⟩⟩
      ·replace c28 := Bool.eq_false_iff.mpr c28
       subst c28
       rw [if_neg (show ¬ (false = true) by decide)] at H
       have H' := am H
       clear H
       go_wp2
       go_meet
       case rel => exact ⟨_, (false), (by first | rfl | (simp; done) | (simp [*]; done)), H', ⟨by first | omega | exact Nat.le_refl _⟩, ⟨mv HO731.out⟩, ⟨mv HO734.out⟩, ⟨mb BK736.out⟩, ⟨b1 GE736.out⟩⟩
   ·rw [if_neg c19] at H
    have c19b0 : decide (0 ≤ t737) = false := decide_eq_false c19
    clear c19
    (first | rw [c19b0] | (simp only [i64_w, i32_w]; rw [c19b0]) | skip)
    by_cases c32 : (t735 != false) = true
    ·rw [if_pos c32] at H
     have c32b0 : (t735 != false) = true := c32
     (try (have c32b1 : decide (t735 = false) = false := by simpa using c32))
     (try (have c32b2 : (t735 == false) = false := by simpa using c32))
     (try (have c32b3 : ¬ (t735 = false) := by simpa using c32))
     clear c32
     have H' := am H
     clear H
     cases t735
     ·exact absurd c32b0 (by decide)
     ·go_wp2
      go_meet
      case rel => exact ⟨_, (true), (by first | rfl | (simp; done) | (simp [*]; done)), H', ⟨by first | omega | exact Nat.le_refl _⟩, ⟨mv HO731.out⟩, ⟨mv HO734.out⟩, ⟨mb BK736.out⟩, ⟨b1 GE736.out⟩⟩
    ·rw [if_neg c32] at H
     have c32b0 : (t735 != false) = false := by simpa using c32
     (try (have c32b1 : decide (t735 = false) = true := by simpa using c32))
     (try (have c32b2 : (t735 == false) = true := by simpa using c32))
     clear c32
     by_cases c33 : t735 = true
     ·subst c33
      rw [if_pos rfl] at H
      replace H := Option.bind_eq_some_iff.mp H
      obtain ⟨t742, A340, H⟩ := H
      (try dsimp -simprocs only at H)
      have A34 := am A340
      clear A340
      have H' := am H
      clear H
      have hcz35_0 : w18.cell? ⟨gb736, 0, none⟩ = some (.slice Ao14 t729.length co14) := (blk_cell BK736.out 0).trans rfl
      have hcz35_1 : w18.cell? ⟨gb736, 1, none⟩ = some (.slice Ao16 t732.length co16) := (blk_cell BK736.out 1).trans rfl
      have hfz35_0 := blk_frozen BK736.out 0
      have hfz35_1 := blk_frozen BK736.out 1
      go_wp2_with (first | (go_at_call 13; (with_reducible refine (impl_Collides.calls t722 _ _ t729 _ _ t732 t742 _ ?side1 ?side2 ?side3 ?side4 A34.out).mono ?_); (case side1 => exact cv ((Kd.R_reads' HO731.out).2.2)); (case side2 => exact (Kd.R_reads' HO731.out).2.1); (case side3 => exact cv ((Kd.R_reads' HO734.out).2.2)); (case side4 => exact (Kd.R_reads' HO734.out).2.1); rintro e w36 ⟨rfl, hb⟩; replace HO725 := am (Kd.N_below (mv HO725.out) hb); replace HO728 := am (Kd.N_below (mv HO728.out) hb); replace HO731 := am (Kd.R_below (mv HO731.out) hb); replace HO734 := am (Kd.R_below (mv HO734.out) hb); replace BK736 := am (blk_below (g := gb736) (o := .cells #[.slice Ao14 t729.length co14, .slice Ao16 t732.length co16] 33 (0, 0)) (mb BK736.out) hb); replace HB := am (below_step (b1 GE736.out) hb); (try clear hb); (try clear hb2); (try clear hk); (try clear hi)))
      go_meet
      case rel => exact ⟨_, (!t742), (by first | rfl | (simp; done) | (simp [*]; done)), H', ⟨by first | omega | exact Nat.le_refl _⟩, ⟨mv HO731.out⟩, ⟨mv HO734.out⟩, ⟨mb BK736.out⟩, ⟨b1 GE736.out⟩⟩
     ·replace c33 := Bool.eq_false_iff.mpr c33
      subst c33
      rw [if_neg (show ¬ (false = true) by decide)] at H
      have H' := am H
      clear H
      go_wp2
      go_meet
      case rel => exact ⟨_, (false), (by first | rfl | (simp; done) | (simp [*]; done)), H', ⟨by first | omega | exact Nat.le_refl _⟩, ⟨mv HO731.out⟩, ⟨mv HO734.out⟩, ⟨mb BK736.out⟩, ⟨b1 GE736.out⟩⟩
  case rest =>
   clear HC8
   try clear c1
   try clear c2
   try clear p2
   try clear c3
   try clear c4
   try clear c9
   try clear c11
   try clear c17
   try clear c18
   try clear c19
   try clear c19b0
   try clear c20
   try clear c20b0
   try clear c20b1
   try clear c22
   try clear c22b0
   try clear c22b1
   try clear c22b2
   try clear c23
   try clear c27
   try clear c27b0
   try clear c27b1
   try clear c27b2
   try clear c28
   try clear c32
   try clear c32b0
   try clear c32b1
   try clear c32b2
   try clear c33
   try clear hcz15_0
   try clear hcz15_1
   try clear hcz25_0
   try clear hcz25_1
   try clear hcz30_0
   try clear hcz30_1
   try clear hcz35_0
   try clear hcz35_1
   try clear hfz15_0
   try clear hfz15_1
   try clear hfz25_0
   try clear hfz25_1
   try clear hfz30_0
   try clear hfz30_1
   try clear hfz35_0
   try clear hfz35_1
   obtain ⟨kq, x70_7, rfl, HA, HJ7, HO_737000, HO_737001, BK736, HB⟩ := hcut
   cases kq with
   | zero => exact absurd HA.out (by simp [laws_FnForgery.j0])
   | succ kj7 =>
    have H := HA.out
    clear HA
    simp only [laws_FnForgery.j0] at H
    by_cases c37 : x70_7 = true
    ·subst c37
     rw [if_pos rfl] at H
     exact absurd ((Option.some.inj H).trans hT.out) (by decide)
    ·replace c37 := Bool.eq_false_iff.mpr c37
     subst c37
     rw [if_neg (show ¬ (false = true) by decide)] at H
     replace H := Option.bind_eq_some_iff.mp H
     obtain ⟨⟨t743, t744, t745, t746, t747, t748, t749⟩, A380, H⟩ := H
     (try dsimp -simprocs only at H)
     have A38 := am A380
     clear A380
     replace H := Option.bind_eq_some_iff.mp H
     obtain ⟨⟨t758, t761, t764⟩, A390, H⟩ := H
     (try dsimp -simprocs only at H)
     have A39 := am A390
     clear A390
     replace H := Option.bind_eq_some_iff.mp H
     obtain ⟨t766, A400, H⟩ := H
     (try dsimp -simprocs only at H)
     have A40 := am A400
     clear A400
     replace H := Option.bind_eq_some_iff.mp H
     obtain ⟨t767, A410, H⟩ := H
     (try dsimp -simprocs only at H)
     have A41 := am A410
     clear A410
     have HC42 := am H
     clear H
     go_upto_region 11 with (first | ((with_reducible refine gate_callee (f := 20) rfl ?_); refine goesL_ (some 73) rfl rfl Try.func20 (by kernel_rfl) rfl #[.slice A0 l0.length c0] rfl av ?_; (with_reducible refine (spec_DrawFromPaths.calls kj7 _ _ l0 t743 t744 t745 t746 t747 t748 t749 _ ?side1 ?side2 A38.out).mono ?_); (case side1 => exact cv ((Kd.C_below HR0.out HB.out))); (case side2 => exact HC0.out); rintro e w43 ⟨v750, v752, v754, v756, rfl, ho0, ho1, ho2, ho3, hb⟩; refine ⟨_, rfl, ?_⟩; have HO751 := am (Kd.R_lower (Kd.R_new' (Kd.R_new' ho0 (Kd.R_lt (mv HO_737000.out))) (Kd.R_lt (mv HO_737001.out))) (below_size (b1 GE736.out))); have HO753 := am (Kd.R_lower ho1 (below_size (b1 GE736.out))); have HO755 := am (Kd.R_lower (Kd.R_new' (Kd.R_new' ho2 (Kd.R_lt (mv HO_737000.out))) (Kd.R_lt (mv HO_737001.out))) (below_size (b1 GE736.out))); replace HO_737000 := am (Kd.R_mono (Kd.R_told (Kd.R_told (Kd.R_old (mv HO_737000.out) hb) (Kd.R_base ho0)) (Kd.R_base ho2)) (fun _ h_ => h_.1)); replace HO_737001 := am (Kd.R_mono (Kd.R_told (Kd.R_told (Kd.R_old (mv HO_737001.out) hb) (Kd.R_base ho0)) (Kd.R_base ho2)) (fun _ h_ => h_.1)); have HO757 := am (Kd.R_lower ho3 (below_size (b1 GE736.out))); replace BK736 := am (blk_below (g := gb736) (o := .cells #[.slice Ao14 t729.length co14, .slice Ao16 t732.length co16] 33 (0, 0)) (mb BK736.out) hb); replace HB := am (below_step (b1 GE736.out) hb); (try clear hb); (try clear hb2); (try clear hk); (try clear hi); (try clear ho0); (try clear ho1); (try clear ho2); (try clear ho3); obtain ⟨Ao44, co44, eo44⟩ := Kd.R_slice HO751.out; subst eo44; obtain ⟨Ao45, co45, eo45⟩ := Kd.R_slice HO753.out; subst eo45; obtain ⟨Ao46, co46, eo46⟩ := Kd.R_slice HO755.out; subst eo46; obtain ⟨Ao47, co47, eo47⟩ := Kd.R_slice HO757.out; subst eo47) | ((with_reducible refine gate_callee (f := 21) rfl ?_); refine goesL_ (some 89) rfl rfl Try.func21 (by kernel_rfl) rfl #[.int .i64 t743, .int .i64 t744, .int .i64 t745, .slice Ao44 t746.length co44, .slice Ao45 t747.length co45, .slice Ao46 t748.length co46, .slice Ao47 t749.length co47] rfl av ?_; (with_reducible refine (impl_FromPaths.calls kj7 t743 t744 t745 _ _ t746 _ _ t747 _ _ t748 _ _ t749 t758 t761 t764 _ ?side1 ?side2 ?side3 ?side4 ?side5 ?side6 ?side7 ?side8 A39.out).mono ?_); (case side1 => exact cv ((Kd.R_reads' HO751.out).2.2)); (case side2 => exact (Kd.R_reads' HO751.out).2.1); (case side3 => exact cv ((Kd.R_reads' HO753.out).2.2)); (case side4 => exact (Kd.R_reads' HO753.out).2.1); (case side5 => exact cv ((Kd.R_reads' HO755.out).2.2)); (case side6 => exact (Kd.R_reads' HO755.out).2.1); (case side7 => exact cv ((Kd.R_reads' HO757.out).2.2)); (case side8 => exact (Kd.R_reads' HO757.out).2.1); rintro e w48 ⟨v759, v762, rfl, ho0, ho1, hb⟩; refine ⟨_, rfl, ?_⟩; replace HO753 := am (Kd.R_below (mv HO753.out) hb); replace HO757 := am (Kd.R_below (mv HO757.out) hb); have HO760 := am (Kd.R_lower (Kd.R_new' (Kd.R_new' (Kd.R_new' (Kd.R_new' ho0 (Kd.R_lt (mv HO_737000.out))) (Kd.R_lt (mv HO_737001.out))) (Kd.R_lt (mv HO751.out))) (Kd.R_lt (mv HO755.out))) (below_size (b1 GE736.out))); have HO763 := am (Kd.R_lower (Kd.R_new' (Kd.R_new' (Kd.R_new' (Kd.R_new' ho1 (Kd.R_lt (mv HO_737000.out))) (Kd.R_lt (mv HO_737001.out))) (Kd.R_lt (mv HO751.out))) (Kd.R_lt (mv HO755.out))) (below_size (b1 GE736.out))); replace HO_737000 := am (Kd.R_mono (Kd.R_told (Kd.R_told (Kd.R_old (mv HO_737000.out) hb) (Kd.R_base ho0)) (Kd.R_base ho1)) (fun _ h_ => h_.1)); replace HO_737001 := am (Kd.R_mono (Kd.R_told (Kd.R_told (Kd.R_old (mv HO_737001.out) hb) (Kd.R_base ho0)) (Kd.R_base ho1)) (fun _ h_ => h_.1)); replace HO751 := am (Kd.R_mono (Kd.R_told (Kd.R_told (Kd.R_old (mv HO751.out) hb) (Kd.R_base ho0)) (Kd.R_base ho1)) (fun _ h_ => h_.1)); replace HO755 := am (Kd.R_mono (Kd.R_told (Kd.R_told (Kd.R_old (mv HO755.out) hb) (Kd.R_base ho0)) (Kd.R_base ho1)) (fun _ h_ => h_.1)); replace BK736 := am (blk_below (g := gb736) (o := .cells #[.slice Ao14 t729.length co14, .slice Ao16 t732.length co16] 33 (0, 0)) (mb BK736.out) hb); replace HB := am (below_step (b1 GE736.out) hb); (try clear hb); (try clear hb2); (try clear hk); (try clear hi); (try clear ho0); (try clear ho1)) | ((with_reducible refine gate_dst (N := 17) rfl ?_); refine box_event ?hg (N := 17) ?hd (cs := #[.slice none 0 0, .slice none 0 0]) (t := 33) ?hr ?_; (case hd => rfl); (case hg => rfl); (case hr => first | (go_simp; done) | (go_simp; rfl)); intro gb765 hg w49 hbox hb; replace HO_737000 := am (Kd.R_below (mv HO_737000.out) hb); replace HO_737001 := am (Kd.R_below (mv HO_737001.out) hb); replace HO751 := am (Kd.R_below (mv HO751.out) hb); replace HO753 := am (Kd.R_below (mv HO753.out) hb); replace HO755 := am (Kd.R_below (mv HO755.out) hb); replace HO757 := am (Kd.R_below (mv HO757.out) hb); replace HO760 := am (Kd.R_below (mv HO760.out) hb); replace HO763 := am (Kd.R_below (mv HO763.out) hb); have BK765 := am (hbox); have GW765 := am ((by rw [hg]; exact (below_size (b1 GE736.out)) : w.heap.size ≤ gb765)); have GE765 := am ((by rw [hg]; exact (below_size (b1 GE736.out)) : w.heap.size ≤ gb765)); replace HB := am (below_step (b1 GE736.out) hb); have NB736_765 := am ((by rw [hg]; exact Nat.ne_of_lt (blk_lt (g := gb736) (o := .cells #[.slice Ao14 t729.length co14, .slice Ao16 t732.length co16] 33 (0, 0)) (mb BK736.out)) : gb736 ≠ gb765)); have NB765_736 := am ((by rw [hg]; exact Nat.ne_of_gt (blk_lt (g := gb736) (o := .cells #[.slice Ao14 t729.length co14, .slice Ao16 t732.length co16] 33 (0, 0)) (mb BK736.out)) : gb765 ≠ gb736)); replace BK736 := am (blk_below (g := gb736) (o := .cells #[.slice Ao14 t729.length co14, .slice Ao16 t732.length co16] 33 (0, 0)) (mb BK736.out) hb); clear hb hbox hg; obtain ⟨Ao50, co50, eo50⟩ := Kd.R_slice HO760.out; subst eo50; have hnb51 := NB765_736.out; have hnc51 := NB736_765.out; have hcz52_0 : w49.cell? ⟨gb765, 0, none⟩ = some (.slice none 0 0) := (blk_cell BK765.out 0).trans rfl; have hcz52_1 : w49.cell? ⟨gb765, 1, none⟩ = some (.slice none 0 0) := (blk_cell BK765.out 1).trans rfl; have hfz52_0 := blk_frozen BK765.out 0; have hfz52_1 := blk_frozen BK765.out 1; obtain ⟨Ao53, co53, eo53⟩ := Kd.R_slice HO763.out; subst eo53) | ((with_reducible refine gate_callee (f := 22) rfl ?_); refine goesL_ (some 97) rfl rfl Try.func22 (by kernel_rfl) rfl #[.int .i64 t743, .int .i64 t744, .int .i64 t745, .slice Ao44 t746.length co44, .slice Ao45 t747.length co45] rfl av ?_; (with_reducible refine (impl_RootFrom.calls kj7 t743 t744 t745 _ _ t746 _ _ t747 t766 _ ?side1 ?side2 ?side3 ?side4 A40.out).mono ?_); (case side1 => refine (Kd.R_reads' (e := 5) (base := w.heap.size) (ok := fun k_ => ((((some k_ ≠ (.slice Ao46 t748.length co46 : Value).ownBlock ∧ some k_ ≠ (.slice Ao14 t729.length co14 : Value).ownBlock) ∧ some k_ ≠ (.slice Ao16 t732.length co16 : Value).ownBlock) ∧ some k_ ≠ (.slice Ao50 t758.length co50 : Value).ownBlock) ∧ some k_ ≠ (.slice Ao53 t761.length co53 : Value).ownBlock)) (n := t746.length) (c := co44) ?_).2.2; exact (by (with_reducible repeat (first | apply Kd.R_alloc | apply Kd.R_drewN | apply Kd.R_drew)); exact (Kd.R_mono (Kd.R_far (p := ⟨gb765, 1, none⟩) (Kd.R_far (p := ⟨gb765, 0, none⟩) (Kd.R_types HO751.out BK765.out (by decide)) (fun _ hk => hk.2) (.slice Ao50 t758.length co50)) (fun _ hk => hk.2) (.slice Ao53 t761.length co53)) (fun _ h_ => h_.1)))); (case side2 => exact (Kd.R_reads' HO751.out).2.1); (case side3 => refine (Kd.R_reads' (e := 3) (base := w.heap.size) (ok := fun k_ => some k_ ≠ (.slice Ao47 t749.length co47 : Value).ownBlock) (n := t747.length) (c := co45) ?_).2.2; exact (by (with_reducible repeat (first | apply Kd.R_alloc | apply Kd.R_drewN | apply Kd.R_drew)); exact (Kd.R_mono (Kd.R_far (p := ⟨gb765, 1, none⟩) (Kd.R_far (p := ⟨gb765, 0, none⟩) (Kd.R_types HO753.out BK765.out (by decide)) (fun _ hk => hk.2) (.slice Ao50 t758.length co50)) (fun _ hk => hk.2) (.slice Ao53 t761.length co53)) (fun _ h_ => h_.1)))); (case side4 => exact (Kd.R_reads' HO753.out).2.1); rintro e w54 ⟨rfl, hb⟩; refine ⟨_, rfl, ?_⟩; replace HO_737000 := am (Kd.R_below (by (with_reducible repeat (first | apply Kd.R_alloc | apply Kd.R_drewN | apply Kd.R_drew)); exact (Kd.R_mono (Kd.R_far (p := ⟨gb765, 1, none⟩) (Kd.R_far (p := ⟨gb765, 0, none⟩) (Kd.R_types HO_737000.out BK765.out (by decide)) (fun _ hk => hk.2) (.slice Ao50 t758.length co50)) (fun _ hk => hk.2) (.slice Ao53 t761.length co53)) (fun _ h_ => h_.1))) hb); replace HO_737001 := am (Kd.R_below (by (with_reducible repeat (first | apply Kd.R_alloc | apply Kd.R_drewN | apply Kd.R_drew)); exact (Kd.R_mono (Kd.R_far (p := ⟨gb765, 1, none⟩) (Kd.R_far (p := ⟨gb765, 0, none⟩) (Kd.R_types HO_737001.out BK765.out (by decide)) (fun _ hk => hk.2) (.slice Ao50 t758.length co50)) (fun _ hk => hk.2) (.slice Ao53 t761.length co53)) (fun _ h_ => h_.1))) hb); replace HO751 := am (Kd.R_below (by (with_reducible repeat (first | apply Kd.R_alloc | apply Kd.R_drewN | apply Kd.R_drew)); exact (Kd.R_mono (Kd.R_far (p := ⟨gb765, 1, none⟩) (Kd.R_far (p := ⟨gb765, 0, none⟩) (Kd.R_types HO751.out BK765.out (by decide)) (fun _ hk => hk.2) (.slice Ao50 t758.length co50)) (fun _ hk => hk.2) (.slice Ao53 t761.length co53)) (fun _ h_ => h_.1))) hb); replace HO753 := am (Kd.R_below (by (with_reducible repeat (first | apply Kd.R_alloc | apply Kd.R_drewN | apply Kd.R_drew)); exact (Kd.R_mono (Kd.R_far (p := ⟨gb765, 1, none⟩) (Kd.R_far (p := ⟨gb765, 0, none⟩) (Kd.R_types HO753.out BK765.out (by decide)) (fun _ hk => hk.2) (.slice Ao50 t758.length co50)) (fun _ hk => hk.2) (.slice Ao53 t761.length co53)) (fun _ h_ => h_.1))) hb); replace HO755 := am (Kd.R_below (by (with_reducible repeat (first | apply Kd.R_alloc | apply Kd.R_drewN | apply Kd.R_drew)); exact (Kd.R_mono (Kd.R_far (p := ⟨gb765, 1, none⟩) (Kd.R_far (p := ⟨gb765, 0, none⟩) (Kd.R_types HO755.out BK765.out (by decide)) (fun _ hk => hk.2) (.slice Ao50 t758.length co50)) (fun _ hk => hk.2) (.slice Ao53 t761.length co53)) (fun _ h_ => h_.1))) hb); replace HO757 := am (Kd.R_below (by (with_reducible repeat (first | apply Kd.R_alloc | apply Kd.R_drewN | apply Kd.R_drew)); exact (Kd.R_mono (Kd.R_far (p := ⟨gb765, 1, none⟩) (Kd.R_far (p := ⟨gb765, 0, none⟩) (Kd.R_types HO757.out BK765.out (by decide)) (fun _ hk => hk.2) (.slice Ao50 t758.length co50)) (fun _ hk => hk.2) (.slice Ao53 t761.length co53)) (fun _ h_ => h_.1))) hb); replace HO760 := am (Kd.R_below (by (with_reducible repeat (first | apply Kd.R_alloc | apply Kd.R_drewN | apply Kd.R_drew)); exact (Kd.R_mono (Kd.R_far (p := ⟨gb765, 1, none⟩) (Kd.R_far (p := ⟨gb765, 0, none⟩) (Kd.R_types HO760.out BK765.out (by decide)) (fun _ hk => hk.2) (.slice Ao50 t758.length co50)) (fun _ hk => hk.2) (.slice Ao53 t761.length co53)) (fun _ h_ => h_.1))) hb); replace HO763 := am (Kd.R_below (by (with_reducible repeat (first | apply Kd.R_alloc | apply Kd.R_drewN | apply Kd.R_drew)); exact (Kd.R_mono (Kd.R_far (p := ⟨gb765, 1, none⟩) (Kd.R_far (p := ⟨gb765, 0, none⟩) (Kd.R_types HO763.out BK765.out (by decide)) (fun _ hk => hk.2) (.slice Ao50 t758.length co50)) (fun _ hk => hk.2) (.slice Ao53 t761.length co53)) (fun _ h_ => h_.1))) hb); replace BK736 := am (blk_below (g := gb736) (o := .cells #[.slice Ao14 t729.length co14, .slice Ao16 t732.length co16] 33 (0, 0)) (by (with_reducible repeat (first | refine blk_drewN ?_ _ | refine blk_drew ?_ | refine blk_alloc ?_ _)); refine blk_far ?_ NB736_765.out _; (with_reducible repeat (first | refine blk_drewN ?_ _ | refine blk_drew ?_ | refine blk_alloc ?_ _)); refine blk_far ?_ NB736_765.out _; (with_reducible repeat (first | refine blk_drewN ?_ _ | refine blk_drew ?_ | refine blk_alloc ?_ _)); exact BK736.out) hb); replace BK765 := am (blk_below (g := gb765) (o := .cells #[.slice Ao50 t758.length co50, .slice Ao53 t761.length co53] 33 (0, 0)) (by (with_reducible repeat (first | refine blk_drewN ?_ _ | refine blk_drew ?_ | refine blk_alloc ?_ _)); refine blk_put (cs := #[.slice Ao50 t758.length co50, .slice none 0 0]) ?_ 1 _ rfl; (with_reducible repeat (first | refine blk_drewN ?_ _ | refine blk_drew ?_ | refine blk_alloc ?_ _)); refine blk_put (cs := #[.slice none 0 0, .slice none 0 0]) ?_ 0 _ rfl; (with_reducible repeat (first | refine blk_drewN ?_ _ | refine blk_drew ?_ | refine blk_alloc ?_ _)); exact BK765.out) hb); replace HB := am (below_step (b2 GE736.out GE765.out) hb); (try clear hb); (try clear hb2); (try clear hk); (try clear hi)) | ((with_reducible refine gate_callee (f := 22) rfl ?_); refine goesL_ (some 103) rfl rfl Try.func22 (by kernel_rfl) rfl #[.int .i64 t743, .int .i64 t744, .int .i64 t745, .slice Ao46 t748.length co46, .slice Ao47 t749.length co47] rfl av ?_; (with_reducible refine (impl_RootFrom.calls kj7 t743 t744 t745 _ _ t748 _ _ t749 t767 _ ?side1 ?side2 ?side3 ?side4 A41.out).mono ?_); (case side1 => exact cv ((Kd.R_reads' HO755.out).2.2)); (case side2 => exact (Kd.R_reads' HO755.out).2.1); (case side3 => exact cv ((Kd.R_reads' HO757.out).2.2)); (case side4 => exact (Kd.R_reads' HO757.out).2.1); rintro e w55 ⟨rfl, hb⟩; refine ⟨_, rfl, ?_⟩; replace HO_737000 := am (Kd.R_below (mv HO_737000.out) hb); replace HO_737001 := am (Kd.R_below (mv HO_737001.out) hb); replace HO751 := am (Kd.R_below (mv HO751.out) hb); replace HO753 := am (Kd.R_below (mv HO753.out) hb); replace HO755 := am (Kd.R_below (mv HO755.out) hb); replace HO757 := am (Kd.R_below (mv HO757.out) hb); replace HO760 := am (Kd.R_below (mv HO760.out) hb); replace HO763 := am (Kd.R_below (mv HO763.out) hb); replace BK736 := am (blk_below (g := gb736) (o := .cells #[.slice Ao14 t729.length co14, .slice Ao16 t732.length co16] 33 (0, 0)) (mb BK736.out) hb); replace BK765 := am (blk_below (g := gb765) (o := .cells #[.slice Ao50 t758.length co50, .slice Ao53 t761.length co53] 33 (0, 0)) (mb BK765.out) hb); replace HB := am (below_step (b2 GE736.out GE765.out) hb); (try clear hb); (try clear hb2); (try clear hk); (try clear hi)))
     (try simp only [Act.put, List.setIfInBounds_toArray, List.set_cons_zero, List.set_cons_succ])
     go_cut [139] (fun v139 wc => ∃ (kq : Nat) (x139_41 : Bool), v139 = .bool x139_41 ∧ Aside0 (laws_FnForgery.j1 kq l0 x139_41 = some r) ∧ Aside0 (kq ≤ kj7) ∧ Aside0 (Kd.R (Kd.int .u8) 5 wc w.heap.size (fun k_ => some k_ ≠ ((.slice Ao16 t732.length co16) : Value).ownBlock ∧ some k_ ≠ ((.slice Ao50 t758.length co50) : Value).ownBlock ∧ some k_ ≠ ((.slice Ao53 t761.length co53) : Value).ownBlock) (.slice Ao14 t729.length co14) t729) ∧ Aside0 (Kd.R (Kd.int .u8) 5 wc w.heap.size (fun k_ => some k_ ≠ ((.slice Ao14 t729.length co14) : Value).ownBlock ∧ some k_ ≠ ((.slice Ao50 t758.length co50) : Value).ownBlock ∧ some k_ ≠ ((.slice Ao53 t761.length co53) : Value).ownBlock) (.slice Ao16 t732.length co16) t732) ∧ Aside0 (Kd.R (Kd.int .u8) 5 wc w.heap.size (fun k_ => some k_ ≠ ((.slice Ao14 t729.length co14) : Value).ownBlock ∧ some k_ ≠ ((.slice Ao16 t732.length co16) : Value).ownBlock ∧ some k_ ≠ ((.slice Ao53 t761.length co53) : Value).ownBlock) (.slice Ao50 t758.length co50) t758) ∧ Aside0 (Kd.R (Kd.int .u8) 5 wc w.heap.size (fun k_ => some k_ ≠ ((.slice Ao14 t729.length co14) : Value).ownBlock ∧ some k_ ≠ ((.slice Ao16 t732.length co16) : Value).ownBlock ∧ some k_ ≠ ((.slice Ao50 t758.length co50) : Value).ownBlock) (.slice Ao53 t761.length co53) t761) ∧ Aside0 (wc.heap[gb736]? = some (.cells #[(.slice Ao14 t729.length co14), (.slice Ao16 t732.length co16)] 33 (0, 0))) ∧ Aside0 (wc.heap[gb765]? = some (.cells #[(.slice Ao50 t758.length co50), (.slice Ao53 t761.length co53)] 33 (0, 0))) ∧ Aside0 (Below w.heap.size w wc))
     case first =>
      have H := HC42.out
      clear HC42
      by_cases c56 : t764 = true
      ·subst c56
       rw [if_pos rfl] at H
       replace H := Option.bind_eq_some_iff.mp H
       obtain ⟨t768, A570, H⟩ := H
       (try dsimp -simprocs only at H)
       have A57 := am A570
       clear A570
       by_cases c58 : t768 = true
       ·subst c58
        rw [if_pos rfl] at H
        by_cases c59 : t766 = t767
        ·rw [if_pos c59] at H
         have c59b0 : (t766 == t767) = true := beq_iff_eq.mpr c59
         have c59b1 : (t766 != t767) = false := bne_eq_false_iff_eq.mpr c59
         clear c59
         (first | rw [c59b0] | (simp only [i64_w, i32_w]; rw [c59b0]) | skip)
         by_cases c60 : t766 < 0
         ·rw [if_pos c60] at H
          have c60b0 : decide (t766 < 0) = true := decide_eq_true c60
          clear c60
          have H' := am H
          clear H
          have hnb61 := NB765_736.out
          have hnc61 := NB736_765.out
          have hcz62_0 : w55.cell? ⟨gb765, 0, none⟩ = some (.slice Ao50 t758.length co50) := (blk_cell BK765.out 0).trans rfl
          have hcz62_1 : w55.cell? ⟨gb765, 1, none⟩ = some (.slice Ao53 t761.length co53) := (blk_cell BK765.out 1).trans rfl
          have hfz62_0 := blk_frozen BK765.out 0
          have hfz62_1 := blk_frozen BK765.out 1
          go_wp2_with (first | (go_at_call 13; (with_reducible refine (impl_Collides.calls t743 _ _ t758 _ _ t761 true _ ?side1 ?side2 ?side3 ?side4 A57.out).mono ?_); (case side1 => exact cv ((Kd.R_reads' HO760.out).2.2)); (case side2 => exact (Kd.R_reads' HO760.out).2.1); (case side3 => exact cv ((Kd.R_reads' HO763.out).2.2)); (case side4 => exact (Kd.R_reads' HO763.out).2.1); rintro e w63 ⟨rfl, hb⟩; replace HO_737000 := am (Kd.R_below (mv HO_737000.out) hb); replace HO_737001 := am (Kd.R_below (mv HO_737001.out) hb); replace HO751 := am (Kd.R_below (mv HO751.out) hb); replace HO753 := am (Kd.R_below (mv HO753.out) hb); replace HO755 := am (Kd.R_below (mv HO755.out) hb); replace HO757 := am (Kd.R_below (mv HO757.out) hb); replace HO760 := am (Kd.R_below (mv HO760.out) hb); replace HO763 := am (Kd.R_below (mv HO763.out) hb); replace BK736 := am (blk_below (g := gb736) (o := .cells #[.slice Ao14 t729.length co14, .slice Ao16 t732.length co16] 33 (0, 0)) (mb BK736.out) hb); replace BK765 := am (blk_below (g := gb765) (o := .cells #[.slice Ao50 t758.length co50, .slice Ao53 t761.length co53] 33 (0, 0)) (mb BK765.out) hb); replace HB := am (below_step (b2 GE736.out GE765.out) hb); (try clear hb); (try clear hb2); (try clear hk); (try clear hi)))
          go_meet
          case rel => exact ⟨_, (true), (by first | rfl | (simp; done) | (simp [*]; done)), H', ⟨by have := HJ7.out; first | omega | exact Nat.le_refl _⟩, ⟨by (with_reducible repeat (first | apply Kd.R_alloc | apply Kd.R_drewN | apply Kd.R_drew)); exact Kd.R_mono HO_737000.out (fun _ hk => ⟨hk.1.1.1.1, ⟨hk.1.2, hk.2⟩⟩)⟩, ⟨by (with_reducible repeat (first | apply Kd.R_alloc | apply Kd.R_drewN | apply Kd.R_drew)); exact Kd.R_mono HO_737001.out (fun _ hk => ⟨hk.1.1.1.1, ⟨hk.1.2, hk.2⟩⟩)⟩, ⟨by (with_reducible repeat (first | apply Kd.R_alloc | apply Kd.R_drewN | apply Kd.R_drew)); exact Kd.R_mono HO760.out (fun _ hk => ⟨hk.1.1.1.2, ⟨hk.1.1.2, hk.1.1.1.1⟩⟩)⟩, ⟨by (with_reducible repeat (first | apply Kd.R_alloc | apply Kd.R_drewN | apply Kd.R_drew)); exact Kd.R_mono HO763.out (fun _ hk => ⟨hk.1.1.1.2, ⟨hk.1.1.2, hk.1.1.1.1⟩⟩)⟩, ⟨mb BK736.out⟩, ⟨mb BK765.out⟩, ⟨b2 GE736.out GE765.out⟩⟩
         ·rw [if_neg c60] at H
          have c60b0 : decide (t766 < 0) = false := decide_eq_false c60
          clear c60
          have H' := am H
          clear H
          have hnb64 := NB765_736.out
          have hnc64 := NB736_765.out
          have hcz65_0 : w55.cell? ⟨gb765, 0, none⟩ = some (.slice Ao50 t758.length co50) := (blk_cell BK765.out 0).trans rfl
          have hcz65_1 : w55.cell? ⟨gb765, 1, none⟩ = some (.slice Ao53 t761.length co53) := (blk_cell BK765.out 1).trans rfl
          have hfz65_0 := blk_frozen BK765.out 0
          have hfz65_1 := blk_frozen BK765.out 1
          go_wp2_with (first | (go_at_call 13; (with_reducible refine (impl_Collides.calls t743 _ _ t758 _ _ t761 true _ ?side1 ?side2 ?side3 ?side4 A57.out).mono ?_); (case side1 => exact cv ((Kd.R_reads' HO760.out).2.2)); (case side2 => exact (Kd.R_reads' HO760.out).2.1); (case side3 => exact cv ((Kd.R_reads' HO763.out).2.2)); (case side4 => exact (Kd.R_reads' HO763.out).2.1); rintro e w66 ⟨rfl, hb⟩; replace HO_737000 := am (Kd.R_below (mv HO_737000.out) hb); replace HO_737001 := am (Kd.R_below (mv HO_737001.out) hb); replace HO751 := am (Kd.R_below (mv HO751.out) hb); replace HO753 := am (Kd.R_below (mv HO753.out) hb); replace HO755 := am (Kd.R_below (mv HO755.out) hb); replace HO757 := am (Kd.R_below (mv HO757.out) hb); replace HO760 := am (Kd.R_below (mv HO760.out) hb); replace HO763 := am (Kd.R_below (mv HO763.out) hb); replace BK736 := am (blk_below (g := gb736) (o := .cells #[.slice Ao14 t729.length co14, .slice Ao16 t732.length co16] 33 (0, 0)) (mb BK736.out) hb); replace BK765 := am (blk_below (g := gb765) (o := .cells #[.slice Ao50 t758.length co50, .slice Ao53 t761.length co53] 33 (0, 0)) (mb BK765.out) hb); replace HB := am (below_step (b2 GE736.out GE765.out) hb); (try clear hb); (try clear hb2); (try clear hk); (try clear hi)))
          go_meet
          case rel => exact ⟨_, (false), (by first | rfl | (simp; done) | (simp [*]; done)), H', ⟨by have := HJ7.out; first | omega | exact Nat.le_refl _⟩, ⟨by (with_reducible repeat (first | apply Kd.R_alloc | apply Kd.R_drewN | apply Kd.R_drew)); exact Kd.R_mono HO_737000.out (fun _ hk => ⟨hk.1.1.1.1, ⟨hk.1.2, hk.2⟩⟩)⟩, ⟨by (with_reducible repeat (first | apply Kd.R_alloc | apply Kd.R_drewN | apply Kd.R_drew)); exact Kd.R_mono HO_737001.out (fun _ hk => ⟨hk.1.1.1.1, ⟨hk.1.2, hk.2⟩⟩)⟩, ⟨by (with_reducible repeat (first | apply Kd.R_alloc | apply Kd.R_drewN | apply Kd.R_drew)); exact Kd.R_mono HO760.out (fun _ hk => ⟨hk.1.1.1.2, ⟨hk.1.1.2, hk.1.1.1.1⟩⟩)⟩, ⟨by (with_reducible repeat (first | apply Kd.R_alloc | apply Kd.R_drewN | apply Kd.R_drew)); exact Kd.R_mono HO763.out (fun _ hk => ⟨hk.1.1.1.2, ⟨hk.1.1.2, hk.1.1.1.1⟩⟩)⟩, ⟨mb BK736.out⟩, ⟨mb BK765.out⟩, ⟨b2 GE736.out GE765.out⟩⟩
        ·rw [if_neg c59] at H
         have c59b0 : (t766 == t767) = false := beq_eq_false_iff_ne.mpr c59
         have c59b1 : (t766 != t767) = true := bne_iff_ne.mpr c59
         (first | rw [c59b0] | (simp only [i64_w, i32_w]; rw [c59b0]) | skip)
         have H' := am H
         clear H
         have hnb67 := NB765_736.out
         have hnc67 := NB736_765.out
         have hcz68_0 : w55.cell? ⟨gb765, 0, none⟩ = some (.slice Ao50 t758.length co50) := (blk_cell BK765.out 0).trans rfl
         have hcz68_1 : w55.cell? ⟨gb765, 1, none⟩ = some (.slice Ao53 t761.length co53) := (blk_cell BK765.out 1).trans rfl
         have hfz68_0 := blk_frozen BK765.out 0
         have hfz68_1 := blk_frozen BK765.out 1
         go_wp2_with (first | (go_at_call 13; (with_reducible refine (impl_Collides.calls t743 _ _ t758 _ _ t761 true _ ?side1 ?side2 ?side3 ?side4 A57.out).mono ?_); (case side1 => exact cv ((Kd.R_reads' HO760.out).2.2)); (case side2 => exact (Kd.R_reads' HO760.out).2.1); (case side3 => exact cv ((Kd.R_reads' HO763.out).2.2)); (case side4 => exact (Kd.R_reads' HO763.out).2.1); rintro e w69 ⟨rfl, hb⟩; replace HO_737000 := am (Kd.R_below (mv HO_737000.out) hb); replace HO_737001 := am (Kd.R_below (mv HO_737001.out) hb); replace HO751 := am (Kd.R_below (mv HO751.out) hb); replace HO753 := am (Kd.R_below (mv HO753.out) hb); replace HO755 := am (Kd.R_below (mv HO755.out) hb); replace HO757 := am (Kd.R_below (mv HO757.out) hb); replace HO760 := am (Kd.R_below (mv HO760.out) hb); replace HO763 := am (Kd.R_below (mv HO763.out) hb); replace BK736 := am (blk_below (g := gb736) (o := .cells #[.slice Ao14 t729.length co14, .slice Ao16 t732.length co16] 33 (0, 0)) (mb BK736.out) hb); replace BK765 := am (blk_below (g := gb765) (o := .cells #[.slice Ao50 t758.length co50, .slice Ao53 t761.length co53] 33 (0, 0)) (mb BK765.out) hb); replace HB := am (below_step (b2 GE736.out GE765.out) hb); (try clear hb); (try clear hb2); (try clear hk); (try clear hi)))
         go_meet
         case rel => exact ⟨_, (true), (by first | rfl | (simp; done) | (simp [*]; done)), H', ⟨by have := HJ7.out; first | omega | exact Nat.le_refl _⟩, ⟨by (with_reducible repeat (first | apply Kd.R_alloc | apply Kd.R_drewN | apply Kd.R_drew)); exact Kd.R_mono HO_737000.out (fun _ hk => ⟨hk.1.1.1.1, ⟨hk.1.2, hk.2⟩⟩)⟩, ⟨by (with_reducible repeat (first | apply Kd.R_alloc | apply Kd.R_drewN | apply Kd.R_drew)); exact Kd.R_mono HO_737001.out (fun _ hk => ⟨hk.1.1.1.1, ⟨hk.1.2, hk.2⟩⟩)⟩, ⟨by (with_reducible repeat (first | apply Kd.R_alloc | apply Kd.R_drewN | apply Kd.R_drew)); exact Kd.R_mono HO760.out (fun _ hk => ⟨hk.1.1.1.2, ⟨hk.1.1.2, hk.1.1.1.1⟩⟩)⟩, ⟨by (with_reducible repeat (first | apply Kd.R_alloc | apply Kd.R_drewN | apply Kd.R_drew)); exact Kd.R_mono HO763.out (fun _ hk => ⟨hk.1.1.1.2, ⟨hk.1.1.2, hk.1.1.1.1⟩⟩)⟩, ⟨mb BK736.out⟩, ⟨mb BK765.out⟩, ⟨b2 GE736.out GE765.out⟩⟩
       ·replace c58 := Bool.eq_false_iff.mpr c58
        subst c58
        rw [if_neg (show ¬ (false = true) by decide)] at H
        have H' := am H
        clear H
        have hnb70 := NB765_736.out
        have hnc70 := NB736_765.out
        have hcz71_0 : w55.cell? ⟨gb765, 0, none⟩ = some (.slice Ao50 t758.length co50) := (blk_cell BK765.out 0).trans rfl
        have hcz71_1 : w55.cell? ⟨gb765, 1, none⟩ = some (.slice Ao53 t761.length co53) := (blk_cell BK765.out 1).trans rfl
        have hfz71_0 := blk_frozen BK765.out 0
        have hfz71_1 := blk_frozen BK765.out 1
        go_wp2_with (first | (go_at_call 13; (with_reducible refine (impl_Collides.calls t743 _ _ t758 _ _ t761 false _ ?side1 ?side2 ?side3 ?side4 A57.out).mono ?_); (case side1 => exact cv ((Kd.R_reads' HO760.out).2.2)); (case side2 => exact (Kd.R_reads' HO760.out).2.1); (case side3 => exact cv ((Kd.R_reads' HO763.out).2.2)); (case side4 => exact (Kd.R_reads' HO763.out).2.1); rintro e w72 ⟨rfl, hb⟩; replace HO_737000 := am (Kd.R_below (mv HO_737000.out) hb); replace HO_737001 := am (Kd.R_below (mv HO_737001.out) hb); replace HO751 := am (Kd.R_below (mv HO751.out) hb); replace HO753 := am (Kd.R_below (mv HO753.out) hb); replace HO755 := am (Kd.R_below (mv HO755.out) hb); replace HO757 := am (Kd.R_below (mv HO757.out) hb); replace HO760 := am (Kd.R_below (mv HO760.out) hb); replace HO763 := am (Kd.R_below (mv HO763.out) hb); replace BK736 := am (blk_below (g := gb736) (o := .cells #[.slice Ao14 t729.length co14, .slice Ao16 t732.length co16] 33 (0, 0)) (mb BK736.out) hb); replace BK765 := am (blk_below (g := gb765) (o := .cells #[.slice Ao50 t758.length co50, .slice Ao53 t761.length co53] 33 (0, 0)) (mb BK765.out) hb); replace HB := am (below_step (b2 GE736.out GE765.out) hb); (try clear hb); (try clear hb2); (try clear hk); (try clear hi)))
        go_meet
        case rel => exact ⟨_, (true), (by first | rfl | (simp; done) | (simp [*]; done)), H', ⟨by have := HJ7.out; first | omega | exact Nat.le_refl _⟩, ⟨by (with_reducible repeat (first | apply Kd.R_alloc | apply Kd.R_drewN | apply Kd.R_drew)); exact Kd.R_mono HO_737000.out (fun _ hk => ⟨hk.1.1.1.1, ⟨hk.1.2, hk.2⟩⟩)⟩, ⟨by (with_reducible repeat (first | apply Kd.R_alloc | apply Kd.R_drewN | apply Kd.R_drew)); exact Kd.R_mono HO_737001.out (fun _ hk => ⟨hk.1.1.1.1, ⟨hk.1.2, hk.2⟩⟩)⟩, ⟨by (with_reducible repeat (first | apply Kd.R_alloc | apply Kd.R_drewN | apply Kd.R_drew)); exact Kd.R_mono HO760.out (fun _ hk => ⟨hk.1.1.1.2, ⟨hk.1.1.2, hk.1.1.1.1⟩⟩)⟩, ⟨by (with_reducible repeat (first | apply Kd.R_alloc | apply Kd.R_drewN | apply Kd.R_drew)); exact Kd.R_mono HO763.out (fun _ hk => ⟨hk.1.1.1.2, ⟨hk.1.1.2, hk.1.1.1.1⟩⟩)⟩, ⟨mb BK736.out⟩, ⟨mb BK765.out⟩, ⟨b2 GE736.out GE765.out⟩⟩
      ·replace c56 := Bool.eq_false_iff.mpr c56
       subst c56
       rw [if_neg (show ¬ (false = true) by decide)] at H
       by_cases c73 : t766 ≥ 0
       ·rw [if_pos c73] at H
        have c73b0 : decide (0 ≤ t766) = true := decide_eq_true c73
        clear c73
        by_cases c74 : t766 = t767
        ·rw [if_pos c74] at H
         have c74b0 : (t766 == t767) = true := beq_iff_eq.mpr c74
         have c74b1 : (t766 != t767) = false := bne_eq_false_iff_eq.mpr c74
         clear c74
         have H' := am H
         clear H
         have hcv75 := own_string (P := Try.prog) Try.underlying22 Try.underlying5 Try.underlying9 (Kd.own_of_R HO751.out)
         have hcv76 := own_string (P := Try.prog) Try.underlying22 Try.underlying5 Try.underlying9 (Kd.own_of_R HO755.out)
         go_wp2
         go_meet
         case rel => exact ⟨_, (((strOfNums t746).toList != (strOfNums t748).toList)), (by first | rfl | (simp; done) | (simp [*]; done)), H', ⟨by have := HJ7.out; first | omega | exact Nat.le_refl _⟩, ⟨by (with_reducible repeat (first | apply Kd.R_alloc | apply Kd.R_drewN | apply Kd.R_drew)); exact Kd.R_mono HO_737000.out (fun _ hk => ⟨hk.1.1.1.1, ⟨hk.1.2, hk.2⟩⟩)⟩, ⟨by (with_reducible repeat (first | apply Kd.R_alloc | apply Kd.R_drewN | apply Kd.R_drew)); exact Kd.R_mono HO_737001.out (fun _ hk => ⟨hk.1.1.1.1, ⟨hk.1.2, hk.2⟩⟩)⟩, ⟨by (with_reducible repeat (first | apply Kd.R_alloc | apply Kd.R_drewN | apply Kd.R_drew)); exact Kd.R_mono HO760.out (fun _ hk => ⟨hk.1.1.1.2, ⟨hk.1.1.2, hk.1.1.1.1⟩⟩)⟩, ⟨by (with_reducible repeat (first | apply Kd.R_alloc | apply Kd.R_drewN | apply Kd.R_drew)); exact Kd.R_mono HO763.out (fun _ hk => ⟨hk.1.1.1.2, ⟨hk.1.1.2, hk.1.1.1.1⟩⟩)⟩, ⟨mb BK736.out⟩, ⟨mb BK765.out⟩, ⟨b2 GE736.out GE765.out⟩⟩
        ·rw [if_neg c74] at H
         have c74b0 : (t766 == t767) = false := beq_eq_false_iff_ne.mpr c74
         have c74b1 : (t766 != t767) = true := bne_iff_ne.mpr c74
         have H' := am H
         clear H
         go_wp2
         go_meet
         case rel => exact ⟨_, (false), (by first | rfl | (simp; done) | (simp [*]; done)), H', ⟨by have := HJ7.out; first | omega | exact Nat.le_refl _⟩, ⟨by (with_reducible repeat (first | apply Kd.R_alloc | apply Kd.R_drewN | apply Kd.R_drew)); exact Kd.R_mono HO_737000.out (fun _ hk => ⟨hk.1.1.1.1, ⟨hk.1.2, hk.2⟩⟩)⟩, ⟨by (with_reducible repeat (first | apply Kd.R_alloc | apply Kd.R_drewN | apply Kd.R_drew)); exact Kd.R_mono HO_737001.out (fun _ hk => ⟨hk.1.1.1.1, ⟨hk.1.2, hk.2⟩⟩)⟩, ⟨by (with_reducible repeat (first | apply Kd.R_alloc | apply Kd.R_drewN | apply Kd.R_drew)); exact Kd.R_mono HO760.out (fun _ hk => ⟨hk.1.1.1.2, ⟨hk.1.1.2, hk.1.1.1.1⟩⟩)⟩, ⟨by (with_reducible repeat (first | apply Kd.R_alloc | apply Kd.R_drewN | apply Kd.R_drew)); exact Kd.R_mono HO763.out (fun _ hk => ⟨hk.1.1.1.2, ⟨hk.1.1.2, hk.1.1.1.1⟩⟩)⟩, ⟨mb BK736.out⟩, ⟨mb BK765.out⟩, ⟨b2 GE736.out GE765.out⟩⟩
       ·rw [if_neg c73] at H
        have c73b0 : decide (0 ≤ t766) = false := decide_eq_false c73
        clear c73
        have H' := am H
        clear H
        go_wp2
        go_meet
        case rel => exact ⟨_, (false), (by first | rfl | (simp; done) | (simp [*]; done)), H', ⟨by have := HJ7.out; first | omega | exact Nat.le_refl _⟩, ⟨by (with_reducible repeat (first | apply Kd.R_alloc | apply Kd.R_drewN | apply Kd.R_drew)); exact Kd.R_mono HO_737000.out (fun _ hk => ⟨hk.1.1.1.1, ⟨hk.1.2, hk.2⟩⟩)⟩, ⟨by (with_reducible repeat (first | apply Kd.R_alloc | apply Kd.R_drewN | apply Kd.R_drew)); exact Kd.R_mono HO_737001.out (fun _ hk => ⟨hk.1.1.1.1, ⟨hk.1.2, hk.2⟩⟩)⟩, ⟨by (with_reducible repeat (first | apply Kd.R_alloc | apply Kd.R_drewN | apply Kd.R_drew)); exact Kd.R_mono HO760.out (fun _ hk => ⟨hk.1.1.1.2, ⟨hk.1.1.2, hk.1.1.1.1⟩⟩)⟩, ⟨by (with_reducible repeat (first | apply Kd.R_alloc | apply Kd.R_drewN | apply Kd.R_drew)); exact Kd.R_mono HO763.out (fun _ hk => ⟨hk.1.1.1.2, ⟨hk.1.1.2, hk.1.1.1.1⟩⟩)⟩, ⟨mb BK736.out⟩, ⟨mb BK765.out⟩, ⟨b2 GE736.out GE765.out⟩⟩
     case rest =>
      clear HC42
      try clear c1
      try clear c2
      try clear p2
      try clear c3
      try clear c4
      try clear c5
      try clear c6
      try clear c7
      try clear hcv7
      try clear c9
      try clear c11
      try clear c17
      try clear c18
      try clear c19
      try clear c19b0
      try clear c20
      try clear c20b0
      try clear c20b1
      try clear c21
      try clear c22
      try clear c22b0
      try clear c22b1
      try clear c22b2
      try clear c23
      try clear c27
      try clear c27b0
      try clear c27b1
      try clear c27b2
      try clear c28
      try clear c32
      try clear c32b0
      try clear c32b1
      try clear c32b2
      try clear c33
      try clear c37
      try clear c51
      try clear c56
      try clear c58
      try clear c59
      try clear c59b0
      try clear c59b1
      try clear c60
      try clear c60b0
      try clear c61
      try clear c64
      try clear c67
      try clear c70
      try clear c73
      try clear c73b0
      try clear c74
      try clear c74b0
      try clear c74b1
      try clear hcv75
      try clear hcv76
      try clear hcz15_0
      try clear hcz15_1
      try clear hcz25_0
      try clear hcz25_1
      try clear hcz30_0
      try clear hcz30_1
      try clear hcz35_0
      try clear hcz35_1
      try clear hcz52_0
      try clear hcz52_1
      try clear hcz62_0
      try clear hcz62_1
      try clear hcz65_0
      try clear hcz65_1
      try clear hcz68_0
      try clear hcz68_1
      try clear hcz71_0
      try clear hcz71_1
      try clear hfz15_0
      try clear hfz15_1
      try clear hfz25_0
      try clear hfz25_1
      try clear hfz30_0
      try clear hfz30_1
      try clear hfz35_0
      try clear hfz35_1
      try clear hfz52_0
      try clear hfz52_1
      try clear hfz62_0
      try clear hfz62_1
      try clear hfz65_0
      try clear hfz65_1
      try clear hfz68_0
      try clear hfz68_1
      try clear hfz71_0
      try clear hfz71_1
      try clear p2
      obtain ⟨kq, x139_41, rfl, HA, HJ41, HO_737000, HO_737001, HO_766000, HO_766001, BK736, BK765, HB⟩ := hcut
      cases kq with
      | zero => exact absurd HA.out (by simp [laws_FnForgery.j1])
      | succ kj41 =>
       have H := HA.out
       clear HA
       simp only [laws_FnForgery.j1] at H
       by_cases c77 : x139_41 = true
       ·subst c77
        rw [if_pos rfl] at H
        exact absurd ((Option.some.inj H).trans hT.out) (by decide)
       ·replace c77 := Bool.eq_false_iff.mpr c77
        subst c77
        rw [if_neg (show ¬ (false = true) by decide)] at H
        replace H := Option.bind_eq_some_iff.mp H
        obtain ⟨⟨t769, t770, t771⟩, A780, H⟩ := H
        (try dsimp -simprocs only at H)
        have A78 := am A780
        clear A780
        replace H := Option.bind_eq_some_iff.mp H
        obtain ⟨⟨t776, t779, t782⟩, A790, H⟩ := H
        (try dsimp -simprocs only at H)
        have A79 := am A790
        clear A790
        replace H := Option.bind_eq_some_iff.mp H
        obtain ⟨t784, A800, H⟩ := H
        (try dsimp -simprocs only at H)
        have A80 := am A800
        clear A800
        by_cases c81 : (t782 == t784) = true
        ·rw [if_pos c81] at H
         have c81b0 : (t782 == t784) = true := c81
         (try (have c81b1 : decide (t782 = t784) = true := by simpa using c81))
         (try (have c81b2 : (t782 == t784) = true := by simpa using c81))
         clear c81
         by_cases c82 : t782 = true
         ·subst c82
          rw [if_pos rfl] at H
          obtain rfl := Option.some.inj H
          go_wp2_with (first | ((with_reducible refine gate_callee (f := 23) rfl ?_); refine goesL_ (some 142) rfl rfl Try.func23 (by kernel_rfl) rfl #[.slice A0 l0.length c0] rfl av ?_; (with_reducible refine (spec_DrawFromData.calls kj41 _ _ l0 t769 t770 t771 _ ?side1 ?side2 A78.out).mono ?_); (case side1 => exact cv ((Kd.C_below HR0.out HB.out))); (case side2 => exact HC0.out); rintro e w83 ⟨v772, v774, rfl, ho0, ho1, hb⟩; refine ⟨_, rfl, ?_⟩; have HO773 := am (Kd.R_lower (Kd.R_new' (Kd.R_new' (Kd.R_new' (Kd.R_new' ho0 (Kd.R_lt (mv HO_737000.out))) (Kd.R_lt (mv HO_737001.out))) (Kd.R_lt (mv HO_766000.out))) (Kd.R_lt (mv HO_766001.out))) (below_size (b2 GE736.out GE765.out))); have HO775 := am (Kd.R_lower (Kd.R_new' (Kd.R_new' (Kd.R_new' (Kd.R_new' ho1 (Kd.R_lt (mv HO_737000.out))) (Kd.R_lt (mv HO_737001.out))) (Kd.R_lt (mv HO_766000.out))) (Kd.R_lt (mv HO_766001.out))) (below_size (b2 GE736.out GE765.out))); replace HO_737000 := am (Kd.R_mono (Kd.R_told (Kd.R_told (Kd.R_old (mv HO_737000.out) hb) (Kd.R_base ho0)) (Kd.R_base ho1)) (fun _ h_ => h_.1)); replace HO_737001 := am (Kd.R_mono (Kd.R_told (Kd.R_told (Kd.R_old (mv HO_737001.out) hb) (Kd.R_base ho0)) (Kd.R_base ho1)) (fun _ h_ => h_.1)); replace HO_766000 := am (Kd.R_mono (Kd.R_told (Kd.R_told (Kd.R_old (mv HO_766000.out) hb) (Kd.R_base ho0)) (Kd.R_base ho1)) (fun _ h_ => h_.1)); replace HO_766001 := am (Kd.R_mono (Kd.R_told (Kd.R_told (Kd.R_old (mv HO_766001.out) hb) (Kd.R_base ho0)) (Kd.R_base ho1)) (fun _ h_ => h_.1)); replace BK736 := am (blk_below (g := gb736) (o := .cells #[.slice Ao14 t729.length co14, .slice Ao16 t732.length co16] 33 (0, 0)) (mb BK736.out) hb); replace BK765 := am (blk_below (g := gb765) (o := .cells #[.slice Ao50 t758.length co50, .slice Ao53 t761.length co53] 33 (0, 0)) (mb BK765.out) hb); replace HB := am (below_step (b2 GE736.out GE765.out) hb); (try clear hb); (try clear hb2); (try clear hk); (try clear hi); (try clear ho0); (try clear ho1); obtain ⟨Ao84, co84, eo84⟩ := Kd.R_slice HO773.out; subst eo84; obtain ⟨Ao85, co85, eo85⟩ := Kd.R_slice HO775.out; subst eo85) | ((with_reducible refine gate_callee (f := 24) rfl ?_); refine goesL_ (some 150) rfl rfl Try.func24 (by kernel_rfl) rfl #[.int .i64 t769, .slice Ao84 t770.length co84, .slice Ao85 t771.length co85] rfl av ?_; (with_reducible refine (impl_FromData.calls t769 _ _ t770 _ _ t771 t776 t779 true _ ?side1 ?side2 ?side3 ?side4 A79.out).mono ?_); (case side1 => exact cv ((Kd.R_reads' HO773.out).2.2)); (case side2 => exact (Kd.R_reads' HO773.out).2.1); (case side3 => exact cv ((Kd.R_reads' HO775.out).2.2)); (case side4 => exact (Kd.R_reads' HO775.out).2.1); rintro e w86 ⟨v777, v780, rfl, ho0, ho1, hb⟩; refine ⟨_, rfl, ?_⟩; have HO778 := am (Kd.R_lower (Kd.R_new' (Kd.R_new' (Kd.R_new' (Kd.R_new' (Kd.R_new' (Kd.R_new' ho0 (Kd.R_lt (mv HO_737000.out))) (Kd.R_lt (mv HO_737001.out))) (Kd.R_lt (mv HO_766000.out))) (Kd.R_lt (mv HO_766001.out))) (Kd.R_lt (mv HO773.out))) (Kd.R_lt (mv HO775.out))) (below_size (b2 GE736.out GE765.out))); have HO781 := am (Kd.R_lower (Kd.R_new' (Kd.R_new' (Kd.R_new' (Kd.R_new' (Kd.R_new' (Kd.R_new' ho1 (Kd.R_lt (mv HO_737000.out))) (Kd.R_lt (mv HO_737001.out))) (Kd.R_lt (mv HO_766000.out))) (Kd.R_lt (mv HO_766001.out))) (Kd.R_lt (mv HO773.out))) (Kd.R_lt (mv HO775.out))) (below_size (b2 GE736.out GE765.out))); replace HO_737000 := am (Kd.R_mono (Kd.R_told (Kd.R_told (Kd.R_old (mv HO_737000.out) hb) (Kd.R_base ho0)) (Kd.R_base ho1)) (fun _ h_ => h_.1)); replace HO_737001 := am (Kd.R_mono (Kd.R_told (Kd.R_told (Kd.R_old (mv HO_737001.out) hb) (Kd.R_base ho0)) (Kd.R_base ho1)) (fun _ h_ => h_.1)); replace HO_766000 := am (Kd.R_mono (Kd.R_told (Kd.R_told (Kd.R_old (mv HO_766000.out) hb) (Kd.R_base ho0)) (Kd.R_base ho1)) (fun _ h_ => h_.1)); replace HO_766001 := am (Kd.R_mono (Kd.R_told (Kd.R_told (Kd.R_old (mv HO_766001.out) hb) (Kd.R_base ho0)) (Kd.R_base ho1)) (fun _ h_ => h_.1)); replace HO773 := am (Kd.R_mono (Kd.R_told (Kd.R_told (Kd.R_old (mv HO773.out) hb) (Kd.R_base ho0)) (Kd.R_base ho1)) (fun _ h_ => h_.1)); replace HO775 := am (Kd.R_mono (Kd.R_told (Kd.R_told (Kd.R_old (mv HO775.out) hb) (Kd.R_base ho0)) (Kd.R_base ho1)) (fun _ h_ => h_.1)); replace BK736 := am (blk_below (g := gb736) (o := .cells #[.slice Ao14 t729.length co14, .slice Ao16 t732.length co16] 33 (0, 0)) (mb BK736.out) hb); replace BK765 := am (blk_below (g := gb765) (o := .cells #[.slice Ao50 t758.length co50, .slice Ao53 t761.length co53] 33 (0, 0)) (mb BK765.out) hb); replace HB := am (below_step (b2 GE736.out GE765.out) hb); (try clear hb); (try clear hb2); (try clear hk); (try clear hi); (try clear ho0); (try clear ho1)) | ((with_reducible refine gate_dst (N := 24) rfl ?_); refine box_event ?hg (N := 24) ?hd (cs := #[.slice none 0 0, .slice none 0 0]) (t := 33) ?hr ?_; (case hd => rfl); (case hg => rfl); (case hr => first | (go_simp; done) | (go_simp; rfl)); intro gb783 hg w87 hbox hb; replace HO_737000 := am (Kd.R_below (mv HO_737000.out) hb); replace HO_737001 := am (Kd.R_below (mv HO_737001.out) hb); replace HO_766000 := am (Kd.R_below (mv HO_766000.out) hb); replace HO_766001 := am (Kd.R_below (mv HO_766001.out) hb); replace HO773 := am (Kd.R_below (mv HO773.out) hb); replace HO775 := am (Kd.R_below (mv HO775.out) hb); replace HO778 := am (Kd.R_below (mv HO778.out) hb); replace HO781 := am (Kd.R_below (mv HO781.out) hb); have BK783 := am (hbox); have GW783 := am ((by rw [hg]; exact (below_size (b2 GE736.out GE765.out)) : w.heap.size ≤ gb783)); have GE783 := am ((by rw [hg]; exact (below_size (b2 GE736.out GE765.out)) : w.heap.size ≤ gb783)); replace HB := am (below_step (b2 GE736.out GE765.out) hb); have NB736_783 := am ((by rw [hg]; exact Nat.ne_of_lt (blk_lt (g := gb736) (o := .cells #[.slice Ao14 t729.length co14, .slice Ao16 t732.length co16] 33 (0, 0)) (mb BK736.out)) : gb736 ≠ gb783)); have NB783_736 := am ((by rw [hg]; exact Nat.ne_of_gt (blk_lt (g := gb736) (o := .cells #[.slice Ao14 t729.length co14, .slice Ao16 t732.length co16] 33 (0, 0)) (mb BK736.out)) : gb783 ≠ gb736)); replace BK736 := am (blk_below (g := gb736) (o := .cells #[.slice Ao14 t729.length co14, .slice Ao16 t732.length co16] 33 (0, 0)) (mb BK736.out) hb); have NB765_783 := am ((by rw [hg]; exact Nat.ne_of_lt (blk_lt (g := gb765) (o := .cells #[.slice Ao50 t758.length co50, .slice Ao53 t761.length co53] 33 (0, 0)) (mb BK765.out)) : gb765 ≠ gb783)); have NB783_765 := am ((by rw [hg]; exact Nat.ne_of_gt (blk_lt (g := gb765) (o := .cells #[.slice Ao50 t758.length co50, .slice Ao53 t761.length co53] 33 (0, 0)) (mb BK765.out)) : gb783 ≠ gb765)); replace BK765 := am (blk_below (g := gb765) (o := .cells #[.slice Ao50 t758.length co50, .slice Ao53 t761.length co53] 33 (0, 0)) (mb BK765.out) hb); clear hb hbox hg; obtain ⟨Ao88, co88, eo88⟩ := Kd.R_slice HO778.out; subst eo88; have hnb89 := NB783_736.out; have hnc89 := NB736_783.out; have hnb90 := NB783_765.out; have hnc90 := NB765_783.out; have hcz91_0 : w87.cell? ⟨gb783, 0, none⟩ = some (.slice none 0 0) := (blk_cell BK783.out 0).trans rfl; have hcz91_1 : w87.cell? ⟨gb783, 1, none⟩ = some (.slice none 0 0) := (blk_cell BK783.out 1).trans rfl; have hfz91_0 := blk_frozen BK783.out 0; have hfz91_1 := blk_frozen BK783.out 1; obtain ⟨Ao92, co92, eo92⟩ := Kd.R_slice HO781.out; subst eo92) | ((with_reducible refine gate_callee (f := 13) rfl ?_); refine goesL_ (some 158) rfl rfl Try.func13 (by kernel_rfl) rfl #[.int .i64 t769, .agg #[.slice Ao84 t770.length co84, .slice Ao85 t771.length co85]] rfl av ?_; (with_reducible refine (impl_Collides.calls t769 _ _ t770 _ _ t771 t784 _ ?side1 ?side2 ?side3 ?side4 A80.out).mono ?_); (case side1 => refine (Kd.R_reads' (e := 5) (base := w.heap.size) (ok := fun k_ => ((((((some k_ ≠ (.slice Ao85 t771.length co85 : Value).ownBlock ∧ some k_ ≠ (.slice Ao14 t729.length co14 : Value).ownBlock) ∧ some k_ ≠ (.slice Ao16 t732.length co16 : Value).ownBlock) ∧ some k_ ≠ (.slice Ao50 t758.length co50 : Value).ownBlock) ∧ some k_ ≠ (.slice Ao53 t761.length co53 : Value).ownBlock) ∧ some k_ ≠ (.slice Ao88 t776.length co88 : Value).ownBlock) ∧ some k_ ≠ (.slice Ao92 t779.length co92 : Value).ownBlock)) (n := t770.length) (c := co84) ?_).2.2; exact (by (with_reducible repeat (first | apply Kd.R_alloc | apply Kd.R_drewN | apply Kd.R_drew)); exact (Kd.R_mono (Kd.R_far (p := ⟨gb783, 1, none⟩) (Kd.R_far (p := ⟨gb783, 0, none⟩) (Kd.R_types HO773.out BK783.out (by decide)) (fun _ hk => hk.2) (.slice Ao88 t776.length co88)) (fun _ hk => hk.2) (.slice Ao92 t779.length co92)) (fun _ h_ => h_.1)))); (case side2 => exact (Kd.R_reads' HO773.out).2.1); (case side3 => refine (Kd.R_reads' (e := 5) (base := w.heap.size) (ok := fun k_ => ((((((some k_ ≠ (.slice Ao84 t770.length co84 : Value).ownBlock ∧ some k_ ≠ (.slice Ao14 t729.length co14 : Value).ownBlock) ∧ some k_ ≠ (.slice Ao16 t732.length co16 : Value).ownBlock) ∧ some k_ ≠ (.slice Ao50 t758.length co50 : Value).ownBlock) ∧ some k_ ≠ (.slice Ao53 t761.length co53 : Value).ownBlock) ∧ some k_ ≠ (.slice Ao88 t776.length co88 : Value).ownBlock) ∧ some k_ ≠ (.slice Ao92 t779.length co92 : Value).ownBlock)) (n := t771.length) (c := co85) ?_).2.2; exact (by (with_reducible repeat (first | apply Kd.R_alloc | apply Kd.R_drewN | apply Kd.R_drew)); exact (Kd.R_mono (Kd.R_far (p := ⟨gb783, 1, none⟩) (Kd.R_far (p := ⟨gb783, 0, none⟩) (Kd.R_types HO775.out BK783.out (by decide)) (fun _ hk => hk.2) (.slice Ao88 t776.length co88)) (fun _ hk => hk.2) (.slice Ao92 t779.length co92)) (fun _ h_ => h_.1)))); (case side4 => exact (Kd.R_reads' HO775.out).2.1); rintro e w93 ⟨rfl, hb⟩; refine ⟨_, rfl, ?_⟩; replace HO_737000 := am (Kd.R_below (by (with_reducible repeat (first | apply Kd.R_alloc | apply Kd.R_drewN | apply Kd.R_drew)); exact (Kd.R_mono (Kd.R_far (p := ⟨gb783, 1, none⟩) (Kd.R_far (p := ⟨gb783, 0, none⟩) (Kd.R_types HO_737000.out BK783.out (by decide)) (fun _ hk => hk.2) (.slice Ao88 t776.length co88)) (fun _ hk => hk.2) (.slice Ao92 t779.length co92)) (fun _ h_ => h_.1))) hb); replace HO_737001 := am (Kd.R_below (by (with_reducible repeat (first | apply Kd.R_alloc | apply Kd.R_drewN | apply Kd.R_drew)); exact (Kd.R_mono (Kd.R_far (p := ⟨gb783, 1, none⟩) (Kd.R_far (p := ⟨gb783, 0, none⟩) (Kd.R_types HO_737001.out BK783.out (by decide)) (fun _ hk => hk.2) (.slice Ao88 t776.length co88)) (fun _ hk => hk.2) (.slice Ao92 t779.length co92)) (fun _ h_ => h_.1))) hb); replace HO_766000 := am (Kd.R_below (by (with_reducible repeat (first | apply Kd.R_alloc | apply Kd.R_drewN | apply Kd.R_drew)); exact (Kd.R_mono (Kd.R_far (p := ⟨gb783, 1, none⟩) (Kd.R_far (p := ⟨gb783, 0, none⟩) (Kd.R_types HO_766000.out BK783.out (by decide)) (fun _ hk => hk.2) (.slice Ao88 t776.length co88)) (fun _ hk => hk.2) (.slice Ao92 t779.length co92)) (fun _ h_ => h_.1))) hb); replace HO_766001 := am (Kd.R_below (by (with_reducible repeat (first | apply Kd.R_alloc | apply Kd.R_drewN | apply Kd.R_drew)); exact (Kd.R_mono (Kd.R_far (p := ⟨gb783, 1, none⟩) (Kd.R_far (p := ⟨gb783, 0, none⟩) (Kd.R_types HO_766001.out BK783.out (by decide)) (fun _ hk => hk.2) (.slice Ao88 t776.length co88)) (fun _ hk => hk.2) (.slice Ao92 t779.length co92)) (fun _ h_ => h_.1))) hb); replace HO773 := am (Kd.R_below (by (with_reducible repeat (first | apply Kd.R_alloc | apply Kd.R_drewN | apply Kd.R_drew)); exact (Kd.R_mono (Kd.R_far (p := ⟨gb783, 1, none⟩) (Kd.R_far (p := ⟨gb783, 0, none⟩) (Kd.R_types HO773.out BK783.out (by decide)) (fun _ hk => hk.2) (.slice Ao88 t776.length co88)) (fun _ hk => hk.2) (.slice Ao92 t779.length co92)) (fun _ h_ => h_.1))) hb); replace HO775 := am (Kd.R_below (by (with_reducible repeat (first | apply Kd.R_alloc | apply Kd.R_drewN | apply Kd.R_drew)); exact (Kd.R_mono (Kd.R_far (p := ⟨gb783, 1, none⟩) (Kd.R_far (p := ⟨gb783, 0, none⟩) (Kd.R_types HO775.out BK783.out (by decide)) (fun _ hk => hk.2) (.slice Ao88 t776.length co88)) (fun _ hk => hk.2) (.slice Ao92 t779.length co92)) (fun _ h_ => h_.1))) hb); replace HO778 := am (Kd.R_below (by (with_reducible repeat (first | apply Kd.R_alloc | apply Kd.R_drewN | apply Kd.R_drew)); exact (Kd.R_mono (Kd.R_far (p := ⟨gb783, 1, none⟩) (Kd.R_far (p := ⟨gb783, 0, none⟩) (Kd.R_types HO778.out BK783.out (by decide)) (fun _ hk => hk.2) (.slice Ao88 t776.length co88)) (fun _ hk => hk.2) (.slice Ao92 t779.length co92)) (fun _ h_ => h_.1))) hb); replace HO781 := am (Kd.R_below (by (with_reducible repeat (first | apply Kd.R_alloc | apply Kd.R_drewN | apply Kd.R_drew)); exact (Kd.R_mono (Kd.R_far (p := ⟨gb783, 1, none⟩) (Kd.R_far (p := ⟨gb783, 0, none⟩) (Kd.R_types HO781.out BK783.out (by decide)) (fun _ hk => hk.2) (.slice Ao88 t776.length co88)) (fun _ hk => hk.2) (.slice Ao92 t779.length co92)) (fun _ h_ => h_.1))) hb); replace BK736 := am (blk_below (g := gb736) (o := .cells #[.slice Ao14 t729.length co14, .slice Ao16 t732.length co16] 33 (0, 0)) (by (with_reducible repeat (first | refine blk_drewN ?_ _ | refine blk_drew ?_ | refine blk_alloc ?_ _)); refine blk_far ?_ NB736_783.out _; (with_reducible repeat (first | refine blk_drewN ?_ _ | refine blk_drew ?_ | refine blk_alloc ?_ _)); refine blk_far ?_ NB736_783.out _; (with_reducible repeat (first | refine blk_drewN ?_ _ | refine blk_drew ?_ | refine blk_alloc ?_ _)); exact BK736.out) hb); replace BK765 := am (blk_below (g := gb765) (o := .cells #[.slice Ao50 t758.length co50, .slice Ao53 t761.length co53] 33 (0, 0)) (by (with_reducible repeat (first | refine blk_drewN ?_ _ | refine blk_drew ?_ | refine blk_alloc ?_ _)); refine blk_far ?_ NB765_783.out _; (with_reducible repeat (first | refine blk_drewN ?_ _ | refine blk_drew ?_ | refine blk_alloc ?_ _)); refine blk_far ?_ NB765_783.out _; (with_reducible repeat (first | refine blk_drewN ?_ _ | refine blk_drew ?_ | refine blk_alloc ?_ _)); exact BK765.out) hb); replace BK783 := am (blk_below (g := gb783) (o := .cells #[.slice Ao88 t776.length co88, .slice Ao92 t779.length co92] 33 (0, 0)) (by (with_reducible repeat (first | refine blk_drewN ?_ _ | refine blk_drew ?_ | refine blk_alloc ?_ _)); refine blk_put (cs := #[.slice Ao88 t776.length co88, .slice none 0 0]) ?_ 1 _ rfl; (with_reducible repeat (first | refine blk_drewN ?_ _ | refine blk_drew ?_ | refine blk_alloc ?_ _)); refine blk_put (cs := #[.slice none 0 0, .slice none 0 0]) ?_ 0 _ rfl; (with_reducible repeat (first | refine blk_drewN ?_ _ | refine blk_drew ?_ | refine blk_alloc ?_ _)); exact BK783.out) hb); replace HB := am (below_step (b3 GE736.out GE765.out GE783.out) hb); (try clear hb); (try clear hb2); (try clear hk); (try clear hi); have hcz94_0 : w93.cell? ⟨gb783, 0, none⟩ = some (.slice Ao88 t776.length co88) := (blk_cell BK783.out 0).trans rfl; have hcz94_1 : w93.cell? ⟨gb783, 1, none⟩ = some (.slice Ao92 t779.length co92) := (blk_cell BK783.out 1).trans rfl; have hfz94_0 := blk_frozen BK783.out 0; have hfz94_1 := blk_frozen BK783.out 1; have hcv95 := own_string (P := Try.prog) Try.underlying22 Try.underlying5 Try.underlying9 (Kd.own_of_R HO778.out); have hcv96 := own_string (P := Try.prog) Try.underlying22 Try.underlying5 Try.underlying9 (Kd.own_of_R HO773.out)))
          go_ret
          exact ⟨by first | rfl | (simp [errW_none, errW_some] <;> rfl) | (simp [*, errW_none, errW_some] <;> rfl), b3 GE736.out GE765.out GE783.out⟩
         ·replace c82 := Bool.eq_false_iff.mpr c82
          subst c82
          rw [if_neg (show ¬ (false = true) by decide)] at H
          obtain rfl := Option.some.inj H
          go_wp2_with (first | ((with_reducible refine gate_callee (f := 23) rfl ?_); refine goesL_ (some 142) rfl rfl Try.func23 (by kernel_rfl) rfl #[.slice A0 l0.length c0] rfl av ?_; (with_reducible refine (spec_DrawFromData.calls kj41 _ _ l0 t769 t770 t771 _ ?side1 ?side2 A78.out).mono ?_); (case side1 => exact cv ((Kd.C_below HR0.out HB.out))); (case side2 => exact HC0.out); rintro e w97 ⟨v772, v774, rfl, ho0, ho1, hb⟩; refine ⟨_, rfl, ?_⟩; have HO773 := am (Kd.R_lower (Kd.R_new' (Kd.R_new' (Kd.R_new' (Kd.R_new' ho0 (Kd.R_lt (mv HO_737000.out))) (Kd.R_lt (mv HO_737001.out))) (Kd.R_lt (mv HO_766000.out))) (Kd.R_lt (mv HO_766001.out))) (below_size (b2 GE736.out GE765.out))); have HO775 := am (Kd.R_lower (Kd.R_new' (Kd.R_new' (Kd.R_new' (Kd.R_new' ho1 (Kd.R_lt (mv HO_737000.out))) (Kd.R_lt (mv HO_737001.out))) (Kd.R_lt (mv HO_766000.out))) (Kd.R_lt (mv HO_766001.out))) (below_size (b2 GE736.out GE765.out))); replace HO_737000 := am (Kd.R_mono (Kd.R_told (Kd.R_told (Kd.R_old (mv HO_737000.out) hb) (Kd.R_base ho0)) (Kd.R_base ho1)) (fun _ h_ => h_.1)); replace HO_737001 := am (Kd.R_mono (Kd.R_told (Kd.R_told (Kd.R_old (mv HO_737001.out) hb) (Kd.R_base ho0)) (Kd.R_base ho1)) (fun _ h_ => h_.1)); replace HO_766000 := am (Kd.R_mono (Kd.R_told (Kd.R_told (Kd.R_old (mv HO_766000.out) hb) (Kd.R_base ho0)) (Kd.R_base ho1)) (fun _ h_ => h_.1)); replace HO_766001 := am (Kd.R_mono (Kd.R_told (Kd.R_told (Kd.R_old (mv HO_766001.out) hb) (Kd.R_base ho0)) (Kd.R_base ho1)) (fun _ h_ => h_.1)); replace BK736 := am (blk_below (g := gb736) (o := .cells #[.slice Ao14 t729.length co14, .slice Ao16 t732.length co16] 33 (0, 0)) (mb BK736.out) hb); replace BK765 := am (blk_below (g := gb765) (o := .cells #[.slice Ao50 t758.length co50, .slice Ao53 t761.length co53] 33 (0, 0)) (mb BK765.out) hb); replace HB := am (below_step (b2 GE736.out GE765.out) hb); (try clear hb); (try clear hb2); (try clear hk); (try clear hi); (try clear ho0); (try clear ho1); obtain ⟨Ao98, co98, eo98⟩ := Kd.R_slice HO773.out; subst eo98; obtain ⟨Ao99, co99, eo99⟩ := Kd.R_slice HO775.out; subst eo99) | ((with_reducible refine gate_callee (f := 24) rfl ?_); refine goesL_ (some 150) rfl rfl Try.func24 (by kernel_rfl) rfl #[.int .i64 t769, .slice Ao98 t770.length co98, .slice Ao99 t771.length co99] rfl av ?_; (with_reducible refine (impl_FromData.calls t769 _ _ t770 _ _ t771 t776 t779 false _ ?side1 ?side2 ?side3 ?side4 A79.out).mono ?_); (case side1 => exact cv ((Kd.R_reads' HO773.out).2.2)); (case side2 => exact (Kd.R_reads' HO773.out).2.1); (case side3 => exact cv ((Kd.R_reads' HO775.out).2.2)); (case side4 => exact (Kd.R_reads' HO775.out).2.1); rintro e w100 ⟨v777, v780, rfl, ho0, ho1, hb⟩; refine ⟨_, rfl, ?_⟩; have HO778 := am (Kd.R_lower (Kd.R_new' (Kd.R_new' (Kd.R_new' (Kd.R_new' (Kd.R_new' (Kd.R_new' ho0 (Kd.R_lt (mv HO_737000.out))) (Kd.R_lt (mv HO_737001.out))) (Kd.R_lt (mv HO_766000.out))) (Kd.R_lt (mv HO_766001.out))) (Kd.R_lt (mv HO773.out))) (Kd.R_lt (mv HO775.out))) (below_size (b2 GE736.out GE765.out))); have HO781 := am (Kd.R_lower (Kd.R_new' (Kd.R_new' (Kd.R_new' (Kd.R_new' (Kd.R_new' (Kd.R_new' ho1 (Kd.R_lt (mv HO_737000.out))) (Kd.R_lt (mv HO_737001.out))) (Kd.R_lt (mv HO_766000.out))) (Kd.R_lt (mv HO_766001.out))) (Kd.R_lt (mv HO773.out))) (Kd.R_lt (mv HO775.out))) (below_size (b2 GE736.out GE765.out))); replace HO_737000 := am (Kd.R_mono (Kd.R_told (Kd.R_told (Kd.R_old (mv HO_737000.out) hb) (Kd.R_base ho0)) (Kd.R_base ho1)) (fun _ h_ => h_.1)); replace HO_737001 := am (Kd.R_mono (Kd.R_told (Kd.R_told (Kd.R_old (mv HO_737001.out) hb) (Kd.R_base ho0)) (Kd.R_base ho1)) (fun _ h_ => h_.1)); replace HO_766000 := am (Kd.R_mono (Kd.R_told (Kd.R_told (Kd.R_old (mv HO_766000.out) hb) (Kd.R_base ho0)) (Kd.R_base ho1)) (fun _ h_ => h_.1)); replace HO_766001 := am (Kd.R_mono (Kd.R_told (Kd.R_told (Kd.R_old (mv HO_766001.out) hb) (Kd.R_base ho0)) (Kd.R_base ho1)) (fun _ h_ => h_.1)); replace HO773 := am (Kd.R_mono (Kd.R_told (Kd.R_told (Kd.R_old (mv HO773.out) hb) (Kd.R_base ho0)) (Kd.R_base ho1)) (fun _ h_ => h_.1)); replace HO775 := am (Kd.R_mono (Kd.R_told (Kd.R_told (Kd.R_old (mv HO775.out) hb) (Kd.R_base ho0)) (Kd.R_base ho1)) (fun _ h_ => h_.1)); replace BK736 := am (blk_below (g := gb736) (o := .cells #[.slice Ao14 t729.length co14, .slice Ao16 t732.length co16] 33 (0, 0)) (mb BK736.out) hb); replace BK765 := am (blk_below (g := gb765) (o := .cells #[.slice Ao50 t758.length co50, .slice Ao53 t761.length co53] 33 (0, 0)) (mb BK765.out) hb); replace HB := am (below_step (b2 GE736.out GE765.out) hb); (try clear hb); (try clear hb2); (try clear hk); (try clear hi); (try clear ho0); (try clear ho1)) | ((with_reducible refine gate_dst (N := 24) rfl ?_); refine box_event ?hg (N := 24) ?hd (cs := #[.slice none 0 0, .slice none 0 0]) (t := 33) ?hr ?_; (case hd => rfl); (case hg => rfl); (case hr => first | (go_simp; done) | (go_simp; rfl)); intro gb783 hg w101 hbox hb; replace HO_737000 := am (Kd.R_below (mv HO_737000.out) hb); replace HO_737001 := am (Kd.R_below (mv HO_737001.out) hb); replace HO_766000 := am (Kd.R_below (mv HO_766000.out) hb); replace HO_766001 := am (Kd.R_below (mv HO_766001.out) hb); replace HO773 := am (Kd.R_below (mv HO773.out) hb); replace HO775 := am (Kd.R_below (mv HO775.out) hb); replace HO778 := am (Kd.R_below (mv HO778.out) hb); replace HO781 := am (Kd.R_below (mv HO781.out) hb); have BK783 := am (hbox); have GW783 := am ((by rw [hg]; exact (below_size (b2 GE736.out GE765.out)) : w.heap.size ≤ gb783)); have GE783 := am ((by rw [hg]; exact (below_size (b2 GE736.out GE765.out)) : w.heap.size ≤ gb783)); replace HB := am (below_step (b2 GE736.out GE765.out) hb); have NB736_783 := am ((by rw [hg]; exact Nat.ne_of_lt (blk_lt (g := gb736) (o := .cells #[.slice Ao14 t729.length co14, .slice Ao16 t732.length co16] 33 (0, 0)) (mb BK736.out)) : gb736 ≠ gb783)); have NB783_736 := am ((by rw [hg]; exact Nat.ne_of_gt (blk_lt (g := gb736) (o := .cells #[.slice Ao14 t729.length co14, .slice Ao16 t732.length co16] 33 (0, 0)) (mb BK736.out)) : gb783 ≠ gb736)); replace BK736 := am (blk_below (g := gb736) (o := .cells #[.slice Ao14 t729.length co14, .slice Ao16 t732.length co16] 33 (0, 0)) (mb BK736.out) hb); have NB765_783 := am ((by rw [hg]; exact Nat.ne_of_lt (blk_lt (g := gb765) (o := .cells #[.slice Ao50 t758.length co50, .slice Ao53 t761.length co53] 33 (0, 0)) (mb BK765.out)) : gb765 ≠ gb783)); have NB783_765 := am ((by rw [hg]; exact Nat.ne_of_gt (blk_lt (g := gb765) (o := .cells #[.slice Ao50 t758.length co50, .slice Ao53 t761.length co53] 33 (0, 0)) (mb BK765.out)) : gb783 ≠ gb765)); replace BK765 := am (blk_below (g := gb765) (o := .cells #[.slice Ao50 t758.length co50, .slice Ao53 t761.length co53] 33 (0, 0)) (mb BK765.out) hb); clear hb hbox hg; obtain ⟨Ao102, co102, eo102⟩ := Kd.R_slice HO778.out; subst eo102; have hnb103 := NB783_736.out; have hnc103 := NB736_783.out; have hnb104 := NB783_765.out; have hnc104 := NB765_783.out; have hcz105_0 : w101.cell? ⟨gb783, 0, none⟩ = some (.slice none 0 0) := (blk_cell BK783.out 0).trans rfl; have hcz105_1 : w101.cell? ⟨gb783, 1, none⟩ = some (.slice none 0 0) := (blk_cell BK783.out 1).trans rfl; have hfz105_0 := blk_frozen BK783.out 0; have hfz105_1 := blk_frozen BK783.out 1; obtain ⟨Ao106, co106, eo106⟩ := Kd.R_slice HO781.out; subst eo106) | ((with_reducible refine gate_callee (f := 13) rfl ?_); refine goesL_ (some 158) rfl rfl Try.func13 (by kernel_rfl) rfl #[.int .i64 t769, .agg #[.slice Ao98 t770.length co98, .slice Ao99 t771.length co99]] rfl av ?_; (with_reducible refine (impl_Collides.calls t769 _ _ t770 _ _ t771 t784 _ ?side1 ?side2 ?side3 ?side4 A80.out).mono ?_); (case side1 => refine (Kd.R_reads' (e := 5) (base := w.heap.size) (ok := fun k_ => ((((((some k_ ≠ (.slice Ao99 t771.length co99 : Value).ownBlock ∧ some k_ ≠ (.slice Ao14 t729.length co14 : Value).ownBlock) ∧ some k_ ≠ (.slice Ao16 t732.length co16 : Value).ownBlock) ∧ some k_ ≠ (.slice Ao50 t758.length co50 : Value).ownBlock) ∧ some k_ ≠ (.slice Ao53 t761.length co53 : Value).ownBlock) ∧ some k_ ≠ (.slice Ao102 t776.length co102 : Value).ownBlock) ∧ some k_ ≠ (.slice Ao106 t779.length co106 : Value).ownBlock)) (n := t770.length) (c := co98) ?_).2.2; exact (by (with_reducible repeat (first | apply Kd.R_alloc | apply Kd.R_drewN | apply Kd.R_drew)); exact (Kd.R_mono (Kd.R_far (p := ⟨gb783, 1, none⟩) (Kd.R_far (p := ⟨gb783, 0, none⟩) (Kd.R_types HO773.out BK783.out (by decide)) (fun _ hk => hk.2) (.slice Ao102 t776.length co102)) (fun _ hk => hk.2) (.slice Ao106 t779.length co106)) (fun _ h_ => h_.1)))); (case side2 => exact (Kd.R_reads' HO773.out).2.1); (case side3 => refine (Kd.R_reads' (e := 5) (base := w.heap.size) (ok := fun k_ => ((((((some k_ ≠ (.slice Ao98 t770.length co98 : Value).ownBlock ∧ some k_ ≠ (.slice Ao14 t729.length co14 : Value).ownBlock) ∧ some k_ ≠ (.slice Ao16 t732.length co16 : Value).ownBlock) ∧ some k_ ≠ (.slice Ao50 t758.length co50 : Value).ownBlock) ∧ some k_ ≠ (.slice Ao53 t761.length co53 : Value).ownBlock) ∧ some k_ ≠ (.slice Ao102 t776.length co102 : Value).ownBlock) ∧ some k_ ≠ (.slice Ao106 t779.length co106 : Value).ownBlock)) (n := t771.length) (c := co99) ?_).2.2; exact (by (with_reducible repeat (first | apply Kd.R_alloc | apply Kd.R_drewN | apply Kd.R_drew)); exact (Kd.R_mono (Kd.R_far (p := ⟨gb783, 1, none⟩) (Kd.R_far (p := ⟨gb783, 0, none⟩) (Kd.R_types HO775.out BK783.out (by decide)) (fun _ hk => hk.2) (.slice Ao102 t776.length co102)) (fun _ hk => hk.2) (.slice Ao106 t779.length co106)) (fun _ h_ => h_.1)))); (case side4 => exact (Kd.R_reads' HO775.out).2.1); rintro e w107 ⟨rfl, hb⟩; refine ⟨_, rfl, ?_⟩; replace HO_737000 := am (Kd.R_below (by (with_reducible repeat (first | apply Kd.R_alloc | apply Kd.R_drewN | apply Kd.R_drew)); exact (Kd.R_mono (Kd.R_far (p := ⟨gb783, 1, none⟩) (Kd.R_far (p := ⟨gb783, 0, none⟩) (Kd.R_types HO_737000.out BK783.out (by decide)) (fun _ hk => hk.2) (.slice Ao102 t776.length co102)) (fun _ hk => hk.2) (.slice Ao106 t779.length co106)) (fun _ h_ => h_.1))) hb); replace HO_737001 := am (Kd.R_below (by (with_reducible repeat (first | apply Kd.R_alloc | apply Kd.R_drewN | apply Kd.R_drew)); exact (Kd.R_mono (Kd.R_far (p := ⟨gb783, 1, none⟩) (Kd.R_far (p := ⟨gb783, 0, none⟩) (Kd.R_types HO_737001.out BK783.out (by decide)) (fun _ hk => hk.2) (.slice Ao102 t776.length co102)) (fun _ hk => hk.2) (.slice Ao106 t779.length co106)) (fun _ h_ => h_.1))) hb); replace HO_766000 := am (Kd.R_below (by (with_reducible repeat (first | apply Kd.R_alloc | apply Kd.R_drewN | apply Kd.R_drew)); exact (Kd.R_mono (Kd.R_far (p := ⟨gb783, 1, none⟩) (Kd.R_far (p := ⟨gb783, 0, none⟩) (Kd.R_types HO_766000.out BK783.out (by decide)) (fun _ hk => hk.2) (.slice Ao102 t776.length co102)) (fun _ hk => hk.2) (.slice Ao106 t779.length co106)) (fun _ h_ => h_.1))) hb); replace HO_766001 := am (Kd.R_below (by (with_reducible repeat (first | apply Kd.R_alloc | apply Kd.R_drewN | apply Kd.R_drew)); exact (Kd.R_mono (Kd.R_far (p := ⟨gb783, 1, none⟩) (Kd.R_far (p := ⟨gb783, 0, none⟩) (Kd.R_types HO_766001.out BK783.out (by decide)) (fun _ hk => hk.2) (.slice Ao102 t776.length co102)) (fun _ hk => hk.2) (.slice Ao106 t779.length co106)) (fun _ h_ => h_.1))) hb); replace HO773 := am (Kd.R_below (by (with_reducible repeat (first | apply Kd.R_alloc | apply Kd.R_drewN | apply Kd.R_drew)); exact (Kd.R_mono (Kd.R_far (p := ⟨gb783, 1, none⟩) (Kd.R_far (p := ⟨gb783, 0, none⟩) (Kd.R_types HO773.out BK783.out (by decide)) (fun _ hk => hk.2) (.slice Ao102 t776.length co102)) (fun _ hk => hk.2) (.slice Ao106 t779.length co106)) (fun _ h_ => h_.1))) hb); replace HO775 := am (Kd.R_below (by (with_reducible repeat (first | apply Kd.R_alloc | apply Kd.R_drewN | apply Kd.R_drew)); exact (Kd.R_mono (Kd.R_far (p := ⟨gb783, 1, none⟩) (Kd.R_far (p := ⟨gb783, 0, none⟩) (Kd.R_types HO775.out BK783.out (by decide)) (fun _ hk => hk.2) (.slice Ao102 t776.length co102)) (fun _ hk => hk.2) (.slice Ao106 t779.length co106)) (fun _ h_ => h_.1))) hb); replace HO778 := am (Kd.R_below (by (with_reducible repeat (first | apply Kd.R_alloc | apply Kd.R_drewN | apply Kd.R_drew)); exact (Kd.R_mono (Kd.R_far (p := ⟨gb783, 1, none⟩) (Kd.R_far (p := ⟨gb783, 0, none⟩) (Kd.R_types HO778.out BK783.out (by decide)) (fun _ hk => hk.2) (.slice Ao102 t776.length co102)) (fun _ hk => hk.2) (.slice Ao106 t779.length co106)) (fun _ h_ => h_.1))) hb); replace HO781 := am (Kd.R_below (by (with_reducible repeat (first | apply Kd.R_alloc | apply Kd.R_drewN | apply Kd.R_drew)); exact (Kd.R_mono (Kd.R_far (p := ⟨gb783, 1, none⟩) (Kd.R_far (p := ⟨gb783, 0, none⟩) (Kd.R_types HO781.out BK783.out (by decide)) (fun _ hk => hk.2) (.slice Ao102 t776.length co102)) (fun _ hk => hk.2) (.slice Ao106 t779.length co106)) (fun _ h_ => h_.1))) hb); replace BK736 := am (blk_below (g := gb736) (o := .cells #[.slice Ao14 t729.length co14, .slice Ao16 t732.length co16] 33 (0, 0)) (by (with_reducible repeat (first | refine blk_drewN ?_ _ | refine blk_drew ?_ | refine blk_alloc ?_ _)); refine blk_far ?_ NB736_783.out _; (with_reducible repeat (first | refine blk_drewN ?_ _ | refine blk_drew ?_ | refine blk_alloc ?_ _)); refine blk_far ?_ NB736_783.out _; (with_reducible repeat (first | refine blk_drewN ?_ _ | refine blk_drew ?_ | refine blk_alloc ?_ _)); exact BK736.out) hb); replace BK765 := am (blk_below (g := gb765) (o := .cells #[.slice Ao50 t758.length co50, .slice Ao53 t761.length co53] 33 (0, 0)) (by (with_reducible repeat (first | refine blk_drewN ?_ _ | refine blk_drew ?_ | refine blk_alloc ?_ _)); refine blk_far ?_ NB765_783.out _; (with_reducible repeat (first | refine blk_drewN ?_ _ | refine blk_drew ?_ | refine blk_alloc ?_ _)); refine blk_far ?_ NB765_783.out _; (with_reducible repeat (first | refine blk_drewN ?_ _ | refine blk_drew ?_ | refine blk_alloc ?_ _)); exact BK765.out) hb); replace BK783 := am (blk_below (g := gb783) (o := .cells #[.slice Ao102 t776.length co102, .slice Ao106 t779.length co106] 33 (0, 0)) (by (with_reducible repeat (first | refine blk_drewN ?_ _ | refine blk_drew ?_ | refine blk_alloc ?_ _)); refine blk_put (cs := #[.slice Ao102 t776.length co102, .slice none 0 0]) ?_ 1 _ rfl; (with_reducible repeat (first | refine blk_drewN ?_ _ | refine blk_drew ?_ | refine blk_alloc ?_ _)); refine blk_put (cs := #[.slice none 0 0, .slice none 0 0]) ?_ 0 _ rfl; (with_reducible repeat (first | refine blk_drewN ?_ _ | refine blk_drew ?_ | refine blk_alloc ?_ _)); exact BK783.out) hb); replace HB := am (below_step (b3 GE736.out GE765.out GE783.out) hb); (try clear hb); (try clear hb2); (try clear hk); (try clear hi)))
          go_ret
          exact ⟨by first | rfl | (simp [errW_none, errW_some] <;> rfl) | (simp [*, errW_none, errW_some] <;> rfl), b3 GE736.out GE765.out GE783.out⟩
        ·rw [if_neg c81] at H
         have c81b0 : (t782 == t784) = false := by simpa using c81
         (try (have c81b1 : decide (t782 = t784) = false := by simpa using c81))
         (try (have c81b2 : (t782 == t784) = false := by simpa using c81))
         (try (have c81b3 : ¬ (t782 = t784) := by simpa using c81))
         clear c81
         exact absurd ((Option.some.inj H).trans hT.out) (by decide)

/-- THE ONE PURE STATEMENT of laws_FnForgery: yours. -/
def laws_FnForgery.Pure : Prop := ∀ (l0 : List Int), l0.length ≤ maxLen → l0.length * 1 ≤ 140737488351232 → (∀ x ∈ l0, (Lit.int .u8 x).wf = true) → ∃ k, laws_FnForgery.f k l0 = some true
theorem laws_FnForgery.walk (P : laws_FnForgery.Pure) (a0 : Option Addr) (len0 cap0 : Nat) (z0 : List Int) (w : World) (w0 : (a0 = none ∧ len0 = 0 ∧ cap0 = 0 ∧ z0 = []) ∨ ∃ x, a0 = some x ∧ len0 ≤ cap0 ∧ cap0 ≤ maxLen ∧ z0.length = cap0 ∧ (∀ i, i < z0.length → w.cell? (x.add i) = some (.int .u8 (z0.getD i 0))) ∧ ∀ n ∈ z0, (Lit.int .u8 n).wf = true) (y0 : len0 * 1 ≤ 140737488351232) :
  Calls Try.prog 4 #[.slice a0 len0 cap0] w fun e w' => e = .returned (.bool true) ∧ Below w.heap.size w w' := by
 obtain ⟨l0, rfl, hr0, hm0, hw0, hc0⟩ := ReadsInt.ofRowC w0
 obtain ⟨k, h⟩ := P l0 hm0 y0 hw0
 refine (laws_FnForgery.calls k _ _ l0 true w ⟨rfl⟩ (Kd.C_of_reads (d := (0 : Int)) (h1 := fun _ => rfl) hr0) hc0 h).mono ?_
 rintro e w' ⟨rfl, hd⟩
 exact ⟨rfl, hd⟩

end Go.Proofs.Ytchjajbkaiefdaa.PFnForgery
