-- Written by a program of this workplace (wip/mp.py) out of the translation.
import Derived.Test.YtchjajbkaiefdaaPFnExactFromLeavesx0
import Derived.Test.YtchjajbkaiefdaaPFnExactFromLeavesx3
import Derived.Test.YtchjajbkaiefdaaPFnExactFromLeavesx4
import Derived.Test.YtchjajbkaiefdaaPFnExactFromLeavesx6
namespace Go.Proofs.Ytchjajbkaiefdaa.PFnExactFromLeaves
open Go.RowKit Go.Proofs.YtchjajbkaiefdaaW.PrintWords Go.Proofs.YtchjajbkaiefdaaW.PrintLast Go.Proofs.YtchjajbkaiefdaaW.PrintMore Go.Proofs.Ytchjajbkaiefdaa.Slim
attribute [local go_sem] max2_int min2_int max_two min_two max_three min_three max_four min_four   -- for this text's walks alone
set_option linter.unusedVariables false
set_option linter.unusedSimpArgs false

/-! ### spec_FromLeaves: function 26 -/
mutual
def spec_FromLeaves.j0 : Nat → Int → List (List Int) → List (List Int) → Bool → Option (List Int × List Int × Bool)
 | 0, _, _, _, _ => none
 | k + 1, x0, x1, x2, x25 => if x25 = true then (some (([] : List Int), ([] : List Int), false)) else (if (x1.length : Int) = (x2.length : Int) then (spec_FromLeaves.l0 k x0 x1 x2 0) else ((spec_l3TopOf.f k x0 x1).bind fun t294 => ((spec_l3TopOf.f k x0 x2).bind fun t297 => (some (t294, t297, true)))))
def spec_FromLeaves.l0 : Nat → Int → List (List Int) → List (List Int) → Int → Option (List Int × List Int × Bool)
 | 0, _, _, _, _ => none
 | k + 1, x0, x1, x2, x9 => if x9 < (x1.length : Int) then (if 0 ≤ x9 then (if x9 < (x2.length : Int) then ((spec_l1Same.f (rd_L1 x1 x9) (rd_L1 x2 x9)).bind fun t302 => (if t302 = true then (spec_FromLeaves.l0 k x0 x1 x2 (wrap64 (x9 + 1))) else ((spec_Path.f k x0 x1 x9).bind fun bt303 => ((spec_Path.f k x0 x2 x9).bind fun bt307 => ((spec_FromPaths.f k x0 (x1.length : Int) x9 (rd_L1 x1 x9) bt303.1 (rd_L1 x2 x9) bt307.1).bind fun bt313 => (some (bt313.1, bt313.2.1, bt313.2.2))))))) else (none)) else (none)) else (some (([] : List Int), ([] : List Int), false))
end
def spec_FromLeaves.f (k : Nat) (a0 : Int) (l1 : List (List Int)) (l2 : List (List Int)) : Option (List Int × List Int × Bool) := (spec_TreeRoot.f k a0 l1).bind fun t292 => (if t292 < 0 then (spec_FromLeaves.j0 k a0 l1 l2 true) else ((spec_TreeRoot.f k a0 l2).bind fun t293 => (spec_FromLeaves.j0 k a0 l1 l2 (t292 != t293))))
def spec_FromLeaves.T9 : Bool × List (List Nat × List Nat) := (true, [([], []), ([], []), ([0, 1], [0, 1]), ([2], [2]), ([], []), ([], []), ([4, 5], [4, 5]), ([6], [6]), ([3, 7], [3, 7]), ([8], [8])])
def spec_FromLeaves.B9 : List Nat := [0, 0, 3, 7, 0, 0, 48, 112, 255, 511]
theorem spec_FromLeaves.tab9 : rtab .any (opsOf Try.f26 9) = spec_FromLeaves.T9 := by kernel_rfl
theorem spec_FromLeaves.bits9 : waitsOk spec_FromLeaves.T9.2 spec_FromLeaves.B9 = true := by kernel_rfl
def spec_FromLeaves.T12 : Bool × List (List Nat × List Nat) := (true, [([], []), ([], []), ([1], [1]), ([], []), ([], []), ([], []), ([4, 5], [4, 5]), ([6], [6]), ([], []), ([], []), ([], []), ([9, 10], [9, 10]), ([11], [11]), ([], []), ([0, 2, 3, 7, 8, 12, 13], [0, 2, 3, 7, 8, 12, 13]), ([14], [14]), ([14], [14]), ([15, 14, 0, 1, 2, 3, 4, 5, 6, 7, 8, 9, 10, 11, 12, 13, 14, 15, 16], [15]), ([16, 17, 0, 1, 2, 3, 4, 5, 6, 7, 8, 9, 10, 11, 12, 13, 14, 15, 16, 17], [16])])
def spec_FromLeaves.B12 : List Nat := [0, 0, 2, 0, 0, 0, 48, 112, 0, 0, 0, 1536, 3584, 0, 16383, 32767, 32767, 131071, 262143]
theorem spec_FromLeaves.tab12 : rtab .any (opsOf Try.f26 12) = spec_FromLeaves.T12 := by kernel_rfl
theorem spec_FromLeaves.bits12 : waitsOk spec_FromLeaves.T12.2 spec_FromLeaves.B12 = true := by kernel_rfl
set_option maxHeartbeats 8000000 in
set_option maxRecDepth 100000 in
theorem spec_FromLeaves.calls (k : Nat) (a0 : Int) (A1 : Option Addr) (c1 : Nat) (l1 : List (List Int)) (A2 : Option Addr) (c2 : Nat) (l2 : List (List Int)) (r1 : List Int) (r2 : List Int) (r3 : Bool) (w : World) (hr1 : Kd.C (Kd.slice 5 (Kd.int .u8)) w A1 l1.length l1) (hc1 : l1.length ≤ c1) (hr2 : Kd.C (Kd.slice 5 (Kd.int .u8)) w A2 l2.length l2) (hc2 : l2.length ≤ c2) (h : spec_FromLeaves.f k a0 l1 l2 = some (r1, r2, r3)) :
  Calls Try.prog 26 #[.int .i64 a0, .slice A1 l1.length c1, .slice A2 l2.length c2] w fun e w' => ∃ v0_ v1_ : Value, e = .returned (.tuple #[.agg #[v0_, v1_], .bool r3]) ∧ Kd.V (Kd.int .u8) 5 w' w.heap.size (fun k_ => (w.heap.size ≤ k_)) v0_ r1 ∧ Kd.V (Kd.int .u8) 5 w' w.heap.size (fun k_ => (w.heap.size ≤ k_)) v1_ r2 ∧ Below w.heap.size w w' := by
 have hu33 := Try.underlying33
 have HR1 := Aside0.mk hr1
 have HC1 := Aside0.mk hc1
 clear hr1 hc1
 have HR2 := Aside0.mk hr2
 have HC2 := Aside0.mk hc2
 clear hr2 hc2
 have HB := Aside0.mk (Below.refl w.heap.size w)
 have H : ((spec_TreeRoot.f k a0 l1).bind fun t292 => (if t292 < 0 then (spec_FromLeaves.j0 k a0 l1 l2 true) else ((spec_TreeRoot.f k a0 l2).bind fun t293 => (spec_FromLeaves.j0 k a0 l1 l2 (t292 != t293))))) = some (r1, r2, r3) := h
 clear h
 replace H := Option.bind_eq_some_iff.mp H
 obtain ⟨t292, A40, H⟩ := H
 (try dsimp -simprocs only at H)
 have A4 := Aside0.mk A40
 clear A40
 have HC5 := Aside0.mk H
 clear H
 go_enter Try.func26, Try.ntmps26
 go_upto_region 2 with (first | ((with_reducible refine gate_dst (N := 6) rfl ?_); refine box_event ?hg (N := 6) ?hd (cs := #[.slice none 0 0, .slice none 0 0]) (t := 33) ?hr ?_; (case hd => rfl); (case hg => rfl); (case hr => first | (go_simp; done) | (go_simp; rfl)); intro gb291 hg w6 hbox hb; have BK291 := Aside0.mk (hbox); have GW291 := Aside0.mk ((by rw [hg]; exact (below_size (bt)) : w.heap.size ≤ gb291)); have GE291 := Aside0.mk ((by rw [hg]; exact (below_size (bt)) : w.heap.size ≤ gb291)); replace HB := Aside0.mk (below_step (bt) hb); clear hb hbox hg) | ((with_reducible refine gate_callee (f := 73) rfl ?_); refine goesL_ (some 16) rfl rfl Try.func73 (by kernel_rfl) rfl #[.int .i64 a0, .slice A1 l1.length c1] rfl av ?_; (with_reducible refine (spec_TreeRoot.calls k a0 _ _ l1 t292 _ ?side1 ?side2 A4.out).mono ?_); (case side1 => exact cv ((Kd.C_below HR1.out HB.out))); (case side2 => exact HC1.out); rintro e w7 ⟨rfl, hb⟩; refine ⟨_, rfl, ?_⟩; replace BK291 := Aside0.mk (blk_below (g := gb291) (o := .cells #[.slice none 0 0, .slice none 0 0] 33 (0, 0)) (mb BK291.out) hb); replace HB := Aside0.mk (below_step (b1 GE291.out) hb); (try clear hb); (try clear hb2); (try clear hk); (try clear hi)))
 (try simp only [Act.put, List.setIfInBounds_toArray, List.set_cons_zero, List.set_cons_succ])
 go_cut [25] (fun v25 wc => ∃ (kq : Nat) (x25_4 : Bool), v25 = .bool x25_4 ∧ Aside0 (spec_FromLeaves.j0 kq a0 l1 l2 x25_4 = some (r1, r2, r3)) ∧ Aside0 (kq ≤ k) ∧ Aside0 (wc.heap[gb291]? = some (.cells #[(.slice none 0 0), (.slice none 0 0)] 33 (0, 0))) ∧ Aside0 (Below w.heap.size w wc))
 case first =>
  have H := HC5.out
  clear HC5
  by_cases c8 : t292 < 0
  ·rw [if_pos c8] at H
   have c8b0 : decide (t292 < 0) = true := decide_eq_true c8
   clear c8
   (first | rw [c8b0] | (simp only [i64_w, i32_w]; rw [c8b0]) | skip)
   have H' := Aside0.mk H
   clear H
   go_wp2
   go_meet
   case rel => exact ⟨_, (true), (by first | rfl | (simp; done) | (simp [*]; done)), H', ⟨by first | omega | exact Nat.le_refl _⟩, ⟨mb BK291.out⟩, ⟨b1 GE291.out⟩⟩
  ·rw [if_neg c8] at H
   have c8b0 : decide (t292 < 0) = false := decide_eq_false c8
   clear c8
   (first | rw [c8b0] | (simp only [i64_w, i32_w]; rw [c8b0]) | skip)
   replace H := Option.bind_eq_some_iff.mp H
   obtain ⟨t293, A90, H⟩ := H
   (try dsimp -simprocs only at H)
   have A9 := Aside0.mk A90
   clear A90
   have H' := Aside0.mk H
   clear H
   go_wp2_with (first | (go_at_call 73; (with_reducible refine (spec_TreeRoot.calls k a0 _ _ l2 t293 _ ?side1 ?side2 A9.out).mono ?_); (case side1 => exact cv ((Kd.C_below HR2.out HB.out))); (case side2 => exact HC2.out); rintro e w10 ⟨rfl, hb⟩; replace BK291 := Aside0.mk (blk_below (g := gb291) (o := .cells #[.slice none 0 0, .slice none 0 0] 33 (0, 0)) (mb BK291.out) hb); replace HB := Aside0.mk (below_step (b1 GE291.out) hb); (try clear hb); (try clear hb2); (try clear hk); (try clear hi)))
   go_meet
   case rel => exact ⟨_, ((t292 != t293)), (by first | rfl | (simp; done) | (simp [*]; done)), H', ⟨by first | omega | exact Nat.le_refl _⟩, ⟨mb BK291.out⟩, ⟨b1 GE291.out⟩⟩
 case rest =>
  clear HC5
  try clear c1
  try clear c2
  try clear p2
  try clear c7
  try clear c8
  try clear c8b0
  obtain ⟨kq, x25_4, rfl, HA, HJ4, BK291, HB⟩ := hcut
  cases kq with
  | zero => exact absurd HA.out (by simp [spec_FromLeaves.j0])
  | succ kj4 =>
   have H := HA.out
   clear HA
   simp only [spec_FromLeaves.j0] at H
   by_cases c11 : x25_4 = true
   ·subst c11
    rw [if_pos rfl] at H
    simp only [Option.some.injEq, Prod.mk.injEq] at H
    obtain ⟨rfl, rfl, rfl⟩ := H
    have hcz12_0 : wc.cell? ⟨gb291, 0, none⟩ = some (.slice none 0 0) := (blk_cell BK291.out 0).trans rfl
    have hcz12_1 : wc.cell? ⟨gb291, 1, none⟩ = some (.slice none 0 0) := (blk_cell BK291.out 1).trans rfl
    have hfz12_0 := blk_frozen BK291.out 0
    have hfz12_1 := blk_frozen BK291.out 1
    go_wp2
    refine bodyPost_ret (results_ct rfl _ _ gb291 33 #[.slice none 0 0, .slice none 0 0] (0, 0) _ rfl (by (with_reducible repeat (first | refine blk_drewN ?_ _ | refine blk_drew ?_ | refine blk_alloc ?_ _)); refine blk_put (cs := #[.slice none 0 0, .slice none 0 0]) ?_ 1 _ rfl; (with_reducible repeat (first | refine blk_drewN ?_ _ | refine blk_drew ?_ | refine blk_alloc ?_ _)); refine blk_put (cs := #[.slice none 0 0, .slice none 0 0]) ?_ 0 _ rfl; (with_reducible repeat (first | refine blk_drewN ?_ _ | refine blk_drew ?_ | refine blk_alloc ?_ _)); exact BK291.out) Try.underlying33 rfl (by kernel_rfl)) rfl ?_
    exact ⟨_, _, by first | rfl | (simp [errW_none, errW_some] <;> rfl) | (simp [*, errW_none, errW_some] <;> rfl), Kd.R_V (base := 0) (by first | exact Kd.R_nil _ _ _ _ _ | exact Kd.N_nil _ _ _ _ _ | exact Kd.V_nil _ _ _ _ _ | exact Kd.Q_nil _ _ _ _ _ | exact Kd.S_nil _ _ _ _ _), Kd.R_V (base := 0) (by first | exact Kd.R_nil _ _ _ _ _ | exact Kd.N_nil _ _ _ _ _ | exact Kd.V_nil _ _ _ _ _ | exact Kd.Q_nil _ _ _ _ _ | exact Kd.S_nil _ _ _ _ _), b1 GE291.out⟩
   ·replace c11 := Bool.eq_false_iff.mpr c11
    subst c11
    rw [if_neg (show ¬ (false = true) by decide)] at H
    by_cases c13 : (l1.length : Int) = (l2.length : Int)
    ·rw [if_pos c13] at H
     have c13b0 : ((l1.length : Int) == (l2.length : Int)) = true := beq_iff_eq.mpr c13
     have c13b1 : ((l1.length : Int) != (l2.length : Int)) = false := bne_eq_false_iff_eq.mpr c13
     have c13b2 : (l1.length == l2.length) = true := by first | simpa using c13 | (simp at c13 ⊢; omega)
     clear c13
     have H' := Aside0.mk H
     clear H
     go_wp2
     go_loopg [9] kj4 (fun kq v9 w' => ∃ (x9_2 : Int), v9 = .int .i64 x9_2 ∧ Aside0 (spec_FromLeaves.l0 kq a0 l1 l2 x9_2 = some (r1, r2, r3)) ∧ Aside0 (kq ≤ kj4) ∧ Aside0 (w'.heap[gb291]? = some (.cells #[(.slice none 0 0), (.slice none 0 0)] 33 (0, 0))) ∧ Aside0 (Below w.heap.size w w'))
     case atStart => exact ⟨(0), (by first | rfl | (simp; done) | (simp [*]; done)), H', ⟨Nat.le_refl _⟩, ⟨mb BK291.out⟩, ⟨b1 GE291.out⟩⟩
     case round =>
      clear H'
      try clear c1
      try clear c2
      try clear p2
      try clear c7
      try clear c8
      try clear c8b0
      try clear c11
      try clear c13
      try clear c13b0
      try clear c13b1
      try clear c13b2
      try clear hcz12_0
      try clear hcz12_1
      try clear hfz12_0
      try clear hfz12_1
      try clear p2
      obtain ⟨x9_2, rfl, HA, HK2, BK291, HB⟩ := hrel
      cases gk with
      | zero => exact absurd HA.out (by simp [spec_FromLeaves.l0])
      | succ k2 =>
       have H := HA.out
       clear HA
       simp only [spec_FromLeaves.l0] at H
       by_cases c14 : x9_2 < (l1.length : Int)
       ·rw [if_pos c14] at H
        have c14b0 : decide (x9_2 < (l1.length : Int)) = true := decide_eq_true c14
        clear c14
        by_cases c15 : 0 ≤ x9_2
        ·rw [if_pos c15] at H
         have c15b0 : decide (0 ≤ x9_2) = true := decide_eq_true c15
         clear c15
         by_cases c16 : x9_2 < (l2.length : Int)
         ·rw [if_pos c16] at H
          have c16b0 : decide (x9_2 < (l2.length : Int)) = true := decide_eq_true c16
          clear c16
          replace H := Option.bind_eq_some_iff.mp H
          obtain ⟨t302, A170, H⟩ := H
          (try dsimp -simprocs only at H)
          have A17 := Aside0.mk A170
          clear A170
          by_cases c18 : t302 = true
          ·subst c18
           rw [if_pos rfl] at H
           have H' := Aside0.mk H
           clear H
           try go_wp2
           have n0_ := Aside0.mk (blk_drew BK291.out)
           have n1_ := Aside0.mk (below_drew1 HB.out)
           clear BK291
           clear HB
           have BK291 := n0_
           have HB := n1_
           clear n0_ n1_
           have p300 : 0 ≤ (x9_2 : Int) := of_decide_eq_true asm
           have q300 : x9_2 < (l1.length : Int) := of_decide_eq_true asm
           obtain ⟨ad300, A300_0, c300_0, e300, hx300_0, hl300_0, hi300_0⟩ := at_L1 HR1.out x9_2 p300 q300
           have hw300_0 := hx300_0
           cases e300
           replace hx300_0 := (HB.out.cell (World.block_lt_of_cell? w _ hx300_0)).trans hx300_0
           have HR300_0 := Aside0.mk hi300_0
           have HC300_0 := Aside0.mk hl300_0
           clear hi300_0 hl300_0
           replace p300 := eq_true p300
           replace q300 := eq_true q300
           have p301 : 0 ≤ (x9_2 : Int) := of_decide_eq_true asm
           have q301 : x9_2 < (l2.length : Int) := of_decide_eq_true asm
           obtain ⟨ad301, A301_0, c301_0, e301, hx301_0, hl301_0, hi301_0⟩ := at_L1 HR2.out x9_2 p301 q301
           have hw301_0 := hx301_0
           cases e301
           replace hx301_0 := (HB.out.cell (World.block_lt_of_cell? w _ hx301_0)).trans hx301_0
           have HR301_0 := Aside0.mk hi301_0
           have HC301_0 := Aside0.mk hl301_0
           clear hi301_0 hl301_0
           replace p301 := eq_true p301
           replace q301 := eq_true q301
           refine start_ (n := 10) (S := fun w' => w'.cell? (ad300.add (x9_2).toNat) = some (.slice A300_0 (rd_L1 l1 x9_2).length c300_0) ∧ w'.cell? (ad301.add (x9_2).toNat) = some (.slice A301_0 (rd_L1 l2 x9_2).length c301_0)) (ds := []) #[false, false, false, false, false, false, false, false, false, false] (by kernel_rfl) rfl rfl ⟨((HB.out.cell (World.block_lt_of_cell? w _ hw300_0)).trans hw300_0), ((HB.out.cell (World.block_lt_of_cell? w _ hw301_0)).trans hw301_0)⟩ (fun hHeld => ?_); refine with_tabW spec_FromLeaves.tab9 spec_FromLeaves.bits9 (fun HT_ HW_ => ?_)
           generalize wr.drew = w19 at BK291 HB HR300_0 HR301_0 hx300_0 hx301_0 hHeld ⊢
           refine pz (i := 0) (N := some 45) #[true, false, false, false, false, false, false, false, false, false] rfl rfl HT_.out ?_
           refine pz (i := 1) (N := some 46) #[true, true, false, false, false, false, false, false, false, false] rfl rfl HT_.out ?_
           refine pz (i := 2) (N := some 47) #[true, true, true, false, false, false, false, false, false, false] rfl rfl HT_.out ?_
           refine pz (i := 4) (N := some 49) #[true, true, true, false, true, false, false, false, false, false] rfl rfl HT_.out ?_
           refine pz (i := 5) (N := some 50) #[true, true, true, false, true, true, false, false, false, false] rfl rfl HT_.out ?_
           refine pz (i := 6) (N := some 51) #[true, true, true, false, true, true, true, false, false, false] rfl rfl HT_.out ?_
           refine tz (i := 3) (N := some 48) #[true, true, true, true, true, true, true, false, false, false] rfl rfl HT_.out HW_.out hHeld (Or.inl ⟨by rfl, by rintro w' ⟨s0, s1⟩; go_simp; with_reducible rfl⟩) ?_
           refine tz (i := 7) (N := some 52) #[true, true, true, true, true, true, true, true, false, false] rfl rfl HT_.out HW_.out hHeld (Or.inl ⟨by rfl, by rintro w' ⟨s0, s1⟩; go_simp; with_reducible rfl⟩) ?_
           refine one_ (i := 8) (N := some 53) #[true, true, true, true, true, true, true, true, true, false] rfl rfl (one_of HT_.out (by kernel_rfl)) (by decide) (fun K hK => ?_)
           refine goes_ Try.func75 (by kernel_rfl) rfl #[.slice A300_0 (rd_L1 l1 x9_2).length c300_0, .slice A301_0 (rd_L1 l2 x9_2).length c301_0] (by rfl) rfl rfl av ?_
           with_reducible refine (spec_l1Same.calls _ _ (rd_L1 l1 x9_2) _ _ (rd_L1 l2 x9_2) true _ ?side1 ?side2 ?side3 ?side4 A17.out).mono ?_
           (case side1 => exact cv ((Kd.C_below HR300_0.out HB.out)))
           (case side2 => exact HC300_0.out)
           (case side3 => exact cv ((Kd.C_below HR301_0.out HB.out)))
           (case side4 => exact HC301_0.out)
           rintro e w' ⟨rfl, ⟨nd, rfl⟩⟩
           refine ⟨_, rfl, ?_⟩
           refine hK.out _ _ ⟨((HB.out.cell (World.block_lt_of_cell? w _ hw300_0)).trans hw300_0), ((HB.out.cell (World.block_lt_of_cell? w _ hw301_0)).trans hw301_0)⟩ (fun hHeld => ?_)
           clear hK K
           refine nz (N := some 53) ?_
           refine pz (i := 9) (N := some 54) #[true, true, true, true, true, true, true, true, true, true] rfl rfl HT_.out ?_
           refine done_ (done_of HT_.out (by kernel_rfl)) ?_
           (try simp only [Dig.setCell_drewN])
           try go_wp2
           go_roundg k2
           case measure => have := HJ4.out; have := HK2.out; omega
           case rel => exact ⟨(wrap64 (x9_2 + 1)), (by first | rfl | (simp; done) | (simp [*]; done)), H', ⟨by have := HJ4.out; have := HK2.out; omega⟩, ⟨mb BK291.out⟩, ⟨b1 GE291.out⟩⟩
          ·replace c18 := Bool.eq_false_iff.mpr c18
           subst c18
           rw [if_neg (show ¬ (false = true) by decide)] at H
           replace H := Option.bind_eq_some_iff.mp H
           obtain ⟨⟨t303, t304⟩, A200, H⟩ := H
           (try dsimp -simprocs only at H)
           have A20 := Aside0.mk A200
           clear A200
           replace H := Option.bind_eq_some_iff.mp H
           obtain ⟨⟨t307, t308⟩, A210, H⟩ := H
           (try dsimp -simprocs only at H)
           have A21 := Aside0.mk A210
           clear A210
           replace H := Option.bind_eq_some_iff.mp H
           obtain ⟨⟨t313, t316, t319⟩, A220, H⟩ := H
           (try dsimp -simprocs only at H)
           have A22 := Aside0.mk A220
           clear A220
           simp only [Option.some.injEq, Prod.mk.injEq] at H
           obtain ⟨rfl, rfl, rfl⟩ := H
           try go_wp2
           have n0_ := Aside0.mk (blk_drew BK291.out)
           have n1_ := Aside0.mk (below_drew1 HB.out)
           clear BK291
           clear HB
           have BK291 := n0_
           have HB := n1_
           clear n0_ n1_
           have p300 : 0 ≤ (x9_2 : Int) := of_decide_eq_true asm
           have q300 : x9_2 < (l1.length : Int) := of_decide_eq_true asm
           obtain ⟨ad300, A300_0, c300_0, e300, hx300_0, hl300_0, hi300_0⟩ := at_L1 HR1.out x9_2 p300 q300
           have hw300_0 := hx300_0
           cases e300
           replace hx300_0 := (HB.out.cell (World.block_lt_of_cell? w _ hx300_0)).trans hx300_0
           have HR300_0 := Aside0.mk hi300_0
           have HC300_0 := Aside0.mk hl300_0
           clear hi300_0 hl300_0
           replace p300 := eq_true p300
           replace q300 := eq_true q300
           have p301 : 0 ≤ (x9_2 : Int) := of_decide_eq_true asm
           have q301 : x9_2 < (l2.length : Int) := of_decide_eq_true asm
           obtain ⟨ad301, A301_0, c301_0, e301, hx301_0, hl301_0, hi301_0⟩ := at_L1 HR2.out x9_2 p301 q301
           have hw301_0 := hx301_0
           cases e301
           replace hx301_0 := (HB.out.cell (World.block_lt_of_cell? w _ hx301_0)).trans hx301_0
           have HR301_0 := Aside0.mk hi301_0
           have HC301_0 := Aside0.mk hl301_0
           clear hi301_0 hl301_0
           replace p301 := eq_true p301
           replace q301 := eq_true q301
           refine start_ (n := 10) (S := fun w' => w'.cell? (ad300.add (x9_2).toNat) = some (.slice A300_0 (rd_L1 l1 x9_2).length c300_0) ∧ w'.cell? (ad301.add (x9_2).toNat) = some (.slice A301_0 (rd_L1 l2 x9_2).length c301_0)) (ds := []) #[false, false, false, false, false, false, false, false, false, false] (by kernel_rfl) rfl rfl ⟨((HB.out.cell (World.block_lt_of_cell? w _ hw300_0)).trans hw300_0), ((HB.out.cell (World.block_lt_of_cell? w _ hw301_0)).trans hw301_0)⟩ (fun hHeld => ?_); refine with_tabW spec_FromLeaves.tab9 spec_FromLeaves.bits9 (fun HT_ HW_ => ?_)
           generalize wr.drew = w23 at BK291 HB HR300_0 HR301_0 hx300_0 hx301_0 hHeld ⊢
           refine pz (i := 0) (N := some 45) #[true, false, false, false, false, false, false, false, false, false] rfl rfl HT_.out ?_
           refine pz (i := 1) (N := some 46) #[true, true, false, false, false, false, false, false, false, false] rfl rfl HT_.out ?_
           refine pz (i := 2) (N := some 47) #[true, true, true, false, false, false, false, false, false, false] rfl rfl HT_.out ?_
           refine pz (i := 4) (N := some 49) #[true, true, true, false, true, false, false, false, false, false] rfl rfl HT_.out ?_
           refine pz (i := 5) (N := some 50) #[true, true, true, false, true, true, false, false, false, false] rfl rfl HT_.out ?_
           refine pz (i := 6) (N := some 51) #[true, true, true, false, true, true, true, false, false, false] rfl rfl HT_.out ?_
           refine tz (i := 3) (N := some 48) #[true, true, true, true, true, true, true, false, false, false] rfl rfl HT_.out HW_.out hHeld (Or.inl ⟨by rfl, by rintro w' ⟨s0, s1⟩; go_simp; with_reducible rfl⟩) ?_
           refine tz (i := 7) (N := some 52) #[true, true, true, true, true, true, true, true, false, false] rfl rfl HT_.out HW_.out hHeld (Or.inl ⟨by rfl, by rintro w' ⟨s0, s1⟩; go_simp; with_reducible rfl⟩) ?_
           refine one_ (i := 8) (N := some 53) #[true, true, true, true, true, true, true, true, true, false] rfl rfl (one_of HT_.out (by kernel_rfl)) (by decide) (fun K hK => ?_)
           refine goes_ Try.func75 (by kernel_rfl) rfl #[.slice A300_0 (rd_L1 l1 x9_2).length c300_0, .slice A301_0 (rd_L1 l2 x9_2).length c301_0] (by rfl) rfl rfl av ?_
           with_reducible refine (spec_l1Same.calls _ _ (rd_L1 l1 x9_2) _ _ (rd_L1 l2 x9_2) false _ ?side1 ?side2 ?side3 ?side4 A17.out).mono ?_
           (case side1 => exact cv ((Kd.C_below HR300_0.out HB.out)))
           (case side2 => exact HC300_0.out)
           (case side3 => exact cv ((Kd.C_below HR301_0.out HB.out)))
           (case side4 => exact HC301_0.out)
           rintro e w' ⟨rfl, ⟨nd, rfl⟩⟩
           refine ⟨_, rfl, ?_⟩
           refine hK.out _ _ ⟨((HB.out.cell (World.block_lt_of_cell? w _ hw300_0)).trans hw300_0), ((HB.out.cell (World.block_lt_of_cell? w _ hw301_0)).trans hw301_0)⟩ (fun hHeld => ?_)
           clear hK K
           refine nz (N := some 53) ?_
           refine pz (i := 9) (N := some 54) #[true, true, true, true, true, true, true, true, true, true] rfl rfl HT_.out ?_
           refine done_ (done_of HT_.out (by kernel_rfl)) ?_
           (try simp only [Dig.setCell_drewN])
           try go_wp2_with (first | ((with_reducible refine gate_callee (f := 76) rfl ?_); refine goesL_ (some 59) rfl rfl Try.func76 (by kernel_rfl) rfl #[.int .i64 a0, .slice (some ad300) l1.length c1, .int .i64 x9_2] rfl av ?_; (with_reducible refine (spec_Path.calls k2 a0 _ _ l1 x9_2 t303 t304 _ ?side1 ?side2 A20.out).mono ?_); (case side1 => repeat (first | exact (Kd.C_below HR1.out (b1 GE291.out)) | (with_reducible refine Kd.C_alloc ?_ _) | (with_reducible refine Kd.C_drewN ?_ _) | (with_reducible refine Kd.C_drew ?_))); (case side2 => exact HC1.out); rintro e w24 ⟨v305, rfl, ho0, hb⟩; refine ⟨_, rfl, ?_⟩; have HO306 := Aside0.mk (Kd.R_lower (Kd.R_newM (M := fun k_ => (w.heap.size ≤ k_)) ho0 (below_size (b1 GE291.out)) (fun k_ h_ => h_)) (below_size (b1 GE291.out))); replace BK291 := Aside0.mk (blk_below (g := gb291) (o := .cells #[.slice none 0 0, .slice none 0 0] 33 (0, 0)) (mb BK291.out) hb); replace HB := Aside0.mk (below_step (b1 GE291.out) hb); (try clear hb); (try clear hb2); (try clear hk); (try clear hi); (try clear ho0)) | ((with_reducible refine gate_callee (f := 76) rfl ?_); refine goesL_ (some 66) rfl rfl Try.func76 (by kernel_rfl) rfl #[.int .i64 a0, .slice (some ad301) l2.length c2, .int .i64 x9_2] rfl av ?_; (with_reducible refine (spec_Path.calls k2 a0 _ _ l2 x9_2 t307 t308 _ ?side1 ?side2 A21.out).mono ?_); (case side1 => exact cv ((Kd.C_below HR2.out HB.out))); (case side2 => exact HC2.out); rintro e w25 ⟨v309, rfl, ho0, hb⟩; refine ⟨_, rfl, ?_⟩; have HO310 := Aside0.mk (Kd.R_lower (Kd.R_new' (Kd.R_newM (M := fun k_ => (w.heap.size ≤ k_)) ho0 (below_size (b1 GE291.out)) (fun k_ h_ => h_)) (Kd.R_lt (mv HO306.out))) (below_size (b1 GE291.out))); replace HO306 := Aside0.mk (Kd.R_elder' (mv HO306.out) (Kd.R_base ho0) hb); replace BK291 := Aside0.mk (blk_below (g := gb291) (o := .cells #[.slice none 0 0, .slice none 0 0] 33 (0, 0)) (mb BK291.out) hb); replace HB := Aside0.mk (below_step (b1 GE291.out) hb); (try clear hb); (try clear hb2); (try clear hk); (try clear hi); (try clear ho0)))
           have n0_ := Aside0.mk (Kd.R_drew HO306.out)
           have n1_ := Aside0.mk (Kd.R_drew HO310.out)
           have n2_ := Aside0.mk (blk_drew BK291.out)
           have n3_ := Aside0.mk (below_drew1 HB.out)
           clear HO306
           clear HO310
           clear BK291
           clear HB
           have HO306 := n0_
           have HO310 := n1_
           have BK291 := n2_
           have HB := n3_
           clear n0_ n1_ n2_ n3_
           have p311 : 0 ≤ (x9_2 : Int) := of_decide_eq_true asm
           have q311 : x9_2 < (l1.length : Int) := of_decide_eq_true asm
           obtain ⟨ad311, A311_0, c311_0, e311, hx311_0, hl311_0, hi311_0⟩ := at_L1 HR1.out x9_2 p311 q311
           have hw311_0 := hx311_0
           obtain rfl : ad300 = ad311 := (by injection e311)
           replace hx311_0 := (HB.out.cell (World.block_lt_of_cell? w _ hx311_0)).trans hx311_0
           have HR311_0 := Aside0.mk hi311_0
           have HC311_0 := Aside0.mk hl311_0
           clear hi311_0 hl311_0
           replace p311 := eq_true p311
           replace q311 := eq_true q311
           have p312 : 0 ≤ (x9_2 : Int) := of_decide_eq_true asm
           have q312 : x9_2 < (l2.length : Int) := of_decide_eq_true asm
           obtain ⟨ad312, A312_0, c312_0, e312, hx312_0, hl312_0, hi312_0⟩ := at_L1 HR2.out x9_2 p312 q312
           have hw312_0 := hx312_0
           obtain rfl : ad301 = ad312 := (by injection e312)
           replace hx312_0 := (HB.out.cell (World.block_lt_of_cell? w _ hx312_0)).trans hx312_0
           have HR312_0 := Aside0.mk hi312_0
           have HC312_0 := Aside0.mk hl312_0
           clear hi312_0 hl312_0
           replace p312 := eq_true p312
           replace q312 := eq_true q312
           obtain ⟨Ao27, co27, eo27⟩ := Kd.R_slice HO306.out
           (first | subst eo27 | (injection eo27 with f1_ f2_ f3_; have f4_ := f1_.symm; have f5_ := f3_.symm; clear f1_ f2_ f3_; subst f4_; subst f5_))
           obtain ⟨Ao28, co28, eo28⟩ := Kd.R_slice HO310.out
           (first | subst eo28 | (injection eo28 with f1_ f2_ f3_; have f4_ := f1_.symm; have f5_ := f3_.symm; clear f1_ f2_ f3_; subst f4_; subst f5_))
           refine start_ (n := 19) (S := fun w' => w'.cell? (ad300.add (x9_2).toNat) = some (.slice A311_0 (rd_L1 l1 x9_2).length c311_0) ∧ w'.cell? (ad301.add (x9_2).toNat) = some (.slice A312_0 (rd_L1 l2 x9_2).length c312_0)) (ds := []) #[false, false, false, false, false, false, false, false, false, false, false, false, false, false, false, false, false, false, false] (by kernel_rfl) rfl rfl ⟨((HB.out.cell (World.block_lt_of_cell? w _ hw311_0)).trans hw311_0), ((HB.out.cell (World.block_lt_of_cell? w _ hw312_0)).trans hw312_0)⟩ (fun hHeld => ?_); refine with_tabW spec_FromLeaves.tab12 spec_FromLeaves.bits12 (fun HT_ HW_ => ?_)
           generalize w25.drew = w26 at HO306 HO310 BK291 HB HR311_0 HR312_0 hx311_0 hx312_0 hHeld ⊢
           refine pz (i := 0) (N := some 69) #[true, false, false, false, false, false, false, false, false, false, false, false, false, false, false, false, false, false, false] rfl rfl HT_.out ?_
           refine pz (i := 1) (N := some 70) #[true, true, false, false, false, false, false, false, false, false, false, false, false, false, false, false, false, false, false] rfl rfl HT_.out ?_
           refine pz (i := 2) (N := some 71) #[true, true, true, false, false, false, false, false, false, false, false, false, false, false, false, false, false, false, false] rfl rfl HT_.out ?_
           refine pz (i := 3) (N := some 72) #[true, true, true, true, false, false, false, false, false, false, false, false, false, false, false, false, false, false, false] rfl rfl HT_.out ?_
           refine pz (i := 4) (N := some 73) #[true, true, true, true, true, false, false, false, false, false, false, false, false, false, false, false, false, false, false] rfl rfl HT_.out ?_
           refine pz (i := 5) (N := some 74) #[true, true, true, true, true, true, false, false, false, false, false, false, false, false, false, false, false, false, false] rfl rfl HT_.out ?_
           refine pz (i := 6) (N := some 75) #[true, true, true, true, true, true, true, false, false, false, false, false, false, false, false, false, false, false, false] rfl rfl HT_.out ?_
           refine pz (i := 8) (N := some 77) #[true, true, true, true, true, true, true, false, true, false, false, false, false, false, false, false, false, false, false] rfl rfl HT_.out ?_
           refine pz (i := 9) (N := some 78) #[true, true, true, true, true, true, true, false, true, true, false, false, false, false, false, false, false, false, false] rfl rfl HT_.out ?_
           refine pz (i := 10) (N := some 79) #[true, true, true, true, true, true, true, false, true, true, true, false, false, false, false, false, false, false, false] rfl rfl HT_.out ?_
           refine pz (i := 11) (N := some 80) #[true, true, true, true, true, true, true, false, true, true, true, true, false, false, false, false, false, false, false] rfl rfl HT_.out ?_
           refine pz (i := 13) (N := some 82) #[true, true, true, true, true, true, true, false, true, true, true, true, false, true, false, false, false, false, false] rfl rfl HT_.out ?_
           refine tz (i := 7) (N := some 76) #[true, true, true, true, true, true, true, true, true, true, true, true, false, true, false, false, false, false, false] rfl rfl HT_.out HW_.out hHeld (Or.inl ⟨by rfl, by rintro w' ⟨s0, s1⟩; go_simp; with_reducible rfl⟩) ?_
           refine tz (i := 12) (N := some 81) #[true, true, true, true, true, true, true, true, true, true, true, true, true, true, false, false, false, false, false] rfl rfl HT_.out HW_.out hHeld (Or.inl ⟨by rfl, by rintro w' ⟨s0, s1⟩; go_simp; with_reducible rfl⟩) ?_
           refine one_ (i := 14) (N := some 83) #[true, true, true, true, true, true, true, true, true, true, true, true, true, true, true, false, false, false, false] rfl rfl (one_of HT_.out (by kernel_rfl)) (by decide) (fun K hK => ?_)
           refine goes_ Try.func77 (by kernel_rfl) rfl #[.int .i64 a0, .int .i64 (l1.length : Int), .int .i64 x9_2, .slice A311_0 (rd_L1 l1 x9_2).length c311_0, .slice Ao27 t303.length co27, .slice A312_0 (rd_L1 l2 x9_2).length c312_0, .slice Ao28 t307.length co28] (by rfl) rfl rfl av ?_
           with_reducible refine (spec_FromPaths.calls k2 a0 (l1.length : Int) x9_2 _ _ (rd_L1 l1 x9_2) _ _ t303 _ _ (rd_L1 l2 x9_2) _ _ t307 t313 t316 t319 _ ?side1 ?side2 ?side3 ?side4 ?side5 ?side6 ?side7 ?side8 A22.out).mono ?_
           (case side1 => exact cv ((Kd.C_below HR311_0.out HB.out)))
           (case side2 => exact HC311_0.out)
           (case side3 => exact cv ((Kd.R_reads' HO306.out).2.2))
           (case side4 => exact (Kd.R_reads' HO306.out).2.1)
           (case side5 => exact cv ((Kd.C_below HR312_0.out HB.out)))
           (case side6 => exact HC312_0.out)
           (case side7 => exact cv ((Kd.R_reads' HO310.out).2.2))
           (case side8 => exact (Kd.R_reads' HO310.out).2.1)
           rintro e w29 ⟨v314, v317, rfl, ho0, ho1, hb⟩
           refine ⟨_, rfl, ?_⟩
           have n0_ := Aside0.mk (Kd.R_below (mv HO306.out) hb)
           have n1_ := Aside0.mk (Kd.R_below (mv HO310.out) hb)
           have n2_ := Aside0.mk (Kd.V_lower (Kd.V_mono (ok' := fun k_ => (w.heap.size ≤ k_) ∧ some k_ ≠ (.slice Ao27 t303.length co27 : Value).ownBlock ∧ some k_ ≠ (.slice Ao28 t307.length co28 : Value).ownBlock ∧ k_ ≠ gb291) ho0 (fun k_ hk_ => ⟨(Nat.le_trans (below_size (b1 GE291.out)) hk_), (Kd.fresh' (Kd.R_lt (mv HO306.out)) k_ hk_), (Kd.fresh' (Kd.R_lt (mv HO310.out)) k_ hk_), (Kd.freshB (g := gb291) (o := .cells #[.slice none 0 0, .slice none 0 0] 33 (0, 0)) (mb BK291.out) k_ hk_)⟩)) (below_size (b1 GE291.out)))
           have n3_ := Aside0.mk (Kd.V_lower (Kd.V_mono (ok' := fun k_ => (w.heap.size ≤ k_) ∧ some k_ ≠ (.slice Ao27 t303.length co27 : Value).ownBlock ∧ some k_ ≠ (.slice Ao28 t307.length co28 : Value).ownBlock ∧ k_ ≠ gb291) ho1 (fun k_ hk_ => ⟨(Nat.le_trans (below_size (b1 GE291.out)) hk_), (Kd.fresh' (Kd.R_lt (mv HO306.out)) k_ hk_), (Kd.fresh' (Kd.R_lt (mv HO310.out)) k_ hk_), (Kd.freshB (g := gb291) (o := .cells #[.slice none 0 0, .slice none 0 0] 33 (0, 0)) (mb BK291.out) k_ hk_)⟩)) (below_size (b1 GE291.out)))
           have n4_ := Aside0.mk (blk_below (g := gb291) (o := .cells #[.slice none 0 0, .slice none 0 0] 33 (0, 0)) (mb BK291.out) hb)
           have n5_ := Aside0.mk (below_step (b1 GE291.out) hb)
           clear HO306
           clear HO310
           clear BK291
           clear HB
           have HO306 := n0_
           have HO310 := n1_
           have HO315 := n2_
           have HO318 := n3_
           have BK291 := n4_
           have HB := n5_
           clear n0_ n1_ n2_ n3_ n4_ n5_
           (try clear hb)
           (try clear hb2)
           (try clear hk)
           (try clear hi)
           (try clear ho0)
           (try clear ho1)
           obtain ⟨Ao30, co30, eo30⟩ := Kd.V_slice HO315.out
           (first | subst eo30 | (injection eo30 with f1_ f2_ f3_; have f4_ := f1_.symm; have f5_ := f3_.symm; clear f1_ f2_ f3_; subst f4_; subst f5_))
           obtain ⟨Ao32, co32, eo32⟩ := Kd.V_slice HO318.out
           (first | subst eo32 | (injection eo32 with f1_ f2_ f3_; have f4_ := f1_.symm; have f5_ := f3_.symm; clear f1_ f2_ f3_; subst f4_; subst f5_))
           refine hK.out _ _ ⟨((HB.out.cell (World.block_lt_of_cell? w _ hw311_0)).trans hw311_0), ((HB.out.cell (World.block_lt_of_cell? w _ hw312_0)).trans hw312_0)⟩ (fun hHeld => ?_)
           clear hK K
           refine nz (N := some 83) ?_
           refine pz (i := 15) (N := some 84) #[true, true, true, true, true, true, true, true, true, true, true, true, true, true, true, true, false, false, false] rfl rfl HT_.out ?_
           refine pz (i := 16) (N := some 85) #[true, true, true, true, true, true, true, true, true, true, true, true, true, true, true, true, true, false, false] rfl rfl HT_.out ?_
           refine one_ (i := 17) (N := none) #[true, true, true, true, true, true, true, true, true, true, true, true, true, true, true, true, true, true, false] rfl rfl (one_of HT_.out (by kernel_rfl)) (by decide) (fun K hK => ?_)
           have hs31 : w29.cell? ⟨gb291, 0, none⟩ = some (.slice none 0 0) := (blk_cell BK291.out 0).trans rfl
           have hfs31 := blk_frozen BK291.out 0
           have hs33 : w29.cell? ⟨gb291, 1, none⟩ = some (.slice none 0 0) := (blk_cell BK291.out 1).trans rfl
           have hfs33 := blk_frozen BK291.out 1
           refine skip_ (w1 := ?_) (by rfl) rfl ?_ ?_
           rotate_left
           ·go_simp
            rfl
           refine hK.out _ _ ⟨((cell_far (p := ⟨gb291, _, none⟩) (by first | exact Nat.ne_of_lt (Nat.lt_of_lt_of_le (by have := World.block_lt_of_cell? _ _ hw311_0; first | rwa [add_block] at this | exact this) GW291.out) | (rw [add_block]; exact Nat.ne_of_lt (Nat.lt_of_lt_of_le (by have := World.block_lt_of_cell? _ _ hw311_0; first | rwa [add_block] at this | exact this) GW291.out)) | (show (Addr.add _ _).block ≠ _; rw [add_block]; exact Nat.ne_of_lt (Nat.lt_of_lt_of_le (by have := World.block_lt_of_cell? _ _ hw311_0; first | rwa [add_block] at this | exact this) GW291.out)) | (dsimp only; exact Nat.ne_of_lt (Nat.lt_of_lt_of_le (by have := World.block_lt_of_cell? _ _ hw311_0; first | rwa [add_block] at this | exact this) GW291.out))) _).trans (((cell_far (p := ⟨gb291, _, none⟩) (by first | exact Nat.ne_of_lt (Nat.lt_of_lt_of_le (by have := World.block_lt_of_cell? _ _ hw311_0; first | rwa [add_block] at this | exact this) GW291.out) | (rw [add_block]; exact Nat.ne_of_lt (Nat.lt_of_lt_of_le (by have := World.block_lt_of_cell? _ _ hw311_0; first | rwa [add_block] at this | exact this) GW291.out)) | (show (Addr.add _ _).block ≠ _; rw [add_block]; exact Nat.ne_of_lt (Nat.lt_of_lt_of_le (by have := World.block_lt_of_cell? _ _ hw311_0; first | rwa [add_block] at this | exact this) GW291.out)) | (dsimp only; exact Nat.ne_of_lt (Nat.lt_of_lt_of_le (by have := World.block_lt_of_cell? _ _ hw311_0; first | rwa [add_block] at this | exact this) GW291.out))) _).trans (hHeld.1)))), ((cell_far (p := ⟨gb291, _, none⟩) (by first | exact Nat.ne_of_lt (Nat.lt_of_lt_of_le (by have := World.block_lt_of_cell? _ _ hw312_0; first | rwa [add_block] at this | exact this) GW291.out) | (rw [add_block]; exact Nat.ne_of_lt (Nat.lt_of_lt_of_le (by have := World.block_lt_of_cell? _ _ hw312_0; first | rwa [add_block] at this | exact this) GW291.out)) | (show (Addr.add _ _).block ≠ _; rw [add_block]; exact Nat.ne_of_lt (Nat.lt_of_lt_of_le (by have := World.block_lt_of_cell? _ _ hw312_0; first | rwa [add_block] at this | exact this) GW291.out)) | (dsimp only; exact Nat.ne_of_lt (Nat.lt_of_lt_of_le (by have := World.block_lt_of_cell? _ _ hw312_0; first | rwa [add_block] at this | exact this) GW291.out))) _).trans (((cell_far (p := ⟨gb291, _, none⟩) (by first | exact Nat.ne_of_lt (Nat.lt_of_lt_of_le (by have := World.block_lt_of_cell? _ _ hw312_0; first | rwa [add_block] at this | exact this) GW291.out) | (rw [add_block]; exact Nat.ne_of_lt (Nat.lt_of_lt_of_le (by have := World.block_lt_of_cell? _ _ hw312_0; first | rwa [add_block] at this | exact this) GW291.out)) | (show (Addr.add _ _).block ≠ _; rw [add_block]; exact Nat.ne_of_lt (Nat.lt_of_lt_of_le (by have := World.block_lt_of_cell? _ _ hw312_0; first | rwa [add_block] at this | exact this) GW291.out)) | (dsimp only; exact Nat.ne_of_lt (Nat.lt_of_lt_of_le (by have := World.block_lt_of_cell? _ _ hw312_0; first | rwa [add_block] at this | exact this) GW291.out))) _).trans (hHeld.2))))⟩ (fun hHeld => ?_)
           clear hK K
           refine pz (i := 18) (N := some 7) #[true, true, true, true, true, true, true, true, true, true, true, true, true, true, true, true, true, true, true] rfl rfl HT_.out ?_
           refine done_ (done_of HT_.out (by kernel_rfl)) ?_
           (try simp only [Dig.setCell_drewN])
           try go_wp2
           refine bodyPost_ret (results_ct rfl _ _ gb291 33 #[.slice Ao30 t313.length co30, .slice Ao32 t316.length co32] (0, 0) _ rfl (by (with_reducible repeat (first | refine blk_drewN ?_ _ | refine blk_drew ?_ | refine blk_alloc ?_ _)); refine blk_put (cs := #[.slice Ao30 t313.length co30, .slice none 0 0]) ?_ 1 _ rfl; (with_reducible repeat (first | refine blk_drewN ?_ _ | refine blk_drew ?_ | refine blk_alloc ?_ _)); refine blk_put (cs := #[.slice none 0 0, .slice none 0 0]) ?_ 0 _ rfl; (with_reducible repeat (first | refine blk_drewN ?_ _ | refine blk_drew ?_ | refine blk_alloc ?_ _)); exact BK291.out) Try.underlying33 rfl (by kernel_rfl)) rfl ?_
           exact ⟨_, _, by first | rfl | (simp [errW_none, errW_some] <;> rfl) | (simp [*, errW_none, errW_some] <;> rfl), by (with_reducible repeat (first | apply Kd.V_alloc | apply Kd.V_drewN | apply Kd.V_drew)); exact Kd.V_mono (Kd.V_far (p := ⟨gb291, 1, none⟩) (Kd.V_far (p := ⟨gb291, 0, none⟩) (Kd.V_mono HO315.out (fun k_ hk => (⟨hk, hk.2.2.2⟩ : _ ∧ k_ ≠ gb291))) (fun _ hk => hk.2) (.slice Ao30 t313.length co30)) (fun _ hk => hk.2) (.slice Ao32 t316.length co32)) (fun _ hk => hk.1.1), by (with_reducible repeat (first | apply Kd.V_alloc | apply Kd.V_drewN | apply Kd.V_drew)); exact Kd.V_mono (Kd.V_far (p := ⟨gb291, 1, none⟩) (Kd.V_far (p := ⟨gb291, 0, none⟩) (Kd.V_mono HO318.out (fun k_ hk => (⟨hk, hk.2.2.2⟩ : _ ∧ k_ ≠ gb291))) (fun _ hk => hk.2) (.slice Ao30 t313.length co30)) (fun _ hk => hk.2) (.slice Ao32 t316.length co32)) (fun _ hk => hk.1.1), b1 GE291.out⟩
         ·rw [if_neg c16] at H
          exact absurd H (by simp)
        ·rw [if_neg c15] at H
         exact absurd H (by simp)
       ·rw [if_neg c14] at H
        have c14b0 : decide (x9_2 < (l1.length : Int)) = false := decide_eq_false c14
        clear c14
        simp only [Option.some.injEq, Prod.mk.injEq] at H
        obtain ⟨rfl, rfl, rfl⟩ := H
        have hcz34_0 : wr.cell? ⟨gb291, 0, none⟩ = some (.slice none 0 0) := (blk_cell BK291.out 0).trans rfl
        have hcz34_1 : wr.cell? ⟨gb291, 1, none⟩ = some (.slice none 0 0) := (blk_cell BK291.out 1).trans rfl
        have hfz34_0 := blk_frozen BK291.out 0
        have hfz34_1 := blk_frozen BK291.out 1
        go_wp2
        refine bodyPost_ret (results_ct rfl _ _ gb291 33 #[.slice none 0 0, .slice none 0 0] (0, 0) _ rfl (by (with_reducible repeat (first | refine blk_drewN ?_ _ | refine blk_drew ?_ | refine blk_alloc ?_ _)); refine blk_put (cs := #[.slice none 0 0, .slice none 0 0]) ?_ 1 _ rfl; (with_reducible repeat (first | refine blk_drewN ?_ _ | refine blk_drew ?_ | refine blk_alloc ?_ _)); refine blk_put (cs := #[.slice none 0 0, .slice none 0 0]) ?_ 0 _ rfl; (with_reducible repeat (first | refine blk_drewN ?_ _ | refine blk_drew ?_ | refine blk_alloc ?_ _)); exact BK291.out) Try.underlying33 rfl (by kernel_rfl)) rfl ?_
        exact ⟨_, _, by first | rfl | (simp [errW_none, errW_some] <;> rfl) | (simp [*, errW_none, errW_some] <;> rfl), Kd.R_V (base := 0) (by first | exact Kd.R_nil _ _ _ _ _ | exact Kd.N_nil _ _ _ _ _ | exact Kd.V_nil _ _ _ _ _ | exact Kd.Q_nil _ _ _ _ _ | exact Kd.S_nil _ _ _ _ _), Kd.R_V (base := 0) (by first | exact Kd.R_nil _ _ _ _ _ | exact Kd.N_nil _ _ _ _ _ | exact Kd.V_nil _ _ _ _ _ | exact Kd.Q_nil _ _ _ _ _ | exact Kd.S_nil _ _ _ _ _), b1 GE291.out⟩
    ·rw [if_neg c13] at H
     have c13b0 : ((l1.length : Int) == (l2.length : Int)) = false := beq_eq_false_iff_ne.mpr c13
     have c13b1 : ((l1.length : Int) != (l2.length : Int)) = true := bne_iff_ne.mpr c13
     have c13b2 : (l1.length == l2.length) = false := by first | simpa using c13 | (simp at c13 ⊢; omega)
     replace H := Option.bind_eq_some_iff.mp H
     obtain ⟨t294, A350, H⟩ := H
     (try dsimp -simprocs only at H)
     have A35 := Aside0.mk A350
     clear A350
     replace H := Option.bind_eq_some_iff.mp H
     obtain ⟨t297, A360, H⟩ := H
     (try dsimp -simprocs only at H)
     have A36 := Aside0.mk A360
     clear A360
     simp only [Option.some.injEq, Prod.mk.injEq] at H
     obtain ⟨rfl, rfl, rfl⟩ := H
     go_wp2_with (first | ((with_reducible refine gate_callee (f := 74) rfl ?_); refine goesL_ (some 34) rfl rfl Try.func74 (by kernel_rfl) rfl #[.int .i64 a0, .slice A1 l1.length c1] rfl av ?_; (with_reducible refine (spec_l3TopOf.calls kj4 a0 _ _ l1 t294 _ ?side1 ?side2 A35.out).mono ?_); (case side1 => exact cv ((Kd.C_below HR1.out HB.out))); (case side2 => exact HC1.out); rintro e w37 ⟨v295, rfl, ho0, hb⟩; refine ⟨_, rfl, ?_⟩; have HO296 := Aside0.mk (Kd.R_lower (Kd.R_newM (M := fun k_ => (w.heap.size ≤ k_)) ho0 (below_size (b1 GE291.out)) (fun k_ h_ => h_)) (below_size (b1 GE291.out))); replace BK291 := Aside0.mk (blk_below (g := gb291) (o := .cells #[.slice none 0 0, .slice none 0 0] 33 (0, 0)) (mb BK291.out) hb); replace HB := Aside0.mk (below_step (b1 GE291.out) hb); (try clear hb); (try clear hb2); (try clear hk); (try clear hi); (try clear ho0)) | ((with_reducible refine gate_callee (f := 74) rfl ?_); refine goesL_ (some 37) rfl rfl Try.func74 (by kernel_rfl) rfl #[.int .i64 a0, .slice A2 l2.length c2] rfl av ?_; (with_reducible refine (spec_l3TopOf.calls kj4 a0 _ _ l2 t297 _ ?side1 ?side2 A36.out).mono ?_); (case side1 => exact cv ((Kd.C_below HR2.out HB.out))); (case side2 => exact HC2.out); rintro e w38 ⟨v298, rfl, ho0, hb⟩; refine ⟨_, rfl, ?_⟩; have HO299 := Aside0.mk (Kd.R_lower (Kd.R_new' (Kd.R_newM (M := fun k_ => (w.heap.size ≤ k_)) ho0 (below_size (b1 GE291.out)) (fun k_ h_ => h_)) (Kd.R_lt (mv HO296.out))) (below_size (b1 GE291.out))); replace HO296 := Aside0.mk (Kd.R_elder' (mv HO296.out) (Kd.R_base ho0) hb); replace BK291 := Aside0.mk (blk_below (g := gb291) (o := .cells #[.slice none 0 0, .slice none 0 0] 33 (0, 0)) (mb BK291.out) hb); replace HB := Aside0.mk (below_step (b1 GE291.out) hb); (try clear hb); (try clear hb2); (try clear hk); (try clear hi); (try clear ho0); obtain ⟨Ao39, co39, eo39⟩ := Kd.R_slice HO299.out; subst eo39; obtain ⟨Ao40, co40, eo40⟩ := Kd.R_slice HO296.out; subst eo40; have hcz41_0 : w38.cell? ⟨gb291, 0, none⟩ = some (.slice none 0 0) := (blk_cell BK291.out 0).trans rfl; have hcz41_1 : w38.cell? ⟨gb291, 1, none⟩ = some (.slice none 0 0) := (blk_cell BK291.out 1).trans rfl; have hfz41_0 := blk_frozen BK291.out 0; have hfz41_1 := blk_frozen BK291.out 1))
     refine bodyPost_ret (results_ct rfl _ _ gb291 33 #[.slice Ao40 t294.length co40, .slice Ao39 t297.length co39] (0, 0) _ rfl (by (with_reducible repeat (first | refine blk_drewN ?_ _ | refine blk_drew ?_ | refine blk_alloc ?_ _)); refine blk_put (cs := #[.slice Ao40 t294.length co40, .slice none 0 0]) ?_ 1 _ rfl; (with_reducible repeat (first | refine blk_drewN ?_ _ | refine blk_drew ?_ | refine blk_alloc ?_ _)); refine blk_put (cs := #[.slice none 0 0, .slice none 0 0]) ?_ 0 _ rfl; (with_reducible repeat (first | refine blk_drewN ?_ _ | refine blk_drew ?_ | refine blk_alloc ?_ _)); exact BK291.out) Try.underlying33 rfl (by kernel_rfl)) rfl ?_
     exact ⟨_, _, by first | rfl | (simp [errW_none, errW_some] <;> rfl) | (simp [*, errW_none, errW_some] <;> rfl), Kd.R_V (by (with_reducible repeat (first | apply Kd.R_alloc | apply Kd.R_drewN | apply Kd.R_drew)); exact Kd.R_mono (Kd.R_far (p := ⟨gb291, 1, none⟩) (Kd.R_far (p := ⟨gb291, 0, none⟩) (Kd.R_types HO296.out BK291.out (by decide)) (fun _ hk => hk.2) (.slice Ao40 t294.length co40)) (fun _ hk => hk.2) (.slice Ao39 t297.length co39)) (fun _ hk => hk.1.1.1)), Kd.R_V (by (with_reducible repeat (first | apply Kd.R_alloc | apply Kd.R_drewN | apply Kd.R_drew)); exact Kd.R_mono (Kd.R_far (p := ⟨gb291, 1, none⟩) (Kd.R_far (p := ⟨gb291, 0, none⟩) (Kd.R_types HO299.out BK291.out (by decide)) (fun _ hk => hk.2) (.slice Ao40 t294.length co40)) (fun _ hk => hk.2) (.slice Ao39 t297.length co39)) (fun _ hk => hk.1.1.1)), b1 GE291.out⟩

/-! ### impl_in: function 94 -/
def impl_in.f (a0 : Int) (a1 : Int) (a2 : Int) : Option (Bool) := if a0 ≥ a1 then (some (decide (a0 ≤ a2))) else (some false)
set_option maxHeartbeats 8000000 in
set_option maxRecDepth 100000 in
theorem impl_in.calls (a0 : Int) (a1 : Int) (a2 : Int) (r : Bool) (w : World) (h : impl_in.f a0 a1 a2 = some r) :
  Calls Try.prog 94 #[.int .i64 a0, .int .i64 a1, .int .i64 a2] w fun e w' => e = .returned (.bool r) ∧ Drawn0 w w' := by
 have H : (if a0 ≥ a1 then (some (decide (a0 ≤ a2))) else (some false)) = some r := h
 clear h
 by_cases c4 : a0 ≥ a1
 ·rw [if_pos c4] at H
  have c4b0 : decide (a1 ≤ a0) = true := decide_eq_true c4
  clear c4
  obtain rfl := Option.some.inj H
  go_enter Try.func94, Try.ntmps94
  go_wp2
  go_ret
  exact ⟨by first | rfl | (simp; done) | (simp [*]; done), by repeat (first | exact Drawn0.refl _ | apply Drawn0.step)⟩
 ·rw [if_neg c4] at H
  have c4b0 : decide (a1 ≤ a0) = false := decide_eq_false c4
  clear c4
  obtain rfl := Option.some.inj H
  go_enter Try.func94, Try.ntmps94
  go_wp2
  go_ret
  exact ⟨by first | rfl | (simp; done) | (simp [*]; done), by repeat (first | exact Drawn0.refl _ | apply Drawn0.step)⟩

/-! ### impl_bitsOk: function 103 -/
def impl_bitsOk.f (a0 : Int) : Option (Bool) := (impl_in.f a0 2 60).bind fun t320 => (some t320)
set_option maxHeartbeats 8000000 in
set_option maxRecDepth 100000 in
theorem impl_bitsOk.calls (a0 : Int) (r : Bool) (w : World) (h : impl_bitsOk.f a0 = some r) :
  Calls Try.prog 103 #[.int .i64 a0] w fun e w' => e = .returned (.bool r) ∧ Drawn0 w w' := by
 have H : ((impl_in.f a0 2 60).bind fun t320 => (some t320)) = some r := h
 clear h
 replace H := Option.bind_eq_some_iff.mp H
 obtain ⟨t320, A20, H⟩ := H
 (try dsimp -simprocs only at H)
 have A2 := Aside0.mk A20
 clear A20
 obtain rfl := Option.some.inj H
 go_enter Try.func103, Try.ntmps103
 go_wp2_with (first | ((with_reducible refine gate_callee (f := 94) rfl ?_); refine goesL_ (some 4) rfl rfl Try.func94 (by kernel_rfl) rfl #[.int .i64 a0, .int .i64 2, .int .i64 60] rfl av ?_; (with_reducible refine (impl_in.calls a0 2 60 t320 _ A2.out).mono ?_); rintro e w' ⟨rfl, ⟨nd, rfl⟩⟩; refine ⟨_, rfl, ?_⟩))
 go_ret
 exact ⟨by first | rfl | (simp; done) | (simp [*]; done), by repeat (first | exact Drawn0.refl _ | apply Drawn0.step)⟩

end Go.Proofs.Ytchjajbkaiefdaa.PFnExactFromLeaves
