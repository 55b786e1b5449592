-- Written by a program of this workplace (wip/mp.py) out of the translation.
import Derived.Test.YtmcpnganobehaaaPFnPairsx0
import Derived.Test.YtmcpnganobehaaaPFnPairsx1
import Derived.Test.YtmcpnganobehaaaPFnPairsx2
namespace Go.Proofs.Ytmcpnganobehaaa.PFnPairs
open Go.RowKit Go.Proofs.YtmcpnganobehaaaW.PrintWords Go.Proofs.YtmcpnganobehaaaW.PrintLast Go.Proofs.YtmcpnganobehaaaW.PrintMore Go.Proofs.Ytmcpnganobehaaa.Slim
attribute [local go_sem] max2_int min2_int max_two min_two max_three min_three max_four min_four   -- for this text's walks alone
set_option linter.unusedVariables false
set_option linter.unusedSimpArgs false

/-! ### impl_FindPair: function 38 -/
mutual
def impl_FindPair.l0 : Nat → Int → List (List Int) → List Int → List (List Int) → Int → Int → Option (List Int × List Int × Bool)
 | 0, _, _, _, _, _, _ => none
 | k + 1, x0, x1, x6, x17, x18, x19 => if x19 < x18 then (if 0 ≤ x19 then (if x19 < (x17.length : Int) then ((impl_Digest.f x0 (rd_L1 x17 x19)).bind fun t217 => (if x19 ≤ (x1.length : Int) then ((some (x1.take (x19 : Int).toNat : List (List Int))).bind fun y218 => (impl_FindPair.l1 k x0 x1 x6 (rd_L1 x17 x19) t217 x17 x18 x19 y218 (y218.length : Int) 0)) else (none))) else (none)) else (none)) else (some (([] : List Int), ([] : List Int), false))
def impl_FindPair.l1 : Nat → Int → List (List Int) → List Int → List Int → Int → List (List Int) → Int → Int → List (List Int) → Int → Int → Option (List Int × List Int × Bool)
 | 0, _, _, _, _, _, _, _, _, _, _, _ => none
 | k + 1, x0, x1, x6, x8, x9, x17, x18, x19, x29, x30, x31 => if x31 < x30 then (if 0 ≤ x31 then (if x31 < (x29.length : Int) then (if x9 ≥ 0 then (if x31 < (x6.length : Int) then (if (rd x6 x31) = x9 then ((bytes_Equal.f (rd_L1 x29 x31) x8).bind fun t227 => (if t227 = true then (impl_FindPair.l1 k x0 x1 x6 x8 x9 x17 x18 x19 x29 x30 (wrap64 (x31 + 1))) else ((impl_pairOf.f (rd_L1 x29 x31) x8).bind fun bt228 => (some (bt228.1, bt228.2, true))))) else (impl_FindPair.l1 k x0 x1 x6 x8 x9 x17 x18 x19 x29 x30 (wrap64 (x31 + 1)))) else (none)) else (impl_FindPair.l1 k x0 x1 x6 x8 x9 x17 x18 x19 x29 x30 (wrap64 (x31 + 1)))) else (none)) else (none)) else (if x6.length < 17592186044416 then (impl_FindPair.l0 k x0 x1 (x6 ++ [x9]) x17 x18 (wrap64 (x19 + 1))) else (none))
end
def impl_FindPair.f (k : Nat) (a0 : Int) (l1 : List (List Int)) : Option (List Int × List Int × Bool) := if (l1.length : Int) > 100 then (some (([] : List Int), ([] : List Int), false)) else (impl_FindPair.l0 k a0 l1 (([] : List Int)) l1 (l1.length : Int) 0)
set_option maxHeartbeats 8000000 in
set_option maxRecDepth 100000 in
theorem impl_FindPair.calls (k : Nat) (a0 : Int) (A1 : Option Addr) (c1 : Nat) (l1 : List (List Int)) (r1 : List Int) (r2 : List Int) (r3 : Bool) (w : World) (hr1 : Kd.C (Kd.slice 5 (Kd.int .u8)) w A1 l1.length l1) (hc1 : l1.length ≤ c1) (h : impl_FindPair.f k a0 l1 = some (r1, r2, r3)) :
  Calls Try.prog 38 #[.int .i64 a0, .slice A1 l1.length c1] w fun e w' => ∃ v0_ v1_ : Value, e = .returned (.tuple #[.agg #[v0_, v1_], .bool r3]) ∧ Kd.R (Kd.int .u8) 5 w' w.heap.size (fun k_ => some k_ ≠ (v1_ : Value).ownBlock) v0_ r1 ∧ Kd.R (Kd.int .u8) 5 w' w.heap.size (fun k_ => some k_ ≠ (v0_ : Value).ownBlock) v1_ r2 ∧ Below w.heap.size w w' := by
 have hu44 := Try.underlying44
 have HR1 := Aside0.mk hr1
 have HC1 := Aside0.mk hc1
 clear hr1 hc1
 have HB := Aside0.mk (Below.refl w.heap.size w)
 have H : (if (l1.length : Int) > 100 then (some (([] : List Int), ([] : List Int), false)) else (impl_FindPair.l0 k a0 l1 (([] : List Int)) l1 (l1.length : Int) 0)) = some (r1, r2, r3) := h
 clear h
 by_cases c3 : (l1.length : Int) > 100
 ·rw [if_pos c3] at H
  have c3b0 : decide (100 < (l1.length : Int)) = true := decide_eq_true c3
  have c3b1 : decide (100 < l1.length) = true := decide_eq_true (by omega)
  clear c3
  simp only [Option.some.injEq, Prod.mk.injEq] at H
  obtain ⟨rfl, rfl, rfl⟩ := H
  go_enter Try.func38, Try.ntmps38
  go_wp2_with (first | ((with_reducible refine gate_dst (N := 4) rfl ?_); refine box_event ?hg (N := 4) ?hd (cs := #[.slice none 0 0, .slice none 0 0]) (t := 44) ?hr ?_; (case hd => rfl); (case hg => rfl); (case hr => first | (go_simp; done) | (go_simp; rfl)); intro gb212 hg w4 hbox hb; have BK212 := Aside0.mk (hbox); have GW212 := Aside0.mk ((by rw [hg]; exact (below_size (bt)) : w.heap.size ≤ gb212)); have GE212 := Aside0.mk ((by rw [hg]; exact (below_size (bt)) : w.heap.size ≤ gb212)); replace HB := Aside0.mk (below_step (bt) hb); clear hb hbox hg; have hcz5_0 : w4.cell? ⟨gb212, 0, none⟩ = some (.slice none 0 0) := (blk_cell BK212.out 0).trans rfl; have hcz5_1 : w4.cell? ⟨gb212, 1, none⟩ = some (.slice none 0 0) := (blk_cell BK212.out 1).trans rfl; have hfz5_0 := blk_frozen BK212.out 0; have hfz5_1 := blk_frozen BK212.out 1))
  refine bodyPost_ret (results_ct rfl _ _ gb212 44 #[.slice none 0 0, .slice none 0 0] (0, 0) _ rfl (by (with_reducible repeat (first | refine blk_drewN ?_ _ | refine blk_drew ?_ | refine blk_alloc ?_ _)); refine blk_put (cs := #[.slice none 0 0, .slice none 0 0]) ?_ 1 _ rfl; (with_reducible repeat (first | refine blk_drewN ?_ _ | refine blk_drew ?_ | refine blk_alloc ?_ _)); refine blk_put (cs := #[.slice none 0 0, .slice none 0 0]) ?_ 0 _ rfl; (with_reducible repeat (first | refine blk_drewN ?_ _ | refine blk_drew ?_ | refine blk_alloc ?_ _)); exact BK212.out) Try.underlying44 rfl (by kernel_rfl)) rfl ?_
  exact ⟨_, _, by first | rfl | (simp [errW_none, errW_some] <;> rfl) | (simp [*, errW_none, errW_some] <;> rfl), by first | exact Kd.R_nil _ _ _ _ _ | exact Kd.N_nil _ _ _ _ _ | exact Kd.V_nil _ _ _ _ _ | exact Kd.Q_nil _ _ _ _ _ | exact Kd.S_nil _ _ _ _ _, by first | exact Kd.R_nil _ _ _ _ _ | exact Kd.N_nil _ _ _ _ _ | exact Kd.V_nil _ _ _ _ _ | exact Kd.Q_nil _ _ _ _ _ | exact Kd.S_nil _ _ _ _ _, b1 GE212.out⟩
 ·rw [if_neg c3] at H
  have c3b0 : decide (100 < (l1.length : Int)) = false := decide_eq_false c3
  have c3b1 : decide (100 < l1.length) = false := decide_eq_false (by omega)
  clear c3
  obtain ⟨y213, hy213⟩ : ∃ y_ : List Int, y_ = (([] : List Int)) := ⟨_, rfl⟩
  replace H : (impl_FindPair.l0 k a0 l1 y213 l1 (l1.length : Int) 0) = some (r1, r2, r3) := by first | (rw [hy213]; exact H) | exact H
  have Ny213 := Aside0.mk hy213
  clear hy213
  have H' := Aside0.mk H
  clear H
  go_enter Try.func38, Try.ntmps38
  go_wp2_with (first | ((with_reducible refine gate_dst (N := 4) rfl ?_); refine box_event ?hg (N := 4) ?hd (cs := #[.slice none 0 0, .slice none 0 0]) (t := 44) ?hr ?_; (case hd => rfl); (case hg => rfl); (case hr => first | (go_simp; done) | (go_simp; rfl)); intro gb212 hg w6 hbox hb; have BK212 := Aside0.mk (hbox); have GW212 := Aside0.mk ((by rw [hg]; exact (below_size (bt)) : w.heap.size ≤ gb212)); have GE212 := Aside0.mk ((by rw [hg]; exact (below_size (bt)) : w.heap.size ≤ gb212)); replace HB := Aside0.mk (below_step (bt) hb); clear hb hbox hg) | ((with_reducible refine gate_dst (N := 16) rfl ?_); refine Kd.R_lit (Kd.int .i64) _ 3 ?hg (N := 16) ?hd (xs := ([] : List Int)) (inner := []) (ok := fun _ => True) (okp := fun _ => True) ?hr ?hp (fun _ hk => hk) trivial (Below.refl _ _) (Nat.le_refl _) (by simp) ?_; (case hd => rfl); (case hg => rfl); (case hr => first | (go_simp; done) | (go_simp; rfl)); (case hp => exact (Reps.none _ _)); intro v214 w7 ho8 hb hg_ hnew_; clear hg_ hnew_; (first | rw [← Ny213.out] at ho8 | (simp only [Int.reduceToNat] at ho8; rw [← Ny213.out] at ho8)); have HO215 := Aside0.mk (Kd.R_lower ho8 (below_size (b1 GE212.out))); replace BK212 := Aside0.mk (blk_below (g := gb212) (o := .cells #[.slice none 0 0, .slice none 0 0] 44 (0, 0)) (mb BK212.out) hb); replace HB := Aside0.mk (below_step (b1 GE212.out) hb); clear hb ho8))
  go_loopg [6, 19] k (fun kq v6 v19 w' => ∃ (x6_1 : List Int) (x19_1 : Int), v19 = .int .i64 x19_1 ∧ Aside0 (impl_FindPair.l0 kq a0 l1 x6_1 l1 (l1.length : Int) x19_1 = some (r1, r2, r3)) ∧ Aside0 (kq ≤ k) ∧ Aside0 (Kd.R (Kd.int .i64) 3 w' w.heap.size (fun _ => True) v6 x6_1) ∧ Aside0 (w'.heap[gb212]? = some (.cells #[(.slice none 0 0), (.slice none 0 0)] 44 (0, 0))) ∧ Aside0 (Below w.heap.size w w'))
  case atStart => exact ⟨(y213), (0), (by first | rfl | (simp; done) | (simp [*]; done)), H', ⟨Nat.le_refl _⟩, ⟨mv HO215.out⟩, ⟨mb BK212.out⟩, ⟨b1 GE212.out⟩⟩
  case round =>
   clear H'
   try clear c1
   try clear p2
   try clear c3
   try clear c3b0
   try clear c3b1
   try clear hcz5_0
   try clear hcz5_1
   try clear hfz5_0
   try clear hfz5_1
   obtain ⟨x6_1, x19_1, rfl, HA, HK1, HO_6, BK212, HB⟩ := hrel
   cases gk with
   | zero => exact absurd HA.out (by simp [impl_FindPair.l0])
   | succ k1 =>
    have H := HA.out
    clear HA
    simp only [impl_FindPair.l0] at H
    by_cases c9 : x19_1 < (l1.length : Int)
    ·rw [if_pos c9] at H
     have c9b0 : decide (x19_1 < (l1.length : Int)) = true := decide_eq_true c9
     clear c9
     by_cases c10 : 0 ≤ x19_1
     ·rw [if_pos c10] at H
      have c10b0 : decide (0 ≤ x19_1) = true := decide_eq_true c10
      clear c10
      by_cases c11 : x19_1 < (l1.length : Int)
      ·rw [if_pos c11] at H
       have c11b0 : decide (x19_1 < (l1.length : Int)) = true := decide_eq_true c11
       clear c11
       replace H := Option.bind_eq_some_iff.mp H
       obtain ⟨t217, A120, H⟩ := H
       (try dsimp -simprocs only at H)
       have A12 := Aside0.mk A120
       clear A120
       have c13b0 := eq_true (of_decide_eq_true asm : 0 ≤ x19_1)
       by_cases c14 : x19_1 ≤ (l1.length : Int)
       ·rw [if_pos c14] at H
        have c14b0 := eq_true c14
        have c14b1 : decide (x19_1 ≤ (l1.length : Int)) = true := decide_eq_true c14
        clear c14
        obtain ⟨y218, hy218⟩ : ∃ y_ : List (List Int), y_ = (l1.take (x19_1 : Int).toNat) := ⟨_, rfl⟩
        replace H : (impl_FindPair.l1 k1 a0 l1 x6_1 (rd_L1 l1 x19_1) t217 l1 (l1.length : Int) x19_1 y218 (y218.length : Int) 0) = some (r1, r2, r3) := by first | (rw [hy218]; exact H) | exact H
        have Ny218 := Aside0.mk hy218
        clear hy218
        have H' := Aside0.mk H
        clear H
        have p216 : 0 ≤ (x19_1 : Int) := of_decide_eq_true asm
        have q216 : x19_1 < (l1.length : Int) := of_decide_eq_true asm
        obtain ⟨ad216, A216_0, c216_0, e216, hx216_0, hl216_0, hi216_0⟩ := at_L1 HR1.out x19_1 p216 q216
        cases e216
        replace hx216_0 := (HB.out.cell (World.block_lt_of_cell? w _ hx216_0)).trans hx216_0
        have HR216_0 := Aside0.mk hi216_0
        have HC216_0 := Aside0.mk hl216_0
        clear hi216_0 hl216_0
        replace p216 := eq_true p216
        replace q216 := eq_true q216
        go_wp2_with (first | ((with_reducible refine gate_callee (f := 21) rfl ?_); refine goesL_ (some 26) rfl rfl Try.func21 (by kernel_rfl) rfl #[.int .i64 a0, .slice A216_0 (rd_L1 l1 x19_1).length c216_0] rfl av ?_; (with_reducible refine (impl_Digest.calls a0 _ _ (rd_L1 l1 x19_1) t217 _ ?side1 ?side2 A12.out).mono ?_); (case side1 => exact cv ((Kd.C_below HR216_0.out HB.out))); (case side2 => exact HC216_0.out); rintro e w15 ⟨rfl, hb⟩; refine ⟨_, rfl, ?_⟩; replace HO_6 := Aside0.mk (Kd.R_below (mv HO_6.out) hb); replace BK212 := Aside0.mk (blk_below (g := gb212) (o := .cells #[.slice none 0 0, .slice none 0 0] 44 (0, 0)) (mb BK212.out) hb); replace HB := Aside0.mk (below_step (b1 GE212.out) hb); (try clear hb); (try clear hb2); (try clear hk); (try clear hi); have q16 : (x19_1 : Int) ≤ ((l1.length : Int) : Int) := of_decide_eq_true asm; obtain ⟨i016, hi016, _, hsz16, _⟩ := info_parts info28; have hroom16 : l1.length ≤ c1 := HC1.out; have hC16 : Kd.C (Kd.slice 5 (Kd.int .u8)) _ (some ad216) l1.length l1 := HR1.out; have hcut16 := cut_to (P := Try.prog) 49 28 .i64 Try.underlying49 hi016 (some ad216) l1.length c1 x19_1 (of_decide_eq_true asm) q16 hroom16; have hr16 := Kd.C_take (m := (x19_1 : Int).toNat) hC16 (by omega); have hy16 : y218.length = (x19_1 : Int).toNat := (by rw [Ny218.out, List.length_take]; omega); rw [← Ny218.out] at hr16; rw [← hy16] at hcut16; have HR221 := Aside0.mk hr16; have HC221 := Aside0.mk (show y218.length ≤ c1 from by omega); clear hr16 hC16 hroom16 hi016 hsz16; have KY16 := Aside0.mk hy16; clear hy16; replace q16 := eq_true q16))
        go_loopg [31] k1 (fun kq v31 w' => ∃ (x31_2 : Int), v31 = .int .i64 x31_2 ∧ Aside0 (impl_FindPair.l1 kq a0 l1 x6_1 (rd_L1 l1 x19_1) t217 l1 (l1.length : Int) x19_1 y218 (y218.length : Int) x31_2 = some (r1, r2, r3)) ∧ Aside0 (kq ≤ k1) ∧ Aside0 (Kd.R (Kd.int .i64) 3 w' w.heap.size (fun _ => True) u6 x6_1) ∧ Aside0 (w'.heap[gb212]? = some (.cells #[(.slice none 0 0), (.slice none 0 0)] 44 (0, 0))) ∧ Aside0 (Below w.heap.size w w'))
        case atStart => exact ⟨(0), (by first | rfl | (simp; done) | (simp [*]; done)), H', ⟨Nat.le_refl _⟩, ⟨mv HO_6.out⟩, ⟨mb BK212.out⟩, ⟨b1 GE212.out⟩⟩
        case round =>
         clear H'
         try clear c1
         try clear q1
         try clear c2
         try clear p2
         try clear q2
         try clear hx2
         try clear c3
         try clear c3b0
         try clear c3b1
         try clear c9
         try clear c9b0
         try clear c10
         try clear c10b0
         try clear c11
         try clear c11b0
         try clear c13
         try clear c13b0
         try clear c14
         try clear c14b0
         try clear c14b1
         try clear q16
         try clear hcz5_0
         try clear hcz5_1
         try clear hfz5_0
         try clear hfz5_1
         try clear hx216_0
         try clear p2
         try clear p216
         try clear q16
         try clear q216
         obtain ⟨x31_2, rfl, HA, HK2, HO_6, BK212, HB⟩ := hrel
         cases gk with
         | zero => exact absurd HA.out (by simp [impl_FindPair.l1])
         | succ k2 =>
          have H := HA.out
          clear HA
          simp only [impl_FindPair.l1] at H
          by_cases c17 : x31_2 < (y218.length : Int)
          ·rw [if_pos c17] at H
           have c17b0 : decide (x31_2 < (y218.length : Int)) = true := decide_eq_true c17
           clear c17
           by_cases c18 : 0 ≤ x31_2
           ·rw [if_pos c18] at H
            have c18b0 : decide (0 ≤ x31_2) = true := decide_eq_true c18
            clear c18
            by_cases c19 : x31_2 < (y218.length : Int)
            ·rw [if_pos c19] at H
             have c19b0 : decide (x31_2 < (y218.length : Int)) = true := decide_eq_true c19
             clear c19
             by_cases c20 : t217 ≥ 0
             ·rw [if_pos c20] at H
              have c20b0 : decide (0 ≤ t217) = true := decide_eq_true c20
              clear c20
              by_cases c21 : x31_2 < (x6_1.length : Int)
              ·rw [if_pos c21] at H
               have c21b0 : decide (x31_2 < (x6_1.length : Int)) = true := decide_eq_true c21
               clear c21
               by_cases c22 : (rd x6_1 x31_2) = t217
               ·rw [if_pos c22] at H
                have c22b0 : ((rd x6_1 x31_2) == t217) = true := beq_iff_eq.mpr c22
                have c22b1 : ((rd x6_1 x31_2) != t217) = false := bne_eq_false_iff_eq.mpr c22
                clear c22
                replace H := Option.bind_eq_some_iff.mp H
                obtain ⟨t227, A230, H⟩ := H
                (try dsimp -simprocs only at H)
                have A23 := Aside0.mk A230
                clear A230
                by_cases c24 : t227 = true
                ·subst c24
                 rw [if_pos rfl] at H
                 have H' := Aside0.mk H
                 clear H
                 have p225 : 0 ≤ (x31_2 : Int) := of_decide_eq_true asm
                 have q225 : x31_2 < (y218.length : Int) := of_decide_eq_true asm
                 obtain ⟨ad225, A225_0, c225_0, e225, hx225_0, hl225_0, hi225_0⟩ := at_L1 HR221.out x31_2 p225 q225
                 obtain rfl : ad216 = ad225 := (by injection e225)
                 replace hx225_0 := (HB.out.cell (World.block_lt_of_cell? w _ hx225_0)).trans hx225_0
                 have HR225_0 := Aside0.mk hi225_0
                 have HC225_0 := Aside0.mk hl225_0
                 clear hi225_0 hl225_0
                 replace p225 := eq_true p225
                 replace q225 := eq_true q225
                 obtain ⟨Ao25, co25, eo25⟩ := Kd.R_slice HO_6.out
                 subst eo25
                 have p226 : 0 ≤ (x31_2 : Int) := of_decide_eq_true asm
                 have q226 : x31_2 < (x6_1.length : Int) := of_decide_eq_true asm
                 obtain ⟨ad226, e226, hx226_0⟩ := Kd.at_int (Kd.R_reads' HO_6.out).2.2 x31_2 p226 q226
                 cases e226
                 replace p226 := eq_true p226
                 replace q226 := eq_true q226
                 go_wp2_with (first | (go_at_call 75; (with_reducible refine (bytes_Equal.calls _ _ (rd_L1 y218 x31_2) _ _ (rd_L1 l1 x19_1) true _ ?side1 ?side2 ?side3 ?side4 A23.out).mono ?_); (case side1 => exact cv ((Kd.C_below HR225_0.out HB.out))); (case side2 => exact HC225_0.out); (case side3 => exact cv ((Kd.C_below HR216_0.out HB.out))); (case side4 => exact HC216_0.out); rintro e w' ⟨rfl, ⟨nd, rfl⟩⟩))
                 go_roundg k2
                 case measure => have := HK1.out; have := HK2.out; omega
                 case rel => exact ⟨(wrap64 (x31_2 + 1)), (by first | rfl | (simp; done) | (simp [*]; done)), H', ⟨by have := HK1.out; have := HK2.out; omega⟩, ⟨mv HO_6.out⟩, ⟨mb BK212.out⟩, ⟨b1 GE212.out⟩⟩
                ·replace c24 := Bool.eq_false_iff.mpr c24
                 subst c24
                 rw [if_neg (show ¬ (false = true) by decide)] at H
                 replace H := Option.bind_eq_some_iff.mp H
                 obtain ⟨⟨t228, t231⟩, A260, H⟩ := H
                 (try dsimp -simprocs only at H)
                 have A26 := Aside0.mk A260
                 clear A260
                 simp only [Option.some.injEq, Prod.mk.injEq] at H
                 obtain ⟨rfl, rfl, rfl⟩ := H
                 have p225 : 0 ≤ (x31_2 : Int) := of_decide_eq_true asm
                 have q225 : x31_2 < (y218.length : Int) := of_decide_eq_true asm
                 obtain ⟨ad225, A225_0, c225_0, e225, hx225_0, hl225_0, hi225_0⟩ := at_L1 HR221.out x31_2 p225 q225
                 obtain rfl : ad216 = ad225 := (by injection e225)
                 replace hx225_0 := (HB.out.cell (World.block_lt_of_cell? w _ hx225_0)).trans hx225_0
                 have HR225_0 := Aside0.mk hi225_0
                 have HC225_0 := Aside0.mk hl225_0
                 clear hi225_0 hl225_0
                 replace p225 := eq_true p225
                 replace q225 := eq_true q225
                 obtain ⟨Ao27, co27, eo27⟩ := Kd.R_slice HO_6.out
                 subst eo27
                 have p226 : 0 ≤ (x31_2 : Int) := of_decide_eq_true asm
                 have q226 : x31_2 < (x6_1.length : Int) := of_decide_eq_true asm
                 obtain ⟨ad226, e226, hx226_0⟩ := Kd.at_int (Kd.R_reads' HO_6.out).2.2 x31_2 p226 q226
                 cases e226
                 replace p226 := eq_true p226
                 replace q226 := eq_true q226
                 go_wp2_with (first | (go_at_call 75; (with_reducible refine (bytes_Equal.calls _ _ (rd_L1 y218 x31_2) _ _ (rd_L1 l1 x19_1) false _ ?side1 ?side2 ?side3 ?side4 A23.out).mono ?_); (case side1 => exact cv ((Kd.C_below HR225_0.out HB.out))); (case side2 => exact HC225_0.out); (case side3 => exact cv ((Kd.C_below HR216_0.out HB.out))); (case side4 => exact HC216_0.out); rintro e w' ⟨rfl, ⟨nd, rfl⟩⟩; (try (rw [drewN_self wr]; generalize hq_ : World.drewN wr _ = wr; have n0_ : Aside0 (Kd.R (Kd.int .i64) 3 wr w.heap.size (fun _ => True) (.slice (some ad226) x6_1.length co27) x6_1) := ⟨by rw [← hq_]; exact (mv HO_6.out)⟩; have n1_ : Aside0 (wr.heap[gb212]? = some (.cells #[.slice none 0 0, .slice none 0 0] 44 (0, 0))) := ⟨by rw [← hq_]; exact (mb BK212.out)⟩; have n2_ : Aside0 (Below w.heap.size w wr) := ⟨by rw [← hq_]; exact (b1 GE212.out)⟩; clear HO_6 BK212 HB hq_; have HO_6 := n0_; have BK212 := n1_; have HB := n2_; clear n0_ n1_ n2_))) | ((with_reducible refine gate_callee (f := 81) rfl ?_); refine goesL_ (some 54) rfl rfl Try.func81 (by kernel_rfl) rfl #[.slice A225_0 (rd_L1 y218 x31_2).length c225_0, .slice A216_0 (rd_L1 l1 x19_1).length c216_0] rfl av ?_; (with_reducible refine (impl_pairOf.calls _ _ (rd_L1 y218 x31_2) _ _ (rd_L1 l1 x19_1) t228 t231 _ ?side1 ?side2 ?side3 ?side4 A26.out).mono ?_); (case side1 => exact cv ((Kd.C_below HR225_0.out HB.out))); (case side2 => exact HC225_0.out); (case side3 => exact cv ((Kd.C_below HR216_0.out HB.out))); (case side4 => exact HC216_0.out); rintro e w28 ⟨v229, v232, rfl, ho0, ho1, hb⟩; refine ⟨_, rfl, ?_⟩; replace HO_6 := Aside0.mk (Kd.R_below (mv HO_6.out) hb); have HO230 := Aside0.mk (Kd.R_lower ho0 (below_size (b1 GE212.out))); have HO233 := Aside0.mk (Kd.R_lower ho1 (below_size (b1 GE212.out))); replace BK212 := Aside0.mk (blk_below (g := gb212) (o := .cells #[.slice none 0 0, .slice none 0 0] 44 (0, 0)) (mb BK212.out) hb); replace HB := Aside0.mk (below_step (b1 GE212.out) hb); (try clear hb); (try clear hb2); (try clear hk); (try clear hi); (try clear ho0); (try clear ho1); obtain ⟨Ao29, co29, eo29⟩ := Kd.R_slice HO230.out; subst eo29; have hcz30_0 : w28.cell? ⟨gb212, 0, none⟩ = some (.slice none 0 0) := (blk_cell BK212.out 0).trans rfl; have hcz30_1 : w28.cell? ⟨gb212, 1, none⟩ = some (.slice none 0 0) := (blk_cell BK212.out 1).trans rfl; have hfz30_0 := blk_frozen BK212.out 0; have hfz30_1 := blk_frozen BK212.out 1; obtain ⟨Ao31, co31, eo31⟩ := Kd.R_slice HO233.out; subst eo31))
                 refine bodyPost_ret (results_ct rfl _ _ gb212 44 #[.slice Ao29 t228.length co29, .slice Ao31 t231.length co31] (0, 0) _ rfl (by (with_reducible repeat (first | refine blk_drewN ?_ _ | refine blk_drew ?_ | refine blk_alloc ?_ _)); refine blk_put (cs := #[.slice Ao29 t228.length co29, .slice none 0 0]) ?_ 1 _ rfl; (with_reducible repeat (first | refine blk_drewN ?_ _ | refine blk_drew ?_ | refine blk_alloc ?_ _)); refine blk_put (cs := #[.slice none 0 0, .slice none 0 0]) ?_ 0 _ rfl; (with_reducible repeat (first | refine blk_drewN ?_ _ | refine blk_drew ?_ | refine blk_alloc ?_ _)); exact BK212.out) Try.underlying44 rfl (by kernel_rfl)) rfl ?_
                 exact ⟨_, _, by first | rfl | (simp [errW_none, errW_some] <;> rfl) | (simp [*, errW_none, errW_some] <;> rfl), by (with_reducible repeat (first | apply Kd.R_alloc | apply Kd.R_drewN | apply Kd.R_drew)); exact Kd.R_mono (Kd.R_far (p := ⟨gb212, 1, none⟩) (Kd.R_far (p := ⟨gb212, 0, none⟩) (Kd.R_types HO230.out BK212.out (by decide)) (fun _ hk => hk.2) (.slice Ao29 t228.length co29)) (fun _ hk => hk.2) (.slice Ao31 t231.length co31)) (fun _ hk => hk.1), by (with_reducible repeat (first | apply Kd.R_alloc | apply Kd.R_drewN | apply Kd.R_drew)); exact Kd.R_mono (Kd.R_far (p := ⟨gb212, 1, none⟩) (Kd.R_far (p := ⟨gb212, 0, none⟩) (Kd.R_types HO233.out BK212.out (by decide)) (fun _ hk => hk.2) (.slice Ao29 t228.length co29)) (fun _ hk => hk.2) (.slice Ao31 t231.length co31)) (fun _ hk => hk.1), b1 GE212.out⟩
               ·rw [if_neg c22] at H
                have c22b0 : ((rd x6_1 x31_2) == t217) = false := beq_eq_false_iff_ne.mpr c22
                have c22b1 : ((rd x6_1 x31_2) != t217) = true := bne_iff_ne.mpr c22
                have H' := Aside0.mk H
                clear H
                have p225 : 0 ≤ (x31_2 : Int) := of_decide_eq_true asm
                have q225 : x31_2 < (y218.length : Int) := of_decide_eq_true asm
                obtain ⟨ad225, A225_0, c225_0, e225, hx225_0, hl225_0, hi225_0⟩ := at_L1 HR221.out x31_2 p225 q225
                obtain rfl : ad216 = ad225 := (by injection e225)
                replace hx225_0 := (HB.out.cell (World.block_lt_of_cell? w _ hx225_0)).trans hx225_0
                have HR225_0 := Aside0.mk hi225_0
                have HC225_0 := Aside0.mk hl225_0
                clear hi225_0 hl225_0
                replace p225 := eq_true p225
                replace q225 := eq_true q225
                obtain ⟨Ao32, co32, eo32⟩ := Kd.R_slice HO_6.out
                subst eo32
                have p226 : 0 ≤ (x31_2 : Int) := of_decide_eq_true asm
                have q226 : x31_2 < (x6_1.length : Int) := of_decide_eq_true asm
                obtain ⟨ad226, e226, hx226_0⟩ := Kd.at_int (Kd.R_reads' HO_6.out).2.2 x31_2 p226 q226
                cases e226
                replace p226 := eq_true p226
                replace q226 := eq_true q226
                go_wp2
                go_roundg k2
                case measure => have := HK1.out; have := HK2.out; omega
                case rel => exact ⟨(wrap64 (x31_2 + 1)), (by first | rfl | (simp; done) | (simp [*]; done)), H', ⟨by have := HK1.out; have := HK2.out; omega⟩, ⟨mv HO_6.out⟩, ⟨mb BK212.out⟩, ⟨b1 GE212.out⟩⟩
              ·rw [if_neg c21] at H
               exact absurd H (by simp)
             ·rw [if_neg c20] at H
              have c20b0 : decide (0 ≤ t217) = false := decide_eq_false c20
              clear c20
              have H' := Aside0.mk H
              clear H
              have p225 : 0 ≤ (x31_2 : Int) := of_decide_eq_true asm
              have q225 : x31_2 < (y218.length : Int) := of_decide_eq_true asm
              obtain ⟨ad225, A225_0, c225_0, e225, hx225_0, hl225_0, hi225_0⟩ := at_L1 HR221.out x31_2 p225 q225
              obtain rfl : ad216 = ad225 := (by injection e225)
              replace hx225_0 := (HB.out.cell (World.block_lt_of_cell? w _ hx225_0)).trans hx225_0
              have HR225_0 := Aside0.mk hi225_0
              have HC225_0 := Aside0.mk hl225_0
              clear hi225_0 hl225_0
              replace p225 := eq_true p225
              replace q225 := eq_true q225
              go_wp2
              go_roundg k2
              case measure => have := HK1.out; have := HK2.out; omega
              case rel => exact ⟨(wrap64 (x31_2 + 1)), (by first | rfl | (simp; done) | (simp [*]; done)), H', ⟨by have := HK1.out; have := HK2.out; omega⟩, ⟨mv HO_6.out⟩, ⟨mb BK212.out⟩, ⟨b1 GE212.out⟩⟩
            ·rw [if_neg c19] at H
             exact absurd H (by simp)
           ·rw [if_neg c18] at H
            exact absurd H (by simp)
          ·rw [if_neg c17] at H
           have c17b0 : decide (x31_2 < (y218.length : Int)) = false := decide_eq_false c17
           clear c17
           by_cases c33 : x6_1.length < 17592186044416
           ·rw [if_pos c33] at H
            have LMc33 := Aside0.mk c33
            clear c33
            obtain ⟨y222, hy222⟩ : ∃ y_ : List Int, y_ = (x6_1 ++ [t217]) := ⟨_, rfl⟩
            replace H : (impl_FindPair.l0 k2 a0 l1 y222 l1 (l1.length : Int) (wrap64 (x19_1 + 1))) = some (r1, r2, r3) := by first | (rw [hy222]; exact H) | exact H
            have Ny222 := Aside0.mk hy222
            clear hy222
            have H' := Aside0.mk H
            clear H
            go_wp2_with (first | ((with_reducible refine gate_builtin (b := .append) (xs := #[.tmp 56, .tmp 58]) rfl ?_); at_builtin; refine Kd.R_append (Kd.int .i64) (w0 := w) w.heap.size rfl (.tmp 56) (.tmp 58) 33 3 (.int .i64 0) 8 rfl Try.underlying33 info3 rfl (by decide) (by omega) u6 x6_1 t217 [.int .i64 t217] (fun _ => True) (fun _ => False) rfl rfl ?aP (fun _ hk => hk.elim) ?aF ?aO ?aB ?aS ?aL ?_; (case aP => exact rfl); (case aB => exact (b1 GE212.out)); (case aF => exact (fun _ _ => trivial)); (case aO => exact (mv HO_6.out)); (case aS => exact (below_size (b1 GE212.out))); (case aL => have := LMc33.out; omega); intro v223 w34 ho hb hg hat; rw [← Ny222.out] at ho; replace BK212 := Aside0.mk (blk_grown (g := gb212) (o := .cells #[.slice none 0 0, .slice none 0 0] 44 (0, 0)) (mb BK212.out) hg (Kd.R_ne HO_6.out BK212.out (by decide))); replace HB := Aside0.mk (hb); have HO224 := Aside0.mk (ho); clear HO_6; clear ho hb hg hat))
            go_roundg k2
            case measure => have := HK1.out; have := HK2.out; omega
            case rel => exact ⟨(y222), (wrap64 (x19_1 + 1)), (by first | rfl | (simp; done) | (simp [*]; done)), H', ⟨by have := HK1.out; have := HK2.out; omega⟩, ⟨mv HO224.out⟩, ⟨mb BK212.out⟩, ⟨b1 GE212.out⟩⟩
           ·rw [if_neg c33] at H
            exact absurd H (by simp)
       ·rw [if_neg c14] at H
        exact absurd H (by simp)
      ·rw [if_neg c11] at H
       exact absurd H (by simp)
     ·rw [if_neg c10] at H
      exact absurd H (by simp)
    ·rw [if_neg c9] at H
     have c9b0 : decide (x19_1 < (l1.length : Int)) = false := decide_eq_false c9
     clear c9
     simp only [Option.some.injEq, Prod.mk.injEq] at H
     obtain ⟨rfl, rfl, rfl⟩ := H
     have hcz35_0 : wr.cell? ⟨gb212, 0, none⟩ = some (.slice none 0 0) := (blk_cell BK212.out 0).trans rfl
     have hcz35_1 : wr.cell? ⟨gb212, 1, none⟩ = some (.slice none 0 0) := (blk_cell BK212.out 1).trans rfl
     have hfz35_0 := blk_frozen BK212.out 0
     have hfz35_1 := blk_frozen BK212.out 1
     go_wp2
     refine bodyPost_ret (results_ct rfl _ _ gb212 44 #[.slice none 0 0, .slice none 0 0] (0, 0) _ rfl (by (with_reducible repeat (first | refine blk_drewN ?_ _ | refine blk_drew ?_ | refine blk_alloc ?_ _)); refine blk_put (cs := #[.slice none 0 0, .slice none 0 0]) ?_ 1 _ rfl; (with_reducible repeat (first | refine blk_drewN ?_ _ | refine blk_drew ?_ | refine blk_alloc ?_ _)); refine blk_put (cs := #[.slice none 0 0, .slice none 0 0]) ?_ 0 _ rfl; (with_reducible repeat (first | refine blk_drewN ?_ _ | refine blk_drew ?_ | refine blk_alloc ?_ _)); exact BK212.out) Try.underlying44 rfl (by kernel_rfl)) rfl ?_
     exact ⟨_, _, by first | rfl | (simp [errW_none, errW_some] <;> rfl) | (simp [*, errW_none, errW_some] <;> rfl), by first | exact Kd.R_nil _ _ _ _ _ | exact Kd.N_nil _ _ _ _ _ | exact Kd.V_nil _ _ _ _ _ | exact Kd.Q_nil _ _ _ _ _ | exact Kd.S_nil _ _ _ _ _, by first | exact Kd.R_nil _ _ _ _ _ | exact Kd.N_nil _ _ _ _ _ | exact Kd.V_nil _ _ _ _ _ | exact Kd.Q_nil _ _ _ _ _ | exact Kd.S_nil _ _ _ _ _, b1 GE212.out⟩

-- NOT PRINTED: function 8 (laws_FnPairs)

end Go.Proofs.Ytmcpnganobehaaa.PFnPairs
