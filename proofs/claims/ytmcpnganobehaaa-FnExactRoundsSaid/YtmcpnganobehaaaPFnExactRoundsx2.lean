-- Written by a program of this workplace (wip/mp.py) out of the translation.
import Derived.Test.YtmcpnganobehaaaPFnExactRoundsx0
import Derived.Test.YtmcpnganobehaaaPFnExactRoundsx1
namespace Go.Proofs.Ytmcpnganobehaaa.PFnExactRounds
open Go.RowKit Go.Proofs.YtmcpnganobehaaaW.PrintWords Go.Proofs.YtmcpnganobehaaaW.PrintLast Go.Proofs.YtmcpnganobehaaaW.PrintMore
attribute [local go_sem] max2_int min2_int max_two min_two max_three min_three max_four min_four   -- for this text's walks alone
set_option linter.unusedVariables false
set_option linter.unusedSimpArgs false

/-! ### impl_Rounds: function 17 -/
def impl_Rounds.f (a0_0 a0_1 a0_2 : Int) (a1 : Int) : Option (Int × Int × Int × Bool) :=
  if 0 ≤ a1 ∧ a1 ≤ 100 then some (wrap64 (Dig.rnds a1.toNat (IntKind.u64.wrap a0_0, IntKind.u64.wrap a0_1, IntKind.u64.wrap a0_2)).1, wrap64 (Dig.rnds a1.toNat (IntKind.u64.wrap a0_0, IntKind.u64.wrap a0_1, IntKind.u64.wrap a0_2)).2.1, wrap64 (Dig.rnds a1.toNat (IntKind.u64.wrap a0_0, IntKind.u64.wrap a0_1, IntKind.u64.wrap a0_2)).2.2, true) else some (a0_0, a0_1, a0_2, false)
theorem rin_eq (a b c : Int) : impl_in.f a b c = some (decide (b ≤ a ∧ a ≤ c)) := by
  unfold impl_in.f
  by_cases h : a ≥ b <;> simp [h]
set_option maxHeartbeats 8000000 in
set_option maxRecDepth 100000 in
theorem rounds_no (a b c n : Int) (w : World) (h : ¬ (0 ≤ n ∧ n ≤ 100)) :
    Calls Try.prog 17 #[.agg #[.int .i64 a, .int .i64 b, .int .i64 c], .int .i64 n] w fun e w' => e = .returned (.tuple #[.agg #[.int .i64 a, .int .i64 b, .int .i64 c], .bool false]) ∧ Below w.heap.size w w' := by
  have hu22 := Try.underlying22
  have e1 : impl_in.f n 0 100 = some false := by rw [rin_eq]; simp; omega
  have E1 := Aside0.mk e1
  clear h e1
  have HB := Aside0.mk (Below.refl w.heap.size w)
  go_enter Try.func17, Try.ntmps17
  go_wp2_with (first
    | ((with_reducible refine gate_dst (N := 2) rfl ?_); refine box_event ?hg (N := 2) ?hd (cs := #[.int .i64 a, .int .i64 b, .int .i64 c]) (t := 22) ?hr ?_; (case hd => rfl); (case hg => rfl); (case hr => first | (go_simp; done) | (go_simp; rfl)); intro g1 hg w1 hbox hb; have B1 := Aside0.mk hbox; have G1 := Aside0.mk hg; have HB1 := Aside0.mk (below_step HB.out hb); clear hbox hb hg)
    | ((with_reducible refine gate_dst (N := 4) rfl ?_); refine box_event ?hg (N := 4) ?hd (cs := #[.int .i64 0, .int .i64 0, .int .i64 0]) (t := 22) ?hr ?_; (case hd => rfl); (case hg => rfl); (case hr => first | (go_simp; done) | (go_simp; rfl)); intro g2 hg w2 hbox hb; have B2 := Aside0.mk hbox; have B12 := Aside0.mk (blk_below B1.out hb); have G2 := Aside0.mk hg; have HB2 := Aside0.mk (below_step HB1.out hb); have N21 : g2 ≠ g1 := (by have := blk_lt B1.out; omega); have N12 : g1 ≠ g2 := N21.symm; have k0 := (blk_cell hbox 0).trans (show _ = some (.int .i64 0) from rfl); have h0 := blk_frozen hbox 0; have k1 := (blk_cell hbox 1).trans (show _ = some (.int .i64 0) from rfl); have h1 := blk_frozen hbox 1; have k2 := (blk_cell hbox 2).trans (show _ = some (.int .i64 0) from rfl); have h2 := blk_frozen hbox 2; have q0 := (blk_cell B12.out 0).trans (show _ = some (.int .i64 a) from rfl); have q1 := (blk_cell B12.out 1).trans (show _ = some (.int .i64 b) from rfl); have q2 := (blk_cell B12.out 2).trans (show _ = some (.int .i64 c) from rfl); clear hbox hb hg)
    | (go_at_call 65; refine (impl_in.calls n 0 100 false _ E1.out).mono ?_; rintro e w' ⟨rfl, ⟨nd, rfl⟩⟩))
  refine bodyPost_ret (results_ct rfl _ _ g2 22 #[.int .i64 a, .int .i64 b, .int .i64 c] (0, 0) _ rfl (blk_put (blk_put (blk_put (blk_drewN B2.out nd) 0 _ rfl) 1 _ rfl) 2 _ rfl) Try.underlying22 rfl (by kernel_rfl)) rfl ?_
  have GE2 : w.heap.size ≤ g2 := by have := HB1.out.size; have := G2.out; omega
  exact ⟨rfl, below_set (below_set (below_set (pw_below_drewN HB2.out nd) GE2) GE2) GE2⟩
set_option maxHeartbeats 8000000 in
set_option maxRecDepth 100000 in
theorem rounds_yes (a b c n : Int) (s0 s1 s2 : Int) (w : World) (h : 0 ≤ n ∧ n ≤ 100) (hs : Dig.rnds n.toNat ((IntKind.u64.wrap a), (IntKind.u64.wrap b), (IntKind.u64.wrap c)) = (s0, s1, s2)) :
    Calls Try.prog 17 #[.agg #[.int .i64 a, .int .i64 b, .int .i64 c], .int .i64 n] w fun e w' => e = .returned (.tuple #[.agg #[.int .i64 (wrap64 s0), .int .i64 (wrap64 s1), .int .i64 (wrap64 s2)], .bool true]) ∧ Below w.heap.size w w' := by
  have hu22 := Try.underlying22
  have hu83 := Try.underlying83
  have e1 : impl_in.f n 0 100 = some true := by rw [rin_eq]; simp; omega
  have E1 := Aside0.mk e1
  have HR := Aside0.mk (show impl_state_rounds.f (IntKind.u64.wrap a) (IntKind.u64.wrap b) (IntKind.u64.wrap c) n = some (s0, s1, s2) by unfold impl_state_rounds.f; rw [if_pos (by omega), hs])
  clear h e1 hs
  have HB := Aside0.mk (Below.refl w.heap.size w)
  go_enter Try.func17, Try.ntmps17
  go_wp2_with (first
    | ((with_reducible refine gate_dst (N := 2) rfl ?_); refine box_event ?hg (N := 2) ?hd (cs := #[.int .i64 a, .int .i64 b, .int .i64 c]) (t := 22) ?hr ?_; (case hd => rfl); (case hg => rfl); (case hr => first | (go_simp; done) | (go_simp; rfl)); intro g1 hg w1 hbox hb; have B1 := Aside0.mk hbox; have G1 := Aside0.mk hg; have HB1 := Aside0.mk (below_step HB.out hb); clear hbox hb hg)
    | ((with_reducible refine gate_dst (N := 4) rfl ?_); refine box_event ?hg (N := 4) ?hd (cs := #[.int .i64 0, .int .i64 0, .int .i64 0]) (t := 22) ?hr ?_; (case hd => rfl); (case hg => rfl); (case hr => first | (go_simp; done) | (go_simp; rfl)); intro g2 hg w2 hbox hb; have B2 := Aside0.mk hbox; have B12 := Aside0.mk (blk_below B1.out hb); have G2 := Aside0.mk hg; have HB2 := Aside0.mk (below_step HB1.out hb); clear hbox hb hg)
    | (go_at_call 65; refine (impl_in.calls n 0 100 true _ E1.out).mono ?_; rintro e w' ⟨rfl, ⟨nd, rfl⟩⟩)
    | ((with_reducible refine gate_dst (N := 6) rfl ?_); refine box_event ?hg (N := 6) ?hd (cs := #[.int .u64 0, .int .u64 0, .int .u64 0]) (t := 83) ?hr ?_; (case hd => rfl); (case hg => rfl); (case hr => first | (go_simp; done) | (go_simp; rfl)); intro g3 hg w3 hbox hb; have B3 := Aside0.mk hbox; have B13 := Aside0.mk (blk_below (blk_drewN B12.out nd) hb); have B23 := Aside0.mk (blk_below (blk_drewN B2.out nd) hb); have G3 := Aside0.mk hg; have HB3 := Aside0.mk (below_step (pw_below_drewN HB2.out nd) hb); have N31 : g3 ≠ g1 := (by have := blk_lt (blk_drewN B12.out nd); omega); have N13 : g1 ≠ g3 := N31.symm; have N32 : g3 ≠ g2 := (by have := blk_lt (blk_drewN B2.out nd); omega); have N12 : g1 ≠ g2 := (by have := blk_lt B1.out; have := G2.out; omega); have GE3 : w.heap.size ≤ g3 := (by have := HB2.out.size; have hg2 : g3 = w2.heap.size := hg; omega); have GE2 : w.heap.size ≤ g2 := (by have := HB1.out.size; have := G2.out; omega); have GE1 : w.heap.size ≤ g1 := (by have := G1.out; omega); have k0 := (blk_cell hbox 0).trans (show _ = some (.int .u64 0) from rfl); have h0 := blk_frozen hbox 0; have k1 := (blk_cell hbox 1).trans (show _ = some (.int .u64 0) from rfl); have h1 := blk_frozen hbox 1; have k2 := (blk_cell hbox 2).trans (show _ = some (.int .u64 0) from rfl); have h2 := blk_frozen hbox 2; have q0 := (blk_cell B13.out 0).trans (show _ = some (.int .i64 a) from rfl); have q1 := (blk_cell B13.out 1).trans (show _ = some (.int .i64 b) from rfl); have q2 := (blk_cell B13.out 2).trans (show _ = some (.int .i64 c) from rfl); clear hbox hb hg))
  have M3 := Aside0.mk (blk_put (blk_put (blk_put B3.out 0 (.int .u64 0) rfl) 1 (.int .u64 0) rfl) 2 (.int .u64 0) rfl)
  have M1 := Aside0.mk (blk_far (blk_far (blk_far B13.out (p := ⟨g3, 0, none⟩) N13 (.int .u64 0)) (p := ⟨g3, 1, none⟩) N13 (.int .u64 0)) (p := ⟨g3, 2, none⟩) N13 (.int .u64 0))
  have M2 := Aside0.mk (blk_far (blk_far (blk_far B23.out (p := ⟨g3, 0, none⟩) N32.symm (.int .u64 0)) (p := ⟨g3, 1, none⟩) N32.symm (.int .u64 0)) (p := ⟨g3, 2, none⟩) N32.symm (.int .u64 0))
  have MB := Aside0.mk (below_set (j := 2) (v := .int .u64 0) (below_set (j := 1) (v := .int .u64 0) (below_set (j := 0) (v := .int .u64 0) HB3.out GE3) GE3) GE3)
  clear k0 k1 k2 h0 h1 h2 q0 q1 q2
  go_loopw [17] (fun i wr => ∃ x y z : Int, Aside0 (wr.heap[g1]? = some (.cells #[.int .i64 a, .int .i64 b, .int .i64 c] 22 (0, 0))) ∧ Aside0 (wr.heap[g2]? = some (.cells #[.int .i64 0, .int .i64 0, .int .i64 0] 22 (0, 0))) ∧ Aside0 (wr.heap[g3]? = some (.cells #[.int .u64 x, .int .u64 y, .int .u64 z] 83 (0, 0))) ∧ Aside0 (Below w.heap.size w wr) ∧
    ((i = .int .i64 0 ∧ Aside0 (x = 0 ∧ y = 0 ∧ z = 0)) ∨ (i = .int .i64 1 ∧ Aside0 (x = (IntKind.u64.wrap a) ∧ y = 0 ∧ z = 0)) ∨ (i = .int .i64 2 ∧ Aside0 (x = (IntKind.u64.wrap a) ∧ y = (IntKind.u64.wrap b) ∧ z = 0)) ∨ (i = .int .i64 3 ∧ Aside0 (x = (IntKind.u64.wrap a) ∧ y = (IntKind.u64.wrap b) ∧ z = (IntKind.u64.wrap c))))) (fun i _ => 3 - (intOf i).toNat)
  case atStart => exact ⟨0, 0, 0, M1, M2, M3, MB, .inl ⟨rfl, ⟨rfl, rfl, rfl⟩⟩⟩
  case round =>
    obtain ⟨x, y, z, C1, C2, C3, CB, hrel⟩ := hrel
    have p0 : wr.cell? ⟨g3, 0, none⟩ = some (.int .u64 x) := (blk_cell C3.out 0).trans rfl
    have p1 : wr.cell? ⟨g3, 1, none⟩ = some (.int .u64 y) := (blk_cell C3.out 1).trans rfl
    have p2 : wr.cell? ⟨g3, 2, none⟩ = some (.int .u64 z) := (blk_cell C3.out 2).trans rfl
    have f0 := blk_frozen C3.out 0
    have f1 := blk_frozen C3.out 1
    have f2 := blk_frozen C3.out 2
    rcases hrel with ⟨rfl, HX⟩ | ⟨rfl, HX⟩ | ⟨rfl, HX⟩ | ⟨rfl, HX⟩
    · go_wp2_with ((with_reducible refine gate_dst (N := 20) rfl ?_); refine Kd.event_run (v := .int .i64 a) (w1 := wr) ?hg ?hr ?_; (case hg => rfl); (case hr => first | (go_simp; done) | (go_simp; rfl) | (go_simp; kernel_rfl)))
      go_roundw
      case rel => exact ⟨_, y, z, ⟨blk_far C1.out N13 _⟩, ⟨blk_far C2.out N32.symm _⟩, ⟨blk_put C3.out 0 _ rfl⟩, ⟨below_set CB.out GE3⟩, .inr (.inl ⟨by go_num, ⟨rfl, HX.out.2⟩⟩)⟩
      case measure => simp [intOf]
    · go_wp2_with ((with_reducible refine gate_dst (N := 20) rfl ?_); refine Kd.event_run (v := .int .i64 b) (w1 := wr) ?hg ?hr ?_; (case hg => rfl); (case hr => first | (go_simp; done) | (go_simp; rfl) | (go_simp; kernel_rfl)))
      go_roundw
      case rel => exact ⟨x, _, z, ⟨blk_far C1.out N13 _⟩, ⟨blk_far C2.out N32.symm _⟩, ⟨blk_put C3.out 1 _ rfl⟩, ⟨below_set CB.out GE3⟩, .inr (.inr (.inl ⟨by go_num, ⟨HX.out.1, rfl, HX.out.2.2⟩⟩))⟩
      case measure => simp [intOf]
    · go_wp2_with ((with_reducible refine gate_dst (N := 20) rfl ?_); refine Kd.event_run (v := .int .i64 c) (w1 := wr) ?hg ?hr ?_; (case hg => rfl); (case hr => first | (go_simp; done) | (go_simp; rfl) | (go_simp; kernel_rfl)))
      go_roundw
      case rel => exact ⟨x, y, _, ⟨blk_far C1.out N13 _⟩, ⟨blk_far C2.out N32.symm _⟩, ⟨blk_put C3.out 2 _ rfl⟩, ⟨below_set CB.out GE3⟩, .inr (.inr (.inr ⟨by go_num, ⟨HX.out.1, HX.out.2.1, rfl⟩⟩))⟩
      case measure => simp [intOf]
    · clear p0 p1 p2 f0 f1 f2
      obtain ⟨rfl, rfl, rfl⟩ := HX.out
      clear HX
      go_wp2_with (go_at_call 66; refine (impl_state_rounds.calls g3 _ _ _ n s0 s1 s2 w wr ⟨C3.out, GE3⟩ CB.out HR.out).mono ?_; rintro e w4 ⟨rfl, hi, hb, hk⟩; have D3 := Aside0.mk hi.1; have DB := Aside0.mk hb; have D1 := Aside0.mk ((hk.2 g1 (blk_lt C1.out) N13 (by simp)).trans C1.out); have D2 := Aside0.mk ((hk.2 g2 (blk_lt C2.out) N32.symm (by simp)).trans C2.out); clear hi hb hk; have p0 := (blk_cell D3.out 0).trans (show _ = some (.int .u64 s0) from rfl); have p1 := (blk_cell D3.out 1).trans (show _ = some (.int .u64 s1) from rfl); have p2 := (blk_cell D3.out 2).trans (show _ = some (.int .u64 s2) from rfl))
      clear p0 p1 p2 C1 C2 C3 CB
      go_loopw [29] (fun i wr => ∃ x y z : Int, Aside0 (wr.heap[g1]? = some (.cells #[.int .i64 x, .int .i64 y, .int .i64 z] 22 (0, 0))) ∧ Aside0 (wr.heap[g2]? = some (.cells #[.int .i64 0, .int .i64 0, .int .i64 0] 22 (0, 0))) ∧ Aside0 (Below w.heap.size w wr) ∧
        ((i = .int .i64 0 ∧ Aside0 (x = a ∧ y = b ∧ z = c)) ∨ (i = .int .i64 1 ∧ Aside0 (x = wrap64 s0 ∧ y = b ∧ z = c)) ∨ (i = .int .i64 2 ∧ Aside0 (x = wrap64 s0 ∧ y = wrap64 s1 ∧ z = c)) ∨ (i = .int .i64 3 ∧ Aside0 (x = wrap64 s0 ∧ y = wrap64 s1 ∧ z = wrap64 s2)))) (fun i _ => 3 - (intOf i).toNat)
      case atStart => exact ⟨a, b, c, D1, D2, DB, .inl ⟨rfl, ⟨rfl, rfl, rfl⟩⟩⟩
      case round =>
        obtain ⟨x, y, z, C1, C2, CB, hrel⟩ := hrel
        have p0 : wr.cell? ⟨g1, 0, none⟩ = some (.int .i64 x) := (blk_cell C1.out 0).trans rfl
        have p1 : wr.cell? ⟨g1, 1, none⟩ = some (.int .i64 y) := (blk_cell C1.out 1).trans rfl
        have p2 : wr.cell? ⟨g1, 2, none⟩ = some (.int .i64 z) := (blk_cell C1.out 2).trans rfl
        have f0 := blk_frozen C1.out 0
        have f1 := blk_frozen C1.out 1
        have f2 := blk_frozen C1.out 2
        rcases hrel with ⟨rfl, HX⟩ | ⟨rfl, HX⟩ | ⟨rfl, HX⟩ | ⟨rfl, HX⟩
        · go_wp2_with ((with_reducible refine gate_dst (N := 32) rfl ?_); refine Kd.event_run (v := .int .u64 s0) (w1 := wr) ?hg ?hr ?_; (case hg => rfl); (case hr => first | (go_simp; done) | (go_simp; rfl) | (go_simp; kernel_rfl)))
          go_roundw
          case rel => exact ⟨_, y, z, ⟨blk_put C1.out 0 _ rfl⟩, ⟨blk_far C2.out N12.symm _⟩, ⟨below_set CB.out GE1⟩, .inr (.inl ⟨by go_num, ⟨rfl, HX.out.2⟩⟩)⟩
          case measure => simp [intOf]
        · go_wp2_with ((with_reducible refine gate_dst (N := 32) rfl ?_); refine Kd.event_run (v := .int .u64 s1) (w1 := wr) ?hg ?hr ?_; (case hg => rfl); (case hr => first | (go_simp; done) | (go_simp; rfl) | (go_simp; kernel_rfl)))
          go_roundw
          case rel => exact ⟨x, _, z, ⟨blk_put C1.out 1 _ rfl⟩, ⟨blk_far C2.out N12.symm _⟩, ⟨below_set CB.out GE1⟩, .inr (.inr (.inl ⟨by go_num, ⟨HX.out.1, rfl, HX.out.2.2⟩⟩))⟩
          case measure => simp [intOf]
        · go_wp2_with ((with_reducible refine gate_dst (N := 32) rfl ?_); refine Kd.event_run (v := .int .u64 s2) (w1 := wr) ?hg ?hr ?_; (case hg => rfl); (case hr => first | (go_simp; done) | (go_simp; rfl) | (go_simp; kernel_rfl)))
          go_roundw
          case rel => exact ⟨x, y, _, ⟨blk_put C1.out 2 _ rfl⟩, ⟨blk_far C2.out N12.symm _⟩, ⟨below_set CB.out GE1⟩, .inr (.inr (.inr ⟨by go_num, ⟨HX.out.1, HX.out.2.1, rfl⟩⟩))⟩
          case measure => simp [intOf]
        · have k0 := (blk_cell C2.out 0).trans (show _ = some (.int .i64 0) from rfl)
          have k1 := (blk_cell C2.out 1).trans (show _ = some (.int .i64 0) from rfl)
          have k2 := (blk_cell C2.out 2).trans (show _ = some (.int .i64 0) from rfl)
          have h0 := blk_frozen C2.out 0
          have h1 := blk_frozen C2.out 1
          have h2 := blk_frozen C2.out 2
          go_wp2
          obtain ⟨rfl, rfl, rfl⟩ := HX.out
          refine bodyPost_ret (results_ct rfl _ _ g2 22 #[.int .i64 (wrap64 s0), .int .i64 (wrap64 s1), .int .i64 (wrap64 s2)] (0, 0) _ rfl (blk_put (blk_put (blk_put C2.out 0 _ rfl) 1 _ rfl) 2 _ rfl) Try.underlying22 rfl (by kernel_rfl)) rfl ?_
          exact ⟨rfl, below_set (below_set (below_set CB.out GE2) GE2) GE2⟩
theorem impl_Rounds.calls (a0_0 a0_1 a0_2 : Int) (a1 : Int) (r1 r2 r3 : Int) (r4 : Bool) (w : World) (h : impl_Rounds.f a0_0 a0_1 a0_2 a1 = some (r1, r2, r3, r4)) :
    Calls Try.prog 17 #[.agg #[.int .i64 a0_0, .int .i64 a0_1, .int .i64 a0_2], .int .i64 a1] w fun e w' => e = .returned (.tuple #[.agg #[.int .i64 r1, .int .i64 r2, .int .i64 r3], .bool r4]) ∧ Below w.heap.size w w' := by
  unfold impl_Rounds.f at h
  by_cases hn : 0 ≤ a1 ∧ a1 ≤ 100
  · rw [if_pos hn] at h
    have h := Option.some.inj h
    simp only [Prod.mk.injEq] at h
    obtain ⟨rfl, rfl, rfl, rfl⟩ := h
    exact rounds_yes _ _ _ _ _ _ _ w hn rfl
  · rw [if_neg hn] at h
    have h := Option.some.inj h
    simp only [Prod.mk.injEq] at h
    obtain ⟨rfl, rfl, rfl, rfl⟩ := h
    exact rounds_no _ _ _ _ w hn

/-! ### laws_eqIntA3: function 18 -/
def laws_eqIntA3.f (a0_0 a0_1 a0_2 a1_0 a1_1 a1_2 : Int) : Option Bool := some (decide (a0_0 = a1_0 ∧ a0_1 = a1_1 ∧ a0_2 = a1_2))
set_option maxHeartbeats 8000000 in
set_option maxRecDepth 100000 in
theorem eqA3 (a b c d e f : Int) (w : World) :
    Calls Try.prog 18 #[.agg #[.int .i64 a, .int .i64 b, .int .i64 c], .agg #[.int .i64 d, .int .i64 e, .int .i64 f]] w fun e' w' => e' = .returned (.bool (decide (a = d ∧ b = e ∧ c = f))) ∧ Below w.heap.size w w' := by
  have hu22 := Try.underlying22
  have HB := Aside0.mk (Below.refl w.heap.size w)
  go_enter Try.func18, Try.ntmps18
  go_wp2_with (first
    | ((with_reducible refine gate_dst (N := 2) rfl ?_); refine box_event ?hg (N := 2) ?hd (cs := #[.int .i64 a, .int .i64 b, .int .i64 c]) (t := 22) ?hr ?_; (case hd => rfl); (case hg => rfl); (case hr => first | (go_simp; done) | (go_simp; rfl)); intro g1 hg w1 hbox hb; have B1 := Aside0.mk hbox; have G1 := Aside0.mk hg; have HB1 := Aside0.mk (below_step HB.out hb); clear hbox hb hg)
    | ((with_reducible refine gate_dst (N := 3) rfl ?_); refine box_event ?hg (N := 3) ?hd (cs := #[.int .i64 d, .int .i64 e, .int .i64 f]) (t := 22) ?hr ?_; (case hd => rfl); (case hg => rfl); (case hr => first | (go_simp; done) | (go_simp; rfl)); intro g2 hg w2 hbox hb; have B2 := Aside0.mk hbox; have B12 := Aside0.mk (blk_below B1.out hb); have G2 := Aside0.mk hg; have HB2 := Aside0.mk (below_step HB1.out hb); clear hbox hb hg))
  go_loopw [5] (fun i wr => Aside0 (wr.heap[g1]? = some (.cells #[.int .i64 a, .int .i64 b, .int .i64 c] 22 (0, 0))) ∧ Aside0 (wr.heap[g2]? = some (.cells #[.int .i64 d, .int .i64 e, .int .i64 f] 22 (0, 0))) ∧ Aside0 (Below w.heap.size w wr) ∧
    (i = .int .i64 0 ∨ (i = .int .i64 1 ∧ Aside0 (a = d)) ∨ (i = .int .i64 2 ∧ Aside0 (a = d) ∧ Aside0 (b = e)) ∨ (i = .int .i64 3 ∧ Aside0 (a = d) ∧ Aside0 (b = e) ∧ Aside0 (c = f)))) (fun i _ => 3 - (intOf i).toNat)
  case atStart => exact ⟨B12, B2, HB2, .inl rfl⟩
  case round =>
    obtain ⟨C1, C2, CB, hrel⟩ := hrel
    have q0 : wr.cell? ⟨g1, 0, none⟩ = some (.int .i64 a) := (blk_cell C1.out 0).trans rfl
    have q1 : wr.cell? ⟨g1, 1, none⟩ = some (.int .i64 b) := (blk_cell C1.out 1).trans rfl
    have q2 : wr.cell? ⟨g1, 2, none⟩ = some (.int .i64 c) := (blk_cell C1.out 2).trans rfl
    have p0 : wr.cell? ⟨g2, 0, none⟩ = some (.int .i64 d) := (blk_cell C2.out 0).trans rfl
    have p1 : wr.cell? ⟨g2, 1, none⟩ = some (.int .i64 e) := (blk_cell C2.out 1).trans rfl
    have p2 : wr.cell? ⟨g2, 2, none⟩ = some (.int .i64 f) := (blk_cell C2.out 2).trans rfl
    rcases hrel with rfl | ⟨rfl, r1⟩ | ⟨rfl, r1, r2⟩ | ⟨rfl, r1, r2, r3⟩
    · by_cases hc : a = d
      · have c0 : (a != d) = false := by simp [hc]
        have r1 := Aside0.mk hc
        clear hc
        go_wp2
        go_still (by kernel_rfl)
        go_wp2
        go_roundw
        case rel => exact ⟨⟨C1.out⟩, ⟨C2.out⟩, ⟨below_drew CB.out⟩, .inr (.inl ⟨by go_num, r1⟩)⟩
        case measure => simp [intOf]
      · have c0 : (a != d) = true := by simp [hc]
        have HC := Aside0.mk hc
        clear hc
        go_wp2
        go_still (by kernel_rfl)
        go_wp2
        go_ret
        exact ⟨by simp [HC.out], below_drew CB.out⟩
    · by_cases hc : b = e
      · have c0 : (b != e) = false := by simp [hc]
        have r2 := Aside0.mk hc
        clear hc
        go_wp2
        go_still (by kernel_rfl)
        go_wp2
        go_roundw
        case rel => exact ⟨⟨C1.out⟩, ⟨C2.out⟩, ⟨below_drew CB.out⟩, .inr (.inr (.inl ⟨by go_num, r1, r2⟩))⟩
        case measure => simp [intOf]
      · have c0 : (b != e) = true := by simp [hc]
        have HC := Aside0.mk hc
        clear hc
        go_wp2
        go_still (by kernel_rfl)
        go_wp2
        go_ret
        exact ⟨by simp [HC.out], below_drew CB.out⟩
    · by_cases hc : c = f
      · have c0 : (c != f) = false := by simp [hc]
        have r3 := Aside0.mk hc
        clear hc
        go_wp2
        go_still (by kernel_rfl)
        go_wp2
        go_roundw
        case rel => exact ⟨⟨C1.out⟩, ⟨C2.out⟩, ⟨below_drew CB.out⟩, .inr (.inr (.inr ⟨by go_num, r1, r2, r3⟩))⟩
        case measure => simp [intOf]
      · have c0 : (c != f) = true := by simp [hc]
        have HC := Aside0.mk hc
        clear hc
        go_wp2
        go_still (by kernel_rfl)
        go_wp2
        go_ret
        exact ⟨by simp [HC.out], below_drew CB.out⟩
    · go_wp2
      go_ret
      exact ⟨by simp [r1.out, r2.out, r3.out], CB.out⟩
theorem laws_eqIntA3.calls (a0_0 a0_1 a0_2 a1_0 a1_1 a1_2 : Int) (r : Bool) (w : World) (h : laws_eqIntA3.f a0_0 a0_1 a0_2 a1_0 a1_1 a1_2 = some r) :
    Calls Try.prog 18 #[.agg #[.int .i64 a0_0, .int .i64 a0_1, .int .i64 a0_2], .agg #[.int .i64 a1_0, .int .i64 a1_1, .int .i64 a1_2]] w fun e w' => e = .returned (.bool r) ∧ Below w.heap.size w w' := by
  have h := Option.some.inj h
  subst h
  exact eqA3 _ _ _ _ _ _ w

/-! ### laws_FnExactRounds: function 3 -/
def laws_FnExactRounds.f (k : Nat) (a0_0 : Int) (a0_1 : Int) (a0_2 : Int) (a1 : Int) : Option (Bool) := (laws_toIntA3.f a0_0 a0_1 a0_2).bind fun bt114 => ((spec_Rounds.f k bt114.1 bt114.2.1 bt114.2.2 a1).bind fun bt117 => ((laws_toIntA3.f a0_0 a0_1 a0_2).bind fun bt122 => ((impl_Rounds.f bt122.1 bt122.2.1 bt122.2.2 a1).bind fun bt125 => ((laws_eqIntA3.f bt125.1 bt125.2.1 bt125.2.2.1 bt117.1 bt117.2.1 bt117.2.2.1).bind fun t130 => (if t130 = true then (if (bt125.2.2.2 != bt117.2.2.2) = true then (some false) else (some true)) else (some false))))))
theorem laws_FnExactRounds.mono : ∀ a0 a1 a2 a3 k, LeO (laws_FnExactRounds.f k a0 a1 a2 a3) (laws_FnExactRounds.f (k + 1) a0 a1 a2 a3) := by
  intro a0 a1 a2 a3 k
  unfold laws_FnExactRounds.f
  repeat' first
      | (with_reducible exact spec_Rounds.mono _ _ _ _ _)
      | (with_reducible exact LeO.refl _)
      | (with_reducible exact LeO.none _)
      | (with_reducible refine LeO.ite ?_ ?_)
      | (with_reducible refine LeO.bind ?_ (fun _ => ?_))
      | exact spec_Rounds.mono _ _ _ _ _
      | exact LeO.none _
      | refine LeO.ite ?_ ?_
      | refine LeO.bind ?_ (fun _ => ?_)
set_option maxHeartbeats 8000000 in
set_option maxRecDepth 100000 in
theorem laws_FnExactRounds.calls (k : Nat) (a0_0 : Int) (a0_1 : Int) (a0_2 : Int) (a1 : Int) (r : Bool) (w : World) (hT : Aside0 (r = true)) (h : laws_FnExactRounds.f k a0_0 a0_1 a0_2 a1 = some r) :
    Calls Try.prog 3 #[.agg #[.int .i64 a0_0, .int .i64 a0_1, .int .i64 a0_2], .int .i64 a1] w fun e w' => e = .returned (.bool r) ∧ Below w.heap.size w w' := by
  have hu22 := Try.underlying22
  have HB := Aside0.mk (Below.refl w.heap.size w)
  have H : ((laws_toIntA3.f a0_0 a0_1 a0_2).bind fun bt114 => ((spec_Rounds.f k bt114.1 bt114.2.1 bt114.2.2 a1).bind fun bt117 => ((laws_toIntA3.f a0_0 a0_1 a0_2).bind fun bt122 => ((impl_Rounds.f bt122.1 bt122.2.1 bt122.2.2 a1).bind fun bt125 => ((laws_eqIntA3.f bt125.1 bt125.2.1 bt125.2.2.1 bt117.1 bt117.2.1 bt117.2.2.1).bind fun t130 => (if t130 = true then (if (bt125.2.2.2 != bt117.2.2.2) = true then (some false) else (some true)) else (some false))))))) = some r := h
  clear h
  replace H := Option.bind_eq_some_iff.mp H
  obtain ⟨⟨t114, t115, t116⟩, A30, H⟩ := H
  replace H : ((spec_Rounds.f k t114 t115 t116 a1).bind fun bt117 => ((laws_toIntA3.f a0_0 a0_1 a0_2).bind fun bt122 => ((impl_Rounds.f bt122.1 bt122.2.1 bt122.2.2 a1).bind fun bt125 => ((laws_eqIntA3.f bt125.1 bt125.2.1 bt125.2.2.1 bt117.1 bt117.2.1 bt117.2.2.1).bind fun t130 => (if t130 = true then (if (bt125.2.2.2 != bt117.2.2.2) = true then (some false) else (some true)) else (some false)))))) = some r := H
  have A3 := Aside0.mk A30
  clear A30
  replace H := Option.bind_eq_some_iff.mp H
  obtain ⟨⟨t117, t118, t119, t120⟩, A40, H⟩ := H
  replace H : ((laws_toIntA3.f a0_0 a0_1 a0_2).bind fun bt122 => ((impl_Rounds.f bt122.1 bt122.2.1 bt122.2.2 a1).bind fun bt125 => ((laws_eqIntA3.f bt125.1 bt125.2.1 bt125.2.2.1 t117 t118 t119).bind fun t130 => (if t130 = true then (if (bt125.2.2.2 != t120) = true then (some false) else (some true)) else (some false))))) = some r := H
  have A4 := Aside0.mk A40
  clear A40
  replace H := Option.bind_eq_some_iff.mp H
  obtain ⟨⟨t122, t123, t124⟩, A50, H⟩ := H
  replace H : ((impl_Rounds.f t122 t123 t124 a1).bind fun bt125 => ((laws_eqIntA3.f bt125.1 bt125.2.1 bt125.2.2.1 t117 t118 t119).bind fun t130 => (if t130 = true then (if (bt125.2.2.2 != t120) = true then (some false) else (some true)) else (some false)))) = some r := H
  have A5 := Aside0.mk A50
  clear A50
  replace H := Option.bind_eq_some_iff.mp H
  obtain ⟨⟨t125, t126, t127, t128⟩, A60, H⟩ := H
  replace H : ((laws_eqIntA3.f t125 t126 t127 t117 t118 t119).bind fun t130 => (if t130 = true then (if (t128 != t120) = true then (some false) else (some true)) else (some false))) = some r := H
  have A6 := Aside0.mk A60
  clear A60
  replace H := Option.bind_eq_some_iff.mp H
  obtain ⟨t130, A70, H⟩ := H
  replace H : (if t130 = true then (if (t128 != t120) = true then (some false) else (some true)) else (some false)) = some r := H
  have A7 := Aside0.mk A70
  clear A70
  by_cases c8 : t130 = true
  · subst c8
    have H1 : (if (t128 != t120) = true then (some false) else (some true)) = some r := by rw [if_pos rfl] at H; exact H
    clear H
    have H := H1
    clear H1
    by_cases c9 : (t128 != t120) = true
    · rw [if_pos c9] at H
      have c9b0 : (t128 != t120) = true := c9
      (try (have c9b1 : decide (t128 = t120) = false := by simpa using c9))
      (try (have c9b2 : (t128 == t120) = false := by simpa using c9))
      (try (have c9b3 : ¬ (t128 = t120) := by simpa using c9))
      clear c9
      exact absurd ((Option.some.inj H).trans hT.out) (by decide)
    · rw [if_neg c9] at H
      have c9b0 : (t128 != t120) = false := by simpa using c9
      (try (have c9b1 : decide (t128 = t120) = true := by simpa using c9))
      (try (have c9b2 : (t128 == t120) = true := by simpa using c9))
      clear c9
      obtain rfl := Option.some.inj H
      go_enter Try.func3, Try.ntmps3
      go_wp2_with (first | ((with_reducible refine gate_dst (N := 2) rfl ?_); refine box_event ?hg (N := 2) ?hd (cs := #[.int .i64 a0_0, .int .i64 a0_1, .int .i64 a0_2]) (t := 22) ?hr ?_; (case hd => rfl); (case hg => rfl); (case hr => first | (go_simp; done) | (go_simp; rfl)); intro gb113 hg w10 hbox hb; have n0_ := Aside0.mk (below_step (by repeat (first | (with_reducible first | exact HB.out | apply below_alloc | apply pw_below_drewN | apply below_drew1) | exact HB.out)) hb); have n1_ := Aside0.mk (hbox); have n2_ := Aside0.mk ((by rw [hg]; exact (below_size (by repeat (first | (with_reducible first | exact HB.out | apply below_alloc | apply pw_below_drewN | apply below_drew1) | exact HB.out))) : w.heap.size ≤ gb113)); have n3_ := Aside0.mk ((by rw [hg]; exact (below_size (by repeat (first | (with_reducible first | exact HB.out | apply below_alloc | apply pw_below_drewN | apply below_drew1) | exact HB.out))) : w.heap.size ≤ gb113)); clear HB; have HB := n0_; have BK113 := n1_; have GW113 := n2_; have GE113 := n3_; clear n0_ n1_ n2_ n3_; clear hb hbox hg; have hcz11_0 : w10.cell? ⟨gb113, 0, none⟩ = some (.int .i64 a0_0) := (blk_cell BK113.out 0).trans rfl; have hcz11_1 : w10.cell? ⟨gb113, 1, none⟩ = some (.int .i64 a0_1) := (blk_cell BK113.out 1).trans rfl; have hcz11_2 : w10.cell? ⟨gb113, 2, none⟩ = some (.int .i64 a0_2) := (blk_cell BK113.out 2).trans rfl; have hfz11_0 := blk_frozen BK113.out 0; have hfz11_1 := blk_frozen BK113.out 1; have hfz11_2 := blk_frozen BK113.out 2) | ((with_reducible refine gate_callee (f := 16) rfl ?_); refine goesL_ (some 11) rfl rfl Try.func16 (by kernel_rfl) rfl #[.agg #[.int .i64 a0_0, .int .i64 a0_1, .int .i64 a0_2]] rfl (by (try simp only [List.map_toArray, List.map_cons, List.map_nil]); first | done | rfl | (simp only [List.length_drop, List.length_take]; rfl)) ?_; (with_reducible refine (laws_toIntA3.calls a0_0 a0_1 a0_2 t114 t115 t116 _ A3.out).mono ?_); rintro e w12 ⟨rfl, hb⟩; refine ⟨_, rfl, ?_⟩; have n0_ := Aside0.mk (blk_below (g := gb113) (o := .cells #[.int .i64 a0_0, .int .i64 a0_1, .int .i64 a0_2] 22 (0, 0)) (by (with_reducible repeat (first | refine blk_drewN ?_ _ | refine blk_drew ?_ | refine blk_alloc ?_ _)); exact BK113.out) hb); have n1_ := Aside0.mk (below_step (by repeat (first | (with_reducible first | exact HB.out | apply below_alloc | apply pw_below_drewN | apply below_drew1 | refine below_set ?_ GE113.out) | exact HB.out)) hb); clear BK113; clear HB; have BK113 := n0_; have HB := n1_; clear n0_ n1_; (try clear hb); (try clear hb2); (try clear hk); (try clear hi)) | ((with_reducible refine gate_callee (f := 15) rfl ?_); refine goesL_ (some 13) rfl rfl Try.func15 (by kernel_rfl) rfl #[.agg #[.int .i64 t114, .int .i64 t115, .int .i64 t116], .int .i64 a1] rfl (by (try simp only [List.map_toArray, List.map_cons, List.map_nil]); first | done | rfl | (simp only [List.length_drop, List.length_take]; rfl)) ?_; (with_reducible refine (spec_Rounds.calls k t114 t115 t116 a1 t117 t118 t119 t120 _ A4.out).mono ?_); rintro e w13 ⟨rfl, hb⟩; refine ⟨_, rfl, ?_⟩; have n0_ := Aside0.mk (blk_below (g := gb113) (o := .cells #[.int .i64 a0_0, .int .i64 a0_1, .int .i64 a0_2] 22 (0, 0)) (by (with_reducible repeat (first | refine blk_drewN ?_ _ | refine blk_drew ?_ | refine blk_alloc ?_ _)); exact BK113.out) hb); have n1_ := Aside0.mk (below_step (by repeat (first | (with_reducible first | exact HB.out | apply below_alloc | apply pw_below_drewN | apply below_drew1 | refine below_set ?_ GE113.out) | exact HB.out)) hb); clear BK113; clear HB; have BK113 := n0_; have HB := n1_; clear n0_ n1_; (try clear hb); (try clear hb2); (try clear hk); (try clear hi)) | ((with_reducible refine gate_dst (N := 5) rfl ?_); refine box_event ?hg (N := 5) ?hd (cs := #[.int .i64 0, .int .i64 0, .int .i64 0]) (t := 22) ?hr ?_; (case hd => rfl); (case hg => rfl); (case hr => first | (go_simp; done) | (go_simp; rfl)); intro gb121 hg w14 hbox hb; have n0_ := Aside0.mk (blk_below (g := gb113) (o := .cells #[.int .i64 a0_0, .int .i64 a0_1, .int .i64 a0_2] 22 (0, 0)) (by (with_reducible repeat (first | refine blk_drewN ?_ _ | refine blk_drew ?_ | refine blk_alloc ?_ _)); exact BK113.out) hb); have n1_ := Aside0.mk (below_step (by repeat (first | (with_reducible first | exact HB.out | apply below_alloc | apply pw_below_drewN | apply below_drew1 | refine below_set ?_ GE113.out) | exact HB.out)) hb); have n2_ := Aside0.mk (hbox); have n3_ := Aside0.mk ((by rw [hg]; exact (below_size (by repeat (first | (with_reducible first | exact HB.out | apply below_alloc | apply pw_below_drewN | apply below_drew1 | refine below_set ?_ GE113.out) | exact HB.out))) : w.heap.size ≤ gb121)); have n4_ := Aside0.mk ((by rw [hg]; exact (below_size (by repeat (first | (with_reducible first | exact HB.out | apply below_alloc | apply pw_below_drewN | apply below_drew1 | refine below_set ?_ GE113.out) | exact HB.out))) : w.heap.size ≤ gb121)); have n5_ := Aside0.mk ((by rw [hg]; exact Nat.ne_of_lt (blk_lt (g := gb113) (o := .cells #[.int .i64 a0_0, .int .i64 a0_1, .int .i64 a0_2] 22 (0, 0)) (by (with_reducible repeat (first | refine blk_drewN ?_ _ | refine blk_drew ?_ | refine blk_alloc ?_ _)); exact BK113.out)) : gb113 ≠ gb121)); have n6_ := Aside0.mk ((by rw [hg]; exact Nat.ne_of_gt (blk_lt (g := gb113) (o := .cells #[.int .i64 a0_0, .int .i64 a0_1, .int .i64 a0_2] 22 (0, 0)) (by (with_reducible repeat (first | refine blk_drewN ?_ _ | refine blk_drew ?_ | refine blk_alloc ?_ _)); exact BK113.out)) : gb121 ≠ gb113)); clear BK113; clear HB; have BK113 := n0_; have HB := n1_; have BK121 := n2_; have GW121 := n3_; have GE121 := n4_; have NB113_121 := n5_; have NB121_113 := n6_; clear n0_ n1_ n2_ n3_ n4_ n5_ n6_; clear hb hbox hg; have hnb15 := NB121_113.out; have hnc15 := NB113_121.out; have hcz16_0 : w14.cell? ⟨gb121, 0, none⟩ = some (.int .i64 0) := (blk_cell BK121.out 0).trans rfl; have hcz16_1 : w14.cell? ⟨gb121, 1, none⟩ = some (.int .i64 0) := (blk_cell BK121.out 1).trans rfl; have hcz16_2 : w14.cell? ⟨gb121, 2, none⟩ = some (.int .i64 0) := (blk_cell BK121.out 2).trans rfl; have hfz16_0 := blk_frozen BK121.out 0; have hfz16_1 := blk_frozen BK121.out 1; have hfz16_2 := blk_frozen BK121.out 2; have hcz17_0 : w14.cell? ⟨gb113, 0, none⟩ = some (.int .i64 a0_0) := (blk_cell BK113.out 0).trans rfl; have hcz17_1 : w14.cell? ⟨gb113, 1, none⟩ = some (.int .i64 a0_1) := (blk_cell BK113.out 1).trans rfl; have hcz17_2 : w14.cell? ⟨gb113, 2, none⟩ = some (.int .i64 a0_2) := (blk_cell BK113.out 2).trans rfl; have hfz17_0 := blk_frozen BK113.out 0; have hfz17_1 := blk_frozen BK113.out 1; have hfz17_2 := blk_frozen BK113.out 2) | ((with_reducible refine gate_callee (f := 16) rfl ?_); refine goesL_ (some 18) rfl rfl Try.func16 (by kernel_rfl) rfl #[.agg #[.int .i64 a0_0, .int .i64 a0_1, .int .i64 a0_2]] rfl (by (try simp only [List.map_toArray, List.map_cons, List.map_nil]); first | done | rfl | (simp only [List.length_drop, List.length_take]; rfl)) ?_; (with_reducible refine (laws_toIntA3.calls a0_0 a0_1 a0_2 t122 t123 t124 _ A5.out).mono ?_); rintro e w18 ⟨rfl, hb⟩; refine ⟨_, rfl, ?_⟩; have n0_ := Aside0.mk (blk_below (g := gb113) (o := .cells #[.int .i64 a0_0, .int .i64 a0_1, .int .i64 a0_2] 22 (0, 0)) (by (with_reducible repeat (first | refine blk_drewN ?_ _ | refine blk_drew ?_ | refine blk_alloc ?_ _)); refine blk_far ?_ NB113_121.out _; (with_reducible repeat (first | refine blk_drewN ?_ _ | refine blk_drew ?_ | refine blk_alloc ?_ _)); refine blk_far ?_ NB113_121.out _; (with_reducible repeat (first | refine blk_drewN ?_ _ | refine blk_drew ?_ | refine blk_alloc ?_ _)); refine blk_far ?_ NB113_121.out _; (with_reducible repeat (first | refine blk_drewN ?_ _ | refine blk_drew ?_ | refine blk_alloc ?_ _)); exact BK113.out) hb); have n1_ := Aside0.mk (blk_below (g := gb121) (o := .cells #[.int .i64 t117, .int .i64 t118, .int .i64 t119] 22 (0, 0)) (by (with_reducible repeat (first | refine blk_drewN ?_ _ | refine blk_drew ?_ | refine blk_alloc ?_ _)); refine blk_put (cs := #[.int .i64 t117, .int .i64 t118, .int .i64 0]) ?_ 2 _ rfl; (with_reducible repeat (first | refine blk_drewN ?_ _ | refine blk_drew ?_ | refine blk_alloc ?_ _)); refine blk_put (cs := #[.int .i64 t117, .int .i64 0, .int .i64 0]) ?_ 1 _ rfl; (with_reducible repeat (first | refine blk_drewN ?_ _ | refine blk_drew ?_ | refine blk_alloc ?_ _)); refine blk_put (cs := #[.int .i64 0, .int .i64 0, .int .i64 0]) ?_ 0 _ rfl; (with_reducible repeat (first | refine blk_drewN ?_ _ | refine blk_drew ?_ | refine blk_alloc ?_ _)); exact BK121.out) hb); have n2_ := Aside0.mk (below_step (by repeat (first | (with_reducible first | exact HB.out | apply below_alloc | apply pw_below_drewN | apply below_drew1 | refine below_set ?_ GE113.out | refine below_set ?_ GE121.out) | exact HB.out)) hb); clear BK113; clear BK121; clear HB; have BK113 := n0_; have BK121 := n1_; have HB := n2_; clear n0_ n1_ n2_; (try clear hb); (try clear hb2); (try clear hk); (try clear hi)) | ((with_reducible refine gate_callee (f := 17) rfl ?_); refine goesL_ (some 20) rfl rfl Try.func17 (by kernel_rfl) rfl #[.agg #[.int .i64 t122, .int .i64 t123, .int .i64 t124], .int .i64 a1] rfl (by (try simp only [List.map_toArray, List.map_cons, List.map_nil]); first | done | rfl | (simp only [List.length_drop, List.length_take]; rfl)) ?_; (with_reducible refine (impl_Rounds.calls t122 t123 t124 a1 t125 t126 t127 t128 _ A6.out).mono ?_); rintro e w19 ⟨rfl, hb⟩; refine ⟨_, rfl, ?_⟩; have n0_ := Aside0.mk (blk_below (g := gb113) (o := .cells #[.int .i64 a0_0, .int .i64 a0_1, .int .i64 a0_2] 22 (0, 0)) (by (with_reducible repeat (first | refine blk_drewN ?_ _ | refine blk_drew ?_ | refine blk_alloc ?_ _)); exact BK113.out) hb); have n1_ := Aside0.mk (blk_below (g := gb121) (o := .cells #[.int .i64 t117, .int .i64 t118, .int .i64 t119] 22 (0, 0)) (by (with_reducible repeat (first | refine blk_drewN ?_ _ | refine blk_drew ?_ | refine blk_alloc ?_ _)); exact BK121.out) hb); have n2_ := Aside0.mk (below_step (by repeat (first | (with_reducible first | exact HB.out | apply below_alloc | apply pw_below_drewN | apply below_drew1 | refine below_set ?_ GE113.out | refine below_set ?_ GE121.out) | exact HB.out)) hb); clear BK113; clear BK121; clear HB; have BK113 := n0_; have BK121 := n1_; have HB := n2_; clear n0_ n1_ n2_; (try clear hb); (try clear hb2); (try clear hk); (try clear hi)) | ((with_reducible refine gate_dst (N := 7) rfl ?_); refine box_event ?hg (N := 7) ?hd (cs := #[.int .i64 0, .int .i64 0, .int .i64 0]) (t := 22) ?hr ?_; (case hd => rfl); (case hg => rfl); (case hr => first | (go_simp; done) | (go_simp; rfl)); intro gb129 hg w20 hbox hb; have n0_ := Aside0.mk (blk_below (g := gb113) (o := .cells #[.int .i64 a0_0, .int .i64 a0_1, .int .i64 a0_2] 22 (0, 0)) (by (with_reducible repeat (first | refine blk_drewN ?_ _ | refine blk_drew ?_ | refine blk_alloc ?_ _)); exact BK113.out) hb); have n1_ := Aside0.mk (blk_below (g := gb121) (o := .cells #[.int .i64 t117, .int .i64 t118, .int .i64 t119] 22 (0, 0)) (by (with_reducible repeat (first | refine blk_drewN ?_ _ | refine blk_drew ?_ | refine blk_alloc ?_ _)); exact BK121.out) hb); have n2_ := Aside0.mk (below_step (by repeat (first | (with_reducible first | exact HB.out | apply below_alloc | apply pw_below_drewN | apply below_drew1 | refine below_set ?_ GE113.out | refine below_set ?_ GE121.out) | exact HB.out)) hb); have n3_ := Aside0.mk (hbox); have n4_ := Aside0.mk ((by rw [hg]; exact (below_size (by repeat (first | (with_reducible first | exact HB.out | apply below_alloc | apply pw_below_drewN | apply below_drew1 | refine below_set ?_ GE113.out | refine below_set ?_ GE121.out) | exact HB.out))) : w.heap.size ≤ gb129)); have n5_ := Aside0.mk ((by rw [hg]; exact (below_size (by repeat (first | (with_reducible first | exact HB.out | apply below_alloc | apply pw_below_drewN | apply below_drew1 | refine below_set ?_ GE113.out | refine below_set ?_ GE121.out) | exact HB.out))) : w.heap.size ≤ gb129)); have n6_ := Aside0.mk ((by rw [hg]; exact Nat.ne_of_lt (blk_lt (g := gb113) (o := .cells #[.int .i64 a0_0, .int .i64 a0_1, .int .i64 a0_2] 22 (0, 0)) (by (with_reducible repeat (first | refine blk_drewN ?_ _ | refine blk_drew ?_ | refine blk_alloc ?_ _)); exact BK113.out)) : gb113 ≠ gb129)); have n7_ := Aside0.mk ((by rw [hg]; exact Nat.ne_of_gt (blk_lt (g := gb113) (o := .cells #[.int .i64 a0_0, .int .i64 a0_1, .int .i64 a0_2] 22 (0, 0)) (by (with_reducible repeat (first | refine blk_drewN ?_ _ | refine blk_drew ?_ | refine blk_alloc ?_ _)); exact BK113.out)) : gb129 ≠ gb113)); have n8_ := Aside0.mk ((by rw [hg]; exact Nat.ne_of_lt (blk_lt (g := gb121) (o := .cells #[.int .i64 t117, .int .i64 t118, .int .i64 t119] 22 (0, 0)) (by (with_reducible repeat (first | refine blk_drewN ?_ _ | refine blk_drew ?_ | refine blk_alloc ?_ _)); exact BK121.out)) : gb121 ≠ gb129)); have n9_ := Aside0.mk ((by rw [hg]; exact Nat.ne_of_gt (blk_lt (g := gb121) (o := .cells #[.int .i64 t117, .int .i64 t118, .int .i64 t119] 22 (0, 0)) (by (with_reducible repeat (first | refine blk_drewN ?_ _ | refine blk_drew ?_ | refine blk_alloc ?_ _)); exact BK121.out)) : gb129 ≠ gb121)); clear BK113; clear BK121; clear HB; have BK113 := n0_; have BK121 := n1_; have HB := n2_; have BK129 := n3_; have GW129 := n4_; have GE129 := n5_; have NB113_129 := n6_; have NB129_113 := n7_; have NB121_129 := n8_; have NB129_121 := n9_; clear n0_ n1_ n2_ n3_ n4_ n5_ n6_ n7_ n8_ n9_; clear hb hbox hg; have hnb21 := NB129_113.out; have hnc21 := NB113_129.out; have hnb22 := NB129_121.out; have hnc22 := NB121_129.out; have hcz23_0 : w20.cell? ⟨gb129, 0, none⟩ = some (.int .i64 0) := (blk_cell BK129.out 0).trans rfl; have hcz23_1 : w20.cell? ⟨gb129, 1, none⟩ = some (.int .i64 0) := (blk_cell BK129.out 1).trans rfl; have hcz23_2 : w20.cell? ⟨gb129, 2, none⟩ = some (.int .i64 0) := (blk_cell BK129.out 2).trans rfl; have hfz23_0 := blk_frozen BK129.out 0; have hfz23_1 := blk_frozen BK129.out 1; have hfz23_2 := blk_frozen BK129.out 2; have hcz24_0 : w20.cell? ⟨gb121, 0, none⟩ = some (.int .i64 t117) := (blk_cell BK121.out 0).trans rfl; have hcz24_1 : w20.cell? ⟨gb121, 1, none⟩ = some (.int .i64 t118) := (blk_cell BK121.out 1).trans rfl; have hcz24_2 : w20.cell? ⟨gb121, 2, none⟩ = some (.int .i64 t119) := (blk_cell BK121.out 2).trans rfl; have hfz24_0 := blk_frozen BK121.out 0; have hfz24_1 := blk_frozen BK121.out 1; have hfz24_2 := blk_frozen BK121.out 2) | ((with_reducible refine gate_callee (f := 18) rfl ?_); refine goesL_ (some 25) rfl rfl Try.func18 (by kernel_rfl) rfl #[.agg #[.int .i64 t125, .int .i64 t126, .int .i64 t127], .agg #[.int .i64 t117, .int .i64 t118, .int .i64 t119]] rfl (by (try simp only [List.map_toArray, List.map_cons, List.map_nil]); first | done | rfl | (simp only [List.length_drop, List.length_take]; rfl)) ?_; (with_reducible refine (laws_eqIntA3.calls t125 t126 t127 t117 t118 t119 true _ A7.out).mono ?_); rintro e w25 ⟨rfl, hb⟩; refine ⟨_, rfl, ?_⟩; have n0_ := Aside0.mk (blk_below (g := gb113) (o := .cells #[.int .i64 a0_0, .int .i64 a0_1, .int .i64 a0_2] 22 (0, 0)) (by (with_reducible repeat (first | refine blk_drewN ?_ _ | refine blk_drew ?_ | refine blk_alloc ?_ _)); refine blk_far ?_ NB113_129.out _; (with_reducible repeat (first | refine blk_drewN ?_ _ | refine blk_drew ?_ | refine blk_alloc ?_ _)); refine blk_far ?_ NB113_129.out _; (with_reducible repeat (first | refine blk_drewN ?_ _ | refine blk_drew ?_ | refine blk_alloc ?_ _)); refine blk_far ?_ NB113_129.out _; (with_reducible repeat (first | refine blk_drewN ?_ _ | refine blk_drew ?_ | refine blk_alloc ?_ _)); exact BK113.out) hb); have n1_ := Aside0.mk (blk_below (g := gb121) (o := .cells #[.int .i64 t117, .int .i64 t118, .int .i64 t119] 22 (0, 0)) (by (with_reducible repeat (first | refine blk_drewN ?_ _ | refine blk_drew ?_ | refine blk_alloc ?_ _)); refine blk_far ?_ NB121_129.out _; (with_reducible repeat (first | refine blk_drewN ?_ _ | refine blk_drew ?_ | refine blk_alloc ?_ _)); refine blk_far ?_ NB121_129.out _; (with_reducible repeat (first | refine blk_drewN ?_ _ | refine blk_drew ?_ | refine blk_alloc ?_ _)); refine blk_far ?_ NB121_129.out _; (with_reducible repeat (first | refine blk_drewN ?_ _ | refine blk_drew ?_ | refine blk_alloc ?_ _)); exact BK121.out) hb); have n2_ := Aside0.mk (blk_below (g := gb129) (o := .cells #[.int .i64 t125, .int .i64 t126, .int .i64 t127] 22 (0, 0)) (by (with_reducible repeat (first | refine blk_drewN ?_ _ | refine blk_drew ?_ | refine blk_alloc ?_ _)); refine blk_put (cs := #[.int .i64 t125, .int .i64 t126, .int .i64 0]) ?_ 2 _ rfl; (with_reducible repeat (first | refine blk_drewN ?_ _ | refine blk_drew ?_ | refine blk_alloc ?_ _)); refine blk_put (cs := #[.int .i64 t125, .int .i64 0, .int .i64 0]) ?_ 1 _ rfl; (with_reducible repeat (first | refine blk_drewN ?_ _ | refine blk_drew ?_ | refine blk_alloc ?_ _)); refine blk_put (cs := #[.int .i64 0, .int .i64 0, .int .i64 0]) ?_ 0 _ rfl; (with_reducible repeat (first | refine blk_drewN ?_ _ | refine blk_drew ?_ | refine blk_alloc ?_ _)); exact BK129.out) hb); have n3_ := Aside0.mk (below_step (by repeat (first | (with_reducible first | exact HB.out | apply below_alloc | apply pw_below_drewN | apply below_drew1 | refine below_set ?_ GE113.out | refine below_set ?_ GE121.out | refine below_set ?_ GE129.out) | exact HB.out)) hb); clear BK113; clear BK121; clear BK129; clear HB; have BK113 := n0_; have BK121 := n1_; have BK129 := n2_; have HB := n3_; clear n0_ n1_ n2_ n3_; (try clear hb); (try clear hb2); (try clear hk); (try clear hi)))
      go_ret
      exact ⟨by first | rfl | (simp [errW_none, errW_some] <;> rfl) | (simp [*, errW_none, errW_some] <;> rfl), by repeat (first | (with_reducible first | exact HB.out | apply below_alloc | apply pw_below_drewN | apply below_drew1 | refine below_set ?_ GE113.out | refine below_set ?_ GE121.out | refine below_set ?_ GE129.out) | exact HB.out)⟩
  · replace c8 := Bool.eq_false_iff.mpr c8
    subst c8
    have H1 : (some false) = some r := by rw [if_neg (show ¬ (false = true) by decide)] at H; exact H
    clear H
    have H := H1
    clear H1
    exact absurd ((Option.some.inj H).trans hT.out) (by decide)

def laws_FnExactRounds.Pure : Prop := ∀ (a0_0 : Int) (a0_1 : Int) (a0_2 : Int) (a1 : Int), (Lit.int .i64 a0_0).wf = true → (Lit.int .i64 a0_1).wf = true → (Lit.int .i64 a0_2).wf = true → (Lit.int .i64 a1).wf = true → ∃ k, laws_FnExactRounds.f k a0_0 a0_1 a0_2 a1 = some true
theorem laws_FnExactRounds.walk (P : laws_FnExactRounds.Pure) (a0_0 : Int) (a0_1 : Int) (a0_2 : Int) (a1 : Int) (w : World) (hq0_0 : (Lit.int .i64 a0_0).wf = true) (hq0_1 : (Lit.int .i64 a0_1).wf = true) (hq0_2 : (Lit.int .i64 a0_2).wf = true) (hq1 : (Lit.int .i64 a1).wf = true) :
    Calls Try.prog 3 #[.agg #[.int .i64 a0_0, .int .i64 a0_1, .int .i64 a0_2], .int .i64 a1] w fun e w' => e = .returned (.bool true) ∧ Below w.heap.size w w' := by
  obtain ⟨k, h⟩ := P a0_0 a0_1 a0_2 a1 hq0_0 hq0_1 hq0_2 hq1
  refine (laws_FnExactRounds.calls k a0_0 a0_1 a0_2 a1 true w ⟨rfl⟩ h).mono ?_
  rintro e w' ⟨rfl, hd⟩
  exact ⟨rfl, hd⟩

end Go.Proofs.Ytmcpnganobehaaa.PFnExactRounds
