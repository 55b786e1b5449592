/- The walk of the law FnExactGfLagrange: its one way to the end. -/
import Derived.Test.YthaoloacbbohlaaPFnExactGfLagrangex1
import Derived.Test.YthaoloacbbohlaaPFnExactGfLagrangex3
import Derived.Test.YthaoloacbbohlaaPureFnExactGfLagrange
import Derived.Test.YthaoloacbbohlaaSt
namespace Go.Proofs.Ythaoloacbbohlaa.X
open Go.RowKit Go.Proofs.Ythaoloacbbohlaa Go.Proofs.Ythaoloacbbohlaa.PFnExactGfLagrange Go.Proofs.Ythaoloacbbohlaa.St Go.Proofs.YthaoloacbbohlaaW.PrintWords Go.Proofs.YthaoloacbbohlaaW.PrintLast Go.Proofs.YthaoloacbbohlaaW.PrintMore
set_option linter.unusedVariables false
set_option linter.unusedSimpArgs false

theorem st_toByteS {W w : World} {L : List Slot} (HS : St W w L) {A : Option Addr} {c : Nat} {l : List Int} (hr : Kd.C (Kd.int .u8) W A l.length l) (hc : l.length ≤ c) (hl : l.length ≤ 10000000000000) :
    Calls Try.prog 22 #[.slice A l.length c] w fun e w' => ∃ (A' : Option Addr) (c' lo hi : Nat), e = .returned (.slice A' l.length c') ∧ St W w' (row (Kd.int .u8) 5 W.heap.size lo hi (.slice A' l.length c') l :: L) := by
  obtain ⟨k, h⟩ := (Pure.toByteS l (by omega)).rounds
  refine (laws_toByteS.calls k A c l l w (Kd.C_below hr HS.bel) hc h).mono ?_
  rintro e w' ⟨v, rfl, ho, hb⟩
  obtain ⟨A', c', rfl⟩ := Kd.R_slice ho
  exact ⟨A', c', _, _, rfl, HS.pushRow hb ho⟩

theorem st_eqByteS {W w : World} {L : List Slot} (HS : St W w L) {A A1 : Option Addr} {c c1 : Nat} {l : List Int} (h0 : Kd.C (Kd.int .u8) w A l.length l) (k0 : l.length ≤ c) (h1 : Kd.C (Kd.int .u8) w A1 l.length l) (k1 : l.length ≤ c1) (hl : l.length ≤ 10000000000000) :
    Calls Try.prog 16 #[.slice A l.length c, .slice A1 l.length c1] w fun e w' => e = .returned (.bool true) ∧ St W w' L := by
  obtain ⟨k, h⟩ := (Pure.eqByteS l (by omega)).rounds
  refine (laws_eqByteS.calls k A c l A1 c1 l true w h0 k0 h1 k1 h).mono ?_
  rintro e w' ⟨rfl, hd⟩
  exact ⟨rfl, HS.drawn hd⟩

set_option maxHeartbeats 8000000 in
set_option maxRecDepth 100000 in
theorem walk (A0 : Option Addr) (c0 : Nat) (l0 : List Int) (A1 : Option Addr) (c1 : Nat) (l1 : List Int) (a2 : Int) (w : World) (hr0 : Kd.C (Kd.int .u8) w A0 l0.length l0) (hc0 : l0.length ≤ c0) (hq0 : (l0.length ≤ maxLen ∧ ∀ v0 ∈ l0, (Lit.int .u8 v0).wf = true)) (hr1 : Kd.C (Kd.int .u8) w A1 l1.length l1) (hc1 : l1.length ≤ c1) (hq1 : (l1.length ≤ maxLen ∧ ∀ v0 ∈ l1, (Lit.int .u8 v0).wf = true)) (hq2 : (Lit.int .u8 a2).wf = true) :
    Calls Try.prog 10 #[.slice A0 l0.length c0, .slice A1 l1.length c1, .int .u8 a2] w fun e w' => e = .returned (.bool true) ∧ Below w.heap.size w w' := by
  have HR0 := Aside0.mk hr0
  have HC0 := Aside0.mk hc0
  have HQ0 := Aside0.mk hq0
  clear hr0 hc0 hq0
  have HR1 := Aside0.mk hr1
  have HC1 := Aside0.mk hc1
  have HQ1 := Aside0.mk hq1
  clear hr1 hc1 hq1
  have HQ2 := Aside0.mk hq2
  clear hq2
  by_cases g0 : (l0.length : Int) > 1048576
  · have g0a : decide (1048576 < (l0.length : Int)) = true := decide_eq_true g0
    have g0b : decide (1048576 < l0.length) = true := decide_eq_true (by omega)
    clear g0
    go_enter Try.func10, Try.ntmps10
    go_wp2
    go_ret
    exact ⟨rfl, by repeat (first | exact Below.refl _ _ | apply below_alloc)⟩
  have g0a : decide (1048576 < (l0.length : Int)) = false := decide_eq_false g0
  have g0b : decide (1048576 < l0.length) = false := decide_eq_false (by omega)
  have GLl0 : Aside0 (l0.length ≤ 1048576) := ⟨by omega⟩
  have HLl0 : Aside0 (l0.length ≤ 1000000000000) := ⟨by omega⟩
  clear g0
  by_cases g1 : (l1.length : Int) > 1048576
  · have g1a : decide (1048576 < (l1.length : Int)) = true := decide_eq_true g1
    have g1b : decide (1048576 < l1.length) = true := decide_eq_true (by omega)
    clear g1
    go_enter Try.func10, Try.ntmps10
    go_wp2
    go_ret
    exact ⟨rfl, by repeat (first | exact Below.refl _ _ | apply below_alloc)⟩
  have g1a : decide (1048576 < (l1.length : Int)) = false := decide_eq_false g1
  have g1b : decide (1048576 < l1.length) = false := decide_eq_false (by omega)
  have GLl1 : Aside0 (l1.length ≤ 1048576) := ⟨by omega⟩
  have HLl1 : Aside0 (l1.length ≤ 1000000000000) := ⟨by omega⟩
  clear g1
  obtain ⟨r1, r2, ⟨ks, hsp⟩, ⟨ki, him⟩⟩ := Pure.FnExactGfLagrange l0 l1 a2 HQ0.out HQ1.out HQ2.out GLl0.out GLl1.out
  have HSP := Aside0.mk hsp
  have HIM := Aside0.mk him
  clear hsp him
  have er1 : (r1 != r1) = false := bne_self_eq_false _
  have ir1 : (r1 == r1) = true := beq_self_eq_true _
  have er2 : (r2 != r2) = false := bne_self_eq_false _
  have ir2 : (r2 == r2) = true := beq_self_eq_true _
  go_enter Try.func10, Try.ntmps10
  have HS := St.nil w
  go_wp2_with (first | ((with_reducible refine gate_dst (N := 21) rfl ?_); refine goesL_ (some 21) rfl rfl Try.func22 (by kernel_rfl) rfl #[.slice A0 l0.length c0] rfl (by (try simp only [List.map_toArray, List.map_cons, List.map_nil]); first | done | rfl) ?_; refine (st_toByteS HS HR0.out HC0.out (Nat.le_trans HLl0.out (by decide))).mono ?_; rintro e w1 ⟨Ao1, co1, lo1, hi1, rfl, HN⟩; refine ⟨_, rfl, ?_⟩; clear HS; have HS := HN; clear HN) | ((with_reducible refine gate_dst (N := 23) rfl ?_); refine goesL_ (some 23) rfl rfl Try.func22 (by kernel_rfl) rfl #[.slice A1 l1.length c1] rfl (by (try simp only [List.map_toArray, List.map_cons, List.map_nil]); first | done | rfl) ?_; refine (st_toByteS HS HR1.out HC1.out (Nat.le_trans HLl1.out (by decide))).mono ?_; rintro e w2 ⟨Ao2, co2, lo2, hi2, rfl, HN⟩; refine ⟨_, rfl, ?_⟩; clear HS; have HS := HN; clear HN) | ((with_reducible refine gate_dst (N := 25) rfl ?_); refine goesL_ (some 25) rfl rfl Try.func42 (by kernel_rfl) rfl #[.slice Ao1 l0.length co1, .slice Ao2 l1.length co2, .int .u8 a2] rfl (by (try simp only [List.map_toArray, List.map_cons, List.map_nil]); first | done | rfl) ?_; refine (spec_GfLagrange.calls (h := HSP.out) (hr0 := (Kd.R_reads' (HS.get (i := 1) rfl)).2.2) (hc0 := (Kd.R_reads' (HS.get (i := 1) rfl)).2.1) (hr1 := (Kd.R_reads' (HS.get (i := 0) rfl)).2.2) (hc1 := (Kd.R_reads' (HS.get (i := 0) rfl)).2.1)).mono ?_; rintro e w3 ⟨rfl, hb⟩; have HN := HS.drawn hb; refine ⟨_, rfl, ?_⟩; clear HS; have HS := HN; clear HN) | ((with_reducible refine gate_dst (N := 29) rfl ?_); refine goesL_ (some 29) rfl rfl Try.func22 (by kernel_rfl) rfl #[.slice A0 l0.length c0] rfl (by (try simp only [List.map_toArray, List.map_cons, List.map_nil]); first | done | rfl) ?_; refine (st_toByteS HS HR0.out HC0.out (Nat.le_trans HLl0.out (by decide))).mono ?_; rintro e w4 ⟨Ao4, co4, lo4, hi4, rfl, HN⟩; refine ⟨_, rfl, ?_⟩; clear HS; have HS := HN; clear HN) | ((with_reducible refine gate_dst (N := 31) rfl ?_); refine goesL_ (some 31) rfl rfl Try.func22 (by kernel_rfl) rfl #[.slice A1 l1.length c1] rfl (by (try simp only [List.map_toArray, List.map_cons, List.map_nil]); first | done | rfl) ?_; refine (st_toByteS HS HR1.out HC1.out (Nat.le_trans HLl1.out (by decide))).mono ?_; rintro e w5 ⟨Ao5, co5, lo5, hi5, rfl, HN⟩; refine ⟨_, rfl, ?_⟩; clear HS; have HS := HN; clear HN) | ((with_reducible refine gate_dst (N := 36) rfl ?_); refine goesL_ (some 36) rfl rfl Try.func41 (by kernel_rfl) rfl #[.slice Ao4 l0.length co4, .slice Ao5 l1.length co5, .int .u8 a2] rfl (by (try simp only [List.map_toArray, List.map_cons, List.map_nil]); first | done | rfl) ?_; refine (impl_GfLagrange.calls (h := HIM.out) (hr0 := (Kd.R_reads' (HS.get (i := 1) rfl)).2.2) (hc0 := (Kd.R_reads' (HS.get (i := 1) rfl)).2.1) (hr1 := (Kd.R_reads' (HS.get (i := 0) rfl)).2.2) (hc1 := (Kd.R_reads' (HS.get (i := 0) rfl)).2.1)).mono ?_; rintro e w6 ⟨rfl, hb⟩; have HN := HS.below hb; refine ⟨_, rfl, ?_⟩; clear HS; have HS := HN; clear HN) | ((with_reducible refine gate_dst (N := 49) rfl ?_); refine goesL_ (some 49) rfl rfl Try.func22 (by kernel_rfl) rfl #[.slice A0 l0.length c0] rfl (by (try simp only [List.map_toArray, List.map_cons, List.map_nil]); first | done | rfl) ?_; refine (st_toByteS HS HR0.out HC0.out (Nat.le_trans HLl0.out (by decide))).mono ?_; rintro e w7 ⟨Ao7, co7, lo7, hi7, rfl, HN⟩; refine ⟨_, rfl, ?_⟩; clear HS; have HS := HN; clear HN) | ((with_reducible refine gate_dst (N := 50) rfl ?_); refine goesL_ (some 50) rfl rfl Try.func16 (by kernel_rfl) rfl #[.slice Ao4 l0.length co4, .slice Ao7 l0.length co7] rfl (by (try simp only [List.map_toArray, List.map_cons, List.map_nil]); first | done | rfl) ?_; refine (st_eqByteS HS (Kd.R_reads' (HS.get (i := 2) rfl)).2.2 (Kd.R_reads' (HS.get (i := 2) rfl)).2.1 (Kd.R_reads' (HS.get (i := 0) rfl)).2.2 (Kd.R_reads' (HS.get (i := 0) rfl)).2.1 (Nat.le_trans HLl0.out (by decide))).mono ?_; rintro e w8 ⟨rfl, HN⟩; refine ⟨_, rfl, ?_⟩; clear HS; have HS := HN; clear HN) | ((with_reducible refine gate_dst (N := 54) rfl ?_); refine goesL_ (some 54) rfl rfl Try.func22 (by kernel_rfl) rfl #[.slice A1 l1.length c1] rfl (by (try simp only [List.map_toArray, List.map_cons, List.map_nil]); first | done | rfl) ?_; refine (st_toByteS HS HR1.out HC1.out (Nat.le_trans HLl1.out (by decide))).mono ?_; rintro e w9 ⟨Ao9, co9, lo9, hi9, rfl, HN⟩; refine ⟨_, rfl, ?_⟩; clear HS; have HS := HN; clear HN) | ((with_reducible refine gate_dst (N := 55) rfl ?_); refine goesL_ (some 55) rfl rfl Try.func16 (by kernel_rfl) rfl #[.slice Ao5 l1.length co5, .slice Ao9 l1.length co9] rfl (by (try simp only [List.map_toArray, List.map_cons, List.map_nil]); first | done | rfl) ?_; refine (st_eqByteS HS (Kd.R_reads' (HS.get (i := 2) rfl)).2.2 (Kd.R_reads' (HS.get (i := 2) rfl)).2.1 (Kd.R_reads' (HS.get (i := 0) rfl)).2.2 (Kd.R_reads' (HS.get (i := 0) rfl)).2.1 (Nat.le_trans HLl1.out (by decide))).mono ?_; rintro e w10 ⟨rfl, HN⟩; refine ⟨_, rfl, ?_⟩; clear HS; have HS := HN; clear HN))
  go_ret
  exact ⟨rfl, HS.bel⟩
end Go.Proofs.Ythaoloacbbohlaa.X
