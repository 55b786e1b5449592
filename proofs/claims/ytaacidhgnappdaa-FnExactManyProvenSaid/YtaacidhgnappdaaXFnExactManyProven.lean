/- The walk of the law FnExactManyProven: its one way to the end. -/
import Derived.Test.YtaacidhgnappdaaPFnExactManyProvenx4
import Derived.Test.YtaacidhgnappdaaPFnExactManyProvenx9
import Derived.Test.YtaacidhgnappdaaPFnExactManyProvenx10
import Derived.Test.YtaacidhgnappdaaPureFnExactManyProven
import Derived.Test.YtaacidhgnappdaaSt
namespace Go.Proofs.Ytaacidhgnappdaa.X
open Go.RowKit Go.Proofs.Ytaacidhgnappdaa Go.Proofs.Ytaacidhgnappdaa.PFnExactManyProven Go.Proofs.Ytaacidhgnappdaa.St Go.Proofs.YtaacidhgnappdaaW.PrintWords Go.Proofs.YtaacidhgnappdaaW.PrintLast Go.Proofs.YtaacidhgnappdaaW.PrintMore
set_option linter.unusedVariables false
set_option linter.unusedSimpArgs false

theorem st_szByteSS {W w : World} {L : List Slot} (HS : St W w L) {A : Option Addr} {c : Nat} {l : List (List Int)} (hr : Kd.C (Kd.slice 5 (Kd.int .u8)) W A l.length l) (hc : l.length ≤ c) (hq : l.length ≤ maxLen ∧ ∀ v ∈ l, v.length ≤ maxLen) {a : Int} (h0 : 0 ≤ a) (ha : a ≤ 1048576) :
    Calls Try.prog 30 #[.slice A l.length c, .int .i64 a] w fun e w' => ∃ r : Int, e = .returned (.int .i64 r) ∧ Aside0 (r = Pure.left a (Pure.tot l)) ∧ St W w' L := by
  obtain ⟨k, h⟩ := (Pure.szByteSS l a h0 ha hq.1 hq.2).rounds
  refine (laws_szByteSS.calls (k := k) (h := h) (hr0 := Kd.C_below hr HS.bel) (hc0 := hc)).mono ?_
  rintro e w' ⟨rfl, hd⟩
  exact ⟨_, rfl, ⟨rfl⟩, HS.drawn hd⟩

theorem st_toIntS {W w : World} {L : List Slot} (HS : St W w L) {A : Option Addr} {c : Nat} {l : List Int} (hr : Kd.C (Kd.int .i64) W A l.length l) (hc : l.length ≤ c) (hl : l.length ≤ 10000000000000) :
    Calls Try.prog 16 #[.slice A l.length c] w fun e w' => ∃ (A' : Option Addr) (c' lo hi : Nat), e = .returned (.slice A' l.length c') ∧ St W w' (row (Kd.int .i64) 3 W.heap.size lo hi (.slice A' l.length c') l :: L) := by
  obtain ⟨k, h⟩ := (Pure.toIntS l (by omega)).rounds
  refine (laws_toIntS.calls k A c l l w (Kd.C_below hr HS.bel) hc h).mono ?_
  rintro e w' ⟨v, rfl, ho, hb⟩
  obtain ⟨A', c', rfl⟩ := Kd.R_slice ho
  exact ⟨A', c', _, _, rfl, HS.pushRow hb ho⟩

theorem st_toByteSS {W w : World} {L : List Slot} (HS : St W w L) {A : Option Addr} {c : Nat} {l : List (List Int)} (hr : Kd.C (Kd.slice 5 (Kd.int .u8)) W A l.length l) (hc : l.length ≤ c) (hl : Pure.tot l ≤ 10000000000000) :
    Calls Try.prog 32 #[.slice A l.length c] w fun e w' => ∃ (A' : Option Addr) (c' lo hi : Nat), e = .returned (.slice A' l.length c') ∧ St W w' (rows (Kd.slice 5 (Kd.int .u8)) 22 W.heap.size lo hi (.slice A' l.length c') l :: L) := by
  obtain ⟨k, h⟩ := (Pure.toByteSS l hl).rounds
  refine (laws_toByteSS.calls k A c l l w (Kd.C_below hr HS.bel) hc h).mono ?_
  rintro e w' ⟨v, rfl, ho, hb⟩
  obtain ⟨A', c', rfl⟩ := Kd.S_slice ho
  exact ⟨A', c', _, _, rfl, HS.pushRows hb ho⟩

theorem st_eqIntS {W w : World} {L : List Slot} (HS : St W w L) {A A1 : Option Addr} {c c1 : Nat} {l : List Int} (h0 : Kd.C (Kd.int .i64) w A l.length l) (k0 : l.length ≤ c) (h1 : Kd.C (Kd.int .i64) w A1 l.length l) (k1 : l.length ≤ c1) (hl : l.length ≤ 10000000000000) :
    Calls Try.prog 19 #[.slice A l.length c, .slice A1 l.length c1] w fun e w' => e = .returned (.bool true) ∧ St W w' L := by
  obtain ⟨k, h⟩ := (Pure.eqIntS l (by omega)).rounds
  refine (laws_eqIntS.calls k A c l A1 c1 l true w h0 k0 h1 k1 h).mono ?_
  rintro e w' ⟨rfl, hd⟩
  exact ⟨rfl, HS.drawn hd⟩

theorem st_eqByteSS {W w : World} {L : List Slot} (HS : St W w L) {A A1 : Option Addr} {c c1 : Nat} {l : List (List Int)} (h0 : Kd.C (Kd.slice 5 (Kd.int .u8)) w A l.length l) (k0 : l.length ≤ c) (h1 : Kd.C (Kd.slice 5 (Kd.int .u8)) w A1 l.length l) (k1 : l.length ≤ c1) (hl : Pure.tot l ≤ 10000000000000) :
    Calls Try.prog 33 #[.slice A l.length c, .slice A1 l.length c1] w fun e w' => e = .returned (.bool true) ∧ St W w' L := by
  obtain ⟨k, h⟩ := (Pure.eqByteSS l hl).rounds
  refine (laws_eqByteSS.calls k A c l A1 c1 l true w h0 k0 h1 k1 h).mono ?_
  rintro e w' ⟨rfl, hd⟩
  exact ⟨rfl, HS.drawn hd⟩

set_option maxHeartbeats 8000000 in
set_option maxRecDepth 100000 in
theorem walk (a0 : Int) (a1 : Int) (a2 : Int) (A3 : Option Addr) (c3 : Nat) (l3 : List Int) (A4 : Option Addr) (c4 : Nat) (l4 : List (List Int)) (A5 : Option Addr) (c5 : Nat) (l5 : List Int) (w : World) (hq0 : (Lit.int .i64 a0).wf = true) (hq1 : (Lit.int .i64 a1).wf = true) (hq2 : (Lit.int .i64 a2).wf = true) (hr3 : Kd.C (Kd.int .i64) w A3 l3.length l3) (hc3 : l3.length ≤ c3) (hq3 : (l3.length ≤ maxLen ∧ ∀ v0 ∈ l3, (Lit.int .i64 v0).wf = true)) (hr4 : Kd.C (Kd.slice 5 (Kd.int .u8)) w A4 l4.length l4) (hc4 : l4.length ≤ c4) (hq4 : (l4.length ≤ maxLen ∧ ∀ v0 ∈ l4, (v0.length ≤ maxLen ∧ ∀ v1 ∈ v0, (Lit.int .u8 v1).wf = true))) (hr5 : Kd.C (Kd.int .i64) w A5 l5.length l5) (hc5 : l5.length ≤ c5) (hq5 : (l5.length ≤ maxLen ∧ ∀ v0 ∈ l5, (Lit.int .i64 v0).wf = true)) :
    Calls Try.prog 10 #[.int .i64 a0, .int .i64 a1, .int .i64 a2, .slice A3 l3.length c3, .slice A4 l4.length c4, .slice A5 l5.length c5] w fun e w' => e = .returned (.bool true) ∧ Below w.heap.size w w' := by
  have HQ0 := Aside0.mk hq0
  clear hq0
  have HQ1 := Aside0.mk hq1
  clear hq1
  have HQ2 := Aside0.mk hq2
  clear hq2
  have HR3 := Aside0.mk hr3
  have HC3 := Aside0.mk hc3
  have HQ3 := Aside0.mk hq3
  clear hr3 hc3 hq3
  have HR4 := Aside0.mk hr4
  have HC4 := Aside0.mk hc4
  have HQ4 := Aside0.mk hq4
  clear hr4 hc4 hq4
  have HR5 := Aside0.mk hr5
  have HC5 := Aside0.mk hc5
  have HQ5 := Aside0.mk hq5
  clear hr5 hc5 hq5
  by_cases g0 : (l3.length : Int) > 1048576
  · have g0a : decide (1048576 < (l3.length : Int)) = true := decide_eq_true g0
    have g0b : decide (1048576 < l3.length) = true := decide_eq_true (by omega)
    clear g0
    go_enter Try.func10, Try.ntmps10
    go_wp2
    go_ret
    exact ⟨rfl, by repeat (first | exact Below.refl _ _ | apply below_alloc)⟩
  have g0a : decide (1048576 < (l3.length : Int)) = false := decide_eq_false g0
  have g0b : decide (1048576 < l3.length) = false := decide_eq_false (by omega)
  have GLl3 : Aside0 (l3.length ≤ 1048576) := ⟨by omega⟩
  have HLl3 : Aside0 (l3.length ≤ 1000000000000) := ⟨by omega⟩
  clear g0
  by_cases g1 : (l5.length : Int) > 1048576
  · have g1a : decide (1048576 < (l5.length : Int)) = true := decide_eq_true g1
    have g1b : decide (1048576 < l5.length) = true := decide_eq_true (by omega)
    clear g1
    go_enter Try.func10, Try.ntmps10
    go_wp2
    go_ret
    exact ⟨rfl, by repeat (first | exact Below.refl _ _ | apply below_alloc)⟩
  have g1a : decide (1048576 < (l5.length : Int)) = false := decide_eq_false g1
  have g1b : decide (1048576 < l5.length) = false := decide_eq_false (by omega)
  have GLl5 : Aside0 (l5.length ≤ 1048576) := ⟨by omega⟩
  have HLl5 : Aside0 (l5.length ≤ 1000000000000) := ⟨by omega⟩
  clear g1
  obtain ⟨SV0, ev0⟩ : ∃ z : Int, z = Pure.left 1048576 (Pure.tot l4) := ⟨_, rfl⟩
  have EV0 := Aside0.mk ev0
  clear ev0
  by_cases g2 : SV0 < 0
  · have GS0 := Aside0.mk g2
    clear g2
    go_enter Try.func10, Try.ntmps10
    have HS := St.nil w
    go_wp2_with (first | ((with_reducible refine gate_dst (N := 27) rfl ?_); refine goesL_ (some 27) rfl rfl Try.func30 (by kernel_rfl) rfl #[.slice A4 l4.length c4, .int .i64 1048576] rfl (by (try simp only [List.map_toArray, List.map_cons, List.map_nil]); first | done | rfl) ?_; refine (st_szByteSS HS HR4.out HC4.out ⟨HQ4.out.1, fun v hv => (HQ4.out.2 v hv).1⟩ (by decide) (by decide)).mono ?_; rintro e w1 ⟨nn1, rfl, HE1, HN⟩; have HV1 : Aside0 (nn1 = SV0) := ⟨by rw [HE1.out]; exact EV0.out.symm⟩; have d1 : decide (nn1 < 0) = true := decide_eq_true (by have := HV1.out; have := GS0.out; omega); refine ⟨_, rfl, ?_⟩; clear HS; have HS := HN; clear HN))
    go_ret
    exact ⟨rfl, HS.bel⟩
  have GS0 := Aside0.mk g2
  clear g2
  have GT0 : Aside0 (SV0 = 1048576 - ((Pure.tot l4 : Nat) : Int)) := ⟨by have h := EV0.out; have := GS0.out; rw [h]; exact Pure.left_ok (by rw [← h]; exact this)⟩
  have GU0 : Aside0 (SV0 ≤ 1048576) := ⟨by have := GT0.out; omega⟩
  have GLl4 : Aside0 (Pure.tot l4 ≤ 1048576) := ⟨by have := GT0.out; have := GS0.out; omega⟩
  have HLl4 : Aside0 (Pure.tot l4 ≤ 1000000000000) := ⟨by have := GLl4.out; omega⟩
  have HTl4 : Aside0 (Pure.tsum l4 ≤ 1000000000000) := ⟨Nat.le_trans (Pure.tsum_le l4) HLl4.out⟩
  obtain ⟨r, ⟨ks, hsp⟩, ⟨ki, him⟩⟩ := Pure.FnExactManyProven a0 a1 a2 l3 l4 l5 HQ0.out HQ1.out HQ2.out HQ3.out HQ4.out HQ5.out GLl3.out GLl5.out GLl4.out
  have HSP := Aside0.mk hsp
  have HIM := Aside0.mk him
  clear hsp him
  have er : (r != r) = false := bne_self_eq_false _
  have ir : (r == r) = true := beq_self_eq_true _
  go_enter Try.func10, Try.ntmps10
  have HS := St.nil w
  go_wp2_with (first | ((with_reducible refine gate_dst (N := 27) rfl ?_); refine goesL_ (some 27) rfl rfl Try.func30 (by kernel_rfl) rfl #[.slice A4 l4.length c4, .int .i64 1048576] rfl (by (try simp only [List.map_toArray, List.map_cons, List.map_nil]); first | done | rfl) ?_; refine (st_szByteSS HS HR4.out HC4.out ⟨HQ4.out.1, fun v hv => (HQ4.out.2 v hv).1⟩ (by decide) (by decide)).mono ?_; rintro e w1 ⟨nn1, rfl, HE1, HN⟩; have HV1 : Aside0 (nn1 = SV0) := ⟨by rw [HE1.out]; exact EV0.out.symm⟩; have HB1 : Aside0 (0 ≤ nn1 ∧ nn1 ≤ 1048576) := ⟨by have := HV1.out; have := GS0.out; have := GU0.out; omega⟩; have d1 : decide (nn1 < 0) = false := decide_eq_false (by have := HB1.out; omega); refine ⟨_, rfl, ?_⟩; clear HS; have HS := HN; clear HN) | ((with_reducible refine gate_dst (N := 34) rfl ?_); refine goesL_ (some 34) rfl rfl Try.func16 (by kernel_rfl) rfl #[.slice A3 l3.length c3] rfl (by (try simp only [List.map_toArray, List.map_cons, List.map_nil]); first | done | rfl) ?_; refine (st_toIntS HS HR3.out HC3.out (Nat.le_trans HLl3.out (by decide))).mono ?_; rintro e w2 ⟨Ao2, co2, lo2, hi2, rfl, HN⟩; refine ⟨_, rfl, ?_⟩; clear HS; have HS := HN; clear HN) | ((with_reducible refine gate_dst (N := 36) rfl ?_); refine goesL_ (some 36) rfl rfl Try.func32 (by kernel_rfl) rfl #[.slice A4 l4.length c4] rfl (by (try simp only [List.map_toArray, List.map_cons, List.map_nil]); first | done | rfl) ?_; refine (st_toByteSS HS HR4.out HC4.out (Nat.le_trans HLl4.out (by decide))).mono ?_; rintro e w3 ⟨Ao3, co3, lo3, hi3, rfl, HN⟩; refine ⟨_, rfl, ?_⟩; clear HS; have HS := HN; clear HN) | ((with_reducible refine gate_dst (N := 38) rfl ?_); refine goesL_ (some 38) rfl rfl Try.func16 (by kernel_rfl) rfl #[.slice A5 l5.length c5] rfl (by (try simp only [List.map_toArray, List.map_cons, List.map_nil]); first | done | rfl) ?_; refine (st_toIntS HS HR5.out HC5.out (Nat.le_trans HLl5.out (by decide))).mono ?_; rintro e w4 ⟨Ao4, co4, lo4, hi4, rfl, HN⟩; refine ⟨_, rfl, ?_⟩; clear HS; have HS := HN; clear HN) | ((with_reducible refine gate_dst (N := 39) rfl ?_); refine goesL_ (some 39) rfl rfl Try.func47 (by kernel_rfl) rfl #[.int .i64 a0, .int .i64 a1, .int .i64 a2, .slice Ao2 l3.length co2, .slice Ao3 l4.length co3, .slice Ao4 l5.length co4] rfl (by (try simp only [List.map_toArray, List.map_cons, List.map_nil]); first | done | rfl) ?_; refine (spec_ManyProven.calls (h := HSP.out) (hr3 := (Kd.R_reads' (HS.get (i := 2) rfl)).2.2) (hc3 := (Kd.R_reads' (HS.get (i := 2) rfl)).2.1) (hr4 := (Kd.S_reads' (HS.get (i := 1) rfl)).2.2) (hc4 := (Kd.S_reads' (HS.get (i := 1) rfl)).2.1) (hr5 := (Kd.R_reads' (HS.get (i := 0) rfl)).2.2) (hc5 := (Kd.R_reads' (HS.get (i := 0) rfl)).2.1)).mono ?_; rintro e w5 ⟨rfl, hb⟩; have HN := HS.below hb; refine ⟨_, rfl, ?_⟩; clear HS; have HS := HN; clear HN) | ((with_reducible refine gate_dst (N := 41) rfl ?_); refine goesL_ (some 41) rfl rfl Try.func16 (by kernel_rfl) rfl #[.slice A3 l3.length c3] rfl (by (try simp only [List.map_toArray, List.map_cons, List.map_nil]); first | done | rfl) ?_; refine (st_toIntS HS HR3.out HC3.out (Nat.le_trans HLl3.out (by decide))).mono ?_; rintro e w6 ⟨Ao6, co6, lo6, hi6, rfl, HN⟩; refine ⟨_, rfl, ?_⟩; clear HS; have HS := HN; clear HN) | ((with_reducible refine gate_dst (N := 43) rfl ?_); refine goesL_ (some 43) rfl rfl Try.func32 (by kernel_rfl) rfl #[.slice A4 l4.length c4] rfl (by (try simp only [List.map_toArray, List.map_cons, List.map_nil]); first | done | rfl) ?_; refine (st_toByteSS HS HR4.out HC4.out (Nat.le_trans HLl4.out (by decide))).mono ?_; rintro e w7 ⟨Ao7, co7, lo7, hi7, rfl, HN⟩; refine ⟨_, rfl, ?_⟩; clear HS; have HS := HN; clear HN) | ((with_reducible refine gate_dst (N := 45) rfl ?_); refine goesL_ (some 45) rfl rfl Try.func16 (by kernel_rfl) rfl #[.slice A5 l5.length c5] rfl (by (try simp only [List.map_toArray, List.map_cons, List.map_nil]); first | done | rfl) ?_; refine (st_toIntS HS HR5.out HC5.out (Nat.le_trans HLl5.out (by decide))).mono ?_; rintro e w8 ⟨Ao8, co8, lo8, hi8, rfl, HN⟩; refine ⟨_, rfl, ?_⟩; clear HS; have HS := HN; clear HN) | ((with_reducible refine gate_dst (N := 52) rfl ?_); refine goesL_ (some 52) rfl rfl Try.func48 (by kernel_rfl) rfl #[.int .i64 a0, .int .i64 a1, .int .i64 a2, .slice Ao6 l3.length co6, .slice Ao7 l4.length co7, .slice Ao8 l5.length co8] rfl (by (try simp only [List.map_toArray, List.map_cons, List.map_nil]); first | done | rfl) ?_; refine (impl_ManyProven.calls (h := HIM.out) (hr3 := (Kd.R_reads' (HS.get (i := 2) rfl)).2.2) (hc3 := (Kd.R_reads' (HS.get (i := 2) rfl)).2.1) (hr4 := (Kd.S_reads' (HS.get (i := 1) rfl)).2.2) (hc4 := (Kd.S_reads' (HS.get (i := 1) rfl)).2.1) (hr5 := (Kd.R_reads' (HS.get (i := 0) rfl)).2.2) (hc5 := (Kd.R_reads' (HS.get (i := 0) rfl)).2.1)).mono ?_; rintro e w9 ⟨rfl, hb⟩; have HN := HS.below hb; refine ⟨_, rfl, ?_⟩; clear HS; have HS := HN; clear HN) | ((with_reducible refine gate_dst (N := 58) rfl ?_); refine goesL_ (some 58) rfl rfl Try.func16 (by kernel_rfl) rfl #[.slice A3 l3.length c3] rfl (by (try simp only [List.map_toArray, List.map_cons, List.map_nil]); first | done | rfl) ?_; refine (st_toIntS HS HR3.out HC3.out (Nat.le_trans HLl3.out (by decide))).mono ?_; rintro e w10 ⟨Ao10, co10, lo10, hi10, rfl, HN⟩; refine ⟨_, rfl, ?_⟩; clear HS; have HS := HN; clear HN) | ((with_reducible refine gate_dst (N := 59) rfl ?_); refine goesL_ (some 59) rfl rfl Try.func19 (by kernel_rfl) rfl #[.slice Ao6 l3.length co6, .slice Ao10 l3.length co10] rfl (by (try simp only [List.map_toArray, List.map_cons, List.map_nil]); first | done | rfl) ?_; refine (st_eqIntS HS (Kd.R_reads' (HS.get (i := 3) rfl)).2.2 (Kd.R_reads' (HS.get (i := 3) rfl)).2.1 (Kd.R_reads' (HS.get (i := 0) rfl)).2.2 (Kd.R_reads' (HS.get (i := 0) rfl)).2.1 (Nat.le_trans HLl3.out (by decide))).mono ?_; rintro e w11 ⟨rfl, HN⟩; refine ⟨_, rfl, ?_⟩; clear HS; have HS := HN; clear HN) | ((with_reducible refine gate_dst (N := 63) rfl ?_); refine goesL_ (some 63) rfl rfl Try.func32 (by kernel_rfl) rfl #[.slice A4 l4.length c4] rfl (by (try simp only [List.map_toArray, List.map_cons, List.map_nil]); first | done | rfl) ?_; refine (st_toByteSS HS HR4.out HC4.out (Nat.le_trans HLl4.out (by decide))).mono ?_; rintro e w12 ⟨Ao12, co12, lo12, hi12, rfl, HN⟩; refine ⟨_, rfl, ?_⟩; clear HS; have HS := HN; clear HN) | ((with_reducible refine gate_dst (N := 64) rfl ?_); refine goesL_ (some 64) rfl rfl Try.func33 (by kernel_rfl) rfl #[.slice Ao7 l4.length co7, .slice Ao12 l4.length co12] rfl (by (try simp only [List.map_toArray, List.map_cons, List.map_nil]); first | done | rfl) ?_; refine (st_eqByteSS HS (Kd.S_reads' (HS.get (i := 3) rfl)).2.2 (Kd.S_reads' (HS.get (i := 3) rfl)).2.1 (Kd.S_reads' (HS.get (i := 0) rfl)).2.2 (Kd.S_reads' (HS.get (i := 0) rfl)).2.1 (Nat.le_trans HLl4.out (by decide))).mono ?_; rintro e w13 ⟨rfl, HN⟩; refine ⟨_, rfl, ?_⟩; clear HS; have HS := HN; clear HN) | ((with_reducible refine gate_dst (N := 68) rfl ?_); refine goesL_ (some 68) rfl rfl Try.func16 (by kernel_rfl) rfl #[.slice A5 l5.length c5] rfl (by (try simp only [List.map_toArray, List.map_cons, List.map_nil]); first | done | rfl) ?_; refine (st_toIntS HS HR5.out HC5.out (Nat.le_trans HLl5.out (by decide))).mono ?_; rintro e w14 ⟨Ao14, co14, lo14, hi14, rfl, HN⟩; refine ⟨_, rfl, ?_⟩; clear HS; have HS := HN; clear HN) | ((with_reducible refine gate_dst (N := 69) rfl ?_); refine goesL_ (some 69) rfl rfl Try.func19 (by kernel_rfl) rfl #[.slice Ao8 l5.length co8, .slice Ao14 l5.length co14] rfl (by (try simp only [List.map_toArray, List.map_cons, List.map_nil]); first | done | rfl) ?_; refine (st_eqIntS HS (Kd.R_reads' (HS.get (i := 3) rfl)).2.2 (Kd.R_reads' (HS.get (i := 3) rfl)).2.1 (Kd.R_reads' (HS.get (i := 0) rfl)).2.2 (Kd.R_reads' (HS.get (i := 0) rfl)).2.1 (Nat.le_trans HLl5.out (by decide))).mono ?_; rintro e w15 ⟨rfl, HN⟩; refine ⟨_, rfl, ?_⟩; clear HS; have HS := HN; clear HN))
  go_ret
  exact ⟨rfl, HS.bel⟩
end Go.Proofs.Ytaacidhgnappdaa.X
