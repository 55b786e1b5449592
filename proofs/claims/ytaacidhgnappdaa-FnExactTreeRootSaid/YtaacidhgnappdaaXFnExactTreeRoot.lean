/- The walk of the law FnExactTreeRoot: its one way to the end. -/
import Derived.Test.YtaacidhgnappdaaPFnExactTreeRootx3
import Derived.Test.YtaacidhgnappdaaPFnExactTreeRootx6
import Derived.Test.YtaacidhgnappdaaPFnExactTreeRootx7
import Derived.Test.YtaacidhgnappdaaPureFnExactTreeRoot
import Derived.Test.YtaacidhgnappdaaSt
namespace Go.Proofs.Ytaacidhgnappdaa.X
open Go.RowKit Go.Proofs.Ytaacidhgnappdaa Go.Proofs.Ytaacidhgnappdaa.PFnExactTreeRoot Go.Proofs.Ytaacidhgnappdaa.St Go.Proofs.YtaacidhgnappdaaW.PrintWords Go.Proofs.YtaacidhgnappdaaW.PrintLast Go.Proofs.YtaacidhgnappdaaW.PrintMore
set_option linter.unusedVariables false
set_option linter.unusedSimpArgs false

theorem st_szByteSS {W w : World} {L : List Slot} (HS : St W w L) {A : Option Addr} {c : Nat} {l : List (List Int)} (hr : Kd.C (Kd.slice 5 (Kd.int .u8)) W A l.length l) (hc : l.length ≤ c) (hq : l.length ≤ maxLen ∧ ∀ v ∈ l, v.length ≤ maxLen) {a : Int} (h0 : 0 ≤ a) (ha : a ≤ 1048576) :
    Calls Try.prog 30 #[.slice A l.length c, .int .i64 a] w fun e w' => ∃ r : Int, e = .returned (.int .i64 r) ∧ Aside0 (r = Pure.left a (Pure.tot l)) ∧ St W w' L := by
  obtain ⟨k, h⟩ := (Pure.szByteSS l a h0 ha hq.1 hq.2).rounds
  refine (laws_szByteSS.calls (k := k) (h := h) (hr0 := Kd.C_below hr HS.bel) (hc0 := hc)).mono ?_
  rintro e w' ⟨rfl, hd⟩
  exact ⟨_, rfl, ⟨rfl⟩, HS.drawn hd⟩

theorem st_toByteSS {W w : World} {L : List Slot} (HS : St W w L) {A : Option Addr} {c : Nat} {l : List (List Int)} (hr : Kd.C (Kd.slice 5 (Kd.int .u8)) W A l.length l) (hc : l.length ≤ c) (hl : Pure.tot l ≤ 10000000000000) :
    Calls Try.prog 32 #[.slice A l.length c] w fun e w' => ∃ (A' : Option Addr) (c' lo hi : Nat), e = .returned (.slice A' l.length c') ∧ St W w' (rows (Kd.slice 5 (Kd.int .u8)) 22 W.heap.size lo hi (.slice A' l.length c') l :: L) := by
  obtain ⟨k, h⟩ := (Pure.toByteSS l hl).rounds
  refine (laws_toByteSS.calls k A c l l w (Kd.C_below hr HS.bel) hc h).mono ?_
  rintro e w' ⟨v, rfl, ho, hb⟩
  obtain ⟨A', c', rfl⟩ := Kd.S_slice ho
  exact ⟨A', c', _, _, rfl, HS.pushRows hb ho⟩

theorem st_eqByteSS {W w : World} {L : List Slot} (HS : St W w L) {A A1 : Option Addr} {c c1 : Nat} {l : List (List Int)} (h0 : Kd.C (Kd.slice 5 (Kd.int .u8)) w A l.length l) (k0 : l.length ≤ c) (h1 : Kd.C (Kd.slice 5 (Kd.int .u8)) w A1 l.length l) (k1 : l.length ≤ c1) (hl : Pure.tot l ≤ 10000000000000) :
    Calls Try.prog 33 #[.slice A l.length c, .slice A1 l.length c1] w fun e w' => e = .returned (.bool true) ∧ St W w' L := by
  obtain ⟨k, h⟩ := (Pure.eqByteSS l hl).rounds
  refine (laws_eqByteSS.calls k A c l A1 c1 l true w h0 k0 h1 k1 h).mono ?_
  rintro e w' ⟨rfl, hd⟩
  exact ⟨rfl, HS.drawn hd⟩

set_option maxHeartbeats 8000000 in
set_option maxRecDepth 100000 in
theorem walk (a0 : Int) (A1 : Option Addr) (c1 : Nat) (l1 : List (List Int)) (w : World) (hq0 : (Lit.int .i64 a0).wf = true) (hr1 : Kd.C (Kd.slice 5 (Kd.int .u8)) w A1 l1.length l1) (hc1 : l1.length ≤ c1) (hq1 : (l1.length ≤ maxLen ∧ ∀ v0 ∈ l1, (v0.length ≤ maxLen ∧ ∀ v1 ∈ v0, (Lit.int .u8 v1).wf = true))) :
    Calls Try.prog 5 #[.int .i64 a0, .slice A1 l1.length c1] w fun e w' => e = .returned (.bool true) ∧ Below w.heap.size w w' := by
  have HQ0 := Aside0.mk hq0
  clear hq0
  have HR1 := Aside0.mk hr1
  have HC1 := Aside0.mk hc1
  have HQ1 := Aside0.mk hq1
  clear hr1 hc1 hq1
  obtain ⟨SV0, ev0⟩ : ∃ z : Int, z = Pure.left 1048576 (Pure.tot l1) := ⟨_, rfl⟩
  have EV0 := Aside0.mk ev0
  clear ev0
  by_cases g0 : SV0 < 0
  · have GS0 := Aside0.mk g0
    clear g0
    go_enter Try.func5, Try.ntmps5
    have HS := St.nil w
    go_wp2_with (first | ((with_reducible refine gate_dst (N := 11) rfl ?_); refine goesL_ (some 11) rfl rfl Try.func30 (by kernel_rfl) rfl #[.slice A1 l1.length c1, .int .i64 1048576] rfl (by (try simp only [List.map_toArray, List.map_cons, List.map_nil]); first | done | rfl) ?_; refine (st_szByteSS HS HR1.out HC1.out ⟨HQ1.out.1, fun v hv => (HQ1.out.2 v hv).1⟩ (by decide) (by decide)).mono ?_; rintro e w1 ⟨r1, rfl, HE1, HN⟩; have HV1 : Aside0 (r1 = SV0) := ⟨by rw [HE1.out]; exact EV0.out.symm⟩; have d1 : decide (r1 < 0) = true := decide_eq_true (by have := HV1.out; have := GS0.out; omega); refine ⟨_, rfl, ?_⟩; clear HS; have HS := HN; clear HN))
    go_ret
    exact ⟨rfl, HS.bel⟩
  have GS0 := Aside0.mk g0
  clear g0
  have GT0 : Aside0 (SV0 = 1048576 - ((Pure.tot l1 : Nat) : Int)) := ⟨by have h := EV0.out; have := GS0.out; rw [h]; exact Pure.left_ok (by rw [← h]; exact this)⟩
  have GU0 : Aside0 (SV0 ≤ 1048576) := ⟨by have := GT0.out; omega⟩
  have GLl1 : Aside0 (Pure.tot l1 ≤ 1048576) := ⟨by have := GT0.out; have := GS0.out; omega⟩
  have HLl1 : Aside0 (Pure.tot l1 ≤ 1000000000000) := ⟨by have := GLl1.out; omega⟩
  have HTl1 : Aside0 (Pure.tsum l1 ≤ 1000000000000) := ⟨Nat.le_trans (Pure.tsum_le l1) HLl1.out⟩
  obtain ⟨r, ⟨ks, hsp⟩, ⟨ki, him⟩⟩ := Pure.FnExactTreeRoot a0 l1 HQ0.out HQ1.out GLl1.out
  have HSP := Aside0.mk hsp
  have HIM := Aside0.mk him
  clear hsp him
  have er : (r != r) = false := bne_self_eq_false _
  have ir : (r == r) = true := beq_self_eq_true _
  go_enter Try.func5, Try.ntmps5
  have HS := St.nil w
  go_wp2_with (first | ((with_reducible refine gate_dst (N := 11) rfl ?_); refine goesL_ (some 11) rfl rfl Try.func30 (by kernel_rfl) rfl #[.slice A1 l1.length c1, .int .i64 1048576] rfl (by (try simp only [List.map_toArray, List.map_cons, List.map_nil]); first | done | rfl) ?_; refine (st_szByteSS HS HR1.out HC1.out ⟨HQ1.out.1, fun v hv => (HQ1.out.2 v hv).1⟩ (by decide) (by decide)).mono ?_; rintro e w1 ⟨r1, rfl, HE1, HN⟩; have HV1 : Aside0 (r1 = SV0) := ⟨by rw [HE1.out]; exact EV0.out.symm⟩; have HB1 : Aside0 (0 ≤ r1 ∧ r1 ≤ 1048576) := ⟨by have := HV1.out; have := GS0.out; have := GU0.out; omega⟩; have d1 : decide (r1 < 0) = false := decide_eq_false (by have := HB1.out; omega); refine ⟨_, rfl, ?_⟩; clear HS; have HS := HN; clear HN) | ((with_reducible refine gate_dst (N := 16) rfl ?_); refine goesL_ (some 16) rfl rfl Try.func32 (by kernel_rfl) rfl #[.slice A1 l1.length c1] rfl (by (try simp only [List.map_toArray, List.map_cons, List.map_nil]); first | done | rfl) ?_; refine (st_toByteSS HS HR1.out HC1.out (Nat.le_trans HLl1.out (by decide))).mono ?_; rintro e w2 ⟨Ao2, co2, lo2, hi2, rfl, HN⟩; refine ⟨_, rfl, ?_⟩; clear HS; have HS := HN; clear HN) | ((with_reducible refine gate_dst (N := 17) rfl ?_); refine goesL_ (some 17) rfl rfl Try.func31 (by kernel_rfl) rfl #[.int .i64 a0, .slice Ao2 l1.length co2] rfl (by (try simp only [List.map_toArray, List.map_cons, List.map_nil]); first | done | rfl) ?_; refine (spec_TreeRoot.calls (h := HSP.out) (hr1 := (Kd.S_reads' (HS.get (i := 0) rfl)).2.2) (hc1 := (Kd.S_reads' (HS.get (i := 0) rfl)).2.1)).mono ?_; rintro e w3 ⟨rfl, hb⟩; have HN := HS.below hb; refine ⟨_, rfl, ?_⟩; clear HS; have HS := HN; clear HN) | ((with_reducible refine gate_dst (N := 19) rfl ?_); refine goesL_ (some 19) rfl rfl Try.func32 (by kernel_rfl) rfl #[.slice A1 l1.length c1] rfl (by (try simp only [List.map_toArray, List.map_cons, List.map_nil]); first | done | rfl) ?_; refine (st_toByteSS HS HR1.out HC1.out (Nat.le_trans HLl1.out (by decide))).mono ?_; rintro e w4 ⟨Ao4, co4, lo4, hi4, rfl, HN⟩; refine ⟨_, rfl, ?_⟩; clear HS; have HS := HN; clear HN) | ((with_reducible refine gate_dst (N := 22) rfl ?_); refine goesL_ (some 22) rfl rfl Try.func22 (by kernel_rfl) rfl #[.int .i64 a0, .slice Ao4 l1.length co4] rfl (by (try simp only [List.map_toArray, List.map_cons, List.map_nil]); first | done | rfl) ?_; refine (impl_TreeRoot.calls (h := HIM.out) (hr1 := (Kd.S_reads' (HS.get (i := 0) rfl)).2.2) (hc1 := (Kd.S_reads' (HS.get (i := 0) rfl)).2.1)).mono ?_; rintro e w5 ⟨rfl, hb⟩; have HN := HS.below hb; refine ⟨_, rfl, ?_⟩; clear HS; have HS := HN; clear HN) | ((with_reducible refine gate_dst (N := 28) rfl ?_); refine goesL_ (some 28) rfl rfl Try.func32 (by kernel_rfl) rfl #[.slice A1 l1.length c1] rfl (by (try simp only [List.map_toArray, List.map_cons, List.map_nil]); first | done | rfl) ?_; refine (st_toByteSS HS HR1.out HC1.out (Nat.le_trans HLl1.out (by decide))).mono ?_; rintro e w6 ⟨Ao6, co6, lo6, hi6, rfl, HN⟩; refine ⟨_, rfl, ?_⟩; clear HS; have HS := HN; clear HN) | ((with_reducible refine gate_dst (N := 29) rfl ?_); refine goesL_ (some 29) rfl rfl Try.func33 (by kernel_rfl) rfl #[.slice Ao4 l1.length co4, .slice Ao6 l1.length co6] rfl (by (try simp only [List.map_toArray, List.map_cons, List.map_nil]); first | done | rfl) ?_; refine (st_eqByteSS HS (Kd.S_reads' (HS.get (i := 1) rfl)).2.2 (Kd.S_reads' (HS.get (i := 1) rfl)).2.1 (Kd.S_reads' (HS.get (i := 0) rfl)).2.2 (Kd.S_reads' (HS.get (i := 0) rfl)).2.1 (Nat.le_trans HLl1.out (by decide))).mono ?_; rintro e w7 ⟨rfl, HN⟩; refine ⟨_, rfl, ?_⟩; clear HS; have HS := HN; clear HN))
  go_ret
  exact ⟨rfl, HS.bel⟩
end Go.Proofs.Ytaacidhgnappdaa.X
