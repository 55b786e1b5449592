/- The walk of the law FnExactEncode: its one way to the end. -/
import Derived.Test.YthaoloacbbohlaaPFnExactEncodex2
import Derived.Test.YthaoloacbbohlaaPFnExactEncodex4
import Derived.Test.YthaoloacbbohlaaPFnExactEncodex5
import Derived.Test.YthaoloacbbohlaaPFnExactEncodex6
import Derived.Test.YthaoloacbbohlaaPureFnExactEncode
import Derived.Test.YthaoloacbbohlaaSt
namespace Go.Proofs.Ythaoloacbbohlaa.X
open Go.RowKit Go.Proofs.Ythaoloacbbohlaa Go.Proofs.Ythaoloacbbohlaa.PFnExactEncode Go.Proofs.Ythaoloacbbohlaa.St Go.Proofs.YthaoloacbbohlaaW.PrintWords Go.Proofs.YthaoloacbbohlaaW.PrintLast Go.Proofs.YthaoloacbbohlaaW.PrintMore
set_option linter.unusedVariables false
set_option linter.unusedSimpArgs false

theorem st_toByteS {W w : World} {L : List Slot} (HS : St W w L) {A : Option Addr} {c : Nat} {l : List Int} (hr : Kd.C (Kd.int .u8) W A l.length l) (hc : l.length ≤ c) (hl : l.length ≤ 10000000000000) :
    Calls Try.prog 22 #[.slice A l.length c] w fun e w' => ∃ (A' : Option Addr) (c' lo hi : Nat), e = .returned (.slice A' l.length c') ∧ St W w' (row (Kd.int .u8) 5 W.heap.size lo hi (.slice A' l.length c') l :: L) := by
  obtain ⟨k, h⟩ := (Pure.toByteS l (by omega)).rounds
  refine (laws_toByteS.calls k A c l l w (Kd.C_below hr HS.bel) hc h).mono ?_
  rintro e w' ⟨v, rfl, ho, hb⟩
  obtain ⟨A', c', rfl⟩ := Kd.R_slice ho
  exact ⟨A', c', _, _, rfl, HS.pushRow hb ho⟩

theorem st_eqByteSS {W w : World} {L : List Slot} (HS : St W w L) {A A1 : Option Addr} {c c1 : Nat} {l : List (List Int)} (h0 : Kd.C (Kd.slice 5 (Kd.int .u8)) w A l.length l) (k0 : l.length ≤ c) (h1 : Kd.C (Kd.slice 5 (Kd.int .u8)) w A1 l.length l) (k1 : l.length ≤ c1) (hl : Pure.tot l ≤ 10000000000000) :
    Calls Try.prog 17 #[.slice A l.length c, .slice A1 l.length c1] w fun e w' => e = .returned (.bool true) ∧ St W w' L := by
  obtain ⟨k, h⟩ := (Pure.eqByteSS l hl).rounds
  refine (laws_eqByteSS.calls k A c l A1 c1 l true w h0 k0 h1 k1 h).mono ?_
  rintro e w' ⟨rfl, hd⟩
  exact ⟨rfl, HS.drawn hd⟩

theorem st_eqByteS {W w : World} {L : List Slot} (HS : St W w L) {A A1 : Option Addr} {c c1 : Nat} {l : List Int} (h0 : Kd.C (Kd.int .u8) w A l.length l) (k0 : l.length ≤ c) (h1 : Kd.C (Kd.int .u8) w A1 l.length l) (k1 : l.length ≤ c1) (hl : l.length ≤ 10000000000000) :
    Calls Try.prog 16 #[.slice A l.length c, .slice A1 l.length c1] w fun e w' => e = .returned (.bool true) ∧ St W w' L := by
  obtain ⟨k, h⟩ := (Pure.eqByteS l (by omega)).rounds
  refine (laws_eqByteS.calls k A c l A1 c1 l true w h0 k0 h1 k1 h).mono ?_
  rintro e w' ⟨rfl, hd⟩
  exact ⟨rfl, HS.drawn hd⟩

theorem st_markByteS {W w : World} {L : List Slot} (HS : St W w L) {i lo hi : Nat} {v : Value} {l : List Int} (hi' : L[i]? = some (row (Kd.int .u8) 5 W.heap.size lo hi v l)) {a : Int} (h0 : 0 ≤ a) (ha : a + l.length ≤ 4611686018427387904) :
    Calls Try.prog 19 #[v, .int .i64 a] w fun e w' => ∃ r : Int, e = .returned (.int .i64 r) ∧ Aside0 (r = a + l.length) ∧ St W w' (L.set i (row (Kd.int .u8) 5 W.heap.size lo hi v (Pure.marked a l.length))) := by
  obtain ⟨k, h⟩ := (Pure.markByteS l a h0 ha).rounds
  refine (laws_markByteS.calls k (fun k => lo ≤ k ∧ k < hi) v l a _ _ W w HS.bel (Kd.R_mono (HS.get hi') (fun _ h => h.1)) h).mono ?_
  rintro e w' ⟨rfl, ho, hb, hk⟩
  exact ⟨_, rfl, ⟨rfl⟩, HS.writeRow rfl hi' hk hb ho⟩

set_option maxHeartbeats 4000000 in
set_option maxRecDepth 100000 in
theorem markSS_walk (W w : World) (lo hi : Nat) (A : Option Addr) (c : Nat) (l : List (List Int)) (a : Int) (h0 : 0 ≤ a) (ha : a + Pure.tsum l ≤ 4611686018427387904) (hB : Below W.heap.size W w)
    (hS : Kd.S (Kd.slice 5 (Kd.int .u8)) 24 w W.heap.size (fun k => (lo ≤ k ∧ k < hi) ∧ True) (.slice A l.length c) l) :
    Calls Try.prog 18 #[.slice A l.length c, .int .i64 a] w fun e w' => e = .returned (.int .i64 (a + Pure.tsum l)) ∧ Kd.S (Kd.slice 5 (Kd.int .u8)) 24 w' W.heap.size (fun k => (lo ≤ k ∧ k < hi) ∧ True) (.slice A l.length c) (Pure.markedSS a l) ∧ Below W.heap.size W w' ∧ Kept w w' (fun k => lo ≤ k ∧ k < hi) := by
  have HS := Aside0.mk hS
  have HB := Aside0.mk hB
  have HA := Aside0.mk ha
  have H0 := Aside0.mk h0
  have HM : Aside0 (l.length ≤ 9223372036854775807) := ⟨(Kd.S_reads' hS).2.2.2.1⟩
  clear hS hB ha h0
  go_enter Try.func18, Try.ntmps18
  go_wp2
  go_loopw [1, 5] (fun v i wr => ∃ j : Nat, i = .int .i64 j ∧ (∃ r : Int, v = .int .i64 r ∧ Aside0 (r = a + Pure.tsum (l.take j))) ∧ Aside0 (j ≤ l.length) ∧ Aside0 (Kd.S (Kd.slice 5 (Kd.int .u8)) 24 wr W.heap.size (fun k => (lo ≤ k ∧ k < hi) ∧ True) (.slice A l.length c) (Pure.markedSS a (l.take j) ++ l.drop j)) ∧ Aside0 (Below W.heap.size W wr) ∧ Aside0 (Kept w wr (fun k => lo ≤ k ∧ k < hi))) (fun _ i _ => l.length - (intOf i).toNat)
  case atStart => exact ⟨0, rfl, ⟨a, rfl, ⟨by simp [Pure.tsum]⟩⟩, ⟨Nat.zero_le _⟩, ⟨HS.out⟩, ⟨HB.out⟩, ⟨Kept.refl _ _⟩⟩
  case round =>
    clear HS HB
    obtain ⟨j, rfl, ⟨r, rfl, HR⟩, HJ, HS, HB, HK⟩ := hrel
    by_cases hlt : j < l.length
    · have c0 : decide (j < l.length) = true := decide_eq_true hlt
      have c1 : decide ((j : Int) < (l.length : Int)) = true := decide_eq_true (by omega)
      have p1 : 0 ≤ (j : Int) := Int.natCast_nonneg j
      have q1 : (j : Int) < (l.length : Int) := by omega
      have hlen : (Pure.markedSS a (l.take j) ++ l.drop j).length = l.length := by rw [List.length_append, Pure.markedSS_length, List.length_take, List.length_drop]; omega
      obtain ⟨g, cap, e, hg1, hg2, cells, hg3⟩ := Kd.S_form HS.out (by omega)
      injection e with e1 e2 e3
      subst e1
      obtain ⟨oki, cc, hcl, hM, hcc, hoki, hH⟩ := Kd.S_lend HS.out ([] : List Int) (j : Int) p1 q1
      obtain ⟨v, rfl, hR⟩ := hM
      obtain ⟨A0, c2, rfl⟩ := Kd.R_slice hR
      have hx := hcc 0 _ rfl
      rw [Int.toNat_natCast] at hx hR hH
      have e4 : j * (Kd.slice 5 (Kd.int .u8)).sz + 0 = j := Nat.mul_one j
      rw [e4, Pure.markedSS_at a l j hlt] at hx
      rw [Pure.markedSS_at a l j hlt] at hR hH
      have HX := Aside0.mk hR
      have HH := Aside0.mk hH
      have HO := Aside0.mk hoki
      have HL := Aside0.mk hlt
      have hts := Pure.tsum_snoc l j hlt
      have htk := Pure.tsum_take l (j + 1)
      have HT := Aside0.mk hts
      have HU := Aside0.mk htk
      obtain ⟨k, hmk⟩ := (Pure.markByteS (l.getD j []) r (by have := HR.out; have := H0.out; omega) (by have := HR.out; have := HA.out; omega)).rounds
      have HMK := Aside0.mk hmk
      have hst := Pure.markedSS_step a l j hlt
      have HST := Aside0.mk hst
      clear hlt hlen hg1 hg2 hg3 hcl hR hH hoki hts htk hmk hst hcc e2 e3
      generalize l.getD j [] = x at hx HX HT HMK HST HH
      go_wp2_with fail
      refine (laws_markByteS.calls k oki (.slice A0 x.length c2) x r _ _ W wr HB.out HX.out HMK.out).mono ?_
      rintro e w' ⟨rfl, ho, hb, hk⟩
      have b2 : (j : Int) ≤ 9223372036854775806 := by have := HL.out; have := HM.out; omega
      have HN1 := Aside0.mk (Kd.H_back (Kd.H_kept HH.out hk (fun _ _ hn hs => hn hs)) (x' := Pure.marked r x.length) (okp := oki) ⟨_, rfl, Kd.R_reok rfl ho (fun k hk => HX.out.1 k hk)⟩ (fun _ h => h))
      have HN2 := Aside0.mk hb
      have HN3 := Aside0.mk (HK.out.then_ hk (fun k hs => .inl (HO.out k hs).1.1))
      clear HS HB HK hk hb ho HH hx
      go_wp2
      go_roundw
      case rel => exact ⟨j + 1, by go_num, ⟨_, rfl, ⟨by have := HR.out; have := HT.out; omega⟩⟩, ⟨HL.out⟩, ⟨by have h := HN1.out; rw [Int.toNat_natCast, HR.out, HST.out] at h; exact h⟩, ⟨HN2.out⟩, ⟨HN3.out⟩⟩
      case measure => have := HL.out; simp [intOf]; omega
    · have c0 : decide (j < l.length) = false := decide_eq_false hlt
      have c1 : decide ((j : Int) < (l.length : Int)) = false := decide_eq_false (by omega)
      obtain rfl : j = l.length := by have := HJ.out; omega
      clear hlt
      go_wp2
      go_ret
      exact ⟨by have h := HR.out; rw [List.take_length] at h; first | (rw [h]; done) | (rw [h]; rfl), by have h := HS.out; rw [List.take_length, List.drop_length, List.append_nil] at h; exact h, HB.out, HK.out⟩
theorem st_markByteSS {W w : World} {L : List Slot} (HS : St W w L) {i lo hi : Nat} {A : Option Addr} {c : Nat} {l : List (List Int)} (hi' : L[i]? = some (rows (Kd.slice 5 (Kd.int .u8)) 24 W.heap.size lo hi (.slice A l.length c) l)) {a : Int} (h0 : 0 ≤ a) (ha : a + Pure.tsum l ≤ 4611686018427387904) :
    Calls Try.prog 18 #[.slice A l.length c, .int .i64 a] w fun e w' => ∃ r : Int, e = .returned (.int .i64 r) ∧ Aside0 (r = a + Pure.tsum l) ∧ St W w' (L.set i (rows (Kd.slice 5 (Kd.int .u8)) 24 W.heap.size lo hi (.slice A l.length c) (Pure.markedSS a l))) := by
  refine (markSS_walk W w lo hi A c l a h0 ha HS.bel (HS.get hi')).mono ?_
  rintro e w' ⟨rfl, ho, hb, hk⟩
  exact ⟨_, rfl, ⟨rfl⟩, HS.write hi' hk hb (rows (Kd.slice 5 (Kd.int .u8)) 24 W.heap.size lo hi (.slice A l.length c) (Pure.markedSS a l)) ho rfl rfl⟩

theorem st_heldByteSS {W w : World} {L : List Slot} (HS : St W w L) {A : Option Addr} {n0 c : Nat} {l : List (List Int)} {a : Int} (hr : n0 = (Pure.markedSS a l).length ∧ n0 ≤ c ∧ Kd.C (Kd.slice 5 (Kd.int .u8)) w A (Pure.markedSS a l).length (Pure.markedSS a l)) (h0 : 0 ≤ a) (ha : a + Pure.tsum l ≤ 4611686018427387904) (hl : l.length ≤ 4611686018427387904) :
    Calls Try.prog 24 #[.slice A n0 c, .int .i64 a] w fun e w' => ∃ r : Int, e = .returned (.int .i64 r) ∧ Aside0 (r = a + Pure.tsum l) ∧ St W w' L := by
  obtain ⟨k, h⟩ := (Pure.heldByteSS a l h0 ha hl).rounds
  obtain ⟨rfl, hc, hr⟩ := hr
  refine (laws_heldByteSS.calls (k := k) (h := h) (hr0 := hr) (hc0 := hc)).mono ?_
  rintro e w' ⟨rfl, hd⟩
  exact ⟨_, rfl, ⟨rfl⟩, HS.drawn hd⟩

set_option maxHeartbeats 8000000 in
set_option maxRecDepth 100000 in
theorem walk (a0 : Int) (a1 : Int) (A2 : Option Addr) (c2 : Nat) (l2 : List Int) (w : World) (hq0 : (Lit.int .i64 a0).wf = true) (hq1 : (Lit.int .i64 a1).wf = true) (hr2 : Kd.C (Kd.int .u8) w A2 l2.length l2) (hc2 : l2.length ≤ c2) (hq2 : (l2.length ≤ maxLen ∧ ∀ v0 ∈ l2, (Lit.int .u8 v0).wf = true)) :
    Calls Try.prog 6 #[.int .i64 a0, .int .i64 a1, .slice A2 l2.length c2] w fun e w' => e = .returned (.bool true) ∧ Below w.heap.size w w' := by
  have HQ0 := Aside0.mk hq0
  clear hq0
  have HQ1 := Aside0.mk hq1
  clear hq1
  have HR2 := Aside0.mk hr2
  have HC2 := Aside0.mk hc2
  have HQ2 := Aside0.mk hq2
  clear hr2 hc2 hq2
  by_cases g0 : (l2.length : Int) > 1048576
  · have g0a : decide (1048576 < (l2.length : Int)) = true := decide_eq_true g0
    have g0b : decide (1048576 < l2.length) = true := decide_eq_true (by omega)
    clear g0
    go_enter Try.func6, Try.ntmps6
    go_wp2
    go_ret
    exact ⟨rfl, by repeat (first | exact Below.refl _ _ | apply below_alloc)⟩
  have g0a : decide (1048576 < (l2.length : Int)) = false := decide_eq_false g0
  have g0b : decide (1048576 < l2.length) = false := decide_eq_false (by omega)
  have GLl2 : Aside0 (l2.length ≤ 1048576) := ⟨by omega⟩
  have HLl2 : Aside0 (l2.length ≤ 1000000000000) := ⟨by omega⟩
  clear g0
  obtain ⟨r1, r2, ⟨ks, hsp⟩, ⟨ki, him⟩, hbr1⟩ := Pure.FnExactEncode a0 a1 l2 HQ0.out HQ1.out HQ2.out GLl2.out
  have HSP := Aside0.mk hsp
  have HIM := Aside0.mk him
  clear hsp him
  have HLr1 := Aside0.mk hbr1
  have HTr1 : Aside0 (Pure.tsum r1 ≤ 1000000000000) := ⟨Nat.le_trans (Pure.tsum_le r1) hbr1⟩
  clear hbr1
  have er2 : (r2 != r2) = false := bne_self_eq_false _
  have ir2 : (r2 == r2) = true := beq_self_eq_true _
  go_enter Try.func6, Try.ntmps6
  have HS := St.nil w
  go_wp2_with (first | ((with_reducible refine gate_dst (N := 24) rfl ?_); refine goesL_ (some 24) rfl rfl Try.func22 (by kernel_rfl) rfl #[.slice A2 l2.length c2] rfl (by (try simp only [List.map_toArray, List.map_cons, List.map_nil]); first | done | rfl) ?_; refine (st_toByteS HS HR2.out HC2.out (Nat.le_trans HLl2.out (by decide))).mono ?_; rintro e w1 ⟨Ao1, co1, lo1, hi1, rfl, HN⟩; refine ⟨_, rfl, ?_⟩; clear HS; have HS := HN; clear HN) | ((with_reducible refine gate_dst (N := 25) rfl ?_); refine goesL_ (some 25) rfl rfl Try.func27 (by kernel_rfl) rfl #[.int .i64 a0, .int .i64 a1, .slice Ao1 l2.length co1] rfl (by (try simp only [List.map_toArray, List.map_cons, List.map_nil]); first | done | rfl) ?_; refine (spec_Encode.calls (h := HSP.out) (hr2 := (Kd.R_reads' (HS.get (i := 0) rfl)).2.2) (hc2 := (Kd.R_reads' (HS.get (i := 0) rfl)).2.1)).mono ?_; rintro e w2 ⟨v2_0, rfl, ho0, hb⟩; obtain ⟨Ao2_0, co2_0, eo0⟩ := Kd.S_slice ho0; subst eo0; have HN := HS.pushSeen hb (view (Kd.slice 5 (Kd.int .u8)) w1.heap.size w2.heap.size Ao2_0 r1.length co2_0 r1) (view_S ho0) rfl rfl; refine ⟨_, rfl, ?_⟩; clear HS; have HS := HN; clear HN) | ((with_reducible refine gate_dst (N := 29) rfl ?_); refine goesL_ (some 29) rfl rfl Try.func22 (by kernel_rfl) rfl #[.slice A2 l2.length c2] rfl (by (try simp only [List.map_toArray, List.map_cons, List.map_nil]); first | done | rfl) ?_; refine (st_toByteS HS HR2.out HC2.out (Nat.le_trans HLl2.out (by decide))).mono ?_; rintro e w3 ⟨Ao3, co3, lo3, hi3, rfl, HN⟩; refine ⟨_, rfl, ?_⟩; clear HS; have HS := HN; clear HN) | ((with_reducible refine gate_dst (N := 34) rfl ?_); refine goesL_ (some 34) rfl rfl Try.func28 (by kernel_rfl) rfl #[.int .i64 a0, .int .i64 a1, .slice Ao3 l2.length co3] rfl (by (try simp only [List.map_toArray, List.map_cons, List.map_nil]); first | done | rfl) ?_; refine (impl_Encode.calls (h := HIM.out) (hr2 := (Kd.R_reads' (HS.get (i := 0) rfl)).2.2) (hc2 := (Kd.R_reads' (HS.get (i := 0) rfl)).2.1)).mono ?_; rintro e w4 ⟨v4_0, rfl, ho0, hb⟩; obtain ⟨Ao4_0, co4_0, eo0⟩ := Kd.S_slice ho0; subst eo0; have HN := HS.pushRows hb ho0; refine ⟨_, rfl, ?_⟩; clear HS; have HS := HN; clear HN) | ((with_reducible refine gate_dst (N := 39) rfl ?_); refine goesL_ (some 39) rfl rfl Try.func17 (by kernel_rfl) rfl #[.slice Ao4_0 r1.length co4_0, .slice Ao2_0 r1.length co2_0] rfl (by (try simp only [List.map_toArray, List.map_cons, List.map_nil]); first | done | rfl) ?_; refine (st_eqByteSS HS (Kd.S_reads' (HS.get (i := 0) rfl)).2.2 (Kd.S_reads' (HS.get (i := 0) rfl)).2.1 (seenNow (HS.get (i := 2) rfl)).2.2 (seenNow (HS.get (i := 2) rfl)).2.1 (Nat.le_trans HLr1.out (by decide))).mono ?_; rintro e w5 ⟨rfl, HN⟩; refine ⟨_, rfl, ?_⟩; clear HS; have HS := HN; clear HN) | ((with_reducible refine gate_dst (N := 48) rfl ?_); refine goesL_ (some 48) rfl rfl Try.func22 (by kernel_rfl) rfl #[.slice A2 l2.length c2] rfl (by (try simp only [List.map_toArray, List.map_cons, List.map_nil]); first | done | rfl) ?_; refine (st_toByteS HS HR2.out HC2.out (Nat.le_trans HLl2.out (by decide))).mono ?_; rintro e w6 ⟨Ao6, co6, lo6, hi6, rfl, HN⟩; refine ⟨_, rfl, ?_⟩; clear HS; have HS := HN; clear HN) | ((with_reducible refine gate_dst (N := 49) rfl ?_); refine goesL_ (some 49) rfl rfl Try.func16 (by kernel_rfl) rfl #[.slice Ao3 l2.length co3, .slice Ao6 l2.length co6] rfl (by (try simp only [List.map_toArray, List.map_cons, List.map_nil]); first | done | rfl) ?_; refine (st_eqByteS HS (Kd.R_reads' (HS.get (i := 2) rfl)).2.2 (Kd.R_reads' (HS.get (i := 2) rfl)).2.1 (Kd.R_reads' (HS.get (i := 0) rfl)).2.2 (Kd.R_reads' (HS.get (i := 0) rfl)).2.1 (Nat.le_trans HLl2.out (by decide))).mono ?_; rintro e w7 ⟨rfl, HN⟩; refine ⟨_, rfl, ?_⟩; clear HS; have HS := HN; clear HN) | ((with_reducible refine gate_dst (N := 53) rfl ?_); refine goesL_ (some 53) rfl rfl Try.func19 (by kernel_rfl) rfl #[.slice Ao3 l2.length co3, .int .i64 1] rfl (by (try simp only [List.map_toArray, List.map_cons, List.map_nil]); first | done | rfl) ?_; refine (st_markByteS HS (i := 2) rfl (by decide) (by have := HLl2.out; omega)).mono ?_; rintro e w8 ⟨nn8, rfl, HE8, HN⟩; have HM8 : Aside0 (0 ≤ nn8 ∧ nn8 ≤ 10000000000000) := ⟨by have := HE8.out; have := HLl2.out; omega⟩; have d8 : decide (nn8 < 0) = false := decide_eq_false (by have := HM8.out; omega); refine ⟨_, rfl, ?_⟩; clear HS; have HS := HN; clear HN) | (go_at_call 17; refine (st_eqByteSS HS (Kd.S_reads' (HS.get (i := 1) rfl)).2.2 (Kd.S_reads' (HS.get (i := 1) rfl)).2.1 (seenNow (HS.get (i := 3) rfl)).2.2 (seenNow (HS.get (i := 3) rfl)).2.1 (Nat.le_trans HLr1.out (by decide))).mono ?_; rintro e w9 ⟨rfl, HN⟩; clear HS; have HS := HN; clear HN) | ((with_reducible refine gate_dst (N := 69) rfl ?_); refine goesL_ (some 69) rfl rfl Try.func18 (by kernel_rfl) rfl #[.slice Ao4_0 r1.length co4_0, .int .i64 1] rfl (by (try simp only [List.map_toArray, List.map_cons, List.map_nil]); first | done | rfl) ?_; refine (st_markByteSS HS (i := 1) rfl (by decide) (by have := HTr1.out; omega)).mono ?_; rintro e w10 ⟨nn10, rfl, HE10, HN⟩; have HM10 : Aside0 (0 ≤ nn10 ∧ nn10 ≤ 20000000000000) := ⟨by have := HE10.out; have := HTr1.out; omega⟩; have d10 : decide (nn10 < 0) = false := decide_eq_false (by have := HM10.out; omega); refine ⟨_, rfl, ?_⟩; clear HS; have HS := HN; clear HN) | ((with_reducible refine gate_dst (N := 72) rfl ?_); refine goesL_ (some 72) rfl rfl Try.func24 (by kernel_rfl) rfl #[.slice Ao4_0 r1.length co4_0, .int .i64 1] rfl (by (try simp only [List.map_toArray, List.map_cons, List.map_nil]); first | done | rfl) ?_; refine (st_heldByteSS HS (Kd.S_reads' (HS.get (i := 1) rfl)) (by decide) (by have := HTr1.out; omega) (Nat.le_trans (Nat.le_trans (Pure.tot_len r1) HLr1.out) (by decide))).mono ?_; rintro e w11 ⟨nn11, rfl, HE11, HN⟩; have HM11 : Aside0 (nn11 = nn10) := ⟨by have := HE11.out; have := HE10.out; omega⟩; have d11 : decide (nn11 < 0) = false := decide_eq_false (by have := HM11.out; have := HM10.out; omega); have e11 : (nn11 != nn10) = false := bne_eq_false_iff_eq.mpr HM11.out; have i11 : (nn11 == nn10) = true := beq_iff_eq.mpr HM11.out; refine ⟨_, rfl, ?_⟩; clear HS; have HS := HN; clear HN) | ((with_reducible refine gate_dst (N := 82) rfl ?_); refine goesL_ (some 82) rfl rfl Try.func22 (by kernel_rfl) rfl #[.slice A2 l2.length c2] rfl (by (try simp only [List.map_toArray, List.map_cons, List.map_nil]); first | done | rfl) ?_; refine (st_toByteS HS HR2.out HC2.out (Nat.le_trans HLl2.out (by decide))).mono ?_; rintro e w12 ⟨Ao12, co12, lo12, hi12, rfl, HN⟩; refine ⟨_, rfl, ?_⟩; clear HS; have HS := HN; clear HN) | ((with_reducible refine gate_dst (N := 83) rfl ?_); refine goesL_ (some 83) rfl rfl Try.func28 (by kernel_rfl) rfl #[.int .i64 a0, .int .i64 a1, .slice Ao12 l2.length co12] rfl (by (try simp only [List.map_toArray, List.map_cons, List.map_nil]); first | done | rfl) ?_; refine (impl_Encode.calls (h := HIM.out) (hr2 := (Kd.R_reads' (HS.get (i := 0) rfl)).2.2) (hc2 := (Kd.R_reads' (HS.get (i := 0) rfl)).2.1)).mono ?_; rintro e w13 ⟨v13_0, rfl, ho0, hb⟩; obtain ⟨Ao13_0, co13_0, eo0⟩ := Kd.S_slice ho0; subst eo0; have HN := HS.pushRows hb ho0; refine ⟨_, rfl, ?_⟩; clear HS; have HS := HN; clear HN) | ((with_reducible refine gate_dst (N := 88) rfl ?_); refine goesL_ (some 88) rfl rfl Try.func17 (by kernel_rfl) rfl #[.slice Ao13_0 r1.length co13_0, .slice Ao2_0 r1.length co2_0] rfl (by (try simp only [List.map_toArray, List.map_cons, List.map_nil]); first | done | rfl) ?_; refine (st_eqByteSS HS (Kd.S_reads' (HS.get (i := 0) rfl)).2.2 (Kd.S_reads' (HS.get (i := 0) rfl)).2.1 (seenNow (HS.get (i := 5) rfl)).2.2 (seenNow (HS.get (i := 5) rfl)).2.1 (Nat.le_trans HLr1.out (by decide))).mono ?_; rintro e w14 ⟨rfl, HN⟩; refine ⟨_, rfl, ?_⟩; clear HS; have HS := HN; clear HN) | ((with_reducible refine gate_dst (N := 97) rfl ?_); refine goesL_ (some 97) rfl rfl Try.func24 (by kernel_rfl) rfl #[.slice Ao4_0 r1.length co4_0, .int .i64 1] rfl (by (try simp only [List.map_toArray, List.map_cons, List.map_nil]); first | done | rfl) ?_; refine (st_heldByteSS HS (Kd.S_reads' (HS.get (i := 3) rfl)) (by decide) (by have := HTr1.out; omega) (Nat.le_trans (Nat.le_trans (Pure.tot_len r1) HLr1.out) (by decide))).mono ?_; rintro e w15 ⟨nn15, rfl, HE15, HN⟩; have HM15 : Aside0 (nn15 = nn10) := ⟨by have := HE15.out; have := HE10.out; omega⟩; have d15 : decide (nn15 < 0) = false := decide_eq_false (by have := HM15.out; have := HM10.out; omega); have e15 : (nn15 != nn10) = false := bne_eq_false_iff_eq.mpr HM15.out; have i15 : (nn15 == nn10) = true := beq_iff_eq.mpr HM15.out; refine ⟨_, rfl, ?_⟩; clear HS; have HS := HN; clear HN))
  go_ret
  exact ⟨rfl, HS.bel⟩
end Go.Proofs.Ythaoloacbbohlaa.X
