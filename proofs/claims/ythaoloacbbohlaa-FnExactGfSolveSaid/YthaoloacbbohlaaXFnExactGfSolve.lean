/- The walk of the law FnExactGfSolve: its one way to the end. -/
import Derived.Test.YthaoloacbbohlaaPFnExactGfSolvex2
import Derived.Test.YthaoloacbbohlaaPFnExactGfSolvex4
import Derived.Test.YthaoloacbbohlaaPFnExactGfSolvex5
import Derived.Test.YthaoloacbbohlaaPFnExactGfSolvex6
import Derived.Test.YthaoloacbbohlaaPureFnExactGfSolve
import Derived.Test.YthaoloacbbohlaaSt
namespace Go.Proofs.Ythaoloacbbohlaa.X
open Go.RowKit Go.Proofs.Ythaoloacbbohlaa Go.Proofs.Ythaoloacbbohlaa.PFnExactGfSolve Go.Proofs.Ythaoloacbbohlaa.St Go.Proofs.YthaoloacbbohlaaW.PrintWords Go.Proofs.YthaoloacbbohlaaW.PrintLast Go.Proofs.YthaoloacbbohlaaW.PrintMore
set_option linter.unusedVariables false
set_option linter.unusedSimpArgs false

theorem st_szByteSS {W w : World} {L : List Slot} (HS : St W w L) {A : Option Addr} {c : Nat} {l : List (List Int)} (hr : Kd.C (Kd.slice 5 (Kd.int .u8)) W A l.length l) (hc : l.length ≤ c) (hq : l.length ≤ maxLen ∧ ∀ v ∈ l, v.length ≤ maxLen) {a : Int} (h0 : 0 ≤ a) (ha : a ≤ 1048576) :
    Calls Try.prog 12 #[.slice A l.length c, .int .i64 a] w fun e w' => ∃ r : Int, e = .returned (.int .i64 r) ∧ Aside0 (r = Pure.left a (Pure.tot l)) ∧ St W w' L := by
  obtain ⟨k, h⟩ := (Pure.szByteSS l a h0 ha hq.1 hq.2).rounds
  refine (laws_szByteSS.calls (k := k) (h := h) (hr0 := Kd.C_below hr HS.bel) (hc0 := hc)).mono ?_
  rintro e w' ⟨rfl, hd⟩
  exact ⟨_, rfl, ⟨rfl⟩, HS.drawn hd⟩

theorem st_toByteSS {W w : World} {L : List Slot} (HS : St W w L) {A : Option Addr} {c : Nat} {l : List (List Int)} (hr : Kd.C (Kd.slice 5 (Kd.int .u8)) W A l.length l) (hc : l.length ≤ c) (hl : Pure.tot l ≤ 10000000000000) :
    Calls Try.prog 14 #[.slice A l.length c] w fun e w' => ∃ (A' : Option Addr) (c' lo hi : Nat), e = .returned (.slice A' l.length c') ∧ St W w' (rows (Kd.slice 5 (Kd.int .u8)) 24 W.heap.size lo hi (.slice A' l.length c') l :: L) := by
  obtain ⟨k, h⟩ := (Pure.toByteSS l hl).rounds
  refine (laws_toByteSS.calls k A c l l w (Kd.C_below hr HS.bel) hc h).mono ?_
  rintro e w' ⟨v, rfl, ho, hb⟩
  obtain ⟨A', c', rfl⟩ := Kd.S_slice ho
  exact ⟨A', c', _, _, rfl, HS.pushRows hb ho⟩

theorem st_toByteS {W w : World} {L : List Slot} (HS : St W w L) {A : Option Addr} {c : Nat} {l : List Int} (hr : Kd.C (Kd.int .u8) W A l.length l) (hc : l.length ≤ c) (hl : l.length ≤ 10000000000000) :
    Calls Try.prog 22 #[.slice A l.length c] w fun e w' => ∃ (A' : Option Addr) (c' lo hi : Nat), e = .returned (.slice A' l.length c') ∧ St W w' (row (Kd.int .u8) 5 W.heap.size lo hi (.slice A' l.length c') l :: L) := by
  obtain ⟨k, h⟩ := (Pure.toByteS l (by omega)).rounds
  refine (laws_toByteS.calls k A c l l w (Kd.C_below hr HS.bel) hc h).mono ?_
  rintro e w' ⟨v, rfl, ho, hb⟩
  obtain ⟨A', c', rfl⟩ := Kd.R_slice ho
  exact ⟨A', c', _, _, rfl, HS.pushRow hb ho⟩

theorem st_eqByteS {W w : World} {L : List Slot} (HS : St W w L) {A A1 : Option Addr} {c c1 : Nat} {l : List Int} (h0 : Kd.C (Kd.int .u8) w A l.length l) (k0 : l.length ≤ c) (h1 : Kd.C (Kd.int .u8) w A1 l.length l) (k1 : l.length ≤ c1) (hl : l.length ≤ 10000000000000) :
    Calls Try.prog 16 #[.slice A l.length c, .slice A1 l.length c1] w fun e w' => e = .returned (.bool true) ∧ St W w' L := by
  obtain ⟨k, h⟩ := (Pure.eqByteS l (by omega)).rounds
  refine (laws_eqByteS.calls k A c l A1 c1 l true w h0 k0 h1 k1 h).mono ?_
  rintro e w' ⟨rfl, hd⟩
  exact ⟨rfl, HS.drawn hd⟩

theorem st_eqByteSS {W w : World} {L : List Slot} (HS : St W w L) {A A1 : Option Addr} {c c1 : Nat} {l : List (List Int)} (h0 : Kd.C (Kd.slice 5 (Kd.int .u8)) w A l.length l) (k0 : l.length ≤ c) (h1 : Kd.C (Kd.slice 5 (Kd.int .u8)) w A1 l.length l) (k1 : l.length ≤ c1) (hl : Pure.tot l ≤ 10000000000000) :
    Calls Try.prog 17 #[.slice A l.length c, .slice A1 l.length c1] w fun e w' => e = .returned (.bool true) ∧ St W w' L := by
  obtain ⟨k, h⟩ := (Pure.eqByteSS l hl).rounds
  refine (laws_eqByteSS.calls k A c l A1 c1 l true w h0 k0 h1 k1 h).mono ?_
  rintro e w' ⟨rfl, hd⟩
  exact ⟨rfl, HS.drawn hd⟩

set_option maxHeartbeats 4000000 in
set_option maxRecDepth 100000 in
theorem markSS_walk (W w : World) (lo hi : Nat) (A : Option Addr) (c : Nat) (l : List (List Int)) (a : Int) (h0 : 0 ≤ a) (ha : a + Pure.tsum l ≤ 4611686018427387904) (hB : Below W.heap.size W w)
    (hS : Kd.S (Kd.slice 5 (Kd.int .u8)) 24 w W.heap.size (fun k => (lo ≤ k ∧ k < hi) ∧ True) (.slice A l.length c) l) :
    Calls Try.prog 18 #[.slice A l.length c, .int .i64 a] w fun e w' => e = .returned (.int .i64 (a + Pure.tsum l)) ∧ Kd.S (Kd.slice 5 (Kd.int .u8)) 24 w' W.heap.size (fun k => (lo ≤ k ∧ k < hi) ∧ True) (.slice A l.length c) (Pure.markedSS a l) ∧ Below W.heap.size W w' ∧ Kept w w' (fun k => lo ≤ k ∧ k < hi) := by
  have HS := Aside0.mk hS
  have HB := Aside0.mk hB
  have HA := Aside0.mk ha
  have H0 := Aside0.mk h0
  have HM : Aside0 (l.length ≤ 9223372036854775807) := ⟨(Kd.S_reads' hS).2.2.2.1⟩
  clear hS hB ha h0
  go_enter Try.func18, Try.ntmps18
  go_wp2
  go_loopw [1, 5] (fun v i wr => ∃ j : Nat, i = .int .i64 j ∧ (∃ r : Int, v = .int .i64 r ∧ Aside0 (r = a + Pure.tsum (l.take j))) ∧ Aside0 (j ≤ l.length) ∧ Aside0 (Kd.S (Kd.slice 5 (Kd.int .u8)) 24 wr W.heap.size (fun k => (lo ≤ k ∧ k < hi) ∧ True) (.slice A l.length c) (Pure.markedSS a (l.take j) ++ l.drop j)) ∧ Aside0 (Below W.heap.size W wr) ∧ Aside0 (Kept w wr (fun k => lo ≤ k ∧ k < hi))) (fun _ i _ => l.length - (intOf i).toNat)
  case atStart => exact ⟨0, rfl, ⟨a, rfl, ⟨by simp [Pure.tsum]⟩⟩, ⟨Nat.zero_le _⟩, ⟨HS.out⟩, ⟨HB.out⟩, ⟨Kept.refl _ _⟩⟩
  case round =>
    clear HS HB
    obtain ⟨j, rfl, ⟨r, rfl, HR⟩, HJ, HS, HB, HK⟩ := hrel
    by_cases hlt : j < l.length
    · have c0 : decide (j < l.length) = true := decide_eq_true hlt
      have c1 : decide ((j : Int) < (l.length : Int)) = true := decide_eq_true (by omega)
      have p1 : 0 ≤ (j : Int) := Int.natCast_nonneg j
      have q1 : (j : Int) < (l.length : Int) := by omega
      have hlen : (Pure.markedSS a (l.take j) ++ l.drop j).length = l.length := by rw [List.length_append, Pure.markedSS_length, List.length_take, List.length_drop]; omega
      obtain ⟨g, cap, e, hg1, hg2, cells, hg3⟩ := Kd.S_form HS.out (by omega)
      injection e with e1 e2 e3
      subst e1
      obtain ⟨oki, cc, hcl, hM, hcc, hoki, hH⟩ := Kd.S_lend HS.out ([] : List Int) (j : Int) p1 q1
      obtain ⟨v, rfl, hR⟩ := hM
      obtain ⟨A0, c2, rfl⟩ := Kd.R_slice hR
      have hx := hcc 0 _ rfl
      rw [Int.toNat_natCast] at hx hR hH
      have e4 : j * (Kd.slice 5 (Kd.int .u8)).sz + 0 = j := Nat.mul_one j
      rw [e4, Pure.markedSS_at a l j hlt] at hx
      rw [Pure.markedSS_at a l j hlt] at hR hH
      have HX := Aside0.mk hR
      have HH := Aside0.mk hH
      have HO := Aside0.mk hoki
      have HL := Aside0.mk hlt
      have hts := Pure.tsum_snoc l j hlt
      have htk := Pure.tsum_take l (j + 1)
      have HT := Aside0.mk hts
      have HU := Aside0.mk htk
      obtain ⟨k, hmk⟩ := (Pure.markByteS (l.getD j []) r (by have := HR.out; have := H0.out; omega) (by have := HR.out; have := HA.out; omega)).rounds
      have HMK := Aside0.mk hmk
      have hst := Pure.markedSS_step a l j hlt
      have HST := Aside0.mk hst
      clear hlt hlen hg1 hg2 hg3 hcl hR hH hoki hts htk hmk hst hcc e2 e3
      generalize l.getD j [] = x at hx HX HT HMK HST HH
      go_wp2_with fail
      refine (laws_markByteS.calls k oki (.slice A0 x.length c2) x r _ _ W wr HB.out HX.out HMK.out).mono ?_
      rintro e w' ⟨rfl, ho, hb, hk⟩
      have b2 : (j : Int) ≤ 9223372036854775806 := by have := HL.out; have := HM.out; omega
      have HN1 := Aside0.mk (Kd.H_back (Kd.H_kept HH.out hk (fun _ _ hn hs => hn hs)) (x' := Pure.marked r x.length) (okp := oki) ⟨_, rfl, Kd.R_reok rfl ho (fun k hk => HX.out.1 k hk)⟩ (fun _ h => h))
      have HN2 := Aside0.mk hb
      have HN3 := Aside0.mk (HK.out.then_ hk (fun k hs => .inl (HO.out k hs).1.1))
      clear HS HB HK hk hb ho HH hx
      go_wp2
      go_roundw
      case rel => exact ⟨j + 1, by go_num, ⟨_, rfl, ⟨by have := HR.out; have := HT.out; omega⟩⟩, ⟨HL.out⟩, ⟨by have h := HN1.out; rw [Int.toNat_natCast, HR.out, HST.out] at h; exact h⟩, ⟨HN2.out⟩, ⟨HN3.out⟩⟩
      case measure => have := HL.out; simp [intOf]; omega
    · have c0 : decide (j < l.length) = false := decide_eq_false hlt
      have c1 : decide ((j : Int) < (l.length : Int)) = false := decide_eq_false (by omega)
      obtain rfl : j = l.length := by have := HJ.out; omega
      clear hlt
      go_wp2
      go_ret
      exact ⟨by have h := HR.out; rw [List.take_length] at h; first | (rw [h]; done) | (rw [h]; rfl), by have h := HS.out; rw [List.take_length, List.drop_length, List.append_nil] at h; exact h, HB.out, HK.out⟩
theorem st_markByteSS {W w : World} {L : List Slot} (HS : St W w L) {i lo hi : Nat} {A : Option Addr} {c : Nat} {l : List (List Int)} (hi' : L[i]? = some (rows (Kd.slice 5 (Kd.int .u8)) 24 W.heap.size lo hi (.slice A l.length c) l)) {a : Int} (h0 : 0 ≤ a) (ha : a + Pure.tsum l ≤ 4611686018427387904) :
    Calls Try.prog 18 #[.slice A l.length c, .int .i64 a] w fun e w' => ∃ r : Int, e = .returned (.int .i64 r) ∧ Aside0 (r = a + Pure.tsum l) ∧ St W w' (L.set i (rows (Kd.slice 5 (Kd.int .u8)) 24 W.heap.size lo hi (.slice A l.length c) (Pure.markedSS a l))) := by
  refine (markSS_walk W w lo hi A c l a h0 ha HS.bel (HS.get hi')).mono ?_
  rintro e w' ⟨rfl, ho, hb, hk⟩
  exact ⟨_, rfl, ⟨rfl⟩, HS.write hi' hk hb (rows (Kd.slice 5 (Kd.int .u8)) 24 W.heap.size lo hi (.slice A l.length c) (Pure.markedSS a l)) ho rfl rfl⟩

theorem st_markByteS {W w : World} {L : List Slot} (HS : St W w L) {i lo hi : Nat} {v : Value} {l : List Int} (hi' : L[i]? = some (row (Kd.int .u8) 5 W.heap.size lo hi v l)) {a : Int} (h0 : 0 ≤ a) (ha : a + l.length ≤ 4611686018427387904) :
    Calls Try.prog 19 #[v, .int .i64 a] w fun e w' => ∃ r : Int, e = .returned (.int .i64 r) ∧ Aside0 (r = a + l.length) ∧ St W w' (L.set i (row (Kd.int .u8) 5 W.heap.size lo hi v (Pure.marked a l.length))) := by
  obtain ⟨k, h⟩ := (Pure.markByteS l a h0 ha).rounds
  refine (laws_markByteS.calls k (fun k => lo ≤ k ∧ k < hi) v l a _ _ W w HS.bel (Kd.R_mono (HS.get hi') (fun _ h => h.1)) h).mono ?_
  rintro e w' ⟨rfl, ho, hb, hk⟩
  exact ⟨_, rfl, ⟨rfl⟩, HS.writeRow rfl hi' hk hb ho⟩

theorem st_heldByteS {W w : World} {L : List Slot} (HS : St W w L) {A : Option Addr} {n0 c n : Nat} {a : Int} (hr : n0 = (Pure.marked a n).length ∧ n0 ≤ c ∧ Kd.C (Kd.int .u8) w A (Pure.marked a n).length (Pure.marked a n)) (h0 : 0 ≤ a) (ha : a + n ≤ 4611686018427387904) :
    Calls Try.prog 20 #[.slice A n0 c, .int .i64 a] w fun e w' => ∃ r : Int, e = .returned (.int .i64 r) ∧ Aside0 (r = a + n) ∧ St W w' L := by
  obtain ⟨k, h⟩ := (Pure.heldByteS a n h0 ha).rounds
  obtain ⟨rfl, hc, hr⟩ := hr
  refine (laws_heldByteS.calls (k := k) (h := h) (hr0 := hr) (hc0 := hc)).mono ?_
  rintro e w' ⟨rfl, hd⟩
  exact ⟨_, rfl, ⟨rfl⟩, HS.drawn hd⟩

set_option maxHeartbeats 8000000 in
set_option maxRecDepth 100000 in
theorem walk (A0 : Option Addr) (c0 : Nat) (l0 : List (List Int)) (A1 : Option Addr) (c1 : Nat) (l1 : List Int) (w : World) (hr0 : Kd.C (Kd.slice 5 (Kd.int .u8)) w A0 l0.length l0) (hc0 : l0.length ≤ c0) (hq0 : (l0.length ≤ maxLen ∧ ∀ v0 ∈ l0, (v0.length ≤ maxLen ∧ ∀ v1 ∈ v0, (Lit.int .u8 v1).wf = true))) (hr1 : Kd.C (Kd.int .u8) w A1 l1.length l1) (hc1 : l1.length ≤ c1) (hq1 : (l1.length ≤ maxLen ∧ ∀ v0 ∈ l1, (Lit.int .u8 v0).wf = true)) :
    Calls Try.prog 5 #[.slice A0 l0.length c0, .slice A1 l1.length c1] w fun e w' => e = .returned (.bool true) ∧ Below w.heap.size w w' := by
  have HR0 := Aside0.mk hr0
  have HC0 := Aside0.mk hc0
  have HQ0 := Aside0.mk hq0
  clear hr0 hc0 hq0
  have HR1 := Aside0.mk hr1
  have HC1 := Aside0.mk hc1
  have HQ1 := Aside0.mk hq1
  clear hr1 hc1 hq1
  by_cases g0 : (l1.length : Int) > 1048576
  · have g0a : decide (1048576 < (l1.length : Int)) = true := decide_eq_true g0
    have g0b : decide (1048576 < l1.length) = true := decide_eq_true (by omega)
    clear g0
    go_enter Try.func5, Try.ntmps5
    go_wp2
    go_ret
    exact ⟨rfl, by repeat (first | exact Below.refl _ _ | apply below_alloc)⟩
  have g0a : decide (1048576 < (l1.length : Int)) = false := decide_eq_false g0
  have g0b : decide (1048576 < l1.length) = false := decide_eq_false (by omega)
  have GLl1 : Aside0 (l1.length ≤ 1048576) := ⟨by omega⟩
  have HLl1 : Aside0 (l1.length ≤ 1000000000000) := ⟨by omega⟩
  clear g0
  obtain ⟨SV0, ev0⟩ : ∃ z : Int, z = Pure.left 1048576 (Pure.tot l0) := ⟨_, rfl⟩
  have EV0 := Aside0.mk ev0
  clear ev0
  by_cases g1 : SV0 < 0
  · have GS0 := Aside0.mk g1
    clear g1
    go_enter Try.func5, Try.ntmps5
    have HS := St.nil w
    go_wp2_with (first | ((with_reducible refine gate_dst (N := 22) rfl ?_); refine goesL_ (some 22) rfl rfl Try.func12 (by kernel_rfl) rfl #[.slice A0 l0.length c0, .int .i64 1048576] rfl (by (try simp only [List.map_toArray, List.map_cons, List.map_nil]); first | done | rfl) ?_; refine (st_szByteSS HS HR0.out HC0.out ⟨HQ0.out.1, fun v hv => (HQ0.out.2 v hv).1⟩ (by decide) (by decide)).mono ?_; rintro e w1 ⟨nn1, rfl, HE1, HN⟩; have HV1 : Aside0 (nn1 = SV0) := ⟨by rw [HE1.out]; exact EV0.out.symm⟩; have d1 : decide (nn1 < 0) = true := decide_eq_true (by have := HV1.out; have := GS0.out; omega); refine ⟨_, rfl, ?_⟩; clear HS; have HS := HN; clear HN))
    go_ret
    exact ⟨rfl, HS.bel⟩
  have GS0 := Aside0.mk g1
  clear g1
  have GT0 : Aside0 (SV0 = 1048576 - ((Pure.tot l0 : Nat) : Int)) := ⟨by have h := EV0.out; have := GS0.out; rw [h]; exact Pure.left_ok (by rw [← h]; exact this)⟩
  have GU0 : Aside0 (SV0 ≤ 1048576) := ⟨by have := GT0.out; omega⟩
  have GLl0 : Aside0 (Pure.tot l0 ≤ 1048576) := ⟨by have := GT0.out; have := GS0.out; omega⟩
  have HLl0 : Aside0 (Pure.tot l0 ≤ 1000000000000) := ⟨by have := GLl0.out; omega⟩
  have HTl0 : Aside0 (Pure.tsum l0 ≤ 1000000000000) := ⟨Nat.le_trans (Pure.tsum_le l0) HLl0.out⟩
  obtain ⟨r1, r2, ⟨ks, hsp⟩, ⟨ki, him⟩, hbr1⟩ := Pure.FnExactGfSolve l0 l1 HQ0.out HQ1.out GLl1.out GLl0.out
  have HSP := Aside0.mk hsp
  have HIM := Aside0.mk him
  clear hsp him
  have HLr1 := Aside0.mk hbr1
  clear hbr1
  have er2 : (r2 != r2) = false := bne_self_eq_false _
  have ir2 : (r2 == r2) = true := beq_self_eq_true _
  go_enter Try.func5, Try.ntmps5
  have HS := St.nil w
  go_wp2_with (first | ((with_reducible refine gate_dst (N := 22) rfl ?_); refine goesL_ (some 22) rfl rfl Try.func12 (by kernel_rfl) rfl #[.slice A0 l0.length c0, .int .i64 1048576] rfl (by (try simp only [List.map_toArray, List.map_cons, List.map_nil]); first | done | rfl) ?_; refine (st_szByteSS HS HR0.out HC0.out ⟨HQ0.out.1, fun v hv => (HQ0.out.2 v hv).1⟩ (by decide) (by decide)).mono ?_; rintro e w1 ⟨nn1, rfl, HE1, HN⟩; have HV1 : Aside0 (nn1 = SV0) := ⟨by rw [HE1.out]; exact EV0.out.symm⟩; have HB1 : Aside0 (0 ≤ nn1 ∧ nn1 ≤ 1048576) := ⟨by have := HV1.out; have := GS0.out; have := GU0.out; omega⟩; have d1 : decide (nn1 < 0) = false := decide_eq_false (by have := HB1.out; omega); refine ⟨_, rfl, ?_⟩; clear HS; have HS := HN; clear HN) | ((with_reducible refine gate_dst (N := 27) rfl ?_); refine goesL_ (some 27) rfl rfl Try.func14 (by kernel_rfl) rfl #[.slice A0 l0.length c0] rfl (by (try simp only [List.map_toArray, List.map_cons, List.map_nil]); first | done | rfl) ?_; refine (st_toByteSS HS HR0.out HC0.out (Nat.le_trans HLl0.out (by decide))).mono ?_; rintro e w2 ⟨Ao2, co2, lo2, hi2, rfl, HN⟩; refine ⟨_, rfl, ?_⟩; clear HS; have HS := HN; clear HN) | ((with_reducible refine gate_dst (N := 29) rfl ?_); refine goesL_ (some 29) rfl rfl Try.func22 (by kernel_rfl) rfl #[.slice A1 l1.length c1] rfl (by (try simp only [List.map_toArray, List.map_cons, List.map_nil]); first | done | rfl) ?_; refine (st_toByteS HS HR1.out HC1.out (Nat.le_trans HLl1.out (by decide))).mono ?_; rintro e w3 ⟨Ao3, co3, lo3, hi3, rfl, HN⟩; refine ⟨_, rfl, ?_⟩; clear HS; have HS := HN; clear HN) | ((with_reducible refine gate_dst (N := 30) rfl ?_); refine goesL_ (some 30) rfl rfl Try.func25 (by kernel_rfl) rfl #[.slice Ao2 l0.length co2, .slice Ao3 l1.length co3] rfl (by (try simp only [List.map_toArray, List.map_cons, List.map_nil]); first | done | rfl) ?_; refine (spec_GfSolve.calls (h := HSP.out) (hr0 := (Kd.S_reads' (HS.get (i := 1) rfl)).2.2) (hc0 := (Kd.S_reads' (HS.get (i := 1) rfl)).2.1) (hr1 := (Kd.R_reads' (HS.get (i := 0) rfl)).2.2) (hc1 := (Kd.R_reads' (HS.get (i := 0) rfl)).2.1)).mono ?_; rintro e w4 ⟨v4_0, rfl, ho0, hb⟩; obtain ⟨Ao4_0, co4_0, eo0⟩ := Kd.R_slice ho0; subst eo0; have HN := HS.pushSeen hb (view (Kd.int .u8) w3.heap.size w4.heap.size Ao4_0 r1.length co4_0 r1) (view_R ho0) rfl rfl; refine ⟨_, rfl, ?_⟩; clear HS; have HS := HN; clear HN) | ((with_reducible refine gate_dst (N := 34) rfl ?_); refine goesL_ (some 34) rfl rfl Try.func14 (by kernel_rfl) rfl #[.slice A0 l0.length c0] rfl (by (try simp only [List.map_toArray, List.map_cons, List.map_nil]); first | done | rfl) ?_; refine (st_toByteSS HS HR0.out HC0.out (Nat.le_trans HLl0.out (by decide))).mono ?_; rintro e w5 ⟨Ao5, co5, lo5, hi5, rfl, HN⟩; refine ⟨_, rfl, ?_⟩; clear HS; have HS := HN; clear HN) | ((with_reducible refine gate_dst (N := 36) rfl ?_); refine goesL_ (some 36) rfl rfl Try.func22 (by kernel_rfl) rfl #[.slice A1 l1.length c1] rfl (by (try simp only [List.map_toArray, List.map_cons, List.map_nil]); first | done | rfl) ?_; refine (st_toByteS HS HR1.out HC1.out (Nat.le_trans HLl1.out (by decide))).mono ?_; rintro e w6 ⟨Ao6, co6, lo6, hi6, rfl, HN⟩; refine ⟨_, rfl, ?_⟩; clear HS; have HS := HN; clear HN) | ((with_reducible refine gate_dst (N := 40) rfl ?_); refine goesL_ (some 40) rfl rfl Try.func26 (by kernel_rfl) rfl #[.slice Ao5 l0.length co5, .slice Ao6 l1.length co6] rfl (by (try simp only [List.map_toArray, List.map_cons, List.map_nil]); first | done | rfl) ?_; refine (impl_GfSolve.calls (h := HIM.out) (hr0 := (Kd.S_reads' (HS.get (i := 1) rfl)).2.2) (hc0 := (Kd.S_reads' (HS.get (i := 1) rfl)).2.1) (hr1 := (Kd.R_reads' (HS.get (i := 0) rfl)).2.2) (hc1 := (Kd.R_reads' (HS.get (i := 0) rfl)).2.1)).mono ?_; rintro e w7 ⟨v7_0, rfl, ho0, hb⟩; obtain ⟨Ao7_0, co7_0, eo0⟩ := Kd.R_slice ho0; subst eo0; have HN := HS.pushRow hb ho0; refine ⟨_, rfl, ?_⟩; clear HS; have HS := HN; clear HN) | ((with_reducible refine gate_dst (N := 45) rfl ?_); refine goesL_ (some 45) rfl rfl Try.func16 (by kernel_rfl) rfl #[.slice Ao7_0 r1.length co7_0, .slice Ao4_0 r1.length co4_0] rfl (by (try simp only [List.map_toArray, List.map_cons, List.map_nil]); first | done | rfl) ?_; refine (st_eqByteS HS (Kd.R_reads' (HS.get (i := 0) rfl)).2.2 (Kd.R_reads' (HS.get (i := 0) rfl)).2.1 (seenNow (HS.get (i := 3) rfl)).2.2 (seenNow (HS.get (i := 3) rfl)).2.1 (Nat.le_trans HLr1.out (by decide))).mono ?_; rintro e w8 ⟨rfl, HN⟩; refine ⟨_, rfl, ?_⟩; clear HS; have HS := HN; clear HN) | ((with_reducible refine gate_dst (N := 54) rfl ?_); refine goesL_ (some 54) rfl rfl Try.func14 (by kernel_rfl) rfl #[.slice A0 l0.length c0] rfl (by (try simp only [List.map_toArray, List.map_cons, List.map_nil]); first | done | rfl) ?_; refine (st_toByteSS HS HR0.out HC0.out (Nat.le_trans HLl0.out (by decide))).mono ?_; rintro e w9 ⟨Ao9, co9, lo9, hi9, rfl, HN⟩; refine ⟨_, rfl, ?_⟩; clear HS; have HS := HN; clear HN) | ((with_reducible refine gate_dst (N := 55) rfl ?_); refine goesL_ (some 55) rfl rfl Try.func17 (by kernel_rfl) rfl #[.slice Ao5 l0.length co5, .slice Ao9 l0.length co9] rfl (by (try simp only [List.map_toArray, List.map_cons, List.map_nil]); first | done | rfl) ?_; refine (st_eqByteSS HS (Kd.S_reads' (HS.get (i := 3) rfl)).2.2 (Kd.S_reads' (HS.get (i := 3) rfl)).2.1 (Kd.S_reads' (HS.get (i := 0) rfl)).2.2 (Kd.S_reads' (HS.get (i := 0) rfl)).2.1 (Nat.le_trans HLl0.out (by decide))).mono ?_; rintro e w10 ⟨rfl, HN⟩; refine ⟨_, rfl, ?_⟩; clear HS; have HS := HN; clear HN) | ((with_reducible refine gate_dst (N := 59) rfl ?_); refine goesL_ (some 59) rfl rfl Try.func22 (by kernel_rfl) rfl #[.slice A1 l1.length c1] rfl (by (try simp only [List.map_toArray, List.map_cons, List.map_nil]); first | done | rfl) ?_; refine (st_toByteS HS HR1.out HC1.out (Nat.le_trans HLl1.out (by decide))).mono ?_; rintro e w11 ⟨Ao11, co11, lo11, hi11, rfl, HN⟩; refine ⟨_, rfl, ?_⟩; clear HS; have HS := HN; clear HN) | ((with_reducible refine gate_dst (N := 60) rfl ?_); refine goesL_ (some 60) rfl rfl Try.func16 (by kernel_rfl) rfl #[.slice Ao6 l1.length co6, .slice Ao11 l1.length co11] rfl (by (try simp only [List.map_toArray, List.map_cons, List.map_nil]); first | done | rfl) ?_; refine (st_eqByteS HS (Kd.R_reads' (HS.get (i := 3) rfl)).2.2 (Kd.R_reads' (HS.get (i := 3) rfl)).2.1 (Kd.R_reads' (HS.get (i := 0) rfl)).2.2 (Kd.R_reads' (HS.get (i := 0) rfl)).2.1 (Nat.le_trans HLl1.out (by decide))).mono ?_; rintro e w12 ⟨rfl, HN⟩; refine ⟨_, rfl, ?_⟩; clear HS; have HS := HN; clear HN) | ((with_reducible refine gate_dst (N := 64) rfl ?_); refine goesL_ (some 64) rfl rfl Try.func18 (by kernel_rfl) rfl #[.slice Ao5 l0.length co5, .int .i64 1] rfl (by (try simp only [List.map_toArray, List.map_cons, List.map_nil]); first | done | rfl) ?_; refine (st_markByteSS HS (i := 4) rfl (by decide) (by have := HTl0.out; omega)).mono ?_; rintro e w13 ⟨nn13, rfl, HE13, HN⟩; have HM13 : Aside0 (0 ≤ nn13 ∧ nn13 ≤ 10000000000000) := ⟨by have := HE13.out; have := HTl0.out; omega⟩; have d13 : decide (nn13 < 0) = false := decide_eq_false (by have := HM13.out; omega); refine ⟨_, rfl, ?_⟩; clear HS; have HS := HN; clear HN) | ((with_reducible refine gate_dst (N := 67) rfl ?_); refine goesL_ (some 67) rfl rfl Try.func19 (by kernel_rfl) rfl #[.slice Ao6 l1.length co6, .int .i64 nn13] rfl (by (try simp only [List.map_toArray, List.map_cons, List.map_nil]); first | done | rfl) ?_; refine (st_markByteS HS (i := 3) rfl (by have := HM13.out; omega) (by have := HM13.out; have := HLl1.out; omega)).mono ?_; rintro e w14 ⟨nn14, rfl, HE14, HN⟩; have HM14 : Aside0 (0 ≤ nn14 ∧ nn14 ≤ 20000000000000) := ⟨by have := HE14.out; have := HM13.out; have := HLl1.out; omega⟩; have d14 : decide (nn14 < 0) = false := decide_eq_false (by have := HM14.out; omega); refine ⟨_, rfl, ?_⟩; clear HS; have HS := HN; clear HN) | (go_at_call 16; refine (st_eqByteS HS (Kd.R_reads' (HS.get (i := 2) rfl)).2.2 (Kd.R_reads' (HS.get (i := 2) rfl)).2.1 (seenNow (HS.get (i := 5) rfl)).2.2 (seenNow (HS.get (i := 5) rfl)).2.1 (Nat.le_trans HLr1.out (by decide))).mono ?_; rintro e w15 ⟨rfl, HN⟩; clear HS; have HS := HN; clear HN) | ((with_reducible refine gate_dst (N := 83) rfl ?_); refine goesL_ (some 83) rfl rfl Try.func19 (by kernel_rfl) rfl #[.slice Ao7_0 r1.length co7_0, .int .i64 1] rfl (by (try simp only [List.map_toArray, List.map_cons, List.map_nil]); first | done | rfl) ?_; refine (st_markByteS HS (i := 2) rfl (by decide) (by have := HLr1.out; omega)).mono ?_; rintro e w16 ⟨nn16, rfl, HE16, HN⟩; have HM16 : Aside0 (0 ≤ nn16 ∧ nn16 ≤ 30000000000000) := ⟨by have := HE16.out; have := HLr1.out; omega⟩; have d16 : decide (nn16 < 0) = false := decide_eq_false (by have := HM16.out; omega); refine ⟨_, rfl, ?_⟩; clear HS; have HS := HN; clear HN) | ((with_reducible refine gate_dst (N := 86) rfl ?_); refine goesL_ (some 86) rfl rfl Try.func20 (by kernel_rfl) rfl #[.slice Ao7_0 r1.length co7_0, .int .i64 1] rfl (by (try simp only [List.map_toArray, List.map_cons, List.map_nil]); first | done | rfl) ?_; refine (st_heldByteS HS (Kd.R_reads' (HS.get (i := 2) rfl)) (by decide) (by have := HLr1.out; omega)).mono ?_; rintro e w17 ⟨nn17, rfl, HE17, HN⟩; have HM17 : Aside0 (nn17 = nn16) := ⟨by have := HE17.out; have := HE16.out; omega⟩; have d17 : decide (nn17 < 0) = false := decide_eq_false (by have := HM17.out; have := HM16.out; omega); have e17 : (nn17 != nn16) = false := bne_eq_false_iff_eq.mpr HM17.out; have i17 : (nn17 == nn16) = true := beq_iff_eq.mpr HM17.out; refine ⟨_, rfl, ?_⟩; clear HS; have HS := HN; clear HN) | ((with_reducible refine gate_dst (N := 94) rfl ?_); refine goesL_ (some 94) rfl rfl Try.func14 (by kernel_rfl) rfl #[.slice A0 l0.length c0] rfl (by (try simp only [List.map_toArray, List.map_cons, List.map_nil]); first | done | rfl) ?_; refine (st_toByteSS HS HR0.out HC0.out (Nat.le_trans HLl0.out (by decide))).mono ?_; rintro e w18 ⟨Ao18, co18, lo18, hi18, rfl, HN⟩; refine ⟨_, rfl, ?_⟩; clear HS; have HS := HN; clear HN) | ((with_reducible refine gate_dst (N := 96) rfl ?_); refine goesL_ (some 96) rfl rfl Try.func22 (by kernel_rfl) rfl #[.slice A1 l1.length c1] rfl (by (try simp only [List.map_toArray, List.map_cons, List.map_nil]); first | done | rfl) ?_; refine (st_toByteS HS HR1.out HC1.out (Nat.le_trans HLl1.out (by decide))).mono ?_; rintro e w19 ⟨Ao19, co19, lo19, hi19, rfl, HN⟩; refine ⟨_, rfl, ?_⟩; clear HS; have HS := HN; clear HN) | ((with_reducible refine gate_dst (N := 97) rfl ?_); refine goesL_ (some 97) rfl rfl Try.func26 (by kernel_rfl) rfl #[.slice Ao18 l0.length co18, .slice Ao19 l1.length co19] rfl (by (try simp only [List.map_toArray, List.map_cons, List.map_nil]); first | done | rfl) ?_; refine (impl_GfSolve.calls (h := HIM.out) (hr0 := (Kd.S_reads' (HS.get (i := 1) rfl)).2.2) (hc0 := (Kd.S_reads' (HS.get (i := 1) rfl)).2.1) (hr1 := (Kd.R_reads' (HS.get (i := 0) rfl)).2.2) (hc1 := (Kd.R_reads' (HS.get (i := 0) rfl)).2.1)).mono ?_; rintro e w20 ⟨v20_0, rfl, ho0, hb⟩; obtain ⟨Ao20_0, co20_0, eo0⟩ := Kd.R_slice ho0; subst eo0; have HN := HS.pushRow hb ho0; refine ⟨_, rfl, ?_⟩; clear HS; have HS := HN; clear HN) | ((with_reducible refine gate_dst (N := 102) rfl ?_); refine goesL_ (some 102) rfl rfl Try.func16 (by kernel_rfl) rfl #[.slice Ao20_0 r1.length co20_0, .slice Ao4_0 r1.length co4_0] rfl (by (try simp only [List.map_toArray, List.map_cons, List.map_nil]); first | done | rfl) ?_; refine (st_eqByteS HS (Kd.R_reads' (HS.get (i := 0) rfl)).2.2 (Kd.R_reads' (HS.get (i := 0) rfl)).2.1 (seenNow (HS.get (i := 8) rfl)).2.2 (seenNow (HS.get (i := 8) rfl)).2.1 (Nat.le_trans HLr1.out (by decide))).mono ?_; rintro e w21 ⟨rfl, HN⟩; refine ⟨_, rfl, ?_⟩; clear HS; have HS := HN; clear HN) | ((with_reducible refine gate_dst (N := 111) rfl ?_); refine goesL_ (some 111) rfl rfl Try.func20 (by kernel_rfl) rfl #[.slice Ao7_0 r1.length co7_0, .int .i64 1] rfl (by (try simp only [List.map_toArray, List.map_cons, List.map_nil]); first | done | rfl) ?_; refine (st_heldByteS HS (Kd.R_reads' (HS.get (i := 5) rfl)) (by decide) (by have := HLr1.out; omega)).mono ?_; rintro e w22 ⟨nn22, rfl, HE22, HN⟩; have HM22 : Aside0 (nn22 = nn16) := ⟨by have := HE22.out; have := HE16.out; omega⟩; have d22 : decide (nn22 < 0) = false := decide_eq_false (by have := HM22.out; have := HM16.out; omega); have e22 : (nn22 != nn16) = false := bne_eq_false_iff_eq.mpr HM22.out; have i22 : (nn22 == nn16) = true := beq_iff_eq.mpr HM22.out; refine ⟨_, rfl, ?_⟩; clear HS; have HS := HN; clear HN))
  go_ret
  exact ⟨rfl, HS.bel⟩
end Go.Proofs.Ythaoloacbbohlaa.X
