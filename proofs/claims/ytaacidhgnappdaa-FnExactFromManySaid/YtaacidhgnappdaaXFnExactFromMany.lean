/- The walk of the law FnExactFromMany: its one way to the end. -/
import Derived.Test.YtaacidhgnappdaaPFnExactFromManyx6
import Derived.Test.YtaacidhgnappdaaPFnExactFromManyx12
import Derived.Test.YtaacidhgnappdaaPFnExactFromManyx13
import Derived.Test.YtaacidhgnappdaaPureFnExactFromMany
import Derived.Test.YtaacidhgnappdaaSt
namespace Go.Proofs.Ytaacidhgnappdaa.X
open Go.RowKit Go.Proofs.Ytaacidhgnappdaa Go.Proofs.Ytaacidhgnappdaa.PFnExactFromMany Go.Proofs.Ytaacidhgnappdaa.St Go.Proofs.YtaacidhgnappdaaW.PrintWords Go.Proofs.YtaacidhgnappdaaW.PrintLast Go.Proofs.YtaacidhgnappdaaW.PrintMore
set_option linter.unusedVariables false
set_option linter.unusedSimpArgs false

theorem st_szByteSS {W w : World} {L : List Slot} (HS : St W w L) {A : Option Addr} {c : Nat} {l : List (List Int)} (hr : Kd.C (Kd.slice 5 (Kd.int .u8)) W A l.length l) (hc : l.length ≤ c) (hq : l.length ≤ maxLen ∧ ∀ v ∈ l, v.length ≤ maxLen) {a : Int} (h0 : 0 ≤ a) (ha : a ≤ 1048576) :
    Calls Try.prog 30 #[.slice A l.length c, .int .i64 a] w fun e w' => ∃ r : Int, e = .returned (.int .i64 r) ∧ Aside0 (r = Pure.left a (Pure.tot l)) ∧ St W w' L := by
  obtain ⟨k, h⟩ := (Pure.szByteSS l a h0 ha hq.1 hq.2).rounds
  refine (laws_szByteSS.calls (k := k) (h := h) (hr0 := Kd.C_below hr HS.bel) (hc0 := hc)).mono ?_
  rintro e w' ⟨rfl, hd⟩
  exact ⟨_, rfl, ⟨rfl⟩, HS.drawn hd⟩

theorem st_toIntS {W w : World} {L : List Slot} (HS : St W w L) {A : Option Addr} {c : Nat} {l : List Int} (hr : Kd.C (Kd.int .i64) W A l.length l) (hc : l.length ≤ c) (hl : l.length ≤ 10000000000000) :
    Calls Try.prog 16 #[.slice A l.length c] w fun e w' => ∃ (A' : Option Addr) (c' lo hi : Nat), e = .returned (.slice A' l.length c') ∧ St W w' (row (Kd.int .i64) 3 W.heap.size lo hi (.slice A' l.length c') l :: L) := by
  obtain ⟨k, h⟩ := (Pure.toIntS l (by omega)).rounds
  refine (laws_toIntS.calls k A c l l w (Kd.C_below hr HS.bel) hc h).mono ?_
  rintro e w' ⟨v, rfl, ho, hb⟩
  obtain ⟨A', c', rfl⟩ := Kd.R_slice ho
  exact ⟨A', c', _, _, rfl, HS.pushRow hb ho⟩

theorem st_toByteSS {W w : World} {L : List Slot} (HS : St W w L) {A : Option Addr} {c : Nat} {l : List (List Int)} (hr : Kd.C (Kd.slice 5 (Kd.int .u8)) W A l.length l) (hc : l.length ≤ c) (hl : Pure.tot l ≤ 10000000000000) :
    Calls Try.prog 32 #[.slice A l.length c] w fun e w' => ∃ (A' : Option Addr) (c' lo hi : Nat), e = .returned (.slice A' l.length c') ∧ St W w' (rows (Kd.slice 5 (Kd.int .u8)) 22 W.heap.size lo hi (.slice A' l.length c') l :: L) := by
  obtain ⟨k, h⟩ := (Pure.toByteSS l hl).rounds
  refine (laws_toByteSS.calls k A c l l w (Kd.C_below hr HS.bel) hc h).mono ?_
  rintro e w' ⟨v, rfl, ho, hb⟩
  obtain ⟨A', c', rfl⟩ := Kd.S_slice ho
  exact ⟨A', c', _, _, rfl, HS.pushRows hb ho⟩

theorem st_eqPair {W w : World} {L : List Slot} (HS : St W w L) {A A1 B B1 : Option Addr} {c c1 d d1 : Nat} {l l1 : List Int} (h0 : Kd.C (Kd.int .u8) w A l.length l) (k0 : l.length ≤ c) (h1 : Kd.C (Kd.int .u8) w A1 l1.length l1) (k1 : l1.length ≤ c1) (i0 : Kd.C (Kd.int .u8) w B l.length l) (j0 : l.length ≤ d) (i1 : Kd.C (Kd.int .u8) w B1 l1.length l1) (j1 : l1.length ≤ d1) (hl : l.length ≤ 10000000000000) (hl1 : l1.length ≤ 10000000000000) :
    Calls Try.prog 41 #[.agg #[.slice A l.length c, .slice A1 l1.length c1], .agg #[.slice B l.length d, .slice B1 l1.length d1]] w fun e w' => e = .returned (.bool true) ∧ St W w' L := by
  obtain ⟨k, h⟩ := (Pure.eqPair l l1 (by omega) (by omega)).rounds
  refine (laws_eqPair.calls (k := k) (h := h) (hr0_0 := h0) (hc0_0 := k0) (hr0_1 := h1) (hc0_1 := k1) (hr1_0 := i0) (hc1_0 := j0) (hr1_1 := i1) (hc1_1 := j1)).mono ?_
  rintro e w' ⟨rfl, hd⟩
  exact ⟨rfl, HS.below hd⟩

theorem st_eqIntS {W w : World} {L : List Slot} (HS : St W w L) {A A1 : Option Addr} {c c1 : Nat} {l : List Int} (h0 : Kd.C (Kd.int .i64) w A l.length l) (k0 : l.length ≤ c) (h1 : Kd.C (Kd.int .i64) w A1 l.length l) (k1 : l.length ≤ c1) (hl : l.length ≤ 10000000000000) :
    Calls Try.prog 19 #[.slice A l.length c, .slice A1 l.length c1] w fun e w' => e = .returned (.bool true) ∧ St W w' L := by
  obtain ⟨k, h⟩ := (Pure.eqIntS l (by omega)).rounds
  refine (laws_eqIntS.calls k A c l A1 c1 l true w h0 k0 h1 k1 h).mono ?_
  rintro e w' ⟨rfl, hd⟩
  exact ⟨rfl, HS.drawn hd⟩

theorem st_eqByteSS {W w : World} {L : List Slot} (HS : St W w L) {A A1 : Option Addr} {c c1 : Nat} {l : List (List Int)} (h0 : Kd.C (Kd.slice 5 (Kd.int .u8)) w A l.length l) (k0 : l.length ≤ c) (h1 : Kd.C (Kd.slice 5 (Kd.int .u8)) w A1 l.length l) (k1 : l.length ≤ c1) (hl : Pure.tot l ≤ 10000000000000) :
    Calls Try.prog 33 #[.slice A l.length c, .slice A1 l.length c1] w fun e w' => e = .returned (.bool true) ∧ St W w' L := by
  obtain ⟨k, h⟩ := (Pure.eqByteSS l hl).rounds
  refine (laws_eqByteSS.calls k A c l A1 c1 l true w h0 k0 h1 k1 h).mono ?_
  rintro e w' ⟨rfl, hd⟩
  exact ⟨rfl, HS.drawn hd⟩

theorem st_markIntS {W w : World} {L : List Slot} (HS : St W w L) {i lo hi : Nat} {v : Value} {l : List Int} (hi' : L[i]? = some (row (Kd.int .i64) 3 W.heap.size lo hi v l)) {a : Int} (h0 : 0 ≤ a) (ha : a + l.length ≤ 4611686018427387904) :
    Calls Try.prog 37 #[v, .int .i64 a] w fun e w' => ∃ r : Int, e = .returned (.int .i64 r) ∧ Aside0 (r = a + l.length) ∧ St W w' (L.set i (row (Kd.int .i64) 3 W.heap.size lo hi v (Pure.markedI a l.length))) := by
  obtain ⟨k, h⟩ := (Pure.markIntS l a h0 ha).rounds
  refine (laws_markIntS.calls k (fun k => lo ≤ k ∧ k < hi) v l a _ _ W w HS.bel (Kd.R_mono (HS.get hi') (fun _ h => h.1)) h).mono ?_
  rintro e w' ⟨rfl, ho, hb, hk⟩
  exact ⟨_, rfl, ⟨rfl⟩, HS.writeRow rfl hi' hk hb ho⟩

set_option maxHeartbeats 4000000 in
set_option maxRecDepth 100000 in
theorem markSS_walk (W w : World) (lo hi : Nat) (A : Option Addr) (c : Nat) (l : List (List Int)) (a : Int) (h0 : 0 ≤ a) (ha : a + Pure.tsum l ≤ 4611686018427387904) (hB : Below W.heap.size W w)
    (hS : Kd.S (Kd.slice 5 (Kd.int .u8)) 22 w W.heap.size (fun k => (lo ≤ k ∧ k < hi) ∧ True) (.slice A l.length c) l) :
    Calls Try.prog 36 #[.slice A l.length c, .int .i64 a] w fun e w' => e = .returned (.int .i64 (a + Pure.tsum l)) ∧ Kd.S (Kd.slice 5 (Kd.int .u8)) 22 w' W.heap.size (fun k => (lo ≤ k ∧ k < hi) ∧ True) (.slice A l.length c) (Pure.markedSS a l) ∧ Below W.heap.size W w' ∧ Kept w w' (fun k => lo ≤ k ∧ k < hi) := by
  have HS := Aside0.mk hS
  have HB := Aside0.mk hB
  have HA := Aside0.mk ha
  have H0 := Aside0.mk h0
  have HM : Aside0 (l.length ≤ 9223372036854775807) := ⟨(Kd.S_reads' hS).2.2.2.1⟩
  clear hS hB ha h0
  go_enter Try.func36, Try.ntmps36
  go_wp2
  go_loopw [1, 5] (fun v i wr => ∃ j : Nat, i = .int .i64 j ∧ (∃ r : Int, v = .int .i64 r ∧ Aside0 (r = a + Pure.tsum (l.take j))) ∧ Aside0 (j ≤ l.length) ∧ Aside0 (Kd.S (Kd.slice 5 (Kd.int .u8)) 22 wr W.heap.size (fun k => (lo ≤ k ∧ k < hi) ∧ True) (.slice A l.length c) (Pure.markedSS a (l.take j) ++ l.drop j)) ∧ Aside0 (Below W.heap.size W wr) ∧ Aside0 (Kept w wr (fun k => lo ≤ k ∧ k < hi))) (fun _ i _ => l.length - (intOf i).toNat)
  case atStart => exact ⟨0, rfl, ⟨a, rfl, ⟨by simp [Pure.tsum]⟩⟩, ⟨Nat.zero_le _⟩, ⟨HS.out⟩, ⟨HB.out⟩, ⟨Kept.refl _ _⟩⟩
  case round =>
    clear HS HB
    obtain ⟨j, rfl, ⟨r, rfl, HR⟩, HJ, HS, HB, HK⟩ := hrel
    by_cases hlt : j < l.length
    · have c0 : decide (j < l.length) = true := decide_eq_true hlt
      have c1 : decide ((j : Int) < (l.length : Int)) = true := decide_eq_true (by omega)
      have p1 : 0 ≤ (j : Int) := Int.natCast_nonneg j
      have q1 : (j : Int) < (l.length : Int) := by omega
      have hlen : (Pure.markedSS a (l.take j) ++ l.drop j).length = l.length := by rw [List.length_append, Pure.markedSS_length, List.length_take, List.length_drop]; omega
      obtain ⟨g, cap, e, hg1, hg2, cells, hg3⟩ := Kd.S_form HS.out (by omega)
      injection e with e1 e2 e3
      subst e1
      obtain ⟨oki, cc, hcl, hM, hcc, hoki, hH⟩ := Kd.S_lend HS.out ([] : List Int) (j : Int) p1 q1
      obtain ⟨v, rfl, hR⟩ := hM
      obtain ⟨A0, c2, rfl⟩ := Kd.R_slice hR
      have hx := hcc 0 _ rfl
      rw [Int.toNat_natCast] at hx hR hH
      have e4 : j * (Kd.slice 5 (Kd.int .u8)).sz + 0 = j := Nat.mul_one j
      rw [e4, Pure.markedSS_at a l j hlt] at hx
      rw [Pure.markedSS_at a l j hlt] at hR hH
      have HX := Aside0.mk hR
      have HH := Aside0.mk hH
      have HO := Aside0.mk hoki
      have HL := Aside0.mk hlt
      have hts := Pure.tsum_snoc l j hlt
      have htk := Pure.tsum_take l (j + 1)
      have HT := Aside0.mk hts
      have HU := Aside0.mk htk
      obtain ⟨k, hmk⟩ := (Pure.markByteS (l.getD j []) r (by have := HR.out; have := H0.out; omega) (by have := HR.out; have := HA.out; omega)).rounds
      have HMK := Aside0.mk hmk
      have hst := Pure.markedSS_step a l j hlt
      have HST := Aside0.mk hst
      clear hlt hlen hg1 hg2 hg3 hcl hR hH hoki hts htk hmk hst hcc e2 e3
      generalize l.getD j [] = x at hx HX HT HMK HST HH
      go_wp2_with fail
      refine (laws_markByteS.calls k oki (.slice A0 x.length c2) x r _ _ W wr HB.out HX.out HMK.out).mono ?_
      rintro e w' ⟨rfl, ho, hb, hk⟩
      have b2 : (j : Int) ≤ 9223372036854775806 := by have := HL.out; have := HM.out; omega
      have HN1 := Aside0.mk (Kd.H_back (Kd.H_kept HH.out hk (fun _ _ hn hs => hn hs)) (x' := Pure.marked r x.length) (okp := oki) ⟨_, rfl, Kd.R_reok rfl ho (fun k hk => HX.out.1 k hk)⟩ (fun _ h => h))
      have HN2 := Aside0.mk hb
      have HN3 := Aside0.mk (HK.out.then_ hk (fun k hs => .inl (HO.out k hs).1.1))
      clear HS HB HK hk hb ho HH hx
      go_wp2
      go_roundw
      case rel => exact ⟨j + 1, by go_num, ⟨_, rfl, ⟨by have := HR.out; have := HT.out; omega⟩⟩, ⟨HL.out⟩, ⟨by have h := HN1.out; rw [Int.toNat_natCast, HR.out, HST.out] at h; exact h⟩, ⟨HN2.out⟩, ⟨HN3.out⟩⟩
      case measure => have := HL.out; simp [intOf]; omega
    · have c0 : decide (j < l.length) = false := decide_eq_false hlt
      have c1 : decide ((j : Int) < (l.length : Int)) = false := decide_eq_false (by omega)
      obtain rfl : j = l.length := by have := HJ.out; omega
      clear hlt
      go_wp2
      go_ret
      exact ⟨by have h := HR.out; rw [List.take_length] at h; first | (rw [h]; done) | (rw [h]; rfl), by have h := HS.out; rw [List.take_length, List.drop_length, List.append_nil] at h; exact h, HB.out, HK.out⟩
theorem st_markByteSS {W w : World} {L : List Slot} (HS : St W w L) {i lo hi : Nat} {A : Option Addr} {c : Nat} {l : List (List Int)} (hi' : L[i]? = some (rows (Kd.slice 5 (Kd.int .u8)) 22 W.heap.size lo hi (.slice A l.length c) l)) {a : Int} (h0 : 0 ≤ a) (ha : a + Pure.tsum l ≤ 4611686018427387904) :
    Calls Try.prog 36 #[.slice A l.length c, .int .i64 a] w fun e w' => ∃ r : Int, e = .returned (.int .i64 r) ∧ Aside0 (r = a + Pure.tsum l) ∧ St W w' (L.set i (rows (Kd.slice 5 (Kd.int .u8)) 22 W.heap.size lo hi (.slice A l.length c) (Pure.markedSS a l))) := by
  refine (markSS_walk W w lo hi A c l a h0 ha HS.bel (HS.get hi')).mono ?_
  rintro e w' ⟨rfl, ho, hb, hk⟩
  exact ⟨_, rfl, ⟨rfl⟩, HS.write hi' hk hb (rows (Kd.slice 5 (Kd.int .u8)) 22 W.heap.size lo hi (.slice A l.length c) (Pure.markedSS a l)) ho rfl rfl⟩

theorem st_markPair {W w : World} {L : List Slot} (HS : St W w L) {i lo hi : Nat} {v v1 : Value} {l l1 : List Int} (hi' : L[i]? = some (two (Kd.int .u8) 5 (Kd.int .u8) 5 W.heap.size lo hi v l v1 l1)) (hl : l.length ≤ 10000000000000) (hl1 : l1.length ≤ 10000000000000) :
    Calls Try.prog 43 #[.agg #[v, v1], .int .i64 1] w fun e w' => ∃ r : Int, e = .returned (.int .i64 r) ∧ Aside0 (r = 1 + l.length + l1.length) ∧ St W w' (L.set i (two (Kd.int .u8) 5 (Kd.int .u8) 5 W.heap.size lo hi v (Pure.marked 1 l.length) v1 (Pure.marked (1 + l.length) l1.length))) := by
  obtain ⟨k, h⟩ := (Pure.markPair l l1 (by omega) (by omega)).rounds
  have h2 : (two (Kd.int .u8) 5 (Kd.int .u8) 5 W.heap.size lo hi v l v1 l1).P w := HS.get hi'
  refine (laws_markPair.calls (k := k) (h := h) (P0_0_ := fun k => (lo ≤ k ∧ k < hi) ∧ some k = v.ownBlock) (P0_1_ := fun k => (lo ≤ k ∧ k < hi) ∧ some k = v1.ownBlock) (hB := HS.bel) (ho0_0 := Kd.R_reok rfl h2.1 (fun k hk => ⟨(h2.1.1 k hk).1, hk.symm⟩)) (ho0_1 := Kd.R_reok rfl h2.2 (fun k hk => ⟨(h2.2.1 k hk).1, hk.symm⟩))
    (hp0_0_0_1 := fun k hk hk2 => (h2.1.1 k hk.2.symm).2 hk2.2) (hp0_1_0_0 := fun k hk hk2 => (h2.1.1 k hk2.2.symm).2 hk.2)).mono ?_
  rintro e w' ⟨rfl, ho, ho1, hb, hk⟩
  exact ⟨_, rfl, ⟨rfl⟩, HS.writeTwo rfl rfl hi' (hk.mono (fun k h => h.elim (fun h => h.1) (fun h => h.1))) hb ho ho1⟩

theorem st_heldPair {W w : World} {L : List Slot} (HS : St W w L) {A A1 : Option Addr} {n0 c n1 c1 m m1 : Nat} (hr : n0 = (Pure.marked 1 m).length ∧ n0 ≤ c ∧ Kd.C (Kd.int .u8) w A (Pure.marked 1 m).length (Pure.marked 1 m)) (hr1 : n1 = (Pure.marked (1 + m) m1).length ∧ n1 ≤ c1 ∧ Kd.C (Kd.int .u8) w A1 (Pure.marked (1 + m) m1).length (Pure.marked (1 + m) m1)) (hl : m ≤ 10000000000000) (hl1 : m1 ≤ 10000000000000) :
    Calls Try.prog 44 #[.agg #[.slice A n0 c, .slice A1 n1 c1], .int .i64 1] w fun e w' => ∃ r : Int, e = .returned (.int .i64 r) ∧ Aside0 (r = 1 + m + m1) ∧ St W w' L := by
  obtain ⟨k, h⟩ := (Pure.heldPair m m1 (by omega) (by omega)).rounds
  obtain ⟨rfl, hc, hr⟩ := hr
  obtain ⟨rfl, hc1, hr1⟩ := hr1
  refine (laws_heldPair.calls (k := k) (h := h) (hr0_0 := hr) (hc0_0 := hc) (hr0_1 := hr1) (hc0_1 := hc1)).mono ?_
  rintro e w' ⟨rfl, hd⟩
  exact ⟨_, rfl, ⟨rfl⟩, HS.below hd⟩

set_option maxHeartbeats 8000000 in
set_option maxRecDepth 100000 in
theorem walk (a0 : Int) (a1 : Int) (A2 : Option Addr) (c2 : Nat) (l2 : List Int) (A3 : Option Addr) (c3 : Nat) (l3 : List (List Int)) (A4 : Option Addr) (c4 : Nat) (l4 : List (List Int)) (A5 : Option Addr) (c5 : Nat) (l5 : List Int) (w : World) (hq0 : (Lit.int .i64 a0).wf = true) (hq1 : (Lit.int .i64 a1).wf = true) (hr2 : Kd.C (Kd.int .i64) w A2 l2.length l2) (hc2 : l2.length ≤ c2) (hq2 : (l2.length ≤ maxLen ∧ ∀ v0 ∈ l2, (Lit.int .i64 v0).wf = true)) (hr3 : Kd.C (Kd.slice 5 (Kd.int .u8)) w A3 l3.length l3) (hc3 : l3.length ≤ c3) (hq3 : (l3.length ≤ maxLen ∧ ∀ v0 ∈ l3, (v0.length ≤ maxLen ∧ ∀ v1 ∈ v0, (Lit.int .u8 v1).wf = true))) (hr4 : Kd.C (Kd.slice 5 (Kd.int .u8)) w A4 l4.length l4) (hc4 : l4.length ≤ c4) (hq4 : (l4.length ≤ maxLen ∧ ∀ v0 ∈ l4, (v0.length ≤ maxLen ∧ ∀ v1 ∈ v0, (Lit.int .u8 v1).wf = true))) (hr5 : Kd.C (Kd.int .i64) w A5 l5.length l5) (hc5 : l5.length ≤ c5) (hq5 : (l5.length ≤ maxLen ∧ ∀ v0 ∈ l5, (Lit.int .i64 v0).wf = true)) :
    Calls Try.prog 13 #[.int .i64 a0, .int .i64 a1, .slice A2 l2.length c2, .slice A3 l3.length c3, .slice A4 l4.length c4, .slice A5 l5.length c5] w fun e w' => e = .returned (.bool true) ∧ Below w.heap.size w w' := by
  have HQ0 := Aside0.mk hq0
  clear hq0
  have HQ1 := Aside0.mk hq1
  clear hq1
  have HR2 := Aside0.mk hr2
  have HC2 := Aside0.mk hc2
  have HQ2 := Aside0.mk hq2
  clear hr2 hc2 hq2
  have HR3 := Aside0.mk hr3
  have HC3 := Aside0.mk hc3
  have HQ3 := Aside0.mk hq3
  clear hr3 hc3 hq3
  have HR4 := Aside0.mk hr4
  have HC4 := Aside0.mk hc4
  have HQ4 := Aside0.mk hq4
  clear hr4 hc4 hq4
  have HR5 := Aside0.mk hr5
  have HC5 := Aside0.mk hc5
  have HQ5 := Aside0.mk hq5
  clear hr5 hc5 hq5
  by_cases g0 : (l2.length : Int) > 1048576
  · have g0a : decide (1048576 < (l2.length : Int)) = true := decide_eq_true g0
    have g0b : decide (1048576 < l2.length) = true := decide_eq_true (by omega)
    clear g0
    go_enter Try.func13, Try.ntmps13
    go_wp2
    go_ret
    exact ⟨rfl, by repeat (first | exact Below.refl _ _ | apply below_alloc)⟩
  have g0a : decide (1048576 < (l2.length : Int)) = false := decide_eq_false g0
  have g0b : decide (1048576 < l2.length) = false := decide_eq_false (by omega)
  have GLl2 : Aside0 (l2.length ≤ 1048576) := ⟨by omega⟩
  have HLl2 : Aside0 (l2.length ≤ 1000000000000) := ⟨by omega⟩
  clear g0
  by_cases g1 : (l5.length : Int) > 1048576
  · have g1a : decide (1048576 < (l5.length : Int)) = true := decide_eq_true g1
    have g1b : decide (1048576 < l5.length) = true := decide_eq_true (by omega)
    clear g1
    go_enter Try.func13, Try.ntmps13
    go_wp2
    go_ret
    exact ⟨rfl, by repeat (first | exact Below.refl _ _ | apply below_alloc)⟩
  have g1a : decide (1048576 < (l5.length : Int)) = false := decide_eq_false g1
  have g1b : decide (1048576 < l5.length) = false := decide_eq_false (by omega)
  have GLl5 : Aside0 (l5.length ≤ 1048576) := ⟨by omega⟩
  have HLl5 : Aside0 (l5.length ≤ 1000000000000) := ⟨by omega⟩
  clear g1
  obtain ⟨SV0, ev0⟩ : ∃ z : Int, z = Pure.left 1048576 (Pure.tot l3) := ⟨_, rfl⟩
  have EV0 := Aside0.mk ev0
  clear ev0
  by_cases g2 : SV0 < 0
  · have GS0 := Aside0.mk g2
    clear g2
    go_enter Try.func13, Try.ntmps13
    have HS := St.nil w
    go_wp2_with (first | ((with_reducible refine gate_dst (N := 35) rfl ?_); refine goesL_ (some 35) rfl rfl Try.func30 (by kernel_rfl) rfl #[.slice A3 l3.length c3, .int .i64 1048576] rfl (by (try simp only [List.map_toArray, List.map_cons, List.map_nil]); first | done | rfl) ?_; refine (st_szByteSS HS HR3.out HC3.out ⟨HQ3.out.1, fun v hv => (HQ3.out.2 v hv).1⟩ (by decide) (by decide)).mono ?_; rintro e w1 ⟨nn1, rfl, HE1, HN⟩; have HV1 : Aside0 (nn1 = SV0) := ⟨by rw [HE1.out]; exact EV0.out.symm⟩; have d1 : decide (nn1 < 0) = true := decide_eq_true (by have := HV1.out; have := GS0.out; omega); refine ⟨_, rfl, ?_⟩; clear HS; have HS := HN; clear HN))
    go_ret
    exact ⟨rfl, HS.bel⟩
  have GS0 := Aside0.mk g2
  clear g2
  have GT0 : Aside0 (SV0 = 1048576 - ((Pure.tot l3 : Nat) : Int)) := ⟨by have h := EV0.out; have := GS0.out; rw [h]; exact Pure.left_ok (by rw [← h]; exact this)⟩
  have GU0 : Aside0 (SV0 ≤ 1048576) := ⟨by have := GT0.out; omega⟩
  have GLl3 : Aside0 (Pure.tot l3 ≤ 1048576) := ⟨by have := GT0.out; have := GS0.out; omega⟩
  have HLl3 : Aside0 (Pure.tot l3 ≤ 1000000000000) := ⟨by have := GLl3.out; omega⟩
  have HTl3 : Aside0 (Pure.tsum l3 ≤ 1000000000000) := ⟨Nat.le_trans (Pure.tsum_le l3) HLl3.out⟩
  obtain ⟨SV1, ev1⟩ : ∃ z : Int, z = Pure.left SV0 (Pure.tot l4) := ⟨_, rfl⟩
  have EV1 := Aside0.mk ev1
  clear ev1
  by_cases g3 : SV1 < 0
  · have GS1 := Aside0.mk g3
    clear g3
    go_enter Try.func13, Try.ntmps13
    have HS := St.nil w
    go_wp2_with (first | ((with_reducible refine gate_dst (N := 35) rfl ?_); refine goesL_ (some 35) rfl rfl Try.func30 (by kernel_rfl) rfl #[.slice A3 l3.length c3, .int .i64 1048576] rfl (by (try simp only [List.map_toArray, List.map_cons, List.map_nil]); first | done | rfl) ?_; refine (st_szByteSS HS HR3.out HC3.out ⟨HQ3.out.1, fun v hv => (HQ3.out.2 v hv).1⟩ (by decide) (by decide)).mono ?_; rintro e w1 ⟨nn1, rfl, HE1, HN⟩; have HV1 : Aside0 (nn1 = SV0) := ⟨by rw [HE1.out]; exact EV0.out.symm⟩; have HB1 : Aside0 (0 ≤ nn1 ∧ nn1 ≤ 1048576) := ⟨by have := HV1.out; have := GS0.out; have := GU0.out; omega⟩; have d1 : decide (nn1 < 0) = false := decide_eq_false (by have := HB1.out; omega); refine ⟨_, rfl, ?_⟩; clear HS; have HS := HN; clear HN) | ((with_reducible refine gate_dst (N := 40) rfl ?_); refine goesL_ (some 40) rfl rfl Try.func30 (by kernel_rfl) rfl #[.slice A4 l4.length c4, .int .i64 nn1] rfl (by (try simp only [List.map_toArray, List.map_cons, List.map_nil]); first | done | rfl) ?_; refine (st_szByteSS HS HR4.out HC4.out ⟨HQ4.out.1, fun v hv => (HQ4.out.2 v hv).1⟩ HB1.out.1 HB1.out.2).mono ?_; rintro e w2 ⟨nn2, rfl, HE2, HN⟩; have HV2 : Aside0 (nn2 = SV1) := ⟨by rw [HE2.out, HV1.out]; exact EV1.out.symm⟩; have d2 : decide (nn2 < 0) = true := decide_eq_true (by have := HV2.out; have := GS1.out; omega); refine ⟨_, rfl, ?_⟩; clear HS; have HS := HN; clear HN))
    go_ret
    exact ⟨rfl, HS.bel⟩
  have GS1 := Aside0.mk g3
  clear g3
  have GT1 : Aside0 (SV1 = SV0 - ((Pure.tot l4 : Nat) : Int)) := ⟨by have h := EV1.out; have := GS1.out; rw [h]; exact Pure.left_ok (by rw [← h]; exact this)⟩
  have GU1 : Aside0 (SV1 ≤ 1048576) := ⟨by have := GT1.out; have := GU0.out; omega⟩
  have GLl4 : Aside0 (Pure.tot l4 ≤ 1048576) := ⟨by have := GT1.out; have := GS1.out; have := GU0.out; omega⟩
  have HLl4 : Aside0 (Pure.tot l4 ≤ 1000000000000) := ⟨by have := GLl4.out; omega⟩
  have HTl4 : Aside0 (Pure.tsum l4 ≤ 1000000000000) := ⟨Nat.le_trans (Pure.tsum_le l4) HLl4.out⟩
  obtain ⟨r1, r2, r3, ⟨ks, hsp⟩, ⟨ki, him⟩, hbr1, hbr2⟩ := Pure.FnExactFromMany a0 a1 l2 l3 l4 l5 HQ0.out HQ1.out HQ2.out HQ3.out HQ4.out HQ5.out GLl2.out GLl5.out GLl3.out GLl4.out
  have HSP := Aside0.mk hsp
  have HIM := Aside0.mk him
  clear hsp him
  have HLr1 := Aside0.mk hbr1
  clear hbr1
  have HLr2 := Aside0.mk hbr2
  clear hbr2
  have er3 : (r3 != r3) = false := bne_self_eq_false _
  have ir3 : (r3 == r3) = true := beq_self_eq_true _
  go_enter Try.func13, Try.ntmps13
  have HS := St.nil w
  go_wp2_with (first | ((with_reducible refine gate_dst (N := 35) rfl ?_); refine goesL_ (some 35) rfl rfl Try.func30 (by kernel_rfl) rfl #[.slice A3 l3.length c3, .int .i64 1048576] rfl (by (try simp only [List.map_toArray, List.map_cons, List.map_nil]); first | done | rfl) ?_; refine (st_szByteSS HS HR3.out HC3.out ⟨HQ3.out.1, fun v hv => (HQ3.out.2 v hv).1⟩ (by decide) (by decide)).mono ?_; rintro e w1 ⟨nn1, rfl, HE1, HN⟩; have HV1 : Aside0 (nn1 = SV0) := ⟨by rw [HE1.out]; exact EV0.out.symm⟩; have HB1 : Aside0 (0 ≤ nn1 ∧ nn1 ≤ 1048576) := ⟨by have := HV1.out; have := GS0.out; have := GU0.out; omega⟩; have d1 : decide (nn1 < 0) = false := decide_eq_false (by have := HB1.out; omega); refine ⟨_, rfl, ?_⟩; clear HS; have HS := HN; clear HN) | ((with_reducible refine gate_dst (N := 40) rfl ?_); refine goesL_ (some 40) rfl rfl Try.func30 (by kernel_rfl) rfl #[.slice A4 l4.length c4, .int .i64 nn1] rfl (by (try simp only [List.map_toArray, List.map_cons, List.map_nil]); first | done | rfl) ?_; refine (st_szByteSS HS HR4.out HC4.out ⟨HQ4.out.1, fun v hv => (HQ4.out.2 v hv).1⟩ HB1.out.1 HB1.out.2).mono ?_; rintro e w2 ⟨nn2, rfl, HE2, HN⟩; have HV2 : Aside0 (nn2 = SV1) := ⟨by rw [HE2.out, HV1.out]; exact EV1.out.symm⟩; have HB2 : Aside0 (0 ≤ nn2 ∧ nn2 ≤ 1048576) := ⟨by have := HV2.out; have := GS1.out; have := GU1.out; omega⟩; have d2 : decide (nn2 < 0) = false := decide_eq_false (by have := HB2.out; omega); refine ⟨_, rfl, ?_⟩; clear HS; have HS := HN; clear HN) | ((with_reducible refine gate_dst (N := 47) rfl ?_); refine goesL_ (some 47) rfl rfl Try.func16 (by kernel_rfl) rfl #[.slice A2 l2.length c2] rfl (by (try simp only [List.map_toArray, List.map_cons, List.map_nil]); first | done | rfl) ?_; refine (st_toIntS HS HR2.out HC2.out (Nat.le_trans HLl2.out (by decide))).mono ?_; rintro e w3 ⟨Ao3, co3, lo3, hi3, rfl, HN⟩; refine ⟨_, rfl, ?_⟩; clear HS; have HS := HN; clear HN) | ((with_reducible refine gate_dst (N := 49) rfl ?_); refine goesL_ (some 49) rfl rfl Try.func32 (by kernel_rfl) rfl #[.slice A3 l3.length c3] rfl (by (try simp only [List.map_toArray, List.map_cons, List.map_nil]); first | done | rfl) ?_; refine (st_toByteSS HS HR3.out HC3.out (Nat.le_trans HLl3.out (by decide))).mono ?_; rintro e w4 ⟨Ao4, co4, lo4, hi4, rfl, HN⟩; refine ⟨_, rfl, ?_⟩; clear HS; have HS := HN; clear HN) | ((with_reducible refine gate_dst (N := 51) rfl ?_); refine goesL_ (some 51) rfl rfl Try.func32 (by kernel_rfl) rfl #[.slice A4 l4.length c4] rfl (by (try simp only [List.map_toArray, List.map_cons, List.map_nil]); first | done | rfl) ?_; refine (st_toByteSS HS HR4.out HC4.out (Nat.le_trans HLl4.out (by decide))).mono ?_; rintro e w5 ⟨Ao5, co5, lo5, hi5, rfl, HN⟩; refine ⟨_, rfl, ?_⟩; clear HS; have HS := HN; clear HN) | ((with_reducible refine gate_dst (N := 53) rfl ?_); refine goesL_ (some 53) rfl rfl Try.func16 (by kernel_rfl) rfl #[.slice A5 l5.length c5] rfl (by (try simp only [List.map_toArray, List.map_cons, List.map_nil]); first | done | rfl) ?_; refine (st_toIntS HS HR5.out HC5.out (Nat.le_trans HLl5.out (by decide))).mono ?_; rintro e w6 ⟨Ao6, co6, lo6, hi6, rfl, HN⟩; refine ⟨_, rfl, ?_⟩; clear HS; have HS := HN; clear HN) | ((with_reducible refine gate_dst (N := 54) rfl ?_); refine goesL_ (some 54) rfl rfl Try.func56 (by kernel_rfl) rfl #[.int .i64 a0, .int .i64 a1, .slice Ao3 l2.length co3, .slice Ao4 l3.length co4, .slice Ao5 l4.length co5, .slice Ao6 l5.length co6] rfl (by (try simp only [List.map_toArray, List.map_cons, List.map_nil]); first | done | rfl) ?_; refine (spec_FromMany.calls (h := HSP.out) (P2_ := _) (hs2 := Kd.R_V (HS.get (i := 3) rfl)) (hr3 := (Kd.S_reads' (HS.get (i := 2) rfl)).2.2) (hc3 := (Kd.S_reads' (HS.get (i := 2) rfl)).2.1) (hr4 := (Kd.S_reads' (HS.get (i := 1) rfl)).2.2) (hc4 := (Kd.S_reads' (HS.get (i := 1) rfl)).2.1) (P5_ := _) (hs5 := Kd.R_V (HS.get (i := 0) rfl))).mono ?_; rintro e w7 ⟨v7_0, v7_1, rfl, ho0, ho1, hb⟩; obtain ⟨Ao7_0, co7_0, eo0⟩ := Kd.V_slice ho0; subst eo0; obtain ⟨Ao7_1, co7_1, eo1⟩ := Kd.V_slice ho1; subst eo1; have HN := HS.pushSeen hb (both (view (Kd.int .u8) w6.heap.size w7.heap.size Ao7_0 r1.length co7_0 r1) (view (Kd.int .u8) w6.heap.size w7.heap.size Ao7_1 r2.length co7_1 r2) rfl rfl) ⟨view_V ho0 (fun _ h => by first | exact h | exact h.1 | exact h.1.1), view_V ho1 (fun _ h => by first | exact h | exact h.1 | exact h.1.1)⟩ rfl rfl; refine ⟨_, rfl, ?_⟩; clear HS; have HS := HN; clear HN) | ((with_reducible refine gate_dst (N := 14) rfl ?_); refine box_event ?hg (N := 14) ?hd (cs := #[.slice none 0 0, .slice none 0 0]) (t := 50) ?hr ?_; (case hd => rfl); (case hg => rfl); (case hr => first | (go_simp; done) | (go_simp; rfl)); intro g8 hg w8 hbox hb; have HN := HS.box hg hbox hb; have f8_0 := blk_frozen hbox 0; have f8_1 := blk_frozen hbox 1; clear hg hbox hb; clear HS; have HS := HN; clear HN; have zg8_0 : w8.cell? ⟨g8, 0, none⟩ = some (.slice none 0 0) := (blk_cell (HS.get (i := 0) rfl) 0).trans rfl; have zg8_1 : w8.cell? ⟨g8, 1, none⟩ = some (.slice none 0 0) := (blk_cell (HS.get (i := 0) rfl) 1).trans rfl) | ((with_reducible refine gate_store (t := 50) (p := 14) rfl ?_); refine store_event (t := 50) (p := 14) (v := ?vo9) (w1 := ((w8.setCell ⟨g8, 0, none⟩ (.slice Ao7_0 r1.length co7_0)).setCell ⟨g8, 1, none⟩ (.slice Ao7_1 r2.length co7_1))) ?hg ?ho ?hn ?hr ?_; (case ho => rfl); (case hg => rfl); (case hn => rfl); (case hr => first | (go_simp; done) | (go_simp; rfl)); intro w9 hw; have HN : St w w9 (blk g8 #[.slice Ao7_0 r1.length co7_0, .slice Ao7_1 r2.length co7_1] 50 :: _) := (by rw [hw]; exact (HS.put (i := 0) (.slice Ao7_0 r1.length co7_0)).put (i := 1) (.slice Ao7_1 r2.length co7_1)); clear HS; have HS := HN; clear HN hw f8_0 f8_1; clear zg8_0; clear zg8_1) | ((with_reducible refine gate_dst (N := 58) rfl ?_); refine goesL_ (some 58) rfl rfl Try.func16 (by kernel_rfl) rfl #[.slice A2 l2.length c2] rfl (by (try simp only [List.map_toArray, List.map_cons, List.map_nil]); first | done | rfl) ?_; refine (st_toIntS HS HR2.out HC2.out (Nat.le_trans HLl2.out (by decide))).mono ?_; rintro e w10 ⟨Ao10, co10, lo10, hi10, rfl, HN⟩; refine ⟨_, rfl, ?_⟩; clear HS; have HS := HN; clear HN) | ((with_reducible refine gate_dst (N := 60) rfl ?_); refine goesL_ (some 60) rfl rfl Try.func32 (by kernel_rfl) rfl #[.slice A3 l3.length c3] rfl (by (try simp only [List.map_toArray, List.map_cons, List.map_nil]); first | done | rfl) ?_; refine (st_toByteSS HS HR3.out HC3.out (Nat.le_trans HLl3.out (by decide))).mono ?_; rintro e w11 ⟨Ao11, co11, lo11, hi11, rfl, HN⟩; refine ⟨_, rfl, ?_⟩; clear HS; have HS := HN; clear HN) | ((with_reducible refine gate_dst (N := 62) rfl ?_); refine goesL_ (some 62) rfl rfl Try.func32 (by kernel_rfl) rfl #[.slice A4 l4.length c4] rfl (by (try simp only [List.map_toArray, List.map_cons, List.map_nil]); first | done | rfl) ?_; refine (st_toByteSS HS HR4.out HC4.out (Nat.le_trans HLl4.out (by decide))).mono ?_; rintro e w12 ⟨Ao12, co12, lo12, hi12, rfl, HN⟩; refine ⟨_, rfl, ?_⟩; clear HS; have HS := HN; clear HN) | ((with_reducible refine gate_dst (N := 64) rfl ?_); refine goesL_ (some 64) rfl rfl Try.func16 (by kernel_rfl) rfl #[.slice A5 l5.length c5] rfl (by (try simp only [List.map_toArray, List.map_cons, List.map_nil]); first | done | rfl) ?_; refine (st_toIntS HS HR5.out HC5.out (Nat.le_trans HLl5.out (by decide))).mono ?_; rintro e w13 ⟨Ao13, co13, lo13, hi13, rfl, HN⟩; refine ⟨_, rfl, ?_⟩; clear HS; have HS := HN; clear HN) | ((with_reducible refine gate_dst (N := 72) rfl ?_); refine goesL_ (some 72) rfl rfl Try.func57 (by kernel_rfl) rfl #[.int .i64 a0, .int .i64 a1, .slice Ao10 l2.length co10, .slice Ao11 l3.length co11, .slice Ao12 l4.length co12, .slice Ao13 l5.length co13] rfl (by (try simp only [List.map_toArray, List.map_cons, List.map_nil]); first | done | rfl) ?_; refine (impl_FromMany.calls (h := HIM.out) (hr2 := (Kd.R_reads' (HS.get (i := 3) rfl)).2.2) (hc2 := (Kd.R_reads' (HS.get (i := 3) rfl)).2.1) (hr3 := (Kd.S_reads' (HS.get (i := 2) rfl)).2.2) (hc3 := (Kd.S_reads' (HS.get (i := 2) rfl)).2.1) (hr4 := (Kd.S_reads' (HS.get (i := 1) rfl)).2.2) (hc4 := (Kd.S_reads' (HS.get (i := 1) rfl)).2.1) (hr5 := (Kd.R_reads' (HS.get (i := 0) rfl)).2.2) (hc5 := (Kd.R_reads' (HS.get (i := 0) rfl)).2.1)).mono ?_; rintro e w14 ⟨v14_0, v14_1, rfl, ho0, ho1, hb⟩; obtain ⟨Ao14_0, co14_0, eo0⟩ := Kd.R_slice ho0; subst eo0; obtain ⟨Ao14_1, co14_1, eo1⟩ := Kd.R_slice ho1; subst eo1; have HN := HS.pushTwo hb ho0 ho1; refine ⟨_, rfl, ?_⟩; clear HS; have HS := HN; clear HN) | ((with_reducible refine gate_dst (N := 20) rfl ?_); refine box_event ?hg (N := 20) ?hd (cs := #[.slice none 0 0, .slice none 0 0]) (t := 50) ?hr ?_; (case hd => rfl); (case hg => rfl); (case hr => first | (go_simp; done) | (go_simp; rfl)); intro g15 hg w15 hbox hb; have HN := HS.box hg hbox hb; have f15_0 := blk_frozen hbox 0; have f15_1 := blk_frozen hbox 1; clear hg hbox hb; clear HS; have HS := HN; clear HN; have zg15_0 : w15.cell? ⟨g15, 0, none⟩ = some (.slice none 0 0) := (blk_cell (HS.get (i := 0) rfl) 0).trans rfl; have zg15_1 : w15.cell? ⟨g15, 1, none⟩ = some (.slice none 0 0) := (blk_cell (HS.get (i := 0) rfl) 1).trans rfl) | ((with_reducible refine gate_store (t := 50) (p := 20) rfl ?_); refine store_event (t := 50) (p := 20) (v := ?vo16) (w1 := ((w15.setCell ⟨g15, 0, none⟩ (.slice Ao14_0 r1.length co14_0)).setCell ⟨g15, 1, none⟩ (.slice Ao14_1 r2.length co14_1))) ?hg ?ho ?hn ?hr ?_; (case ho => rfl); (case hg => rfl); (case hn => rfl); (case hr => first | (go_simp; done) | (go_simp; rfl)); intro w16 hw; have HN : St w w16 (blk g15 #[.slice Ao14_0 r1.length co14_0, .slice Ao14_1 r2.length co14_1] 50 :: _) := (by rw [hw]; exact (HS.put (i := 0) (.slice Ao14_0 r1.length co14_0)).put (i := 1) (.slice Ao14_1 r2.length co14_1)); clear HS; have HS := HN; clear HN hw f15_0 f15_1; clear zg15_0; clear zg15_1; have zg15_0 : w16.cell? ⟨g15, 0, none⟩ = some (.slice Ao14_0 r1.length co14_0) := (blk_cell (HS.get (i := 0) rfl) 0).trans rfl; have zg15_1 : w16.cell? ⟨g15, 1, none⟩ = some (.slice Ao14_1 r2.length co14_1) := (blk_cell (HS.get (i := 0) rfl) 1).trans rfl; have zg8_0 : w16.cell? ⟨g8, 0, none⟩ = some (.slice Ao7_0 r1.length co7_0) := (blk_cell (HS.get (i := 6) rfl) 0).trans rfl; have zg8_1 : w16.cell? ⟨g8, 1, none⟩ = some (.slice Ao7_1 r2.length co7_1) := (blk_cell (HS.get (i := 6) rfl) 1).trans rfl) | ((with_reducible refine gate_dst (N := 77) rfl ?_); refine goesL_ (some 77) rfl rfl Try.func41 (by kernel_rfl) rfl #[.agg #[.slice Ao14_0 r1.length co14_0, .slice Ao14_1 r2.length co14_1], .agg #[.slice Ao7_0 r1.length co7_0, .slice Ao7_1 r2.length co7_1]] rfl (by (try simp only [List.map_toArray, List.map_cons, List.map_nil]); first | done | rfl) ?_; refine (st_eqPair HS (Kd.R_reads' (HS.get (i := 1) rfl).1).2.2 (Kd.R_reads' (HS.get (i := 1) rfl).1).2.1 (Kd.R_reads' (HS.get (i := 1) rfl).2).2.2 (Kd.R_reads' (HS.get (i := 1) rfl).2).2.1 (seenNow (HS.get (i := 7) rfl).1).2.2 (seenNow (HS.get (i := 7) rfl).1).2.1 (seenNow (HS.get (i := 7) rfl).2).2.2 (seenNow (HS.get (i := 7) rfl).2).2.1 (Nat.le_trans HLr1.out (by decide)) (Nat.le_trans HLr2.out (by decide))).mono ?_; rintro e w17 ⟨rfl, HN⟩; refine ⟨_, rfl, ?_⟩; clear HS; have HS := HN; clear HN; clear zg15_0; clear zg15_1; clear zg8_0; clear zg8_1) | ((with_reducible refine gate_dst (N := 86) rfl ?_); refine goesL_ (some 86) rfl rfl Try.func16 (by kernel_rfl) rfl #[.slice A2 l2.length c2] rfl (by (try simp only [List.map_toArray, List.map_cons, List.map_nil]); first | done | rfl) ?_; refine (st_toIntS HS HR2.out HC2.out (Nat.le_trans HLl2.out (by decide))).mono ?_; rintro e w18 ⟨Ao18, co18, lo18, hi18, rfl, HN⟩; refine ⟨_, rfl, ?_⟩; clear HS; have HS := HN; clear HN) | ((with_reducible refine gate_dst (N := 87) rfl ?_); refine goesL_ (some 87) rfl rfl Try.func19 (by kernel_rfl) rfl #[.slice Ao10 l2.length co10, .slice Ao18 l2.length co18] rfl (by (try simp only [List.map_toArray, List.map_cons, List.map_nil]); first | done | rfl) ?_; refine (st_eqIntS HS (Kd.R_reads' (HS.get (i := 6) rfl)).2.2 (Kd.R_reads' (HS.get (i := 6) rfl)).2.1 (Kd.R_reads' (HS.get (i := 0) rfl)).2.2 (Kd.R_reads' (HS.get (i := 0) rfl)).2.1 (Nat.le_trans HLl2.out (by decide))).mono ?_; rintro e w19 ⟨rfl, HN⟩; refine ⟨_, rfl, ?_⟩; clear HS; have HS := HN; clear HN) | ((with_reducible refine gate_dst (N := 91) rfl ?_); refine goesL_ (some 91) rfl rfl Try.func32 (by kernel_rfl) rfl #[.slice A3 l3.length c3] rfl (by (try simp only [List.map_toArray, List.map_cons, List.map_nil]); first | done | rfl) ?_; refine (st_toByteSS HS HR3.out HC3.out (Nat.le_trans HLl3.out (by decide))).mono ?_; rintro e w20 ⟨Ao20, co20, lo20, hi20, rfl, HN⟩; refine ⟨_, rfl, ?_⟩; clear HS; have HS := HN; clear HN) | ((with_reducible refine gate_dst (N := 92) rfl ?_); refine goesL_ (some 92) rfl rfl Try.func33 (by kernel_rfl) rfl #[.slice Ao11 l3.length co11, .slice Ao20 l3.length co20] rfl (by (try simp only [List.map_toArray, List.map_cons, List.map_nil]); first | done | rfl) ?_; refine (st_eqByteSS HS (Kd.S_reads' (HS.get (i := 6) rfl)).2.2 (Kd.S_reads' (HS.get (i := 6) rfl)).2.1 (Kd.S_reads' (HS.get (i := 0) rfl)).2.2 (Kd.S_reads' (HS.get (i := 0) rfl)).2.1 (Nat.le_trans HLl3.out (by decide))).mono ?_; rintro e w21 ⟨rfl, HN⟩; refine ⟨_, rfl, ?_⟩; clear HS; have HS := HN; clear HN) | ((with_reducible refine gate_dst (N := 96) rfl ?_); refine goesL_ (some 96) rfl rfl Try.func32 (by kernel_rfl) rfl #[.slice A4 l4.length c4] rfl (by (try simp only [List.map_toArray, List.map_cons, List.map_nil]); first | done | rfl) ?_; refine (st_toByteSS HS HR4.out HC4.out (Nat.le_trans HLl4.out (by decide))).mono ?_; rintro e w22 ⟨Ao22, co22, lo22, hi22, rfl, HN⟩; refine ⟨_, rfl, ?_⟩; clear HS; have HS := HN; clear HN) | ((with_reducible refine gate_dst (N := 97) rfl ?_); refine goesL_ (some 97) rfl rfl Try.func33 (by kernel_rfl) rfl #[.slice Ao12 l4.length co12, .slice Ao22 l4.length co22] rfl (by (try simp only [List.map_toArray, List.map_cons, List.map_nil]); first | done | rfl) ?_; refine (st_eqByteSS HS (Kd.S_reads' (HS.get (i := 6) rfl)).2.2 (Kd.S_reads' (HS.get (i := 6) rfl)).2.1 (Kd.S_reads' (HS.get (i := 0) rfl)).2.2 (Kd.S_reads' (HS.get (i := 0) rfl)).2.1 (Nat.le_trans HLl4.out (by decide))).mono ?_; rintro e w23 ⟨rfl, HN⟩; refine ⟨_, rfl, ?_⟩; clear HS; have HS := HN; clear HN) | ((with_reducible refine gate_dst (N := 101) rfl ?_); refine goesL_ (some 101) rfl rfl Try.func16 (by kernel_rfl) rfl #[.slice A5 l5.length c5] rfl (by (try simp only [List.map_toArray, List.map_cons, List.map_nil]); first | done | rfl) ?_; refine (st_toIntS HS HR5.out HC5.out (Nat.le_trans HLl5.out (by decide))).mono ?_; rintro e w24 ⟨Ao24, co24, lo24, hi24, rfl, HN⟩; refine ⟨_, rfl, ?_⟩; clear HS; have HS := HN; clear HN) | ((with_reducible refine gate_dst (N := 102) rfl ?_); refine goesL_ (some 102) rfl rfl Try.func19 (by kernel_rfl) rfl #[.slice Ao13 l5.length co13, .slice Ao24 l5.length co24] rfl (by (try simp only [List.map_toArray, List.map_cons, List.map_nil]); first | done | rfl) ?_; refine (st_eqIntS HS (Kd.R_reads' (HS.get (i := 6) rfl)).2.2 (Kd.R_reads' (HS.get (i := 6) rfl)).2.1 (Kd.R_reads' (HS.get (i := 0) rfl)).2.2 (Kd.R_reads' (HS.get (i := 0) rfl)).2.1 (Nat.le_trans HLl5.out (by decide))).mono ?_; rintro e w25 ⟨rfl, HN⟩; refine ⟨_, rfl, ?_⟩; clear HS; have HS := HN; clear HN) | ((with_reducible refine gate_dst (N := 106) rfl ?_); refine goesL_ (some 106) rfl rfl Try.func37 (by kernel_rfl) rfl #[.slice Ao10 l2.length co10, .int .i64 1] rfl (by (try simp only [List.map_toArray, List.map_cons, List.map_nil]); first | done | rfl) ?_; refine (st_markIntS HS (i := 9) rfl (by decide) (by have := HLl2.out; omega)).mono ?_; rintro e w26 ⟨nn26, rfl, HE26, HN⟩; have HM26 : Aside0 (0 ≤ nn26 ∧ nn26 ≤ 10000000000000) := ⟨by have := HE26.out; have := HLl2.out; omega⟩; have d26 : decide (nn26 < 0) = false := decide_eq_false (by have := HM26.out; omega); refine ⟨_, rfl, ?_⟩; clear HS; have HS := HN; clear HN) | ((with_reducible refine gate_dst (N := 109) rfl ?_); refine goesL_ (some 109) rfl rfl Try.func36 (by kernel_rfl) rfl #[.slice Ao11 l3.length co11, .int .i64 nn26] rfl (by (try simp only [List.map_toArray, List.map_cons, List.map_nil]); first | done | rfl) ?_; refine (st_markByteSS HS (i := 8) rfl (by have := HM26.out; omega) (by have := HM26.out; have := HTl3.out; omega)).mono ?_; rintro e w27 ⟨nn27, rfl, HE27, HN⟩; have HM27 : Aside0 (0 ≤ nn27 ∧ nn27 ≤ 20000000000000) := ⟨by have := HE27.out; have := HM26.out; have := HTl3.out; omega⟩; have d27 : decide (nn27 < 0) = false := decide_eq_false (by have := HM27.out; omega); refine ⟨_, rfl, ?_⟩; clear HS; have HS := HN; clear HN) | ((with_reducible refine gate_dst (N := 112) rfl ?_); refine goesL_ (some 112) rfl rfl Try.func36 (by kernel_rfl) rfl #[.slice Ao12 l4.length co12, .int .i64 nn27] rfl (by (try simp only [List.map_toArray, List.map_cons, List.map_nil]); first | done | rfl) ?_; refine (st_markByteSS HS (i := 7) rfl (by have := HM27.out; omega) (by have := HM27.out; have := HTl4.out; omega)).mono ?_; rintro e w28 ⟨nn28, rfl, HE28, HN⟩; have HM28 : Aside0 (0 ≤ nn28 ∧ nn28 ≤ 30000000000000) := ⟨by have := HE28.out; have := HM27.out; have := HTl4.out; omega⟩; have d28 : decide (nn28 < 0) = false := decide_eq_false (by have := HM28.out; omega); refine ⟨_, rfl, ?_⟩; clear HS; have HS := HN; clear HN) | ((with_reducible refine gate_dst (N := 115) rfl ?_); refine goesL_ (some 115) rfl rfl Try.func37 (by kernel_rfl) rfl #[.slice Ao13 l5.length co13, .int .i64 nn28] rfl (by (try simp only [List.map_toArray, List.map_cons, List.map_nil]); first | done | rfl) ?_; refine (st_markIntS HS (i := 6) rfl (by have := HM28.out; omega) (by have := HM28.out; have := HLl5.out; omega)).mono ?_; rintro e w29 ⟨nn29, rfl, HE29, HN⟩; have HM29 : Aside0 (0 ≤ nn29 ∧ nn29 ≤ 40000000000000) := ⟨by have := HE29.out; have := HM28.out; have := HLl5.out; omega⟩; have d29 : decide (nn29 < 0) = false := decide_eq_false (by have := HM29.out; omega); refine ⟨_, rfl, ?_⟩; clear HS; have HS := HN; clear HN; have zg15_0 : w29.cell? ⟨g15, 0, none⟩ = some (.slice Ao14_0 r1.length co14_0) := (blk_cell (HS.get (i := 4) rfl) 0).trans rfl; have zg15_1 : w29.cell? ⟨g15, 1, none⟩ = some (.slice Ao14_1 r2.length co14_1) := (blk_cell (HS.get (i := 4) rfl) 1).trans rfl; have zg8_0 : w29.cell? ⟨g8, 0, none⟩ = some (.slice Ao7_0 r1.length co7_0) := (blk_cell (HS.get (i := 10) rfl) 0).trans rfl; have zg8_1 : w29.cell? ⟨g8, 1, none⟩ = some (.slice Ao7_1 r2.length co7_1) := (blk_cell (HS.get (i := 10) rfl) 1).trans rfl) | (go_at_call 41; refine (st_eqPair HS (Kd.R_reads' (HS.get (i := 5) rfl).1).2.2 (Kd.R_reads' (HS.get (i := 5) rfl).1).2.1 (Kd.R_reads' (HS.get (i := 5) rfl).2).2.2 (Kd.R_reads' (HS.get (i := 5) rfl).2).2.1 (seenNow (HS.get (i := 11) rfl).1).2.2 (seenNow (HS.get (i := 11) rfl).1).2.1 (seenNow (HS.get (i := 11) rfl).2).2.2 (seenNow (HS.get (i := 11) rfl).2).2.1 (Nat.le_trans HLr1.out (by decide)) (Nat.le_trans HLr2.out (by decide))).mono ?_; rintro e w30 ⟨rfl, HN⟩; clear HS; have HS := HN; clear HN; clear zg15_0; clear zg15_1; clear zg8_0; clear zg8_1; have zg15_0 : w30.cell? ⟨g15, 0, none⟩ = some (.slice Ao14_0 r1.length co14_0) := (blk_cell (HS.get (i := 4) rfl) 0).trans rfl; have zg15_1 : w30.cell? ⟨g15, 1, none⟩ = some (.slice Ao14_1 r2.length co14_1) := (blk_cell (HS.get (i := 4) rfl) 1).trans rfl) | ((with_reducible refine gate_dst (N := 131) rfl ?_); refine goesL_ (some 131) rfl rfl Try.func43 (by kernel_rfl) rfl #[.agg #[.slice Ao14_0 r1.length co14_0, .slice Ao14_1 r2.length co14_1], .int .i64 1] rfl (by (try simp only [List.map_toArray, List.map_cons, List.map_nil]); first | done | rfl) ?_; refine (st_markPair HS (i := 5) rfl (Nat.le_trans HLr1.out (by decide)) (Nat.le_trans HLr2.out (by decide))).mono ?_; rintro e w31 ⟨nn31, rfl, HE31, HN⟩; have HM31 : Aside0 (0 ≤ nn31 ∧ nn31 ≤ 50000000000000) := ⟨by have := HE31.out; have := HLr1.out; have := HLr2.out; omega⟩; have d31 : decide (nn31 < 0) = false := decide_eq_false (by have := HM31.out; omega); refine ⟨_, rfl, ?_⟩; clear HS; have HS := HN; clear HN; clear zg15_0; clear zg15_1; have zg15_0 : w31.cell? ⟨g15, 0, none⟩ = some (.slice Ao14_0 r1.length co14_0) := (blk_cell (HS.get (i := 4) rfl) 0).trans rfl; have zg15_1 : w31.cell? ⟨g15, 1, none⟩ = some (.slice Ao14_1 r2.length co14_1) := (blk_cell (HS.get (i := 4) rfl) 1).trans rfl) | ((with_reducible refine gate_dst (N := 134) rfl ?_); refine goesL_ (some 134) rfl rfl Try.func44 (by kernel_rfl) rfl #[.agg #[.slice Ao14_0 r1.length co14_0, .slice Ao14_1 r2.length co14_1], .int .i64 1] rfl (by (try simp only [List.map_toArray, List.map_cons, List.map_nil]); first | done | rfl) ?_; refine (st_heldPair HS (Kd.R_reads' (HS.get (i := 5) rfl).1) (Kd.R_reads' (HS.get (i := 5) rfl).2) (Nat.le_trans HLr1.out (by decide)) (Nat.le_trans HLr2.out (by decide))).mono ?_; rintro e w32 ⟨nn32, rfl, HE32, HN⟩; have HM32 : Aside0 (nn32 = nn31) := ⟨by have := HE32.out; have := HE31.out; omega⟩; have d32 : decide (nn32 < 0) = false := decide_eq_false (by have := HM32.out; have := HM31.out; omega); have e32 : (nn32 != nn31) = false := bne_eq_false_iff_eq.mpr HM32.out; have i32 : (nn32 == nn31) = true := beq_iff_eq.mpr HM32.out; refine ⟨_, rfl, ?_⟩; clear HS; have HS := HN; clear HN; clear zg15_0; clear zg15_1) | ((with_reducible refine gate_dst (N := 144) rfl ?_); refine goesL_ (some 144) rfl rfl Try.func16 (by kernel_rfl) rfl #[.slice A2 l2.length c2] rfl (by (try simp only [List.map_toArray, List.map_cons, List.map_nil]); first | done | rfl) ?_; refine (st_toIntS HS HR2.out HC2.out (Nat.le_trans HLl2.out (by decide))).mono ?_; rintro e w33 ⟨Ao33, co33, lo33, hi33, rfl, HN⟩; refine ⟨_, rfl, ?_⟩; clear HS; have HS := HN; clear HN) | ((with_reducible refine gate_dst (N := 146) rfl ?_); refine goesL_ (some 146) rfl rfl Try.func32 (by kernel_rfl) rfl #[.slice A3 l3.length c3] rfl (by (try simp only [List.map_toArray, List.map_cons, List.map_nil]); first | done | rfl) ?_; refine (st_toByteSS HS HR3.out HC3.out (Nat.le_trans HLl3.out (by decide))).mono ?_; rintro e w34 ⟨Ao34, co34, lo34, hi34, rfl, HN⟩; refine ⟨_, rfl, ?_⟩; clear HS; have HS := HN; clear HN) | ((with_reducible refine gate_dst (N := 148) rfl ?_); refine goesL_ (some 148) rfl rfl Try.func32 (by kernel_rfl) rfl #[.slice A4 l4.length c4] rfl (by (try simp only [List.map_toArray, List.map_cons, List.map_nil]); first | done | rfl) ?_; refine (st_toByteSS HS HR4.out HC4.out (Nat.le_trans HLl4.out (by decide))).mono ?_; rintro e w35 ⟨Ao35, co35, lo35, hi35, rfl, HN⟩; refine ⟨_, rfl, ?_⟩; clear HS; have HS := HN; clear HN) | ((with_reducible refine gate_dst (N := 150) rfl ?_); refine goesL_ (some 150) rfl rfl Try.func16 (by kernel_rfl) rfl #[.slice A5 l5.length c5] rfl (by (try simp only [List.map_toArray, List.map_cons, List.map_nil]); first | done | rfl) ?_; refine (st_toIntS HS HR5.out HC5.out (Nat.le_trans HLl5.out (by decide))).mono ?_; rintro e w36 ⟨Ao36, co36, lo36, hi36, rfl, HN⟩; refine ⟨_, rfl, ?_⟩; clear HS; have HS := HN; clear HN) | ((with_reducible refine gate_dst (N := 151) rfl ?_); refine goesL_ (some 151) rfl rfl Try.func57 (by kernel_rfl) rfl #[.int .i64 a0, .int .i64 a1, .slice Ao33 l2.length co33, .slice Ao34 l3.length co34, .slice Ao35 l4.length co35, .slice Ao36 l5.length co36] rfl (by (try simp only [List.map_toArray, List.map_cons, List.map_nil]); first | done | rfl) ?_; refine (impl_FromMany.calls (h := HIM.out) (hr2 := (Kd.R_reads' (HS.get (i := 3) rfl)).2.2) (hc2 := (Kd.R_reads' (HS.get (i := 3) rfl)).2.1) (hr3 := (Kd.S_reads' (HS.get (i := 2) rfl)).2.2) (hc3 := (Kd.S_reads' (HS.get (i := 2) rfl)).2.1) (hr4 := (Kd.S_reads' (HS.get (i := 1) rfl)).2.2) (hc4 := (Kd.S_reads' (HS.get (i := 1) rfl)).2.1) (hr5 := (Kd.R_reads' (HS.get (i := 0) rfl)).2.2) (hc5 := (Kd.R_reads' (HS.get (i := 0) rfl)).2.1)).mono ?_; rintro e w37 ⟨v37_0, v37_1, rfl, ho0, ho1, hb⟩; obtain ⟨Ao37_0, co37_0, eo0⟩ := Kd.R_slice ho0; subst eo0; obtain ⟨Ao37_1, co37_1, eo1⟩ := Kd.R_slice ho1; subst eo1; have HN := HS.pushTwo hb ho0 ho1; refine ⟨_, rfl, ?_⟩; clear HS; have HS := HN; clear HN) | ((with_reducible refine gate_dst (N := 25) rfl ?_); refine box_event ?hg (N := 25) ?hd (cs := #[.slice none 0 0, .slice none 0 0]) (t := 50) ?hr ?_; (case hd => rfl); (case hg => rfl); (case hr => first | (go_simp; done) | (go_simp; rfl)); intro g38 hg w38 hbox hb; have HN := HS.box hg hbox hb; have f38_0 := blk_frozen hbox 0; have f38_1 := blk_frozen hbox 1; clear hg hbox hb; clear HS; have HS := HN; clear HN; have zg38_0 : w38.cell? ⟨g38, 0, none⟩ = some (.slice none 0 0) := (blk_cell (HS.get (i := 0) rfl) 0).trans rfl; have zg38_1 : w38.cell? ⟨g38, 1, none⟩ = some (.slice none 0 0) := (blk_cell (HS.get (i := 0) rfl) 1).trans rfl) | ((with_reducible refine gate_store (t := 50) (p := 25) rfl ?_); refine store_event (t := 50) (p := 25) (v := ?vo39) (w1 := ((w38.setCell ⟨g38, 0, none⟩ (.slice Ao37_0 r1.length co37_0)).setCell ⟨g38, 1, none⟩ (.slice Ao37_1 r2.length co37_1))) ?hg ?ho ?hn ?hr ?_; (case ho => rfl); (case hg => rfl); (case hn => rfl); (case hr => first | (go_simp; done) | (go_simp; rfl)); intro w39 hw; have HN : St w w39 (blk g38 #[.slice Ao37_0 r1.length co37_0, .slice Ao37_1 r2.length co37_1] 50 :: _) := (by rw [hw]; exact (HS.put (i := 0) (.slice Ao37_0 r1.length co37_0)).put (i := 1) (.slice Ao37_1 r2.length co37_1)); clear HS; have HS := HN; clear HN hw f38_0 f38_1; clear zg38_0; clear zg38_1; have zg38_0 : w39.cell? ⟨g38, 0, none⟩ = some (.slice Ao37_0 r1.length co37_0) := (blk_cell (HS.get (i := 0) rfl) 0).trans rfl; have zg38_1 : w39.cell? ⟨g38, 1, none⟩ = some (.slice Ao37_1 r2.length co37_1) := (blk_cell (HS.get (i := 0) rfl) 1).trans rfl; have zg8_0 : w39.cell? ⟨g8, 0, none⟩ = some (.slice Ao7_0 r1.length co7_0) := (blk_cell (HS.get (i := 16) rfl) 0).trans rfl; have zg8_1 : w39.cell? ⟨g8, 1, none⟩ = some (.slice Ao7_1 r2.length co7_1) := (blk_cell (HS.get (i := 16) rfl) 1).trans rfl) | ((with_reducible refine gate_dst (N := 156) rfl ?_); refine goesL_ (some 156) rfl rfl Try.func41 (by kernel_rfl) rfl #[.agg #[.slice Ao37_0 r1.length co37_0, .slice Ao37_1 r2.length co37_1], .agg #[.slice Ao7_0 r1.length co7_0, .slice Ao7_1 r2.length co7_1]] rfl (by (try simp only [List.map_toArray, List.map_cons, List.map_nil]); first | done | rfl) ?_; refine (st_eqPair HS (Kd.R_reads' (HS.get (i := 1) rfl).1).2.2 (Kd.R_reads' (HS.get (i := 1) rfl).1).2.1 (Kd.R_reads' (HS.get (i := 1) rfl).2).2.2 (Kd.R_reads' (HS.get (i := 1) rfl).2).2.1 (seenNow (HS.get (i := 17) rfl).1).2.2 (seenNow (HS.get (i := 17) rfl).1).2.1 (seenNow (HS.get (i := 17) rfl).2).2.2 (seenNow (HS.get (i := 17) rfl).2).2.1 (Nat.le_trans HLr1.out (by decide)) (Nat.le_trans HLr2.out (by decide))).mono ?_; rintro e w40 ⟨rfl, HN⟩; refine ⟨_, rfl, ?_⟩; clear HS; have HS := HN; clear HN; clear zg38_0; clear zg38_1; clear zg8_0; clear zg8_1; have zg15_0 : w40.cell? ⟨g15, 0, none⟩ = some (.slice Ao14_0 r1.length co14_0) := (blk_cell (HS.get (i := 10) rfl) 0).trans rfl; have zg15_1 : w40.cell? ⟨g15, 1, none⟩ = some (.slice Ao14_1 r2.length co14_1) := (blk_cell (HS.get (i := 10) rfl) 1).trans rfl) | ((with_reducible refine gate_dst (N := 165) rfl ?_); refine goesL_ (some 165) rfl rfl Try.func44 (by kernel_rfl) rfl #[.agg #[.slice Ao14_0 r1.length co14_0, .slice Ao14_1 r2.length co14_1], .int .i64 1] rfl (by (try simp only [List.map_toArray, List.map_cons, List.map_nil]); first | done | rfl) ?_; refine (st_heldPair HS (Kd.R_reads' (HS.get (i := 11) rfl).1) (Kd.R_reads' (HS.get (i := 11) rfl).2) (Nat.le_trans HLr1.out (by decide)) (Nat.le_trans HLr2.out (by decide))).mono ?_; rintro e w41 ⟨nn41, rfl, HE41, HN⟩; have HM41 : Aside0 (nn41 = nn31) := ⟨by have := HE41.out; have := HE31.out; omega⟩; have d41 : decide (nn41 < 0) = false := decide_eq_false (by have := HM41.out; have := HM31.out; omega); have e41 : (nn41 != nn31) = false := bne_eq_false_iff_eq.mpr HM41.out; have i41 : (nn41 == nn31) = true := beq_iff_eq.mpr HM41.out; refine ⟨_, rfl, ?_⟩; clear HS; have HS := HN; clear HN; clear zg15_0; clear zg15_1))
  go_ret
  exact ⟨rfl, HS.bel⟩
end Go.Proofs.Ytaacidhgnappdaa.X
