/- The walk of the law FnExactLiar: its one way to the end. -/
import Derived.Test.YtchjajbkaiefdaaPFnExactLiarx7
import Derived.Test.YtchjajbkaiefdaaPFnExactLiarx13
import Derived.Test.YtchjajbkaiefdaaPFnExactLiarx14
import Derived.Test.YtchjajbkaiefdaaPFnExactLiarx15
import Derived.Test.YtchjajbkaiefdaaPFnExactLiarx16
import Derived.Test.YtchjajbkaiefdaaPureFnExactLiar
import Derived.Test.YtchjajbkaiefdaaSt
namespace Go.Proofs.Ytchjajbkaiefdaa.X
open Go.RowKit Go.Proofs.Ytchjajbkaiefdaa Go.Proofs.Ytchjajbkaiefdaa.PFnExactLiar Go.Proofs.Ytchjajbkaiefdaa.St Go.Proofs.YtchjajbkaiefdaaW.PrintWords Go.Proofs.YtchjajbkaiefdaaW.PrintLast Go.Proofs.YtchjajbkaiefdaaW.PrintMore Go.Proofs.Ytchjajbkaiefdaa.Slim
set_option linter.unusedVariables false
set_option linter.unusedSimpArgs false

theorem st_szByteSS {W w : World} {L : List Slot} (HS : St W w L) {A : Option Addr} {c : Nat} {l : List (List Int)} (hr : Kd.C (Kd.slice 5 (Kd.int .u8)) W A l.length l) (hc : l.length ≤ c) (hq : l.length ≤ maxLen ∧ ∀ v ∈ l, v.length ≤ maxLen) {a : Int} (h0 : 0 ≤ a) (ha : a ≤ 1048576) :
    Calls Try.prog 25 #[.slice A l.length c, .int .i64 a] w fun e w' => ∃ r : Int, e = .returned (.int .i64 r) ∧ Aside0 (r = Pure.left a (Pure.tot l)) ∧ St W w' L := by
  obtain ⟨k, h⟩ := (Pure.szByteSS l a h0 ha hq.1 hq.2).rounds
  refine (laws_szByteSS.calls (k := k) (h := h) (hr0 := Kd.C_below hr HS.bel) (hc0 := hc)).mono ?_
  rintro e w' ⟨rfl, hd⟩
  exact ⟨_, rfl, ⟨rfl⟩, HS.drawn hd⟩

theorem st_szClaim {W w : World} {L : List Slot} (HS : St W w L) {A A1 : Option Addr} {c c1 : Nat} {x y : Int} {l l1 : List Int} (hr : Kd.C (Kd.int .u8) W A l.length l) (hc : l.length ≤ c) (hr1 : Kd.C (Kd.int .i64) W A1 l1.length l1) (hc1 : l1.length ≤ c1) (hq : l.length ≤ maxLen) (hq1 : l1.length ≤ maxLen) {a : Int} (h0 : 0 ≤ a) (ha : a ≤ 1048576) :
    Calls Try.prog 33 #[.agg #[.int .i64 x, .int .i64 y, .slice A l.length c, .slice A1 l1.length c1], .int .i64 a] w fun e w' => ∃ r : Int, e = .returned (.int .i64 r) ∧ Aside0 (r = Pure.left a (l.length + l1.length)) ∧ St W w' L := by
  have h := Pure.szClaim x y l l1 a h0 ha hq hq1
  refine (laws_szClaim.calls (h := h) (hr0_2 := Kd.C_below hr HS.bel) (hc0_2 := hc) (hr0_3 := Kd.C_below hr1 HS.bel) (hc0_3 := hc1)).mono ?_
  rintro e w' ⟨rfl, hd⟩
  exact ⟨_, rfl, ⟨rfl⟩, HS.below hd⟩

theorem st_toByteSS {W w : World} {L : List Slot} (HS : St W w L) {A : Option Addr} {c : Nat} {l : List (List Int)} (hr : Kd.C (Kd.slice 5 (Kd.int .u8)) W A l.length l) (hc : l.length ≤ c) (hl : Pure.tot l ≤ 10000000000000) :
    Calls Try.prog 27 #[.slice A l.length c] w fun e w' => ∃ (A' : Option Addr) (c' lo hi : Nat), e = .returned (.slice A' l.length c') ∧ St W w' (rows (Kd.slice 5 (Kd.int .u8)) 22 W.heap.size lo hi (.slice A' l.length c') l :: L) := by
  obtain ⟨k, h⟩ := (Pure.toByteSS l hl).rounds
  refine (laws_toByteSS.calls k A c l l w (Kd.C_below hr HS.bel) hc h).mono ?_
  rintro e w' ⟨v, rfl, ho, hb⟩
  obtain ⟨A', c', rfl⟩ := Kd.S_slice ho
  exact ⟨A', c', _, _, rfl, HS.pushRows hb ho⟩

theorem st_toClaim {W w : World} {L : List Slot} (HS : St W w L) {A A1 : Option Addr} {c c1 : Nat} {x y : Int} {l l1 : List Int} (hr : Kd.C (Kd.int .u8) W A l.length l) (hc : l.length ≤ c) (hl : l.length ≤ 10000000000000) (hr1 : Kd.C (Kd.int .i64) W A1 l1.length l1) (hc1 : l1.length ≤ c1) (hl1 : l1.length ≤ 10000000000000) :
    Calls Try.prog 35 #[.agg #[.int .i64 x, .int .i64 y, .slice A l.length c, .slice A1 l1.length c1]] w fun e w' => ∃ (A' : Option Addr) (c' : Nat) (A1' : Option Addr) (c1' lo hi : Nat), e = .returned (.agg #[.int .i64 x, .int .i64 y, .slice A' l.length c', .slice A1' l1.length c1']) ∧ St W w' (two (Kd.int .u8) 5 (Kd.int .i64) 3 W.heap.size lo hi (.slice A' l.length c') l (.slice A1' l1.length c1') l1 :: L) := by
  obtain ⟨k, h⟩ := (Pure.toClaim x y l l1 (by omega) (by omega)).rounds
  refine (laws_toClaim.calls (k := k) (h := h) (hr0_2 := Kd.C_below hr HS.bel) (hc0_2 := hc) (hr0_3 := Kd.C_below hr1 HS.bel) (hc0_3 := hc1)).mono ?_
  rintro e w' ⟨v, v1, rfl, ho, ho1, hb⟩
  obtain ⟨A', c', rfl⟩ := Kd.R_slice ho
  obtain ⟨A1', c1', rfl⟩ := Kd.R_slice ho1
  exact ⟨A', c', A1', c1', _, _, rfl, HS.pushApart hb (by decide) (by decide) ho ho1⟩

theorem st_eqPair {W w : World} {L : List Slot} (HS : St W w L) {A A1 B B1 : Option Addr} {c c1 d d1 : Nat} {l l1 : List Int} (h0 : Kd.C (Kd.int .u8) w A l.length l) (k0 : l.length ≤ c) (h1 : Kd.C (Kd.int .u8) w A1 l1.length l1) (k1 : l1.length ≤ c1) (i0 : Kd.C (Kd.int .u8) w B l.length l) (j0 : l.length ≤ d) (i1 : Kd.C (Kd.int .u8) w B1 l1.length l1) (j1 : l1.length ≤ d1) (hl : l.length ≤ 10000000000000) (hl1 : l1.length ≤ 10000000000000) :
    Calls Try.prog 28 #[.agg #[.slice A l.length c, .slice A1 l1.length c1], .agg #[.slice B l.length d, .slice B1 l1.length d1]] w fun e w' => e = .returned (.bool true) ∧ St W w' L := by
  obtain ⟨k, h⟩ := (Pure.eqPair l l1 (by omega) (by omega)).rounds
  refine (laws_eqPair.calls (k := k) (h := h) (hr0_0 := h0) (hc0_0 := k0) (hr0_1 := h1) (hc0_1 := k1) (hr1_0 := i0) (hc1_0 := j0) (hr1_1 := i1) (hc1_1 := j1)).mono ?_
  rintro e w' ⟨rfl, hd⟩
  exact ⟨rfl, HS.below hd⟩

theorem st_eqByteSS {W w : World} {L : List Slot} (HS : St W w L) {A A1 : Option Addr} {c c1 : Nat} {l : List (List Int)} (h0 : Kd.C (Kd.slice 5 (Kd.int .u8)) w A l.length l) (k0 : l.length ≤ c) (h1 : Kd.C (Kd.slice 5 (Kd.int .u8)) w A1 l.length l) (k1 : l.length ≤ c1) (hl : Pure.tot l ≤ 10000000000000) :
    Calls Try.prog 29 #[.slice A l.length c, .slice A1 l.length c1] w fun e w' => e = .returned (.bool true) ∧ St W w' L := by
  obtain ⟨k, h⟩ := (Pure.eqByteSS l hl).rounds
  refine (laws_eqByteSS.calls k A c l A1 c1 l true w h0 k0 h1 k1 h).mono ?_
  rintro e w' ⟨rfl, hd⟩
  exact ⟨rfl, HS.drawn hd⟩

theorem st_eqClaim {W w : World} {L : List Slot} (HS : St W w L) {A A1 B B1 : Option Addr} {c c1 d d1 : Nat} {x y : Int} {l l1 : List Int} (h0 : Kd.C (Kd.int .u8) w A l.length l) (k0 : l.length ≤ c) (h1 : Kd.C (Kd.int .i64) w A1 l1.length l1) (k1 : l1.length ≤ c1) (i0 : Kd.C (Kd.int .u8) w B l.length l) (j0 : l.length ≤ d) (i1 : Kd.C (Kd.int .i64) w B1 l1.length l1) (j1 : l1.length ≤ d1) (hl : l.length ≤ 10000000000000) (hl1 : l1.length ≤ 10000000000000) :
    Calls Try.prog 36 #[.agg #[.int .i64 x, .int .i64 y, .slice A l.length c, .slice A1 l1.length c1], .agg #[.int .i64 x, .int .i64 y, .slice B l.length d, .slice B1 l1.length d1]] w fun e w' => e = .returned (.bool true) ∧ St W w' L := by
  obtain ⟨k, h⟩ := (Pure.eqClaim x y l l1 hl hl1).rounds
  refine (laws_eqClaim.calls (k := k) (h := h) (hr0_2 := h0) (hc0_2 := k0) (hr0_3 := h1) (hc0_3 := k1) (hr1_2 := i0) (hc1_2 := j0) (hr1_3 := i1) (hc1_3 := j1)).mono ?_
  rintro e w' ⟨rfl, hd⟩
  exact ⟨rfl, HS.below hd⟩

set_option maxHeartbeats 4000000 in
set_option maxRecDepth 100000 in
theorem markSS_walk (W w : World) (lo hi : Nat) (A : Option Addr) (c : Nat) (l : List (List Int)) (a : Int) (h0 : 0 ≤ a) (ha : a + Pure.tsum l ≤ 4611686018427387904) (hB : Below W.heap.size W w)
    (hS : Kd.S (Kd.slice 5 (Kd.int .u8)) 22 w W.heap.size (fun k => (lo ≤ k ∧ k < hi) ∧ True) (.slice A l.length c) l) :
    Calls Try.prog 30 #[.slice A l.length c, .int .i64 a] w fun e w' => e = .returned (.int .i64 (a + Pure.tsum l)) ∧ Kd.S (Kd.slice 5 (Kd.int .u8)) 22 w' W.heap.size (fun k => (lo ≤ k ∧ k < hi) ∧ True) (.slice A l.length c) (Pure.markedSS a l) ∧ Below W.heap.size W w' ∧ Kept w w' (fun k => lo ≤ k ∧ k < hi) := by
  have HS := Aside0.mk hS
  have HB := Aside0.mk hB
  have HA := Aside0.mk ha
  have H0 := Aside0.mk h0
  have HM : Aside0 (l.length ≤ 9223372036854775807) := ⟨(Kd.S_reads' hS).2.2.2.1⟩
  clear hS hB ha h0
  go_enter Try.func30, Try.ntmps30
  go_wp2
  go_loopw [1, 5] (fun v i wr => ∃ j : Nat, i = .int .i64 j ∧ (∃ r : Int, v = .int .i64 r ∧ Aside0 (r = a + Pure.tsum (l.take j))) ∧ Aside0 (j ≤ l.length) ∧ Aside0 (Kd.S (Kd.slice 5 (Kd.int .u8)) 22 wr W.heap.size (fun k => (lo ≤ k ∧ k < hi) ∧ True) (.slice A l.length c) (Pure.markedSS a (l.take j) ++ l.drop j)) ∧ Aside0 (Below W.heap.size W wr) ∧ Aside0 (Kept w wr (fun k => lo ≤ k ∧ k < hi))) (fun _ i _ => l.length - (intOf i).toNat)
  case atStart => exact ⟨0, rfl, ⟨a, rfl, ⟨by simp [Pure.tsum]⟩⟩, ⟨Nat.zero_le _⟩, ⟨HS.out⟩, ⟨HB.out⟩, ⟨Kept.refl _ _⟩⟩
  case round =>
    clear HS HB
    obtain ⟨j, rfl, ⟨r, rfl, HR⟩, HJ, HS, HB, HK⟩ := hrel
    by_cases hlt : j < l.length
    · have c0 : decide (j < l.length) = true := decide_eq_true hlt
      have c1 : decide ((j : Int) < (l.length : Int)) = true := decide_eq_true (by omega)
      have p1 : 0 ≤ (j : Int) := Int.natCast_nonneg j
      have q1 : (j : Int) < (l.length : Int) := by omega
      have hlen : (Pure.markedSS a (l.take j) ++ l.drop j).length = l.length := by rw [List.length_append, Pure.markedSS_length, List.length_take, List.length_drop]; omega
      obtain ⟨g, cap, e, hg1, hg2, cells, hg3⟩ := Kd.S_form HS.out (by omega)
      injection e with e1 e2 e3
      subst e1
      obtain ⟨oki, cc, hcl, hM, hcc, hoki, hH⟩ := Kd.S_lend HS.out ([] : List Int) (j : Int) p1 q1
      obtain ⟨v, rfl, hR⟩ := hM
      obtain ⟨A0, c2, rfl⟩ := Kd.R_slice hR
      have hx := hcc 0 _ rfl
      rw [Int.toNat_natCast] at hx hR hH
      have e4 : j * (Kd.slice 5 (Kd.int .u8)).sz + 0 = j := Nat.mul_one j
      rw [e4, Pure.markedSS_at a l j hlt] at hx
      rw [Pure.markedSS_at a l j hlt] at hR hH
      have HX := Aside0.mk hR
      have HH := Aside0.mk hH
      have HO := Aside0.mk hoki
      have HL := Aside0.mk hlt
      have hts := Pure.tsum_snoc l j hlt
      have htk := Pure.tsum_take l (j + 1)
      have HT := Aside0.mk hts
      have HU := Aside0.mk htk
      obtain ⟨k, hmk⟩ := (Pure.markByteS (l.getD j []) r (by have := HR.out; have := H0.out; omega) (by have := HR.out; have := HA.out; omega)).rounds
      have HMK := Aside0.mk hmk
      have hst := Pure.markedSS_step a l j hlt
      have HST := Aside0.mk hst
      clear hlt hlen hg1 hg2 hg3 hcl hR hH hoki hts htk hmk hst hcc e2 e3
      generalize l.getD j [] = x at hx HX HT HMK HST HH
      go_wp2_with fail
      refine (laws_markByteS.calls k oki (.slice A0 x.length c2) x r _ _ W wr HB.out HX.out HMK.out).mono ?_
      rintro e w' ⟨rfl, ho, hb, hk⟩
      have b2 : (j : Int) ≤ 9223372036854775806 := by have := HL.out; have := HM.out; omega
      have HN1 := Aside0.mk (Kd.H_back (Kd.H_kept HH.out hk (fun _ _ hn hs => hn hs)) (x' := Pure.marked r x.length) (okp := oki) ⟨_, rfl, Kd.R_reok rfl ho (fun k hk => HX.out.1 k hk)⟩ (fun _ h => h))
      have HN2 := Aside0.mk hb
      have HN3 := Aside0.mk (HK.out.then_ hk (fun k hs => .inl (HO.out k hs).1.1))
      clear HS HB HK hk hb ho HH hx
      go_wp2
      go_roundw
      case rel => exact ⟨j + 1, by go_num, ⟨_, rfl, ⟨by have := HR.out; have := HT.out; omega⟩⟩, ⟨HL.out⟩, ⟨by have h := HN1.out; rw [Int.toNat_natCast, HR.out, HST.out] at h; exact h⟩, ⟨HN2.out⟩, ⟨HN3.out⟩⟩
      case measure => have := HL.out; simp [intOf]; omega
    · have c0 : decide (j < l.length) = false := decide_eq_false hlt
      have c1 : decide ((j : Int) < (l.length : Int)) = false := decide_eq_false (by omega)
      obtain rfl : j = l.length := by have := HJ.out; omega
      clear hlt
      go_wp2
      go_ret
      exact ⟨by have h := HR.out; rw [List.take_length] at h; first | (rw [h]; done) | (rw [h]; rfl), by have h := HS.out; rw [List.take_length, List.drop_length, List.append_nil] at h; exact h, HB.out, HK.out⟩
theorem st_markByteSS {W w : World} {L : List Slot} (HS : St W w L) {i lo hi : Nat} {A : Option Addr} {c : Nat} {l : List (List Int)} (hi' : L[i]? = some (rows (Kd.slice 5 (Kd.int .u8)) 22 W.heap.size lo hi (.slice A l.length c) l)) {a : Int} (h0 : 0 ≤ a) (ha : a + Pure.tsum l ≤ 4611686018427387904) :
    Calls Try.prog 30 #[.slice A l.length c, .int .i64 a] w fun e w' => ∃ r : Int, e = .returned (.int .i64 r) ∧ Aside0 (r = a + Pure.tsum l) ∧ St W w' (L.set i (rows (Kd.slice 5 (Kd.int .u8)) 22 W.heap.size lo hi (.slice A l.length c) (Pure.markedSS a l))) := by
  refine (markSS_walk W w lo hi A c l a h0 ha HS.bel (HS.get hi')).mono ?_
  rintro e w' ⟨rfl, ho, hb, hk⟩
  exact ⟨_, rfl, ⟨rfl⟩, HS.write hi' hk hb (rows (Kd.slice 5 (Kd.int .u8)) 22 W.heap.size lo hi (.slice A l.length c) (Pure.markedSS a l)) ho rfl rfl⟩

theorem st_markClaim {W w : World} {L : List Slot} (HS : St W w L) {i lo hi : Nat} {v v1 : Value} {x y : Int} {l l1 : List Int} (hi' : L[i]? = some (two (Kd.int .u8) 5 (Kd.int .i64) 3 W.heap.size lo hi v l v1 l1)) {a : Int} (h0 : 0 ≤ a) (ha : a + l.length + l1.length ≤ 4611686018427387904) :
    Calls Try.prog 37 #[.agg #[.int .i64 x, .int .i64 y, v, v1], .int .i64 a] w fun e w' => ∃ r : Int, e = .returned (.int .i64 r) ∧ Aside0 (r = a + l.length + l1.length) ∧ St W w' (L.set i (two (Kd.int .u8) 5 (Kd.int .i64) 3 W.heap.size lo hi v (Pure.marked a l.length) v1 (Pure.markedI (a + l.length) l1.length))) := by
  obtain ⟨k, h⟩ := (Pure.markClaim x y l l1 a h0 ha).rounds
  have h2 : (two (Kd.int .u8) 5 (Kd.int .i64) 3 W.heap.size lo hi v l v1 l1).P w := HS.get hi'
  refine (laws_markClaim.calls (k := k) (h := h) (P0_2_ := fun k => (lo ≤ k ∧ k < hi) ∧ some k = v.ownBlock) (P0_3_ := fun k => (lo ≤ k ∧ k < hi) ∧ some k = v1.ownBlock) (hB := HS.bel) (ho0_2 := Kd.R_reok rfl h2.1 (fun k hk => ⟨(h2.1.1 k hk).1, hk.symm⟩)) (ho0_3 := Kd.R_reok rfl h2.2 (fun k hk => ⟨(h2.2.1 k hk).1, hk.symm⟩))).mono ?_
  rintro e w' ⟨rfl, ho, ho1, hb, hk⟩
  exact ⟨_, rfl, ⟨rfl⟩, HS.writeTwo rfl rfl hi' (hk.mono (fun k h => h.elim (fun h => h.1) (fun h => h.1))) hb ho ho1⟩

theorem st_markPair {W w : World} {L : List Slot} (HS : St W w L) {i lo hi : Nat} {v v1 : Value} {l l1 : List Int} (hi' : L[i]? = some (two (Kd.int .u8) 5 (Kd.int .u8) 5 W.heap.size lo hi v l v1 l1)) (hl : l.length ≤ 10000000000000) (hl1 : l1.length ≤ 10000000000000) :
    Calls Try.prog 31 #[.agg #[v, v1], .int .i64 1] w fun e w' => ∃ r : Int, e = .returned (.int .i64 r) ∧ Aside0 (r = 1 + l.length + l1.length) ∧ St W w' (L.set i (two (Kd.int .u8) 5 (Kd.int .u8) 5 W.heap.size lo hi v (Pure.marked 1 l.length) v1 (Pure.marked (1 + l.length) l1.length))) := by
  obtain ⟨k, h⟩ := (Pure.markPair l l1 (by omega) (by omega)).rounds
  have h2 : (two (Kd.int .u8) 5 (Kd.int .u8) 5 W.heap.size lo hi v l v1 l1).P w := HS.get hi'
  refine (laws_markPair.calls (k := k) (h := h) (P0_0_ := fun k => (lo ≤ k ∧ k < hi) ∧ some k = v.ownBlock) (P0_1_ := fun k => (lo ≤ k ∧ k < hi) ∧ some k = v1.ownBlock) (hB := HS.bel) (ho0_0 := Kd.R_reok rfl h2.1 (fun k hk => ⟨(h2.1.1 k hk).1, hk.symm⟩)) (ho0_1 := Kd.R_reok rfl h2.2 (fun k hk => ⟨(h2.2.1 k hk).1, hk.symm⟩))
    (hp0_0_0_1 := fun k hk hk2 => (h2.1.1 k hk.2.symm).2 hk2.2) (hp0_1_0_0 := fun k hk hk2 => (h2.1.1 k hk2.2.symm).2 hk.2)).mono ?_
  rintro e w' ⟨rfl, ho, ho1, hb, hk⟩
  exact ⟨_, rfl, ⟨rfl⟩, HS.writeTwo rfl rfl hi' (hk.mono (fun k h => h.elim (fun h => h.1) (fun h => h.1))) hb ho ho1⟩

theorem st_heldPair {W w : World} {L : List Slot} (HS : St W w L) {A A1 : Option Addr} {n0 c n1 c1 m m1 : Nat} (hr : n0 = (Pure.marked 1 m).length ∧ n0 ≤ c ∧ Kd.C (Kd.int .u8) w A (Pure.marked 1 m).length (Pure.marked 1 m)) (hr1 : n1 = (Pure.marked (1 + m) m1).length ∧ n1 ≤ c1 ∧ Kd.C (Kd.int .u8) w A1 (Pure.marked (1 + m) m1).length (Pure.marked (1 + m) m1)) (hl : m ≤ 10000000000000) (hl1 : m1 ≤ 10000000000000) :
    Calls Try.prog 32 #[.agg #[.slice A n0 c, .slice A1 n1 c1], .int .i64 1] w fun e w' => ∃ r : Int, e = .returned (.int .i64 r) ∧ Aside0 (r = 1 + m + m1) ∧ St W w' L := by
  obtain ⟨k, h⟩ := (Pure.heldPair m m1 (by omega) (by omega)).rounds
  obtain ⟨rfl, hc, hr⟩ := hr
  obtain ⟨rfl, hc1, hr1⟩ := hr1
  refine (laws_heldPair.calls (k := k) (h := h) (hr0_0 := hr) (hc0_0 := hc) (hr0_1 := hr1) (hc0_1 := hc1)).mono ?_
  rintro e w' ⟨rfl, hd⟩
  exact ⟨_, rfl, ⟨rfl⟩, HS.below hd⟩

def ex_T8 : Bool × List (List Nat × List Nat) := (true, [([], []), ([], []), ([1], [1]), ([], []), ([3, 2], [3]), ([0, 2, 4, 4], [0, 2, 4]), ([5], [5]), ([6], [6]), ([6], [6]), ([], []), ([9, 7, 5, 0, 1, 2, 3, 4, 5, 6, 7, 9], [7, 9]), ([8, 10, 0, 1, 2, 3, 4, 5, 6, 7, 8, 9, 10], [8])])
def ex_B8 : List Nat := [0, 0, 2, 0, 14, 31, 63, 127, 127, 0, 767, 2047]
theorem ex_tab8 : rtab .any (opsOf Try.f6 8) = ex_T8 := by kernel_rfl
theorem ex_bits8 : waitsOk ex_T8.2 ex_B8 = true := by kernel_rfl
def ex_T16 : Bool × List (List Nat × List Nat) := (true, [([], []), ([], []), ([1], [1]), ([0, 2, 2], [0, 2]), ([3], [3])])
def ex_B16 : List Nat := [0, 0, 2, 7, 15]
theorem ex_tab16 : rtab .any (opsOf Try.f6 16) = ex_T16 := by kernel_rfl
theorem ex_bits16 : waitsOk ex_T16.2 ex_B16 = true := by kernel_rfl
def ex_T31 : Bool × List (List Nat × List Nat) := (true, [([], []), ([], []), ([1], [1]), ([], []), ([3, 2], [3]), ([0, 2, 4, 4], [0, 2, 4]), ([5], [5]), ([6], [6]), ([6], [6]), ([], []), ([9, 7, 5, 0, 1, 2, 3, 4, 5, 6, 7, 9], [7, 9]), ([8, 10, 0, 1, 2, 3, 4, 5, 6, 7, 8, 9, 10], [8])])
def ex_B31 : List Nat := [0, 0, 2, 0, 14, 31, 63, 127, 127, 0, 767, 2047]
theorem ex_tab31 : rtab .any (opsOf Try.f6 31) = ex_T31 := by kernel_rfl
theorem ex_bits31 : waitsOk ex_T31.2 ex_B31 = true := by kernel_rfl
set_option maxHeartbeats 8000000 in
set_option maxRecDepth 100000 in
theorem walk (a0 : Int) (A1 : Option Addr) (c1 : Nat) (l1 : List (List Int)) (a2_0 : Int) (a2_1 : Int) (A2_2 : Option Addr) (c2_2 : Nat) (l2_2 : List Int) (A2_3 : Option Addr) (c2_3 : Nat) (l2_3 : List Int) (w : World) (hq0 : (Lit.int .i64 a0).wf = true) (hr1 : Kd.C (Kd.slice 5 (Kd.int .u8)) w A1 l1.length l1) (hc1 : l1.length ≤ c1) (hq1 : (l1.length ≤ maxLen ∧ ∀ v0 ∈ l1, (v0.length ≤ maxLen ∧ ∀ v1 ∈ v0, (Lit.int .u8 v1).wf = true))) (hq2_0 : (Lit.int .i64 a2_0).wf = true) (hq2_1 : (Lit.int .i64 a2_1).wf = true) (hr2_2 : Kd.C (Kd.int .u8) w A2_2 l2_2.length l2_2) (hc2_2 : l2_2.length ≤ c2_2) (hq2_2 : (l2_2.length ≤ maxLen ∧ ∀ v0 ∈ l2_2, (Lit.int .u8 v0).wf = true)) (hr2_3 : Kd.C (Kd.int .i64) w A2_3 l2_3.length l2_3) (hc2_3 : l2_3.length ≤ c2_3) (hq2_3 : (l2_3.length ≤ maxLen ∧ ∀ v0 ∈ l2_3, (Lit.int .i64 v0).wf = true)) :
    Calls Try.prog 6 #[.int .i64 a0, .slice A1 l1.length c1, .agg #[.int .i64 a2_0, .int .i64 a2_1, .slice A2_2 l2_2.length c2_2, .slice A2_3 l2_3.length c2_3]] w fun e w' => e = .returned (.bool true) ∧ Below w.heap.size w w' := by
  have HQ0 := Aside0.mk hq0
  clear hq0
  have HR1 := Aside0.mk hr1
  have HC1 := Aside0.mk hc1
  have HQ1 := Aside0.mk hq1
  clear hr1 hc1 hq1
  have HQ2_0 := Aside0.mk hq2_0
  clear hq2_0
  have HQ2_1 := Aside0.mk hq2_1
  clear hq2_1
  have HR2_2 := Aside0.mk hr2_2
  have HC2_2 := Aside0.mk hc2_2
  have HQ2_2 := Aside0.mk hq2_2
  clear hr2_2 hc2_2 hq2_2
  have HR2_3 := Aside0.mk hr2_3
  have HC2_3 := Aside0.mk hc2_3
  have HQ2_3 := Aside0.mk hq2_3
  clear hr2_3 hc2_3 hq2_3
  obtain ⟨SV0, ev0⟩ : ∃ z : Int, z = Pure.left 1048576 (Pure.tot l1) := ⟨_, rfl⟩
  have EV0 := Aside0.mk ev0
  clear ev0
  by_cases g0 : SV0 < 0
  · have GS0 := Aside0.mk g0
    clear g0
    go_enter Try.func6, Try.ntmps6
    have HS := St.nil w
    go_wp2_with (first | ((with_reducible refine gate_dst (N := 5) rfl ?_); refine box_event ?hg (N := 5) ?hd (cs := #[.int .i64 a2_0, .int .i64 a2_1, .slice A2_2 l2_2.length c2_2, .slice A2_3 l2_3.length c2_3]) (t := 58) ?hr ?_; (case hd => rfl); (case hg => rfl); (case hr => first | (go_simp; done) | (go_simp; rfl)); intro g1 hg w1 hbox hb; have HN := HS.box hg hbox hb; clear hg hbox hb; clear HS; have HS := HN; clear HN) | ((with_reducible refine gate_dst (N := 21) rfl ?_); refine goesL_ (some 21) rfl rfl Try.func25 (by kernel_rfl) rfl #[.slice A1 l1.length c1, .int .i64 1048576] rfl (by (try simp only [List.map_toArray, List.map_cons, List.map_nil]); first | done | rfl) ?_; refine (st_szByteSS HS HR1.out HC1.out ⟨HQ1.out.1, fun v hv => (HQ1.out.2 v hv).1⟩ (by decide) (by decide)).mono ?_; rintro e w2 ⟨nn2, rfl, HE2, HN⟩; have HV2 : Aside0 (nn2 = SV0) := ⟨by rw [HE2.out]; exact EV0.out.symm⟩; have d2 : decide (nn2 < 0) = true := decide_eq_true (by have := HV2.out; have := GS0.out; omega); refine ⟨_, rfl, ?_⟩; clear HS; have HS := HN; clear HN; have zg1_0 : w2.cell? ⟨g1, 0, none⟩ = some (.int .i64 a2_0) := (blk_cell (HS.get (i := 0) rfl) 0).trans rfl; have zg1_1 : w2.cell? ⟨g1, 1, none⟩ = some (.int .i64 a2_1) := (blk_cell (HS.get (i := 0) rfl) 1).trans rfl; have zg1_2 : w2.cell? ⟨g1, 2, none⟩ = some (.slice A2_2 l2_2.length c2_2) := (blk_cell (HS.get (i := 0) rfl) 2).trans rfl; have zg1_3 : w2.cell? ⟨g1, 3, none⟩ = some (.slice A2_3 l2_3.length c2_3) := (blk_cell (HS.get (i := 0) rfl) 3).trans rfl))
    go_ret
    exact ⟨rfl, HS.bel⟩
  have GS0 := Aside0.mk g0
  clear g0
  have GT0 : Aside0 (SV0 = 1048576 - ((Pure.tot l1 : Nat) : Int)) := ⟨by have h := EV0.out; have := GS0.out; rw [h]; exact Pure.left_ok (by rw [← h]; exact this)⟩
  have GU0 : Aside0 (SV0 ≤ 1048576) := ⟨by have := GT0.out; omega⟩
  have GLl1 : Aside0 (Pure.tot l1 ≤ 1048576) := ⟨by have := GT0.out; have := GS0.out; omega⟩
  have HLl1 : Aside0 (Pure.tot l1 ≤ 1000000000000) := ⟨by have := GLl1.out; omega⟩
  have HTl1 : Aside0 (Pure.tsum l1 ≤ 1000000000000) := ⟨Nat.le_trans (Pure.tsum_le l1) HLl1.out⟩
  obtain ⟨SV1, ev1⟩ : ∃ z : Int, z = Pure.left SV0 (l2_2.length + l2_3.length) := ⟨_, rfl⟩
  have EV1 := Aside0.mk ev1
  clear ev1
  by_cases g1 : SV1 < 0
  · have GS1 := Aside0.mk g1
    clear g1
    go_enter Try.func6, Try.ntmps6
    have HS := St.nil w
    go_wp2_with (first | ((with_reducible refine gate_dst (N := 5) rfl ?_); refine box_event ?hg (N := 5) ?hd (cs := #[.int .i64 a2_0, .int .i64 a2_1, .slice A2_2 l2_2.length c2_2, .slice A2_3 l2_3.length c2_3]) (t := 58) ?hr ?_; (case hd => rfl); (case hg => rfl); (case hr => first | (go_simp; done) | (go_simp; rfl)); intro g1 hg w1 hbox hb; have HN := HS.box hg hbox hb; clear hg hbox hb; clear HS; have HS := HN; clear HN) | ((with_reducible refine gate_dst (N := 21) rfl ?_); refine goesL_ (some 21) rfl rfl Try.func25 (by kernel_rfl) rfl #[.slice A1 l1.length c1, .int .i64 1048576] rfl (by (try simp only [List.map_toArray, List.map_cons, List.map_nil]); first | done | rfl) ?_; refine (st_szByteSS HS HR1.out HC1.out ⟨HQ1.out.1, fun v hv => (HQ1.out.2 v hv).1⟩ (by decide) (by decide)).mono ?_; rintro e w2 ⟨nn2, rfl, HE2, HN⟩; have HV2 : Aside0 (nn2 = SV0) := ⟨by rw [HE2.out]; exact EV0.out.symm⟩; have HB2 : Aside0 (0 ≤ nn2 ∧ nn2 ≤ 1048576) := ⟨by have := HV2.out; have := GS0.out; have := GU0.out; omega⟩; have d2 : decide (nn2 < 0) = false := decide_eq_false (by have := HB2.out; omega); refine ⟨_, rfl, ?_⟩; clear HS; have HS := HN; clear HN; have zg1_0 : w2.cell? ⟨g1, 0, none⟩ = some (.int .i64 a2_0) := (blk_cell (HS.get (i := 0) rfl) 0).trans rfl; have zg1_1 : w2.cell? ⟨g1, 1, none⟩ = some (.int .i64 a2_1) := (blk_cell (HS.get (i := 0) rfl) 1).trans rfl; have zg1_2 : w2.cell? ⟨g1, 2, none⟩ = some (.slice A2_2 l2_2.length c2_2) := (blk_cell (HS.get (i := 0) rfl) 2).trans rfl; have zg1_3 : w2.cell? ⟨g1, 3, none⟩ = some (.slice A2_3 l2_3.length c2_3) := (blk_cell (HS.get (i := 0) rfl) 3).trans rfl) | ((with_reducible refine gate_dst (N := 26) rfl ?_); refine goesL_ (some 26) rfl rfl Try.func33 (by kernel_rfl) rfl #[.agg #[.int .i64 a2_0, .int .i64 a2_1, .slice A2_2 l2_2.length c2_2, .slice A2_3 l2_3.length c2_3], .int .i64 nn2] rfl (by (try simp only [List.map_toArray, List.map_cons, List.map_nil]); first | done | rfl) ?_; refine (st_szClaim HS HR2_2.out HC2_2.out HR2_3.out HC2_3.out HQ2_2.out.1 HQ2_3.out.1 HB2.out.1 HB2.out.2).mono ?_; rintro e w3 ⟨nn3, rfl, HE3, HN⟩; have HV3 : Aside0 (nn3 = SV1) := ⟨by rw [HE3.out, HV2.out]; exact EV1.out.symm⟩; have d3 : decide (nn3 < 0) = true := decide_eq_true (by have := HV3.out; have := GS1.out; omega); refine ⟨_, rfl, ?_⟩; clear HS; have HS := HN; clear HN; clear zg1_0; clear zg1_1; clear zg1_2; clear zg1_3))
    go_ret
    exact ⟨rfl, HS.bel⟩
  have GS1 := Aside0.mk g1
  clear g1
  have GT1 : Aside0 (SV1 = SV0 - ((l2_2.length + l2_3.length : Nat) : Int)) := ⟨by have h := EV1.out; have := GS1.out; rw [h]; exact Pure.left_ok (by rw [← h]; exact this)⟩
  have GU1 : Aside0 (SV1 ≤ 1048576) := ⟨by have := GT1.out; have := GU0.out; omega⟩
  have GLl2_2 : Aside0 (l2_2.length ≤ 1048576) := ⟨by have := GT1.out; have := GS1.out; have := GU0.out; omega⟩
  have HLl2_2 : Aside0 (l2_2.length ≤ 1000000000000) := ⟨by have := GLl2_2.out; omega⟩
  have GLl2_3 : Aside0 (l2_3.length ≤ 1048576) := ⟨by have := GT1.out; have := GS1.out; have := GU0.out; omega⟩
  have HLl2_3 : Aside0 (l2_3.length ≤ 1000000000000) := ⟨by have := GLl2_3.out; omega⟩
  obtain ⟨r1, r2, r3, ⟨ks, hsp⟩, ⟨ki, him⟩, hbr1, hbr2⟩ := Pure.FnExactLiar a0 l1 a2_0 a2_1 l2_2 l2_3 HQ0.out HQ1.out HQ2_0.out HQ2_1.out HQ2_2.out HQ2_3.out GLl1.out GLl2_2.out GLl2_3.out
  have HSP := Aside0.mk hsp
  have HIM := Aside0.mk him
  clear hsp him
  have HLr1 := Aside0.mk hbr1
  clear hbr1
  have HLr2 := Aside0.mk hbr2
  clear hbr2
  have er3 : (r3 != r3) = false := bne_self_eq_false _
  have ir3 : (r3 == r3) = true := beq_self_eq_true _
  go_enter Try.func6, Try.ntmps6
  have HS := St.nil w
  go_upto_region 8 with (first | ((with_reducible refine gate_dst (N := 5) rfl ?_); refine box_event ?hg (N := 5) ?hd (cs := #[.int .i64 a2_0, .int .i64 a2_1, .slice A2_2 l2_2.length c2_2, .slice A2_3 l2_3.length c2_3]) (t := 58) ?hr ?_; (case hd => rfl); (case hg => rfl); (case hr => first | (go_simp; done) | (go_simp; rfl)); intro g1 hg w1 hbox hb; have HN := HS.box hg hbox hb; clear hg hbox hb; clear HS; have HS := HN; clear HN) | ((with_reducible refine gate_dst (N := 21) rfl ?_); refine goesL_ (some 21) rfl rfl Try.func25 (by kernel_rfl) rfl #[.slice A1 l1.length c1, .int .i64 1048576] rfl (by (try simp only [List.map_toArray, List.map_cons, List.map_nil]); first | done | rfl) ?_; refine (st_szByteSS HS HR1.out HC1.out ⟨HQ1.out.1, fun v hv => (HQ1.out.2 v hv).1⟩ (by decide) (by decide)).mono ?_; rintro e w2 ⟨nn2, rfl, HE2, HN⟩; have HV2 : Aside0 (nn2 = SV0) := ⟨by rw [HE2.out]; exact EV0.out.symm⟩; have HB2 : Aside0 (0 ≤ nn2 ∧ nn2 ≤ 1048576) := ⟨by have := HV2.out; have := GS0.out; have := GU0.out; omega⟩; have d2 : decide (nn2 < 0) = false := decide_eq_false (by have := HB2.out; omega); refine ⟨_, rfl, ?_⟩; clear HS; have HS := HN; clear HN; have zg1_0 : w2.cell? ⟨g1, 0, none⟩ = some (.int .i64 a2_0) := (blk_cell (HS.get (i := 0) rfl) 0).trans rfl; have zg1_1 : w2.cell? ⟨g1, 1, none⟩ = some (.int .i64 a2_1) := (blk_cell (HS.get (i := 0) rfl) 1).trans rfl; have zg1_2 : w2.cell? ⟨g1, 2, none⟩ = some (.slice A2_2 l2_2.length c2_2) := (blk_cell (HS.get (i := 0) rfl) 2).trans rfl; have zg1_3 : w2.cell? ⟨g1, 3, none⟩ = some (.slice A2_3 l2_3.length c2_3) := (blk_cell (HS.get (i := 0) rfl) 3).trans rfl) | ((with_reducible refine gate_dst (N := 26) rfl ?_); refine goesL_ (some 26) rfl rfl Try.func33 (by kernel_rfl) rfl #[.agg #[.int .i64 a2_0, .int .i64 a2_1, .slice A2_2 l2_2.length c2_2, .slice A2_3 l2_3.length c2_3], .int .i64 nn2] rfl (by (try simp only [List.map_toArray, List.map_cons, List.map_nil]); first | done | rfl) ?_; refine (st_szClaim HS HR2_2.out HC2_2.out HR2_3.out HC2_3.out HQ2_2.out.1 HQ2_3.out.1 HB2.out.1 HB2.out.2).mono ?_; rintro e w3 ⟨nn3, rfl, HE3, HN⟩; have HV3 : Aside0 (nn3 = SV1) := ⟨by rw [HE3.out, HV2.out]; exact EV1.out.symm⟩; have HB3 : Aside0 (0 ≤ nn3 ∧ nn3 ≤ 1048576) := ⟨by have := HV3.out; have := GS1.out; have := GU1.out; omega⟩; have d3 : decide (nn3 < 0) = false := decide_eq_false (by have := HB3.out; omega); refine ⟨_, rfl, ?_⟩; clear HS; have HS := HN; clear HN; clear zg1_0; clear zg1_1; clear zg1_2; clear zg1_3))
  refine start_ (n := 12) (S := (fun w' => w'.cell? ⟨g1, 0, none⟩ = some (.int .i64 a2_0) ∧ w'.cell? ⟨g1, 1, none⟩ = some (.int .i64 a2_1) ∧ w'.cell? ⟨g1, 2, none⟩ = some (.slice A2_2 l2_2.length c2_2) ∧ w'.cell? ⟨g1, 3, none⟩ = some (.slice A2_3 l2_3.length c2_3))) (ds := []) #[false, false, false, false, false, false, false, false, false, false, false, false] (by kernel_rfl) rfl rfl ⟨(blk_cell (HS.drew.get (i := 0) rfl) 0).trans rfl, (blk_cell (HS.drew.get (i := 0) rfl) 1).trans rfl, (blk_cell (HS.drew.get (i := 0) rfl) 2).trans rfl, (blk_cell (HS.drew.get (i := 0) rfl) 3).trans rfl⟩ (fun hHeld => ?_)
  have HN := HS.drew
  clear HS
  generalize w3.drew = wd8 at HN hHeld ⊢
  have HS := HN
  clear HN
  refine with_tabW ex_tab8 ex_bits8 (fun HT_ HW_ => ?_)
  refine pz (i := 0) (N := some 30) #[true, false, false, false, false, false, false, false, false, false, false, false] rfl rfl HT_.out ?_
  refine pz (i := 1) (N := some 31) #[true, true, false, false, false, false, false, false, false, false, false, false] rfl rfl HT_.out ?_
  refine tz (i := 3) (N := some 33) #[true, true, false, true, false, false, false, false, false, false, false, false] rfl rfl HT_.out HW_.out hHeld (Or.inl ⟨by rfl, by rintro w' ⟨s0, s1, s2, s3⟩; go_simp; with_reducible rfl⟩) ?_
  refine two_ (i := 2) (j := 9) (Ni := some 32) (Nj := some 8) #[true, true, true, true, false, false, false, false, false, false, false, false] #[true, true, false, true, false, false, false, false, false, true, false, false] rfl rfl rfl rfl (two_of HT_.out (by kernel_rfl)) (by decide) (by decide) (fun K hK => ?_) (fun K hK => ?_)
  focus
    clear hHeld
    refine goes_ Try.func27 (by kernel_rfl) rfl #[.slice A1 l1.length c1] (by rfl) rfl rfl av ?_
    refine (st_toByteSS HS HR1.out HC1.out (Nat.le_trans HLl1.out (by decide))).mono ?_
    rintro e w4 ⟨Ao4, co4, lo4, hi4, rfl, HN⟩
    refine ⟨_, rfl, ?_⟩
    clear HS
    have HS := HN
    clear HN
    refine hK.out _ _ ⟨(blk_cell (HS.get (i := 1) rfl) 0).trans rfl, (blk_cell (HS.get (i := 1) rfl) 1).trans rfl, (blk_cell (HS.get (i := 1) rfl) 2).trans rfl, (blk_cell (HS.get (i := 1) rfl) 3).trans rfl⟩ (fun hHeld => ?_)
    clear hK K
    refine nz (N := some 32) ?_
    refine two_ (i := 4) (j := 9) (Ni := some 34) (Nj := some 8) #[true, true, true, true, true, false, false, false, false, false, false, false] #[true, true, true, true, false, false, false, false, false, true, false, false] rfl rfl rfl rfl (two_of HT_.out (by kernel_rfl)) (by decide) (by decide) (fun K hK => ?_) (fun K hK => ?_)
    focus
      clear hHeld
      refine goes_ Try.func35 (by kernel_rfl) rfl #[.agg #[.int .i64 a2_0, .int .i64 a2_1, .slice A2_2 l2_2.length c2_2, .slice A2_3 l2_3.length c2_3]] (by rfl) rfl rfl av ?_
      refine (st_toClaim HS HR2_2.out HC2_2.out (Nat.le_trans HLl2_2.out (by decide)) HR2_3.out HC2_3.out (Nat.le_trans HLl2_3.out (by decide))).mono ?_
      rintro e w5 ⟨Ao5_0, co5_0, Ao5_1, co5_1, lo5, hi5, rfl, HN⟩
      refine ⟨_, rfl, ?_⟩
      clear HS
      have HS := HN
      clear HN
      refine hK.out _ _ ⟨(blk_cell (HS.get (i := 2) rfl) 0).trans rfl, (blk_cell (HS.get (i := 2) rfl) 1).trans rfl, (blk_cell (HS.get (i := 2) rfl) 2).trans rfl, (blk_cell (HS.get (i := 2) rfl) 3).trans rfl⟩ (fun hHeld => ?_)
      clear hK K
      refine nz (N := some 34) ?_
      refine two_ (i := 5) (j := 9) (Ni := some 35) (Nj := some 8) #[true, true, true, true, true, true, false, false, false, false, false, false] #[true, true, true, true, true, false, false, false, false, true, false, false] rfl rfl rfl rfl (two_of HT_.out (by kernel_rfl)) (by decide) (by decide) (fun K hK => ?_) (fun K hK => ?_)
      focus
        clear hHeld
        refine goes_ Try.func34 (by kernel_rfl) rfl #[.int .i64 a0, .slice Ao4 l1.length co4, .agg #[.int .i64 a2_0, .int .i64 a2_1, .slice Ao5_0 l2_2.length co5_0, .slice Ao5_1 l2_3.length co5_1]] (by rfl) rfl rfl av ?_
        refine (spec_Liar.calls (h := HSP.out) (hr1 := (Kd.S_reads' (HS.get (i := 1) rfl)).2.2) (hc1 := (Kd.S_reads' (HS.get (i := 1) rfl)).2.1) (hr2_2 := (Kd.R_reads' (HS.get (i := 0) rfl).1).2.2) (hc2_2 := (Kd.R_reads' (HS.get (i := 0) rfl).1).2.1) (hr2_3 := (Kd.R_reads' (HS.get (i := 0) rfl).2).2.2) (hc2_3 := (Kd.R_reads' (HS.get (i := 0) rfl).2).2.1)).mono ?_
        rintro e w6 ⟨v6_0, v6_1, rfl, ho0, ho1, hb⟩
        obtain ⟨Ao6_0, co6_0, eo0⟩ := Kd.V_slice ho0
        subst eo0
        obtain ⟨Ao6_1, co6_1, eo1⟩ := Kd.V_slice ho1
        subst eo1
        have HN := HS.pushSeen hb (both (view (Kd.int .u8) w5.heap.size w6.heap.size Ao6_0 r1.length co6_0 r1) (view (Kd.int .u8) w5.heap.size w6.heap.size Ao6_1 r2.length co6_1 r2) rfl rfl) ⟨view_V ho0 (fun _ h => by first | exact h | exact h.1 | exact h.1.1), view_V ho1 (fun _ h => by first | exact h | exact h.1 | exact h.1.1)⟩ rfl rfl
        refine ⟨_, rfl, ?_⟩
        clear HS
        have HS := HN
        clear HN
        refine hK.out _ _ ⟨(blk_cell (HS.get (i := 3) rfl) 0).trans rfl, (blk_cell (HS.get (i := 3) rfl) 1).trans rfl, (blk_cell (HS.get (i := 3) rfl) 2).trans rfl, (blk_cell (HS.get (i := 3) rfl) 3).trans rfl⟩ (fun hHeld => ?_)
        clear hK K
        refine nz (N := some 35) ?_
        refine pz (i := 6) (N := some 29) #[true, true, true, true, true, true, true, false, false, false, false, false] rfl rfl HT_.out ?_
        refine pz (i := 7) (N := some 36) #[true, true, true, true, true, true, true, true, false, false, false, false] rfl rfl HT_.out ?_
        refine pz (i := 8) (N := some 37) #[true, true, true, true, true, true, true, true, true, false, false, false] rfl rfl HT_.out ?_
        refine one_ (i := 9) (N := some 8) #[true, true, true, true, true, true, true, true, true, true, false, false] rfl rfl (one_of HT_.out (by kernel_rfl)) (by decide) (fun K hK => ?_)
        clear hHeld
        refine box_step ?hg (N := 8) ?hd (cs := #[.slice none 0 0, .slice none 0 0]) (t := 33) ?hr ?_; (case hd => rfl); (case hg => rfl); (case hr => first | (go_simp; done) | (go_simp; rfl))
        intro g7 hg w7 hbox hb
        have HN := HS.box hg hbox hb
        clear hg hbox hb HS
        have HS := HN
        clear HN
        refine hK.out _ _ ⟨(blk_cell (HS.get (i := 4) rfl) 0).trans rfl, (blk_cell (HS.get (i := 4) rfl) 1).trans rfl, (blk_cell (HS.get (i := 4) rfl) 2).trans rfl, (blk_cell (HS.get (i := 4) rfl) 3).trans rfl⟩ (fun hHeld => ?_)
        clear hK K
        refine nz (N := some 8) ?_
        refine one_ (i := 10) (N := none) #[true, true, true, true, true, true, true, true, true, true, true, false] rfl rfl (one_of HT_.out (by kernel_rfl)) (by decide) (fun K hK => ?_)
        clear hHeld
        have f_0 := blk_frozen (HS.get (i := 0) rfl) 0
        have z_0 : w7.cell? ⟨g7, 0, none⟩ = some (.slice none 0 0) := (blk_cell (HS.get (i := 0) rfl) 0).trans rfl
        have f_1 := blk_frozen (HS.get (i := 0) rfl) 1
        have z_1 : w7.cell? ⟨g7, 1, none⟩ = some (.slice none 0 0) := (blk_cell (HS.get (i := 0) rfl) 1).trans rfl
        refine skip_ (w1 := ((w7.setCell ⟨g7, 0, none⟩ (.slice Ao6_0 r1.length co6_0)).setCell ⟨g7, 1, none⟩ (.slice Ao6_1 r2.length co6_1))) (by rfl) rfl (by first | (go_simp; done) | (go_simp; rfl)) ?_
        obtain ⟨w8, hw⟩ : ∃ x, x = ((w7.setCell ⟨g7, 0, none⟩ (.slice Ao6_0 r1.length co6_0)).setCell ⟨g7, 1, none⟩ (.slice Ao6_1 r2.length co6_1)) := ⟨_, rfl⟩
        rw [← hw]
        have HN : St w w8 (blk g7 #[.slice Ao6_0 r1.length co6_0, .slice Ao6_1 r2.length co6_1] 33 :: _) := (by rw [hw]; exact (HS.put (i := 0) (.slice Ao6_0 r1.length co6_0)).put (i := 1) (.slice Ao6_1 r2.length co6_1))
        clear HS hw f_0 z_0 f_1 z_1
        have HS := HN
        clear HN
        refine hK.out _ _ ⟨(blk_cell (HS.get (i := 4) rfl) 0).trans rfl, (blk_cell (HS.get (i := 4) rfl) 1).trans rfl, (blk_cell (HS.get (i := 4) rfl) 2).trans rfl, (blk_cell (HS.get (i := 4) rfl) 3).trans rfl⟩ (fun hHeld => ?_)
        clear hK K
        refine pz (i := 11) (N := some 9) #[true, true, true, true, true, true, true, true, true, true, true, true] rfl rfl HT_.out ?_
        refine done_ (done_of HT_.out (by kernel_rfl)) ?_
        clear HT_ HW_ hHeld
      rotate_left 1
      focus
        clear hHeld
        refine box_step ?hg (N := 8) ?hd (cs := #[.slice none 0 0, .slice none 0 0]) (t := 33) ?hr ?_; (case hd => rfl); (case hg => rfl); (case hr => first | (go_simp; done) | (go_simp; rfl))
        intro g7 hg w7 hbox hb
        have HN := HS.box hg hbox hb
        clear hg hbox hb HS
        have HS := HN
        clear HN
        refine hK.out _ _ ⟨(blk_cell (HS.get (i := 3) rfl) 0).trans rfl, (blk_cell (HS.get (i := 3) rfl) 1).trans rfl, (blk_cell (HS.get (i := 3) rfl) 2).trans rfl, (blk_cell (HS.get (i := 3) rfl) 3).trans rfl⟩ (fun hHeld => ?_)
        clear hK K
        refine nz (N := some 8) ?_
        refine one_ (i := 5) (N := some 35) #[true, true, true, true, true, true, false, false, false, true, false, false] rfl rfl (one_of HT_.out (by kernel_rfl)) (by decide) (fun K hK => ?_)
        clear hHeld
        refine goes_ Try.func34 (by kernel_rfl) rfl #[.int .i64 a0, .slice Ao4 l1.length co4, .agg #[.int .i64 a2_0, .int .i64 a2_1, .slice Ao5_0 l2_2.length co5_0, .slice Ao5_1 l2_3.length co5_1]] (by rfl) rfl rfl av ?_
        refine (spec_Liar.calls (h := HSP.out) (hr1 := (Kd.S_reads' (HS.get (i := 2) rfl)).2.2) (hc1 := (Kd.S_reads' (HS.get (i := 2) rfl)).2.1) (hr2_2 := (Kd.R_reads' (HS.get (i := 1) rfl).1).2.2) (hc2_2 := (Kd.R_reads' (HS.get (i := 1) rfl).1).2.1) (hr2_3 := (Kd.R_reads' (HS.get (i := 1) rfl).2).2.2) (hc2_3 := (Kd.R_reads' (HS.get (i := 1) rfl).2).2.1)).mono ?_
        rintro e w6 ⟨v6_0, v6_1, rfl, ho0, ho1, hb⟩
        obtain ⟨Ao6_0, co6_0, eo0⟩ := Kd.V_slice ho0
        subst eo0
        obtain ⟨Ao6_1, co6_1, eo1⟩ := Kd.V_slice ho1
        subst eo1
        have HN := HS.pushSeen hb (both (view (Kd.int .u8) w7.heap.size w6.heap.size Ao6_0 r1.length co6_0 r1) (view (Kd.int .u8) w7.heap.size w6.heap.size Ao6_1 r2.length co6_1 r2) rfl rfl) ⟨view_V ho0 (fun _ h => by first | exact h | exact h.1 | exact h.1.1), view_V ho1 (fun _ h => by first | exact h | exact h.1 | exact h.1.1)⟩ rfl rfl
        refine ⟨_, rfl, ?_⟩
        clear HS
        have HS := HN
        clear HN
        refine hK.out _ _ ⟨(blk_cell (HS.get (i := 4) rfl) 0).trans rfl, (blk_cell (HS.get (i := 4) rfl) 1).trans rfl, (blk_cell (HS.get (i := 4) rfl) 2).trans rfl, (blk_cell (HS.get (i := 4) rfl) 3).trans rfl⟩ (fun hHeld => ?_)
        clear hK K
        refine nz (N := some 35) ?_
        refine pz (i := 6) (N := some 29) #[true, true, true, true, true, true, true, false, false, true, false, false] rfl rfl HT_.out ?_
        refine pz (i := 7) (N := some 36) #[true, true, true, true, true, true, true, true, false, true, false, false] rfl rfl HT_.out ?_
        refine pz (i := 8) (N := some 37) #[true, true, true, true, true, true, true, true, true, true, false, false] rfl rfl HT_.out ?_
        refine one_ (i := 10) (N := none) #[true, true, true, true, true, true, true, true, true, true, true, false] rfl rfl (one_of HT_.out (by kernel_rfl)) (by decide) (fun K hK => ?_)
        clear hHeld
        have HN := HS.front (i := 1) rfl
        dsimp only [List.eraseIdx] at HN
        clear HS
        have HS := HN
        clear HN
        have f_0 := blk_frozen (HS.get (i := 0) rfl) 0
        have z_0 : w6.cell? ⟨g7, 0, none⟩ = some (.slice none 0 0) := (blk_cell (HS.get (i := 0) rfl) 0).trans rfl
        have f_1 := blk_frozen (HS.get (i := 0) rfl) 1
        have z_1 : w6.cell? ⟨g7, 1, none⟩ = some (.slice none 0 0) := (blk_cell (HS.get (i := 0) rfl) 1).trans rfl
        refine skip_ (w1 := ((w6.setCell ⟨g7, 0, none⟩ (.slice Ao6_0 r1.length co6_0)).setCell ⟨g7, 1, none⟩ (.slice Ao6_1 r2.length co6_1))) (by rfl) rfl (by first | (go_simp; done) | (go_simp; rfl)) ?_
        obtain ⟨w8, hw⟩ : ∃ x, x = ((w6.setCell ⟨g7, 0, none⟩ (.slice Ao6_0 r1.length co6_0)).setCell ⟨g7, 1, none⟩ (.slice Ao6_1 r2.length co6_1)) := ⟨_, rfl⟩
        rw [← hw]
        have HN : St w w8 (blk g7 #[.slice Ao6_0 r1.length co6_0, .slice Ao6_1 r2.length co6_1] 33 :: _) := (by rw [hw]; exact (HS.put (i := 0) (.slice Ao6_0 r1.length co6_0)).put (i := 1) (.slice Ao6_1 r2.length co6_1))
        clear HS hw f_0 z_0 f_1 z_1
        have HS := HN
        clear HN
        refine hK.out _ _ ⟨(blk_cell (HS.get (i := 4) rfl) 0).trans rfl, (blk_cell (HS.get (i := 4) rfl) 1).trans rfl, (blk_cell (HS.get (i := 4) rfl) 2).trans rfl, (blk_cell (HS.get (i := 4) rfl) 3).trans rfl⟩ (fun hHeld => ?_)
        clear hK K
        refine pz (i := 11) (N := some 9) #[true, true, true, true, true, true, true, true, true, true, true, true] rfl rfl HT_.out ?_
        refine done_ (done_of HT_.out (by kernel_rfl)) ?_
        clear HT_ HW_ hHeld
    rotate_left 2
    focus
      clear hHeld
      refine box_step ?hg (N := 8) ?hd (cs := #[.slice none 0 0, .slice none 0 0]) (t := 33) ?hr ?_; (case hd => rfl); (case hg => rfl); (case hr => first | (go_simp; done) | (go_simp; rfl))
      intro g7 hg w7 hbox hb
      have HN := HS.box hg hbox hb
      clear hg hbox hb HS
      have HS := HN
      clear HN
      refine hK.out _ _ ⟨(blk_cell (HS.get (i := 2) rfl) 0).trans rfl, (blk_cell (HS.get (i := 2) rfl) 1).trans rfl, (blk_cell (HS.get (i := 2) rfl) 2).trans rfl, (blk_cell (HS.get (i := 2) rfl) 3).trans rfl⟩ (fun hHeld => ?_)
      clear hK K
      refine nz (N := some 8) ?_
      refine one_ (i := 4) (N := some 34) #[true, true, true, true, true, false, false, false, false, true, false, false] rfl rfl (one_of HT_.out (by kernel_rfl)) (by decide) (fun K hK => ?_)
      clear hHeld
      refine goes_ Try.func35 (by kernel_rfl) rfl #[.agg #[.int .i64 a2_0, .int .i64 a2_1, .slice A2_2 l2_2.length c2_2, .slice A2_3 l2_3.length c2_3]] (by rfl) rfl rfl av ?_
      refine (st_toClaim HS HR2_2.out HC2_2.out (Nat.le_trans HLl2_2.out (by decide)) HR2_3.out HC2_3.out (Nat.le_trans HLl2_3.out (by decide))).mono ?_
      rintro e w5 ⟨Ao5_0, co5_0, Ao5_1, co5_1, lo5, hi5, rfl, HN⟩
      refine ⟨_, rfl, ?_⟩
      clear HS
      have HS := HN
      clear HN
      refine hK.out _ _ ⟨(blk_cell (HS.get (i := 3) rfl) 0).trans rfl, (blk_cell (HS.get (i := 3) rfl) 1).trans rfl, (blk_cell (HS.get (i := 3) rfl) 2).trans rfl, (blk_cell (HS.get (i := 3) rfl) 3).trans rfl⟩ (fun hHeld => ?_)
      clear hK K
      refine nz (N := some 34) ?_
      refine one_ (i := 5) (N := some 35) #[true, true, true, true, true, true, false, false, false, true, false, false] rfl rfl (one_of HT_.out (by kernel_rfl)) (by decide) (fun K hK => ?_)
      clear hHeld
      refine goes_ Try.func34 (by kernel_rfl) rfl #[.int .i64 a0, .slice Ao4 l1.length co4, .agg #[.int .i64 a2_0, .int .i64 a2_1, .slice Ao5_0 l2_2.length co5_0, .slice Ao5_1 l2_3.length co5_1]] (by rfl) rfl rfl av ?_
      refine (spec_Liar.calls (h := HSP.out) (hr1 := (Kd.S_reads' (HS.get (i := 2) rfl)).2.2) (hc1 := (Kd.S_reads' (HS.get (i := 2) rfl)).2.1) (hr2_2 := (Kd.R_reads' (HS.get (i := 0) rfl).1).2.2) (hc2_2 := (Kd.R_reads' (HS.get (i := 0) rfl).1).2.1) (hr2_3 := (Kd.R_reads' (HS.get (i := 0) rfl).2).2.2) (hc2_3 := (Kd.R_reads' (HS.get (i := 0) rfl).2).2.1)).mono ?_
      rintro e w6 ⟨v6_0, v6_1, rfl, ho0, ho1, hb⟩
      obtain ⟨Ao6_0, co6_0, eo0⟩ := Kd.V_slice ho0
      subst eo0
      obtain ⟨Ao6_1, co6_1, eo1⟩ := Kd.V_slice ho1
      subst eo1
      have HN := HS.pushSeen hb (both (view (Kd.int .u8) w5.heap.size w6.heap.size Ao6_0 r1.length co6_0 r1) (view (Kd.int .u8) w5.heap.size w6.heap.size Ao6_1 r2.length co6_1 r2) rfl rfl) ⟨view_V ho0 (fun _ h => by first | exact h | exact h.1 | exact h.1.1), view_V ho1 (fun _ h => by first | exact h | exact h.1 | exact h.1.1)⟩ rfl rfl
      refine ⟨_, rfl, ?_⟩
      clear HS
      have HS := HN
      clear HN
      refine hK.out _ _ ⟨(blk_cell (HS.get (i := 4) rfl) 0).trans rfl, (blk_cell (HS.get (i := 4) rfl) 1).trans rfl, (blk_cell (HS.get (i := 4) rfl) 2).trans rfl, (blk_cell (HS.get (i := 4) rfl) 3).trans rfl⟩ (fun hHeld => ?_)
      clear hK K
      refine nz (N := some 35) ?_
      refine pz (i := 6) (N := some 29) #[true, true, true, true, true, true, true, false, false, true, false, false] rfl rfl HT_.out ?_
      refine pz (i := 7) (N := some 36) #[true, true, true, true, true, true, true, true, false, true, false, false] rfl rfl HT_.out ?_
      refine pz (i := 8) (N := some 37) #[true, true, true, true, true, true, true, true, true, true, false, false] rfl rfl HT_.out ?_
      refine one_ (i := 10) (N := none) #[true, true, true, true, true, true, true, true, true, true, true, false] rfl rfl (one_of HT_.out (by kernel_rfl)) (by decide) (fun K hK => ?_)
      clear hHeld
      have HN := HS.front (i := 2) rfl
      dsimp only [List.eraseIdx] at HN
      clear HS
      have HS := HN
      clear HN
      have f_0 := blk_frozen (HS.get (i := 0) rfl) 0
      have z_0 : w6.cell? ⟨g7, 0, none⟩ = some (.slice none 0 0) := (blk_cell (HS.get (i := 0) rfl) 0).trans rfl
      have f_1 := blk_frozen (HS.get (i := 0) rfl) 1
      have z_1 : w6.cell? ⟨g7, 1, none⟩ = some (.slice none 0 0) := (blk_cell (HS.get (i := 0) rfl) 1).trans rfl
      refine skip_ (w1 := ((w6.setCell ⟨g7, 0, none⟩ (.slice Ao6_0 r1.length co6_0)).setCell ⟨g7, 1, none⟩ (.slice Ao6_1 r2.length co6_1))) (by rfl) rfl (by first | (go_simp; done) | (go_simp; rfl)) ?_
      obtain ⟨w8, hw⟩ : ∃ x, x = ((w6.setCell ⟨g7, 0, none⟩ (.slice Ao6_0 r1.length co6_0)).setCell ⟨g7, 1, none⟩ (.slice Ao6_1 r2.length co6_1)) := ⟨_, rfl⟩
      rw [← hw]
      have HN : St w w8 (blk g7 #[.slice Ao6_0 r1.length co6_0, .slice Ao6_1 r2.length co6_1] 33 :: _) := (by rw [hw]; exact (HS.put (i := 0) (.slice Ao6_0 r1.length co6_0)).put (i := 1) (.slice Ao6_1 r2.length co6_1))
      clear HS hw f_0 z_0 f_1 z_1
      have HS := HN
      clear HN
      refine hK.out _ _ ⟨(blk_cell (HS.get (i := 4) rfl) 0).trans rfl, (blk_cell (HS.get (i := 4) rfl) 1).trans rfl, (blk_cell (HS.get (i := 4) rfl) 2).trans rfl, (blk_cell (HS.get (i := 4) rfl) 3).trans rfl⟩ (fun hHeld => ?_)
      clear hK K
      refine pz (i := 11) (N := some 9) #[true, true, true, true, true, true, true, true, true, true, true, true] rfl rfl HT_.out ?_
      refine done_ (done_of HT_.out (by kernel_rfl)) ?_
      clear HT_ HW_ hHeld
  rotate_left 3
  focus
    clear hHeld
    refine box_step ?hg (N := 8) ?hd (cs := #[.slice none 0 0, .slice none 0 0]) (t := 33) ?hr ?_; (case hd => rfl); (case hg => rfl); (case hr => first | (go_simp; done) | (go_simp; rfl))
    intro g7 hg w7 hbox hb
    have HN := HS.box hg hbox hb
    clear hg hbox hb HS
    have HS := HN
    clear HN
    refine hK.out _ _ ⟨(blk_cell (HS.get (i := 1) rfl) 0).trans rfl, (blk_cell (HS.get (i := 1) rfl) 1).trans rfl, (blk_cell (HS.get (i := 1) rfl) 2).trans rfl, (blk_cell (HS.get (i := 1) rfl) 3).trans rfl⟩ (fun hHeld => ?_)
    clear hK K
    refine nz (N := some 8) ?_
    refine one_ (i := 2) (N := some 32) #[true, true, true, true, false, false, false, false, false, true, false, false] rfl rfl (one_of HT_.out (by kernel_rfl)) (by decide) (fun K hK => ?_)
    clear hHeld
    refine goes_ Try.func27 (by kernel_rfl) rfl #[.slice A1 l1.length c1] (by rfl) rfl rfl av ?_
    refine (st_toByteSS HS HR1.out HC1.out (Nat.le_trans HLl1.out (by decide))).mono ?_
    rintro e w4 ⟨Ao4, co4, lo4, hi4, rfl, HN⟩
    refine ⟨_, rfl, ?_⟩
    clear HS
    have HS := HN
    clear HN
    refine hK.out _ _ ⟨(blk_cell (HS.get (i := 2) rfl) 0).trans rfl, (blk_cell (HS.get (i := 2) rfl) 1).trans rfl, (blk_cell (HS.get (i := 2) rfl) 2).trans rfl, (blk_cell (HS.get (i := 2) rfl) 3).trans rfl⟩ (fun hHeld => ?_)
    clear hK K
    refine nz (N := some 32) ?_
    refine one_ (i := 4) (N := some 34) #[true, true, true, true, true, false, false, false, false, true, false, false] rfl rfl (one_of HT_.out (by kernel_rfl)) (by decide) (fun K hK => ?_)
    clear hHeld
    refine goes_ Try.func35 (by kernel_rfl) rfl #[.agg #[.int .i64 a2_0, .int .i64 a2_1, .slice A2_2 l2_2.length c2_2, .slice A2_3 l2_3.length c2_3]] (by rfl) rfl rfl av ?_
    refine (st_toClaim HS HR2_2.out HC2_2.out (Nat.le_trans HLl2_2.out (by decide)) HR2_3.out HC2_3.out (Nat.le_trans HLl2_3.out (by decide))).mono ?_
    rintro e w5 ⟨Ao5_0, co5_0, Ao5_1, co5_1, lo5, hi5, rfl, HN⟩
    refine ⟨_, rfl, ?_⟩
    clear HS
    have HS := HN
    clear HN
    refine hK.out _ _ ⟨(blk_cell (HS.get (i := 3) rfl) 0).trans rfl, (blk_cell (HS.get (i := 3) rfl) 1).trans rfl, (blk_cell (HS.get (i := 3) rfl) 2).trans rfl, (blk_cell (HS.get (i := 3) rfl) 3).trans rfl⟩ (fun hHeld => ?_)
    clear hK K
    refine nz (N := some 34) ?_
    refine one_ (i := 5) (N := some 35) #[true, true, true, true, true, true, false, false, false, true, false, false] rfl rfl (one_of HT_.out (by kernel_rfl)) (by decide) (fun K hK => ?_)
    clear hHeld
    refine goes_ Try.func34 (by kernel_rfl) rfl #[.int .i64 a0, .slice Ao4 l1.length co4, .agg #[.int .i64 a2_0, .int .i64 a2_1, .slice Ao5_0 l2_2.length co5_0, .slice Ao5_1 l2_3.length co5_1]] (by rfl) rfl rfl av ?_
    refine (spec_Liar.calls (h := HSP.out) (hr1 := (Kd.S_reads' (HS.get (i := 1) rfl)).2.2) (hc1 := (Kd.S_reads' (HS.get (i := 1) rfl)).2.1) (hr2_2 := (Kd.R_reads' (HS.get (i := 0) rfl).1).2.2) (hc2_2 := (Kd.R_reads' (HS.get (i := 0) rfl).1).2.1) (hr2_3 := (Kd.R_reads' (HS.get (i := 0) rfl).2).2.2) (hc2_3 := (Kd.R_reads' (HS.get (i := 0) rfl).2).2.1)).mono ?_
    rintro e w6 ⟨v6_0, v6_1, rfl, ho0, ho1, hb⟩
    obtain ⟨Ao6_0, co6_0, eo0⟩ := Kd.V_slice ho0
    subst eo0
    obtain ⟨Ao6_1, co6_1, eo1⟩ := Kd.V_slice ho1
    subst eo1
    have HN := HS.pushSeen hb (both (view (Kd.int .u8) w5.heap.size w6.heap.size Ao6_0 r1.length co6_0 r1) (view (Kd.int .u8) w5.heap.size w6.heap.size Ao6_1 r2.length co6_1 r2) rfl rfl) ⟨view_V ho0 (fun _ h => by first | exact h | exact h.1 | exact h.1.1), view_V ho1 (fun _ h => by first | exact h | exact h.1 | exact h.1.1)⟩ rfl rfl
    refine ⟨_, rfl, ?_⟩
    clear HS
    have HS := HN
    clear HN
    refine hK.out _ _ ⟨(blk_cell (HS.get (i := 4) rfl) 0).trans rfl, (blk_cell (HS.get (i := 4) rfl) 1).trans rfl, (blk_cell (HS.get (i := 4) rfl) 2).trans rfl, (blk_cell (HS.get (i := 4) rfl) 3).trans rfl⟩ (fun hHeld => ?_)
    clear hK K
    refine nz (N := some 35) ?_
    refine pz (i := 6) (N := some 29) #[true, true, true, true, true, true, true, false, false, true, false, false] rfl rfl HT_.out ?_
    refine pz (i := 7) (N := some 36) #[true, true, true, true, true, true, true, true, false, true, false, false] rfl rfl HT_.out ?_
    refine pz (i := 8) (N := some 37) #[true, true, true, true, true, true, true, true, true, true, false, false] rfl rfl HT_.out ?_
    refine one_ (i := 10) (N := none) #[true, true, true, true, true, true, true, true, true, true, true, false] rfl rfl (one_of HT_.out (by kernel_rfl)) (by decide) (fun K hK => ?_)
    clear hHeld
    have HN := HS.front (i := 3) rfl
    dsimp only [List.eraseIdx] at HN
    clear HS
    have HS := HN
    clear HN
    have f_0 := blk_frozen (HS.get (i := 0) rfl) 0
    have z_0 : w6.cell? ⟨g7, 0, none⟩ = some (.slice none 0 0) := (blk_cell (HS.get (i := 0) rfl) 0).trans rfl
    have f_1 := blk_frozen (HS.get (i := 0) rfl) 1
    have z_1 : w6.cell? ⟨g7, 1, none⟩ = some (.slice none 0 0) := (blk_cell (HS.get (i := 0) rfl) 1).trans rfl
    refine skip_ (w1 := ((w6.setCell ⟨g7, 0, none⟩ (.slice Ao6_0 r1.length co6_0)).setCell ⟨g7, 1, none⟩ (.slice Ao6_1 r2.length co6_1))) (by rfl) rfl (by first | (go_simp; done) | (go_simp; rfl)) ?_
    obtain ⟨w8, hw⟩ : ∃ x, x = ((w6.setCell ⟨g7, 0, none⟩ (.slice Ao6_0 r1.length co6_0)).setCell ⟨g7, 1, none⟩ (.slice Ao6_1 r2.length co6_1)) := ⟨_, rfl⟩
    rw [← hw]
    have HN : St w w8 (blk g7 #[.slice Ao6_0 r1.length co6_0, .slice Ao6_1 r2.length co6_1] 33 :: _) := (by rw [hw]; exact (HS.put (i := 0) (.slice Ao6_0 r1.length co6_0)).put (i := 1) (.slice Ao6_1 r2.length co6_1))
    clear HS hw f_0 z_0 f_1 z_1
    have HS := HN
    clear HN
    refine hK.out _ _ ⟨(blk_cell (HS.get (i := 4) rfl) 0).trans rfl, (blk_cell (HS.get (i := 4) rfl) 1).trans rfl, (blk_cell (HS.get (i := 4) rfl) 2).trans rfl, (blk_cell (HS.get (i := 4) rfl) 3).trans rfl⟩ (fun hHeld => ?_)
    clear hK K
    refine pz (i := 11) (N := some 9) #[true, true, true, true, true, true, true, true, true, true, true, true] rfl rfl HT_.out ?_
    refine done_ (done_of HT_.out (by kernel_rfl)) ?_
    clear HT_ HW_ hHeld
  all_goals
    go_upto_region 16 with (first | ((with_reducible refine gate_dst (N := 39) rfl ?_); refine goesL_ (some 39) rfl rfl Try.func27 (by kernel_rfl) rfl #[.slice A1 l1.length c1] rfl (by (try simp only [List.map_toArray, List.map_cons, List.map_nil]); first | done | rfl) ?_; refine (st_toByteSS HS HR1.out HC1.out (Nat.le_trans HLl1.out (by decide))).mono ?_; rintro e w9 ⟨Ao9, co9, lo9, hi9, rfl, HN⟩; refine ⟨_, rfl, ?_⟩; clear HS; have HS := HN; clear HN; have zg1_0 : w9.cell? ⟨g1, 0, none⟩ = some (.int .i64 a2_0) := (blk_cell (HS.get (i := 5) rfl) 0).trans rfl; have zg1_1 : w9.cell? ⟨g1, 1, none⟩ = some (.int .i64 a2_1) := (blk_cell (HS.get (i := 5) rfl) 1).trans rfl; have zg1_2 : w9.cell? ⟨g1, 2, none⟩ = some (.slice A2_2 l2_2.length c2_2) := (blk_cell (HS.get (i := 5) rfl) 2).trans rfl; have zg1_3 : w9.cell? ⟨g1, 3, none⟩ = some (.slice A2_3 l2_3.length c2_3) := (blk_cell (HS.get (i := 5) rfl) 3).trans rfl) | ((with_reducible refine gate_dst (N := 41) rfl ?_); refine goesL_ (some 41) rfl rfl Try.func35 (by kernel_rfl) rfl #[.agg #[.int .i64 a2_0, .int .i64 a2_1, .slice A2_2 l2_2.length c2_2, .slice A2_3 l2_3.length c2_3]] rfl (by (try simp only [List.map_toArray, List.map_cons, List.map_nil]); first | done | rfl) ?_; refine (st_toClaim HS HR2_2.out HC2_2.out (Nat.le_trans HLl2_2.out (by decide)) HR2_3.out HC2_3.out (Nat.le_trans HLl2_3.out (by decide))).mono ?_; rintro e w10 ⟨Ao10_0, co10_0, Ao10_1, co10_1, lo10, hi10, rfl, HN⟩; refine ⟨_, rfl, ?_⟩; clear HS; have HS := HN; clear HN; clear zg1_0; clear zg1_1; clear zg1_2; clear zg1_3) | ((with_reducible refine gate_dst (N := 11) rfl ?_); refine box_event ?hg (N := 11) ?hd (cs := #[.int .i64 0, .int .i64 0, .slice none 0 0, .slice none 0 0]) (t := 31) ?hr ?_; (case hd => rfl); (case hg => rfl); (case hr => first | (go_simp; done) | (go_simp; rfl)); intro g11 hg w11 hbox hb; have HN := HS.box hg hbox hb; have f11_0 := blk_frozen hbox 0; have f11_1 := blk_frozen hbox 1; have f11_2 := blk_frozen hbox 2; have f11_3 := blk_frozen hbox 3; clear hg hbox hb; clear HS; have HS := HN; clear HN; have zg11_0 : w11.cell? ⟨g11, 0, none⟩ = some (.int .i64 0) := (blk_cell (HS.get (i := 0) rfl) 0).trans rfl; have zg11_1 : w11.cell? ⟨g11, 1, none⟩ = some (.int .i64 0) := (blk_cell (HS.get (i := 0) rfl) 1).trans rfl; have zg11_2 : w11.cell? ⟨g11, 2, none⟩ = some (.slice none 0 0) := (blk_cell (HS.get (i := 0) rfl) 2).trans rfl; have zg11_3 : w11.cell? ⟨g11, 3, none⟩ = some (.slice none 0 0) := (blk_cell (HS.get (i := 0) rfl) 3).trans rfl) | ((with_reducible refine gate_store (t := 31) (p := 11) rfl ?_); refine store_event (t := 31) (p := 11) (v := ?vo12) (w1 := ((((w11.setCell ⟨g11, 0, none⟩ (.int .i64 a2_0)).setCell ⟨g11, 1, none⟩ (.int .i64 a2_1)).setCell ⟨g11, 2, none⟩ (.slice Ao10_0 l2_2.length co10_0)).setCell ⟨g11, 3, none⟩ (.slice Ao10_1 l2_3.length co10_1))) ?hg ?ho ?hn ?hr ?_; (case ho => rfl); (case hg => rfl); (case hn => rfl); (case hr => first | (go_simp; done) | (go_simp; rfl)); intro w12 hw; have HN : St w w12 (blk g11 #[.int .i64 a2_0, .int .i64 a2_1, .slice Ao10_0 l2_2.length co10_0, .slice Ao10_1 l2_3.length co10_1] 31 :: _) := (by rw [hw]; exact (((HS.put (i := 0) (.int .i64 a2_0)).put (i := 1) (.int .i64 a2_1)).put (i := 2) (.slice Ao10_0 l2_2.length co10_0)).put (i := 3) (.slice Ao10_1 l2_3.length co10_1)); clear HS; have HS := HN; clear HN hw f11_0 f11_1 f11_2 f11_3; clear zg11_0; clear zg11_1; clear zg11_2; clear zg11_3; have zg11_0 : w12.cell? ⟨g11, 0, none⟩ = some (.int .i64 a2_0) := (blk_cell (HS.get (i := 0) rfl) 0).trans rfl; have zg11_1 : w12.cell? ⟨g11, 1, none⟩ = some (.int .i64 a2_1) := (blk_cell (HS.get (i := 0) rfl) 1).trans rfl; have zg11_2 : w12.cell? ⟨g11, 2, none⟩ = some (.slice Ao10_0 l2_2.length co10_0) := (blk_cell (HS.get (i := 0) rfl) 2).trans rfl; have zg11_3 : w12.cell? ⟨g11, 3, none⟩ = some (.slice Ao10_1 l2_3.length co10_1) := (blk_cell (HS.get (i := 0) rfl) 3).trans rfl) | ((with_reducible refine gate_dst (N := 46) rfl ?_); refine goesL_ (some 46) rfl rfl Try.func12 (by kernel_rfl) rfl #[.int .i64 a0, .slice Ao9 l1.length co9, .agg #[.int .i64 a2_0, .int .i64 a2_1, .slice Ao10_0 l2_2.length co10_0, .slice Ao10_1 l2_3.length co10_1]] rfl (by (try simp only [List.map_toArray, List.map_cons, List.map_nil]); first | done | rfl) ?_; refine (impl_Liar.calls (h := HIM.out) (hr1 := (Kd.S_reads' (HS.get (i := 2) rfl)).2.2) (hc1 := (Kd.S_reads' (HS.get (i := 2) rfl)).2.1) (hr2_2 := (Kd.R_reads' (HS.get (i := 1) rfl).1).2.2) (hc2_2 := (Kd.R_reads' (HS.get (i := 1) rfl).1).2.1) (hr2_3 := (Kd.R_reads' (HS.get (i := 1) rfl).2).2.2) (hc2_3 := (Kd.R_reads' (HS.get (i := 1) rfl).2).2.1)).mono ?_; rintro e w13 ⟨v13_0, v13_1, rfl, ho0, ho1, hb⟩; obtain ⟨Ao13_0, co13_0, eo0⟩ := Kd.R_slice ho0; subst eo0; obtain ⟨Ao13_1, co13_1, eo1⟩ := Kd.R_slice ho1; subst eo1; have HN := HS.pushTwo hb ho0 ho1; refine ⟨_, rfl, ?_⟩; clear HS; have HS := HN; clear HN; clear zg11_0; clear zg11_1; clear zg11_2; clear zg11_3) | ((with_reducible refine gate_dst (N := 12) rfl ?_); refine box_event ?hg (N := 12) ?hd (cs := #[.slice none 0 0, .slice none 0 0]) (t := 33) ?hr ?_; (case hd => rfl); (case hg => rfl); (case hr => first | (go_simp; done) | (go_simp; rfl)); intro g14 hg w14 hbox hb; have HN := HS.box hg hbox hb; have f14_0 := blk_frozen hbox 0; have f14_1 := blk_frozen hbox 1; clear hg hbox hb; clear HS; have HS := HN; clear HN; have zg14_0 : w14.cell? ⟨g14, 0, none⟩ = some (.slice none 0 0) := (blk_cell (HS.get (i := 0) rfl) 0).trans rfl; have zg14_1 : w14.cell? ⟨g14, 1, none⟩ = some (.slice none 0 0) := (blk_cell (HS.get (i := 0) rfl) 1).trans rfl) | ((with_reducible refine gate_store (t := 33) (p := 12) rfl ?_); refine store_event (t := 33) (p := 12) (v := ?vo15) (w1 := ((w14.setCell ⟨g14, 0, none⟩ (.slice Ao13_0 r1.length co13_0)).setCell ⟨g14, 1, none⟩ (.slice Ao13_1 r2.length co13_1))) ?hg ?ho ?hn ?hr ?_; (case ho => rfl); (case hg => rfl); (case hn => rfl); (case hr => first | (go_simp; done) | (go_simp; rfl)); intro w15 hw; have HN : St w w15 (blk g14 #[.slice Ao13_0 r1.length co13_0, .slice Ao13_1 r2.length co13_1] 33 :: _) := (by rw [hw]; exact (HS.put (i := 0) (.slice Ao13_0 r1.length co13_0)).put (i := 1) (.slice Ao13_1 r2.length co13_1)); clear HS; have HS := HN; clear HN hw f14_0 f14_1; clear zg14_0; clear zg14_1; have zg14_0 : w15.cell? ⟨g14, 0, none⟩ = some (.slice Ao13_0 r1.length co13_0) := (blk_cell (HS.get (i := 0) rfl) 0).trans rfl; have zg14_1 : w15.cell? ⟨g14, 1, none⟩ = some (.slice Ao13_1 r2.length co13_1) := (blk_cell (HS.get (i := 0) rfl) 1).trans rfl; have zg7_0 : w15.cell? ⟨g7, 0, none⟩ = some (.slice Ao6_0 r1.length co6_0) := (blk_cell (HS.get (i := 5) rfl) 0).trans rfl; have zg7_1 : w15.cell? ⟨g7, 1, none⟩ = some (.slice Ao6_1 r2.length co6_1) := (blk_cell (HS.get (i := 5) rfl) 1).trans rfl) | ((with_reducible refine gate_dst (N := 51) rfl ?_); refine goesL_ (some 51) rfl rfl Try.func28 (by kernel_rfl) rfl #[.agg #[.slice Ao13_0 r1.length co13_0, .slice Ao13_1 r2.length co13_1], .agg #[.slice Ao6_0 r1.length co6_0, .slice Ao6_1 r2.length co6_1]] rfl (by (try simp only [List.map_toArray, List.map_cons, List.map_nil]); first | done | rfl) ?_; refine (st_eqPair HS (Kd.R_reads' (HS.get (i := 1) rfl).1).2.2 (Kd.R_reads' (HS.get (i := 1) rfl).1).2.1 (Kd.R_reads' (HS.get (i := 1) rfl).2).2.2 (Kd.R_reads' (HS.get (i := 1) rfl).2).2.1 (seenNow (HS.get (i := 6) rfl).1).2.2 (seenNow (HS.get (i := 6) rfl).1).2.1 (seenNow (HS.get (i := 6) rfl).2).2.2 (seenNow (HS.get (i := 6) rfl).2).2.1 (Nat.le_trans HLr1.out (by decide)) (Nat.le_trans HLr2.out (by decide))).mono ?_; rintro e w16 ⟨rfl, HN⟩; refine ⟨_, rfl, ?_⟩; clear HS; have HS := HN; clear HN; clear zg14_0; clear zg14_1; clear zg7_0; clear zg7_1) | ((with_reducible refine gate_dst (N := 60) rfl ?_); refine goesL_ (some 60) rfl rfl Try.func27 (by kernel_rfl) rfl #[.slice A1 l1.length c1] rfl (by (try simp only [List.map_toArray, List.map_cons, List.map_nil]); first | done | rfl) ?_; refine (st_toByteSS HS HR1.out HC1.out (Nat.le_trans HLl1.out (by decide))).mono ?_; rintro e w17 ⟨Ao17, co17, lo17, hi17, rfl, HN⟩; refine ⟨_, rfl, ?_⟩; clear HS; have HS := HN; clear HN) | ((with_reducible refine gate_dst (N := 61) rfl ?_); refine goesL_ (some 61) rfl rfl Try.func29 (by kernel_rfl) rfl #[.slice Ao9 l1.length co9, .slice Ao17 l1.length co17] rfl (by (try simp only [List.map_toArray, List.map_cons, List.map_nil]); first | done | rfl) ?_; refine (st_eqByteSS HS (Kd.S_reads' (HS.get (i := 5) rfl)).2.2 (Kd.S_reads' (HS.get (i := 5) rfl)).2.1 (Kd.S_reads' (HS.get (i := 0) rfl)).2.2 (Kd.S_reads' (HS.get (i := 0) rfl)).2.1 (Nat.le_trans HLl1.out (by decide))).mono ?_; rintro e w18 ⟨rfl, HN⟩; refine ⟨_, rfl, ?_⟩; clear HS; have HS := HN; clear HN; have zg11_0 : w18.cell? ⟨g11, 0, none⟩ = some (.int .i64 a2_0) := (blk_cell (HS.get (i := 3) rfl) 0).trans rfl; have zg11_1 : w18.cell? ⟨g11, 1, none⟩ = some (.int .i64 a2_1) := (blk_cell (HS.get (i := 3) rfl) 1).trans rfl; have zg11_2 : w18.cell? ⟨g11, 2, none⟩ = some (.slice Ao10_0 l2_2.length co10_0) := (blk_cell (HS.get (i := 3) rfl) 2).trans rfl; have zg11_3 : w18.cell? ⟨g11, 3, none⟩ = some (.slice Ao10_1 l2_3.length co10_1) := (blk_cell (HS.get (i := 3) rfl) 3).trans rfl; have zg1_0 : w18.cell? ⟨g1, 0, none⟩ = some (.int .i64 a2_0) := (blk_cell (HS.get (i := 10) rfl) 0).trans rfl; have zg1_1 : w18.cell? ⟨g1, 1, none⟩ = some (.int .i64 a2_1) := (blk_cell (HS.get (i := 10) rfl) 1).trans rfl; have zg1_2 : w18.cell? ⟨g1, 2, none⟩ = some (.slice A2_2 l2_2.length c2_2) := (blk_cell (HS.get (i := 10) rfl) 2).trans rfl; have zg1_3 : w18.cell? ⟨g1, 3, none⟩ = some (.slice A2_3 l2_3.length c2_3) := (blk_cell (HS.get (i := 10) rfl) 3).trans rfl))
    clear zg11_0; clear zg11_1; clear zg11_2; clear zg11_3; clear zg1_0; clear zg1_1; clear zg1_2; clear zg1_3; refine start_ (n := 5) (S := (fun w' => w'.cell? ⟨g11, 0, none⟩ = some (.int .i64 a2_0) ∧ w'.cell? ⟨g11, 1, none⟩ = some (.int .i64 a2_1) ∧ w'.cell? ⟨g11, 2, none⟩ = some (.slice Ao10_0 l2_2.length co10_0) ∧ w'.cell? ⟨g11, 3, none⟩ = some (.slice Ao10_1 l2_3.length co10_1) ∧ w'.cell? ⟨g1, 0, none⟩ = some (.int .i64 a2_0) ∧ w'.cell? ⟨g1, 1, none⟩ = some (.int .i64 a2_1) ∧ w'.cell? ⟨g1, 2, none⟩ = some (.slice A2_2 l2_2.length c2_2) ∧ w'.cell? ⟨g1, 3, none⟩ = some (.slice A2_3 l2_3.length c2_3))) (ds := []) #[false, false, false, false, false] (by kernel_rfl) rfl rfl ⟨(blk_cell (HS.drew.get (i := 3) rfl) 0).trans rfl, (blk_cell (HS.drew.get (i := 3) rfl) 1).trans rfl, (blk_cell (HS.drew.get (i := 3) rfl) 2).trans rfl, (blk_cell (HS.drew.get (i := 3) rfl) 3).trans rfl, (blk_cell (HS.drew.get (i := 10) rfl) 0).trans rfl, (blk_cell (HS.drew.get (i := 10) rfl) 1).trans rfl, (blk_cell (HS.drew.get (i := 10) rfl) 2).trans rfl, (blk_cell (HS.drew.get (i := 10) rfl) 3).trans rfl⟩ (fun hHeld => ?_)
    have HN := HS.drew
    clear HS
    generalize w18.drew = wd16 at HN hHeld ⊢
    have HS := HN
    clear HN
    refine with_tabW ex_tab16 ex_bits16 (fun HT_ HW_ => ?_)
    refine tz (i := 0) (N := some 63) #[true, false, false, false, false] rfl rfl HT_.out HW_.out hHeld (Or.inl ⟨by rfl, by rintro w' ⟨s0, s1, s2, s3, s4, s5, s6, s7⟩; go_simp; with_reducible rfl⟩) ?_
    refine tz (i := 1) (N := some 64) #[true, true, false, false, false] rfl rfl HT_.out HW_.out hHeld (Or.inl ⟨by rfl, by rintro w' ⟨s0, s1, s2, s3, s4, s5, s6, s7⟩; go_simp; with_reducible rfl⟩) ?_
    refine one_ (i := 2) (N := some 65) #[true, true, true, false, false] rfl rfl (one_of HT_.out (by kernel_rfl)) (by decide) (fun K hK => ?_)
    clear hHeld
    refine goes_ Try.func35 (by kernel_rfl) rfl #[.agg #[.int .i64 a2_0, .int .i64 a2_1, .slice A2_2 l2_2.length c2_2, .slice A2_3 l2_3.length c2_3]] (by rfl) rfl rfl av ?_
    refine (st_toClaim HS HR2_2.out HC2_2.out (Nat.le_trans HLl2_2.out (by decide)) HR2_3.out HC2_3.out (Nat.le_trans HLl2_3.out (by decide))).mono ?_
    rintro e w19 ⟨Ao19_0, co19_0, Ao19_1, co19_1, lo19, hi19, rfl, HN⟩
    refine ⟨_, rfl, ?_⟩
    clear HS
    have HS := HN
    clear HN
    refine hK.out _ _ ⟨(blk_cell (HS.get (i := 4) rfl) 0).trans rfl, (blk_cell (HS.get (i := 4) rfl) 1).trans rfl, (blk_cell (HS.get (i := 4) rfl) 2).trans rfl, (blk_cell (HS.get (i := 4) rfl) 3).trans rfl, (blk_cell (HS.get (i := 11) rfl) 0).trans rfl, (blk_cell (HS.get (i := 11) rfl) 1).trans rfl, (blk_cell (HS.get (i := 11) rfl) 2).trans rfl, (blk_cell (HS.get (i := 11) rfl) 3).trans rfl⟩ (fun hHeld => ?_)
    clear hK K
    refine nz (N := some 65) ?_
    refine one_ (i := 3) (N := some 66) #[true, true, true, true, false] rfl rfl (one_of HT_.out (by kernel_rfl)) (by decide) (fun K hK => ?_)
    clear hHeld
    refine goes_ Try.func36 (by kernel_rfl) rfl #[.agg #[.int .i64 a2_0, .int .i64 a2_1, .slice Ao10_0 l2_2.length co10_0, .slice Ao10_1 l2_3.length co10_1], .agg #[.int .i64 a2_0, .int .i64 a2_1, .slice Ao19_0 l2_2.length co19_0, .slice Ao19_1 l2_3.length co19_1]] (by rfl) rfl rfl av ?_
    refine (st_eqClaim HS (Kd.R_reads' (HS.get (i := 5) rfl).1).2.2 (Kd.R_reads' (HS.get (i := 5) rfl).1).2.1 (Kd.R_reads' (HS.get (i := 5) rfl).2).2.2 (Kd.R_reads' (HS.get (i := 5) rfl).2).2.1 (Kd.R_reads' (HS.get (i := 0) rfl).1).2.2 (Kd.R_reads' (HS.get (i := 0) rfl).1).2.1 (Kd.R_reads' (HS.get (i := 0) rfl).2).2.2 (Kd.R_reads' (HS.get (i := 0) rfl).2).2.1 (Nat.le_trans HLl2_2.out (by decide)) (Nat.le_trans HLl2_3.out (by decide))).mono ?_
    rintro e w20 ⟨rfl, HN⟩
    refine ⟨_, rfl, ?_⟩
    clear HS
    have HS := HN
    clear HN
    refine hK.out _ _ ⟨(blk_cell (HS.get (i := 4) rfl) 0).trans rfl, (blk_cell (HS.get (i := 4) rfl) 1).trans rfl, (blk_cell (HS.get (i := 4) rfl) 2).trans rfl, (blk_cell (HS.get (i := 4) rfl) 3).trans rfl, (blk_cell (HS.get (i := 11) rfl) 0).trans rfl, (blk_cell (HS.get (i := 11) rfl) 1).trans rfl, (blk_cell (HS.get (i := 11) rfl) 2).trans rfl, (blk_cell (HS.get (i := 11) rfl) 3).trans rfl⟩ (fun hHeld => ?_)
    clear hK K
    refine nz (N := some 66) ?_
    refine pz (i := 4) (N := some 67) #[true, true, true, true, true] rfl rfl HT_.out ?_
    refine done_ (done_of HT_.out (by kernel_rfl)) ?_
    clear HT_ HW_ hHeld
    all_goals
      go_upto_region 31 with (first | ((with_reducible refine gate_dst (N := 70) rfl ?_); refine goesL_ (some 70) rfl rfl Try.func30 (by kernel_rfl) rfl #[.slice Ao9 l1.length co9, .int .i64 1] rfl (by (try simp only [List.map_toArray, List.map_cons, List.map_nil]); first | done | rfl) ?_; refine (st_markByteSS HS (i := 6) rfl (by decide) (by have := HTl1.out; omega)).mono ?_; rintro e w21 ⟨nn21, rfl, HE21, HN⟩; have HM21 : Aside0 (0 ≤ nn21 ∧ nn21 ≤ 10000000000000) := ⟨by have := HE21.out; have := HTl1.out; omega⟩; have d21 : decide (nn21 < 0) = false := decide_eq_false (by have := HM21.out; omega); refine ⟨_, rfl, ?_⟩; clear HS; have HS := HN; clear HN; have zg11_0 : w21.cell? ⟨g11, 0, none⟩ = some (.int .i64 a2_0) := (blk_cell (HS.get (i := 4) rfl) 0).trans rfl; have zg11_1 : w21.cell? ⟨g11, 1, none⟩ = some (.int .i64 a2_1) := (blk_cell (HS.get (i := 4) rfl) 1).trans rfl; have zg11_2 : w21.cell? ⟨g11, 2, none⟩ = some (.slice Ao10_0 l2_2.length co10_0) := (blk_cell (HS.get (i := 4) rfl) 2).trans rfl; have zg11_3 : w21.cell? ⟨g11, 3, none⟩ = some (.slice Ao10_1 l2_3.length co10_1) := (blk_cell (HS.get (i := 4) rfl) 3).trans rfl) | ((with_reducible refine gate_dst (N := 73) rfl ?_); refine goesL_ (some 73) rfl rfl Try.func37 (by kernel_rfl) rfl #[.agg #[.int .i64 a2_0, .int .i64 a2_1, .slice Ao10_0 l2_2.length co10_0, .slice Ao10_1 l2_3.length co10_1], .int .i64 nn21] rfl (by (try simp only [List.map_toArray, List.map_cons, List.map_nil]); first | done | rfl) ?_; refine (st_markClaim HS (i := 5) rfl (by have := HM21.out; omega) (by have := HM21.out; have := HLl2_2.out; have := HLl2_3.out; omega)).mono ?_; rintro e w22 ⟨nn22, rfl, HE22, HN⟩; have HM22 : Aside0 (0 ≤ nn22 ∧ nn22 ≤ 20000000000000) := ⟨by have := HE22.out; have := HM21.out; have := HLl2_2.out; have := HLl2_3.out; omega⟩; have d22 : decide (nn22 < 0) = false := decide_eq_false (by have := HM22.out; omega); refine ⟨_, rfl, ?_⟩; clear HS; have HS := HN; clear HN; clear zg11_0; clear zg11_1; clear zg11_2; clear zg11_3; have zg14_0 : w22.cell? ⟨g14, 0, none⟩ = some (.slice Ao13_0 r1.length co13_0) := (blk_cell (HS.get (i := 2) rfl) 0).trans rfl; have zg14_1 : w22.cell? ⟨g14, 1, none⟩ = some (.slice Ao13_1 r2.length co13_1) := (blk_cell (HS.get (i := 2) rfl) 1).trans rfl; have zg7_0 : w22.cell? ⟨g7, 0, none⟩ = some (.slice Ao6_0 r1.length co6_0) := (blk_cell (HS.get (i := 7) rfl) 0).trans rfl; have zg7_1 : w22.cell? ⟨g7, 1, none⟩ = some (.slice Ao6_1 r2.length co6_1) := (blk_cell (HS.get (i := 7) rfl) 1).trans rfl) | (go_at_call 28; refine (st_eqPair HS (Kd.R_reads' (HS.get (i := 3) rfl).1).2.2 (Kd.R_reads' (HS.get (i := 3) rfl).1).2.1 (Kd.R_reads' (HS.get (i := 3) rfl).2).2.2 (Kd.R_reads' (HS.get (i := 3) rfl).2).2.1 (seenNow (HS.get (i := 8) rfl).1).2.2 (seenNow (HS.get (i := 8) rfl).1).2.1 (seenNow (HS.get (i := 8) rfl).2).2.2 (seenNow (HS.get (i := 8) rfl).2).2.1 (Nat.le_trans HLr1.out (by decide)) (Nat.le_trans HLr2.out (by decide))).mono ?_; rintro e w23 ⟨rfl, HN⟩; clear HS; have HS := HN; clear HN; clear zg14_0; clear zg14_1; clear zg7_0; clear zg7_1; have zg14_0 : w23.cell? ⟨g14, 0, none⟩ = some (.slice Ao13_0 r1.length co13_0) := (blk_cell (HS.get (i := 2) rfl) 0).trans rfl; have zg14_1 : w23.cell? ⟨g14, 1, none⟩ = some (.slice Ao13_1 r2.length co13_1) := (blk_cell (HS.get (i := 2) rfl) 1).trans rfl) | ((with_reducible refine gate_dst (N := 89) rfl ?_); refine goesL_ (some 89) rfl rfl Try.func31 (by kernel_rfl) rfl #[.agg #[.slice Ao13_0 r1.length co13_0, .slice Ao13_1 r2.length co13_1], .int .i64 1] rfl (by (try simp only [List.map_toArray, List.map_cons, List.map_nil]); first | done | rfl) ?_; refine (st_markPair HS (i := 3) rfl (Nat.le_trans HLr1.out (by decide)) (Nat.le_trans HLr2.out (by decide))).mono ?_; rintro e w24 ⟨nn24, rfl, HE24, HN⟩; have HM24 : Aside0 (0 ≤ nn24 ∧ nn24 ≤ 30000000000000) := ⟨by have := HE24.out; have := HLr1.out; have := HLr2.out; omega⟩; have d24 : decide (nn24 < 0) = false := decide_eq_false (by have := HM24.out; omega); refine ⟨_, rfl, ?_⟩; clear HS; have HS := HN; clear HN; clear zg14_0; clear zg14_1; have zg14_0 : w24.cell? ⟨g14, 0, none⟩ = some (.slice Ao13_0 r1.length co13_0) := (blk_cell (HS.get (i := 2) rfl) 0).trans rfl; have zg14_1 : w24.cell? ⟨g14, 1, none⟩ = some (.slice Ao13_1 r2.length co13_1) := (blk_cell (HS.get (i := 2) rfl) 1).trans rfl) | ((with_reducible refine gate_dst (N := 92) rfl ?_); refine goesL_ (some 92) rfl rfl Try.func32 (by kernel_rfl) rfl #[.agg #[.slice Ao13_0 r1.length co13_0, .slice Ao13_1 r2.length co13_1], .int .i64 1] rfl (by (try simp only [List.map_toArray, List.map_cons, List.map_nil]); first | done | rfl) ?_; refine (st_heldPair HS (Kd.R_reads' (HS.get (i := 3) rfl).1) (Kd.R_reads' (HS.get (i := 3) rfl).2) (Nat.le_trans HLr1.out (by decide)) (Nat.le_trans HLr2.out (by decide))).mono ?_; rintro e w25 ⟨nn25, rfl, HE25, HN⟩; have HM25 : Aside0 (nn25 = nn24) := ⟨by have := HE25.out; have := HE24.out; omega⟩; have d25 : decide (nn25 < 0) = false := decide_eq_false (by have := HM25.out; have := HM24.out; omega); have e25 : (nn25 != nn24) = false := bne_eq_false_iff_eq.mpr HM25.out; have i25 : (nn25 == nn24) = true := beq_iff_eq.mpr HM25.out; refine ⟨_, rfl, ?_⟩; clear HS; have HS := HN; clear HN; clear zg14_0; clear zg14_1))
      refine start_ (n := 12) (S := (fun w' => w'.cell? ⟨g1, 0, none⟩ = some (.int .i64 a2_0) ∧ w'.cell? ⟨g1, 1, none⟩ = some (.int .i64 a2_1) ∧ w'.cell? ⟨g1, 2, none⟩ = some (.slice A2_2 l2_2.length c2_2) ∧ w'.cell? ⟨g1, 3, none⟩ = some (.slice A2_3 l2_3.length c2_3))) (ds := []) #[false, false, false, false, false, false, false, false, false, false, false, false] (by kernel_rfl) rfl rfl ⟨(blk_cell (HS.drew.get (i := 11) rfl) 0).trans rfl, (blk_cell (HS.drew.get (i := 11) rfl) 1).trans rfl, (blk_cell (HS.drew.get (i := 11) rfl) 2).trans rfl, (blk_cell (HS.drew.get (i := 11) rfl) 3).trans rfl⟩ (fun hHeld => ?_)
      have HN := HS.drew
      clear HS
      generalize w25.drew = wd31 at HN hHeld ⊢
      have HS := HN
      clear HN
      refine with_tabW ex_tab31 ex_bits31 (fun HT_ HW_ => ?_)
      refine pz (i := 0) (N := some 99) #[true, false, false, false, false, false, false, false, false, false, false, false] rfl rfl HT_.out ?_
      refine pz (i := 1) (N := some 100) #[true, true, false, false, false, false, false, false, false, false, false, false] rfl rfl HT_.out ?_
      refine tz (i := 3) (N := some 102) #[true, true, false, true, false, false, false, false, false, false, false, false] rfl rfl HT_.out HW_.out hHeld (Or.inl ⟨by rfl, by rintro w' ⟨s0, s1, s2, s3⟩; go_simp; with_reducible rfl⟩) ?_
      refine two_ (i := 2) (j := 9) (Ni := some 101) (Nj := some 17) #[true, true, true, true, false, false, false, false, false, false, false, false] #[true, true, false, true, false, false, false, false, false, true, false, false] rfl rfl rfl rfl (two_of HT_.out (by kernel_rfl)) (by decide) (by decide) (fun K hK => ?_) (fun K hK => ?_)
      focus
        clear hHeld
        refine goes_ Try.func27 (by kernel_rfl) rfl #[.slice A1 l1.length c1] (by rfl) rfl rfl av ?_
        refine (st_toByteSS HS HR1.out HC1.out (Nat.le_trans HLl1.out (by decide))).mono ?_
        rintro e w26 ⟨Ao26, co26, lo26, hi26, rfl, HN⟩
        refine ⟨_, rfl, ?_⟩
        clear HS
        have HS := HN
        clear HN
        refine hK.out _ _ ⟨(blk_cell (HS.get (i := 12) rfl) 0).trans rfl, (blk_cell (HS.get (i := 12) rfl) 1).trans rfl, (blk_cell (HS.get (i := 12) rfl) 2).trans rfl, (blk_cell (HS.get (i := 12) rfl) 3).trans rfl⟩ (fun hHeld => ?_)
        clear hK K
        refine nz (N := some 101) ?_
        refine two_ (i := 4) (j := 9) (Ni := some 103) (Nj := some 17) #[true, true, true, true, true, false, false, false, false, false, false, false] #[true, true, true, true, false, false, false, false, false, true, false, false] rfl rfl rfl rfl (two_of HT_.out (by kernel_rfl)) (by decide) (by decide) (fun K hK => ?_) (fun K hK => ?_)
        focus
          clear hHeld
          refine goes_ Try.func35 (by kernel_rfl) rfl #[.agg #[.int .i64 a2_0, .int .i64 a2_1, .slice A2_2 l2_2.length c2_2, .slice A2_3 l2_3.length c2_3]] (by rfl) rfl rfl av ?_
          refine (st_toClaim HS HR2_2.out HC2_2.out (Nat.le_trans HLl2_2.out (by decide)) HR2_3.out HC2_3.out (Nat.le_trans HLl2_3.out (by decide))).mono ?_
          rintro e w27 ⟨Ao27_0, co27_0, Ao27_1, co27_1, lo27, hi27, rfl, HN⟩
          refine ⟨_, rfl, ?_⟩
          clear HS
          have HS := HN
          clear HN
          refine hK.out _ _ ⟨(blk_cell (HS.get (i := 13) rfl) 0).trans rfl, (blk_cell (HS.get (i := 13) rfl) 1).trans rfl, (blk_cell (HS.get (i := 13) rfl) 2).trans rfl, (blk_cell (HS.get (i := 13) rfl) 3).trans rfl⟩ (fun hHeld => ?_)
          clear hK K
          refine nz (N := some 103) ?_
          refine two_ (i := 5) (j := 9) (Ni := some 104) (Nj := some 17) #[true, true, true, true, true, true, false, false, false, false, false, false] #[true, true, true, true, true, false, false, false, false, true, false, false] rfl rfl rfl rfl (two_of HT_.out (by kernel_rfl)) (by decide) (by decide) (fun K hK => ?_) (fun K hK => ?_)
          focus
            clear hHeld
            refine goes_ Try.func12 (by kernel_rfl) rfl #[.int .i64 a0, .slice Ao26 l1.length co26, .agg #[.int .i64 a2_0, .int .i64 a2_1, .slice Ao27_0 l2_2.length co27_0, .slice Ao27_1 l2_3.length co27_1]] (by rfl) rfl rfl av ?_
            refine (impl_Liar.calls (h := HIM.out) (hr1 := (Kd.S_reads' (HS.get (i := 1) rfl)).2.2) (hc1 := (Kd.S_reads' (HS.get (i := 1) rfl)).2.1) (hr2_2 := (Kd.R_reads' (HS.get (i := 0) rfl).1).2.2) (hc2_2 := (Kd.R_reads' (HS.get (i := 0) rfl).1).2.1) (hr2_3 := (Kd.R_reads' (HS.get (i := 0) rfl).2).2.2) (hc2_3 := (Kd.R_reads' (HS.get (i := 0) rfl).2).2.1)).mono ?_
            rintro e w28 ⟨v28_0, v28_1, rfl, ho0, ho1, hb⟩
            obtain ⟨Ao28_0, co28_0, eo0⟩ := Kd.R_slice ho0
            subst eo0
            obtain ⟨Ao28_1, co28_1, eo1⟩ := Kd.R_slice ho1
            subst eo1
            have HN := HS.pushTwo hb ho0 ho1
            refine ⟨_, rfl, ?_⟩
            clear HS
            have HS := HN
            clear HN
            refine hK.out _ _ ⟨(blk_cell (HS.get (i := 14) rfl) 0).trans rfl, (blk_cell (HS.get (i := 14) rfl) 1).trans rfl, (blk_cell (HS.get (i := 14) rfl) 2).trans rfl, (blk_cell (HS.get (i := 14) rfl) 3).trans rfl⟩ (fun hHeld => ?_)
            clear hK K
            refine nz (N := some 104) ?_
            refine pz (i := 6) (N := some 98) #[true, true, true, true, true, true, true, false, false, false, false, false] rfl rfl HT_.out ?_
            refine pz (i := 7) (N := some 105) #[true, true, true, true, true, true, true, true, false, false, false, false] rfl rfl HT_.out ?_
            refine pz (i := 8) (N := some 106) #[true, true, true, true, true, true, true, true, true, false, false, false] rfl rfl HT_.out ?_
            refine one_ (i := 9) (N := some 17) #[true, true, true, true, true, true, true, true, true, true, false, false] rfl rfl (one_of HT_.out (by kernel_rfl)) (by decide) (fun K hK => ?_)
            clear hHeld
            refine box_step ?hg (N := 17) ?hd (cs := #[.slice none 0 0, .slice none 0 0]) (t := 33) ?hr ?_; (case hd => rfl); (case hg => rfl); (case hr => first | (go_simp; done) | (go_simp; rfl))
            intro g29 hg w29 hbox hb
            have HN := HS.box hg hbox hb
            clear hg hbox hb HS
            have HS := HN
            clear HN
            refine hK.out _ _ ⟨(blk_cell (HS.get (i := 15) rfl) 0).trans rfl, (blk_cell (HS.get (i := 15) rfl) 1).trans rfl, (blk_cell (HS.get (i := 15) rfl) 2).trans rfl, (blk_cell (HS.get (i := 15) rfl) 3).trans rfl⟩ (fun hHeld => ?_)
            clear hK K
            refine nz (N := some 17) ?_
            refine one_ (i := 10) (N := none) #[true, true, true, true, true, true, true, true, true, true, true, false] rfl rfl (one_of HT_.out (by kernel_rfl)) (by decide) (fun K hK => ?_)
            clear hHeld
            have f_0 := blk_frozen (HS.get (i := 0) rfl) 0
            have z_0 : w29.cell? ⟨g29, 0, none⟩ = some (.slice none 0 0) := (blk_cell (HS.get (i := 0) rfl) 0).trans rfl
            have f_1 := blk_frozen (HS.get (i := 0) rfl) 1
            have z_1 : w29.cell? ⟨g29, 1, none⟩ = some (.slice none 0 0) := (blk_cell (HS.get (i := 0) rfl) 1).trans rfl
            refine skip_ (w1 := ((w29.setCell ⟨g29, 0, none⟩ (.slice Ao28_0 r1.length co28_0)).setCell ⟨g29, 1, none⟩ (.slice Ao28_1 r2.length co28_1))) (by rfl) rfl (by first | (go_simp; done) | (go_simp; rfl)) ?_
            obtain ⟨w30, hw⟩ : ∃ x, x = ((w29.setCell ⟨g29, 0, none⟩ (.slice Ao28_0 r1.length co28_0)).setCell ⟨g29, 1, none⟩ (.slice Ao28_1 r2.length co28_1)) := ⟨_, rfl⟩
            rw [← hw]
            have HN : St w w30 (blk g29 #[.slice Ao28_0 r1.length co28_0, .slice Ao28_1 r2.length co28_1] 33 :: _) := (by rw [hw]; exact (HS.put (i := 0) (.slice Ao28_0 r1.length co28_0)).put (i := 1) (.slice Ao28_1 r2.length co28_1))
            clear HS hw f_0 z_0 f_1 z_1
            have HS := HN
            clear HN
            refine hK.out _ _ ⟨(blk_cell (HS.get (i := 15) rfl) 0).trans rfl, (blk_cell (HS.get (i := 15) rfl) 1).trans rfl, (blk_cell (HS.get (i := 15) rfl) 2).trans rfl, (blk_cell (HS.get (i := 15) rfl) 3).trans rfl⟩ (fun hHeld => ?_)
            clear hK K
            refine pz (i := 11) (N := some 18) #[true, true, true, true, true, true, true, true, true, true, true, true] rfl rfl HT_.out ?_
            refine done_ (done_of HT_.out (by kernel_rfl)) ?_
            clear HT_ HW_ hHeld
          rotate_left 1
          focus
            clear hHeld
            refine box_step ?hg (N := 17) ?hd (cs := #[.slice none 0 0, .slice none 0 0]) (t := 33) ?hr ?_; (case hd => rfl); (case hg => rfl); (case hr => first | (go_simp; done) | (go_simp; rfl))
            intro g29 hg w29 hbox hb
            have HN := HS.box hg hbox hb
            clear hg hbox hb HS
            have HS := HN
            clear HN
            refine hK.out _ _ ⟨(blk_cell (HS.get (i := 14) rfl) 0).trans rfl, (blk_cell (HS.get (i := 14) rfl) 1).trans rfl, (blk_cell (HS.get (i := 14) rfl) 2).trans rfl, (blk_cell (HS.get (i := 14) rfl) 3).trans rfl⟩ (fun hHeld => ?_)
            clear hK K
            refine nz (N := some 17) ?_
            refine one_ (i := 5) (N := some 104) #[true, true, true, true, true, true, false, false, false, true, false, false] rfl rfl (one_of HT_.out (by kernel_rfl)) (by decide) (fun K hK => ?_)
            clear hHeld
            refine goes_ Try.func12 (by kernel_rfl) rfl #[.int .i64 a0, .slice Ao26 l1.length co26, .agg #[.int .i64 a2_0, .int .i64 a2_1, .slice Ao27_0 l2_2.length co27_0, .slice Ao27_1 l2_3.length co27_1]] (by rfl) rfl rfl av ?_
            refine (impl_Liar.calls (h := HIM.out) (hr1 := (Kd.S_reads' (HS.get (i := 2) rfl)).2.2) (hc1 := (Kd.S_reads' (HS.get (i := 2) rfl)).2.1) (hr2_2 := (Kd.R_reads' (HS.get (i := 1) rfl).1).2.2) (hc2_2 := (Kd.R_reads' (HS.get (i := 1) rfl).1).2.1) (hr2_3 := (Kd.R_reads' (HS.get (i := 1) rfl).2).2.2) (hc2_3 := (Kd.R_reads' (HS.get (i := 1) rfl).2).2.1)).mono ?_
            rintro e w28 ⟨v28_0, v28_1, rfl, ho0, ho1, hb⟩
            obtain ⟨Ao28_0, co28_0, eo0⟩ := Kd.R_slice ho0
            subst eo0
            obtain ⟨Ao28_1, co28_1, eo1⟩ := Kd.R_slice ho1
            subst eo1
            have HN := HS.pushTwo hb ho0 ho1
            refine ⟨_, rfl, ?_⟩
            clear HS
            have HS := HN
            clear HN
            refine hK.out _ _ ⟨(blk_cell (HS.get (i := 15) rfl) 0).trans rfl, (blk_cell (HS.get (i := 15) rfl) 1).trans rfl, (blk_cell (HS.get (i := 15) rfl) 2).trans rfl, (blk_cell (HS.get (i := 15) rfl) 3).trans rfl⟩ (fun hHeld => ?_)
            clear hK K
            refine nz (N := some 104) ?_
            refine pz (i := 6) (N := some 98) #[true, true, true, true, true, true, true, false, false, true, false, false] rfl rfl HT_.out ?_
            refine pz (i := 7) (N := some 105) #[true, true, true, true, true, true, true, true, false, true, false, false] rfl rfl HT_.out ?_
            refine pz (i := 8) (N := some 106) #[true, true, true, true, true, true, true, true, true, true, false, false] rfl rfl HT_.out ?_
            refine one_ (i := 10) (N := none) #[true, true, true, true, true, true, true, true, true, true, true, false] rfl rfl (one_of HT_.out (by kernel_rfl)) (by decide) (fun K hK => ?_)
            clear hHeld
            have HN := HS.front (i := 1) rfl
            dsimp only [List.eraseIdx] at HN
            clear HS
            have HS := HN
            clear HN
            have f_0 := blk_frozen (HS.get (i := 0) rfl) 0
            have z_0 : w28.cell? ⟨g29, 0, none⟩ = some (.slice none 0 0) := (blk_cell (HS.get (i := 0) rfl) 0).trans rfl
            have f_1 := blk_frozen (HS.get (i := 0) rfl) 1
            have z_1 : w28.cell? ⟨g29, 1, none⟩ = some (.slice none 0 0) := (blk_cell (HS.get (i := 0) rfl) 1).trans rfl
            refine skip_ (w1 := ((w28.setCell ⟨g29, 0, none⟩ (.slice Ao28_0 r1.length co28_0)).setCell ⟨g29, 1, none⟩ (.slice Ao28_1 r2.length co28_1))) (by rfl) rfl (by first | (go_simp; done) | (go_simp; rfl)) ?_
            obtain ⟨w30, hw⟩ : ∃ x, x = ((w28.setCell ⟨g29, 0, none⟩ (.slice Ao28_0 r1.length co28_0)).setCell ⟨g29, 1, none⟩ (.slice Ao28_1 r2.length co28_1)) := ⟨_, rfl⟩
            rw [← hw]
            have HN : St w w30 (blk g29 #[.slice Ao28_0 r1.length co28_0, .slice Ao28_1 r2.length co28_1] 33 :: _) := (by rw [hw]; exact (HS.put (i := 0) (.slice Ao28_0 r1.length co28_0)).put (i := 1) (.slice Ao28_1 r2.length co28_1))
            clear HS hw f_0 z_0 f_1 z_1
            have HS := HN
            clear HN
            refine hK.out _ _ ⟨(blk_cell (HS.get (i := 15) rfl) 0).trans rfl, (blk_cell (HS.get (i := 15) rfl) 1).trans rfl, (blk_cell (HS.get (i := 15) rfl) 2).trans rfl, (blk_cell (HS.get (i := 15) rfl) 3).trans rfl⟩ (fun hHeld => ?_)
            clear hK K
            refine pz (i := 11) (N := some 18) #[true, true, true, true, true, true, true, true, true, true, true, true] rfl rfl HT_.out ?_
            refine done_ (done_of HT_.out (by kernel_rfl)) ?_
            clear HT_ HW_ hHeld
        rotate_left 2
        focus
          clear hHeld
          refine box_step ?hg (N := 17) ?hd (cs := #[.slice none 0 0, .slice none 0 0]) (t := 33) ?hr ?_; (case hd => rfl); (case hg => rfl); (case hr => first | (go_simp; done) | (go_simp; rfl))
          intro g29 hg w29 hbox hb
          have HN := HS.box hg hbox hb
          clear hg hbox hb HS
          have HS := HN
          clear HN
          refine hK.out _ _ ⟨(blk_cell (HS.get (i := 13) rfl) 0).trans rfl, (blk_cell (HS.get (i := 13) rfl) 1).trans rfl, (blk_cell (HS.get (i := 13) rfl) 2).trans rfl, (blk_cell (HS.get (i := 13) rfl) 3).trans rfl⟩ (fun hHeld => ?_)
          clear hK K
          refine nz (N := some 17) ?_
          refine one_ (i := 4) (N := some 103) #[true, true, true, true, true, false, false, false, false, true, false, false] rfl rfl (one_of HT_.out (by kernel_rfl)) (by decide) (fun K hK => ?_)
          clear hHeld
          refine goes_ Try.func35 (by kernel_rfl) rfl #[.agg #[.int .i64 a2_0, .int .i64 a2_1, .slice A2_2 l2_2.length c2_2, .slice A2_3 l2_3.length c2_3]] (by rfl) rfl rfl av ?_
          refine (st_toClaim HS HR2_2.out HC2_2.out (Nat.le_trans HLl2_2.out (by decide)) HR2_3.out HC2_3.out (Nat.le_trans HLl2_3.out (by decide))).mono ?_
          rintro e w27 ⟨Ao27_0, co27_0, Ao27_1, co27_1, lo27, hi27, rfl, HN⟩
          refine ⟨_, rfl, ?_⟩
          clear HS
          have HS := HN
          clear HN
          refine hK.out _ _ ⟨(blk_cell (HS.get (i := 14) rfl) 0).trans rfl, (blk_cell (HS.get (i := 14) rfl) 1).trans rfl, (blk_cell (HS.get (i := 14) rfl) 2).trans rfl, (blk_cell (HS.get (i := 14) rfl) 3).trans rfl⟩ (fun hHeld => ?_)
          clear hK K
          refine nz (N := some 103) ?_
          refine one_ (i := 5) (N := some 104) #[true, true, true, true, true, true, false, false, false, true, false, false] rfl rfl (one_of HT_.out (by kernel_rfl)) (by decide) (fun K hK => ?_)
          clear hHeld
          refine goes_ Try.func12 (by kernel_rfl) rfl #[.int .i64 a0, .slice Ao26 l1.length co26, .agg #[.int .i64 a2_0, .int .i64 a2_1, .slice Ao27_0 l2_2.length co27_0, .slice Ao27_1 l2_3.length co27_1]] (by rfl) rfl rfl av ?_
          refine (impl_Liar.calls (h := HIM.out) (hr1 := (Kd.S_reads' (HS.get (i := 2) rfl)).2.2) (hc1 := (Kd.S_reads' (HS.get (i := 2) rfl)).2.1) (hr2_2 := (Kd.R_reads' (HS.get (i := 0) rfl).1).2.2) (hc2_2 := (Kd.R_reads' (HS.get (i := 0) rfl).1).2.1) (hr2_3 := (Kd.R_reads' (HS.get (i := 0) rfl).2).2.2) (hc2_3 := (Kd.R_reads' (HS.get (i := 0) rfl).2).2.1)).mono ?_
          rintro e w28 ⟨v28_0, v28_1, rfl, ho0, ho1, hb⟩
          obtain ⟨Ao28_0, co28_0, eo0⟩ := Kd.R_slice ho0
          subst eo0
          obtain ⟨Ao28_1, co28_1, eo1⟩ := Kd.R_slice ho1
          subst eo1
          have HN := HS.pushTwo hb ho0 ho1
          refine ⟨_, rfl, ?_⟩
          clear HS
          have HS := HN
          clear HN
          refine hK.out _ _ ⟨(blk_cell (HS.get (i := 15) rfl) 0).trans rfl, (blk_cell (HS.get (i := 15) rfl) 1).trans rfl, (blk_cell (HS.get (i := 15) rfl) 2).trans rfl, (blk_cell (HS.get (i := 15) rfl) 3).trans rfl⟩ (fun hHeld => ?_)
          clear hK K
          refine nz (N := some 104) ?_
          refine pz (i := 6) (N := some 98) #[true, true, true, true, true, true, true, false, false, true, false, false] rfl rfl HT_.out ?_
          refine pz (i := 7) (N := some 105) #[true, true, true, true, true, true, true, true, false, true, false, false] rfl rfl HT_.out ?_
          refine pz (i := 8) (N := some 106) #[true, true, true, true, true, true, true, true, true, true, false, false] rfl rfl HT_.out ?_
          refine one_ (i := 10) (N := none) #[true, true, true, true, true, true, true, true, true, true, true, false] rfl rfl (one_of HT_.out (by kernel_rfl)) (by decide) (fun K hK => ?_)
          clear hHeld
          have HN := HS.front (i := 2) rfl
          dsimp only [List.eraseIdx] at HN
          clear HS
          have HS := HN
          clear HN
          have f_0 := blk_frozen (HS.get (i := 0) rfl) 0
          have z_0 : w28.cell? ⟨g29, 0, none⟩ = some (.slice none 0 0) := (blk_cell (HS.get (i := 0) rfl) 0).trans rfl
          have f_1 := blk_frozen (HS.get (i := 0) rfl) 1
          have z_1 : w28.cell? ⟨g29, 1, none⟩ = some (.slice none 0 0) := (blk_cell (HS.get (i := 0) rfl) 1).trans rfl
          refine skip_ (w1 := ((w28.setCell ⟨g29, 0, none⟩ (.slice Ao28_0 r1.length co28_0)).setCell ⟨g29, 1, none⟩ (.slice Ao28_1 r2.length co28_1))) (by rfl) rfl (by first | (go_simp; done) | (go_simp; rfl)) ?_
          obtain ⟨w30, hw⟩ : ∃ x, x = ((w28.setCell ⟨g29, 0, none⟩ (.slice Ao28_0 r1.length co28_0)).setCell ⟨g29, 1, none⟩ (.slice Ao28_1 r2.length co28_1)) := ⟨_, rfl⟩
          rw [← hw]
          have HN : St w w30 (blk g29 #[.slice Ao28_0 r1.length co28_0, .slice Ao28_1 r2.length co28_1] 33 :: _) := (by rw [hw]; exact (HS.put (i := 0) (.slice Ao28_0 r1.length co28_0)).put (i := 1) (.slice Ao28_1 r2.length co28_1))
          clear HS hw f_0 z_0 f_1 z_1
          have HS := HN
          clear HN
          refine hK.out _ _ ⟨(blk_cell (HS.get (i := 15) rfl) 0).trans rfl, (blk_cell (HS.get (i := 15) rfl) 1).trans rfl, (blk_cell (HS.get (i := 15) rfl) 2).trans rfl, (blk_cell (HS.get (i := 15) rfl) 3).trans rfl⟩ (fun hHeld => ?_)
          clear hK K
          refine pz (i := 11) (N := some 18) #[true, true, true, true, true, true, true, true, true, true, true, true] rfl rfl HT_.out ?_
          refine done_ (done_of HT_.out (by kernel_rfl)) ?_
          clear HT_ HW_ hHeld
      rotate_left 3
      focus
        clear hHeld
        refine box_step ?hg (N := 17) ?hd (cs := #[.slice none 0 0, .slice none 0 0]) (t := 33) ?hr ?_; (case hd => rfl); (case hg => rfl); (case hr => first | (go_simp; done) | (go_simp; rfl))
        intro g29 hg w29 hbox hb
        have HN := HS.box hg hbox hb
        clear hg hbox hb HS
        have HS := HN
        clear HN
        refine hK.out _ _ ⟨(blk_cell (HS.get (i := 12) rfl) 0).trans rfl, (blk_cell (HS.get (i := 12) rfl) 1).trans rfl, (blk_cell (HS.get (i := 12) rfl) 2).trans rfl, (blk_cell (HS.get (i := 12) rfl) 3).trans rfl⟩ (fun hHeld => ?_)
        clear hK K
        refine nz (N := some 17) ?_
        refine one_ (i := 2) (N := some 101) #[true, true, true, true, false, false, false, false, false, true, false, false] rfl rfl (one_of HT_.out (by kernel_rfl)) (by decide) (fun K hK => ?_)
        clear hHeld
        refine goes_ Try.func27 (by kernel_rfl) rfl #[.slice A1 l1.length c1] (by rfl) rfl rfl av ?_
        refine (st_toByteSS HS HR1.out HC1.out (Nat.le_trans HLl1.out (by decide))).mono ?_
        rintro e w26 ⟨Ao26, co26, lo26, hi26, rfl, HN⟩
        refine ⟨_, rfl, ?_⟩
        clear HS
        have HS := HN
        clear HN
        refine hK.out _ _ ⟨(blk_cell (HS.get (i := 13) rfl) 0).trans rfl, (blk_cell (HS.get (i := 13) rfl) 1).trans rfl, (blk_cell (HS.get (i := 13) rfl) 2).trans rfl, (blk_cell (HS.get (i := 13) rfl) 3).trans rfl⟩ (fun hHeld => ?_)
        clear hK K
        refine nz (N := some 101) ?_
        refine one_ (i := 4) (N := some 103) #[true, true, true, true, true, false, false, false, false, true, false, false] rfl rfl (one_of HT_.out (by kernel_rfl)) (by decide) (fun K hK => ?_)
        clear hHeld
        refine goes_ Try.func35 (by kernel_rfl) rfl #[.agg #[.int .i64 a2_0, .int .i64 a2_1, .slice A2_2 l2_2.length c2_2, .slice A2_3 l2_3.length c2_3]] (by rfl) rfl rfl av ?_
        refine (st_toClaim HS HR2_2.out HC2_2.out (Nat.le_trans HLl2_2.out (by decide)) HR2_3.out HC2_3.out (Nat.le_trans HLl2_3.out (by decide))).mono ?_
        rintro e w27 ⟨Ao27_0, co27_0, Ao27_1, co27_1, lo27, hi27, rfl, HN⟩
        refine ⟨_, rfl, ?_⟩
        clear HS
        have HS := HN
        clear HN
        refine hK.out _ _ ⟨(blk_cell (HS.get (i := 14) rfl) 0).trans rfl, (blk_cell (HS.get (i := 14) rfl) 1).trans rfl, (blk_cell (HS.get (i := 14) rfl) 2).trans rfl, (blk_cell (HS.get (i := 14) rfl) 3).trans rfl⟩ (fun hHeld => ?_)
        clear hK K
        refine nz (N := some 103) ?_
        refine one_ (i := 5) (N := some 104) #[true, true, true, true, true, true, false, false, false, true, false, false] rfl rfl (one_of HT_.out (by kernel_rfl)) (by decide) (fun K hK => ?_)
        clear hHeld
        refine goes_ Try.func12 (by kernel_rfl) rfl #[.int .i64 a0, .slice Ao26 l1.length co26, .agg #[.int .i64 a2_0, .int .i64 a2_1, .slice Ao27_0 l2_2.length co27_0, .slice Ao27_1 l2_3.length co27_1]] (by rfl) rfl rfl av ?_
        refine (impl_Liar.calls (h := HIM.out) (hr1 := (Kd.S_reads' (HS.get (i := 1) rfl)).2.2) (hc1 := (Kd.S_reads' (HS.get (i := 1) rfl)).2.1) (hr2_2 := (Kd.R_reads' (HS.get (i := 0) rfl).1).2.2) (hc2_2 := (Kd.R_reads' (HS.get (i := 0) rfl).1).2.1) (hr2_3 := (Kd.R_reads' (HS.get (i := 0) rfl).2).2.2) (hc2_3 := (Kd.R_reads' (HS.get (i := 0) rfl).2).2.1)).mono ?_
        rintro e w28 ⟨v28_0, v28_1, rfl, ho0, ho1, hb⟩
        obtain ⟨Ao28_0, co28_0, eo0⟩ := Kd.R_slice ho0
        subst eo0
        obtain ⟨Ao28_1, co28_1, eo1⟩ := Kd.R_slice ho1
        subst eo1
        have HN := HS.pushTwo hb ho0 ho1
        refine ⟨_, rfl, ?_⟩
        clear HS
        have HS := HN
        clear HN
        refine hK.out _ _ ⟨(blk_cell (HS.get (i := 15) rfl) 0).trans rfl, (blk_cell (HS.get (i := 15) rfl) 1).trans rfl, (blk_cell (HS.get (i := 15) rfl) 2).trans rfl, (blk_cell (HS.get (i := 15) rfl) 3).trans rfl⟩ (fun hHeld => ?_)
        clear hK K
        refine nz (N := some 104) ?_
        refine pz (i := 6) (N := some 98) #[true, true, true, true, true, true, true, false, false, true, false, false] rfl rfl HT_.out ?_
        refine pz (i := 7) (N := some 105) #[true, true, true, true, true, true, true, true, false, true, false, false] rfl rfl HT_.out ?_
        refine pz (i := 8) (N := some 106) #[true, true, true, true, true, true, true, true, true, true, false, false] rfl rfl HT_.out ?_
        refine one_ (i := 10) (N := none) #[true, true, true, true, true, true, true, true, true, true, true, false] rfl rfl (one_of HT_.out (by kernel_rfl)) (by decide) (fun K hK => ?_)
        clear hHeld
        have HN := HS.front (i := 3) rfl
        dsimp only [List.eraseIdx] at HN
        clear HS
        have HS := HN
        clear HN
        have f_0 := blk_frozen (HS.get (i := 0) rfl) 0
        have z_0 : w28.cell? ⟨g29, 0, none⟩ = some (.slice none 0 0) := (blk_cell (HS.get (i := 0) rfl) 0).trans rfl
        have f_1 := blk_frozen (HS.get (i := 0) rfl) 1
        have z_1 : w28.cell? ⟨g29, 1, none⟩ = some (.slice none 0 0) := (blk_cell (HS.get (i := 0) rfl) 1).trans rfl
        refine skip_ (w1 := ((w28.setCell ⟨g29, 0, none⟩ (.slice Ao28_0 r1.length co28_0)).setCell ⟨g29, 1, none⟩ (.slice Ao28_1 r2.length co28_1))) (by rfl) rfl (by first | (go_simp; done) | (go_simp; rfl)) ?_
        obtain ⟨w30, hw⟩ : ∃ x, x = ((w28.setCell ⟨g29, 0, none⟩ (.slice Ao28_0 r1.length co28_0)).setCell ⟨g29, 1, none⟩ (.slice Ao28_1 r2.length co28_1)) := ⟨_, rfl⟩
        rw [← hw]
        have HN : St w w30 (blk g29 #[.slice Ao28_0 r1.length co28_0, .slice Ao28_1 r2.length co28_1] 33 :: _) := (by rw [hw]; exact (HS.put (i := 0) (.slice Ao28_0 r1.length co28_0)).put (i := 1) (.slice Ao28_1 r2.length co28_1))
        clear HS hw f_0 z_0 f_1 z_1
        have HS := HN
        clear HN
        refine hK.out _ _ ⟨(blk_cell (HS.get (i := 15) rfl) 0).trans rfl, (blk_cell (HS.get (i := 15) rfl) 1).trans rfl, (blk_cell (HS.get (i := 15) rfl) 2).trans rfl, (blk_cell (HS.get (i := 15) rfl) 3).trans rfl⟩ (fun hHeld => ?_)
        clear hK K
        refine pz (i := 11) (N := some 18) #[true, true, true, true, true, true, true, true, true, true, true, true] rfl rfl HT_.out ?_
        refine done_ (done_of HT_.out (by kernel_rfl)) ?_
        clear HT_ HW_ hHeld
      all_goals
        have zg29_0 : w30.cell? ⟨g29, 0, none⟩ = some (.slice Ao28_0 r1.length co28_0) := (blk_cell (HS.get (i := 0) rfl) 0).trans rfl
        have zg29_1 : w30.cell? ⟨g29, 1, none⟩ = some (.slice Ao28_1 r2.length co28_1) := (blk_cell (HS.get (i := 0) rfl) 1).trans rfl
        have zg7_0 : w30.cell? ⟨g7, 0, none⟩ = some (.slice Ao6_0 r1.length co6_0) := (blk_cell (HS.get (i := 11) rfl) 0).trans rfl
        have zg7_1 : w30.cell? ⟨g7, 1, none⟩ = some (.slice Ao6_1 r2.length co6_1) := (blk_cell (HS.get (i := 11) rfl) 1).trans rfl
        go_wp2_with (first | ((with_reducible refine gate_dst (N := 109) rfl ?_); refine goesL_ (some 109) rfl rfl Try.func28 (by kernel_rfl) rfl #[.agg #[.slice Ao28_0 r1.length co28_0, .slice Ao28_1 r2.length co28_1], .agg #[.slice Ao6_0 r1.length co6_0, .slice Ao6_1 r2.length co6_1]] rfl (by (try simp only [List.map_toArray, List.map_cons, List.map_nil]); first | done | rfl) ?_; refine (st_eqPair HS (Kd.R_reads' (HS.get (i := 1) rfl).1).2.2 (Kd.R_reads' (HS.get (i := 1) rfl).1).2.1 (Kd.R_reads' (HS.get (i := 1) rfl).2).2.2 (Kd.R_reads' (HS.get (i := 1) rfl).2).2.1 (seenNow (HS.get (i := 12) rfl).1).2.2 (seenNow (HS.get (i := 12) rfl).1).2.1 (seenNow (HS.get (i := 12) rfl).2).2.2 (seenNow (HS.get (i := 12) rfl).2).2.1 (Nat.le_trans HLr1.out (by decide)) (Nat.le_trans HLr2.out (by decide))).mono ?_; rintro e w31 ⟨rfl, HN⟩; refine ⟨_, rfl, ?_⟩; clear HS; have HS := HN; clear HN; clear zg29_0; clear zg29_1; clear zg7_0; clear zg7_1; have zg14_0 : w31.cell? ⟨g14, 0, none⟩ = some (.slice Ao13_0 r1.length co13_0) := (blk_cell (HS.get (i := 6) rfl) 0).trans rfl; have zg14_1 : w31.cell? ⟨g14, 1, none⟩ = some (.slice Ao13_1 r2.length co13_1) := (blk_cell (HS.get (i := 6) rfl) 1).trans rfl) | ((with_reducible refine gate_dst (N := 118) rfl ?_); refine goesL_ (some 118) rfl rfl Try.func32 (by kernel_rfl) rfl #[.agg #[.slice Ao13_0 r1.length co13_0, .slice Ao13_1 r2.length co13_1], .int .i64 1] rfl (by (try simp only [List.map_toArray, List.map_cons, List.map_nil]); first | done | rfl) ?_; refine (st_heldPair HS (Kd.R_reads' (HS.get (i := 7) rfl).1) (Kd.R_reads' (HS.get (i := 7) rfl).2) (Nat.le_trans HLr1.out (by decide)) (Nat.le_trans HLr2.out (by decide))).mono ?_; rintro e w32 ⟨nn32, rfl, HE32, HN⟩; have HM32 : Aside0 (nn32 = nn24) := ⟨by have := HE32.out; have := HE24.out; omega⟩; have d32 : decide (nn32 < 0) = false := decide_eq_false (by have := HM32.out; have := HM24.out; omega); have e32 : (nn32 != nn24) = false := bne_eq_false_iff_eq.mpr HM32.out; have i32 : (nn32 == nn24) = true := beq_iff_eq.mpr HM32.out; refine ⟨_, rfl, ?_⟩; clear HS; have HS := HN; clear HN; clear zg14_0; clear zg14_1))
        go_ret
        exact ⟨rfl, HS.bel⟩
end Go.Proofs.Ytchjajbkaiefdaa.X
