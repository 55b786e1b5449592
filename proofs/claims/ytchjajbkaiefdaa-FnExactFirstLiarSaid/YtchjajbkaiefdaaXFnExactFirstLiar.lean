/- The walk of the law FnExactFirstLiar: its one way to the end. -/
import Derived.Test.YtchjajbkaiefdaaPFnExactFirstLiarx8
import Derived.Test.YtchjajbkaiefdaaPFnExactFirstLiarx14
import Derived.Test.YtchjajbkaiefdaaPFnExactFirstLiarx15
import Derived.Test.YtchjajbkaiefdaaPFnExactFirstLiarx16
import Derived.Test.YtchjajbkaiefdaaPFnExactFirstLiarx17
import Derived.Test.YtchjajbkaiefdaaPureFnExactFirstLiar
import Derived.Test.YtchjajbkaiefdaaSt
namespace Go.Proofs.Ytchjajbkaiefdaa.X
open Go.RowKit Go.Proofs.Ytchjajbkaiefdaa Go.Proofs.Ytchjajbkaiefdaa.PFnExactFirstLiar Go.Proofs.Ytchjajbkaiefdaa.St Go.Proofs.YtchjajbkaiefdaaW.PrintWords Go.Proofs.YtchjajbkaiefdaaW.PrintLast Go.Proofs.YtchjajbkaiefdaaW.PrintMore
set_option linter.unusedVariables false
set_option linter.unusedSimpArgs false

theorem st_szByteSS {W w : World} {L : List Slot} (HS : St W w L) {A : Option Addr} {c : Nat} {l : List (List Int)} (hr : Kd.C (Kd.slice 5 (Kd.int .u8)) W A l.length l) (hc : l.length ≤ c) (hq : l.length ≤ maxLen ∧ ∀ v ∈ l, v.length ≤ maxLen) {a : Int} (h0 : 0 ≤ a) (ha : a ≤ 1048576) :
    Calls Try.prog 25 #[.slice A l.length c, .int .i64 a] w fun e w' => ∃ r : Int, e = .returned (.int .i64 r) ∧ Aside0 (r = Pure.left a (Pure.tot l)) ∧ St W w' L := by
  obtain ⟨k, h⟩ := (Pure.szByteSS l a h0 ha hq.1 hq.2).rounds
  refine (laws_szByteSS.calls (k := k) (h := h) (hr0 := Kd.C_below hr HS.bel) (hc0 := hc)).mono ?_
  rintro e w' ⟨rfl, hd⟩
  exact ⟨_, rfl, ⟨rfl⟩, HS.drawn hd⟩

theorem st_szClaimS {W w : World} {L : List Slot} (HS : St W w L) {A : Option Addr} {c : Nat} {l : List S58} (hr : Kd.C k58 W A l.length l) (hc : l.length ≤ c) (hq : l.length ≤ maxLen ∧ ∀ v ∈ l, v.f2.length ≤ maxLen ∧ v.f3.length ≤ maxLen) {a : Int} (h0 : 0 ≤ a) (ha : a ≤ 1048576) :
    Calls Try.prog 46 #[.slice A l.length c, .int .i64 a] w fun e w' => ∃ r : Int, e = .returned (.int .i64 r) ∧ Aside0 (r = Pure.left a (Pure.ctot l)) ∧ St W w' L := by
  obtain ⟨k, h⟩ := (Pure.szClaimS l a h0 ha hq.1 hq.2).rounds
  refine (laws_szClaimS.calls (k := k) (h := h) (hr0 := Kd.C_below hr HS.bel) (hc0 := hc)).mono ?_
  rintro e w' ⟨rfl, hd⟩
  exact ⟨_, rfl, ⟨rfl⟩, HS.below hd⟩

theorem st_toByteSS {W w : World} {L : List Slot} (HS : St W w L) {A : Option Addr} {c : Nat} {l : List (List Int)} (hr : Kd.C (Kd.slice 5 (Kd.int .u8)) W A l.length l) (hc : l.length ≤ c) (hl : Pure.tot l ≤ 10000000000000) :
    Calls Try.prog 27 #[.slice A l.length c] w fun e w' => ∃ (A' : Option Addr) (c' lo hi : Nat), e = .returned (.slice A' l.length c') ∧ St W w' (rows (Kd.slice 5 (Kd.int .u8)) 22 W.heap.size lo hi (.slice A' l.length c') l :: L) := by
  obtain ⟨k, h⟩ := (Pure.toByteSS l hl).rounds
  refine (laws_toByteSS.calls k A c l l w (Kd.C_below hr HS.bel) hc h).mono ?_
  rintro e w' ⟨v, rfl, ho, hb⟩
  obtain ⟨A', c', rfl⟩ := Kd.S_slice ho
  exact ⟨A', c', _, _, rfl, HS.pushRows hb ho⟩

theorem st_toClaimS {W w : World} {L : List Slot} (HS : St W w L) {A : Option Addr} {c : Nat} {l : List S58} {m : List S31} (hr : Kd.C k58 W A l.length l) (hc : l.length ≤ c) (hl : Pure.ctot l ≤ 1000000000000) (hm : m = l.map Pure.cl) :
    Calls Try.prog 48 #[.slice A l.length c] w fun e w' => ∃ (A' : Option Addr) (c' lo hi : Nat), e = .returned (.slice A' m.length c') ∧ St W w' (rows k31 31 W.heap.size lo hi (.slice A' m.length c') m :: L) := by
  subst hm
  obtain ⟨k, h⟩ := (Pure.toClaimS l hl).rounds
  refine (laws_toClaimS.calls k A c l (l.map Pure.cl) w (Kd.C_below hr HS.bel) hc h).mono ?_
  rintro e w' ⟨v, rfl, ho, hb⟩
  obtain ⟨A', c', rfl⟩ := Kd.S_slice ho
  exact ⟨A', c', _, _, rfl, HS.pushRows hb ho⟩

theorem st_eqPair {W w : World} {L : List Slot} (HS : St W w L) {A A1 B B1 : Option Addr} {c c1 d d1 : Nat} {l l1 : List Int} (h0 : Kd.C (Kd.int .u8) w A l.length l) (k0 : l.length ≤ c) (h1 : Kd.C (Kd.int .u8) w A1 l1.length l1) (k1 : l1.length ≤ c1) (i0 : Kd.C (Kd.int .u8) w B l.length l) (j0 : l.length ≤ d) (i1 : Kd.C (Kd.int .u8) w B1 l1.length l1) (j1 : l1.length ≤ d1) (hl : l.length ≤ 10000000000000) (hl1 : l1.length ≤ 10000000000000) :
    Calls Try.prog 28 #[.agg #[.slice A l.length c, .slice A1 l1.length c1], .agg #[.slice B l.length d, .slice B1 l1.length d1]] w fun e w' => e = .returned (.bool true) ∧ St W w' L := by
  obtain ⟨k, h⟩ := (Pure.eqPair l l1 (by omega) (by omega)).rounds
  refine (laws_eqPair.calls (k := k) (h := h) (hr0_0 := h0) (hc0_0 := k0) (hr0_1 := h1) (hc0_1 := k1) (hr1_0 := i0) (hc1_0 := j0) (hr1_1 := i1) (hc1_1 := j1)).mono ?_
  rintro e w' ⟨rfl, hd⟩
  exact ⟨rfl, HS.below hd⟩

theorem st_eqByteSS {W w : World} {L : List Slot} (HS : St W w L) {A A1 : Option Addr} {c c1 : Nat} {l : List (List Int)} (h0 : Kd.C (Kd.slice 5 (Kd.int .u8)) w A l.length l) (k0 : l.length ≤ c) (h1 : Kd.C (Kd.slice 5 (Kd.int .u8)) w A1 l.length l) (k1 : l.length ≤ c1) (hl : Pure.tot l ≤ 10000000000000) :
    Calls Try.prog 29 #[.slice A l.length c, .slice A1 l.length c1] w fun e w' => e = .returned (.bool true) ∧ St W w' L := by
  obtain ⟨k, h⟩ := (Pure.eqByteSS l hl).rounds
  refine (laws_eqByteSS.calls k A c l A1 c1 l true w h0 k0 h1 k1 h).mono ?_
  rintro e w' ⟨rfl, hd⟩
  exact ⟨rfl, HS.drawn hd⟩

theorem st_eqClaimS {W w : World} {L : List Slot} (HS : St W w L) {A A1 : Option Addr} {c c1 : Nat} {l : List S31} (h0 : Kd.C k31 w A l.length l) (k0 : l.length ≤ c) (h1 : Kd.C k31 w A1 l.length l) (k1 : l.length ≤ c1) (hl : Pure.dtot l ≤ 10000000000000) :
    Calls Try.prog 49 #[.slice A l.length c, .slice A1 l.length c1] w fun e w' => e = .returned (.bool true) ∧ St W w' L := by
  obtain ⟨k, h⟩ := (Pure.eqClaimS l hl).rounds
  refine (laws_eqClaimS.calls k A c l A1 c1 l true w h0 k0 h1 k1 h).mono ?_
  rintro e w' ⟨rfl, hd⟩
  exact ⟨rfl, HS.below hd⟩

set_option maxHeartbeats 4000000 in
set_option maxRecDepth 100000 in
theorem markSS_walk (W w : World) (lo hi : Nat) (A : Option Addr) (c : Nat) (l : List (List Int)) (a : Int) (h0 : 0 ≤ a) (ha : a + Pure.tsum l ≤ 4611686018427387904) (hB : Below W.heap.size W w)
    (hS : Kd.S (Kd.slice 5 (Kd.int .u8)) 22 w W.heap.size (fun k => (lo ≤ k ∧ k < hi) ∧ True) (.slice A l.length c) l) :
    Calls Try.prog 30 #[.slice A l.length c, .int .i64 a] w fun e w' => e = .returned (.int .i64 (a + Pure.tsum l)) ∧ Kd.S (Kd.slice 5 (Kd.int .u8)) 22 w' W.heap.size (fun k => (lo ≤ k ∧ k < hi) ∧ True) (.slice A l.length c) (Pure.markedSS a l) ∧ Below W.heap.size W w' ∧ Kept w w' (fun k => lo ≤ k ∧ k < hi) := by
  have HS := Aside0.mk hS
  have HB := Aside0.mk hB
  have HA := Aside0.mk ha
  have H0 := Aside0.mk h0
  have HM : Aside0 (l.length ≤ 9223372036854775807) := ⟨(Kd.S_reads' hS).2.2.2.1⟩
  clear hS hB ha h0
  go_enter Try.func30, Try.ntmps30
  go_wp2
  go_loopw [1, 5] (fun v i wr => ∃ j : Nat, i = .int .i64 j ∧ (∃ r : Int, v = .int .i64 r ∧ Aside0 (r = a + Pure.tsum (l.take j))) ∧ Aside0 (j ≤ l.length) ∧ Aside0 (Kd.S (Kd.slice 5 (Kd.int .u8)) 22 wr W.heap.size (fun k => (lo ≤ k ∧ k < hi) ∧ True) (.slice A l.length c) (Pure.markedSS a (l.take j) ++ l.drop j)) ∧ Aside0 (Below W.heap.size W wr) ∧ Aside0 (Kept w wr (fun k => lo ≤ k ∧ k < hi))) (fun _ i _ => l.length - (intOf i).toNat)
  case atStart => exact ⟨0, rfl, ⟨a, rfl, ⟨by simp [Pure.tsum]⟩⟩, ⟨Nat.zero_le _⟩, ⟨HS.out⟩, ⟨HB.out⟩, ⟨Kept.refl _ _⟩⟩
  case round =>
    clear HS HB
    obtain ⟨j, rfl, ⟨r, rfl, HR⟩, HJ, HS, HB, HK⟩ := hrel
    by_cases hlt : j < l.length
    · have c0 : decide (j < l.length) = true := decide_eq_true hlt
      have c1 : decide ((j : Int) < (l.length : Int)) = true := decide_eq_true (by omega)
      have p1 : 0 ≤ (j : Int) := Int.natCast_nonneg j
      have q1 : (j : Int) < (l.length : Int) := by omega
      have hlen : (Pure.markedSS a (l.take j) ++ l.drop j).length = l.length := by rw [List.length_append, Pure.markedSS_length, List.length_take, List.length_drop]; omega
      obtain ⟨g, cap, e, hg1, hg2, cells, hg3⟩ := Kd.S_form HS.out (by omega)
      injection e with e1 e2 e3
      subst e1
      obtain ⟨oki, cc, hcl, hM, hcc, hoki, hH⟩ := Kd.S_lend HS.out ([] : List Int) (j : Int) p1 q1
      obtain ⟨v, rfl, hR⟩ := hM
      obtain ⟨A0, c2, rfl⟩ := Kd.R_slice hR
      have hx := hcc 0 _ rfl
      rw [Int.toNat_natCast] at hx hR hH
      have e4 : j * (Kd.slice 5 (Kd.int .u8)).sz + 0 = j := Nat.mul_one j
      rw [e4, Pure.markedSS_at a l j hlt] at hx
      rw [Pure.markedSS_at a l j hlt] at hR hH
      have HX := Aside0.mk hR
      have HH := Aside0.mk hH
      have HO := Aside0.mk hoki
      have HL := Aside0.mk hlt
      have hts := Pure.tsum_snoc l j hlt
      have htk := Pure.tsum_take l (j + 1)
      have HT := Aside0.mk hts
      have HU := Aside0.mk htk
      obtain ⟨k, hmk⟩ := (Pure.markByteS (l.getD j []) r (by have := HR.out; have := H0.out; omega) (by have := HR.out; have := HA.out; omega)).rounds
      have HMK := Aside0.mk hmk
      have hst := Pure.markedSS_step a l j hlt
      have HST := Aside0.mk hst
      clear hlt hlen hg1 hg2 hg3 hcl hR hH hoki hts htk hmk hst hcc e2 e3
      generalize l.getD j [] = x at hx HX HT HMK HST HH
      go_wp2_with fail
      refine (laws_markByteS.calls k oki (.slice A0 x.length c2) x r _ _ W wr HB.out HX.out HMK.out).mono ?_
      rintro e w' ⟨rfl, ho, hb, hk⟩
      have b2 : (j : Int) ≤ 9223372036854775806 := by have := HL.out; have := HM.out; omega
      have HN1 := Aside0.mk (Kd.H_back (Kd.H_kept HH.out hk (fun _ _ hn hs => hn hs)) (x' := Pure.marked r x.length) (okp := oki) ⟨_, rfl, Kd.R_reok rfl ho (fun k hk => HX.out.1 k hk)⟩ (fun _ h => h))
      have HN2 := Aside0.mk hb
      have HN3 := Aside0.mk (HK.out.then_ hk (fun k hs => .inl (HO.out k hs).1.1))
      clear HS HB HK hk hb ho HH hx
      go_wp2
      go_roundw
      case rel => exact ⟨j + 1, by go_num, ⟨_, rfl, ⟨by have := HR.out; have := HT.out; omega⟩⟩, ⟨HL.out⟩, ⟨by have h := HN1.out; rw [Int.toNat_natCast, HR.out, HST.out] at h; exact h⟩, ⟨HN2.out⟩, ⟨HN3.out⟩⟩
      case measure => have := HL.out; simp [intOf]; omega
    · have c0 : decide (j < l.length) = false := decide_eq_false hlt
      have c1 : decide ((j : Int) < (l.length : Int)) = false := decide_eq_false (by omega)
      obtain rfl : j = l.length := by have := HJ.out; omega
      clear hlt
      go_wp2
      go_ret
      exact ⟨by have h := HR.out; rw [List.take_length] at h; first | (rw [h]; done) | (rw [h]; rfl), by have h := HS.out; rw [List.take_length, List.drop_length, List.append_nil] at h; exact h, HB.out, HK.out⟩
theorem st_markByteSS {W w : World} {L : List Slot} (HS : St W w L) {i lo hi : Nat} {A : Option Addr} {c : Nat} {l : List (List Int)} (hi' : L[i]? = some (rows (Kd.slice 5 (Kd.int .u8)) 22 W.heap.size lo hi (.slice A l.length c) l)) {a : Int} (h0 : 0 ≤ a) (ha : a + Pure.tsum l ≤ 4611686018427387904) :
    Calls Try.prog 30 #[.slice A l.length c, .int .i64 a] w fun e w' => ∃ r : Int, e = .returned (.int .i64 r) ∧ Aside0 (r = a + Pure.tsum l) ∧ St W w' (L.set i (rows (Kd.slice 5 (Kd.int .u8)) 22 W.heap.size lo hi (.slice A l.length c) (Pure.markedSS a l))) := by
  refine (markSS_walk W w lo hi A c l a h0 ha HS.bel (HS.get hi')).mono ?_
  rintro e w' ⟨rfl, ho, hb, hk⟩
  exact ⟨_, rfl, ⟨rfl⟩, HS.write hi' hk hb (rows (Kd.slice 5 (Kd.int .u8)) 22 W.heap.size lo hi (.slice A l.length c) (Pure.markedSS a l)) ho rfl rfl⟩

theorem getD_set31 {xs : List S31} {j : Nat} (y : S31) (h : j < xs.length) : (xs.set j y).getD j z31 = y := by
  rw [List.getD_eq_getElem?_getD, List.getElem?_set_self h]; rfl
section
variable {w : World} {B lo hi g n cap : Nat} {xs : List S31} {y : S31}
theorem cs_at (h : Kd.S k31 31 w B (fun k => (lo ≤ k ∧ k < hi) ∧ True) (.slice (some ⟨g, 0, none⟩) n cap) xs) (j : Nat) (hj : j < n) (hy : xs.getD j z31 = y) :
    (w.cell? ⟨g, j * 4, none⟩ = some (.int .i64 y.f0) ∧ w.cell? ⟨g, j * 4 + 1, none⟩ = some (.int .i64 y.f1)) ∧ (∀ i, w.frozen? ⟨g, j * 4 + i, none⟩ = false) := by
  obtain ⟨oki, c, hcl, hM, hcc, hfr, hoki, hH⟩ := Kd.S_elem h z31 (j : Int) (Int.natCast_nonneg j) (by omega)
  rw [Int.toNat_natCast] at hM hcc hfr
  rw [hy] at hM
  obtain ⟨v2, v3, rfl, _, _⟩ := k31_openM hM
  exact ⟨⟨hcc 0 _ rfl, hcc 1 _ rfl⟩, hfr⟩
theorem cs_put0 (h : Kd.S k31 31 w B (fun k => (lo ≤ k ∧ k < hi) ∧ True) (.slice (some ⟨g, 0, none⟩) n cap) xs) (j : Nat) (hj : j < n) (hy : xs.getD j z31 = y) (r : Int) :
    Kd.S k31 31 (w.setCell ⟨g, j * 4, none⟩ (.int .i64 r)) B (fun k => (lo ≤ k ∧ k < hi) ∧ True) (.slice (some ⟨g, 0, none⟩) n cap) (xs.set j ⟨r, y.f1, y.f2, y.f3⟩) ∧ w.grownBy (w.setCell ⟨g, j * 4, none⟩ (.int .i64 r)) (some g) := by
  have hji : (j : Int) < n := by omega
  obtain ⟨oki, c, hcl, hM, hcc, hoki, hH⟩ := Kd.S_lend h z31 (j : Int) (Int.natCast_nonneg j) hji
  rw [Int.toNat_natCast, hy] at hM
  obtain ⟨v2, v3, rfl, R2, R3⟩ := k31_openM hM
  obtain ⟨h1, hg⟩ := Kd.H_seg hH (Int.natCast_nonneg j) hji (seg := [.int .i64 r]) (j := 0) (by show 1 ≤ 4; omega) (fun q hq => by rw [List.mem_singleton.1 hq]; rfl)
  have e : w.setCells g ((j : Int).toNat * k31.sz + 0) [.int .i64 r] = w.setCell ⟨g, j * 4, none⟩ (.int .i64 r) := by rw [Int.toNat_natCast]; rfl
  rw [e] at h1 hg
  have hne : ∀ k, oki k → some k ≠ some g := fun k hk he => (hoki k hk).2 (Option.some.inj he)
  have h2 := Kd.H_back h1 (x' := ⟨r, y.f1, y.f2, y.f3⟩) (okp := oki) (k31_mkM _ _ _ ⟨r, y.f1, y.f2, y.f3⟩ (Kd.R_grown R2 hg hne) (Kd.R_grown R3 hg hne)) (fun _ hk => hk)
  rw [Int.toNat_natCast] at h2
  exact ⟨h2, hg⟩
theorem cs_put1 (h : Kd.S k31 31 w B (fun k => (lo ≤ k ∧ k < hi) ∧ True) (.slice (some ⟨g, 0, none⟩) n cap) xs) (j : Nat) (hj : j < n) (hy : xs.getD j z31 = y) (r : Int) :
    Kd.S k31 31 (w.setCell ⟨g, j * 4 + 1, none⟩ (.int .i64 r)) B (fun k => (lo ≤ k ∧ k < hi) ∧ True) (.slice (some ⟨g, 0, none⟩) n cap) (xs.set j ⟨y.f0, r, y.f2, y.f3⟩) ∧ w.grownBy (w.setCell ⟨g, j * 4 + 1, none⟩ (.int .i64 r)) (some g) := by
  have hji : (j : Int) < n := by omega
  obtain ⟨oki, c, hcl, hM, hcc, hoki, hH⟩ := Kd.S_lend h z31 (j : Int) (Int.natCast_nonneg j) hji
  rw [Int.toNat_natCast, hy] at hM
  obtain ⟨v2, v3, rfl, R2, R3⟩ := k31_openM hM
  obtain ⟨h1, hg⟩ := Kd.H_seg hH (Int.natCast_nonneg j) hji (seg := [.int .i64 r]) (j := 1) (by show 2 ≤ 4; omega) (fun q hq => by rw [List.mem_singleton.1 hq]; rfl)
  have e : w.setCells g ((j : Int).toNat * k31.sz + 1) [.int .i64 r] = w.setCell ⟨g, j * 4 + 1, none⟩ (.int .i64 r) := by rw [Int.toNat_natCast]; rfl
  rw [e] at h1 hg
  have hne : ∀ k, oki k → some k ≠ some g := fun k hk he => (hoki k hk).2 (Option.some.inj he)
  have h2 := Kd.H_back h1 (x' := ⟨y.f0, r, y.f2, y.f3⟩) (okp := oki) (k31_mkM _ _ _ ⟨y.f0, r, y.f2, y.f3⟩ (Kd.R_grown R2 hg hne) (Kd.R_grown R3 hg hne)) (fun _ hk => hk)
  rw [Int.toNat_natCast] at h2
  exact ⟨h2, hg⟩
theorem cs_leaf (h : Kd.S k31 31 w B (fun k => (lo ≤ k ∧ k < hi) ∧ True) (.slice (some ⟨g, 0, none⟩) n cap) xs) (j : Nat) (hj : j < n) (hy : xs.getD j z31 = y) :
    ∃ A2 c2, w.cell? ⟨g, j * 4 + 2, none⟩ = some (.slice A2 y.f2.length c2) ∧ Kd.R (Kd.int .u8) 5 w B (fun k => some k = (Value.slice A2 y.f2.length c2).ownBlock) (.slice A2 y.f2.length c2) y.f2 ∧ (∀ k, some k = (Value.slice A2 y.f2.length c2).ownBlock → lo ≤ k ∧ k < hi) ∧
      ∀ (w' : World) (ok2 : Nat → Prop) (x2 : List Int), Kd.R (Kd.int .u8) 5 w' B ok2 (.slice A2 y.f2.length c2) x2 → Kept w w' (fun k => some k = (Value.slice A2 y.f2.length c2).ownBlock) → Kd.S k31 31 w' B (fun k => (lo ≤ k ∧ k < hi) ∧ True) (.slice (some ⟨g, 0, none⟩) n cap) (xs.set j ⟨y.f0, y.f1, x2, y.f3⟩) := by
  have hji : (j : Int) < n := by omega
  obtain ⟨oki, c, hcl, hM, hcc, hoki, hH⟩ := Kd.S_lend h z31 (j : Int) (Int.natCast_nonneg j) hji
  rw [Int.toNat_natCast] at hM hcc
  rw [hy] at hM
  obtain ⟨v2, v3, rfl, R2, R3⟩ := k31_openM hM
  obtain ⟨A2, c2, rfl⟩ := Kd.R_slice R2
  refine ⟨A2, c2, hcc 2 _ rfl, Kd.R_tight rfl R2, fun k hk => (hoki k (R2.1 k hk.symm)).1.1, fun w' ok2 x2 hx hk => ?_⟩
  have h2 := Kd.H_back (Kd.H_kept hH hk (fun k _ hn hs => hn (R2.1 k hs.symm))) (x' := ⟨y.f0, y.f1, x2, y.f3⟩) (okp := oki) (k31_mkM _ _ _ ⟨y.f0, y.f1, x2, y.f3⟩ (Kd.R_reok rfl hx (fun k hk => R2.1 k hk)) (Kd.R_mono (Kd.R_kept (Kd.R_apartR R3 R2 (by decide)) hk (fun k hk hs => hk.2 hs)) (fun _ h => h.1))) (fun _ hk => hk)
  rw [Int.toNat_natCast] at h2
  exact h2
theorem cs_path (h : Kd.S k31 31 w B (fun k => (lo ≤ k ∧ k < hi) ∧ True) (.slice (some ⟨g, 0, none⟩) n cap) xs) (j : Nat) (hj : j < n) (hy : xs.getD j z31 = y) :
    ∃ A3 c3, w.cell? ⟨g, j * 4 + 3, none⟩ = some (.slice A3 y.f3.length c3) ∧ Kd.R (Kd.int .i64) 3 w B (fun k => some k = (Value.slice A3 y.f3.length c3).ownBlock) (.slice A3 y.f3.length c3) y.f3 ∧ (∀ k, some k = (Value.slice A3 y.f3.length c3).ownBlock → lo ≤ k ∧ k < hi) ∧
      ∀ (w' : World) (ok2 : Nat → Prop) (x3 : List Int), Kd.R (Kd.int .i64) 3 w' B ok2 (.slice A3 y.f3.length c3) x3 → Kept w w' (fun k => some k = (Value.slice A3 y.f3.length c3).ownBlock) → Kd.S k31 31 w' B (fun k => (lo ≤ k ∧ k < hi) ∧ True) (.slice (some ⟨g, 0, none⟩) n cap) (xs.set j ⟨y.f0, y.f1, y.f2, x3⟩) := by
  have hji : (j : Int) < n := by omega
  obtain ⟨oki, c, hcl, hM, hcc, hoki, hH⟩ := Kd.S_lend h z31 (j : Int) (Int.natCast_nonneg j) hji
  rw [Int.toNat_natCast] at hM hcc
  rw [hy] at hM
  obtain ⟨v2, v3, rfl, R2, R3⟩ := k31_openM hM
  obtain ⟨A3, c3, rfl⟩ := Kd.R_slice R3
  refine ⟨A3, c3, hcc 3 _ rfl, Kd.R_tight rfl R3, fun k hk => (hoki k (R3.1 k hk.symm)).1.1, fun w' ok2 x3 hx hk => ?_⟩
  have h2 := Kd.H_back (Kd.H_kept hH hk (fun k _ hn hs => hn (R3.1 k hs.symm))) (x' := ⟨y.f0, y.f1, y.f2, x3⟩) (okp := oki) (k31_mkM _ _ _ ⟨y.f0, y.f1, y.f2, x3⟩ (Kd.R_mono (Kd.R_kept (Kd.R_apartR R2 R3 (by decide)) hk (fun k hk hs => hk.2 hs)) (fun _ h => h.1)) (Kd.R_reok rfl hx (fun k hk => R3.1 k hk))) (fun _ hk => hk)
  rw [Int.toNat_natCast] at h2
  exact h2
end
set_option maxHeartbeats 8000000 in
set_option maxRecDepth 100000 in
theorem markCS_walk (W w : World) (lo hi : Nat) (A : Option Addr) (c : Nat) (l : List S31) (a : Int) (h0 : 0 ≤ a) (ha : a + Pure.dtot l ≤ 4611686018427387904) (hB : Below W.heap.size W w)
    (hS : Kd.S k31 31 w W.heap.size (fun k => (lo ≤ k ∧ k < hi) ∧ True) (.slice A l.length c) l) :
    Calls Try.prog 50 #[.slice A l.length c, .int .i64 a] w fun e w' => e = .returned (.int .i64 (a + Pure.dtot l)) ∧ Kd.S k31 31 w' W.heap.size (fun k => (lo ≤ k ∧ k < hi) ∧ True) (.slice A l.length c) (Pure.markedCS a l) ∧ Below W.heap.size W w' ∧ Kept w w' (fun k => lo ≤ k ∧ k < hi) := by
  have HS := Aside0.mk hS
  have HB := Aside0.mk hB
  have HA := Aside0.mk ha
  have H0 := Aside0.mk h0
  have HM : Aside0 (l.length ≤ 9223372036854775807) := ⟨(Kd.S_reads' hS).2.2.2.1⟩
  clear hS hB ha h0
  go_enter Try.func50, Try.ntmps50
  go_wp2
  go_loopw [1, 5] (fun v i wr => ∃ j : Nat, i = .int .i64 j ∧ (∃ r : Int, v = .int .i64 r ∧ Aside0 (r = a + Pure.dtot (l.take j))) ∧ Aside0 (j ≤ l.length) ∧ Aside0 (Kd.S k31 31 wr W.heap.size (fun k => (lo ≤ k ∧ k < hi) ∧ True) (.slice A l.length c) (Pure.markedCS a (l.take j) ++ l.drop j)) ∧ Aside0 (Below W.heap.size W wr) ∧ Aside0 (Kept w wr (fun k => lo ≤ k ∧ k < hi))) (fun _ i _ => l.length - (intOf i).toNat)
  case atStart => exact ⟨0, rfl, ⟨a, rfl, ⟨by simp [Pure.dtot]⟩⟩, ⟨Nat.zero_le _⟩, ⟨HS.out⟩, ⟨HB.out⟩, ⟨Kept.refl _ _⟩⟩
  case round =>
    clear HS HB
    obtain ⟨j, rfl, ⟨r, rfl, HR⟩, HJ, HS, HB, HK⟩ := hrel
    by_cases hlt : j < l.length
    · have c0 : decide (j < l.length) = true := decide_eq_true hlt
      have c1 : decide ((j : Int) < (l.length : Int)) = true := decide_eq_true (by omega)
      have p1 : 0 ≤ (j : Int) := Int.natCast_nonneg j
      have q1 : (j : Int) < (l.length : Int) := by omega
      have hlen : (Pure.markedCS a (l.take j) ++ l.drop j).length = l.length := by rw [List.length_append, Pure.markedCS_length, List.length_take, List.length_drop]; omega
      obtain ⟨g, cap, e, hg1, hg2, cells, hg3⟩ := Kd.S_form HS.out (by omega)
      injection e with e1 e2 e3
      subst e1
      have HG := Aside0.mk ((Kd.S_R HS.out).1 g rfl).1
      have HG1 := Aside0.mk hg1
      have HL := Aside0.mk hlt
      have HT := Aside0.mk (Pure.dtot_snoc l j hlt)
      have HU := Aside0.mk (Pure.dtot_take l (j + 1))
      have HY := Aside0.mk (Pure.markedCS_at a l j hlt)
      have HN := Aside0.mk hlen
      have HST := Aside0.mk (Pure.markedCS_step a l j hlt)
      obtain ⟨⟨z0, z1⟩, zf⟩ := cs_at HS.out j hlt HY.out
      have f0 : wr.frozen? ⟨g, j * 4, none⟩ = false := zf 0
      have f1 := zf 1
      clear hlt hlen hg1 hg2 hg3 e2 e3 zf
      generalize l.getD j z31 = x at z0 z1 HT HY HST
      generalize Pure.markedCS a (l.take j) ++ l.drop j = xs at HS HY HN HST
      have X1 : Aside0 (wrap64 (r + 1) = r + 1) := ⟨by have := HR.out; have := H0.out; have := HA.out; have := HT.out; have := HU.out; unfold wrap64; omega⟩
      have X2 : Aside0 (wrap64 (wrap64 (r + 1) + 1) = r + 2) := ⟨by rw [X1.out]; have := HR.out; have := H0.out; have := HA.out; have := HT.out; have := HU.out; unfold wrap64; omega⟩
      have X0 : Aside0 (0 ≤ r ∧ r + 2 + x.f2.length + x.f3.length ≤ 4611686018427387904) := ⟨by have := HR.out; have := H0.out; have := HA.out; have := HT.out; have := HU.out; omega⟩
      go_wp2_with (first | ((with_reducible refine gate_store (t := 3) (p := 16) rfl ?_); refine store_event (t := 3) (p := 16) (v := ?vo1) (w1 := (wr.setCell ⟨g, j * 4, none⟩ (.int .i64 r))) ?hg ?ho ?hn ?hr ?_; (case ho => rfl); (case hg => rfl); (case hn => rfl); (case hr => first | (go_simp; done) | (go_simp; rfl)); intro w1 hw; have P := cs_put0 HS.out j HL.out HY.out r; rw [← hw] at P; have S1 := Aside0.mk P.1; have B1 := Aside0.mk (by rw [hw]; exact below_set HB.out HG1.out : Below W.heap.size W w1); have K1 := Aside0.mk (Kept.of_grown P.2 HK.out (fun k e => .inl (by injection e with e; subst e; exact HG.out))); obtain ⟨⟨y0, y1⟩, zf⟩ := cs_at S1.out j HL.out (getD_set31 _ (by have := HN.out; have := HL.out; omega)); have f1 := zf 1; clear z0 z1 f0 zf P hw HS HB HK) | ((with_reducible refine gate_store (t := 3) (p := 23) rfl ?_); refine store_event (t := 3) (p := 23) (v := ?vo2) (w1 := (w1.setCell ⟨g, j * 4 + 1, none⟩ (.int .i64 (wrap64 (r + 1))))) ?hg ?ho ?hn ?hr ?_; (case ho => rfl); (case hg => rfl); (case hn => rfl); (case hr => first | (go_simp; done) | (go_simp; rfl)); intro w2 hw; have P := cs_put1 S1.out j HL.out (getD_set31 _ (by have := HN.out; have := HL.out; omega)) (wrap64 (r + 1)); rw [← hw, List.set_set] at P; have S2 := Aside0.mk P.1; have B2 := Aside0.mk (by rw [hw]; exact below_set B1.out HG1.out : Below W.heap.size W w2); have K2 := Aside0.mk (Kept.of_grown P.2 K1.out (fun k e => .inl (by injection e with e; subst e; exact HG.out))); obtain ⟨A2, c2, hx2, R2, O2, T2⟩ := cs_leaf S2.out j HL.out (getD_set31 _ (by have := HN.out; have := HL.out; omega)); dsimp only at hx2 R2 O2 T2; have R2 := Aside0.mk R2; have O2 := Aside0.mk O2; have T2 := Aside0.mk T2; clear y0 y1 f1 P hw S1 B1 K1 S2))
      obtain ⟨k1, hk1⟩ := (Pure.markByteS x.f2 (wrap64 (wrap64 (r + 1) + 1)) (by have := X2.out; have := X0.out; omega) (by have := X2.out; have := X0.out; omega)).rounds
      refine (laws_markByteS.calls k1 _ _ x.f2 _ _ _ W w2 B2.out R2.out hk1).mono ?_
      clear hk1
      rintro e w3 ⟨rfl, ho, hb, hk⟩
      have S3 := T2.out w3 _ _ ho hk
      rw [List.set_set] at S3
      have B3 := Aside0.mk hb
      have K3 := Aside0.mk (K2.out.then_ hk (fun k hs => .inl (O2.out k hs)))
      obtain ⟨A3, c3, hx3, R3, O3, T3⟩ := cs_path S3 j HL.out (getD_set31 _ (by have := HN.out; have := HL.out; omega))
      dsimp only at hx3 R3 O3 T3
      have R3 := Aside0.mk R3
      have O3 := Aside0.mk O3
      have T3 := Aside0.mk T3
      clear S3 ho hb hk T2 O2 R2 B2 K2 hx2
      go_wp2_with fail
      obtain ⟨k2, hk2⟩ := (Pure.markIntS x.f3 (wrap64 (wrap64 (r + 1) + 1) + x.f2.length) (by have := X2.out; have := X0.out; omega) (by have := X2.out; have := X0.out; omega)).rounds
      refine (laws_markIntS.calls k2 _ _ x.f3 _ _ _ W w3 B3.out R3.out hk2).mono ?_
      clear hk2
      rintro e w4 ⟨rfl, ho, hb, hk⟩
      have S4 := T3.out w4 _ _ ho hk
      rw [List.set_set] at S4
      have S4 := Aside0.mk S4
      have B4 := Aside0.mk hb
      have K4 := Aside0.mk (K3.out.then_ hk (fun k hs => .inl (O3.out k hs)))
      clear ho hb hk T3 O3 R3 B3 K3 hx3
      have b2 : (j : Int) ≤ 9223372036854775806 := by have := HL.out; have := HM.out; omega
      go_wp2
      go_roundw
      case rel => exact ⟨j + 1, by go_num, ⟨_, rfl, ⟨by have := HR.out; have := HT.out; have := X2.out; omega⟩⟩, ⟨HL.out⟩, ⟨by have h := S4.out; rw [X2.out, X1.out, HR.out] at h; rw [← HST.out]; exact h⟩, ⟨B4.out⟩, ⟨K4.out⟩⟩
      case measure => have := HL.out; simp [intOf]; omega
    · have c0 : decide (j < l.length) = false := decide_eq_false hlt
      have c1 : decide ((j : Int) < (l.length : Int)) = false := decide_eq_false (by omega)
      obtain rfl : j = l.length := by have := HJ.out; omega
      clear hlt
      go_wp2
      go_ret
      exact ⟨by have h := HR.out; rw [List.take_length] at h; first | (rw [h]; done) | (rw [h]; rfl), by have h := HS.out; rw [List.take_length, List.drop_length, List.append_nil] at h; exact h, HB.out, HK.out⟩
theorem st_markClaimS {W w : World} {L : List Slot} (HS : St W w L) {i lo hi : Nat} {A : Option Addr} {c : Nat} {l : List S31} (hi' : L[i]? = some (rows k31 31 W.heap.size lo hi (.slice A l.length c) l)) {a : Int} (h0 : 0 ≤ a) (ha : a + Pure.dtot l ≤ 4611686018427387904) :
    Calls Try.prog 50 #[.slice A l.length c, .int .i64 a] w fun e w' => ∃ r : Int, e = .returned (.int .i64 r) ∧ Aside0 (r = a + Pure.dtot l) ∧ St W w' (L.set i (rows k31 31 W.heap.size lo hi (.slice A l.length c) (Pure.markedCS a l))) := by
  refine (markCS_walk W w lo hi A c l a h0 ha HS.bel (HS.get hi')).mono ?_
  rintro e w' ⟨rfl, ho, hb, hk⟩
  exact ⟨_, rfl, ⟨rfl⟩, HS.write hi' hk hb (rows k31 31 W.heap.size lo hi (.slice A l.length c) (Pure.markedCS a l)) ho rfl rfl⟩

theorem st_markPair {W w : World} {L : List Slot} (HS : St W w L) {i lo hi : Nat} {v v1 : Value} {l l1 : List Int} (hi' : L[i]? = some (two (Kd.int .u8) 5 (Kd.int .u8) 5 W.heap.size lo hi v l v1 l1)) (hl : l.length ≤ 10000000000000) (hl1 : l1.length ≤ 10000000000000) :
    Calls Try.prog 31 #[.agg #[v, v1], .int .i64 1] w fun e w' => ∃ r : Int, e = .returned (.int .i64 r) ∧ Aside0 (r = 1 + l.length + l1.length) ∧ St W w' (L.set i (two (Kd.int .u8) 5 (Kd.int .u8) 5 W.heap.size lo hi v (Pure.marked 1 l.length) v1 (Pure.marked (1 + l.length) l1.length))) := by
  obtain ⟨k, h⟩ := (Pure.markPair l l1 (by omega) (by omega)).rounds
  have h2 : (two (Kd.int .u8) 5 (Kd.int .u8) 5 W.heap.size lo hi v l v1 l1).P w := HS.get hi'
  refine (laws_markPair.calls (k := k) (h := h) (P0_0_ := fun k => (lo ≤ k ∧ k < hi) ∧ some k = v.ownBlock) (P0_1_ := fun k => (lo ≤ k ∧ k < hi) ∧ some k = v1.ownBlock) (hB := HS.bel) (ho0_0 := Kd.R_reok rfl h2.1 (fun k hk => ⟨(h2.1.1 k hk).1, hk.symm⟩)) (ho0_1 := Kd.R_reok rfl h2.2 (fun k hk => ⟨(h2.2.1 k hk).1, hk.symm⟩))
    (hp0_0_0_1 := fun k hk hk2 => (h2.1.1 k hk.2.symm).2 hk2.2) (hp0_1_0_0 := fun k hk hk2 => (h2.1.1 k hk2.2.symm).2 hk.2)).mono ?_
  rintro e w' ⟨rfl, ho, ho1, hb, hk⟩
  exact ⟨_, rfl, ⟨rfl⟩, HS.writeTwo rfl rfl hi' (hk.mono (fun k h => h.elim (fun h => h.1) (fun h => h.1))) hb ho ho1⟩

theorem st_heldPair {W w : World} {L : List Slot} (HS : St W w L) {A A1 : Option Addr} {n0 c n1 c1 m m1 : Nat} (hr : n0 = (Pure.marked 1 m).length ∧ n0 ≤ c ∧ Kd.C (Kd.int .u8) w A (Pure.marked 1 m).length (Pure.marked 1 m)) (hr1 : n1 = (Pure.marked (1 + m) m1).length ∧ n1 ≤ c1 ∧ Kd.C (Kd.int .u8) w A1 (Pure.marked (1 + m) m1).length (Pure.marked (1 + m) m1)) (hl : m ≤ 10000000000000) (hl1 : m1 ≤ 10000000000000) :
    Calls Try.prog 32 #[.agg #[.slice A n0 c, .slice A1 n1 c1], .int .i64 1] w fun e w' => ∃ r : Int, e = .returned (.int .i64 r) ∧ Aside0 (r = 1 + m + m1) ∧ St W w' L := by
  obtain ⟨k, h⟩ := (Pure.heldPair m m1 (by omega) (by omega)).rounds
  obtain ⟨rfl, hc, hr⟩ := hr
  obtain ⟨rfl, hc1, hr1⟩ := hr1
  refine (laws_heldPair.calls (k := k) (h := h) (hr0_0 := hr) (hc0_0 := hc) (hr0_1 := hr1) (hc0_1 := hc1)).mono ?_
  rintro e w' ⟨rfl, hd⟩
  exact ⟨_, rfl, ⟨rfl⟩, HS.below hd⟩

set_option maxHeartbeats 8000000 in
set_option maxRecDepth 100000 in
theorem walk (a0 : Int) (A1 : Option Addr) (c1 : Nat) (l1 : List (List Int)) (A2 : Option Addr) (c2 : Nat) (l2 : List S58) (w : World) (hq0 : (Lit.int .i64 a0).wf = true) (hr1 : Kd.C (Kd.slice 5 (Kd.int .u8)) w A1 l1.length l1) (hc1 : l1.length ≤ c1) (hq1 : (l1.length ≤ maxLen ∧ ∀ v0 ∈ l1, (v0.length ≤ maxLen ∧ ∀ v1 ∈ v0, (Lit.int .u8 v1).wf = true))) (hr2 : Kd.C k58 w A2 l2.length l2) (hc2 : l2.length ≤ c2) (hq2 : (l2.length ≤ maxLen ∧ ∀ v0 ∈ l2, Pure.cq v0)) :
    Calls Try.prog 8 #[.int .i64 a0, .slice A1 l1.length c1, .slice A2 l2.length c2] w fun e w' => e = .returned (.bool true) ∧ Below w.heap.size w w' := by
  have HQ0 := Aside0.mk hq0
  clear hq0
  have HR1 := Aside0.mk hr1
  have HC1 := Aside0.mk hc1
  have HQ1 := Aside0.mk hq1
  clear hr1 hc1 hq1
  have HR2 := Aside0.mk hr2
  have HC2 := Aside0.mk hc2
  have HQ2 := Aside0.mk hq2
  clear hr2 hc2 hq2
  obtain ⟨SV0, ev0⟩ : ∃ z : Int, z = Pure.left 1048576 (Pure.tot l1) := ⟨_, rfl⟩
  have EV0 := Aside0.mk ev0
  clear ev0
  by_cases g0 : SV0 < 0
  · have GS0 := Aside0.mk g0
    clear g0
    go_enter Try.func8, Try.ntmps8
    have HS := St.nil w
    go_wp2_with (first | ((with_reducible refine gate_dst (N := 24) rfl ?_); refine goesL_ (some 24) rfl rfl Try.func25 (by kernel_rfl) rfl #[.slice A1 l1.length c1, .int .i64 1048576] rfl (by (try simp only [List.map_toArray, List.map_cons, List.map_nil]); first | done | rfl) ?_; refine (st_szByteSS HS HR1.out HC1.out ⟨HQ1.out.1, fun v hv => (HQ1.out.2 v hv).1⟩ (by decide) (by decide)).mono ?_; rintro e w1 ⟨nn1, rfl, HE1, HN⟩; have HV1 : Aside0 (nn1 = SV0) := ⟨by rw [HE1.out]; exact EV0.out.symm⟩; have d1 : decide (nn1 < 0) = true := decide_eq_true (by have := HV1.out; have := GS0.out; omega); refine ⟨_, rfl, ?_⟩; clear HS; have HS := HN; clear HN))
    go_ret
    exact ⟨rfl, HS.bel⟩
  have GS0 := Aside0.mk g0
  clear g0
  have GT0 : Aside0 (SV0 = 1048576 - ((Pure.tot l1 : Nat) : Int)) := ⟨by have h := EV0.out; have := GS0.out; rw [h]; exact Pure.left_ok (by rw [← h]; exact this)⟩
  have GU0 : Aside0 (SV0 ≤ 1048576) := ⟨by have := GT0.out; omega⟩
  have GLl1 : Aside0 (Pure.tot l1 ≤ 1048576) := ⟨by have := GT0.out; have := GS0.out; omega⟩
  have HLl1 : Aside0 (Pure.tot l1 ≤ 1000000000000) := ⟨by have := GLl1.out; omega⟩
  have HTl1 : Aside0 (Pure.tsum l1 ≤ 1000000000000) := ⟨Nat.le_trans (Pure.tsum_le l1) HLl1.out⟩
  obtain ⟨SV1, ev1⟩ : ∃ z : Int, z = Pure.left SV0 (Pure.ctot l2) := ⟨_, rfl⟩
  have EV1 := Aside0.mk ev1
  clear ev1
  by_cases g1 : SV1 < 0
  · have GS1 := Aside0.mk g1
    clear g1
    go_enter Try.func8, Try.ntmps8
    have HS := St.nil w
    go_wp2_with (first | ((with_reducible refine gate_dst (N := 24) rfl ?_); refine goesL_ (some 24) rfl rfl Try.func25 (by kernel_rfl) rfl #[.slice A1 l1.length c1, .int .i64 1048576] rfl (by (try simp only [List.map_toArray, List.map_cons, List.map_nil]); first | done | rfl) ?_; refine (st_szByteSS HS HR1.out HC1.out ⟨HQ1.out.1, fun v hv => (HQ1.out.2 v hv).1⟩ (by decide) (by decide)).mono ?_; rintro e w1 ⟨nn1, rfl, HE1, HN⟩; have HV1 : Aside0 (nn1 = SV0) := ⟨by rw [HE1.out]; exact EV0.out.symm⟩; have HB1 : Aside0 (0 ≤ nn1 ∧ nn1 ≤ 1048576) := ⟨by have := HV1.out; have := GS0.out; have := GU0.out; omega⟩; have d1 : decide (nn1 < 0) = false := decide_eq_false (by have := HB1.out; omega); refine ⟨_, rfl, ?_⟩; clear HS; have HS := HN; clear HN) | ((with_reducible refine gate_dst (N := 29) rfl ?_); refine goesL_ (some 29) rfl rfl Try.func46 (by kernel_rfl) rfl #[.slice A2 l2.length c2, .int .i64 nn1] rfl (by (try simp only [List.map_toArray, List.map_cons, List.map_nil]); first | done | rfl) ?_; refine (st_szClaimS HS HR2.out HC2.out ⟨HQ2.out.1, fun v hv => ⟨(HQ2.out.2 v hv).2.2.1.1, (HQ2.out.2 v hv).2.2.2.1⟩⟩ HB1.out.1 HB1.out.2).mono ?_; rintro e w2 ⟨nn2, rfl, HE2, HN⟩; have HV2 : Aside0 (nn2 = SV1) := ⟨by rw [HE2.out, HV1.out]; exact EV1.out.symm⟩; have d2 : decide (nn2 < 0) = true := decide_eq_true (by have := HV2.out; have := GS1.out; omega); refine ⟨_, rfl, ?_⟩; clear HS; have HS := HN; clear HN))
    go_ret
    exact ⟨rfl, HS.bel⟩
  have GS1 := Aside0.mk g1
  clear g1
  have GT1 : Aside0 (SV1 = SV0 - ((Pure.ctot l2 : Nat) : Int)) := ⟨by have h := EV1.out; have := GS1.out; rw [h]; exact Pure.left_ok (by rw [← h]; exact this)⟩
  have GU1 : Aside0 (SV1 ≤ 1048576) := ⟨by have := GT1.out; have := GU0.out; omega⟩
  have GLl2 : Aside0 (Pure.ctot l2 ≤ 1048576) := ⟨by have := GT1.out; have := GS1.out; have := GU0.out; omega⟩
  have HLl2 : Aside0 (Pure.ctot l2 ≤ 1000000000000) := ⟨by have := GLl2.out; omega⟩
  obtain ⟨ml2, hml2⟩ : ∃ m, m = l2.map Pure.cl := ⟨_, rfl⟩
  have HMl2 := Aside0.mk hml2
  clear hml2
  have HTl2 : Aside0 (Pure.dtot ml2 ≤ 2000000000000) := ⟨by have := Pure.dtot_cl l2; have := HLl2.out; rw [HMl2.out]; omega⟩
  obtain ⟨r1, r2, r3, r4, ⟨ks, hsp⟩, ⟨ki, him⟩, hbr2, hbr3⟩ := Pure.FnExactFirstLiar a0 l1 l2 HQ0.out HQ1.out HQ2.out GLl1.out GLl2.out
  rw [← HMl2.out] at hsp him
  have HSP := Aside0.mk hsp
  have HIM := Aside0.mk him
  clear hsp him
  have HLr2 := Aside0.mk hbr2
  clear hbr2
  have HLr3 := Aside0.mk hbr3
  clear hbr3
  have er1 : (r1 != r1) = false := bne_self_eq_false _
  have ir1 : (r1 == r1) = true := beq_self_eq_true _
  have er4 : (r4 != r4) = false := bne_self_eq_false _
  have ir4 : (r4 == r4) = true := beq_self_eq_true _
  go_enter Try.func8, Try.ntmps8
  have HS := St.nil w
  go_wp2_with (first | ((with_reducible refine gate_dst (N := 24) rfl ?_); refine goesL_ (some 24) rfl rfl Try.func25 (by kernel_rfl) rfl #[.slice A1 l1.length c1, .int .i64 1048576] rfl (by (try simp only [List.map_toArray, List.map_cons, List.map_nil]); first | done | rfl) ?_; refine (st_szByteSS HS HR1.out HC1.out ⟨HQ1.out.1, fun v hv => (HQ1.out.2 v hv).1⟩ (by decide) (by decide)).mono ?_; rintro e w1 ⟨nn1, rfl, HE1, HN⟩; have HV1 : Aside0 (nn1 = SV0) := ⟨by rw [HE1.out]; exact EV0.out.symm⟩; have HB1 : Aside0 (0 ≤ nn1 ∧ nn1 ≤ 1048576) := ⟨by have := HV1.out; have := GS0.out; have := GU0.out; omega⟩; have d1 : decide (nn1 < 0) = false := decide_eq_false (by have := HB1.out; omega); refine ⟨_, rfl, ?_⟩; clear HS; have HS := HN; clear HN) | ((with_reducible refine gate_dst (N := 29) rfl ?_); refine goesL_ (some 29) rfl rfl Try.func46 (by kernel_rfl) rfl #[.slice A2 l2.length c2, .int .i64 nn1] rfl (by (try simp only [List.map_toArray, List.map_cons, List.map_nil]); first | done | rfl) ?_; refine (st_szClaimS HS HR2.out HC2.out ⟨HQ2.out.1, fun v hv => ⟨(HQ2.out.2 v hv).2.2.1.1, (HQ2.out.2 v hv).2.2.2.1⟩⟩ HB1.out.1 HB1.out.2).mono ?_; rintro e w2 ⟨nn2, rfl, HE2, HN⟩; have HV2 : Aside0 (nn2 = SV1) := ⟨by rw [HE2.out, HV1.out]; exact EV1.out.symm⟩; have HB2 : Aside0 (0 ≤ nn2 ∧ nn2 ≤ 1048576) := ⟨by have := HV2.out; have := GS1.out; have := GU1.out; omega⟩; have d2 : decide (nn2 < 0) = false := decide_eq_false (by have := HB2.out; omega); refine ⟨_, rfl, ?_⟩; clear HS; have HS := HN; clear HN) | ((with_reducible refine gate_dst (N := 35) rfl ?_); refine goesL_ (some 35) rfl rfl Try.func27 (by kernel_rfl) rfl #[.slice A1 l1.length c1] rfl (by (try simp only [List.map_toArray, List.map_cons, List.map_nil]); first | done | rfl) ?_; refine (st_toByteSS HS HR1.out HC1.out (Nat.le_trans HLl1.out (by decide))).mono ?_; rintro e w3 ⟨Ao3, co3, lo3, hi3, rfl, HN⟩; refine ⟨_, rfl, ?_⟩; clear HS; have HS := HN; clear HN) | ((with_reducible refine gate_dst (N := 37) rfl ?_); refine goesL_ (some 37) rfl rfl Try.func48 (by kernel_rfl) rfl #[.slice A2 l2.length c2] rfl (by (try simp only [List.map_toArray, List.map_cons, List.map_nil]); first | done | rfl) ?_; refine (st_toClaimS HS HR2.out HC2.out (Nat.le_trans HLl2.out (by decide)) HMl2.out).mono ?_; rintro e w4 ⟨Ao4, co4, lo4, hi4, rfl, HN⟩; refine ⟨_, rfl, ?_⟩; clear HS; have HS := HN; clear HN) | ((with_reducible refine gate_dst (N := 38) rfl ?_); refine goesL_ (some 38) rfl rfl Try.func47 (by kernel_rfl) rfl #[.int .i64 a0, .slice Ao3 l1.length co3, .slice Ao4 ml2.length co4] rfl (by (try simp only [List.map_toArray, List.map_cons, List.map_nil]); first | done | rfl) ?_; refine (spec_FirstLiar.calls (h := HSP.out) (hr1 := (Kd.S_reads' (HS.get (i := 1) rfl)).2.2) (hc1 := (Kd.S_reads' (HS.get (i := 1) rfl)).2.1) (hr2 := (Kd.S_reads' (HS.get (i := 0) rfl)).2.2) (hc2 := (Kd.S_reads' (HS.get (i := 0) rfl)).2.1)).mono ?_; rintro e w5 ⟨v5_1, v5_2, rfl, ho1, ho2, hb⟩; obtain ⟨Ao5_1, co5_1, eo1⟩ := Kd.V_slice ho1; subst eo1; obtain ⟨Ao5_2, co5_2, eo2⟩ := Kd.V_slice ho2; subst eo2; have HN := HS.pushSeen hb (both (view (Kd.int .u8) w4.heap.size w5.heap.size Ao5_1 r2.length co5_1 r2) (view (Kd.int .u8) w4.heap.size w5.heap.size Ao5_2 r3.length co5_2 r3) rfl rfl) ⟨view_V ho1 (fun _ h => by first | exact h | exact h.1 | exact h.1.1), view_V ho2 (fun _ h => by first | exact h | exact h.1 | exact h.1.1)⟩ rfl rfl; refine ⟨_, rfl, ?_⟩; clear HS; have HS := HN; clear HN) | ((with_reducible refine gate_dst (N := 9) rfl ?_); refine box_event ?hg (N := 9) ?hd (cs := #[.slice none 0 0, .slice none 0 0]) (t := 33) ?hr ?_; (case hd => rfl); (case hg => rfl); (case hr => first | (go_simp; done) | (go_simp; rfl)); intro g6 hg w6 hbox hb; have HN := HS.box hg hbox hb; have f6_0 := blk_frozen hbox 0; have f6_1 := blk_frozen hbox 1; clear hg hbox hb; clear HS; have HS := HN; clear HN; have zg6_0 : w6.cell? ⟨g6, 0, none⟩ = some (.slice none 0 0) := (blk_cell (HS.get (i := 0) rfl) 0).trans rfl; have zg6_1 : w6.cell? ⟨g6, 1, none⟩ = some (.slice none 0 0) := (blk_cell (HS.get (i := 0) rfl) 1).trans rfl) | ((with_reducible refine gate_store (t := 33) (p := 9) rfl ?_); refine store_event (t := 33) (p := 9) (v := ?vo7) (w1 := ((w6.setCell ⟨g6, 0, none⟩ (.slice Ao5_1 r2.length co5_1)).setCell ⟨g6, 1, none⟩ (.slice Ao5_2 r3.length co5_2))) ?hg ?ho ?hn ?hr ?_; (case ho => rfl); (case hg => rfl); (case hn => rfl); (case hr => first | (go_simp; done) | (go_simp; rfl)); intro w7 hw; have HN : St w w7 (blk g6 #[.slice Ao5_1 r2.length co5_1, .slice Ao5_2 r3.length co5_2] 33 :: _) := (by rw [hw]; exact (HS.put (i := 0) (.slice Ao5_1 r2.length co5_1)).put (i := 1) (.slice Ao5_2 r3.length co5_2)); clear HS; have HS := HN; clear HN hw f6_0 f6_1; clear zg6_0; clear zg6_1) | ((with_reducible refine gate_dst (N := 43) rfl ?_); refine goesL_ (some 43) rfl rfl Try.func27 (by kernel_rfl) rfl #[.slice A1 l1.length c1] rfl (by (try simp only [List.map_toArray, List.map_cons, List.map_nil]); first | done | rfl) ?_; refine (st_toByteSS HS HR1.out HC1.out (Nat.le_trans HLl1.out (by decide))).mono ?_; rintro e w8 ⟨Ao8, co8, lo8, hi8, rfl, HN⟩; refine ⟨_, rfl, ?_⟩; clear HS; have HS := HN; clear HN) | ((with_reducible refine gate_dst (N := 45) rfl ?_); refine goesL_ (some 45) rfl rfl Try.func48 (by kernel_rfl) rfl #[.slice A2 l2.length c2] rfl (by (try simp only [List.map_toArray, List.map_cons, List.map_nil]); first | done | rfl) ?_; refine (st_toClaimS HS HR2.out HC2.out (Nat.le_trans HLl2.out (by decide)) HMl2.out).mono ?_; rintro e w9 ⟨Ao9, co9, lo9, hi9, rfl, HN⟩; refine ⟨_, rfl, ?_⟩; clear HS; have HS := HN; clear HN) | ((with_reducible refine gate_dst (N := 50) rfl ?_); refine goesL_ (some 50) rfl rfl Try.func16 (by kernel_rfl) rfl #[.int .i64 a0, .slice Ao8 l1.length co8, .slice Ao9 ml2.length co9] rfl (by (try simp only [List.map_toArray, List.map_cons, List.map_nil]); first | done | rfl) ?_; refine (impl_FirstLiar.calls (h := HIM.out) (hr1 := (Kd.S_reads' (HS.get (i := 1) rfl)).2.2) (hc1 := (Kd.S_reads' (HS.get (i := 1) rfl)).2.1) (hr2 := (Kd.S_reads' (HS.get (i := 0) rfl)).2.2) (hc2 := (Kd.S_reads' (HS.get (i := 0) rfl)).2.1)).mono ?_; rintro e w10 ⟨v10_1, v10_2, rfl, ho1, ho2, hb⟩; obtain ⟨Ao10_1, co10_1, eo1⟩ := Kd.R_slice ho1; subst eo1; obtain ⟨Ao10_2, co10_2, eo2⟩ := Kd.R_slice ho2; subst eo2; have HN := HS.pushTwo hb ho1 ho2; refine ⟨_, rfl, ?_⟩; clear HS; have HS := HN; clear HN) | ((with_reducible refine gate_dst (N := 14) rfl ?_); refine box_event ?hg (N := 14) ?hd (cs := #[.slice none 0 0, .slice none 0 0]) (t := 33) ?hr ?_; (case hd => rfl); (case hg => rfl); (case hr => first | (go_simp; done) | (go_simp; rfl)); intro g11 hg w11 hbox hb; have HN := HS.box hg hbox hb; have f11_0 := blk_frozen hbox 0; have f11_1 := blk_frozen hbox 1; clear hg hbox hb; clear HS; have HS := HN; clear HN; have zg11_0 : w11.cell? ⟨g11, 0, none⟩ = some (.slice none 0 0) := (blk_cell (HS.get (i := 0) rfl) 0).trans rfl; have zg11_1 : w11.cell? ⟨g11, 1, none⟩ = some (.slice none 0 0) := (blk_cell (HS.get (i := 0) rfl) 1).trans rfl) | ((with_reducible refine gate_store (t := 33) (p := 14) rfl ?_); refine store_event (t := 33) (p := 14) (v := ?vo12) (w1 := ((w11.setCell ⟨g11, 0, none⟩ (.slice Ao10_1 r2.length co10_1)).setCell ⟨g11, 1, none⟩ (.slice Ao10_2 r3.length co10_2))) ?hg ?ho ?hn ?hr ?_; (case ho => rfl); (case hg => rfl); (case hn => rfl); (case hr => first | (go_simp; done) | (go_simp; rfl)); intro w12 hw; have HN : St w w12 (blk g11 #[.slice Ao10_1 r2.length co10_1, .slice Ao10_2 r3.length co10_2] 33 :: _) := (by rw [hw]; exact (HS.put (i := 0) (.slice Ao10_1 r2.length co10_1)).put (i := 1) (.slice Ao10_2 r3.length co10_2)); clear HS; have HS := HN; clear HN hw f11_0 f11_1; clear zg11_0; clear zg11_1; have zg11_0 : w12.cell? ⟨g11, 0, none⟩ = some (.slice Ao10_1 r2.length co10_1) := (blk_cell (HS.get (i := 0) rfl) 0).trans rfl; have zg11_1 : w12.cell? ⟨g11, 1, none⟩ = some (.slice Ao10_2 r3.length co10_2) := (blk_cell (HS.get (i := 0) rfl) 1).trans rfl; have zg6_0 : w12.cell? ⟨g6, 0, none⟩ = some (.slice Ao5_1 r2.length co5_1) := (blk_cell (HS.get (i := 4) rfl) 0).trans rfl; have zg6_1 : w12.cell? ⟨g6, 1, none⟩ = some (.slice Ao5_2 r3.length co5_2) := (blk_cell (HS.get (i := 4) rfl) 1).trans rfl) | (go_at_call 28; refine (st_eqPair HS (Kd.R_reads' (HS.get (i := 1) rfl).1).2.2 (Kd.R_reads' (HS.get (i := 1) rfl).1).2.1 (Kd.R_reads' (HS.get (i := 1) rfl).2).2.2 (Kd.R_reads' (HS.get (i := 1) rfl).2).2.1 (seenNow (HS.get (i := 5) rfl).1).2.2 (seenNow (HS.get (i := 5) rfl).1).2.1 (seenNow (HS.get (i := 5) rfl).2).2.2 (seenNow (HS.get (i := 5) rfl).2).2.1 (Nat.le_trans HLr2.out (by decide)) (Nat.le_trans HLr3.out (by decide))).mono ?_; rintro e w13 ⟨rfl, HN⟩; clear HS; have HS := HN; clear HN; clear zg11_0; clear zg11_1; clear zg6_0; clear zg6_1) | ((with_reducible refine gate_dst (N := 70) rfl ?_); refine goesL_ (some 70) rfl rfl Try.func27 (by kernel_rfl) rfl #[.slice A1 l1.length c1] rfl (by (try simp only [List.map_toArray, List.map_cons, List.map_nil]); first | done | rfl) ?_; refine (st_toByteSS HS HR1.out HC1.out (Nat.le_trans HLl1.out (by decide))).mono ?_; rintro e w14 ⟨Ao14, co14, lo14, hi14, rfl, HN⟩; refine ⟨_, rfl, ?_⟩; clear HS; have HS := HN; clear HN) | ((with_reducible refine gate_dst (N := 71) rfl ?_); refine goesL_ (some 71) rfl rfl Try.func29 (by kernel_rfl) rfl #[.slice Ao8 l1.length co8, .slice Ao14 l1.length co14] rfl (by (try simp only [List.map_toArray, List.map_cons, List.map_nil]); first | done | rfl) ?_; refine (st_eqByteSS HS (Kd.S_reads' (HS.get (i := 4) rfl)).2.2 (Kd.S_reads' (HS.get (i := 4) rfl)).2.1 (Kd.S_reads' (HS.get (i := 0) rfl)).2.2 (Kd.S_reads' (HS.get (i := 0) rfl)).2.1 (Nat.le_trans HLl1.out (by decide))).mono ?_; rintro e w15 ⟨rfl, HN⟩; refine ⟨_, rfl, ?_⟩; clear HS; have HS := HN; clear HN) | ((with_reducible refine gate_dst (N := 75) rfl ?_); refine goesL_ (some 75) rfl rfl Try.func48 (by kernel_rfl) rfl #[.slice A2 l2.length c2] rfl (by (try simp only [List.map_toArray, List.map_cons, List.map_nil]); first | done | rfl) ?_; refine (st_toClaimS HS HR2.out HC2.out (Nat.le_trans HLl2.out (by decide)) HMl2.out).mono ?_; rintro e w16 ⟨Ao16, co16, lo16, hi16, rfl, HN⟩; refine ⟨_, rfl, ?_⟩; clear HS; have HS := HN; clear HN) | ((with_reducible refine gate_dst (N := 76) rfl ?_); refine goesL_ (some 76) rfl rfl Try.func49 (by kernel_rfl) rfl #[.slice Ao9 ml2.length co9, .slice Ao16 ml2.length co16] rfl (by (try simp only [List.map_toArray, List.map_cons, List.map_nil]); first | done | rfl) ?_; refine (st_eqClaimS HS (Kd.S_reads' (HS.get (i := 4) rfl)).2.2 (Kd.S_reads' (HS.get (i := 4) rfl)).2.1 (Kd.S_reads' (HS.get (i := 0) rfl)).2.2 (Kd.S_reads' (HS.get (i := 0) rfl)).2.1 (Nat.le_trans HTl2.out (by decide))).mono ?_; rintro e w17 ⟨rfl, HN⟩; refine ⟨_, rfl, ?_⟩; clear HS; have HS := HN; clear HN) | ((with_reducible refine gate_dst (N := 80) rfl ?_); refine goesL_ (some 80) rfl rfl Try.func30 (by kernel_rfl) rfl #[.slice Ao8 l1.length co8, .int .i64 1] rfl (by (try simp only [List.map_toArray, List.map_cons, List.map_nil]); first | done | rfl) ?_; refine (st_markByteSS HS (i := 5) rfl (by decide) (by have := HTl1.out; omega)).mono ?_; rintro e w18 ⟨nn18, rfl, HE18, HN⟩; have HM18 : Aside0 (0 ≤ nn18 ∧ nn18 ≤ 10000000000000) := ⟨by have := HE18.out; have := HTl1.out; omega⟩; have d18 : decide (nn18 < 0) = false := decide_eq_false (by have := HM18.out; omega); refine ⟨_, rfl, ?_⟩; clear HS; have HS := HN; clear HN) | ((with_reducible refine gate_dst (N := 83) rfl ?_); refine goesL_ (some 83) rfl rfl Try.func50 (by kernel_rfl) rfl #[.slice Ao9 ml2.length co9, .int .i64 nn18] rfl (by (try simp only [List.map_toArray, List.map_cons, List.map_nil]); first | done | rfl) ?_; refine (st_markClaimS HS (i := 4) rfl (by have := HM18.out; omega) (by have := HM18.out; have := HTl2.out; omega)).mono ?_; rintro e w19 ⟨nn19, rfl, HE19, HN⟩; have HM19 : Aside0 (0 ≤ nn19 ∧ nn19 ≤ 20000000000000) := ⟨by have := HE19.out; have := HM18.out; have := HTl2.out; omega⟩; have d19 : decide (nn19 < 0) = false := decide_eq_false (by have := HM19.out; omega); refine ⟨_, rfl, ?_⟩; clear HS; have HS := HN; clear HN; have zg11_0 : w19.cell? ⟨g11, 0, none⟩ = some (.slice Ao10_1 r2.length co10_1) := (blk_cell (HS.get (i := 2) rfl) 0).trans rfl; have zg11_1 : w19.cell? ⟨g11, 1, none⟩ = some (.slice Ao10_2 r3.length co10_2) := (blk_cell (HS.get (i := 2) rfl) 1).trans rfl; have zg6_0 : w19.cell? ⟨g6, 0, none⟩ = some (.slice Ao5_1 r2.length co5_1) := (blk_cell (HS.get (i := 6) rfl) 0).trans rfl; have zg6_1 : w19.cell? ⟨g6, 1, none⟩ = some (.slice Ao5_2 r3.length co5_2) := (blk_cell (HS.get (i := 6) rfl) 1).trans rfl) | (go_at_call 28; refine (st_eqPair HS (Kd.R_reads' (HS.get (i := 3) rfl).1).2.2 (Kd.R_reads' (HS.get (i := 3) rfl).1).2.1 (Kd.R_reads' (HS.get (i := 3) rfl).2).2.2 (Kd.R_reads' (HS.get (i := 3) rfl).2).2.1 (seenNow (HS.get (i := 7) rfl).1).2.2 (seenNow (HS.get (i := 7) rfl).1).2.1 (seenNow (HS.get (i := 7) rfl).2).2.2 (seenNow (HS.get (i := 7) rfl).2).2.1 (Nat.le_trans HLr2.out (by decide)) (Nat.le_trans HLr3.out (by decide))).mono ?_; rintro e w20 ⟨rfl, HN⟩; clear HS; have HS := HN; clear HN; clear zg11_0; clear zg11_1; clear zg6_0; clear zg6_1; have zg11_0 : w20.cell? ⟨g11, 0, none⟩ = some (.slice Ao10_1 r2.length co10_1) := (blk_cell (HS.get (i := 2) rfl) 0).trans rfl; have zg11_1 : w20.cell? ⟨g11, 1, none⟩ = some (.slice Ao10_2 r3.length co10_2) := (blk_cell (HS.get (i := 2) rfl) 1).trans rfl) | ((with_reducible refine gate_dst (N := 104) rfl ?_); refine goesL_ (some 104) rfl rfl Try.func31 (by kernel_rfl) rfl #[.agg #[.slice Ao10_1 r2.length co10_1, .slice Ao10_2 r3.length co10_2], .int .i64 1] rfl (by (try simp only [List.map_toArray, List.map_cons, List.map_nil]); first | done | rfl) ?_; refine (st_markPair HS (i := 3) rfl (Nat.le_trans HLr2.out (by decide)) (Nat.le_trans HLr3.out (by decide))).mono ?_; rintro e w21 ⟨nn21, rfl, HE21, HN⟩; have HM21 : Aside0 (0 ≤ nn21 ∧ nn21 ≤ 30000000000000) := ⟨by have := HE21.out; have := HLr2.out; have := HLr3.out; omega⟩; have d21 : decide (nn21 < 0) = false := decide_eq_false (by have := HM21.out; omega); refine ⟨_, rfl, ?_⟩; clear HS; have HS := HN; clear HN; clear zg11_0; clear zg11_1; have zg11_0 : w21.cell? ⟨g11, 0, none⟩ = some (.slice Ao10_1 r2.length co10_1) := (blk_cell (HS.get (i := 2) rfl) 0).trans rfl; have zg11_1 : w21.cell? ⟨g11, 1, none⟩ = some (.slice Ao10_2 r3.length co10_2) := (blk_cell (HS.get (i := 2) rfl) 1).trans rfl) | ((with_reducible refine gate_dst (N := 107) rfl ?_); refine goesL_ (some 107) rfl rfl Try.func32 (by kernel_rfl) rfl #[.agg #[.slice Ao10_1 r2.length co10_1, .slice Ao10_2 r3.length co10_2], .int .i64 1] rfl (by (try simp only [List.map_toArray, List.map_cons, List.map_nil]); first | done | rfl) ?_; refine (st_heldPair HS (Kd.R_reads' (HS.get (i := 3) rfl).1) (Kd.R_reads' (HS.get (i := 3) rfl).2) (Nat.le_trans HLr2.out (by decide)) (Nat.le_trans HLr3.out (by decide))).mono ?_; rintro e w22 ⟨nn22, rfl, HE22, HN⟩; have HM22 : Aside0 (nn22 = nn21) := ⟨by have := HE22.out; have := HE21.out; omega⟩; have d22 : decide (nn22 < 0) = false := decide_eq_false (by have := HM22.out; have := HM21.out; omega); have e22 : (nn22 != nn21) = false := bne_eq_false_iff_eq.mpr HM22.out; have i22 : (nn22 == nn21) = true := beq_iff_eq.mpr HM22.out; refine ⟨_, rfl, ?_⟩; clear HS; have HS := HN; clear HN; clear zg11_0; clear zg11_1) | ((with_reducible refine gate_dst (N := 116) rfl ?_); refine goesL_ (some 116) rfl rfl Try.func27 (by kernel_rfl) rfl #[.slice A1 l1.length c1] rfl (by (try simp only [List.map_toArray, List.map_cons, List.map_nil]); first | done | rfl) ?_; refine (st_toByteSS HS HR1.out HC1.out (Nat.le_trans HLl1.out (by decide))).mono ?_; rintro e w23 ⟨Ao23, co23, lo23, hi23, rfl, HN⟩; refine ⟨_, rfl, ?_⟩; clear HS; have HS := HN; clear HN) | ((with_reducible refine gate_dst (N := 118) rfl ?_); refine goesL_ (some 118) rfl rfl Try.func48 (by kernel_rfl) rfl #[.slice A2 l2.length c2] rfl (by (try simp only [List.map_toArray, List.map_cons, List.map_nil]); first | done | rfl) ?_; refine (st_toClaimS HS HR2.out HC2.out (Nat.le_trans HLl2.out (by decide)) HMl2.out).mono ?_; rintro e w24 ⟨Ao24, co24, lo24, hi24, rfl, HN⟩; refine ⟨_, rfl, ?_⟩; clear HS; have HS := HN; clear HN) | ((with_reducible refine gate_dst (N := 119) rfl ?_); refine goesL_ (some 119) rfl rfl Try.func16 (by kernel_rfl) rfl #[.int .i64 a0, .slice Ao23 l1.length co23, .slice Ao24 ml2.length co24] rfl (by (try simp only [List.map_toArray, List.map_cons, List.map_nil]); first | done | rfl) ?_; refine (impl_FirstLiar.calls (h := HIM.out) (hr1 := (Kd.S_reads' (HS.get (i := 1) rfl)).2.2) (hc1 := (Kd.S_reads' (HS.get (i := 1) rfl)).2.1) (hr2 := (Kd.S_reads' (HS.get (i := 0) rfl)).2.2) (hc2 := (Kd.S_reads' (HS.get (i := 0) rfl)).2.1)).mono ?_; rintro e w25 ⟨v25_1, v25_2, rfl, ho1, ho2, hb⟩; obtain ⟨Ao25_1, co25_1, eo1⟩ := Kd.R_slice ho1; subst eo1; obtain ⟨Ao25_2, co25_2, eo2⟩ := Kd.R_slice ho2; subst eo2; have HN := HS.pushTwo hb ho1 ho2; refine ⟨_, rfl, ?_⟩; clear HS; have HS := HN; clear HN) | ((with_reducible refine gate_dst (N := 20) rfl ?_); refine box_event ?hg (N := 20) ?hd (cs := #[.slice none 0 0, .slice none 0 0]) (t := 33) ?hr ?_; (case hd => rfl); (case hg => rfl); (case hr => first | (go_simp; done) | (go_simp; rfl)); intro g26 hg w26 hbox hb; have HN := HS.box hg hbox hb; have f26_0 := blk_frozen hbox 0; have f26_1 := blk_frozen hbox 1; clear hg hbox hb; clear HS; have HS := HN; clear HN; have zg26_0 : w26.cell? ⟨g26, 0, none⟩ = some (.slice none 0 0) := (blk_cell (HS.get (i := 0) rfl) 0).trans rfl; have zg26_1 : w26.cell? ⟨g26, 1, none⟩ = some (.slice none 0 0) := (blk_cell (HS.get (i := 0) rfl) 1).trans rfl) | ((with_reducible refine gate_store (t := 33) (p := 20) rfl ?_); refine store_event (t := 33) (p := 20) (v := ?vo27) (w1 := ((w26.setCell ⟨g26, 0, none⟩ (.slice Ao25_1 r2.length co25_1)).setCell ⟨g26, 1, none⟩ (.slice Ao25_2 r3.length co25_2))) ?hg ?ho ?hn ?hr ?_; (case ho => rfl); (case hg => rfl); (case hn => rfl); (case hr => first | (go_simp; done) | (go_simp; rfl)); intro w27 hw; have HN : St w w27 (blk g26 #[.slice Ao25_1 r2.length co25_1, .slice Ao25_2 r3.length co25_2] 33 :: _) := (by rw [hw]; exact (HS.put (i := 0) (.slice Ao25_1 r2.length co25_1)).put (i := 1) (.slice Ao25_2 r3.length co25_2)); clear HS; have HS := HN; clear HN hw f26_0 f26_1; clear zg26_0; clear zg26_1; have zg26_0 : w27.cell? ⟨g26, 0, none⟩ = some (.slice Ao25_1 r2.length co25_1) := (blk_cell (HS.get (i := 0) rfl) 0).trans rfl; have zg26_1 : w27.cell? ⟨g26, 1, none⟩ = some (.slice Ao25_2 r3.length co25_2) := (blk_cell (HS.get (i := 0) rfl) 1).trans rfl; have zg6_0 : w27.cell? ⟨g6, 0, none⟩ = some (.slice Ao5_1 r2.length co5_1) := (blk_cell (HS.get (i := 10) rfl) 0).trans rfl; have zg6_1 : w27.cell? ⟨g6, 1, none⟩ = some (.slice Ao5_2 r3.length co5_2) := (blk_cell (HS.get (i := 10) rfl) 1).trans rfl) | (go_at_call 28; refine (st_eqPair HS (Kd.R_reads' (HS.get (i := 1) rfl).1).2.2 (Kd.R_reads' (HS.get (i := 1) rfl).1).2.1 (Kd.R_reads' (HS.get (i := 1) rfl).2).2.2 (Kd.R_reads' (HS.get (i := 1) rfl).2).2.1 (seenNow (HS.get (i := 11) rfl).1).2.2 (seenNow (HS.get (i := 11) rfl).1).2.1 (seenNow (HS.get (i := 11) rfl).2).2.2 (seenNow (HS.get (i := 11) rfl).2).2.1 (Nat.le_trans HLr2.out (by decide)) (Nat.le_trans HLr3.out (by decide))).mono ?_; rintro e w28 ⟨rfl, HN⟩; clear HS; have HS := HN; clear HN; clear zg26_0; clear zg26_1; clear zg6_0; clear zg6_1; have zg11_0 : w28.cell? ⟨g11, 0, none⟩ = some (.slice Ao10_1 r2.length co10_1) := (blk_cell (HS.get (i := 6) rfl) 0).trans rfl; have zg11_1 : w28.cell? ⟨g11, 1, none⟩ = some (.slice Ao10_2 r3.length co10_2) := (blk_cell (HS.get (i := 6) rfl) 1).trans rfl) | ((with_reducible refine gate_dst (N := 139) rfl ?_); refine goesL_ (some 139) rfl rfl Try.func32 (by kernel_rfl) rfl #[.agg #[.slice Ao10_1 r2.length co10_1, .slice Ao10_2 r3.length co10_2], .int .i64 1] rfl (by (try simp only [List.map_toArray, List.map_cons, List.map_nil]); first | done | rfl) ?_; refine (st_heldPair HS (Kd.R_reads' (HS.get (i := 7) rfl).1) (Kd.R_reads' (HS.get (i := 7) rfl).2) (Nat.le_trans HLr2.out (by decide)) (Nat.le_trans HLr3.out (by decide))).mono ?_; rintro e w29 ⟨nn29, rfl, HE29, HN⟩; have HM29 : Aside0 (nn29 = nn21) := ⟨by have := HE29.out; have := HE21.out; omega⟩; have d29 : decide (nn29 < 0) = false := decide_eq_false (by have := HM29.out; have := HM21.out; omega); have e29 : (nn29 != nn21) = false := bne_eq_false_iff_eq.mpr HM29.out; have i29 : (nn29 == nn21) = true := beq_iff_eq.mpr HM29.out; refine ⟨_, rfl, ?_⟩; clear HS; have HS := HN; clear HN; clear zg11_0; clear zg11_1))
  go_ret
  exact ⟨rfl, HS.bel⟩
end Go.Proofs.Ytchjajbkaiefdaa.X
