/- The walk of the law FnExactFindPair: its one way to the end. -/
import Derived.Test.YtmcpnganobehaaaPFnExactFindPairx3
import Derived.Test.YtmcpnganobehaaaPFnExactFindPairx5
import Derived.Test.YtmcpnganobehaaaPFnExactFindPairx6
import Derived.Test.YtmcpnganobehaaaPureFnExactFindPair
import Derived.Test.YtmcpnganobehaaaSt
namespace Go.Proofs.Ytmcpnganobehaaa.X
open Go.RowKit Go.Proofs.Ytmcpnganobehaaa Go.Proofs.Ytmcpnganobehaaa.PFnExactFindPair Go.Proofs.Ytmcpnganobehaaa.St Go.Proofs.YtmcpnganobehaaaW.PrintWords Go.Proofs.YtmcpnganobehaaaW.PrintLast Go.Proofs.YtmcpnganobehaaaW.PrintMore
set_option linter.unusedVariables false
set_option linter.unusedSimpArgs false

theorem st_szByteSS {W w : World} {L : List Slot} (HS : St W w L) {A : Option Addr} {c : Nat} {l : List (List Int)} (hr : Kd.C (Kd.slice 5 (Kd.int .u8)) W A l.length l) (hc : l.length ≤ c) (hq : l.length ≤ maxLen ∧ ∀ v ∈ l, v.length ≤ maxLen) {a : Int} (h0 : 0 ≤ a) (ha : a ≤ 1048576) :
    Calls Try.prog 46 #[.slice A l.length c, .int .i64 a] w fun e w' => ∃ r : Int, e = .returned (.int .i64 r) ∧ Aside0 (r = Pure.left a (Pure.tot l)) ∧ St W w' L := by
  obtain ⟨k, h⟩ := (Pure.szByteSS l a h0 ha hq.1 hq.2).rounds
  refine (laws_szByteSS.calls (k := k) (h := h) (hr0 := Kd.C_below hr HS.bel) (hc0 := hc)).mono ?_
  rintro e w' ⟨rfl, hd⟩
  exact ⟨_, rfl, ⟨rfl⟩, HS.drawn hd⟩

theorem st_toByteSS {W w : World} {L : List Slot} (HS : St W w L) {A : Option Addr} {c : Nat} {l : List (List Int)} (hr : Kd.C (Kd.slice 5 (Kd.int .u8)) W A l.length l) (hc : l.length ≤ c) (hl : Pure.tot l ≤ 10000000000000) :
    Calls Try.prog 48 #[.slice A l.length c] w fun e w' => ∃ (A' : Option Addr) (c' lo hi : Nat), e = .returned (.slice A' l.length c') ∧ St W w' (rows (Kd.slice 5 (Kd.int .u8)) 28 W.heap.size lo hi (.slice A' l.length c') l :: L) := by
  obtain ⟨k, h⟩ := (Pure.toByteSS l hl).rounds
  refine (laws_toByteSS.calls k A c l l w (Kd.C_below hr HS.bel) hc h).mono ?_
  rintro e w' ⟨v, rfl, ho, hb⟩
  obtain ⟨A', c', rfl⟩ := Kd.S_slice ho
  exact ⟨A', c', _, _, rfl, HS.pushRows hb ho⟩

theorem st_eqPair {W w : World} {L : List Slot} (HS : St W w L) {A A1 B B1 : Option Addr} {c c1 d d1 : Nat} {l l1 : List Int} (h0 : Kd.C (Kd.int .u8) w A l.length l) (k0 : l.length ≤ c) (h1 : Kd.C (Kd.int .u8) w A1 l1.length l1) (k1 : l1.length ≤ c1) (i0 : Kd.C (Kd.int .u8) w B l.length l) (j0 : l.length ≤ d) (i1 : Kd.C (Kd.int .u8) w B1 l1.length l1) (j1 : l1.length ≤ d1) (hl : l.length ≤ 10000000000000) (hl1 : l1.length ≤ 10000000000000) :
    Calls Try.prog 35 #[.agg #[.slice A l.length c, .slice A1 l1.length c1], .agg #[.slice B l.length d, .slice B1 l1.length d1]] w fun e w' => e = .returned (.bool true) ∧ St W w' L := by
  obtain ⟨k, h⟩ := (Pure.eqPair l l1 (by omega) (by omega)).rounds
  refine (laws_eqPair.calls (k := k) (h := h) (hr0_0 := h0) (hc0_0 := k0) (hr0_1 := h1) (hc0_1 := k1) (hr1_0 := i0) (hc1_0 := j0) (hr1_1 := i1) (hc1_1 := j1)).mono ?_
  rintro e w' ⟨rfl, hd⟩
  exact ⟨rfl, HS.below hd⟩

theorem st_eqByteSS {W w : World} {L : List Slot} (HS : St W w L) {A A1 : Option Addr} {c c1 : Nat} {l : List (List Int)} (h0 : Kd.C (Kd.slice 5 (Kd.int .u8)) w A l.length l) (k0 : l.length ≤ c) (h1 : Kd.C (Kd.slice 5 (Kd.int .u8)) w A1 l.length l) (k1 : l.length ≤ c1) (hl : Pure.tot l ≤ 10000000000000) :
    Calls Try.prog 49 #[.slice A l.length c, .slice A1 l.length c1] w fun e w' => e = .returned (.bool true) ∧ St W w' L := by
  obtain ⟨k, h⟩ := (Pure.eqByteSS l hl).rounds
  refine (laws_eqByteSS.calls k A c l A1 c1 l true w h0 k0 h1 k1 h).mono ?_
  rintro e w' ⟨rfl, hd⟩
  exact ⟨rfl, HS.drawn hd⟩

set_option maxHeartbeats 4000000 in
set_option maxRecDepth 100000 in
theorem markSS_walk (W w : World) (lo hi : Nat) (A : Option Addr) (c : Nat) (l : List (List Int)) (a : Int) (h0 : 0 ≤ a) (ha : a + Pure.tsum l ≤ 4611686018427387904) (hB : Below W.heap.size W w)
    (hS : Kd.S (Kd.slice 5 (Kd.int .u8)) 28 w W.heap.size (fun k => (lo ≤ k ∧ k < hi) ∧ True) (.slice A l.length c) l) :
    Calls Try.prog 50 #[.slice A l.length c, .int .i64 a] w fun e w' => e = .returned (.int .i64 (a + Pure.tsum l)) ∧ Kd.S (Kd.slice 5 (Kd.int .u8)) 28 w' W.heap.size (fun k => (lo ≤ k ∧ k < hi) ∧ True) (.slice A l.length c) (Pure.markedSS a l) ∧ Below W.heap.size W w' ∧ Kept w w' (fun k => lo ≤ k ∧ k < hi) := by
  have HS := Aside0.mk hS
  have HB := Aside0.mk hB
  have HA := Aside0.mk ha
  have H0 := Aside0.mk h0
  have HM : Aside0 (l.length ≤ 9223372036854775807) := ⟨(Kd.S_reads' hS).2.2.2.1⟩
  clear hS hB ha h0
  go_enter Try.func50, Try.ntmps50
  go_wp2
  go_loopw [1, 5] (fun v i wr => ∃ j : Nat, i = .int .i64 j ∧ (∃ r : Int, v = .int .i64 r ∧ Aside0 (r = a + Pure.tsum (l.take j))) ∧ Aside0 (j ≤ l.length) ∧ Aside0 (Kd.S (Kd.slice 5 (Kd.int .u8)) 28 wr W.heap.size (fun k => (lo ≤ k ∧ k < hi) ∧ True) (.slice A l.length c) (Pure.markedSS a (l.take j) ++ l.drop j)) ∧ Aside0 (Below W.heap.size W wr) ∧ Aside0 (Kept w wr (fun k => lo ≤ k ∧ k < hi))) (fun _ i _ => l.length - (intOf i).toNat)
  case atStart => exact ⟨0, rfl, ⟨a, rfl, ⟨by simp [Pure.tsum]⟩⟩, ⟨Nat.zero_le _⟩, ⟨HS.out⟩, ⟨HB.out⟩, ⟨Kept.refl _ _⟩⟩
  case round =>
    clear HS HB
    obtain ⟨j, rfl, ⟨r, rfl, HR⟩, HJ, HS, HB, HK⟩ := hrel
    by_cases hlt : j < l.length
    · have c0 : decide (j < l.length) = true := decide_eq_true hlt
      have c1 : decide ((j : Int) < (l.length : Int)) = true := decide_eq_true (by omega)
      have p1 : 0 ≤ (j : Int) := Int.natCast_nonneg j
      have q1 : (j : Int) < (l.length : Int) := by omega
      have hlen : (Pure.markedSS a (l.take j) ++ l.drop j).length = l.length := by rw [List.length_append, Pure.markedSS_length, List.length_take, List.length_drop]; omega
      obtain ⟨g, cap, e, hg1, hg2, cells, hg3⟩ := Kd.S_form HS.out (by omega)
      injection e with e1 e2 e3
      subst e1
      obtain ⟨oki, cc, hcl, hM, hcc, hoki, hH⟩ := Kd.S_lend HS.out ([] : List Int) (j : Int) p1 q1
      obtain ⟨v, rfl, hR⟩ := hM
      obtain ⟨A0, c2, rfl⟩ := Kd.R_slice hR
      have hx := hcc 0 _ rfl
      rw [Int.toNat_natCast] at hx hR hH
      have e4 : j * (Kd.slice 5 (Kd.int .u8)).sz + 0 = j := Nat.mul_one j
      rw [e4, Pure.markedSS_at a l j hlt] at hx
      rw [Pure.markedSS_at a l j hlt] at hR hH
      have HX := Aside0.mk hR
      have HH := Aside0.mk hH
      have HO := Aside0.mk hoki
      have HL := Aside0.mk hlt
      have hts := Pure.tsum_snoc l j hlt
      have htk := Pure.tsum_take l (j + 1)
      have HT := Aside0.mk hts
      have HU := Aside0.mk htk
      obtain ⟨k, hmk⟩ := (Pure.markByteS (l.getD j []) r (by have := HR.out; have := H0.out; omega) (by have := HR.out; have := HA.out; omega)).rounds
      have HMK := Aside0.mk hmk
      have hst := Pure.markedSS_step a l j hlt
      have HST := Aside0.mk hst
      clear hlt hlen hg1 hg2 hg3 hcl hR hH hoki hts htk hmk hst hcc e2 e3
      generalize l.getD j [] = x at hx HX HT HMK HST HH
      go_wp2_with fail
      refine (laws_markByteS.calls k oki (.slice A0 x.length c2) x r _ _ W wr HB.out HX.out HMK.out).mono ?_
      rintro e w' ⟨rfl, ho, hb, hk⟩
      have b2 : (j : Int) ≤ 9223372036854775806 := by have := HL.out; have := HM.out; omega
      have HN1 := Aside0.mk (Kd.H_back (Kd.H_kept HH.out hk (fun _ _ hn hs => hn hs)) (x' := Pure.marked r x.length) (okp := oki) ⟨_, rfl, Kd.R_reok rfl ho (fun k hk => HX.out.1 k hk)⟩ (fun _ h => h))
      have HN2 := Aside0.mk hb
      have HN3 := Aside0.mk (HK.out.then_ hk (fun k hs => .inl (HO.out k hs).1.1))
      clear HS HB HK hk hb ho HH hx
      go_wp2
      go_roundw
      case rel => exact ⟨j + 1, by go_num, ⟨_, rfl, ⟨by have := HR.out; have := HT.out; omega⟩⟩, ⟨HL.out⟩, ⟨by have h := HN1.out; rw [Int.toNat_natCast, HR.out, HST.out] at h; exact h⟩, ⟨HN2.out⟩, ⟨HN3.out⟩⟩
      case measure => have := HL.out; simp [intOf]; omega
    · have c0 : decide (j < l.length) = false := decide_eq_false hlt
      have c1 : decide ((j : Int) < (l.length : Int)) = false := decide_eq_false (by omega)
      obtain rfl : j = l.length := by have := HJ.out; omega
      clear hlt
      go_wp2
      go_ret
      exact ⟨by have h := HR.out; rw [List.take_length] at h; first | (rw [h]; done) | (rw [h]; rfl), by have h := HS.out; rw [List.take_length, List.drop_length, List.append_nil] at h; exact h, HB.out, HK.out⟩
theorem st_markByteSS {W w : World} {L : List Slot} (HS : St W w L) {i lo hi : Nat} {A : Option Addr} {c : Nat} {l : List (List Int)} (hi' : L[i]? = some (rows (Kd.slice 5 (Kd.int .u8)) 28 W.heap.size lo hi (.slice A l.length c) l)) {a : Int} (h0 : 0 ≤ a) (ha : a + Pure.tsum l ≤ 4611686018427387904) :
    Calls Try.prog 50 #[.slice A l.length c, .int .i64 a] w fun e w' => ∃ r : Int, e = .returned (.int .i64 r) ∧ Aside0 (r = a + Pure.tsum l) ∧ St W w' (L.set i (rows (Kd.slice 5 (Kd.int .u8)) 28 W.heap.size lo hi (.slice A l.length c) (Pure.markedSS a l))) := by
  refine (markSS_walk W w lo hi A c l a h0 ha HS.bel (HS.get hi')).mono ?_
  rintro e w' ⟨rfl, ho, hb, hk⟩
  exact ⟨_, rfl, ⟨rfl⟩, HS.write hi' hk hb (rows (Kd.slice 5 (Kd.int .u8)) 28 W.heap.size lo hi (.slice A l.length c) (Pure.markedSS a l)) ho rfl rfl⟩

theorem st_markPair {W w : World} {L : List Slot} (HS : St W w L) {i lo hi : Nat} {v v1 : Value} {l l1 : List Int} (hi' : L[i]? = some (two (Kd.int .u8) 5 (Kd.int .u8) 5 W.heap.size lo hi v l v1 l1)) (hl : l.length ≤ 10000000000000) (hl1 : l1.length ≤ 10000000000000) :
    Calls Try.prog 44 #[.agg #[v, v1], .int .i64 1] w fun e w' => ∃ r : Int, e = .returned (.int .i64 r) ∧ Aside0 (r = 1 + l.length + l1.length) ∧ St W w' (L.set i (two (Kd.int .u8) 5 (Kd.int .u8) 5 W.heap.size lo hi v (Pure.marked 1 l.length) v1 (Pure.marked (1 + l.length) l1.length))) := by
  obtain ⟨k, h⟩ := (Pure.markPair l l1 (by omega) (by omega)).rounds
  have h2 : (two (Kd.int .u8) 5 (Kd.int .u8) 5 W.heap.size lo hi v l v1 l1).P w := HS.get hi'
  refine (laws_markPair.calls (k := k) (h := h) (P0_0_ := fun k => (lo ≤ k ∧ k < hi) ∧ some k = v.ownBlock) (P0_1_ := fun k => (lo ≤ k ∧ k < hi) ∧ some k = v1.ownBlock) (hB := HS.bel) (ho0_0 := Kd.R_reok rfl h2.1 (fun k hk => ⟨(h2.1.1 k hk).1, hk.symm⟩)) (ho0_1 := Kd.R_reok rfl h2.2 (fun k hk => ⟨(h2.2.1 k hk).1, hk.symm⟩))
    (hp0_0_0_1 := fun k hk hk2 => (h2.1.1 k hk.2.symm).2 hk2.2) (hp0_1_0_0 := fun k hk hk2 => (h2.1.1 k hk2.2.symm).2 hk.2)).mono ?_
  rintro e w' ⟨rfl, ho, ho1, hb, hk⟩
  exact ⟨_, rfl, ⟨rfl⟩, HS.writeTwo rfl rfl hi' (hk.mono (fun k h => h.elim (fun h => h.1) (fun h => h.1))) hb ho ho1⟩

theorem st_heldPair {W w : World} {L : List Slot} (HS : St W w L) {A A1 : Option Addr} {n0 c n1 c1 m m1 : Nat} (hr : n0 = (Pure.marked 1 m).length ∧ n0 ≤ c ∧ Kd.C (Kd.int .u8) w A (Pure.marked 1 m).length (Pure.marked 1 m)) (hr1 : n1 = (Pure.marked (1 + m) m1).length ∧ n1 ≤ c1 ∧ Kd.C (Kd.int .u8) w A1 (Pure.marked (1 + m) m1).length (Pure.marked (1 + m) m1)) (hl : m ≤ 10000000000000) (hl1 : m1 ≤ 10000000000000) :
    Calls Try.prog 45 #[.agg #[.slice A n0 c, .slice A1 n1 c1], .int .i64 1] w fun e w' => ∃ r : Int, e = .returned (.int .i64 r) ∧ Aside0 (r = 1 + m + m1) ∧ St W w' L := by
  obtain ⟨k, h⟩ := (Pure.heldPair m m1 (by omega) (by omega)).rounds
  obtain ⟨rfl, hc, hr⟩ := hr
  obtain ⟨rfl, hc1, hr1⟩ := hr1
  refine (laws_heldPair.calls (k := k) (h := h) (hr0_0 := hr) (hc0_0 := hc) (hr0_1 := hr1) (hc0_1 := hc1)).mono ?_
  rintro e w' ⟨rfl, hd⟩
  exact ⟨_, rfl, ⟨rfl⟩, HS.below hd⟩

set_option maxHeartbeats 8000000 in
set_option maxRecDepth 100000 in
theorem walk (a0 : Int) (A1 : Option Addr) (c1 : Nat) (l1 : List (List Int)) (w : World) (hq0 : (Lit.int .i64 a0).wf = true) (hr1 : Kd.C (Kd.slice 5 (Kd.int .u8)) w A1 l1.length l1) (hc1 : l1.length ≤ c1) (hq1 : (l1.length ≤ maxLen ∧ ∀ v0 ∈ l1, (v0.length ≤ maxLen ∧ ∀ v1 ∈ v0, (Lit.int .u8 v1).wf = true))) :
    Calls Try.prog 12 #[.int .i64 a0, .slice A1 l1.length c1] w fun e w' => e = .returned (.bool true) ∧ Below w.heap.size w w' := by
  have HQ0 := Aside0.mk hq0
  clear hq0
  have HR1 := Aside0.mk hr1
  have HC1 := Aside0.mk hc1
  have HQ1 := Aside0.mk hq1
  clear hr1 hc1 hq1
  obtain ⟨SV0, ev0⟩ : ∃ z : Int, z = Pure.left 1048576 (Pure.tot l1) := ⟨_, rfl⟩
  have EV0 := Aside0.mk ev0
  clear ev0
  by_cases g0 : SV0 < 0
  · have GS0 := Aside0.mk g0
    clear g0
    go_enter Try.func12, Try.ntmps12
    have HS := St.nil w
    go_wp2_with (first | ((with_reducible refine gate_dst (N := 18) rfl ?_); refine goesL_ (some 18) rfl rfl Try.func46 (by kernel_rfl) rfl #[.slice A1 l1.length c1, .int .i64 1048576] rfl (by (try simp only [List.map_toArray, List.map_cons, List.map_nil]); first | done | rfl) ?_; refine (st_szByteSS HS HR1.out HC1.out ⟨HQ1.out.1, fun v hv => (HQ1.out.2 v hv).1⟩ (by decide) (by decide)).mono ?_; rintro e w1 ⟨nn1, rfl, HE1, HN⟩; have HV1 : Aside0 (nn1 = SV0) := ⟨by rw [HE1.out]; exact EV0.out.symm⟩; have d1 : decide (nn1 < 0) = true := decide_eq_true (by have := HV1.out; have := GS0.out; omega); refine ⟨_, rfl, ?_⟩; clear HS; have HS := HN; clear HN))
    go_ret
    exact ⟨rfl, HS.bel⟩
  have GS0 := Aside0.mk g0
  clear g0
  have GT0 : Aside0 (SV0 = 1048576 - ((Pure.tot l1 : Nat) : Int)) := ⟨by have h := EV0.out; have := GS0.out; rw [h]; exact Pure.left_ok (by rw [← h]; exact this)⟩
  have GU0 : Aside0 (SV0 ≤ 1048576) := ⟨by have := GT0.out; omega⟩
  have GLl1 : Aside0 (Pure.tot l1 ≤ 1048576) := ⟨by have := GT0.out; have := GS0.out; omega⟩
  have HLl1 : Aside0 (Pure.tot l1 ≤ 1000000000000) := ⟨by have := GLl1.out; omega⟩
  have HTl1 : Aside0 (Pure.tsum l1 ≤ 1000000000000) := ⟨Nat.le_trans (Pure.tsum_le l1) HLl1.out⟩
  obtain ⟨r1, r2, r3, ⟨ks, hsp⟩, ⟨ki, him⟩, hbr1, hbr2⟩ := Pure.FnExactFindPair a0 l1 HQ0.out HQ1.out GLl1.out
  have HSP := Aside0.mk hsp
  have HIM := Aside0.mk him
  clear hsp him
  have HLr1 := Aside0.mk hbr1
  clear hbr1
  have HLr2 := Aside0.mk hbr2
  clear hbr2
  have er3 : (r3 != r3) = false := bne_self_eq_false _
  have ir3 : (r3 == r3) = true := beq_self_eq_true _
  go_enter Try.func12, Try.ntmps12
  have HS := St.nil w
  go_wp2_with (first | ((with_reducible refine gate_dst (N := 18) rfl ?_); refine goesL_ (some 18) rfl rfl Try.func46 (by kernel_rfl) rfl #[.slice A1 l1.length c1, .int .i64 1048576] rfl (by (try simp only [List.map_toArray, List.map_cons, List.map_nil]); first | done | rfl) ?_; refine (st_szByteSS HS HR1.out HC1.out ⟨HQ1.out.1, fun v hv => (HQ1.out.2 v hv).1⟩ (by decide) (by decide)).mono ?_; rintro e w1 ⟨nn1, rfl, HE1, HN⟩; have HV1 : Aside0 (nn1 = SV0) := ⟨by rw [HE1.out]; exact EV0.out.symm⟩; have HB1 : Aside0 (0 ≤ nn1 ∧ nn1 ≤ 1048576) := ⟨by have := HV1.out; have := GS0.out; have := GU0.out; omega⟩; have d1 : decide (nn1 < 0) = false := decide_eq_false (by have := HB1.out; omega); refine ⟨_, rfl, ?_⟩; clear HS; have HS := HN; clear HN) | ((with_reducible refine gate_dst (N := 24) rfl ?_); refine goesL_ (some 24) rfl rfl Try.func48 (by kernel_rfl) rfl #[.slice A1 l1.length c1] rfl (by (try simp only [List.map_toArray, List.map_cons, List.map_nil]); first | done | rfl) ?_; refine (st_toByteSS HS HR1.out HC1.out (Nat.le_trans HLl1.out (by decide))).mono ?_; rintro e w2 ⟨Ao2, co2, lo2, hi2, rfl, HN⟩; refine ⟨_, rfl, ?_⟩; clear HS; have HS := HN; clear HN) | ((with_reducible refine gate_dst (N := 25) rfl ?_); refine goesL_ (some 25) rfl rfl Try.func47 (by kernel_rfl) rfl #[.int .i64 a0, .slice Ao2 l1.length co2] rfl (by (try simp only [List.map_toArray, List.map_cons, List.map_nil]); first | done | rfl) ?_; refine (spec_FindPair.calls (h := HSP.out) (hr1 := (Kd.S_reads' (HS.get (i := 0) rfl)).2.2) (hc1 := (Kd.S_reads' (HS.get (i := 0) rfl)).2.1)).mono ?_; rintro e w3 ⟨v3_0, v3_1, rfl, ho0, ho1, hb⟩; obtain ⟨Ao3_0, co3_0, eo0⟩ := Kd.R_slice ho0; subst eo0; obtain ⟨Ao3_1, co3_1, eo1⟩ := Kd.R_slice ho1; subst eo1; have HN := HS.pushSeen hb (both (view (Kd.int .u8) w2.heap.size w3.heap.size Ao3_0 r1.length co3_0 r1) (view (Kd.int .u8) w2.heap.size w3.heap.size Ao3_1 r2.length co3_1 r2) rfl rfl) ⟨view_R ho0, view_R ho1⟩ rfl rfl; refine ⟨_, rfl, ?_⟩; clear HS; have HS := HN; clear HN) | ((with_reducible refine gate_dst (N := 6) rfl ?_); refine box_event ?hg (N := 6) ?hd (cs := #[.slice none 0 0, .slice none 0 0]) (t := 44) ?hr ?_; (case hd => rfl); (case hg => rfl); (case hr => first | (go_simp; done) | (go_simp; rfl)); intro g4 hg w4 hbox hb; have HN := HS.box hg hbox hb; have f4_0 := blk_frozen hbox 0; have f4_1 := blk_frozen hbox 1; clear hg hbox hb; clear HS; have HS := HN; clear HN; have zg4_0 : w4.cell? ⟨g4, 0, none⟩ = some (.slice none 0 0) := (blk_cell (HS.get (i := 0) rfl) 0).trans rfl; have zg4_1 : w4.cell? ⟨g4, 1, none⟩ = some (.slice none 0 0) := (blk_cell (HS.get (i := 0) rfl) 1).trans rfl) | ((with_reducible refine gate_store (t := 44) (p := 6) rfl ?_); refine store_event (t := 44) (p := 6) (v := ?vo5) (w1 := ((w4.setCell ⟨g4, 0, none⟩ (.slice Ao3_0 r1.length co3_0)).setCell ⟨g4, 1, none⟩ (.slice Ao3_1 r2.length co3_1))) ?hg ?ho ?hn ?hr ?_; (case ho => rfl); (case hg => rfl); (case hn => rfl); (case hr => first | (go_simp; done) | (go_simp; rfl)); intro w5 hw; have HN : St w w5 (blk g4 #[.slice Ao3_0 r1.length co3_0, .slice Ao3_1 r2.length co3_1] 44 :: _) := (by rw [hw]; exact (HS.put (i := 0) (.slice Ao3_0 r1.length co3_0)).put (i := 1) (.slice Ao3_1 r2.length co3_1)); clear HS; have HS := HN; clear HN hw f4_0 f4_1; clear zg4_0; clear zg4_1) | ((with_reducible refine gate_dst (N := 29) rfl ?_); refine goesL_ (some 29) rfl rfl Try.func48 (by kernel_rfl) rfl #[.slice A1 l1.length c1] rfl (by (try simp only [List.map_toArray, List.map_cons, List.map_nil]); first | done | rfl) ?_; refine (st_toByteSS HS HR1.out HC1.out (Nat.le_trans HLl1.out (by decide))).mono ?_; rintro e w6 ⟨Ao6, co6, lo6, hi6, rfl, HN⟩; refine ⟨_, rfl, ?_⟩; clear HS; have HS := HN; clear HN) | ((with_reducible refine gate_dst (N := 33) rfl ?_); refine goesL_ (some 33) rfl rfl Try.func38 (by kernel_rfl) rfl #[.int .i64 a0, .slice Ao6 l1.length co6] rfl (by (try simp only [List.map_toArray, List.map_cons, List.map_nil]); first | done | rfl) ?_; refine (impl_FindPair.calls (h := HIM.out) (hr1 := (Kd.S_reads' (HS.get (i := 0) rfl)).2.2) (hc1 := (Kd.S_reads' (HS.get (i := 0) rfl)).2.1)).mono ?_; rintro e w7 ⟨v7_0, v7_1, rfl, ho0, ho1, hb⟩; obtain ⟨Ao7_0, co7_0, eo0⟩ := Kd.R_slice ho0; subst eo0; obtain ⟨Ao7_1, co7_1, eo1⟩ := Kd.R_slice ho1; subst eo1; have HN := HS.pushTwo hb ho0 ho1; refine ⟨_, rfl, ?_⟩; clear HS; have HS := HN; clear HN) | ((with_reducible refine gate_dst (N := 9) rfl ?_); refine box_event ?hg (N := 9) ?hd (cs := #[.slice none 0 0, .slice none 0 0]) (t := 44) ?hr ?_; (case hd => rfl); (case hg => rfl); (case hr => first | (go_simp; done) | (go_simp; rfl)); intro g8 hg w8 hbox hb; have HN := HS.box hg hbox hb; have f8_0 := blk_frozen hbox 0; have f8_1 := blk_frozen hbox 1; clear hg hbox hb; clear HS; have HS := HN; clear HN; have zg8_0 : w8.cell? ⟨g8, 0, none⟩ = some (.slice none 0 0) := (blk_cell (HS.get (i := 0) rfl) 0).trans rfl; have zg8_1 : w8.cell? ⟨g8, 1, none⟩ = some (.slice none 0 0) := (blk_cell (HS.get (i := 0) rfl) 1).trans rfl) | ((with_reducible refine gate_store (t := 44) (p := 9) rfl ?_); refine store_event (t := 44) (p := 9) (v := ?vo9) (w1 := ((w8.setCell ⟨g8, 0, none⟩ (.slice Ao7_0 r1.length co7_0)).setCell ⟨g8, 1, none⟩ (.slice Ao7_1 r2.length co7_1))) ?hg ?ho ?hn ?hr ?_; (case ho => rfl); (case hg => rfl); (case hn => rfl); (case hr => first | (go_simp; done) | (go_simp; rfl)); intro w9 hw; have HN : St w w9 (blk g8 #[.slice Ao7_0 r1.length co7_0, .slice Ao7_1 r2.length co7_1] 44 :: _) := (by rw [hw]; exact (HS.put (i := 0) (.slice Ao7_0 r1.length co7_0)).put (i := 1) (.slice Ao7_1 r2.length co7_1)); clear HS; have HS := HN; clear HN hw f8_0 f8_1; clear zg8_0; clear zg8_1; have zg8_0 : w9.cell? ⟨g8, 0, none⟩ = some (.slice Ao7_0 r1.length co7_0) := (blk_cell (HS.get (i := 0) rfl) 0).trans rfl; have zg8_1 : w9.cell? ⟨g8, 1, none⟩ = some (.slice Ao7_1 r2.length co7_1) := (blk_cell (HS.get (i := 0) rfl) 1).trans rfl; have zg4_0 : w9.cell? ⟨g4, 0, none⟩ = some (.slice Ao3_0 r1.length co3_0) := (blk_cell (HS.get (i := 3) rfl) 0).trans rfl; have zg4_1 : w9.cell? ⟨g4, 1, none⟩ = some (.slice Ao3_1 r2.length co3_1) := (blk_cell (HS.get (i := 3) rfl) 1).trans rfl) | ((with_reducible refine gate_dst (N := 38) rfl ?_); refine goesL_ (some 38) rfl rfl Try.func35 (by kernel_rfl) rfl #[.agg #[.slice Ao7_0 r1.length co7_0, .slice Ao7_1 r2.length co7_1], .agg #[.slice Ao3_0 r1.length co3_0, .slice Ao3_1 r2.length co3_1]] rfl (by (try simp only [List.map_toArray, List.map_cons, List.map_nil]); first | done | rfl) ?_; refine (st_eqPair HS (Kd.R_reads' (HS.get (i := 1) rfl).1).2.2 (Kd.R_reads' (HS.get (i := 1) rfl).1).2.1 (Kd.R_reads' (HS.get (i := 1) rfl).2).2.2 (Kd.R_reads' (HS.get (i := 1) rfl).2).2.1 (seenNow (HS.get (i := 4) rfl).1).2.2 (seenNow (HS.get (i := 4) rfl).1).2.1 (seenNow (HS.get (i := 4) rfl).2).2.2 (seenNow (HS.get (i := 4) rfl).2).2.1 (Nat.le_trans HLr1.out (by decide)) (Nat.le_trans HLr2.out (by decide))).mono ?_; rintro e w10 ⟨rfl, HN⟩; refine ⟨_, rfl, ?_⟩; clear HS; have HS := HN; clear HN; clear zg8_0; clear zg8_1; clear zg4_0; clear zg4_1) | ((with_reducible refine gate_dst (N := 47) rfl ?_); refine goesL_ (some 47) rfl rfl Try.func48 (by kernel_rfl) rfl #[.slice A1 l1.length c1] rfl (by (try simp only [List.map_toArray, List.map_cons, List.map_nil]); first | done | rfl) ?_; refine (st_toByteSS HS HR1.out HC1.out (Nat.le_trans HLl1.out (by decide))).mono ?_; rintro e w11 ⟨Ao11, co11, lo11, hi11, rfl, HN⟩; refine ⟨_, rfl, ?_⟩; clear HS; have HS := HN; clear HN) | ((with_reducible refine gate_dst (N := 48) rfl ?_); refine goesL_ (some 48) rfl rfl Try.func49 (by kernel_rfl) rfl #[.slice Ao6 l1.length co6, .slice Ao11 l1.length co11] rfl (by (try simp only [List.map_toArray, List.map_cons, List.map_nil]); first | done | rfl) ?_; refine (st_eqByteSS HS (Kd.S_reads' (HS.get (i := 3) rfl)).2.2 (Kd.S_reads' (HS.get (i := 3) rfl)).2.1 (Kd.S_reads' (HS.get (i := 0) rfl)).2.2 (Kd.S_reads' (HS.get (i := 0) rfl)).2.1 (Nat.le_trans HLl1.out (by decide))).mono ?_; rintro e w12 ⟨rfl, HN⟩; refine ⟨_, rfl, ?_⟩; clear HS; have HS := HN; clear HN) | ((with_reducible refine gate_dst (N := 52) rfl ?_); refine goesL_ (some 52) rfl rfl Try.func50 (by kernel_rfl) rfl #[.slice Ao6 l1.length co6, .int .i64 1] rfl (by (try simp only [List.map_toArray, List.map_cons, List.map_nil]); first | done | rfl) ?_; refine (st_markByteSS HS (i := 3) rfl (by decide) (by have := HTl1.out; omega)).mono ?_; rintro e w13 ⟨nn13, rfl, HE13, HN⟩; have HM13 : Aside0 (0 ≤ nn13 ∧ nn13 ≤ 10000000000000) := ⟨by have := HE13.out; have := HTl1.out; omega⟩; have d13 : decide (nn13 < 0) = false := decide_eq_false (by have := HM13.out; omega); refine ⟨_, rfl, ?_⟩; clear HS; have HS := HN; clear HN; have zg8_0 : w13.cell? ⟨g8, 0, none⟩ = some (.slice Ao7_0 r1.length co7_0) := (blk_cell (HS.get (i := 1) rfl) 0).trans rfl; have zg8_1 : w13.cell? ⟨g8, 1, none⟩ = some (.slice Ao7_1 r2.length co7_1) := (blk_cell (HS.get (i := 1) rfl) 1).trans rfl; have zg4_0 : w13.cell? ⟨g4, 0, none⟩ = some (.slice Ao3_0 r1.length co3_0) := (blk_cell (HS.get (i := 4) rfl) 0).trans rfl; have zg4_1 : w13.cell? ⟨g4, 1, none⟩ = some (.slice Ao3_1 r2.length co3_1) := (blk_cell (HS.get (i := 4) rfl) 1).trans rfl) | (go_at_call 35; refine (st_eqPair HS (Kd.R_reads' (HS.get (i := 2) rfl).1).2.2 (Kd.R_reads' (HS.get (i := 2) rfl).1).2.1 (Kd.R_reads' (HS.get (i := 2) rfl).2).2.2 (Kd.R_reads' (HS.get (i := 2) rfl).2).2.1 (seenNow (HS.get (i := 5) rfl).1).2.2 (seenNow (HS.get (i := 5) rfl).1).2.1 (seenNow (HS.get (i := 5) rfl).2).2.2 (seenNow (HS.get (i := 5) rfl).2).2.1 (Nat.le_trans HLr1.out (by decide)) (Nat.le_trans HLr2.out (by decide))).mono ?_; rintro e w14 ⟨rfl, HN⟩; clear HS; have HS := HN; clear HN; clear zg8_0; clear zg8_1; clear zg4_0; clear zg4_1; have zg8_0 : w14.cell? ⟨g8, 0, none⟩ = some (.slice Ao7_0 r1.length co7_0) := (blk_cell (HS.get (i := 1) rfl) 0).trans rfl; have zg8_1 : w14.cell? ⟨g8, 1, none⟩ = some (.slice Ao7_1 r2.length co7_1) := (blk_cell (HS.get (i := 1) rfl) 1).trans rfl) | ((with_reducible refine gate_dst (N := 68) rfl ?_); refine goesL_ (some 68) rfl rfl Try.func44 (by kernel_rfl) rfl #[.agg #[.slice Ao7_0 r1.length co7_0, .slice Ao7_1 r2.length co7_1], .int .i64 1] rfl (by (try simp only [List.map_toArray, List.map_cons, List.map_nil]); first | done | rfl) ?_; refine (st_markPair HS (i := 2) rfl (Nat.le_trans HLr1.out (by decide)) (Nat.le_trans HLr2.out (by decide))).mono ?_; rintro e w15 ⟨nn15, rfl, HE15, HN⟩; have HM15 : Aside0 (0 ≤ nn15 ∧ nn15 ≤ 20000000000000) := ⟨by have := HE15.out; have := HLr1.out; have := HLr2.out; omega⟩; have d15 : decide (nn15 < 0) = false := decide_eq_false (by have := HM15.out; omega); refine ⟨_, rfl, ?_⟩; clear HS; have HS := HN; clear HN; clear zg8_0; clear zg8_1; have zg8_0 : w15.cell? ⟨g8, 0, none⟩ = some (.slice Ao7_0 r1.length co7_0) := (blk_cell (HS.get (i := 1) rfl) 0).trans rfl; have zg8_1 : w15.cell? ⟨g8, 1, none⟩ = some (.slice Ao7_1 r2.length co7_1) := (blk_cell (HS.get (i := 1) rfl) 1).trans rfl) | ((with_reducible refine gate_dst (N := 71) rfl ?_); refine goesL_ (some 71) rfl rfl Try.func45 (by kernel_rfl) rfl #[.agg #[.slice Ao7_0 r1.length co7_0, .slice Ao7_1 r2.length co7_1], .int .i64 1] rfl (by (try simp only [List.map_toArray, List.map_cons, List.map_nil]); first | done | rfl) ?_; refine (st_heldPair HS (Kd.R_reads' (HS.get (i := 2) rfl).1) (Kd.R_reads' (HS.get (i := 2) rfl).2) (Nat.le_trans HLr1.out (by decide)) (Nat.le_trans HLr2.out (by decide))).mono ?_; rintro e w16 ⟨nn16, rfl, HE16, HN⟩; have HM16 : Aside0 (nn16 = nn15) := ⟨by have := HE16.out; have := HE15.out; omega⟩; have d16 : decide (nn16 < 0) = false := decide_eq_false (by have := HM16.out; have := HM15.out; omega); have e16 : (nn16 != nn15) = false := bne_eq_false_iff_eq.mpr HM16.out; have i16 : (nn16 == nn15) = true := beq_iff_eq.mpr HM16.out; refine ⟨_, rfl, ?_⟩; clear HS; have HS := HN; clear HN; clear zg8_0; clear zg8_1) | ((with_reducible refine gate_dst (N := 80) rfl ?_); refine goesL_ (some 80) rfl rfl Try.func48 (by kernel_rfl) rfl #[.slice A1 l1.length c1] rfl (by (try simp only [List.map_toArray, List.map_cons, List.map_nil]); first | done | rfl) ?_; refine (st_toByteSS HS HR1.out HC1.out (Nat.le_trans HLl1.out (by decide))).mono ?_; rintro e w17 ⟨Ao17, co17, lo17, hi17, rfl, HN⟩; refine ⟨_, rfl, ?_⟩; clear HS; have HS := HN; clear HN) | ((with_reducible refine gate_dst (N := 81) rfl ?_); refine goesL_ (some 81) rfl rfl Try.func38 (by kernel_rfl) rfl #[.int .i64 a0, .slice Ao17 l1.length co17] rfl (by (try simp only [List.map_toArray, List.map_cons, List.map_nil]); first | done | rfl) ?_; refine (impl_FindPair.calls (h := HIM.out) (hr1 := (Kd.S_reads' (HS.get (i := 0) rfl)).2.2) (hc1 := (Kd.S_reads' (HS.get (i := 0) rfl)).2.1)).mono ?_; rintro e w18 ⟨v18_0, v18_1, rfl, ho0, ho1, hb⟩; obtain ⟨Ao18_0, co18_0, eo0⟩ := Kd.R_slice ho0; subst eo0; obtain ⟨Ao18_1, co18_1, eo1⟩ := Kd.R_slice ho1; subst eo1; have HN := HS.pushTwo hb ho0 ho1; refine ⟨_, rfl, ?_⟩; clear HS; have HS := HN; clear HN) | ((with_reducible refine gate_dst (N := 14) rfl ?_); refine box_event ?hg (N := 14) ?hd (cs := #[.slice none 0 0, .slice none 0 0]) (t := 44) ?hr ?_; (case hd => rfl); (case hg => rfl); (case hr => first | (go_simp; done) | (go_simp; rfl)); intro g19 hg w19 hbox hb; have HN := HS.box hg hbox hb; have f19_0 := blk_frozen hbox 0; have f19_1 := blk_frozen hbox 1; clear hg hbox hb; clear HS; have HS := HN; clear HN; have zg19_0 : w19.cell? ⟨g19, 0, none⟩ = some (.slice none 0 0) := (blk_cell (HS.get (i := 0) rfl) 0).trans rfl; have zg19_1 : w19.cell? ⟨g19, 1, none⟩ = some (.slice none 0 0) := (blk_cell (HS.get (i := 0) rfl) 1).trans rfl) | ((with_reducible refine gate_store (t := 44) (p := 14) rfl ?_); refine store_event (t := 44) (p := 14) (v := ?vo20) (w1 := ((w19.setCell ⟨g19, 0, none⟩ (.slice Ao18_0 r1.length co18_0)).setCell ⟨g19, 1, none⟩ (.slice Ao18_1 r2.length co18_1))) ?hg ?ho ?hn ?hr ?_; (case ho => rfl); (case hg => rfl); (case hn => rfl); (case hr => first | (go_simp; done) | (go_simp; rfl)); intro w20 hw; have HN : St w w20 (blk g19 #[.slice Ao18_0 r1.length co18_0, .slice Ao18_1 r2.length co18_1] 44 :: _) := (by rw [hw]; exact (HS.put (i := 0) (.slice Ao18_0 r1.length co18_0)).put (i := 1) (.slice Ao18_1 r2.length co18_1)); clear HS; have HS := HN; clear HN hw f19_0 f19_1; clear zg19_0; clear zg19_1; have zg19_0 : w20.cell? ⟨g19, 0, none⟩ = some (.slice Ao18_0 r1.length co18_0) := (blk_cell (HS.get (i := 0) rfl) 0).trans rfl; have zg19_1 : w20.cell? ⟨g19, 1, none⟩ = some (.slice Ao18_1 r2.length co18_1) := (blk_cell (HS.get (i := 0) rfl) 1).trans rfl; have zg4_0 : w20.cell? ⟨g4, 0, none⟩ = some (.slice Ao3_0 r1.length co3_0) := (blk_cell (HS.get (i := 7) rfl) 0).trans rfl; have zg4_1 : w20.cell? ⟨g4, 1, none⟩ = some (.slice Ao3_1 r2.length co3_1) := (blk_cell (HS.get (i := 7) rfl) 1).trans rfl) | ((with_reducible refine gate_dst (N := 86) rfl ?_); refine goesL_ (some 86) rfl rfl Try.func35 (by kernel_rfl) rfl #[.agg #[.slice Ao18_0 r1.length co18_0, .slice Ao18_1 r2.length co18_1], .agg #[.slice Ao3_0 r1.length co3_0, .slice Ao3_1 r2.length co3_1]] rfl (by (try simp only [List.map_toArray, List.map_cons, List.map_nil]); first | done | rfl) ?_; refine (st_eqPair HS (Kd.R_reads' (HS.get (i := 1) rfl).1).2.2 (Kd.R_reads' (HS.get (i := 1) rfl).1).2.1 (Kd.R_reads' (HS.get (i := 1) rfl).2).2.2 (Kd.R_reads' (HS.get (i := 1) rfl).2).2.1 (seenNow (HS.get (i := 8) rfl).1).2.2 (seenNow (HS.get (i := 8) rfl).1).2.1 (seenNow (HS.get (i := 8) rfl).2).2.2 (seenNow (HS.get (i := 8) rfl).2).2.1 (Nat.le_trans HLr1.out (by decide)) (Nat.le_trans HLr2.out (by decide))).mono ?_; rintro e w21 ⟨rfl, HN⟩; refine ⟨_, rfl, ?_⟩; clear HS; have HS := HN; clear HN; clear zg19_0; clear zg19_1; clear zg4_0; clear zg4_1; have zg8_0 : w21.cell? ⟨g8, 0, none⟩ = some (.slice Ao7_0 r1.length co7_0) := (blk_cell (HS.get (i := 4) rfl) 0).trans rfl; have zg8_1 : w21.cell? ⟨g8, 1, none⟩ = some (.slice Ao7_1 r2.length co7_1) := (blk_cell (HS.get (i := 4) rfl) 1).trans rfl) | ((with_reducible refine gate_dst (N := 95) rfl ?_); refine goesL_ (some 95) rfl rfl Try.func45 (by kernel_rfl) rfl #[.agg #[.slice Ao7_0 r1.length co7_0, .slice Ao7_1 r2.length co7_1], .int .i64 1] rfl (by (try simp only [List.map_toArray, List.map_cons, List.map_nil]); first | done | rfl) ?_; refine (st_heldPair HS (Kd.R_reads' (HS.get (i := 5) rfl).1) (Kd.R_reads' (HS.get (i := 5) rfl).2) (Nat.le_trans HLr1.out (by decide)) (Nat.le_trans HLr2.out (by decide))).mono ?_; rintro e w22 ⟨nn22, rfl, HE22, HN⟩; have HM22 : Aside0 (nn22 = nn15) := ⟨by have := HE22.out; have := HE15.out; omega⟩; have d22 : decide (nn22 < 0) = false := decide_eq_false (by have := HM22.out; have := HM15.out; omega); have e22 : (nn22 != nn15) = false := bne_eq_false_iff_eq.mpr HM22.out; have i22 : (nn22 == nn15) = true := beq_iff_eq.mpr HM22.out; refine ⟨_, rfl, ?_⟩; clear HS; have HS := HN; clear HN; clear zg8_0; clear zg8_1))
  go_ret
  exact ⟨rfl, HS.bel⟩
end Go.Proofs.Ytmcpnganobehaaa.X
