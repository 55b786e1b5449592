/- The walk of the law FnPairs: it answers true at every text of bytes, and leaves what was there as it was. -/
import Derived.Test.YtmcpnganobehaaaPFnPairsx3
import Derived.Test.YtmcpnganobehaaaPureFnPairs
namespace Go.Proofs.Ytmcpnganobehaaa.PFnPairs
open Go.RowKit Go.Proofs.Ytmcpnganobehaaa Go.Proofs.YtmcpnganobehaaaW.PrintWords Go.Proofs.YtmcpnganobehaaaW.PrintLast Go.Proofs.YtmcpnganobehaaaW.PrintMore
set_option linter.unusedVariables false
set_option linter.unusedSimpArgs false
/-- A literal of a row, in memory of its own. -/
theorem lit_event {P : Program} {ops : Array Oper} {rest : List Oper} {o : Oper} {a : Act} {Q : Exit → Act → World → Prop} {W : World} (hgd : o.guard = none) {N : Tmp} (_hd : o.dst = some N) {cs : Array Value} {t : TypeId} {n : Nat}
    (hrun : (execOp a.eval o).run P W = .ok (.value (.slice (some ⟨W.heap.size, 0, none⟩) n n)) (W.alloc (.cells cs t (0, 0))))
    (h : ∀ g, g = W.heap.size → ∀ w1, w1.heap[g]? = some (.cells cs t (0, 0)) → Below W.heap.size W w1 → wpList P ops Q rest (a.put o.dst (.slice (some ⟨g, 0, none⟩) n n)) w1) : wpList P ops Q (o :: rest) a W :=
  Kd.event_run hgd hrun (h _ rfl _ (blk_new W _) (below_alloc (Below.refl _ _) _))
theorem C_lit {α : Type} {d : Kd α} {W : World} {g t : Nat} {cs : Array Value} (h : W.heap[g]? = some (.cells cs t (0, 0))) (l : List α) (hsz : d.sz = 1) (hl : l.length ≤ 9223372036854775807) (hK : ∀ (j : Nat) (p : α), l[j]? = some p → ∃ v, cs[j]? = some v ∧ d.K W p [v]) : d.C W (some ⟨g, 0, none⟩) l.length l := by
  refine ⟨rfl, hl, fun _ => ⟨_, rfl, fun j p hj => ?_⟩⟩
  obtain ⟨v, hv, hk⟩ := hK j p hj
  refine ⟨[v], by rw [hsz]; rfl, hk, fun i u hu => ?_⟩
  cases i with
  | zero =>
    simp only [List.getElem?_cons_zero, Option.some.injEq] at hu
    subst hu
    rw [hsz, Nat.mul_one, Nat.add_zero]
    have e : (Addr.mk g 0 none).add j = ⟨g, j, none⟩ := by
      cases j <;> simp [Addr.add]
    rw [e]
    exact (blk_cell h j).trans hv
  | succ i => simp at hu
theorem C_one {W : World} {g t : Nat} {x : Int} (h : W.heap[g]? = some (.cells #[.int .u8 x] t (0, 0))) : (Kd.int .u8).C W (some ⟨g, 0, none⟩) [x].length [x] :=
  C_lit h [x] rfl (by simp) (fun j p hj => by
    cases j with
    | zero => simp only [List.getElem?_cons_zero, Option.some.injEq] at hj; subst hj; exact ⟨_, rfl, rfl⟩
    | succ j => simp at hj)
theorem C_rows5 {W : World} {g t t1 : Nat} {g1 g2 g3 g4 g5 : Nat} {x1 x2 x3 x4 x5 : Int} (h : W.heap[g]? = some (.cells #[.slice (some ⟨g1, 0, none⟩) 1 1, .slice (some ⟨g2, 0, none⟩) 1 1, .slice (some ⟨g3, 0, none⟩) 1 1, .slice (some ⟨g4, 0, none⟩) 1 1, .slice (some ⟨g5, 0, none⟩) 1 1] t (0, 0)))
    (h1 : W.heap[g1]? = some (.cells #[.int .u8 x1] t1 (0, 0))) (h2 : W.heap[g2]? = some (.cells #[.int .u8 x2] t1 (0, 0))) (h3 : W.heap[g3]? = some (.cells #[.int .u8 x3] t1 (0, 0))) (h4 : W.heap[g4]? = some (.cells #[.int .u8 x4] t1 (0, 0))) (h5 : W.heap[g5]? = some (.cells #[.int .u8 x5] t1 (0, 0))) :
    Kd.C (Kd.slice 5 (Kd.int .u8)) W (some ⟨g, 0, none⟩) [[x1], [x2], [x3], [x4], [x5]].length [[x1], [x2], [x3], [x4], [x5]] :=
  C_lit h _ rfl (by simp) (fun j p hj => by
    match j with
    | 0 => simp only [List.getElem?_cons_zero, Option.some.injEq] at hj; subst hj; exact ⟨_, rfl, ⟨_, _, rfl, Nat.le_refl _, C_one h1⟩⟩
    | 1 => simp only [List.getElem?_cons_zero, List.getElem?_cons_succ, Option.some.injEq] at hj; subst hj; exact ⟨_, rfl, ⟨_, _, rfl, Nat.le_refl _, C_one h2⟩⟩
    | 2 => simp only [List.getElem?_cons_zero, List.getElem?_cons_succ, Option.some.injEq] at hj; subst hj; exact ⟨_, rfl, ⟨_, _, rfl, Nat.le_refl _, C_one h3⟩⟩
    | 3 => simp only [List.getElem?_cons_zero, List.getElem?_cons_succ, Option.some.injEq] at hj; subst hj; exact ⟨_, rfl, ⟨_, _, rfl, Nat.le_refl _, C_one h4⟩⟩
    | 4 => simp only [List.getElem?_cons_zero, List.getElem?_cons_succ, Option.some.injEq] at hj; subst hj; exact ⟨_, rfl, ⟨_, _, rfl, Nat.le_refl _, C_one h5⟩⟩
    | j + 5 => simp at hj)
theorem rowAtP {w : World} {A : Option Addr} {n : Nat} {xs : List (List Int)} (h : Kd.C (Kd.slice 5 (Kd.int .u8)) w A n xs) (k : Nat) (hk : k < n) :
    ∃ ad A0 c0, A = some ad ∧ w.cell? (ad.add k) = some (.slice A0 (xs.getD k []).length c0) ∧ (xs.getD k []).length ≤ c0 ∧ (Kd.int .u8).C w A0 (xs.getD k []).length (xs.getD k []) := by
  obtain ⟨ad, c, e, hl, hK, hc⟩ := ReadsRow.get_ h ([] : List Int) (k : Int) (Int.natCast_nonneg k) (by omega)
  obtain ⟨A0, c0, rfl, h2, h3⟩ := hK
  rw [Int.toNat_natCast] at hc h2 h3
  have h4 := hc 0 _ rfl
  refine ⟨ad, A0, c0, e, ?_, h2, h3⟩
  have e1 : k * (Kd.slice 5 (Kd.int .u8)).sz + 0 = k := Nat.mul_one k
  rw [e1] at h4
  exact h4
def pairs_T15 : Bool × List (List Nat × List Nat) := (true, [([], []), ([], []), ([0, 1], [0, 1]), ([], []), ([], []), ([], []), ([4, 5], [4, 5]), ([6], [6]), ([], []), ([], []), ([8, 9], [8, 9]), ([10], [10]), ([7, 11], [7, 11]), ([3, 12, 2], [3, 12]), ([2, 13], [2, 13])])
def pairs_B15 : List Nat := [0, 0, 3, 0, 0, 0, 48, 112, 0, 0, 768, 1792, 4080, 8191, 16383]
def pairs_T14 : Bool × List (List Nat × List Nat) := (true, [([], []), ([], []), ([0, 1], [0, 1]), ([2], [2]), ([], []), ([], []), ([4, 5], [4, 5]), ([6], [6]), ([3, 7], [3, 7]), ([], []), ([9, 8, 0, 1, 2, 3, 4, 5, 6, 7, 8, 9], [8, 9])])
def pairs_B14 : List Nat := [0, 0, 3, 7, 0, 0, 48, 112, 255, 0, 1023]
theorem pairs_tab14 : rtab .any (opsOf Try.f8 14) = pairs_T14 := by kernel_rfl
theorem pairs_bits14 : waitsOk pairs_T14.2 pairs_B14 = true := by kernel_rfl
theorem pairs_tab15 : rtab .any (opsOf Try.f8 15) = pairs_T15 := by kernel_rfl
theorem pairs_bits15 : waitsOk pairs_T15.2 pairs_B15 = true := by kernel_rfl
/-- No pair ahead of this one collides. -/
def NoneYet (co : List Int → List Int → Bool) (L : List (List Int)) (k i : Nat) : Prop := ∀ i' k' : Nat, i' < k' → (k' < k ∨ k' = k ∧ i' < i) → k' < L.length → co (L.getD i' []) (L.getD k' []) = false
theorem NoneYet.next {co : List Int → List Int → Bool} {L : List (List Int)} {k i : Nat} (h : NoneYet co L k i) (hc : co (L.getD i []) (L.getD k []) = false) : NoneYet co L k (i + 1) := by
  intro i' k' h1 h2 h3
  rcases h2 with h2 | ⟨h2, h4⟩
  · exact h i' k' h1 (.inl h2) h3
  · by_cases e : i' = i
    · subst e; subst h2; exact hc
    · exact h i' k' h1 (.inr ⟨h2, by omega⟩) h3
theorem NoneYet.row {co : List Int → List Int → Bool} {L : List (List Int)} {k i : Nat} (h : NoneYet co L k i) (hi : k ≤ i) : NoneYet co L (k + 1) 0 := by
  intro i' k' h1 h2 h3
  by_cases e : k' < k
  · exact h i' k' h1 (.inl e) h3
  · exact h i' k' h1 (.inr ⟨by omega, by omega⟩) h3
set_option maxHeartbeats 8000000 in
set_option maxRecDepth 100000 in
theorem pairs_big (A0 : Option Addr) (c0 : Nat) (l0 : List Int) (w : World) (hr0 : (Kd.int .u8).C w A0 l0.length l0) (hc0 : l0.length ≤ c0) (hbig : laws_big.f l0 = some true) :
    Calls Try.prog 8 #[.slice A0 l0.length c0] w fun e w' => e = .returned (.bool true) ∧ Below w.heap.size w w' := by
  have H1 := Aside0.mk (laws_big.calls A0 c0 l0 true w hr0 hc0 hbig)
  clear hr0 hbig
  go_enter Try.func8, Try.ntmps8
  go_wp2_with (go_at_call 36; refine H1.out.mono ?_; rintro e w' ⟨rfl, ⟨nd, rfl⟩⟩)
  go_ret
  exact ⟨rfl, pw_below_drewN (Below.refl _ _) _⟩
set_option maxHeartbeats 8000000 in
set_option maxRecDepth 100000 in
theorem pairs_long (A0 : Option Addr) (c0 : Nat) (l0 : List Int) (w : World) (hr0 : (Kd.int .u8).C w A0 l0.length l0) (hc0 : l0.length ≤ c0) (k1 k2 : Nat) (b : Int) (L : List (List Int)) (x y : List Int) (ok : Bool)
    (hbig : laws_big.f l0 = some false) (hdr : spec_DrawFindPair.f k1 l0 = some (b, L)) (hfp : impl_FindPair.f k2 b L = some (x, y, ok)) (hl : 100 < L.length) (hok : ok = false) :
    Calls Try.prog 8 #[.slice A0 l0.length c0] w fun e w' => e = .returned (.bool true) ∧ Below w.heap.size w w' := by
  have HOK := Aside0.mk hok
  clear hok
  have cl : decide (100 < L.length) = true := decide_eq_true hl
  have cl2 : decide (100 < (L.length : Int)) = true := decide_eq_true (by omega)
  have H1 := Aside0.mk (laws_big.calls A0 c0 l0 false w hr0 hc0 hbig)
  have H2 := Aside0.mk (fun nd : Nat => spec_DrawFindPair.calls k1 A0 c0 l0 b L (w.drewN nd) hr0 hc0 hdr)
  have H3 := Aside0.mk hfp
  have hu44 := Try.underlying44
  clear hr0 hbig hdr hfp
  go_enter Try.func8, Try.ntmps8
  go_wp2_with (go_at_call 36; refine H1.out.mono ?_; rintro e w' ⟨rfl, ⟨nd, rfl⟩⟩)
  refine (H2.out nd).mono ?_
  rintro e w1 ⟨v1, rfl, ho, hb⟩
  obtain ⟨A, c, rfl⟩ := Kd.S_slice ho
  have HC1 := Aside0.mk (Kd.S_reads' ho).2.2
  have HL := Aside0.mk (Kd.S_reads' ho).2.1
  have HB1 : Aside0 (Below w.heap.size w w1) := ⟨below_step (pw_below_drewN (Below.refl _ _) nd) hb⟩
  clear ho hb
  go_wp2_with fail
  refine (impl_FindPair.calls k2 b A c L x y ok w1 HC1.out HL.out H3.out).mono ?_
  rintro e w2 ⟨vx, vy, rfl, hox, hoy, hb⟩
  obtain ⟨X, cx, rfl⟩ := Kd.R_slice hox
  obtain ⟨Y, cy, rfl⟩ := Kd.R_slice hoy
  have HX := Aside0.mk (Kd.R_reads' hox).2
  have HY := Aside0.mk (Kd.R_reads' hoy).2
  have HB2 := Aside0.mk (below_step HB1.out hb)
  have HC2 := Aside0.mk (Kd.C_below HC1.out hb)
  clear hox hoy hb HC1 HB1
  go_wp2_with (((with_reducible refine gate_dst (N := 5) rfl ?_); refine box_event ?hg (N := 5) ?hd (cs := #[.slice none 0 0, .slice none 0 0]) (t := 44) ?hr ?_; (case hd => rfl); (case hg => rfl); (case hr => first | (go_simp; done) | (go_simp; rfl)); intro g5 hg w5 hbox hb; have B5 := Aside0.mk hbox; have HB5 := Aside0.mk (below_step HB2.out hb); have GE5 : w.heap.size ≤ g5 := (by have := HB2.out.size; omega); have z0 := (blk_cell hbox 0).trans (show _ = some (.slice none 0 0) from rfl); have z1 := (blk_cell hbox 1).trans (show _ = some (.slice none 0 0) from rfl); have f0 := blk_frozen hbox 0; have f1 := blk_frozen hbox 1; clear hbox hb hg))
  go_ret
  exact ⟨by rw [HOK.out]; rfl, below_set (below_set HB5.out GE5) GE5⟩
set_option maxHeartbeats 8000000 in
set_option maxRecDepth 100000 in
theorem pairs_walk (A0 : Option Addr) (c0 : Nat) (l0 : List Int) (w : World) (hr0 : (Kd.int .u8).C w A0 l0.length l0) (hc0 : l0.length ≤ c0) (k1 k2 : Nat) (b : Int) (L : List (List Int)) (x y : List Int) (ok : Bool)
    (hbig : laws_big.f l0 = some false) (hdr : spec_DrawFindPair.f k1 l0 = some (b, L)) (hfp : impl_FindPair.f k2 b L = some (x, y, ok)) (hl : L.length ≤ 100) (k3 : Nat) (x' y' : List Int)
    (co : List Int → List Int → Bool) (hco : ∀ p q, impl_Collides.f b p q = some (co p q)) (hsym : ∀ p q, co p q = co q p)
    (Hyes : ∀ i k : Nat, i < k → k < L.length → NoneYet co L k i → co (L.getD i []) (L.getD k []) = true → ok = true ∧ x = L.getD i [] ∧ y = L.getD k []) (Hno : NoneYet co L L.length 0 → ok = false)
    (h1 : impl_Collides.f 2 [1] [1] = some false) (h2 : impl_FindPair.f k3 2 [[1], [2], [3], [4], [5]] = some (x', y', true)) :
    Calls Try.prog 8 #[.slice A0 l0.length c0] w fun e w' => e = .returned (.bool true) ∧ Below w.heap.size w w' := by
  have cl : decide (100 < L.length) = false := decide_eq_false (by omega)
  have cl2 : decide (100 < (L.length : Int)) = false := decide_eq_false (by omega)
  have HLL := Aside0.mk hl
  have HYES := Aside0.mk Hyes
  have HNO := Aside0.mk Hno
  have HF1 := Aside0.mk h1
  have HF2 := Aside0.mk h2
  clear hl Hyes Hno h1 h2
  have H1 := Aside0.mk (laws_big.calls A0 c0 l0 false w hr0 hc0 hbig)
  have H2 := Aside0.mk (fun nd : Nat => spec_DrawFindPair.calls k1 A0 c0 l0 b L (w.drewN nd) hr0 hc0 hdr)
  have H3 := Aside0.mk hfp
  have hu44 := Try.underlying44
  clear hr0 hbig hdr hfp
  go_enter Try.func8, Try.ntmps8
  go_wp2_with (go_at_call 36; refine H1.out.mono ?_; rintro e w' ⟨rfl, ⟨nd, rfl⟩⟩)
  refine (H2.out nd).mono ?_
  rintro e w1 ⟨v1, rfl, ho, hb⟩
  obtain ⟨A, c, rfl⟩ := Kd.S_slice ho
  have HC1 := Aside0.mk (Kd.S_reads' ho).2.2
  have HL := Aside0.mk (Kd.S_reads' ho).2.1
  have HB1 : Aside0 (Below w.heap.size w w1) := ⟨below_step (pw_below_drewN (Below.refl _ _) nd) hb⟩
  clear ho hb
  go_wp2_with fail
  refine (impl_FindPair.calls k2 b A c L x y ok w1 HC1.out HL.out H3.out).mono ?_
  rintro e w2 ⟨vx, vy, rfl, hox, hoy, hb⟩
  obtain ⟨X, cx, rfl⟩ := Kd.R_slice hox
  obtain ⟨Y, cy, rfl⟩ := Kd.R_slice hoy
  have HX := Aside0.mk (Kd.R_reads' hox).2
  have HY := Aside0.mk (Kd.R_reads' hoy).2
  have HB2 := Aside0.mk (below_step HB1.out hb)
  have HC2 := Aside0.mk (Kd.C_below HC1.out hb)
  clear hox hoy hb HC1 HB1
  go_wp2_with (((with_reducible refine gate_dst (N := 5) rfl ?_); refine box_event ?hg (N := 5) ?hd (cs := #[.slice none 0 0, .slice none 0 0]) (t := 44) ?hr ?_; (case hd => rfl); (case hg => rfl); (case hr => first | (go_simp; done) | (go_simp; rfl)); intro g5 hg w5 hbox hb; have B5 := Aside0.mk hbox; have HB5 := Aside0.mk (below_step HB2.out hb); have HB25 := Aside0.mk hb; have GE5 : w.heap.size ≤ g5 := (by have := HB2.out.size; omega); have GE25 : w2.heap.size ≤ g5 := (by omega); have z0 := (blk_cell hbox 0).trans (show _ = some (.slice none 0 0) from rfl); have z1 := (blk_cell hbox 1).trans (show _ = some (.slice none 0 0) from rfl); have f0 := blk_frozen hbox 0; have f1 := blk_frozen hbox 1; clear hbox hb hg))
  have M5 := Aside0.mk (blk_put (blk_put B5.out 0 (.slice X x.length cx) rfl) 1 (.slice Y y.length cy) rfl)
  have MB := Aside0.mk (below_set (j := 1) (v := .slice Y y.length cy) (below_set (j := 0) (v := .slice X x.length cx) HB5.out GE5) GE5)
  have MB2 := below_set (j := 1) (v := .slice Y y.length cy) (below_set (j := 0) (v := .slice X x.length cx) HB25.out GE25) GE25
  have MC := Aside0.mk (Kd.C_below HC2.out MB2)
  have MX := Aside0.mk (Kd.C_below HX.out.2 MB2)
  have MY := Aside0.mk (Kd.C_below HY.out.2 MB2)
  clear z0 z1 f0 f1 MB2 B5 HB5 HB25 HC2
  generalize ((w5.setCell ⟨g5, 0, none⟩ (.slice X x.length cx)).setCell ⟨g5, 1, none⟩ (.slice Y y.length cy)) = w3 at M5 MB MC MX MY ⊢
  go_loopw [7, 8] (fun f k wr => ∃ n : Nat, k = .int .i64 n ∧ Aside0 (Below w3.heap.size w3 wr) ∧ Aside0 (n ≤ L.length) ∧ ((f = .int .i64 (-1) ∧ Aside0 (NoneYet co L n 0)) ∨ (∃ m : Nat, f = .int .i64 m ∧ Aside0 (ok = true)))) (fun _ k _ => L.length - (intOf k).toNat)
  case atStart => exact ⟨0, rfl, ⟨Below.refl _ _⟩, ⟨Nat.zero_le _⟩, .inl ⟨rfl, ⟨fun i' k' h1 h2 => by omega⟩⟩⟩
  case round =>
    obtain ⟨n, rfl, HBr, HN, hrel⟩ := hrel
    have HM : Aside0 (n ≤ 100) := ⟨Nat.le_trans HN.out HLL.out⟩
    have b1 : 0 ≤ (n : Int) := Int.natCast_nonneg n
    have b2 : (n : Int) ≤ 100 := by have := HM.out; omega
    rcases hrel with ⟨rfl, HNY⟩ | ⟨m, rfl, HOK⟩
    · by_cases hlt : n < L.length
      · have cn : decide (n < L.length) = true := decide_eq_true hlt
        have cn2 : decide ((n : Int) < (L.length : Int)) = true := decide_eq_true (by omega)
        have HLT := Aside0.mk hlt
        clear hlt
        go_wp2
        go_loopw [7, 9] (fun f j wr => ∃ i : Nat, j = .int .i64 i ∧ Aside0 (Below w3.heap.size w3 wr) ∧ Aside0 (i ≤ n) ∧ ((f = .int .i64 (-1) ∧ Aside0 (NoneYet co L n i)) ∨ (f = .int .i64 n ∧ Aside0 (ok = true)))) (fun _ j _ => n - (intOf j).toNat)
        case atStart => exact ⟨0, rfl, HBr, ⟨Nat.zero_le _⟩, .inl ⟨rfl, HNY⟩⟩
        case round =>
          obtain ⟨i, rfl, HBi, HI, hrel⟩ := hrel
          have HIM : Aside0 (i ≤ 100) := ⟨Nat.le_trans HI.out HM.out⟩
          rcases hrel with ⟨rfl, HNi⟩ | ⟨rfl, HOK⟩
          · by_cases hi : i < n
            · have ci : decide (i < n) = true := decide_eq_true hi
              have ci2 : decide ((i : Int) < (n : Int)) = true := decide_eq_true (by omega)
              have HIN := Aside0.mk hi
              clear hi
              have HCr := Aside0.mk (Kd.C_below MC.out HBi.out)
              obtain ⟨ad, B0, d0, e0, x0, l0_, c0_⟩ := rowAtP HCr.out i (by have := HIN.out; have := HLT.out; omega)
              cases e0
              obtain ⟨ad1, B1, d1, e1, x1, l1_, c1_⟩ := rowAtP HCr.out n HLT.out
              cases e1
              have L0 := Aside0.mk l0_
              have L1 := Aside0.mk l1_
              have C0 := Aside0.mk c0_
              have C1 := Aside0.mk c1_
              clear l0_ l1_ c0_ c1_
              obtain ⟨p, hp⟩ : ∃ p, p = L.getD i [] := ⟨_, rfl⟩
              obtain ⟨q, hq⟩ : ∃ q, q = L.getD n [] := ⟨_, rfl⟩
              have HP := Aside0.mk hp
              have HQ := Aside0.mk hq
              rw [← hp] at L0 C0 x0
              rw [← hq] at L1 C1 x1
              clear hp hq
              have p1 : 0 ≤ (i : Int) := Int.natCast_nonneg i
              have p2 : 0 ≤ (n : Int) := Int.natCast_nonneg n
              have q1 : (i : Int) < (L.length : Int) := by have := HIN.out; have := HLT.out; omega
              have q2 : (n : Int) < (L.length : Int) := by have := HLT.out; omega
              have q3 : i < L.length := by omega
              have q5 : (i : Int) ≤ 100 := by have := HIM.out; omega
              have q4 : n < L.length := by omega
              go_wp2
              have HB4 := Aside0.mk (below_drew HBi.out)
              replace C0 := Aside0.mk (Kd.C_below C0.out (below_drew (Below.refl wr.heap.size wr)))
              replace C1 := Aside0.mk (Kd.C_below C1.out (below_drew (Below.refl wr.heap.size wr)))
              replace x0 : wr.drew.cell? (ad.add i) = some (.slice B0 p.length d0) := x0
              replace x1 : wr.drew.cell? (ad.add n) = some (.slice B1 q.length d1) := x1
              refine start_ (n := 11) (S := (fun w' => w'.cell? (ad.add i) = some (.slice B0 p.length d0) ∧ w'.cell? (ad.add n) = some (.slice B1 q.length d1))) (ds := [10]) #[false, false, false, false, false, false, false, false, false, false, false] (by kernel_rfl) rfl rfl ⟨x0, x1⟩ (fun hHeld => ?_); refine with_tabW pairs_tab14 pairs_bits14 (fun HT_ HW_ => ?_)
              generalize wr.drew = w4 at x0 x1 C0 C1 HB4 hHeld ⊢
              refine pure_ (i := 0) (N := some 51) (v := ?_) (a' := ?_) #[true, false, false, false, false, false, false, false, false, false, false] rfl rfl (any_of HT_.out (by kernel_rfl)) (fun _ _ _ h => h) (Or.inl ⟨by rfl, ?_⟩) ?_ ?_
              rotate_left
              · intro w'
                go_simp
                with_reducible rfl
              rotate_left
              · simp only [Act.put, List.setIfInBounds_toArray, List.set_cons_zero, List.set_cons_succ, i64_w, i32_w]
                rfl
              refine pure_ (i := 1) (N := some 52) (v := ?_) (a' := ?_) #[true, true, false, false, false, false, false, false, false, false, false] rfl rfl (any_of HT_.out (by kernel_rfl)) (fun _ _ _ h => h) (Or.inl ⟨by rfl, ?_⟩) ?_ ?_
              rotate_left
              · intro w'
                go_simp
                with_reducible rfl
              rotate_left
              · simp only [Act.put, List.setIfInBounds_toArray, List.set_cons_zero, List.set_cons_succ, i64_w, i32_w]
                rfl
              refine pure_ (i := 2) (N := some 53) (v := ?_) (a' := ?_) #[true, true, true, false, false, false, false, false, false, false, false] rfl rfl (any_of HT_.out (by kernel_rfl)) (fun _ _ _ h => h) (Or.inl ⟨by rfl, ?_⟩) ?_ ?_
              rotate_left
              · intro w'
                go_simp
                with_reducible rfl
              rotate_left
              · simp only [Act.put, List.setIfInBounds_toArray, List.set_cons_zero, List.set_cons_succ, i64_w, i32_w]
                rfl
              refine pure_ (i := 4) (N := some 55) (v := ?_) (a' := ?_) #[true, true, true, false, true, false, false, false, false, false, false] rfl rfl (any_of HT_.out (by kernel_rfl)) (fun _ _ _ h => h) (Or.inl ⟨by rfl, ?_⟩) ?_ ?_
              rotate_left
              · intro w'
                go_simp
                with_reducible rfl
              rotate_left
              · simp only [Act.put, List.setIfInBounds_toArray, List.set_cons_zero, List.set_cons_succ, i64_w, i32_w]
                rfl
              refine pure_ (i := 5) (N := some 56) (v := ?_) (a' := ?_) #[true, true, true, false, true, true, false, false, false, false, false] rfl rfl (any_of HT_.out (by kernel_rfl)) (fun _ _ _ h => h) (Or.inl ⟨by rfl, ?_⟩) ?_ ?_
              rotate_left
              · intro w'
                go_simp
                with_reducible rfl
              rotate_left
              · simp only [Act.put, List.setIfInBounds_toArray, List.set_cons_zero, List.set_cons_succ, i64_w, i32_w]
                rfl
              refine pure_ (i := 6) (N := some 57) (v := ?_) (a' := ?_) #[true, true, true, false, true, true, true, false, false, false, false] rfl rfl (any_of HT_.out (by kernel_rfl)) (fun _ _ _ h => h) (Or.inl ⟨by rfl, ?_⟩) ?_ ?_
              rotate_left
              · intro w'
                go_simp
                with_reducible rfl
              rotate_left
              · simp only [Act.put, List.setIfInBounds_toArray, List.set_cons_zero, List.set_cons_succ, i64_w, i32_w]
                rfl
              refine take_ (i := 3) (N := some 54) (v := ?_) (a' := ?_) #[true, true, true, true, true, true, true, false, false, false, false] rfl rfl (take_ofW HT_.out HW_.out (by kernel_rfl)) (fun _ _ _ h => h) (Or.inl ⟨by rfl, ?_⟩) hHeld ?_ ?_
              rotate_left
              · rintro w' ⟨s0, s1⟩
                go_simp
                with_reducible rfl
              rotate_left
              · simp only [Act.put, List.setIfInBounds_toArray, List.set_cons_zero, List.set_cons_succ, i64_w, i32_w]
                rfl
              refine take_ (i := 7) (N := some 58) (v := ?_) (a' := ?_) #[true, true, true, true, true, true, true, true, false, false, false] rfl rfl (take_ofW HT_.out HW_.out (by kernel_rfl)) (fun _ _ _ h => h) (Or.inl ⟨by rfl, ?_⟩) hHeld ?_ ?_
              rotate_left
              · rintro w' ⟨s0, s1⟩
                go_simp
                with_reducible rfl
              rotate_left
              · simp only [Act.put, List.setIfInBounds_toArray, List.set_cons_zero, List.set_cons_succ, i64_w, i32_w]
                rfl
              refine pure_ (i := 8) (N := some 59) (v := ?_) (a' := ?_) #[true, true, true, true, true, true, true, true, true, false, false] rfl rfl (any_of HT_.out (by kernel_rfl)) (fun _ _ _ h => h) (Or.inl ⟨by rfl, ?_⟩) ?_ ?_
              rotate_left
              · intro w'
                go_simp
                with_reducible rfl
              rotate_left
              · simp only [Act.put, List.setIfInBounds_toArray, List.set_cons_zero, List.set_cons_succ, i64_w, i32_w]
                rfl
              refine one_ (i := 9) (N := some 10) #[true, true, true, true, true, true, true, true, true, true, false] rfl rfl (one_of HT_.out (by kernel_rfl)) (by decide) (fun K hK => ?_)
              refine box_step ?hg (N := 10) ?hd (cs := #[.slice none 0 0, .slice none 0 0]) (t := 44) ?hr ?_; (case hd => rfl); (case hg => rfl); (case hr => first | (go_simp; done) | (go_simp; rfl))
              intro g10 hg w41 hbox hb
              have HS : w41.cell? (ad.add i) = some (.slice B0 p.length d0) ∧ w41.cell? (ad.add n) = some (.slice B1 q.length d1) := ⟨(hb.cell (World.block_lt_of_cell? _ _ x0)).trans x0, (hb.cell (World.block_lt_of_cell? _ _ x1)).trans x1⟩
              have GE10 : w4.heap.size ≤ g10 := Nat.le_of_eq hg.symm
              have B10 := Aside0.mk hbox
              have HB41 := Aside0.mk (below_step HB4.out hb)
              have HBx := Aside0.mk hb
              clear hbox hb hg hHeld
              refine hK.out _ _ HS (fun hHeld => ?_)
              clear hK K HS hHeld
              refine norm_ (a' := ?_) ?_ ?_
              rotate_left
              · show Act.put _ (some 10) _ = _
                simp only [Act.put, List.setIfInBounds_toArray, List.set_cons_zero, List.set_cons_succ, i64_w, i32_w]
                rfl
              refine last_ (i := 10) (N := none) #[true, true, true, true, true, true, true, true, true, true, true] rfl rfl (one_of HT_.out (by kernel_rfl)) (by decide) (fun K hK => ?_)
              have y0 := (blk_cell B10.out 0).trans (show _ = some (.slice none 0 0) from rfl)
              have y1 := (blk_cell B10.out 1).trans (show _ = some (.slice none 0 0) from rfl)
              have f0 := blk_frozen B10.out 0
              have f1 := blk_frozen B10.out 1
              refine skip_ (w1 := ?_) (by rfl) rfl ?_ ?_
              rotate_left
              · go_simp
                rfl
              refine hK.out _ _ ?_
              clear hK K
              refine done_ (done_of HT_.out (by kernel_rfl)) ?_
              clear y0 y1 f0 f1 HT_ HW_
              have B10 := Aside0.mk (blk_put (blk_put B10.out 0 (.slice B0 p.length d0) rfl) 1 (.slice B1 q.length d1) rfl)
              have GE310 : w3.heap.size ≤ g10 := Nat.le_trans HB4.out.size GE10
              have HB5 := Aside0.mk (below_set (j := 1) (v := .slice B1 q.length d1) (below_set (j := 0) (v := .slice B0 p.length d0) HB41.out GE310) GE310)
              have hx := below_set (j := 1) (v := .slice B1 q.length d1) (below_set (j := 0) (v := .slice B0 p.length d0) HBx.out GE10) GE10
              have x0 := (hx.cell (World.block_lt_of_cell? _ _ x0)).trans x0
              have x1 := (hx.cell (World.block_lt_of_cell? _ _ x1)).trans x1
              have C0 := Aside0.mk (Kd.C_below C0.out hx)
              have C1 := Aside0.mk (Kd.C_below C1.out hx)
              clear hx HB41 HBx HB4
              go_wp2
              generalize ((w41.setCell ⟨g10, 0, none⟩ (.slice B0 p.length d0)).setCell ⟨g10, 1, none⟩ (.slice B1 q.length d1)) = w5 at B10 HB5 x0 x1 C0 C1 ⊢
              have HB6 := Aside0.mk (below_drew HB5.out)
              replace C0 := Aside0.mk (Kd.C_below C0.out (below_drew (Below.refl w5.heap.size w5)))
              replace C1 := Aside0.mk (Kd.C_below C1.out (below_drew (Below.refl w5.heap.size w5)))
              replace x0 : w5.drew.cell? (ad.add i) = some (.slice B0 p.length d0) := x0
              replace x1 : w5.drew.cell? (ad.add n) = some (.slice B1 q.length d1) := x1
              have z0 : w5.drew.cell? ⟨g10, 0, none⟩ = some (.slice B0 p.length d0) := (blk_cell B10.out 0).trans rfl
              have z1 : w5.drew.cell? ⟨g10, 1, none⟩ = some (.slice B1 q.length d1) := (blk_cell B10.out 1).trans rfl
              refine start_ (n := 15) (S := (fun w' => w'.cell? ⟨g10, 0, none⟩ = some (.slice B0 p.length d0) ∧ w'.cell? ⟨g10, 1, none⟩ = some (.slice B1 q.length d1) ∧ w'.cell? (ad.add i) = some (.slice B0 p.length d0) ∧ w'.cell? (ad.add n) = some (.slice B1 q.length d1))) (ds := [14]) #[false, false, false, false, false, false, false, false, false, false, false, false, false, false, false] (by kernel_rfl) rfl rfl ⟨z0, z1, x0, x1⟩ (fun hHeld => ?_); refine with_tabW pairs_tab15 pairs_bits15 (fun HT_ HW_ => ?_)
              generalize w5.drew = w6 at z0 z1 x0 x1 C0 C1 HB6 hHeld ⊢
              refine pure_ (i := 0) (N := some 60) (v := ?_) (a' := ?_) #[true, false, false, false, false, false, false, false, false, false, false, false, false, false, false] rfl rfl (any_of HT_.out (by kernel_rfl)) (fun _ _ _ h => h) (Or.inl ⟨by rfl, ?_⟩) ?_ ?_
              rotate_left
              · intro w'
                go_simp
                with_reducible rfl
              rotate_left
              · simp only [Act.put, List.setIfInBounds_toArray, List.set_cons_zero, List.set_cons_succ, i64_w, i32_w]
                rfl
              refine pure_ (i := 3) (N := some 63) (v := ?_) (a' := ?_) #[true, false, false, true, false, false, false, false, false, false, false, false, false, false, false] rfl rfl (any_of HT_.out (by kernel_rfl)) (fun _ _ _ h => h) (Or.inl ⟨by rfl, ?_⟩) ?_ ?_
              rotate_left
              · intro w'
                go_simp
                with_reducible rfl
              rotate_left
              · simp only [Act.put, List.setIfInBounds_toArray, List.set_cons_zero, List.set_cons_succ, i64_w, i32_w]
                rfl
              refine pure_ (i := 4) (N := some 64) (v := ?_) (a' := ?_) #[true, false, false, true, true, false, false, false, false, false, false, false, false, false, false] rfl rfl (any_of HT_.out (by kernel_rfl)) (fun _ _ _ h => h) (Or.inl ⟨by rfl, ?_⟩) ?_ ?_
              rotate_left
              · intro w'
                go_simp
                with_reducible rfl
              rotate_left
              · simp only [Act.put, List.setIfInBounds_toArray, List.set_cons_zero, List.set_cons_succ, i64_w, i32_w]
                rfl
              refine pure_ (i := 5) (N := some 65) (v := ?_) (a' := ?_) #[true, false, false, true, true, true, false, false, false, false, false, false, false, false, false] rfl rfl (any_of HT_.out (by kernel_rfl)) (fun _ _ _ h => h) (Or.inl ⟨by rfl, ?_⟩) ?_ ?_
              rotate_left
              · intro w'
                go_simp
                with_reducible rfl
              rotate_left
              · simp only [Act.put, List.setIfInBounds_toArray, List.set_cons_zero, List.set_cons_succ, i64_w, i32_w]
                rfl
              refine pure_ (i := 6) (N := some 66) (v := ?_) (a' := ?_) #[true, false, false, true, true, true, true, false, false, false, false, false, false, false, false] rfl rfl (any_of HT_.out (by kernel_rfl)) (fun _ _ _ h => h) (Or.inl ⟨by rfl, ?_⟩) ?_ ?_
              rotate_left
              · intro w'
                go_simp
                with_reducible rfl
              rotate_left
              · simp only [Act.put, List.setIfInBounds_toArray, List.set_cons_zero, List.set_cons_succ, i64_w, i32_w]
                rfl
              refine pure_ (i := 8) (N := some 68) (v := ?_) (a' := ?_) #[true, false, false, true, true, true, true, false, true, false, false, false, false, false, false] rfl rfl (any_of HT_.out (by kernel_rfl)) (fun _ _ _ h => h) (Or.inl ⟨by rfl, ?_⟩) ?_ ?_
              rotate_left
              · intro w'
                go_simp
                with_reducible rfl
              rotate_left
              · simp only [Act.put, List.setIfInBounds_toArray, List.set_cons_zero, List.set_cons_succ, i64_w, i32_w]
                rfl
              refine pure_ (i := 9) (N := some 69) (v := ?_) (a' := ?_) #[true, false, false, true, true, true, true, false, true, true, false, false, false, false, false] rfl rfl (any_of HT_.out (by kernel_rfl)) (fun _ _ _ h => h) (Or.inl ⟨by rfl, ?_⟩) ?_ ?_
              rotate_left
              · intro w'
                go_simp
                with_reducible rfl
              rotate_left
              · simp only [Act.put, List.setIfInBounds_toArray, List.set_cons_zero, List.set_cons_succ, i64_w, i32_w]
                rfl
              refine pure_ (i := 10) (N := some 70) (v := ?_) (a' := ?_) #[true, false, false, true, true, true, true, false, true, true, true, false, false, false, false] rfl rfl (any_of HT_.out (by kernel_rfl)) (fun _ _ _ h => h) (Or.inl ⟨by rfl, ?_⟩) ?_ ?_
              rotate_left
              · intro w'
                go_simp
                with_reducible rfl
              rotate_left
              · simp only [Act.put, List.setIfInBounds_toArray, List.set_cons_zero, List.set_cons_succ, i64_w, i32_w]
                rfl
              refine take_ (i := 1) (N := some 61) (v := ?_) (a' := ?_) #[true, true, false, true, true, true, true, false, true, true, true, false, false, false, false] rfl rfl (take_ofW HT_.out HW_.out (by kernel_rfl)) (fun _ _ _ h => h) (Or.inl ⟨by rfl, ?_⟩) hHeld ?_ ?_
              rotate_left
              · rintro w' ⟨s0, s1, s2, s3⟩
                go_simp
                with_reducible rfl
              rotate_left
              · simp only [Act.put, List.setIfInBounds_toArray, List.set_cons_zero, List.set_cons_succ, i64_w, i32_w]
                rfl
              refine take_ (i := 7) (N := some 67) (v := ?_) (a' := ?_) #[true, true, false, true, true, true, true, true, true, true, true, false, false, false, false] rfl rfl (take_ofW HT_.out HW_.out (by kernel_rfl)) (fun _ _ _ h => h) (Or.inl ⟨by rfl, ?_⟩) hHeld ?_ ?_
              rotate_left
              · rintro w' ⟨s0, s1, s2, s3⟩
                go_simp
                with_reducible rfl
              rotate_left
              · simp only [Act.put, List.setIfInBounds_toArray, List.set_cons_zero, List.set_cons_succ, i64_w, i32_w]
                rfl
              refine take_ (i := 11) (N := some 71) (v := ?_) (a' := ?_) #[true, true, false, true, true, true, true, true, true, true, true, true, false, false, false] rfl rfl (take_ofW HT_.out HW_.out (by kernel_rfl)) (fun _ _ _ h => h) (Or.inl ⟨by rfl, ?_⟩) hHeld ?_ ?_
              rotate_left
              · rintro w' ⟨s0, s1, s2, s3⟩
                go_simp
                with_reducible rfl
              rotate_left
              · simp only [Act.put, List.setIfInBounds_toArray, List.set_cons_zero, List.set_cons_succ, i64_w, i32_w]
                rfl
              refine pure_ (i := 12) (N := some 72) (v := ?_) (a' := ?_) #[true, true, false, true, true, true, true, true, true, true, true, true, true, false, false] rfl rfl (any_of HT_.out (by kernel_rfl)) (fun _ _ _ h => h) (Or.inl ⟨by rfl, ?_⟩) ?_ ?_
              rotate_left
              · intro w'
                go_simp
                with_reducible rfl
              rotate_left
              · simp only [Act.put, List.setIfInBounds_toArray, List.set_cons_zero, List.set_cons_succ, i64_w, i32_w]
                rfl
              refine one_ (i := 2) (N := some 62) #[true, true, true, true, true, true, true, true, true, true, true, true, true, false, false] rfl rfl (one_of HT_.out (by kernel_rfl)) (by decide) (fun K hK => ?_)
              refine goes_ Try.func34 (by kernel_rfl) rfl #[.int .i64 b, .agg #[.slice B0 p.length d0, .slice B1 q.length d1]] (by rfl) rfl rfl (by (try simp only [List.map_toArray, List.map_cons, List.map_nil]); first | done | rfl | (simp only [List.length_drop, List.length_take]; rfl)) ?_
              refine (impl_Collides.calls b B0 d0 p B1 d1 q (co p q) w6 C0.out L0.out C1.out L1.out (hco p q)).mono ?_
              rintro e w7 ⟨rfl, hb⟩
              refine ⟨_, rfl, ?_⟩
              have HB7 := Aside0.mk (below_step HB6.out hb)
              have HS : w7.cell? ⟨g10, 0, none⟩ = some (.slice B0 p.length d0) ∧ w7.cell? ⟨g10, 1, none⟩ = some (.slice B1 q.length d1) ∧ w7.cell? (ad.add i) = some (.slice B0 p.length d0) ∧ w7.cell? (ad.add n) = some (.slice B1 q.length d1) := ⟨(hb.cell (World.block_lt_of_cell? _ _ z0)).trans z0, (hb.cell (World.block_lt_of_cell? _ _ z1)).trans z1, (hb.cell (World.block_lt_of_cell? _ _ x0)).trans x0, (hb.cell (World.block_lt_of_cell? _ _ x1)).trans x1⟩
              have C0 := Aside0.mk (Kd.C_below C0.out hb)
              have C1 := Aside0.mk (Kd.C_below C1.out hb)
              clear z0 z1 x0 x1
              obtain ⟨z0, z1, x0, x1⟩ := HS
              have HS := And.intro z0 (And.intro z1 (And.intro x0 x1))
              refine hK.out _ _ HS (fun hHeld => ?_)
              clear hK K
              refine norm_ (a' := ?_) ?_ ?_
              rotate_left
              · show Act.put _ (some 62) _ = _
                simp only [Act.put, List.setIfInBounds_toArray, List.set_cons_zero, List.set_cons_succ, i64_w, i32_w]
                rfl
              refine one_ (i := 13) (N := some 73) #[true, true, true, true, true, true, true, true, true, true, true, true, true, true, false] rfl rfl (one_of HT_.out (by kernel_rfl)) (by decide) (fun K hK => ?_)
              refine goes_ Try.func34 (by kernel_rfl) rfl #[.int .i64 b, .agg #[.slice B1 q.length d1, .slice B0 p.length d0]] (by rfl) rfl rfl (by (try simp only [List.map_toArray, List.map_cons, List.map_nil]); first | done | rfl | (simp only [List.length_drop, List.length_take]; rfl)) ?_
              refine (impl_Collides.calls b B1 d1 q B0 d0 p (co p q) w7 C1.out L1.out C0.out L0.out ((hco q p).trans (by rw [hsym q p]))).mono ?_
              rintro e w8 ⟨rfl, hb⟩
              refine ⟨_, rfl, ?_⟩
              have HB8 := Aside0.mk (below_step HB7.out hb)
              have HS : w8.cell? ⟨g10, 0, none⟩ = some (.slice B0 p.length d0) ∧ w8.cell? ⟨g10, 1, none⟩ = some (.slice B1 q.length d1) ∧ w8.cell? (ad.add i) = some (.slice B0 p.length d0) ∧ w8.cell? (ad.add n) = some (.slice B1 q.length d1) := ⟨(hb.cell (World.block_lt_of_cell? _ _ z0)).trans z0, (hb.cell (World.block_lt_of_cell? _ _ z1)).trans z1, (hb.cell (World.block_lt_of_cell? _ _ x0)).trans x0, (hb.cell (World.block_lt_of_cell? _ _ x1)).trans x1⟩
              have C0 := Aside0.mk (Kd.C_below C0.out hb)
              have C1 := Aside0.mk (Kd.C_below C1.out hb)
              clear z0 z1 x0 x1
              obtain ⟨z0, z1, x0, x1⟩ := HS
              have HS := And.intro z0 (And.intro z1 (And.intro x0 x1))
              refine hK.out _ _ HS (fun hHeld => ?_)
              clear hK K
              refine norm_ (a' := ?_) ?_ ?_
              rotate_left
              · show Act.put _ (some 73) _ = _
                simp only [Act.put, List.setIfInBounds_toArray, List.set_cons_zero, List.set_cons_succ, i64_w, i32_w]
                rfl
              refine pure_ (i := 14) (N := some 74) (v := ?_) (a' := ?_) #[true, true, true, true, true, true, true, true, true, true, true, true, true, true, true] rfl rfl (any_of HT_.out (by kernel_rfl)) (fun _ _ _ h => h) (Or.inl ⟨by rfl, ?_⟩) ?_ ?_
              rotate_left
              · intro w'
                go_simp
                with_reducible rfl
              rotate_left
              · simp only [Act.put, List.setIfInBounds_toArray, List.set_cons_zero, List.set_cons_succ, i64_w, i32_w]
                rfl
              refine done_ (done_of HT_.out (by kernel_rfl)) ?_
              have cc : (co p q != co p q) = false := by simp
              go_wp2_with fail
              refine (impl_Collides.calls b B0 d0 p B1 d1 q (co p q) w8 C0.out L0.out C1.out L1.out (hco p q)).mono ?_
              rintro e w9 ⟨rfl, hb⟩
              have HB9 := Aside0.mk (below_step HB8.out hb)
              have C0 := Aside0.mk (Kd.C_below C0.out hb)
              have C1 := Aside0.mk (Kd.C_below C1.out hb)
              replace x0 := (hb.cell (World.block_lt_of_cell? _ _ x0)).trans x0
              replace x1 := (hb.cell (World.block_lt_of_cell? _ _ x1)).trans x1
              clear z0 z1 HS hHeld hb HT_ HW_ HB8 HB7 HB6 HB5 cc
              by_cases hv : co p q = true
              · obtain ⟨hok, hx, hy⟩ := HYES.out i n HIN.out HLT.out HNi.out (by rw [← HP.out, ← HQ.out]; exact hv)
                have ex : x = p := hx.trans HP.out.symm
                have ey : y = q := hy.trans HQ.out.symm
                rw [hv]
                clear hv hx hy
                have D5 := Aside0.mk (blk_below M5.out HB9.out)
                have z0 := (blk_cell D5.out 0).trans (show _ = some (.slice X x.length cx) from rfl)
                have z1 := (blk_cell D5.out 1).trans (show _ = some (.slice Y y.length cy) from rfl)
                have DX := Kd.C_below MX.out (below_step HB9.out (below_drew (Below.refl w9.heap.size w9)))
                have DY := Kd.C_below MY.out (below_step HB9.out (below_drew (Below.refl w9.heap.size w9)))
                have D0 := Kd.C_below C0.out (below_drew (Below.refl w9.heap.size w9))
                have D1 := Kd.C_below C1.out (below_drew (Below.refl w9.heap.size w9))
                rw [ex] at z0 DX
                rw [ey] at z1 DY
                have v0 := Kd.C_string (P := Try.prog) (A := X) (c := cx) Try.underlying28 Try.underlying5 Try.underlying9 DX
                have v1 := Kd.C_string (P := Try.prog) (A := Y) (c := cy) Try.underlying28 Try.underlying5 Try.underlying9 DY
                have v2 := Kd.C_string (P := Try.prog) (A := B0) (c := d0) Try.underlying28 Try.underlying5 Try.underlying9 D0
                have v3 := Kd.C_string (P := Try.prog) (A := B1) (c := d1) Try.underlying28 Try.underlying5 Try.underlying9 D1
                clear DX DY D0 D1 D5
                have HOK := Aside0.mk hok
                have e0 : ((strOfNums p).toList != (strOfNums p).toList) = false := by simp
                have e1 : ((strOfNums q).toList != (strOfNums q).toList) = false := by simp
                have e2 : (!ok) = false := by rw [hok]; rfl
                clear ex ey
                subst hok
                go_wp2
                go_still (by kernel_rfl)
                go_wp2
                go_roundw
                case rel => exact ⟨i + 1, by go_num, ⟨below_drew HB9.out⟩, ⟨HIN.out⟩, .inr ⟨rfl, HOK⟩⟩
                case measure => have := HIN.out; simp [intOf]; omega
              · replace hv := Bool.eq_false_iff.mpr hv
                rw [hv]
                have HV := Aside0.mk hv
                clear hv
                go_wp2
                go_roundw
                case rel => exact ⟨i + 1, by go_num, HB9, ⟨HIN.out⟩, .inl ⟨rfl, ⟨HNi.out.next (by rw [← HP.out, ← HQ.out]; exact HV.out)⟩⟩⟩
                case measure => have := HIN.out; simp [intOf]; omega
            · have ci : decide (i < n) = false := decide_eq_false hi
              have ci2 : decide ((i : Int) < (n : Int)) = false := decide_eq_false (by omega)
              have HNI := Aside0.mk hi
              clear hi
              go_wp2
              go_roundw
              case rel => exact ⟨n + 1, by go_num, HBi, ⟨HLT.out⟩, .inl ⟨rfl, ⟨HNi.out.row (by have := HNI.out; omega)⟩⟩⟩
              case measure => have := HLT.out; simp [intOf]; omega
          · have cm : decide ((n : Int) < 0) = false := decide_eq_false (by omega)
            by_cases hi : i < n
            · have ci : decide (i < n) = true := decide_eq_true hi
              have ci2 : decide ((i : Int) < (n : Int)) = true := decide_eq_true (by omega)
              clear hi
              go_wp2
              go_roundw
              case rel => exact ⟨n + 1, by go_num, HBi, ⟨HLT.out⟩, .inr ⟨n, rfl, HOK⟩⟩
              case measure => have := HLT.out; simp [intOf]; omega
            · have ci : decide (i < n) = false := decide_eq_false hi
              have ci2 : decide ((i : Int) < (n : Int)) = false := decide_eq_false (by omega)
              clear hi
              go_wp2
              go_roundw
              case rel => exact ⟨n + 1, by go_num, HBi, ⟨HLT.out⟩, .inr ⟨n, rfl, HOK⟩⟩
              case measure => have := HLT.out; simp [intOf]; omega
      · have cn : decide (n < L.length) = false := decide_eq_false hlt
        have cn2 : decide ((n : Int) < (L.length : Int)) = false := decide_eq_false (by omega)
        have en : n = L.length := by have := HN.out; omega
        have hok : ok = false := HNO.out (by rw [← en]; exact HNY.out)
        clear hlt en
        subst hok
        have KB := Aside0.mk (below_step MB.out HBr.out)
        go_wp2_with (first
          | ((with_reducible refine gate_dst (N := 103) rfl ?_); refine lit_event ?hg (N := 103) ?hd (cs := #[.int .u8 1]) (t := 5) (n := 1) ?hr ?_; (case hd => rfl); (case hg => rfl); (case hr => first | (go_simp; done) | (go_simp; rfl)); intro g103 hg u103 hbox hb; have E103 := Aside0.mk hbox; have KB := Aside0.mk (below_step KB.out hb); clear hbox hb hg)
          | ((with_reducible refine gate_dst (N := 104) rfl ?_); refine lit_event ?hg (N := 104) ?hd (cs := #[.int .u8 1]) (t := 5) (n := 1) ?hr ?_; (case hd => rfl); (case hg => rfl); (case hr => first | (go_simp; done) | (go_simp; rfl)); intro g104 hg u104 hbox hb; have E103 := Aside0.mk (blk_below E103.out hb); have E104 := Aside0.mk hbox; have KB := Aside0.mk (below_step KB.out hb); clear hbox hb hg)
          | ((with_reducible refine gate_dst (N := 108) rfl ?_); refine lit_event ?hg (N := 108) ?hd (cs := #[.int .u8 1]) (t := 5) (n := 1) ?hr ?_; (case hd => rfl); (case hg => rfl); (case hr => first | (go_simp; done) | (go_simp; rfl)); intro g108 hg u108 hbox hb; have E108 := Aside0.mk hbox; have KB := Aside0.mk (below_step KB.out hb); clear hbox hb hg)
          | ((with_reducible refine gate_dst (N := 109) rfl ?_); refine lit_event ?hg (N := 109) ?hd (cs := #[.int .u8 2]) (t := 5) (n := 1) ?hr ?_; (case hd => rfl); (case hg => rfl); (case hr => first | (go_simp; done) | (go_simp; rfl)); intro g109 hg u109 hbox hb; have E108 := Aside0.mk (blk_below E108.out hb); have E109 := Aside0.mk hbox; have KB := Aside0.mk (below_step KB.out hb); clear hbox hb hg)
          | ((with_reducible refine gate_dst (N := 110) rfl ?_); refine lit_event ?hg (N := 110) ?hd (cs := #[.int .u8 3]) (t := 5) (n := 1) ?hr ?_; (case hd => rfl); (case hg => rfl); (case hr => first | (go_simp; done) | (go_simp; rfl)); intro g110 hg u110 hbox hb; have E108 := Aside0.mk (blk_below E108.out hb); have E109 := Aside0.mk (blk_below E109.out hb); have E110 := Aside0.mk hbox; have KB := Aside0.mk (below_step KB.out hb); clear hbox hb hg)
          | ((with_reducible refine gate_dst (N := 111) rfl ?_); refine lit_event ?hg (N := 111) ?hd (cs := #[.int .u8 4]) (t := 5) (n := 1) ?hr ?_; (case hd => rfl); (case hg => rfl); (case hr => first | (go_simp; done) | (go_simp; rfl)); intro g111 hg u111 hbox hb; have E108 := Aside0.mk (blk_below E108.out hb); have E109 := Aside0.mk (blk_below E109.out hb); have E110 := Aside0.mk (blk_below E110.out hb); have E111 := Aside0.mk hbox; have KB := Aside0.mk (below_step KB.out hb); clear hbox hb hg)
          | ((with_reducible refine gate_dst (N := 112) rfl ?_); refine lit_event ?hg (N := 112) ?hd (cs := #[.int .u8 5]) (t := 5) (n := 1) ?hr ?_; (case hd => rfl); (case hg => rfl); (case hr => first | (go_simp; done) | (go_simp; rfl)); intro g112 hg u112 hbox hb; have E108 := Aside0.mk (blk_below E108.out hb); have E109 := Aside0.mk (blk_below E109.out hb); have E110 := Aside0.mk (blk_below E110.out hb); have E111 := Aside0.mk (blk_below E111.out hb); have E112 := Aside0.mk hbox; have KB := Aside0.mk (below_step KB.out hb); clear hbox hb hg)
          | ((with_reducible refine gate_dst (N := 113) rfl ?_); refine lit_event ?hg (N := 113) ?hd (cs := #[.slice (some ⟨g108, 0, none⟩) 1 1, .slice (some ⟨g109, 0, none⟩) 1 1, .slice (some ⟨g110, 0, none⟩) 1 1, .slice (some ⟨g111, 0, none⟩) 1 1, .slice (some ⟨g112, 0, none⟩) 1 1]) (t := 28) (n := 5) ?hr ?_; (case hd => rfl); (case hg => rfl); (case hr => first | (go_simp; done) | (go_simp; rfl)); intro g113 hg u113 hbox hb; have E108 := Aside0.mk (blk_below E108.out hb); have E109 := Aside0.mk (blk_below E109.out hb); have E110 := Aside0.mk (blk_below E110.out hb); have E111 := Aside0.mk (blk_below E111.out hb); have E112 := Aside0.mk (blk_below E112.out hb); have E113 := Aside0.mk hbox; have KB := Aside0.mk (below_step KB.out hb); clear hbox hb hg)
          | (go_at_call 34; refine (impl_Collides.calls 2 (some ⟨g103, 0, none⟩) 1 [1] (some ⟨g104, 0, none⟩) 1 [1] false _ (C_one E103.out) (Nat.le_refl _) (C_one E104.out) (Nat.le_refl _) HF1.out).mono ?_; rintro e w' ⟨rfl, hb⟩; have KB := Aside0.mk (below_step KB.out hb); clear hb)
          | (go_at_call 38; refine (impl_FindPair.calls k3 2 (some ⟨g113, 0, none⟩) 5 [[1], [2], [3], [4], [5]] x' y' true _ (C_rows5 E113.out E108.out E109.out E110.out E111.out E112.out) (Nat.le_refl _) HF2.out).mono ?_; rintro e w' ⟨vx', vy', rfl, hox, hoy, hb⟩; obtain ⟨X', cx', rfl⟩ := Kd.R_slice hox; obtain ⟨Y', cy', rfl⟩ := Kd.R_slice hoy; clear hox hoy; have KB := Aside0.mk (below_step KB.out hb); clear hb)
          | ((with_reducible refine gate_dst (N := 12) rfl ?_); refine box_event ?hg (N := 12) ?hd (cs := #[.slice none 0 0, .slice none 0 0]) (t := 44) ?hr ?_; (case hd => rfl); (case hg => rfl); (case hr => first | (go_simp; done) | (go_simp; rfl)); intro g12 hg u12 hbox hb; have KG : w.heap.size ≤ g12 := (by have := KB.out.size; omega); have KB := Aside0.mk (below_step KB.out hb); have z0 := (blk_cell hbox 0).trans (show _ = some (.slice none 0 0) from rfl); have z1 := (blk_cell hbox 1).trans (show _ = some (.slice none 0 0) from rfl); have f0 := blk_frozen hbox 0; have f1 := blk_frozen hbox 1; clear hbox hb hg))
        go_ret
        exact ⟨rfl, below_set (below_set KB.out KG) KG⟩
    · have cm : decide ((m : Int) < 0) = false := decide_eq_false (by omega)
      have cm2 : decide (0 ≤ (m : Int)) = true := decide_eq_true (by omega)
      have hok := HOK.out
      clear HOK
      subst hok
      have KB := Aside0.mk (below_step MB.out HBr.out)
      by_cases hlt : n < L.length
      · have cn : decide (n < L.length) = true := decide_eq_true hlt
        have cn2 : decide ((n : Int) < (L.length : Int)) = true := decide_eq_true (by omega)
        clear hlt
        go_wp2_with (first
          | ((with_reducible refine gate_dst (N := 103) rfl ?_); refine lit_event ?hg (N := 103) ?hd (cs := #[.int .u8 1]) (t := 5) (n := 1) ?hr ?_; (case hd => rfl); (case hg => rfl); (case hr => first | (go_simp; done) | (go_simp; rfl)); intro g103 hg u103 hbox hb; have E103 := Aside0.mk hbox; have KB := Aside0.mk (below_step KB.out hb); clear hbox hb hg)
          | ((with_reducible refine gate_dst (N := 104) rfl ?_); refine lit_event ?hg (N := 104) ?hd (cs := #[.int .u8 1]) (t := 5) (n := 1) ?hr ?_; (case hd => rfl); (case hg => rfl); (case hr => first | (go_simp; done) | (go_simp; rfl)); intro g104 hg u104 hbox hb; have E103 := Aside0.mk (blk_below E103.out hb); have E104 := Aside0.mk hbox; have KB := Aside0.mk (below_step KB.out hb); clear hbox hb hg)
          | ((with_reducible refine gate_dst (N := 108) rfl ?_); refine lit_event ?hg (N := 108) ?hd (cs := #[.int .u8 1]) (t := 5) (n := 1) ?hr ?_; (case hd => rfl); (case hg => rfl); (case hr => first | (go_simp; done) | (go_simp; rfl)); intro g108 hg u108 hbox hb; have E108 := Aside0.mk hbox; have KB := Aside0.mk (below_step KB.out hb); clear hbox hb hg)
          | ((with_reducible refine gate_dst (N := 109) rfl ?_); refine lit_event ?hg (N := 109) ?hd (cs := #[.int .u8 2]) (t := 5) (n := 1) ?hr ?_; (case hd => rfl); (case hg => rfl); (case hr => first | (go_simp; done) | (go_simp; rfl)); intro g109 hg u109 hbox hb; have E108 := Aside0.mk (blk_below E108.out hb); have E109 := Aside0.mk hbox; have KB := Aside0.mk (below_step KB.out hb); clear hbox hb hg)
          | ((with_reducible refine gate_dst (N := 110) rfl ?_); refine lit_event ?hg (N := 110) ?hd (cs := #[.int .u8 3]) (t := 5) (n := 1) ?hr ?_; (case hd => rfl); (case hg => rfl); (case hr => first | (go_simp; done) | (go_simp; rfl)); intro g110 hg u110 hbox hb; have E108 := Aside0.mk (blk_below E108.out hb); have E109 := Aside0.mk (blk_below E109.out hb); have E110 := Aside0.mk hbox; have KB := Aside0.mk (below_step KB.out hb); clear hbox hb hg)
          | ((with_reducible refine gate_dst (N := 111) rfl ?_); refine lit_event ?hg (N := 111) ?hd (cs := #[.int .u8 4]) (t := 5) (n := 1) ?hr ?_; (case hd => rfl); (case hg => rfl); (case hr => first | (go_simp; done) | (go_simp; rfl)); intro g111 hg u111 hbox hb; have E108 := Aside0.mk (blk_below E108.out hb); have E109 := Aside0.mk (blk_below E109.out hb); have E110 := Aside0.mk (blk_below E110.out hb); have E111 := Aside0.mk hbox; have KB := Aside0.mk (below_step KB.out hb); clear hbox hb hg)
          | ((with_reducible refine gate_dst (N := 112) rfl ?_); refine lit_event ?hg (N := 112) ?hd (cs := #[.int .u8 5]) (t := 5) (n := 1) ?hr ?_; (case hd => rfl); (case hg => rfl); (case hr => first | (go_simp; done) | (go_simp; rfl)); intro g112 hg u112 hbox hb; have E108 := Aside0.mk (blk_below E108.out hb); have E109 := Aside0.mk (blk_below E109.out hb); have E110 := Aside0.mk (blk_below E110.out hb); have E111 := Aside0.mk (blk_below E111.out hb); have E112 := Aside0.mk hbox; have KB := Aside0.mk (below_step KB.out hb); clear hbox hb hg)
          | ((with_reducible refine gate_dst (N := 113) rfl ?_); refine lit_event ?hg (N := 113) ?hd (cs := #[.slice (some ⟨g108, 0, none⟩) 1 1, .slice (some ⟨g109, 0, none⟩) 1 1, .slice (some ⟨g110, 0, none⟩) 1 1, .slice (some ⟨g111, 0, none⟩) 1 1, .slice (some ⟨g112, 0, none⟩) 1 1]) (t := 28) (n := 5) ?hr ?_; (case hd => rfl); (case hg => rfl); (case hr => first | (go_simp; done) | (go_simp; rfl)); intro g113 hg u113 hbox hb; have E108 := Aside0.mk (blk_below E108.out hb); have E109 := Aside0.mk (blk_below E109.out hb); have E110 := Aside0.mk (blk_below E110.out hb); have E111 := Aside0.mk (blk_below E111.out hb); have E112 := Aside0.mk (blk_below E112.out hb); have E113 := Aside0.mk hbox; have KB := Aside0.mk (below_step KB.out hb); clear hbox hb hg)
          | (go_at_call 34; refine (impl_Collides.calls 2 (some ⟨g103, 0, none⟩) 1 [1] (some ⟨g104, 0, none⟩) 1 [1] false _ (C_one E103.out) (Nat.le_refl _) (C_one E104.out) (Nat.le_refl _) HF1.out).mono ?_; rintro e w' ⟨rfl, hb⟩; have KB := Aside0.mk (below_step KB.out hb); clear hb)
          | (go_at_call 38; refine (impl_FindPair.calls k3 2 (some ⟨g113, 0, none⟩) 5 [[1], [2], [3], [4], [5]] x' y' true _ (C_rows5 E113.out E108.out E109.out E110.out E111.out E112.out) (Nat.le_refl _) HF2.out).mono ?_; rintro e w' ⟨vx', vy', rfl, hox, hoy, hb⟩; obtain ⟨X', cx', rfl⟩ := Kd.R_slice hox; obtain ⟨Y', cy', rfl⟩ := Kd.R_slice hoy; clear hox hoy; have KB := Aside0.mk (below_step KB.out hb); clear hb)
          | ((with_reducible refine gate_dst (N := 12) rfl ?_); refine box_event ?hg (N := 12) ?hd (cs := #[.slice none 0 0, .slice none 0 0]) (t := 44) ?hr ?_; (case hd => rfl); (case hg => rfl); (case hr => first | (go_simp; done) | (go_simp; rfl)); intro g12 hg u12 hbox hb; have KG : w.heap.size ≤ g12 := (by have := KB.out.size; omega); have KB := Aside0.mk (below_step KB.out hb); have z0 := (blk_cell hbox 0).trans (show _ = some (.slice none 0 0) from rfl); have z1 := (blk_cell hbox 1).trans (show _ = some (.slice none 0 0) from rfl); have f0 := blk_frozen hbox 0; have f1 := blk_frozen hbox 1; clear hbox hb hg))
        go_ret
        exact ⟨rfl, below_set (below_set KB.out KG) KG⟩
      · have cn : decide (n < L.length) = false := decide_eq_false hlt
        have cn2 : decide ((n : Int) < (L.length : Int)) = false := decide_eq_false (by omega)
        clear hlt
        go_wp2_with (first
          | ((with_reducible refine gate_dst (N := 103) rfl ?_); refine lit_event ?hg (N := 103) ?hd (cs := #[.int .u8 1]) (t := 5) (n := 1) ?hr ?_; (case hd => rfl); (case hg => rfl); (case hr => first | (go_simp; done) | (go_simp; rfl)); intro g103 hg u103 hbox hb; have E103 := Aside0.mk hbox; have KB := Aside0.mk (below_step KB.out hb); clear hbox hb hg)
          | ((with_reducible refine gate_dst (N := 104) rfl ?_); refine lit_event ?hg (N := 104) ?hd (cs := #[.int .u8 1]) (t := 5) (n := 1) ?hr ?_; (case hd => rfl); (case hg => rfl); (case hr => first | (go_simp; done) | (go_simp; rfl)); intro g104 hg u104 hbox hb; have E103 := Aside0.mk (blk_below E103.out hb); have E104 := Aside0.mk hbox; have KB := Aside0.mk (below_step KB.out hb); clear hbox hb hg)
          | ((with_reducible refine gate_dst (N := 108) rfl ?_); refine lit_event ?hg (N := 108) ?hd (cs := #[.int .u8 1]) (t := 5) (n := 1) ?hr ?_; (case hd => rfl); (case hg => rfl); (case hr => first | (go_simp; done) | (go_simp; rfl)); intro g108 hg u108 hbox hb; have E108 := Aside0.mk hbox; have KB := Aside0.mk (below_step KB.out hb); clear hbox hb hg)
          | ((with_reducible refine gate_dst (N := 109) rfl ?_); refine lit_event ?hg (N := 109) ?hd (cs := #[.int .u8 2]) (t := 5) (n := 1) ?hr ?_; (case hd => rfl); (case hg => rfl); (case hr => first | (go_simp; done) | (go_simp; rfl)); intro g109 hg u109 hbox hb; have E108 := Aside0.mk (blk_below E108.out hb); have E109 := Aside0.mk hbox; have KB := Aside0.mk (below_step KB.out hb); clear hbox hb hg)
          | ((with_reducible refine gate_dst (N := 110) rfl ?_); refine lit_event ?hg (N := 110) ?hd (cs := #[.int .u8 3]) (t := 5) (n := 1) ?hr ?_; (case hd => rfl); (case hg => rfl); (case hr => first | (go_simp; done) | (go_simp; rfl)); intro g110 hg u110 hbox hb; have E108 := Aside0.mk (blk_below E108.out hb); have E109 := Aside0.mk (blk_below E109.out hb); have E110 := Aside0.mk hbox; have KB := Aside0.mk (below_step KB.out hb); clear hbox hb hg)
          | ((with_reducible refine gate_dst (N := 111) rfl ?_); refine lit_event ?hg (N := 111) ?hd (cs := #[.int .u8 4]) (t := 5) (n := 1) ?hr ?_; (case hd => rfl); (case hg => rfl); (case hr => first | (go_simp; done) | (go_simp; rfl)); intro g111 hg u111 hbox hb; have E108 := Aside0.mk (blk_below E108.out hb); have E109 := Aside0.mk (blk_below E109.out hb); have E110 := Aside0.mk (blk_below E110.out hb); have E111 := Aside0.mk hbox; have KB := Aside0.mk (below_step KB.out hb); clear hbox hb hg)
          | ((with_reducible refine gate_dst (N := 112) rfl ?_); refine lit_event ?hg (N := 112) ?hd (cs := #[.int .u8 5]) (t := 5) (n := 1) ?hr ?_; (case hd => rfl); (case hg => rfl); (case hr => first | (go_simp; done) | (go_simp; rfl)); intro g112 hg u112 hbox hb; have E108 := Aside0.mk (blk_below E108.out hb); have E109 := Aside0.mk (blk_below E109.out hb); have E110 := Aside0.mk (blk_below E110.out hb); have E111 := Aside0.mk (blk_below E111.out hb); have E112 := Aside0.mk hbox; have KB := Aside0.mk (below_step KB.out hb); clear hbox hb hg)
          | ((with_reducible refine gate_dst (N := 113) rfl ?_); refine lit_event ?hg (N := 113) ?hd (cs := #[.slice (some ⟨g108, 0, none⟩) 1 1, .slice (some ⟨g109, 0, none⟩) 1 1, .slice (some ⟨g110, 0, none⟩) 1 1, .slice (some ⟨g111, 0, none⟩) 1 1, .slice (some ⟨g112, 0, none⟩) 1 1]) (t := 28) (n := 5) ?hr ?_; (case hd => rfl); (case hg => rfl); (case hr => first | (go_simp; done) | (go_simp; rfl)); intro g113 hg u113 hbox hb; have E108 := Aside0.mk (blk_below E108.out hb); have E109 := Aside0.mk (blk_below E109.out hb); have E110 := Aside0.mk (blk_below E110.out hb); have E111 := Aside0.mk (blk_below E111.out hb); have E112 := Aside0.mk (blk_below E112.out hb); have E113 := Aside0.mk hbox; have KB := Aside0.mk (below_step KB.out hb); clear hbox hb hg)
          | (go_at_call 34; refine (impl_Collides.calls 2 (some ⟨g103, 0, none⟩) 1 [1] (some ⟨g104, 0, none⟩) 1 [1] false _ (C_one E103.out) (Nat.le_refl _) (C_one E104.out) (Nat.le_refl _) HF1.out).mono ?_; rintro e w' ⟨rfl, hb⟩; have KB := Aside0.mk (below_step KB.out hb); clear hb)
          | (go_at_call 38; refine (impl_FindPair.calls k3 2 (some ⟨g113, 0, none⟩) 5 [[1], [2], [3], [4], [5]] x' y' true _ (C_rows5 E113.out E108.out E109.out E110.out E111.out E112.out) (Nat.le_refl _) HF2.out).mono ?_; rintro e w' ⟨vx', vy', rfl, hox, hoy, hb⟩; obtain ⟨X', cx', rfl⟩ := Kd.R_slice hox; obtain ⟨Y', cy', rfl⟩ := Kd.R_slice hoy; clear hox hoy; have KB := Aside0.mk (below_step KB.out hb); clear hb)
          | ((with_reducible refine gate_dst (N := 12) rfl ?_); refine box_event ?hg (N := 12) ?hd (cs := #[.slice none 0 0, .slice none 0 0]) (t := 44) ?hr ?_; (case hd => rfl); (case hg => rfl); (case hr => first | (go_simp; done) | (go_simp; rfl)); intro g12 hg u12 hbox hb; have KG : w.heap.size ≤ g12 := (by have := KB.out.size; omega); have KB := Aside0.mk (below_step KB.out hb); have z0 := (blk_cell hbox 0).trans (show _ = some (.slice none 0 0) from rfl); have z1 := (blk_cell hbox 1).trans (show _ = some (.slice none 0 0) from rfl); have f0 := blk_frozen hbox 0; have f1 := blk_frozen hbox 1; clear hbox hb hg))
        go_ret
        exact ⟨rfl, below_set (below_set KB.out KG) KG⟩
theorem FnPairs_walk (A0 : Option Addr) (c0 : Nat) (l0 : List Int) (w : World) (hr0 : (Kd.int .u8).C w A0 l0.length l0) (hc0 : l0.length ≤ c0) :
    Calls Try.prog 8 #[.slice A0 l0.length c0] w fun e w' => e = .returned (.bool true) ∧ Below w.heap.size w w' := by
  have hb : laws_big.f l0 = some (decide ((l0.length : Int) > 1048576)) := rfl
  by_cases h : (l0.length : Int) > 1048576
  · exact pairs_big A0 c0 l0 w hr0 hc0 (by rw [hb, decide_eq_true h])
  have hbig : laws_big.f l0 = some false := by rw [hb, decide_eq_false h]
  obtain ⟨b, L, ed, hu⟩ := Pure.draw_findpair l0 (by omega)
  obtain ⟨k1, h1⟩ := ed.rounds
  obtain ⟨k2, h2⟩ := (Pure.impl_findpair b L hu).rounds
  obtain ⟨⟨x, y, ok⟩, hx⟩ : ∃ r, r = Pure.findPair b L := ⟨_, rfl⟩
  rw [← hx] at h2
  by_cases hl : L.length ≤ 100
  · have e : Pure.findPair b L = Pure.findP b [] L := if_pos hl
    rw [e] at hx
    obtain ⟨k3, h3⟩ := (Pure.impl_findpair 2 [[1], [2], [3], [4], [5]] (by simp)).rounds
    have h5 := Pure.five_pair
    generalize Pure.findPair 2 [[1], [2], [3], [4], [5]] = r at h3 h5
    obtain ⟨x', y', o'⟩ := r
    have h5 : o' = true := h5
    subst h5
    refine pairs_walk A0 c0 l0 w hr0 hc0 k1 k2 b L x y ok hbig h1 h2 hl k3 x' y' (Pure.coll b) (Pure.impl_coll b) (Pure.coll_sym b) ?_ ?_ ?_ h3
    · intro i k hi hk hn hc
      have := Pure.findP_hit b L i k hi hk hn hc
      rw [this] at hx
      simp only [Prod.mk.injEq] at hx
      exact ⟨hx.2.2, hx.1, hx.2.1⟩
    · intro hn
      have := Pure.findP_no b L (fun i' k' g1 g2 => hn i' k' g1 (.inl g2) g2)
      rw [← hx] at this
      exact this
    · rw [Pure.impl_coll, Pure.coll_self]
  · have e : Pure.findPair b L = ([], [], false) := if_neg hl
    rw [e] at hx
    simp only [Prod.mk.injEq] at hx
    exact pairs_long A0 c0 l0 w hr0 hc0 k1 k2 b L x y ok hbig h1 h2 (by omega) hx.2.2

end Go.Proofs.Ytmcpnganobehaaa.PFnPairs
