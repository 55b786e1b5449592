/- Arguments of a row opened: slices of slices, structs of whole numbers and slices, as lists. -/
import Derived.Test.YthaoloacbbohlaaWWords
import Derived.Deep.Slices
import Derived.Lib.SmallJoins
import Derived.Laws.IdiomArrays
namespace Go.Proofs.Ythaoloacbbohlaa.Op
open Go.RowKit Go.ChangeShapes Go.WideShapes Go.Proofs.YthaoloacbbohlaaW.PrintWords
section
variable {H : Type} {enc : TypeId × Value → H} {P : Program} {W : World}
/-- Whatever is read at type t is of kind d, and Q holds of it. -/
def Opens {α : Type} (enc : TypeId × Value → H) (P : Program) (W : World) (t : TypeId) (d : Kd α) (Q : α → Prop) : Prop :=
  d.sz = P.cellsOf t ∧ ∀ fuel cs x, DataW.trod enc P W 0 (fun _ => true) true fuel t cs = some x → ∃ v, d.K W v cs ∧ Q v
theorem opens_int {t : TypeId} {k : IntKind} (ht : P.underlying t = some (.int k)) (hc : P.cellsOf t = 1) : Opens enc P W t (Kd.int k) (fun n => (Lit.int k n).wf = true) := by
  refine ⟨hc.symm, fun fuel cs x h => ?_⟩
  obtain ⟨n, rfl, _, hw⟩ := DataW.trod_int ht h
  exact ⟨n, rfl, hw⟩
theorem opened_cells {α : Type} [Inhabited α] {t e : TypeId} {d : Kd α} {Q : α → Prop} {fuel : Nat} {cs : List Value} {x : DataW H × List MemPlace} (ht : P.underlying t = some (.slice e)) (ho : Opens enc P W e d Q)
    (h : DataW.trod enc P W 0 (fun _ => true) true fuel t cs = some x) : ∃ (l : List α) (A : Option Addr) (c : Nat), cs = [.slice A l.length c] ∧ l.length ≤ c ∧ Kd.C d W A l.length l ∧ (l.length ≤ maxLen ∧ ∀ v ∈ l, Q v) := by
  rcases Go.Deep.open_slice ht h with ⟨rfl, _⟩ | ⟨a, len, cap, m, n, D, Pl, rfl, hb, hl, hm, hmm, _, hx⟩
  · exact ⟨[], none, 0, rfl, Nat.le_refl _, ⟨rfl, Nat.zero_le _, fun h => absurd h (Nat.lt_irrefl _)⟩, Nat.zero_le _, fun v hv => by cases hv⟩
  · simp only [if_true] at hmm
    subst hmm
    have each : ∀ i, i < len → ∃ y : α × List Value, W.cells? 0 (a.add (i * P.cellsOf e)) (P.cellsOf e) = some y.2 ∧ d.K W y.1 y.2 ∧ Q y.1 := fun i hi => by
      obtain ⟨cs', h1, h2⟩ := hx i (by omega)
      obtain ⟨v, h3, h4⟩ := ho.2 _ _ _ h2
      exact ⟨(v, cs'), h1, h3, h4⟩
    obtain ⟨y, hy⟩ := Go.Deep.choose_lt each
    have hlen : ((List.range len).map fun i => (y i).1).length = len := by simp
    have hmem : ∀ v ∈ (List.range len).map (fun i => (y i).1), Q v := fun v hv => by
      obtain ⟨i, hi, rfl⟩ := List.mem_map.1 hv
      exact (hy i (List.mem_range.1 hi)).2.2
    refine ⟨(List.range len).map fun i => (y i).1, some a, m, by rw [hlen], by rw [hlen]; exact hl, ?_, by rw [hlen]; exact Nat.le_trans hl hm, hmem⟩
    rw [hlen]
    refine ⟨hlen, by have h : m ≤ maxLen := hm; unfold maxLen at h; omega, fun _ => ⟨a, rfl, fun j p hj => ?_⟩⟩
    have hj2 : j < len := by
      have := (List.getElem?_eq_some_iff.1 hj).1
      rw [hlen] at this
      exact this
    have hp : p = (y j).1 := by
      rw [List.getElem?_map, List.getElem?_range hj2] at hj
      exact (Option.some.inj hj).symm
    subst hp
    obtain ⟨h1, h2, _⟩ := hy j hj2
    have hsz := d.K_len h2
    obtain ⟨_, hl2, hg⟩ := World.cells?_some h1
    refine ⟨(y j).2, hsz, h2, fun i u hu => ?_⟩
    have hi : i < P.cellsOf e := by
      have := (List.getElem?_eq_some_iff.1 hu).1
      omega
    have := hg i hi
    rw [hu, Go.Deep.add_add, ← ho.1] at this
    exact this
theorem opens_slice {α : Type} [Inhabited α] {t e : TypeId} {d : Kd α} {Q : α → Prop} (ht : P.underlying t = some (.slice e)) (hc : P.cellsOf t = 1) (ho : Opens enc P W e d Q) : Opens enc P W t (Kd.slice e d) (fun l => l.length ≤ maxLen ∧ ∀ v ∈ l, Q v) := by
  refine ⟨hc.symm, fun fuel cs x h => ?_⟩
  obtain ⟨l, A, c, rfl, h1, h2, h3⟩ := opened_cells ht ho h
  exact ⟨l, ⟨A, c, rfl, h1, h2⟩, h3⟩
theorem opened {α : Type} [Inhabited α] {t e : TypeId} {d : Kd α} {Q : α → Prop} {a : Option Addr} {len cap : Nat} {dt : DataW H} {ps : List MemPlace} (ht : P.underlying t = some (.slice e)) (ho : Opens enc P W e d Q)
    (h : DataW.Trod enc P W 0 (fun _ => true) true t (.slice a len cap) dt ps) : ∃ l : List α, l.length = len ∧ l.length ≤ cap ∧ Kd.C d W a l.length l ∧ (l.length ≤ maxLen ∧ ∀ v ∈ l, Q v) := by
  obtain ⟨fuel, hf⟩ := h
  obtain ⟨l, A, c, hcs, h1, h2, h3⟩ := opened_cells ht ho hf
  simp [Value.cells] at hcs
  obtain ⟨rfl, rfl, rfl⟩ := hcs
  exact ⟨l, rfl, h1, h2, h3⟩
theorem opened_cell {α : Type} [Inhabited α] {t e : TypeId} {d : Kd α} {Q : α → Prop} {v : Value} {fuel : Nat} {x : DataW H × List MemPlace} (ht : P.underlying t = some (.slice e)) (ho : Opens enc P W e d Q)
    (h : DataW.trod enc P W 0 (fun _ => true) true fuel t [v] = some x) : ∃ (l : List α) (A : Option Addr) (c : Nat), v = .slice A l.length c ∧ l.length ≤ c ∧ Kd.C d W A l.length l ∧ (l.length ≤ maxLen ∧ ∀ v ∈ l, Q v) := by
  obtain ⟨l, A, c, hcs, h1, h2, h3⟩ := opened_cells ht ho h
  exact ⟨l, A, c, by simpa using hcs, h1, h2, h3⟩
theorem opened_int {t : TypeId} {k : IntKind} {v : Value} {fuel : Nat} {x : DataW H × List MemPlace} (ht : P.underlying t = some (.int k))
    (h : DataW.trod enc P W 0 (fun _ => true) true fuel t [v] = some x) : ∃ n : Int, v = .int k n ∧ (Lit.int k n).wf = true := by
  obtain ⟨n, hcs, _, hw⟩ := DataW.trod_int ht h
  exact ⟨n, by simpa using hcs, hw⟩
theorem opened_arr3 {r : Reach} {b0 : Nat} {t e : TypeId} {k : IntKind} {v : Value} {d : DataW H} {p : List MemPlace} (ht : P.underlying t = some (.array 3 e)) (he : P.underlying e = some (.int k)) (hce : P.cellsOf e = 1) (hC : P.cellsOf t = 3)
    (hv : Value.okWide P W r b0 t v) (h : DataW.Trod enc P W 0 (fun _ => true) true t v d p) :
    ∃ a0 a1 a2 : Int, v = .agg #[.int k a0, .int k a1, .int k a2] ∧ (Lit.int k a0).wf = true ∧ (Lit.int k a1).wf = true ∧ (Lit.int k a2).wf = true := by
  simp only [Value.okWide, ht] at hv
  obtain ⟨cs, rfl, hsz, _⟩ := hv
  obtain ⟨c0, c1, c2, rfl⟩ := Go.Joins.array3 (hsz.trans hC)
  obtain ⟨fuel, hf⟩ := h
  obtain ⟨y0, y1, y2, n, _, h0, h1, h2⟩ := trod_array3 ht hce hf
  obtain ⟨n0, rfl, w0⟩ := opened_int he h0
  obtain ⟨n1, rfl, w1⟩ := opened_int he h1
  obtain ⟨n2, rfl, w2⟩ := opened_int he h2
  exact ⟨n0, n1, n2, rfl, w0, w1, w2⟩
end
end Go.Proofs.Ythaoloacbbohlaa.Op
