/- Small steps for printed functions: rounds, tests, calls; lists of natural numbers as lists of whole numbers. -/
import Derived.Test.YtchjajbkaiefdaaWWords
import Derived.Test.YtchjajbkaiefdaaWMore
import Derived.Laws.BitsLemmas
namespace Go.Proofs.Ytchjajbkaiefdaa.K
open Go.RowKit Go.Proofs.YtchjajbkaiefdaaW.PrintWords Go.Proofs.YtchjajbkaiefdaaW.PrintMore

section
variable {α β : Type} {r : α}
theorem ev_pos {c : Prop} [Decidable c] {a b : Nat → Option α} (h : c) (k : Ev a r) : Ev (fun n => if c then a n else b n) r :=
  Ev.congr (fun _ => if_pos h) k
theorem ev_neg {c : Prop} [Decidable c] {a b : Nat → Option α} (h : ¬ c) (k : Ev b r) : Ev (fun n => if c then a n else b n) r :=
  Ev.congr (fun _ => if_neg h) k
theorem ev_ret {q : α} (h : q = r) : Ev (fun _ => some q) r := by subst h; exact Ev.now _
theorem ev_bind {g : Nat → Option β} {f : Nat → β → Option α} {a : β} (h : Ev g a) (k : Ev (fun n => f n a) r) : Ev (fun n => (g n).bind (f n)) r := Ev.bind h k
theorem ev_some {a : β} {f : Nat → β → Option α} (k : Ev (fun n => f n a) r) : Ev (fun n => (some a).bind (f n)) r :=
  Ev.congr (fun _ => rfl) k
theorem ev_pure {g : Option β} {a : β} {f : Nat → β → Option α} (h : g = some a) (k : Ev (fun n => f n a) r) : Ev (fun n => g.bind (f n)) r := by
  subst h; exact Ev.congr (fun _ => rfl) k
theorem ev_eq {g : Nat → Option α} {q : α} (h : Ev g q) (e : q = r) : Ev g r := e ▸ h
end

theorem wr {n : Int} (h0 : -9223372036854775808 ≤ n) (h1 : n ≤ 9223372036854775807) : wrap64 n = n := by unfold wrap64; omega
theorem wrn {n : Nat} (h1 : n ≤ 9223372036854775807) : wrap64 (n : Int) = n := wr (by omega) (by omega)
theorem wr_succ {n : Nat} (h1 : n < 9223372036854775807) : wrap64 ((n : Int) + 1) = ((n + 1 : Nat) : Int) := wr (by omega) (by omega)

theorem wraps_i64 (n : Int) (h₀ : 0 ≤ n) (h₁ : n < 2 ^ 63) : IntKind.i64.wrap n = n := by rw [IntKind.wrap_i64]; omega
/-- A list of natural numbers, told as whole numbers. -/
def I (m : List Nat) : List Int := m.map fun (n : Nat) => (n : Int)
theorem I_length (m : List Nat) : (I m).length = m.length := by simp [I]
theorem I_nil : I [] = [] := rfl
theorem I_append (a b : List Nat) : I (a ++ b) = I a ++ I b := by simp [I]
theorem I_snoc (a : List Nat) (x : Nat) : I a ++ [(x : Int)] = I (a ++ [x]) := by simp [I]
theorem rd_I (m : List Nat) (i : Nat) : rd (I m) (i : Int) = ((m.getD i 0 : Nat) : Int) := by
  unfold rd I
  rw [Int.toNat_natCast]
  simp only [List.getD_eq_getElem?_getD, List.getElem?_map]
  cases m[i]? <;> rfl
theorem rd_nat (l : List Int) (i : Nat) : rd l (i : Int) = l.getD i 0 := by unfold rd; rw [Int.toNat_natCast]
/-- A byte list that came in. -/
theorem bytes_of {l : List Int} (h : ∀ x ∈ l, (Lit.int .u8 x).wf = true) : ∃ m : List Nat, l = I m ∧ ∀ x ∈ m, x < 256 := by
  refine ⟨l.map Int.toNat, ?_, ?_⟩
  · unfold I
    rw [List.map_map]
    refine (List.map_id l).symm.trans (List.map_congr_left fun x hx => ?_)
    have := h x hx
    simp [Lit.wf, IntKind.min, IntKind.max, IntKind.signed, IntKind.bits] at this
    show x = ((x.toNat : Nat) : Int)
    omega
  · intro x hx
    obtain ⟨y, hy, rfl⟩ := List.mem_map.1 hx
    have := h y hy
    simp [Lit.wf, IntKind.min, IntKind.max, IntKind.signed, IntKind.bits] at this
    omega
theorem getD_lt {m : List Nat} {b : Nat} (h : ∀ x ∈ m, x < b) (hb : 0 < b) (i : Nat) : m.getD i 0 < b := by
  rw [List.getD_eq_getElem?_getD]
  by_cases hi : i < m.length
  · rw [List.getElem?_eq_getElem hi]; exact h _ (List.getElem_mem hi)
  · rw [List.getElem?_eq_none (by omega)]; exact hb
theorem take_getD {α : Type} (m : List α) (d : α) (i : Nat) (h : i < m.length) : m.take i ++ [m.getD i d] = m.take (i + 1) := by
  rw [List.take_succ_eq_append_getElem h, List.getD_eq_getElem?_getD, List.getElem?_eq_getElem h]; rfl
theorem drop_getD {α : Type} (m : List α) (d : α) (i : Nat) (h : i < m.length) : m.drop i = m.getD i d :: m.drop (i + 1) := by
  rw [List.getD_eq_getElem?_getD, List.getElem?_eq_getElem h]; exact List.drop_eq_getElem_cons h
end Go.Proofs.Ytchjajbkaiefdaa.K
