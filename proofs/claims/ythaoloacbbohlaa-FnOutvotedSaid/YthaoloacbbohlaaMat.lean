/- Rows of bytes of the call's own, told cell by cell: a byte stored into one, a row put in another's place. -/
import Derived.Test.YthaoloacbbohlaaWWords
import Derived.Test.YthaoloacbbohlaaWMore
import Derived.Test.YthaoloacbbohlaaWLast
import Derived.Test.YthaoloacbbohlaaWApart
import Derived.Sort.Row
namespace Go.Proofs.Ythaoloacbbohlaa.Mat
open Go.RowKit Go.Proofs.YthaoloacbbohlaaW.PrintWords Go.Proofs.YthaoloacbbohlaaW.PrintMore Go.Proofs.YthaoloacbbohlaaW.PrintLast
theorem heap_put {w : World} {g i : Nat} {cells : Array Value} {e : TypeId} {u : Value} (h : w.heap[g]? = some (.cells cells e (0, 0))) : (w.setCell ⟨g, i, none⟩ u).heap[g]? = some (.cells (cells.setIfInBounds i u) e (0, 0)) := by
  rw [Go.Sort.setCell_eq]
  simp [Go.Sort.mapBlock, Array.getElem?_modify, h, Go.Sort.onCells]
theorem cell_of {w : World} {g j : Nat} {cells : Array Value} {e : TypeId} (h : w.heap[g]? = some (.cells cells e (0, 0))) {v : Value} (hv : cells[j]? = some v) : w.cell? ⟨g, j, none⟩ = some v := by
  simp only [World.cell?, h]
  simpa using hv
theorem free_of {w : World} {g j : Nat} {cells : Array Value} {e : TypeId} (h : w.heap[g]? = some (.cells cells e (0, 0))) : w.frozen? ⟨g, j, none⟩ = false := by simp [World.frozen?, h]
theorem lt_of {w : World} {g : Nat} {o : Obj} (h : w.heap[g]? = some o) : g < w.heap.size := (Array.getElem?_eq_some_iff.1 h).1
/-- A row of m bytes at the head of block b. -/
structure Rw (w : World) (base b c m : Nat) (r : List Int) : Prop where
  ge : base ≤ b
  cap : m ≤ c
  len : r.length = m
  cells : ∃ cells : Array Value, w.heap[b]? = some (.cells cells 5 (0, 0)) ∧ ∀ t, t < m → cells[t]? = some (.int .u8 (r.getD t 0))
section
variable {w w1 : World} {base b c m : Nat} {r : List Int}
theorem Rw.keep (h : Rw w base b c m r) (hk : w1.heap[b]? = w.heap[b]?) : Rw w1 base b c m r := by
  obtain ⟨h1, h2, h3, cells, h4, h5⟩ := h
  exact ⟨h1, h2, h3, cells, hk.trans h4, h5⟩
theorem Rw.lt (h : Rw w base b c m r) : b < w.heap.size := by
  obtain ⟨_, _, _, cells, h4, _⟩ := h
  exact lt_of h4
theorem Rw.below (h : Rw w base b c m r) (hb : Below w.heap.size w w1) : Rw w1 base b c m r := h.keep (hb.block b h.lt)
theorem Rw.far (h : Rw w base b c m r) {p : Addr} (hp : b ≠ p.block) (u : Value) : Rw (w.setCell p u) base b c m r := h.keep (Below.heap_setCell w p u b hp)
theorem Rw.put (h : Rw w base b c m r) {t : Nat} (ht : t < m) (x : Int) : Rw (w.setCell ⟨b, t, none⟩ (.int .u8 x)) base b c m (r.set t x) := by
  obtain ⟨h1, h2, h3, cells, h4, h5⟩ := h
  refine ⟨h1, h2, by rw [List.length_set]; exact h3, _, heap_put h4, fun s hs => ?_⟩
  have hsz : s < cells.size := (Array.getElem?_eq_some_iff.1 (h5 s hs)).1
  by_cases e : s = t
  · subst e
    rw [Array.getElem?_setIfInBounds_self_of_lt hsz, List.getD_eq_getElem?_getD, List.getElem?_set_self (by omega)]
    rfl
  · rw [Array.getElem?_setIfInBounds_ne (fun k => e k.symm), h5 s hs, List.getD_eq_getElem?_getD, List.getD_eq_getElem?_getD, List.getElem?_set_ne (fun k => e k.symm)]
theorem Rw.cell (h : Rw w base b c m r) {t : Nat} (ht : t < m) : w.cell? ⟨b, t, none⟩ = some (.int .u8 (r.getD t 0)) ∧ w.frozen? ⟨b, t, none⟩ = false := by
  obtain ⟨_, _, _, cells, h4, h5⟩ := h
  exact ⟨cell_of h4 (h5 t ht), free_of h4⟩
theorem Rw.reads (h : Rw w base b c m r) (hm : m ≤ 1000000) : Kd.C (Kd.int .u8) w (some ⟨b, 0, none⟩) r.length r := by
  refine Kd.C_of_reads (d := (0 : Int)) ⟨rfl, by rw [h.len]; omega, fun _ => ⟨_, rfl, fun i hi => ?_⟩⟩
  have := (h.cell (t := i) (by rw [← h.len]; exact hi)).1
  have e : (Addr.mk b 0 none).add i = ⟨b, i, none⟩ := by cases i <;> simp [Addr.add]
  rw [e]
  exact this
theorem Rw.ne_blk (h : Rw w base b c m r) {g t : Nat} {cs : Array Value} (hg : w.heap[g]? = some (.cells cs t (0, 0))) (ht : t ≠ 5) : b ≠ g := by
  obtain ⟨_, _, _, cells, h4, _⟩ := h
  intro e
  subst e
  rw [h4] at hg
  injection hg with hg
  injection hg with _ hg
  exact ht hg.symm
end
theorem Rw.lower {w : World} {base base' b c m : Nat} {r : List Int} (h : Rw w base b c m r) (hb : base' ≤ base) : Rw w base' b c m r := ⟨Nat.le_trans hb h.ge, h.cap, h.len, h.cells⟩
/-- A row that a call made. -/
theorem rw_of_R {w : World} {base : Nat} {ok : Nat → Prop} {v : Value} {r : List Int} (h : (Kd.int .u8).R 5 w base ok v r) (hp : 0 < r.length) : ∃ b c, v = .slice (some ⟨b, 0, none⟩) r.length c ∧ Rw w base b c r.length r := by
  obtain ⟨_, ho⟩ := Kd.own_of_R h
  rcases ho with ⟨_, h1⟩ | ⟨b, c, cur, rfl, hb, hh, h1, h2, h3, h4⟩
  · exfalso
    omega
  · refine ⟨b, c, rfl, hb, h1, rfl, cur, hh, fun t ht => ?_⟩
    rw [Nat.mul_one] at h4
    have h5 := congrArg (fun l => l[t]?) h4
    simp only [List.getElem?_take_of_lt ht, Array.getElem?_toList] at h5
    rw [h5]
    unfold encs
    rw [List.getElem?_map, List.getElem?_eq_getElem ht, List.getD_eq_getElem?_getD, List.getElem?_eq_getElem ht]
    rfl
/-- The rows that are 'on': their slices in block g, each row in a block of its own. -/
structure Mt (w : World) (base g n m : Nat) (bs cs : Nat → Nat) (on : Nat → Prop) (M : List (List Int)) : Prop where
  len : M.length = n
  ge : base ≤ g
  head : ∃ cells : Array Value, w.heap[g]? = some (.cells cells 24 (0, 0)) ∧ n ≤ cells.size ∧ ∀ j, j < n → on j → cells[j]? = some (.slice (some ⟨bs j, 0, none⟩) m (cs j))
  row : ∀ j, j < n → on j → Rw w base (bs j) (cs j) m (M.getD j [])
  inj : ∀ i j, i < n → j < n → on i → on j → bs i = bs j → i = j
section
variable {w w1 : World} {base g n m : Nat} {bs cs : Nat → Nat} {on : Nat → Prop} {M : List (List Int)}
theorem Mt.ne (h : Mt w base g n m bs cs on M) {j : Nat} (hj : j < n) (ho : on j) : bs j ≠ g := by
  obtain ⟨cells, h1, _⟩ := h.head
  exact (h.row j hj ho).ne_blk h1 (by decide)
theorem Mt.lt (h : Mt w base g n m bs cs on M) : g < w.heap.size := by
  obtain ⟨cells, h1, _⟩ := h.head
  exact lt_of h1
theorem Mt.below (h : Mt w base g n m bs cs on M) (hb : Below w.heap.size w w1) : Mt w1 base g n m bs cs on M := by
  have hl := h.lt
  obtain ⟨h1, h2, ⟨cells, h3, h4⟩, h5, h6⟩ := h
  exact ⟨h1, h2, ⟨cells, (hb.block g hl).trans h3, h4⟩, fun j hj ho => (h5 j hj ho).below hb, h6⟩
/-- A store elsewhere. -/
theorem Mt.far (h : Mt w base g n m bs cs on M) {p : Addr} (hg : g ≠ p.block) (hp : ∀ j, j < n → on j → bs j ≠ p.block) (u : Value) : Mt (w.setCell p u) base g n m bs cs on M := by
  obtain ⟨h1, h2, ⟨cells, h3, h4⟩, h5, h6⟩ := h
  exact ⟨h1, h2, ⟨cells, (Below.heap_setCell w p u g hg).trans h3, h4⟩, fun j hj ho => (h5 j hj ho).far (hp j hj ho) u, h6⟩
theorem Mt.off (h : Mt w base g n m bs cs on M) {on' : Nat → Prop} (ho : ∀ j, on' j → on j) : Mt w base g n m bs cs on' M := by
  obtain ⟨h1, h2, ⟨cells, h3, h4, h7⟩, h5, h6⟩ := h
  exact ⟨h1, h2, ⟨cells, h3, h4, fun j hj hn => h7 j hj (ho j hn)⟩, fun j hj hn => h5 j hj (ho j hn), fun i j hi hj a b => h6 i j hi hj (ho i a) (ho j b)⟩
theorem Mt.cell (h : Mt w base g n m bs cs on M) {j : Nat} (hj : j < n) (ho : on j) : w.cell? ⟨g, j, none⟩ = some (.slice (some ⟨bs j, 0, none⟩) m (cs j)) ∧ w.frozen? ⟨g, j, none⟩ = false := by
  obtain ⟨cells, h3, h4, h7⟩ := h.head
  exact ⟨cell_of h3 (h7 j hj ho), free_of h3⟩
/-- Any of the places, on or not, may be stored to. -/
theorem Mt.any_ (h : Mt w base g n m bs cs on M) {j : Nat} (hj : j < n) : ∃ v, w.cell? ⟨g, j, none⟩ = some v ∧ w.frozen? ⟨g, j, none⟩ = false := by
  obtain ⟨cells, h3, h4, h7⟩ := h.head
  exact ⟨_, cell_of h3 (Array.getElem?_eq_getElem (by omega : j < cells.size)), free_of h3⟩
/-- A row's slice stored over a place leaves that slice readable where it stands. -/
theorem Mt.over (h : Mt w base g n m bs cs on M) {p i : Nat} (hp : p < n) (ho : on p) : (w.setCell ⟨g, i, none⟩ (.slice (some ⟨bs p, 0, none⟩) m (cs p))).cell? ⟨g, p, none⟩ = some (.slice (some ⟨bs p, 0, none⟩) m (cs p)) := by
  obtain ⟨cells, h3, h4, h7⟩ := h.head
  refine cell_of (heap_put h3) ?_
  by_cases e : i = p
  · subst e
    rw [Array.getElem?_setIfInBounds_self_of_lt (by omega)]
  · rw [Array.getElem?_setIfInBounds_ne e]
    exact h7 p hp ho
/-- A byte stored into a row. -/
theorem Mt.put (h : Mt w base g n m bs cs on M) {j : Nat} (hj : j < n) (ho : on j) {t : Nat} (ht : t < m) (x : Int) : Mt (w.setCell ⟨bs j, t, none⟩ (.int .u8 x)) base g n m bs cs on (M.set j ((M.getD j []).set t x)) := by
  have hne := h.ne hj ho
  obtain ⟨h1, h2, ⟨cells, h3, h4⟩, h5, h6⟩ := h
  refine ⟨by rw [List.length_set]; exact h1, h2, ⟨cells, (Below.heap_setCell w ⟨bs j, t, none⟩ _ g (fun e => hne e.symm)).trans h3, h4⟩, fun i hi hio => ?_, h6⟩
  by_cases e : i = j
  · subst e
    have e2 : (M.set i ((M.getD i []).set t x)).getD i [] = (M.getD i []).set t x := by
      rw [List.getD_eq_getElem?_getD, List.getElem?_set_self (by omega)]
      rfl
    rw [e2]
    exact (h5 i hi hio).put ht x
  · have e2 : (M.set j ((M.getD j []).set t x)).getD i [] = M.getD i [] := by
      rw [List.getD_eq_getElem?_getD, List.getElem?_set_ne (fun k => e k.symm), ← List.getD_eq_getElem?_getD]
    rw [e2]
    exact (h5 i hi hio).far (p := ⟨bs j, t, none⟩) (fun k => e (h6 i j hi hj hio ho k)) _
/-- A row put in a place: its block is none of the other rows'. -/
theorem Mt.seat (h : Mt w base g n m bs cs on M) {j : Nat} (hj : j < n) {b c : Nat} {r : List Int} (hr : Rw w base b c m r) (hap : ∀ i, i < n → on i → i ≠ j → bs i ≠ b) :
    Mt (w.setCell ⟨g, j, none⟩ (.slice (some ⟨b, 0, none⟩) m c)) base g n m (fun i => if i = j then b else bs i) (fun i => if i = j then c else cs i) (fun i => i = j ∨ on i) (M.set j r) := by
  have hl : ∀ i, i < n → on i → bs i ≠ g := fun i hi ho => h.ne hi ho
  have hbg : b ≠ g := by
    obtain ⟨cells, h3, _⟩ := h.head
    exact hr.ne_blk h3 (by decide)
  obtain ⟨h1, h2, ⟨cells, h3, h4, h7⟩, h5, h6⟩ := h
  refine ⟨by rw [List.length_set]; exact h1, h2, ⟨_, heap_put h3, by simpa using h4, fun i hi hio => ?_⟩, fun i hi hio => ?_, fun i k hi hk hio hko e => ?_⟩
  · by_cases e : i = j
    · subst e
      rw [if_pos rfl, if_pos rfl, Array.getElem?_setIfInBounds_self_of_lt (by omega)]
    · rw [if_neg e, if_neg e, Array.getElem?_setIfInBounds_ne (fun k => e k.symm)]
      exact h7 i hi (hio.resolve_left e)
  · by_cases e : i = j
    · subst e
      have e2 : (M.set i r).getD i [] = r := by
        rw [List.getD_eq_getElem?_getD, List.getElem?_set_self (by omega)]
        rfl
      rw [if_pos rfl, if_pos rfl, e2]
      exact hr.far (p := ⟨g, i, none⟩) hbg _
    · have e2 : (M.set j r).getD i [] = M.getD i [] := by
        rw [List.getD_eq_getElem?_getD, List.getElem?_set_ne (fun k => e k.symm), ← List.getD_eq_getElem?_getD]
      rw [if_neg e, if_neg e, e2]
      exact (h5 i hi (hio.resolve_left e)).far (p := ⟨g, j, none⟩) (hl i hi (hio.resolve_left e)) _
  · by_cases e1 : i = j <;> by_cases e2 : k = j
    · omega
    · simp only [if_pos e1, if_neg e2] at e
      exact absurd e.symm (hap k hk (hko.resolve_left e2) e2)
    · simp only [if_neg e1, if_pos e2] at e
      exact absurd e (hap i hi (hio.resolve_left e1) e1)
    · simp only [if_neg e1, if_neg e2] at e
      exact h6 i k hi hk (hio.resolve_left e1) (hko.resolve_left e2) e
end
theorem Rw.same {w w1 : World} {base b c m : Nat} {r : List Int} (h : Rw w base b c m r) (hw : w1.heap = w.heap) : Rw w1 base b c m r := h.keep (by rw [hw])
theorem Mt.same {w w1 : World} {base g n m : Nat} {bs cs : Nat → Nat} {on : Nat → Prop} {M : List (List Int)} (h : Mt w base g n m bs cs on M) (hw : w1.heap = w.heap) : Mt w1 base g n m bs cs on M := by
  obtain ⟨h1, h2, ⟨cells, h3, h4⟩, h5, h6⟩ := h
  exact ⟨h1, h2, ⟨cells, by rw [hw]; exact h3, h4⟩, fun j hj ho => (h5 j hj ho).same hw, h6⟩
/-- A row that is none of them has grown. -/
theorem Mt.grown {w w1 : World} {base g n m : Nat} {bs cs : Nat → Nat} {on : Nat → Prop} {M : List (List Int)} (h : Mt w base g n m bs cs on M) {row : Option Nat} (hg : w.grownBy w1 row) (hne : some g ≠ row) (hb : ∀ j, j < n → on j → some (bs j) ≠ row) : Mt w1 base g n m bs cs on M := by
  have hl := h.lt
  obtain ⟨h1, h2, ⟨cells, h3, h4⟩, h5, h6⟩ := h
  exact ⟨h1, h2, ⟨cells, (hg.block g hl hne).trans h3, h4⟩, fun j hj ho => (h5 j hj ho).keep (hg.block _ (h5 j hj ho).lt (hb j hj ho)), h6⟩
/-- Rows that a call made, no two in one block. -/
theorem mt_of_S {w : World} {base : Nat} {ok : Nat → Prop} {v : Value} {M : List (List Int)} {m : Nat} (h : Kd.S (Kd.slice 5 (Kd.int .u8)) 24 w base ok v M) (hp : 0 < M.length) (hm : 0 < m) (hM : ∀ x ∈ M, x.length = m) :
    ∃ g cap bs cs, v = .slice (some ⟨g, 0, none⟩) M.length cap ∧ M.length ≤ cap ∧ Mt w base g M.length m bs cs (fun _ => True) M := by
  obtain ⟨f, h0, inner, ho, hr⟩ := h
  rw [List.length_zipIdx] at ho
  rcases ho with ⟨hil, ho⟩
  have hsz : (Kd.tag f (Kd.slice 5 (Kd.int .u8))).sz = 1 := rfl
  have hlen : inner.length = M.length := by have := hr.1; rw [List.length_zipIdx, hsz, Nat.mul_one] at this; exact this
  rcases ho with ⟨_, ho⟩ | ⟨g, cap, cur, rfl, hb, hh, h1, h2, h3, h4⟩
  · exfalso
    rw [ho] at hlen
    simp at hlen
    omega
  · rw [hsz, Nat.mul_one] at h3 h4
    have each : ∀ j, j < M.length → ∃ b c, cur[j]? = some (.slice (some ⟨b, 0, none⟩) m c) ∧ Rw w base b c m (M.getD j []) ∧ f b = j := by
      intro j hj
      have hx := List.getElem?_eq_getElem hj
      have hz := hr.2 j _ (Kd.zip_at hx)
      obtain ⟨vv, hv, hR⟩ := hz
      have hmj : (M[j]).length = m := hM _ (List.getElem_mem hj)
      obtain ⟨b, c, hvb, hrw⟩ := rw_of_R hR (by show 0 < (M[j]).length; omega)
      have hfb := hR.1 b (by rw [hvb]; simp [Value.ownBlock])
      refine ⟨b, c, ?_, ?_, hfb.2⟩
      · have h5 : inner[j]? = some vv := by
          have hdl : j < inner.length := by omega
          have := congrArg List.head? hv
          rw [hsz, Nat.mul_one, List.drop_eq_getElem_cons hdl, List.take_succ_cons] at this
          rw [List.getElem?_eq_getElem hdl]
          exact this
        rw [← h4, List.getElem?_take_of_lt (by omega), Array.getElem?_toList] at h5
        rw [h5, hvb]
        show _ = some (Value.slice (some ⟨b, 0, none⟩) m c)
        rw [← hmj]
      · have e2 : M.getD j [] = M[j] := by rw [List.getD_eq_getElem?_getD, hx]; rfl
        rw [e2]
        have h6 : Rw w base b c (M[j]).length (M[j]) := hrw
        rw [hmj] at h6
        exact h6
    obtain ⟨bs, hbs⟩ : ∃ bs : Nat → Nat, ∀ j, j < M.length → ∃ c, cur[j]? = some (.slice (some ⟨bs j, 0, none⟩) m c) ∧ Rw w base (bs j) c m (M.getD j []) ∧ f (bs j) = j :=
      ⟨fun j => if hj : j < M.length then (each j hj).choose else 0, fun j hj => by simp only [dif_pos hj]; exact (each j hj).choose_spec⟩
    obtain ⟨cs, hcs⟩ : ∃ cs : Nat → Nat, ∀ j, j < M.length → cur[j]? = some (.slice (some ⟨bs j, 0, none⟩) m (cs j)) ∧ Rw w base (bs j) (cs j) m (M.getD j []) ∧ f (bs j) = j :=
      ⟨fun j => if hj : j < M.length then (hbs j hj).choose else 0, fun j hj => by simp only [dif_pos hj]; exact (hbs j hj).choose_spec⟩
    refine ⟨g, cap, bs, cs, rfl, h1, rfl, hb, ⟨cur, hh, by omega, fun j hj _ => (hcs j hj).1⟩, fun j hj _ => (hcs j hj).2.1, fun i j hi hj _ _ e => ?_⟩
    have a := (hcs i hi).2.2
    have b := (hcs j hj).2.2
    rw [e] at a
    omega
/-! What the program does with rows, told over lists: mul, inv and axpy are the field's functions. -/
section
variable (mul : Int → Int → Option Int) (inv : Int → Option (Int × Bool)) (axpy : List Int → Int → List Int → Option (List Int × Bool))
/-- Each of a row times c. -/
def scaleF (c : Int) : List Int → Option (List Int)
  | [] => some []
  | x :: l => (mul x c).bind fun y => (scaleF c l).bind fun r => some (y :: r)
/-- Each row but the i-th, less its i-th times the row. -/
def elimF (i : Nat) (row : List Int) : Nat → List (List Int) → Option (List (List Int))
  | _, [] => some []
  | j, x :: l => (if j = i then some x else (axpy x (x.getD i 0) row).bind fun r => if r.1.length = row.length then some r.1 else none).bind fun y => (elimF i row (j + 1) l).bind fun r => some (y :: r)
/-- The first row from the p-th on whose i-th is not 0. -/
def pivF (i : Nat) : List (List Int) → Nat → Option Nat
  | [], _ => none
  | x :: l, p => if x.getD i 0 = 0 then pivF i l (p + 1) else some p
def solveF (n : Nat) : Nat → List (List Int) → Option (Option (List (List Int)))
  | 0, M => some (some M)
  | d + 1, M => match pivF (n - (d + 1)) (M.drop (n - (d + 1))) (n - (d + 1)) with
    | none => some none
    | some p => (inv ((M.getD p []).getD (n - (d + 1)) 0)).bind fun c => (scaleF mul c.1 (M.getD p [])).bind fun row =>
      (elimF axpy (n - (d + 1)) row 0 ((M.set p (M.getD (n - (d + 1)) [])).set (n - (d + 1)) row)).bind fun M2 => solveF n d M2
def lastF (n : Nat) : Option (List (List Int)) → List Int × Bool
  | none => ([], false)
  | some M => (M.map fun r => r.getD n 0, true)
def tailF (n : Int) (M : List (List Int)) : Option (List Int × Bool) :=
  if (1 ≤ n ∧ n ≤ 12) ∧ (M.length : Int) = n ∧ ∀ r ∈ M, (r.length : Int) = n + 1 then (solveF mul inv axpy n.toNat n.toNat M).map (lastF n.toNat) else none
variable {mul inv axpy}
theorem scaleF_length {c : Int} : ∀ {l r : List Int}, scaleF mul c l = some r → r.length = l.length
  | [], r, h => by cases h; rfl
  | x :: l, r, h => by
    obtain ⟨y, _, h⟩ := Option.bind_eq_some_iff.1 h
    obtain ⟨s, h2, h⟩ := Option.bind_eq_some_iff.1 h
    cases h
    rw [List.length_cons, List.length_cons, scaleF_length h2]
end
theorem drop_cons {α : Type} {l : List α} {d : α} {j : Nat} (h : j < l.length) : l.drop j = l.getD j d :: l.drop (j + 1) := by
  rw [List.getD_eq_getElem?_getD, List.getElem?_eq_getElem h]
  exact List.drop_eq_getElem_cons h
theorem set_take {α : Type} {l : List α} {x : α} {j : Nat} (h : j < l.length) : (l.set j x).take (j + 1) = l.take j ++ [x] := by
  rw [List.take_succ_eq_append_getElem (by rw [List.length_set]; exact h), List.getElem_set_self, List.take_set, List.set_eq_of_length_le (by rw [List.length_take]; omega)]
theorem set_drop {α : Type} {l : List α} {x : α} {j : Nat} : (l.set j x).drop (j + 1) = l.drop (j + 1) := List.drop_set_of_lt (Nat.lt_succ_self j)
theorem take_next {α : Type} {l : List α} {d : α} {j : Nat} (h : j < l.length) : l.take (j + 1) = l.take j ++ [l.getD j d] := by
  rw [List.take_succ_eq_append_getElem h, List.getD_eq_getElem?_getD, List.getElem?_eq_getElem h]
  rfl
theorem pivF_some {i : Nat} : ∀ {l : List (List Int)} {q p : Nat}, pivF i l q = some p → q ≤ p ∧ p < q + l.length
  | [], _, _, h => by cases h
  | x :: l, q, p, h => by
    unfold pivF at h
    split at h
    · have := pivF_some h
      rw [List.length_cons]
      omega
    · cases h
      rw [List.length_cons]
      omega
/-- A cell of the call's own for one number. -/
def Bx (w : World) (g : Nat) (v : Value) : Prop := w.heap[g]? = some (.cells #[v] 3 (0, 0))
theorem Bx.cell {w : World} {g : Nat} {v : Value} (h : Bx w g v) : w.cell? ⟨g, 0, none⟩ = some v := cell_of h rfl
theorem Bx.free {w : World} {g : Nat} {v : Value} (h : Bx w g v) : w.frozen? ⟨g, 0, none⟩ = false := free_of h
theorem Bx.lt {w : World} {g : Nat} {v : Value} (h : Bx w g v) : g < w.heap.size := lt_of h
theorem Bx.below {w w1 : World} {g : Nat} {v : Value} (h : Bx w g v) (hb : Below w.heap.size w w1) : Bx w1 g v := (hb.block g h.lt).trans h
theorem Bx.far {w : World} {g : Nat} {v : Value} (h : Bx w g v) {p : Addr} (hp : g ≠ p.block) (u : Value) : Bx (w.setCell p u) g v := (Below.heap_setCell w p u g hp).trans h
theorem Bx.same {w w1 : World} {g : Nat} {v : Value} (h : Bx w g v) (hw : w1.heap = w.heap) : Bx w1 g v := by unfold Bx; rw [hw]; exact h
theorem Bx.ne_rw {w : World} {g base b c m : Nat} {v : Value} {r : List Int} (h : Bx w g v) (hr : Rw w base b c m r) : g ≠ b := fun e => hr.ne_blk h (by decide) e.symm
theorem Bx.ne_mt {w : World} {gb base g n m : Nat} {bs cs : Nat → Nat} {on : Nat → Prop} {M : List (List Int)} {v : Value} (h : Bx w gb v) (hM : Mt w base g n m bs cs on M) : gb ≠ g := by
  obtain ⟨cells, h3, _⟩ := hM.head
  intro e
  subst e
  unfold Bx at h
  rw [h] at h3
  injection h3 with h3
  injection h3 with _ h3
  exact absurd h3 (by decide)
theorem Bx.new (w : World) (v : Value) : Bx (w.alloc (.cells #[v] 3)) w.heap.size v := by
  show (w.heap.push (.cells #[v] 3))[w.heap.size]? = _
  simp
theorem swap_set {M : List (List Int)} {i p : Nat} {X Y row : List Int} : ((M.set i X).set p Y).set i row = (M.set p Y).set i row := by
  by_cases e : p = i
  · subst e
    rw [List.set_set, List.set_set, List.set_set]
  · rw [List.set_comm _ _ (fun h => e h.symm), List.set_set]
theorem set_get {M : List (List Int)} {i : Nat} {X : List Int} (h : i < M.length) : (M.set i X).getD i [] = X := by
  rw [List.getD_eq_getElem?_getD, List.getElem?_set_self h]
  rfl
theorem set_self {M : List (List Int)} {i : Nat} (h : i < M.length) : M.set i (M.getD i []) = M := by
  rw [List.getD_eq_getElem?_getD, List.getElem?_eq_getElem h]
  exact List.set_getElem_self h
theorem swap_get {M : List (List Int)} {i p : Nat} (hi : i < M.length) : ((M.set i (M.getD p [])).set p (M.getD i [])).getD i [] = M.getD p [] := by
  by_cases e : p = i
  · subst e
    exact set_get (by rw [List.length_set]; exact hi)
  · rw [List.getD_eq_getElem?_getD, List.getElem?_set_ne e, ← List.getD_eq_getElem?_getD]
    exact set_get hi
end Go.Proofs.Ythaoloacbbohlaa.Mat
