/- What a law's function holds in memory: values made one after the other, each in its own stretch of blocks; every mover proved once. -/
import Derived.Test.YthaoloacbbohlaaWWords
import Derived.Test.YthaoloacbbohlaaWApart
import Derived.Test.YthaoloacbbohlaaWKept
import Derived.Test.YthaoloacbbohlaaWMore
namespace Go.Proofs.Ythaoloacbbohlaa.St
open Go.RowKit Go.Proofs.YthaoloacbbohlaaW.PrintWords Go.Proofs.YthaoloacbbohlaaW.PrintMore
set_option linter.unusedVariables false
/-- A value: its stretch of blocks, and what is told of it, which nothing outside its stretch can change. -/
structure Slot where
  lo : Nat
  hi : Nat
  P : World → Prop
  st : ∀ w w' : World, P w → (∀ k, lo ≤ k → k < hi → w'.heap[k]? = w.heap[k]?) → P w'
theorem r_st {α : Type} (d : Kd α) (e b lo hi : Nat) (v : Value) (l : List α) (ok : Nat → Prop) (w w' : World) (h : d.R e w b (fun k => (lo ≤ k ∧ k < hi) ∧ ok k) v l) (hk : ∀ k, lo ≤ k → k < hi → w'.heap[k]? = w.heap[k]?) : d.R e w' b (fun k => (lo ≤ k ∧ k < hi) ∧ ok k) v l :=
  Kd.R_step h (fun k ho _ => hk k ho.1.1 ho.1.2)
theorem s_st {α : Type} (d : Kd α) (e b lo hi : Nat) (v : Value) (l : List α) (ok : Nat → Prop) (w w' : World) (h : Kd.S d e w b (fun k => (lo ≤ k ∧ k < hi) ∧ ok k) v l) (hk : ∀ k, lo ≤ k → k < hi → w'.heap[k]? = w.heap[k]?) : Kd.S d e w' b (fun k => (lo ≤ k ∧ k < hi) ∧ ok k) v l :=
  Kd.S_step h (fun k ho _ => hk k ho.1.1 ho.1.2)
/-- A row of one's own; b: where the law began. -/
def row {α : Type} (d : Kd α) (e b lo hi : Nat) (v : Value) (l : List α) : Slot := ⟨lo, hi, fun w => d.R e w b (fun k => (lo ≤ k ∧ k < hi) ∧ True) v l, fun w w' => r_st d e b lo hi v l _ w w'⟩
/-- A row of rows, which lie apart. -/
def rows {α : Type} (d : Kd α) (e b lo hi : Nat) (v : Value) (l : List α) : Slot := ⟨lo, hi, fun w => Kd.S d e w b (fun k => (lo ≤ k ∧ k < hi) ∧ True) v l, fun w w' => s_st d e b lo hi v l _ w w'⟩
/-- Two rows, which lie apart. -/
def two {α β : Type} (d : Kd α) (e : Nat) (d' : Kd β) (e' : Nat) (b lo hi : Nat) (v : Value) (l : List α) (v' : Value) (l' : List β) : Slot :=
  ⟨lo, hi, fun w => d.R e w b (fun k => (lo ≤ k ∧ k < hi) ∧ some k ≠ v'.ownBlock) v l ∧ d'.R e' w b (fun k => (lo ≤ k ∧ k < hi) ∧ some k ≠ v.ownBlock) v' l',
    fun w w' h hk => ⟨r_st d e b lo hi v l _ w w' h.1 hk, r_st d' e' b lo hi v' l' _ w w' h.2 hk⟩⟩
/-- A row that is only read from here on. -/
def view {α : Type} (d : Kd α) (lo hi : Nat) (A : Option Addr) (n c : Nat) (l : List α) : Slot :=
  ⟨lo, hi, fun w => n = l.length ∧ n ≤ c ∧ ∀ W' : World, (∀ k, lo ≤ k → k < hi → W'.heap[k]? = w.heap[k]?) → d.C W' A l.length l,
    fun w w' h hk => ⟨h.1, h.2.1, fun W' hW => h.2.2 W' (fun k h1 h2 => (hW k h1 h2).trans (hk k h1 h2))⟩⟩
/-- Two that lie in one stretch and are only read. -/
def both (s t : Slot) (hl : t.lo = s.lo) (hh : t.hi = s.hi) : Slot := ⟨s.lo, s.hi, fun w => s.P w ∧ t.P w, fun w w' h hk => ⟨s.st w w' h.1 hk, t.st w w' h.2 (fun k h1 h2 => hk k (by omega) (by omega))⟩⟩
/-- A block of one's own. -/
def blk (g : Nat) (cs : Array Value) (t : Nat) : Slot := ⟨g, g + 1, fun w => w.heap[g]? = some (.cells cs t (0, 0)), fun w w' h hk => (hk g (Nat.le_refl _) (Nat.lt_succ_self _)).trans h⟩
/-- W: where the law began; w: now; the newest first. -/
structure St (W w : World) (L : List Slot) : Prop where
  bel : Below W.heap.size W w
  at_ : ∀ s ∈ L, s.P w ∧ W.heap.size ≤ s.lo ∧ s.hi ≤ w.heap.size
  sep : L.Pairwise (fun a b => b.hi ≤ a.lo ∨ a.hi ≤ b.lo)
section
variable {W w w' : World} {L : List Slot} {s s' : Slot}
theorem St.nil (W : World) : St W W [] := ⟨Below.refl _ _, (fun s hs => by cases hs), .nil⟩
theorem St.below (h : St W w L) (hb : Below w.heap.size w w') : St W w' L :=
  ⟨h.bel.trans (hb.mono h.bel.size), fun s hs => ⟨s.st w w' (h.at_ s hs).1 (fun k _ hk => hb.block k (Nat.lt_of_lt_of_le hk (h.at_ s hs).2.2)), (h.at_ s hs).2.1, Nat.le_trans (h.at_ s hs).2.2 hb.size⟩, h.sep⟩
theorem St.drewN (h : St W w L) (n : Nat) : St W (w.drewN n) L := h.below (pw_below_drewN (Below.refl _ _) n)
theorem St.drew (h : St W w L) : St W w.drew L := h.below (below_drew (Below.refl _ _))
theorem St.alloc (h : St W w L) (o : Obj) : St W (w.alloc o) L := h.below (below_alloc (Below.refl _ _) o)
theorem St.drawn (h : St W w L) (hd : Drawn0 w w') : St W w' L := h.below hd.below
theorem St.push (h : St W w L) (hb : Below w.heap.size w w') (s : Slot) (hs : s.P w') (h1 : w.heap.size ≤ s.lo) (h2 : s.hi ≤ w'.heap.size) : St W w' (s :: L) := by
  have h' := h.below hb
  refine ⟨h'.bel, fun t ht => ?_, ?_⟩
  · rcases List.mem_cons.1 ht with rfl | ht
    · exact ⟨hs, Nat.le_trans h.bel.size h1, h2⟩
    · exact h'.at_ t ht
  · exact List.pairwise_cons.2 ⟨fun t ht => .inl (Nat.le_trans (h.at_ t ht).2.2 h1), h.sep⟩
theorem St.pushRow {α : Type} {d : Kd α} {e : Nat} {v : Value} {l : List α} {ok : Nat → Prop} (h : St W w L) (hb : Below w.heap.size w w') (ho : d.R e w' w.heap.size ok v l) : St W w' (row d e W.heap.size w.heap.size w'.heap.size v l :: L) :=
  h.push hb _ (Kd.R_lower (Kd.R_mono (Kd.R_bound ho) (fun k hk => ⟨⟨hk.2.1, hk.2.2.1⟩, trivial⟩)) h.bel.size) (Nat.le_refl _) (Nat.le_refl _)
theorem St.pushRows {α : Type} {d : Kd α} {e : Nat} {v : Value} {l : List α} {ok : Nat → Prop} (h : St W w L) (hb : Below w.heap.size w w') (ho : Kd.S d e w' w.heap.size ok v l) : St W w' (rows d e W.heap.size w.heap.size w'.heap.size v l :: L) :=
  h.push hb _ (Kd.S_lower (Kd.S_mono (Kd.S_bound ho) (fun k hk => ⟨⟨hk.2.1, hk.2.2.1⟩, trivial⟩)) h.bel.size) (Nat.le_refl _) (Nat.le_refl _)
theorem St.pushTwo {α β : Type} {d : Kd α} {e : Nat} {v : Value} {l : List α} {d' : Kd β} {e' : Nat} {v' : Value} {l' : List β} (h : St W w L) (hb : Below w.heap.size w w')
    (ho : d.R e w' w.heap.size (fun k => some k ≠ v'.ownBlock) v l) (ho' : d'.R e' w' w.heap.size (fun k => some k ≠ v.ownBlock) v' l') : St W w' (two d e d' e' W.heap.size w.heap.size w'.heap.size v l v' l' :: L) :=
  h.push hb _ ⟨Kd.R_lower (Kd.R_mono (Kd.R_bound ho) (fun k hk => ⟨⟨hk.2.1, hk.2.2.1⟩, hk.1⟩)) h.bel.size, Kd.R_lower (Kd.R_mono (Kd.R_bound ho') (fun k hk => ⟨⟨hk.2.1, hk.2.2.1⟩, hk.1⟩)) h.bel.size⟩ (Nat.le_refl _) (Nat.le_refl _)
/-- Two rows of two kinds of element. -/
theorem St.pushApart {α β : Type} {d : Kd α} {e : Nat} {v : Value} {l : List α} {d' : Kd β} {e' : Nat} {v' : Value} {l' : List β} {ok ok' : Nat → Prop} (h : St W w L) (hb : Below w.heap.size w w') (ht : ∀ q, q ∈ e :: d.E → q ≠ e') (ht' : ∀ q, q ∈ e' :: d'.E → q ≠ e)
    (ho : d.R e w' w.heap.size ok v l) (ho' : d'.R e' w' w.heap.size ok' v' l') : St W w' (two d e d' e' W.heap.size w.heap.size w'.heap.size v l v' l' :: L) :=
  h.pushTwo hb (Kd.R_mono (Kd.R_apartR ho ho' ht) (fun _ hk => hk.2)) (Kd.R_mono (Kd.R_apartR ho' ho ht') (fun _ hk => hk.2))
theorem St.get (h : St W w L) {i : Nat} (hi : L[i]? = some s) : s.P w := (h.at_ s (List.mem_of_getElem? hi)).1
theorem St.lo (h : St W w L) {i : Nat} (hi : L[i]? = some s) : W.heap.size ≤ s.lo := (h.at_ s (List.mem_of_getElem? hi)).2.1
theorem sep_at {L : List Slot} (h : L.Pairwise (fun a b => b.hi ≤ a.lo ∨ a.hi ≤ b.lo)) {i : Nat} {s : Slot} (hi : L[i]? = some s) : ∀ j t, j ≠ i → L[j]? = some t → t.hi ≤ s.lo ∨ s.hi ≤ t.lo := by
  intro j t hj ht
  obtain ⟨h1, e1⟩ := List.getElem?_eq_some_iff.1 hi
  obtain ⟨h2, e2⟩ := List.getElem?_eq_some_iff.1 ht
  have hp := List.pairwise_iff_getElem.1 h
  rcases Nat.lt_or_gt_of_ne hj with hlt | hlt
  · have := hp j i h2 h1 hlt
    rw [e1, e2] at this
    exact this.symm
  · have := hp i j h1 h2 hlt
    rw [e1, e2] at this
    exact this
theorem perm_front {α : Type} : ∀ (L : List α) (i : Nat) (h : i < L.length), (L[i] :: L.eraseIdx i).Perm L
  | [], i, h => absurd h (Nat.not_lt_zero i)
  | x :: L, 0, _ => .refl _
  | x :: L, i + 1, h => (List.Perm.swap x _ _).trans ((perm_front L i (Nat.lt_of_succ_lt_succ h)).cons x)
/-- One of the values is told first. -/
theorem St.front (h : St W w L) {i : Nat} {s : Slot} (hi : L[i]? = some s) : St W w (s :: L.eraseIdx i) := by
  obtain ⟨h1, e1⟩ := List.getElem?_eq_some_iff.1 hi
  have hp : (s :: L.eraseIdx i).Perm L := by
    rw [← e1]
    exact perm_front L i h1
  exact ⟨h.bel, fun t ht => h.at_ t (hp.mem_iff.1 ht), (hp.pairwise_iff (fun hab => hab.symm)).2 h.sep⟩
/-- One value is written, within its stretch. -/
theorem St.write (h : St W w L) {i : Nat} (hi : L[i]? = some s) (hk : Kept w w' (fun k => s.lo ≤ k ∧ k < s.hi)) (hb : Below W.heap.size W w') (s' : Slot) (hs : s'.P w') (h1 : s'.lo = s.lo) (h2 : s'.hi = s.hi) : St W w' (L.set i s') := by
  have hil := (List.getElem?_eq_some_iff.1 hi).1
  have hself := h.at_ s (List.mem_of_getElem? hi)
  refine ⟨hb, fun t ht => ?_, ?_⟩
  · obtain ⟨j, hj⟩ := List.getElem?_of_mem ht
    rw [List.getElem?_set] at hj
    split at hj
    · simp only [Option.some.injEq] at hj
      subst hj
      exact ⟨hs, by rw [h1]; exact hself.2.1, by rw [h2]; exact Nat.le_trans hself.2.2 hk.1⟩
    · rename_i hne
      have ht := h.at_ t (List.mem_of_getElem? hj)
      have hsep := sep_at h.sep hi j t (fun e => hne e.symm) hj
      exact ⟨t.st w w' ht.1 (fun k h3 h4 => hk.2 k (Nat.lt_of_lt_of_le h4 ht.2.2) (fun h5 => by omega)), ht.2.1, Nat.le_trans ht.2.2 hk.1⟩
  · refine List.pairwise_iff_getElem.2 fun a b ha hb hab => ?_
    have hp := List.pairwise_iff_getElem.1 h.sep
    rw [List.length_set] at ha hb
    have h0 := hp a b ha hb hab
    obtain ⟨_, ei⟩ := List.getElem?_eq_some_iff.1 hi
    rw [List.getElem_set, List.getElem_set]
    by_cases e1 : i = b
    · subst e1
      rw [if_pos rfl]
      by_cases e2 : i = a
      · omega
      · rw [if_neg e2, h2, h1, ← ei]
        exact h0
    · rw [if_neg e1]
      by_cases e2 : i = a
      · subst e2
        rw [if_pos rfl, h1, h2, ← ei]
        exact h0
      · rw [if_neg e2]
        exact h0
theorem view_R {α : Type} {d : Kd α} {e : Nat} {A : Option Addr} {n c : Nat} {l : List α} {ok : Nat → Prop} (ho : d.R e w' w.heap.size ok (.slice A n c) l) : (view d w.heap.size w'.heap.size A n c l).P w' :=
  ⟨(Kd.R_reads' ho).1, (Kd.R_reads' ho).2.1, fun W' hW => (Kd.R_reads' (Kd.R_move (Kd.R_bound ho) (fun k hk => hW k hk.2.1 hk.2.2.1))).2.2⟩
theorem view_S {α : Type} {d : Kd α} {e : Nat} {A : Option Addr} {n c : Nat} {l : List α} {ok : Nat → Prop} (ho : Kd.S d e w' w.heap.size ok (.slice A n c) l) : (view d w.heap.size w'.heap.size A n c l).P w' := view_R (Kd.S_R ho)
theorem view_V {α : Type} {d : Kd α} {e b : Nat} {A : Option Addr} {n c : Nat} {l : List α} {ok : Nat → Prop} (ho : Kd.V d e w' b ok (.slice A n c) l) (hok : ∀ k, ok k → w.heap.size ≤ k) : (view d w.heap.size w'.heap.size A n c l).P w' := by
  have h := Kd.V_at (Kd.V_bound ho)
  exact ⟨h.1, h.2.1, fun W' hW => by
    exact h.2.2 W' (fun k hk _ => hW k (hok k hk.1) hk.2)⟩
theorem view_N {α : Type} {d : Kd α} {e b : Nat} {A : Option Addr} {n c : Nat} {l : List α} (ho : ∀ W' : World, (∀ k, w.heap.size ≤ k → k < w'.heap.size → W'.heap[k]? = w'.heap[k]?) → d.C W' A l.length l) (hn : n = l.length) (hc : n ≤ c) : (view d w.heap.size w'.heap.size A n c l).P w' := ⟨hn, hc, ho⟩
theorem seenNow {α : Type} {d : Kd α} {lo hi : Nat} {A : Option Addr} {n c : Nat} {l : List α} (h : (view d lo hi A n c l).P w) : n = l.length ∧ n ≤ c ∧ d.C w A l.length l := ⟨h.1, h.2.1, h.2.2 w (fun _ _ _ => rfl)⟩
theorem St.pushSeen (h : St W w L) (hb : Below w.heap.size w w') (s : Slot) (hs : s.P w') (h1 : s.lo = w.heap.size) (h2 : s.hi = w'.heap.size) : St W w' (s :: L) := h.push hb s hs (Nat.le_of_eq h1.symm) (Nat.le_of_eq h2)
theorem St.box (h : St W w L) {g t : Nat} {cs : Array Value} (hg : g = w.heap.size) (hx : w'.heap[g]? = some (.cells cs t (0, 0))) (hb : Below w.heap.size w w') : St W w' (blk g cs t :: L) :=
  h.push hb (blk g cs t) hx (Nat.le_of_eq hg.symm) (blk_lt hx)
theorem kept_put {g lo hi : Nat} (hlo : lo ≤ g) (hhi : g < hi) (i : Nat) (u : Value) : Kept w (w.setCell ⟨g, i, none⟩ u) (fun k => lo ≤ k ∧ k < hi) :=
  (Kept.refl w _).setCell (p := ⟨g, i, none⟩) (.inl ⟨hlo, hhi⟩) u
theorem St.put {g t i : Nat} {cs : Array Value} (h : St W w (blk g cs t :: L)) (u : Value) : St W (w.setCell ⟨g, i, none⟩ u) (blk g (cs.setIfInBounds i u) t :: L) := by
  have hi : (blk g cs t :: L)[0]? = some (blk g cs t) := rfl
  have h0 : (blk g cs t).P w := h.get hi
  exact h.write hi (kept_put (Nat.le_refl _) (Nat.lt_succ_self _) i u) (h.bel.setCell (p := ⟨g, i, none⟩) (h.lo hi) u) (blk g (cs.setIfInBounds i u) t) (blk_put h0 i u rfl) rfl rfl
/-- A row's cells, and its own address. -/
theorem St.reads {α : Type} {d : Kd α} {e b lo hi : Nat} {A : Option Addr} {n c : Nat} {l : List α} (h : St W w L) {i : Nat} (hi : L[i]? = some (row d e b lo hi (.slice A n c) l)) : n = l.length ∧ n ≤ c ∧ d.C w A l.length l := Kd.R_reads' (h.get hi)
theorem St.readsS {α : Type} {d : Kd α} {e b lo hi : Nat} {A : Option Addr} {n c : Nat} {l : List α} (h : St W w L) {i : Nat} (hi : L[i]? = some (rows d e b lo hi (.slice A n c) l)) : n = l.length ∧ n ≤ c ∧ d.C w A l.length l := Kd.S_reads' (h.get hi)
theorem St.reads1 {α β : Type} {d : Kd α} {e : Nat} {d' : Kd β} {e' : Nat} {b lo hi : Nat} {A A' : Option Addr} {n c n' c' : Nat} {l : List α} {l' : List β} (h : St W w L) {i : Nat} (hi : L[i]? = some (two d e d' e' b lo hi (.slice A n c) l (.slice A' n' c') l')) : n = l.length ∧ n ≤ c ∧ d.C w A l.length l := Kd.R_reads' (h.get hi).1
theorem St.reads2 {α β : Type} {d : Kd α} {e : Nat} {d' : Kd β} {e' : Nat} {b lo hi : Nat} {A A' : Option Addr} {n c n' c' : Nat} {l : List α} {l' : List β} (h : St W w L) {i : Nat} (hi : L[i]? = some (two d e d' e' b lo hi (.slice A n c) l (.slice A' n' c') l')) : n' = l'.length ∧ n' ≤ c' ∧ d'.C w A' l'.length l' := Kd.R_reads' (h.get hi).2
theorem own_in {α : Type} {d : Kd α} {e b lo hi : Nat} {v : Value} {l : List α} {ok : Nat → Prop} (h : d.R e w b (fun k => (lo ≤ k ∧ k < hi) ∧ ok k) v l) : ∀ k, v.ownBlock = some k → lo ≤ k ∧ k < hi := fun k hk => (h.1 k hk).1
theorem St.writeRow {α : Type} {d : Kd α} {e lo hi : Nat} {v : Value} {l l' : List α} {ok1 : Nat → Prop} (hE : d.E = []) (h : St W w L) {i : Nat} (hi' : L[i]? = some (row d e W.heap.size lo hi v l)) (hk : Kept w w' (fun k => lo ≤ k ∧ k < hi)) (hb : Below W.heap.size W w')
    (ho : d.R e w' W.heap.size ok1 v l') : St W w' (L.set i (row d e W.heap.size lo hi v l')) :=
  h.write hi' hk hb (row d e W.heap.size lo hi v l') (Kd.R_reok hE ho (fun k hk => ⟨own_in (h.get hi') k hk, trivial⟩)) rfl rfl
theorem St.writeTwo {α β : Type} {d : Kd α} {e : Nat} {d' : Kd β} {e' lo hi : Nat} {v : Value} {l l2 : List α} {v' : Value} {l' l2' : List β} {ok1 ok2 : Nat → Prop} (hE : d.E = []) (hE' : d'.E = []) (h : St W w L) {i : Nat} (hi' : L[i]? = some (two d e d' e' W.heap.size lo hi v l v' l')) (hk : Kept w w' (fun k => lo ≤ k ∧ k < hi)) (hb : Below W.heap.size W w')
    (ho : d.R e w' W.heap.size ok1 v l2) (ho' : d'.R e' w' W.heap.size ok2 v' l2') : St W w' (L.set i (two d e d' e' W.heap.size lo hi v l2 v' l2')) :=
  h.write hi' hk hb (two d e d' e' W.heap.size lo hi v l2 v' l2') ⟨Kd.R_reok hE ho (fun k hk => (h.get hi').1.1 k hk), Kd.R_reok hE' ho' (fun k hk => (h.get hi').2.1 k hk)⟩ rfl rfl
end
end Go.Proofs.Ythaoloacbbohlaa.St
