/- Short names for steps that a printed walk takes often: each proves its goal by the tactic that it bears. -/
import Derived.Test.YthaoloacbbohlaaWWords
import Derived.Test.YthaoloacbbohlaaWMore
import Derived.WalkKit
import Derived.KernelRfl
import Derived.Test.YthaoloacbbohlaaWTab
import Derived.Test.YthaoloacbbohlaaWLast
namespace Go.Proofs.Ythaoloacbbohlaa.Slim
open Go.RowKit Go.Proofs.YthaoloacbbohlaaW.PrintWords Go.Proofs.YthaoloacbbohlaaW.PrintMore Go.Proofs.YthaoloacbbohlaaW.PrintLast
/-- What was made since the call's begin leaves what was there as it was. -/
theorem bt {q : Prop} (h : q := by repeat (first | (with_reducible first | exact HB.out | apply below_alloc | apply pw_below_drewN | apply below_drew1) | exact HB.out)) : q := h
/-- A row reads on over what was made and drawn since. -/
theorem mv {p q : Prop} (h : p) (e : p → q := by intro h_; (with_reducible repeat (first | apply Kd.R_alloc | apply Kd.R_drewN | apply Kd.R_drew | apply Kd.S_alloc | apply Kd.S_drewN | apply Kd.S_drew | apply Kd.N_alloc | apply Kd.N_drewN | apply Kd.N_drew | apply Kd.V_alloc | apply Kd.V_drewN | apply Kd.V_drew)); exact h_) : q := e h
theorem mb {p q : Prop} (h : p) (e : p → q := by intro h_; (with_reducible repeat (first | refine blk_drewN ?_ _ | refine blk_drew ?_ | refine blk_alloc ?_ _)); exact h_) : q := e h
theorem cv {p q : Prop} (h : p) (e : p → q := by intro h_; repeat (first | exact h_ | (with_reducible refine Kd.C_alloc ?_ _) | (with_reducible refine Kd.C_drewN ?_ _) | (with_reducible refine Kd.C_drew ?_))) : q := e h
theorem er {q : Prop} (h : q := by first | rfl | (simp [*]; done)) : q := h
theorem asm {q : Prop} (h : q := by first | (with_reducible assumption) | assumption) : q := h
theorem av {q : Prop} (h : q := by (try simp only [List.map_toArray, List.map_cons, List.map_nil]); first | done | rfl | (simp only [List.length_drop, List.length_take]; rfl)) : q := h
theorem b1 {p q : Prop} (g : p) (h : p → q := by intro g_; repeat (first | (with_reducible first | exact HB.out | apply below_alloc | apply pw_below_drewN | apply below_drew1 | refine below_set ?_ g_) | exact HB.out)) : q := h g
theorem b2 {p0 p1 q : Prop} (g0 : p0) (g1 : p1) (h : p0 → p1 → q := by intro g_0 g_1; repeat (first | (with_reducible first | exact HB.out | apply below_alloc | apply pw_below_drewN | apply below_drew1 | refine below_set ?_ g_0 | refine below_set ?_ g_1) | exact HB.out)) : q := h g0 g1
theorem b3 {p0 p1 p2 q : Prop} (g0 : p0) (g1 : p1) (g2 : p2) (h : p0 → p1 → p2 → q := by intro g_0 g_1 g_2; repeat (first | (with_reducible first | exact HB.out | apply below_alloc | apply pw_below_drewN | apply below_drew1 | refine below_set ?_ g_0 | refine below_set ?_ g_1 | refine below_set ?_ g_2) | exact HB.out)) : q := h g0 g1 g2
theorem kp {q : Prop} (h : q := by repeat (first | (with_reducible first | exact HK.out | apply KeepBut.set_ | apply keep_drewN | apply keep_drew | apply keep_alloc) | exact HK.out)) : q := h
theorem kp1 {p0 q : Prop} (g0 : p0) (h : p0 → q := by intro g_0; repeat (first | (with_reducible first | exact HK.out | apply KeepBut.set_ | apply keep_drewN | apply keep_drew | apply keep_alloc | refine keep_far ?_ g_0 _) | exact HK.out)) : q := h g0
theorem kp2 {p0 p1 q : Prop} (g0 : p0) (g1 : p1) (h : p0 → p1 → q := by intro g_0 g_1; repeat (first | (with_reducible first | exact HK.out | apply KeepBut.set_ | apply keep_drewN | apply keep_drew | apply keep_alloc | refine keep_far ?_ g_0 _ | refine keep_far ?_ g_1 _) | exact HK.out)) : q := h g0 g1
theorem kp3 {p0 p1 p2 q : Prop} (g0 : p0) (g1 : p1) (g2 : p2) (h : p0 → p1 → p2 → q := by intro g_0 g_1 g_2; repeat (first | (with_reducible first | exact HK.out | apply KeepBut.set_ | apply keep_drewN | apply keep_drew | apply keep_alloc | refine keep_far ?_ g_0 _ | refine keep_far ?_ g_1 _ | refine keep_far ?_ g_2 _) | exact HK.out)) : q := h g0 g1 g2
theorem rR {p q : Prop} (e : p → q := by intro h_; (with_reducible repeat (first | apply Kd.R_alloc | apply Kd.R_drewN | apply Kd.R_drew)); exact h_) (h : p) : q := e h
theorem rS {p q : Prop} (e : p → q := by intro h_; (with_reducible repeat (first | apply Kd.S_alloc | apply Kd.S_drewN | apply Kd.S_drew)); exact h_) (h : p) : q := e h
theorem rN {p q : Prop} (e : p → q := by intro h_; (with_reducible repeat (first | apply Kd.N_alloc | apply Kd.N_drewN | apply Kd.N_drew)); exact h_) (h : p) : q := e h
theorem rV {p q : Prop} (e : p → q := by intro h_; (with_reducible repeat (first | apply Kd.V_alloc | apply Kd.V_drewN | apply Kd.V_drew)); exact h_) (h : p) : q := e h
theorem e0 {q : Prop} (h : q := by first | rfl | (simp; done) | (simp [*]; done)) : q := h
theorem am {q : Prop} (h : q) : Aside0 q := ⟨h⟩
/-- Kept over a state's call: none of its blocks is the state's (found among what is known of them). -/
theorem nK {α : Type} {d : Kd α} {e base g : Nat} {ok : Nat → Prop} {W w1 : World} {v : Value} {xs : List α} (h : Kd.N d e W base ok v xs) (hk : KeepBut W w1 g none) (hok : ∀ k, ok k → k ≠ g := by intro _ h_; first | exact h_.2 | exact h_.2.2 | exact h_.2.2.2 | exact h_.2.2.2.2 | exact h_.2.2.2.2.2 | exact h_.2.2.2.2.2.2 | exact h_.1.2 | exact h_.1.2.2 | exact h_.1.2.2.2 | exact h_.1.2.2.2.2 | exact h_.1.2.2.2.2.2 | exact h_.1.2.2.2.2.2.2) : Kd.N d e w1 base ok v xs := Kd.N_keep h hk hok
theorem vK {α : Type} {d : Kd α} {e base g : Nat} {ok : Nat → Prop} {W w1 : World} {v : Value} {xs : List α} (h : Kd.V d e W base ok v xs) (hk : KeepBut W w1 g none) (hok : ∀ k, ok k → k ≠ g := by intro _ h_; first | exact h_.2 | exact h_.2.2 | exact h_.2.2.2 | exact h_.2.2.2.2 | exact h_.2.2.2.2.2 | exact h_.2.2.2.2.2.2 | exact h_.1.2 | exact h_.1.2.2 | exact h_.1.2.2.2 | exact h_.1.2.2.2.2 | exact h_.1.2.2.2.2.2 | exact h_.1.2.2.2.2.2.2) : Kd.V d e w1 base ok v xs := Kd.V_keep h hk hok
/-- .. and none is the row's that the call made. -/
theorem nT {α : Type} {d : Kd α} {e base g : Nat} {ok : Nat → Prop} {W w1 : World} {u v : Value} {xs : List α} (h : Kd.N d e W base ok v xs) (hk : KeepBut W w1 g none) (hb : ∀ k, u.ownBlock = some k → W.heap.size ≤ k) (hok : ∀ k, ok k → k ≠ g := by intro _ h_; first | exact h_.2 | exact h_.2.2 | exact h_.2.2.2 | exact h_.2.2.2.2 | exact h_.2.2.2.2.2 | exact h_.2.2.2.2.2.2 | exact h_.1.2 | exact h_.1.2.2 | exact h_.1.2.2.2 | exact h_.1.2.2.2.2 | exact h_.1.2.2.2.2.2 | exact h_.1.2.2.2.2.2.2) : Kd.N d e w1 base (fun k => ok k ∧ some k ≠ u.ownBlock) v xs :=
  Kd.N_mono (Kd.N_told (Kd.N_oldK (Kd.N_mono h (fun k hk => (⟨hk, hok k hk⟩ : _ ∧ k ≠ g))) hk) hb) (fun _ h => h.1)
theorem vT {α : Type} {d : Kd α} {e base g : Nat} {ok : Nat → Prop} {W w1 : World} {u v : Value} {xs : List α} (h : Kd.V d e W base ok v xs) (hk : KeepBut W w1 g none) (hb : ∀ k, u.ownBlock = some k → W.heap.size ≤ k) (hok : ∀ k, ok k → k ≠ g := by intro _ h_; first | exact h_.2 | exact h_.2.2 | exact h_.2.2.2 | exact h_.2.2.2.2 | exact h_.2.2.2.2.2 | exact h_.2.2.2.2.2.2 | exact h_.1.2 | exact h_.1.2.2 | exact h_.1.2.2.2 | exact h_.1.2.2.2.2 | exact h_.1.2.2.2.2.2 | exact h_.1.2.2.2.2.2.2) : Kd.V d e w1 base (fun k => ok k ∧ some k ≠ u.ownBlock) v xs :=
  Kd.V_mono (Kd.V_told (Kd.V_oldK (Kd.V_mono h (fun k hk => (⟨hk, hok k hk⟩ : _ ∧ k ≠ g))) hk) hb) (fun _ h => h.1)
/-- Block k is none of v's. -/
abbrev nb (k : Nat) (v : Value) : Prop := some k ≠ v.ownBlock
/-- What a chain of answers is made of. -/
theorem bm {α β : Type} {o : Option α} {f : α → Option β} {r : β} (h : o.bind f = some r) : ∃ a, Aside0 (o = some a) ∧ f a = some r := by
  obtain ⟨a, h1, h2⟩ := Option.bind_eq_some_iff.mp h
  exact ⟨a, ⟨h1⟩, h2⟩
theorem nh {α : Type} {c : Prop} [Decidable c] {a : Option α} {r : α} {q : Prop} (h : ¬ c) (H : (if c then a else none) = some r) : q := by
  rw [if_neg h] at H
  cases H
theorem nft : ¬ (false = true) := by decide
theorem fkR {α : Type} [Inhabited α] {d : Kd α} {e : Nat} {w : World} {base : Nat} {ok : Nat → Prop} {v : Value} {l : List α} (h : Kd.R d e w base ok v l) : Kd.FK (Kd.slice e d) w ok l [v] := by
  obtain ⟨A, c, rfl⟩ := Kd.R_slice h
  exact Kd.FK_slice_mk (Kd.R_reads' h).2.1 (Kd.R_F h)
section
variable {P : Program} {md : Region.Mode} {ops : Array Oper} {Q : Exit → Act → World → Prop} {S : World → Prop} {ds : List Nat} {i : Nat} {N : Option Tmp} {oi : Oper} {v : Value} {fuel : Nat} {l : Array Bool} {a a' : Act} {w : World} {T : Bool × List (List Nat × List Nat)} {B : List Nat}
/-- A step of a region that draws: an operation that computes. -/
theorem pz (l' : Array Bool) (hi : ops[i]? = some oi) (hN : oi.dst = N) (HT : rtab md ops = T) (h : wpAnyLast P md ops Q S ds fuel l' a' w) (hc : anyT T l.toList l'.toList i = true := by kernel_rfl)
    (hQ : ∀ c a w, Q (.panic c) (a.put oi.dst v) w → Q (.panic c) a w := by exact fun _ _ _ h => h) (hy : Yields P ops oi v a := by exact Or.inl ⟨by rfl, by intro w'; go_simp; with_reducible rfl⟩)
    (ha : a.put N v = a' := by simp only [Act.put, List.setIfInBounds_toArray, List.set_cons_zero, List.set_cons_succ, i64_w, i32_w]; rfl) : wpAnyLast P md ops Q S ds (fuel + 1) l a w := pure_ l' hi hN (any_of HT hc) hQ hy ha h
/-- .. that reads what is held. -/
theorem tz (l' : Array Bool) (hi : ops[i]? = some oi) (hN : oi.dst = N) (HT : rtab md ops = T) (HW : waitsOk T.2 B = true) (hS : S w) (hy : YieldsIf P ops S oi v a) (h : wpAnyLast P md ops Q S ds fuel l' a' w) (hc : takeW T B ds l.toList l'.toList i = true := by kernel_rfl)
    (hQ : ∀ c a w, Q (.panic c) (a.put oi.dst v) w → Q (.panic c) a w := by exact fun _ _ _ h => h)
    (ha : a.put N v = a' := by simp only [Act.put, List.setIfInBounds_toArray, List.set_cons_zero, List.set_cons_succ, i64_w, i32_w]; rfl) : wpAnyLast P md ops Q S ds (fuel + 1) l a w := take_ l' hi hN (take_ofW HT HW hc) hQ hy hS ha h
/-- What was put is told as the list that it is. -/
theorem nz (h : wpAnyLast P md ops Q S ds fuel l a' w) (ha : a.put N v = a' := by simp only [Act.put, List.setIfInBounds_toArray, List.set_cons_zero, List.set_cons_succ, i64_w, i32_w]; rfl) : wpAnyLast P md ops Q S ds fuel l (a.put N v) w := norm_ ha h
end
end Go.Proofs.Ythaoloacbbohlaa.Slim
