/- Recheck answers as the reference's Recheck, at all numbers, texts, places and shards (of at most 2^20 bytes each), and leaves the lists as they were. -/
import Derived.Test.YthaoloacbbohlaaPFnExactRecheckx
import Derived.Test.YthaoloacbbohlaaKit
import Derived.Test.YthaoloacbbohlaaGf
namespace Go.Proofs.Ythaoloacbbohlaa.Pure
open Go.RowKit Go.Proofs.Ythaoloacbbohlaa Go.Proofs.Ythaoloacbbohlaa.PFnExactRecheck Go.Proofs.YthaoloacbbohlaaW.PrintWords Go.Proofs.YthaoloacbbohlaaW.PrintLast Go.Proofs.YthaoloacbbohlaaW.PrintMore Go.Proofs.Ythaoloacbbohlaa.K
set_option linter.unusedVariables false

/-- What is left of a behind a taking of t; -1: t was too much. -/
def left (a : Int) (t : Nat) : Int := if a - (t : Int) < 0 then -1 else a - (t : Int)
theorem left_ok {a : Int} {t : Nat} (h : ¬ left a t < 0) : left a t = a - (t : Int) := by
  unfold left at h ⊢
  split
  · rename_i h2
    rw [if_pos h2] at h
    omega
  · rfl
theorem left_neg {a : Int} {t : Nat} (h : a - (t : Int) < 0) : left a t = -1 := if_pos h
theorem left_pos {a : Int} {t : Nat} (h : ¬ a - (t : Int) < 0) : left a t = a - (t : Int) := if_neg h
theorem len_max {n : Nat} (h : n ≤ maxLen) : n ≤ 9223372036854775807 := by unfold maxLen at h; omega
/-- The bytes of all texts together. -/
def tsum : List (List Int) → Nat
  | [] => 0
  | x :: l => x.length + tsum l
/-- .. and the texts. -/
def tot (l : List (List Int)) : Nat := l.length + tsum l
theorem tsum_le (l : List (List Int)) : tsum l ≤ tot l := Nat.le_add_left _ _
theorem tot_len (l : List (List Int)) : l.length ≤ tot l := Nat.le_add_right _ _
theorem tsum_mem {l : List (List Int)} {x : List Int} (h : x ∈ l) : x.length ≤ tsum l := by
  induction l with
  | nil => cases h
  | cons y l ih =>
    rcases List.mem_cons.1 h with rfl | h
    · unfold tsum; omega
    · have := ih h; unfold tsum; omega
theorem tsum_append (l m : List (List Int)) : tsum (l ++ m) = tsum l + tsum m := by
  induction l with
  | nil => simp [tsum]
  | cons x l ih => simp only [List.cons_append, tsum, ih]; omega
theorem rdB_nat (l : List (List Int)) (i : Nat) : rd_L1 l (i : Int) = l.getD i [] := by unfold rd_L1; rw [Int.toNat_natCast]
theorem getD_mem {l : List (List Int)} {i : Nat} (h : i < l.length) : l.getD i [] ∈ l := by
  rw [List.getD_eq_getElem?_getD, List.getElem?_eq_getElem h]
  exact List.getElem_mem h
theorem dropB {l : List (List Int)} {i : Nat} (h : i < l.length) : l.drop i = l.getD i [] :: l.drop (i + 1) := drop_getD l [] i h
theorem szByteS (l : List Int) (a : Int) (h0 : 0 ≤ a) (ha : a ≤ 1048576) (hl : l.length ≤ maxLen) : laws_szByteS.f l a = some (left a l.length) := by
  have hm := len_max hl
  unfold laws_szByteS.f
  rw [wr (n := a - (l.length : Int)) (by omega) (by omega)]
  by_cases h : a - (l.length : Int) < 0
  · rw [if_pos h, left_neg h]
  · rw [if_neg h, left_pos h]
theorem szByteSS_l0 (l : List (List Int)) (hl : l.length ≤ 1048576) (hs : ∀ v ∈ l, v.length ≤ maxLen) (n : Nat) : ∀ (i : Nat) (a : Int), i + n = l.length → 0 ≤ a → a ≤ 1048576 → Ev (fun k => laws_szByteSS.l0 k l a (i : Int)) (left a (tsum (l.drop i))) := by
  induction n with
  | zero =>
    intro i a hi h0 ha
    refine Ev.step (fun k => laws_szByteSS.l0.eq_2 ..) (ev_neg (by omega) (ev_ret ?_))
    rw [List.drop_eq_nil_of_le (by omega)]
    unfold left tsum
    rw [if_neg (by omega)]
    omega
  | succ n ih =>
    intro i a hi h0 ha
    have hlt : i < l.length := by omega
    refine Ev.step (fun k => laws_szByteSS.l0.eq_2 ..) (ev_pos (by omega) (ev_pos (by omega) ?_))
    rw [rdB_nat, dropB hlt]
    have hx := hs _ (getD_mem hlt)
    refine ev_pure (szByteS _ a h0 ha hx) ?_
    generalize l.getD i [] = x at hx
    by_cases h : a - (x.length : Int) < 0
    · rw [left_neg h]
      refine ev_pos (by decide) (ev_ret ?_)
      rw [left_neg]
      simp only [tsum]
      omega
    · rw [left_pos h, wr_succ (by omega)]
      refine ev_neg h (ev_eq (ih (i + 1) _ (by omega) (by omega) (by omega)) ?_)
      simp only [tsum]
      unfold left
      split <;> split <;> omega
theorem szByteSS (l : List (List Int)) (a : Int) (h0 : 0 ≤ a) (ha : a ≤ 1048576) (hl : l.length ≤ maxLen) (hs : ∀ v ∈ l, v.length ≤ maxLen) : Ev (fun k => laws_szByteSS.f k l a) (left a (tot l)) := by
  have hm := len_max hl
  unfold laws_szByteSS.f
  rw [wr (n := a - (l.length : Int)) (by omega) (by omega)]
  by_cases h : a - (l.length : Int) < 0
  · refine ev_pos h (ev_ret ?_)
    have := tot_len l
    rw [left_neg (by omega)]
  · refine ev_neg h (ev_eq (szByteSS_l0 l (by omega) hs l.length 0 _ (by omega) (by omega) (by omega)) ?_)
    rw [List.drop_zero]
    unfold left tot
    split <;> split <;> omega
theorem toByteS_l0 (l : List Int) (hl : l.length ≤ 9223372036854775806) (n : Nat) : ∀ i : Nat, i + n = l.length →
    Ev (fun k => laws_toByteS.l0 k l (l.take i ++ List.replicate n 0) (i : Int)) l := by
  induction n with
  | zero =>
    intro i hi
    refine Ev.step (fun k => laws_toByteS.l0.eq_2 ..) ?_
    refine ev_neg (by omega) (ev_ret ?_)
    rw [List.replicate_zero, List.append_nil, List.take_of_length_le (by omega)]
  | succ n ih =>
    intro i hi
    refine Ev.step (fun k => laws_toByteS.l0.eq_2 ..) ?_
    have hlen : (l.take i).length = i := by rw [List.length_take]; omega
    refine ev_pos (by omega) (ev_pos (by omega) (ev_pos (by rw [List.length_append, hlen, List.length_replicate]; omega) ?_))
    rw [wr_succ (by omega), rd_nat, Int.toNat_natCast]
    have e := set_fill (l.take i) (l.getD i 0) 0 n
    rw [hlen, take_getD l 0 i (by omega)] at e
    rw [e]
    exact ih (i + 1) (by omega)
theorem toByteS (l : List Int) (hl : l.length ≤ 140737488355328) : Ev (fun k => laws_toByteS.f k l) l := by
  unfold laws_toByteS.f
  refine ev_pos (by omega) (ev_pos (by omega) ?_)
  have := toByteS_l0 l (by omega) l.length 0 (by omega)
  simpa using this
theorem toByteSS_l0 (l : List (List Int)) (hl : l.length ≤ 9223372036854775806) (hs : ∀ x ∈ l, x.length ≤ 140737488355328) (n : Nat) : ∀ i : Nat, i + n = l.length →
    Ev (fun k => laws_toByteSS.l0 k l (l.take i ++ List.replicate n []) (i : Int)) l := by
  induction n with
  | zero =>
    intro i hi
    refine Ev.step (fun k => laws_toByteSS.l0.eq_2 ..) ?_
    refine ev_neg (by omega) (ev_ret ?_)
    rw [List.replicate_zero, List.append_nil, List.take_of_length_le (by omega)]
  | succ n ih =>
    intro i hi
    refine Ev.step (fun k => laws_toByteSS.l0.eq_2 ..) ?_
    have hlen : (l.take i).length = i := by rw [List.length_take]; omega
    refine ev_pos (by omega) (ev_pos (by omega) ?_)
    rw [rdB_nat]
    refine ev_bind (toByteS _ (hs _ (getD_mem (by omega)))) (ev_pos (by rw [List.length_append, hlen, List.length_replicate]; omega) ?_)
    rw [wr_succ (by omega), Int.toNat_natCast]
    have e := set_fill (l.take i) (l.getD i []) [] n
    rw [hlen, take_getD l [] i (by omega)] at e
    rw [e]
    exact ih (i + 1) (by omega)
theorem toByteSS (l : List (List Int)) (ht : tot l ≤ 10000000000000) : Ev (fun k => laws_toByteSS.f k l) l := by
  have h1 := tot_len l
  have h2 := tsum_le l
  unfold laws_toByteSS.f
  refine ev_pos (by omega) (ev_pos (by omega) ?_)
  have := toByteSS_l0 l (by omega) (fun x hx => by have := tsum_mem hx; omega) l.length 0 (by omega)
  simpa using this
theorem toIntS_l0 (l : List Int) (hl : l.length ≤ 9223372036854775806) (n : Nat) : ∀ i : Nat, i + n = l.length →
    Ev (fun k => laws_toIntS.l0 k l (l.take i ++ List.replicate n 0) (i : Int)) l := by
  induction n with
  | zero =>
    intro i hi
    refine Ev.step (fun k => laws_toIntS.l0.eq_2 ..) ?_
    refine ev_neg (by omega) (ev_ret ?_)
    rw [List.replicate_zero, List.append_nil, List.take_of_length_le (by omega)]
  | succ n ih =>
    intro i hi
    refine Ev.step (fun k => laws_toIntS.l0.eq_2 ..) ?_
    have hlen : (l.take i).length = i := by rw [List.length_take]; omega
    refine ev_pos (by omega) (ev_pos (by omega) (ev_pos (by rw [List.length_append, hlen, List.length_replicate]; omega) ?_))
    rw [wr_succ (by omega), rd_nat, Int.toNat_natCast]
    have e := set_fill (l.take i) (l.getD i 0) 0 n
    rw [hlen, take_getD l 0 i (by omega)] at e
    rw [e]
    exact ih (i + 1) (by omega)
theorem toIntS (l : List Int) (hl : l.length ≤ 17592186044416) : Ev (fun k => laws_toIntS.f k l) l := by
  unfold laws_toIntS.f
  refine ev_pos (by omega) (ev_pos (by omega) ?_)
  have := toIntS_l0 l (by omega) l.length 0 (by omega)
  simpa using this
theorem eqByteS_l0 (l : List Int) (hl : l.length ≤ 9223372036854775806) (n : Nat) : ∀ i : Nat, i + n = l.length →
    Ev (fun k => laws_eqByteS.l0 k l l (i : Int)) true := by
  induction n with
  | zero =>
    intro i hi
    refine Ev.step (fun k => laws_eqByteS.l0.eq_2 ..) ?_
    exact ev_neg (by omega) (ev_ret rfl)
  | succ n ih =>
    intro i hi
    refine Ev.step (fun k => laws_eqByteS.l0.eq_2 ..) ?_
    refine ev_pos (by omega) (ev_pos (by omega) (ev_pos (by omega) (ev_pos rfl ?_)))
    rw [wr_succ (by omega)]
    exact ih (i + 1) (by omega)
theorem eqByteS (l : List Int) (hl : l.length ≤ 140737488355328) : Ev (fun k => laws_eqByteS.f k l l) true := by
  unfold laws_eqByteS.f
  exact ev_pos rfl (eqByteS_l0 l (by omega) l.length 0 (by omega))
theorem eqByteSS_l0 (l : List (List Int)) (hl : l.length ≤ 9223372036854775806) (hs : ∀ x ∈ l, x.length ≤ 140737488355328) (n : Nat) : ∀ i : Nat, i + n = l.length →
    Ev (fun k => laws_eqByteSS.l0 k l l (i : Int)) true := by
  induction n with
  | zero =>
    intro i hi
    refine Ev.step (fun k => laws_eqByteSS.l0.eq_2 ..) ?_
    exact ev_neg (by omega) (ev_ret rfl)
  | succ n ih =>
    intro i hi
    refine Ev.step (fun k => laws_eqByteSS.l0.eq_2 ..) ?_
    refine ev_pos (by omega) (ev_pos (by omega) (ev_pos (by omega) ?_))
    rw [rdB_nat]
    refine ev_bind (eqByteS _ (hs _ (getD_mem (by omega)))) (ev_pos rfl ?_)
    rw [wr_succ (by omega)]
    exact ih (i + 1) (by omega)
theorem eqByteSS (l : List (List Int)) (ht : tot l ≤ 10000000000000) : Ev (fun k => laws_eqByteSS.f k l l) true := by
  have h1 := tot_len l
  have h2 := tsum_le l
  unfold laws_eqByteSS.f
  exact ev_pos rfl (eqByteSS_l0 l (by omega) (fun x hx => by have := tsum_mem hx; omega) l.length 0 (by omega))
theorem eqIntS_l0 (l : List Int) (hl : l.length ≤ 9223372036854775806) (n : Nat) : ∀ i : Nat, i + n = l.length →
    Ev (fun k => laws_eqIntS.l0 k l l (i : Int)) true := by
  induction n with
  | zero =>
    intro i hi
    refine Ev.step (fun k => laws_eqIntS.l0.eq_2 ..) ?_
    exact ev_neg (by omega) (ev_ret rfl)
  | succ n ih =>
    intro i hi
    refine Ev.step (fun k => laws_eqIntS.l0.eq_2 ..) ?_
    refine ev_pos (by omega) (ev_pos (by omega) (ev_pos (by omega) (ev_pos rfl ?_)))
    rw [wr_succ (by omega)]
    exact ih (i + 1) (by omega)
theorem eqIntS (l : List Int) (hl : l.length ≤ 140737488355328) : Ev (fun k => laws_eqIntS.f k l l) true := by
  unfold laws_eqIntS.f
  exact ev_pos rfl (eqIntS_l0 l (by omega) l.length 0 (by omega))
theorem impl_mul_l0 (n : Nat) : ∀ (o x y : Nat), o < 256 → x < 256 → y < 2 ^ n → n ≤ 8 →
    Ev (fun k => impl_GfMul.l0 k (o : Int) (x : Int) (y : Int)) ((Gf.mulAux n x y o : Nat) : Int) := by
  induction n with
  | zero =>
    intro o x y ho hx hy _
    obtain rfl : y = 0 := by omega
    refine Ev.step (fun k => impl_GfMul.l0.eq_2 ..) ?_
    refine ev_neg (by omega) (ev_ret ?_)
    show (o : Int) % 256 = (o : Int)
    omega
  | succ n ih =>
    intro o x y ho hx hy hn
    have hy8 : y < 256 := Nat.lt_of_lt_of_le hy (Nat.pow_le_pow_right (by decide) hn : 2 ^ (n + 1) ≤ 2 ^ 8)
    refine Ev.step (fun k => impl_GfMul.l0.eq_2 ..) ?_
    by_cases h0 : y = 0
    · subst h0
      refine ev_neg (by omega) (ev_ret ?_)
      rw [Gf.mulAux_zero]
      omega
    refine ev_pos (by omega) ?_
    have e0 : Go.bits .and .i64 (y : Int) 1 = ((y % 2 : Nat) : Int) := odd64 (by omega)
    have e1 : wrap64 ((x : Int) * 2) = ((2 * x : Nat) : Int) := by rw [wr (by omega) (by omega)]; omega
    have e2 : Go.bits .xor .i64 (o : Int) (x : Int) = ((o ^^^ x : Nat) : Int) := xor64 (by omega) (by omega)
    have e3 : Go.bits .xor .i64 ((2 * x : Nat) : Int) 285 = (((2 * x) ^^^ 285 : Nat) : Int) := xor64 (b := 285) (by omega) (by omega)
    have e4 : ((y : Int) / 2) = ((y / 2 : Nat) : Int) := by omega
    simp only [e0, e1, e2, e3, e4]
    have hd := Gf.dbl_lt hx
    have hox := Gf.xor_lt ho hx
    have hy2 : y / 2 < 2 ^ n := by rw [Nat.pow_succ] at hy; omega
    simp only [Gf.mulAux]
    by_cases h1 : y % 2 = 1
    · refine ev_pos (by omega) ?_
      rw [if_pos h1]
      by_cases h2 : 2 * x > 255
      · refine ev_pos (by omega) ?_
        have := ih (o ^^^ x) (Gf.dbl x) (y / 2) hox hd hy2 (by omega)
        have e : Gf.dbl x = (2 * x) ^^^ 285 := if_pos h2
        rw [e] at this ⊢
        exact this
      · refine ev_neg (by omega) ?_
        have := ih (o ^^^ x) (Gf.dbl x) (y / 2) hox hd hy2 (by omega)
        have e : Gf.dbl x = 2 * x := if_neg h2
        rw [e] at this ⊢
        exact this
    · refine ev_neg (by omega) ?_
      rw [if_neg h1]
      by_cases h2 : 2 * x > 255
      · refine ev_pos (by omega) ?_
        have := ih o (Gf.dbl x) (y / 2) ho hd hy2 (by omega)
        have e : Gf.dbl x = (2 * x) ^^^ 285 := if_pos h2
        rw [e] at this ⊢
        exact this
      · refine ev_neg (by omega) ?_
        have := ih o (Gf.dbl x) (y / 2) ho hd hy2 (by omega)
        have e : Gf.dbl x = 2 * x := if_neg h2
        rw [e] at this ⊢
        exact this
theorem impl_mul {a b : Nat} (ha : a < 256) (hb : b < 256) : Ev (fun k => impl_GfMul.f k (a : Int) (b : Int)) ((Gf.gm a b : Nat) : Int) := by
  have := impl_mul_l0 8 0 a b (by decide) ha hb (by decide)
  unfold impl_GfMul.f
  rw [wrn (by omega), wrn (by omega)]
  exact this
theorem spec_mul_l0 (b : Nat) (hb : b < 256) (n : Nat) : ∀ (i o x : Nat), i + n = 8 → o < 256 → x < 256 →
    Ev (fun k => spec_GfMul.l0 k (b : Int) (x : Int) (o : Int) (i : Int)) ((Gf.mulAux n x (b / 2 ^ i) o : Nat) : Int) := by
  induction n with
  | zero =>
    intro i o x hi ho hx
    refine Ev.step (fun k => spec_GfMul.l0.eq_2 ..) ?_
    refine ev_neg (by omega) (ev_ret ?_)
    show (o : Int) % 256 = (o : Int)
    omega
  | succ n ih =>
    intro i o x hi ho hx
    refine Ev.step (fun k => spec_GfMul.l0.eq_2 ..) ?_
    refine ev_pos (by omega) (ev_pos (by omega) ?_)
    have e0 : Go.bits .and .i64 (shr .i64 (wrap64 (b : Int)) (i : Int)) 1 = ((b / 2 ^ i % 2 : Nat) : Int) := by
      have : shr .i64 (wrap64 (b : Int)) (i : Int) = ((b / 2 ^ i : Nat) : Int) := by
        unfold shr
        rw [wrn (by omega), Int.toNat_natCast, Nat.min_eq_left (show i ≤ IntKind.i64.bits by show i ≤ 64; omega)]
        simp
      rw [this]
      exact odd64 (Nat.lt_of_le_of_lt (Nat.div_le_self _ _) (by omega))
    have e1 : wrap64 ((x : Int) * 2) = ((2 * x : Nat) : Int) := by rw [wr (by omega) (by omega)]; omega
    have e2 : Go.bits .xor .i64 (o : Int) (x : Int) = ((o ^^^ x : Nat) : Int) := xor64 (by omega) (by omega)
    have e3 : Go.bits .xor .i64 ((2 * x : Nat) : Int) 285 = (((2 * x) ^^^ 285 : Nat) : Int) := xor64 (b := 285) (by omega) (by omega)
    have e4 : wrap64 ((i : Int) + 1) = ((i + 1 : Nat) : Int) := wr_succ (by omega)
    simp only [e0, e1, e2, e3, e4]
    have hd := Gf.dbl_lt hx
    have hox := Gf.xor_lt ho hx
    have e5 : b / 2 ^ i / 2 = b / 2 ^ (i + 1) := by rw [Nat.div_div_eq_div_mul, Nat.pow_succ]
    simp only [Gf.mulAux, e5]
    by_cases h1 : b / 2 ^ i % 2 = 1
    · refine ev_pos (by omega) ?_
      rw [if_pos h1]
      by_cases h2 : 2 * x > 255
      · refine ev_pos (by omega) ?_
        have := ih (i + 1) (o ^^^ x) (Gf.dbl x) (by omega) hox hd
        have e : Gf.dbl x = (2 * x) ^^^ 285 := if_pos h2
        rw [e] at this ⊢
        exact this
      · refine ev_neg (by omega) ?_
        have := ih (i + 1) (o ^^^ x) (Gf.dbl x) (by omega) hox hd
        have e : Gf.dbl x = 2 * x := if_neg h2
        rw [e] at this ⊢
        exact this
    · refine ev_neg (by omega) ?_
      rw [if_neg h1]
      by_cases h2 : 2 * x > 255
      · refine ev_pos (by omega) ?_
        have := ih (i + 1) o (Gf.dbl x) (by omega) ho hd
        have e : Gf.dbl x = (2 * x) ^^^ 285 := if_pos h2
        rw [e] at this ⊢
        exact this
      · refine ev_neg (by omega) ?_
        have := ih (i + 1) o (Gf.dbl x) (by omega) ho hd
        have e : Gf.dbl x = 2 * x := if_neg h2
        rw [e] at this ⊢
        exact this
theorem spec_mul {a b : Nat} (ha : a < 256) (hb : b < 256) : Ev (fun k => spec_GfMul.f k (a : Int) (b : Int)) ((Gf.gm a b : Nat) : Int) := by
  have := spec_mul_l0 b hb 8 0 0 a rfl (by decide) ha
  unfold spec_GfMul.f
  rw [wrn (by omega)]
  simpa [Gf.gm] using this
theorem impl_pow_l0 (n : Nat) : ∀ (m a o : Nat), m < 2 ^ n → n ≤ 62 → a < 256 → o < 256 →
    Ev (fun k => impl_GfPow.l0 k (a : Int) (m : Int) (o : Int)) ((Gf.gm o (Gf.gp a m) : Nat) : Int) := by
  induction n with
  | zero =>
    intro m a o hm _ ha ho
    obtain rfl : m = 0 := by omega
    refine Ev.step (fun k => impl_GfPow.l0.eq_2 ..) ?_
    refine ev_neg (by omega) (ev_ret ?_)
    show (o : Int) = ((Gf.gm o 1 : Nat) : Int)
    rw [Gf.gm_one ho]
  | succ n ih =>
    intro m a o hm hn ha ho
    have hm63 : m < 9223372036854775808 := by
      have : 2 ^ (n + 1) ≤ 2 ^ 63 := Nat.pow_le_pow_right (by decide) (by omega)
      omega
    refine Ev.step (fun k => impl_GfPow.l0.eq_2 ..) ?_
    by_cases h0 : m = 0
    · subst h0
      refine ev_neg (by omega) (ev_ret ?_)
      show (o : Int) = ((Gf.gm o 1 : Nat) : Int)
      rw [Gf.gm_one ho]
    refine ev_pos (by omega) ?_
    have e0 : Go.bits .and .i64 (m : Int) 1 = ((m % 2 : Nat) : Int) := odd64 hm63
    have e4 : ((m : Int) / 2) = ((m / 2 : Nat) : Int) := by omega
    simp only [e0, e4]
    have hm2 : m / 2 < 2 ^ n := by rw [Nat.pow_succ] at hm; omega
    have hs := Gf.gp_sq ha (m / 2)
    by_cases h1 : m % 2 = 1
    · refine ev_pos (by omega) (ev_bind (impl_mul ho ha) (ev_bind (impl_mul ha ha) ?_))
      have := ih (m / 2) (Gf.gm a a) (Gf.gm o a) hm2 (by omega) (Gf.gm_lt _ ha) (Gf.gm_lt _ ho)
      refine ev_eq this ?_
      rw [hs, Gf.gm_assoc ho ha (Gf.gp_lt ha _)]
      congr 2
      have e : 1 + 2 * (m / 2) = m := by omega
      have := Gf.gp_add ha 1 (2 * (m / 2))
      rw [e] at this
      rw [this]
      congr 1
      show a = Gf.gm 1 a
      exact (Gf.one_gm ha).symm
    · refine ev_neg (by omega) (ev_bind (impl_mul ha ha) ?_)
      have := ih (m / 2) (Gf.gm a a) o hm2 (by omega) (Gf.gm_lt _ ha) ho
      refine ev_eq this ?_
      rw [hs, show 2 * (m / 2) = m by omega]
/-- What a power is: 0 below 0, else the product. -/
def powOf (a : Nat) (n : Int) : Nat := if n < 0 then 0 else Gf.gp a n.toNat
theorem powOf_lt {a : Nat} (ha : a < 256) (n : Int) : powOf a n < 256 := by
  unfold powOf; split
  · decide
  · exact Gf.gp_lt ha _
theorem impl_pow {a : Nat} (ha : a < 256) {n : Int} (hn : n ≤ 9223372036854775807) : Ev (fun k => impl_GfPow.f k (a : Int) n) ((powOf a n : Nat) : Int) := by
  unfold impl_GfPow.f powOf
  by_cases h : n < 0
  · rw [if_pos h]
    refine ev_pos h ?_
    refine Ev.step (fun k => impl_GfPow.j0.eq_2 ..) ?_
    exact ev_pos rfl (ev_ret rfl)
  refine ev_neg h ?_
  rw [if_neg h]
  obtain ⟨m, rfl⟩ := Int.eq_ofNat_of_zero_le (by omega : 0 ≤ n)
  rw [Int.toNat_natCast]
  by_cases hm : m = 0
  · subst hm
    refine ev_neg (by omega) ?_
    refine Ev.step (fun k => impl_GfPow.j0.eq_2 ..) ?_
    exact ev_neg (by decide) (ev_pos rfl (ev_ret rfl))
  refine ev_pos (by omega) ?_
  refine Ev.step (fun k => impl_GfPow.j0.eq_2 ..) ?_
  by_cases h0 : a = 0
  · subst h0
    refine ev_pos (by decide) (ev_ret ?_)
    obtain ⟨q, rfl⟩ : ∃ q, m = q + 1 := ⟨m - 1, by omega⟩
    rw [Gf.gp_zero]; rfl
  · refine ev_neg (by simpa using h0) (ev_neg (by omega) ?_)
    have e : Int.tmod (m : Int) 255 = ((m % 255 : Nat) : Int) := by
      rw [Int.tmod_eq_emod_of_nonneg (by omega)]; omega
    rw [e]
    have := impl_pow_l0 8 (m % 255) a 1 (Nat.lt_trans (Nat.mod_lt _ (by decide)) (by decide)) (by decide) ha (by decide)
    refine ev_eq this ?_
    rw [Gf.one_gm (Gf.gp_lt ha _), Gf.gp_mod ha h0]
theorem spec_pow_l0 (a : Nat) (ha : a < 256) (m : Nat) (hm : m ≤ 255) (n : Nat) : ∀ (i : Nat), i + n = m →
    Ev (fun k => spec_GfPow.l0 k (a : Int) (m : Int) ((Gf.gp a i : Nat) : Int) (i : Int)) ((Gf.gp a m : Nat) : Int) := by
  induction n with
  | zero =>
    intro i hi
    obtain rfl : i = m := by omega
    refine Ev.step (fun k => spec_GfPow.l0.eq_2 ..) ?_
    exact ev_neg (by omega) (ev_ret rfl)
  | succ n ih =>
    intro i hi
    refine Ev.step (fun k => spec_GfPow.l0.eq_2 ..) ?_
    refine ev_pos (by omega) (ev_bind (spec_mul (Gf.gp_lt ha i) ha) ?_)
    rw [wr_succ (by omega)]
    exact ih (i + 1) (by omega)
theorem spec_pow {a : Nat} (ha : a < 256) {n : Int} (hn : n ≤ 9223372036854775807) : Ev (fun k => spec_GfPow.f k (a : Int) n) ((powOf a n : Nat) : Int) := by
  unfold spec_GfPow.f powOf
  by_cases h : n < 0
  · rw [if_pos h]
    exact ev_pos h (ev_ret rfl)
  refine ev_neg h ?_
  rw [if_neg h]
  obtain ⟨m, rfl⟩ := Int.eq_ofNat_of_zero_le (by omega : 0 ≤ n)
  rw [Int.toNat_natCast]
  by_cases hm : m = 0
  · subst hm
    exact ev_pos rfl (ev_ret rfl)
  refine ev_neg (by omega) ?_
  by_cases hb : m > 255
  · refine ev_pos (by omega) ?_
    refine Ev.step (fun k => spec_GfPow.j0.eq_2 ..) ?_
    have e : wrap64 (Int.tmod (wrap64 ((m : Int) - 1)) 255 + 1) = (((m - 1) % 255 + 1 : Nat) : Int) := by
      rw [wr (n := (m : Int) - 1) (by omega) (by omega), Int.tmod_eq_emod_of_nonneg (by omega), wr (by omega) (by omega)]
      omega
    rw [e]
    refine ev_eq (spec_pow_l0 a ha ((m - 1) % 255 + 1) (by omega) _ 0 (Nat.zero_add _)) ?_
    by_cases h0 : a = 0
    · subst h0
      obtain ⟨q, rfl⟩ : ∃ q, m = q + 1 := ⟨m - 1, by omega⟩
      rw [Gf.gp_zero, Gf.gp_zero]
    · rw [← Gf.gp_mod ha h0 m, ← Gf.gp_mod ha h0 ((m - 1) % 255 + 1)]
      congr 2
      omega
  · refine ev_neg (by omega) ?_
    refine Ev.step (fun k => spec_GfPow.j0.eq_2 ..) ?_
    exact spec_pow_l0 a ha m (by omega) _ 0 (Nat.zero_add _)
theorem impl_inv {a : Nat} (ha : a < 256) : Ev (fun k => impl_GfInv.f k (a : Int)) (((if a = 0 then 0 else Gf.inv a : Nat) : Int), decide (a ≠ 0)) := by
  unfold impl_GfInv.f
  by_cases h : a = 0
  · subst h
    exact ev_pos rfl (ev_ret rfl)
  · refine ev_neg (by omega) (ev_bind (impl_pow ha (by decide)) (ev_ret ?_))
    rw [if_neg h]
    simp [h, powOf, Gf.inv]
theorem spec_inv {a : Nat} (ha : a < 256) : Ev (fun k => spec_GfInv.f k (a : Int)) (((if a = 0 then 0 else Gf.inv a : Nat) : Int), decide (a ≠ 0)) := by
  unfold spec_GfInv.f
  by_cases h : a = 0
  · subst h
    exact ev_pos rfl (ev_ret rfl)
  · refine ev_neg (by omega) (ev_bind (spec_pow ha (by decide)) (ev_ret ?_))
    rw [if_neg h]
    simp [h, powOf, Gf.inv]
/-- Place by place: x and the product of k and y. -/
def axpy (k : Nat) : List Nat → List Nat → List Nat
  | a :: l, b :: m => (a ^^^ Gf.gm k b) :: axpy k l m
  | _, _ => []
theorem axpy_length (k : Nat) : ∀ (a b : List Nat), a.length = b.length → (axpy k a b).length = a.length := by
  intro a
  induction a with
  | nil => intro b h; rfl
  | cons x l ih =>
    intro b h
    cases b with
    | nil => simp at h
    | cons y m => simp only [axpy, List.length_cons]; rw [ih m (by simpa using h)]
theorem impl_axpy_l0 (c : Nat) (hc : c < 256) (a b : List Nat) (ha : ∀ c ∈ a, c < 256) (hb : ∀ c ∈ b, c < 256) (hl : a.length ≤ 140737488355327) (he : a.length = b.length) (n : Nat) : ∀ (i : Nat) (o : List Nat), i + n = a.length → o.length = i →
    Ev (fun k => impl_GfAxpy.l0 k (c : Int) (I b) (I o) (I a) ((I a).length : Int) (i : Int)) (I (o ++ axpy c (a.drop i) (b.drop i)), true) := by
  induction n with
  | zero =>
    intro i o hi ho
    refine Ev.step (fun k => impl_GfAxpy.l0.eq_2 ..) ?_
    refine ev_neg (by rw [I_length]; omega) (ev_ret ?_)
    rw [List.drop_eq_nil_of_le (by omega : a.length ≤ i)]
    simp [axpy]
  | succ n ih =>
    intro i o hi ho
    refine Ev.step (fun k => impl_GfAxpy.l0.eq_2 ..) ?_
    have hx := getD_lt ha (by decide) i
    have hy := getD_lt hb (by decide) i
    refine ev_pos (by rw [I_length]; omega) (ev_pos (by omega) (ev_pos (by rw [I_length]; omega) (ev_pos (by rw [I_length]; omega) ?_)))
    rw [rd_I, rd_I, wr_succ (by omega)]
    refine ev_bind (impl_mul hc hy) (ev_pos (by rw [I_length]; omega) ?_)
    rw [xor8 hx (Gf.gm_lt _ hc), drop_getD a 0 i (by omega), drop_getD b 0 i (by omega), I_snoc]
    have := ih (i + 1) (o ++ [a.getD i 0 ^^^ Gf.gm c (b.getD i 0)]) (by omega) (by simp [ho])
    rw [List.append_assoc] at this
    exact this
theorem impl_axpy {c : Nat} (hc : c < 256) {a b : List Nat} (ha : ∀ c ∈ a, c < 256) (hb : ∀ c ∈ b, c < 256) (hl : a.length ≤ 140737488355327) :
    Ev (fun k => impl_GfAxpy.f k (I a) (c : Int) (I b)) (if a.length = b.length then (I (axpy c a b), true) else ([], false)) := by
  unfold impl_GfAxpy.f
  by_cases h : a.length = b.length
  · rw [if_pos h]
    refine ev_pos (by rw [I_length, I_length, h]) ?_
    have := impl_axpy_l0 c hc a b ha hb hl h a.length 0 [] (by omega) rfl
    simpa [I_nil] using this
  · rw [if_neg h]
    refine ev_neg (by rw [I_length, I_length]; omega) (ev_ret rfl)
/-- How long a shard is. -/
def lgN (K s : Nat) : Nat := max 1 ((s + K - 1) / K)
theorem lgN_le {K s : Nat} (hK : 1 ≤ K ∧ K ≤ 8) (hs : s ≤ 120) : lgN K s ≤ 127 ∧ s ≤ K * lgN K s ∧ 1 ≤ lgN K s := by
  unfold lgN
  have h1 := Nat.div_le_self (s + K - 1) K
  have h2 := Nat.div_add_mod (s + K - 1) K
  have h3 := Nat.mod_lt (s + K - 1) (show 0 < K by omega)
  have h4 : K * ((s + K - 1) / K) ≤ K * max 1 ((s + K - 1) / K) := Nat.mul_le_mul_left K (by omega)
  generalize (s + K - 1) / K = q at *
  exact ⟨by omega, by omega, by omega⟩
theorem lg_tdiv {K s : Nat} (hK : 1 ≤ K ∧ K ≤ 8) (hs : s ≤ 120) : wrap64 (Int.tdiv (wrap64 ((wrap64 ((s : Int) + (K : Int))) - 1)) (K : Int)) = (((s + K - 1) / K : Nat) : Int) := by
  have e1 : wrap64 (wrap64 ((s : Int) + (K : Int)) - 1) = ((s + K - 1 : Nat) : Int) := by rw [wr (n := (s : Int) + (K : Int)) (by omega) (by omega), wr (by omega) (by omega)]; omega
  rw [e1, ← Int.ofNat_tdiv, wrn (Nat.le_trans (Nat.div_le_self _ _) (by omega))]
theorem impl_long {K s : Nat} (hK : 1 ≤ K ∧ K ≤ 8) (hs : s ≤ 120) : impl_Long.f (K : Int) (s : Int) = some ((lgN K s : Nat) : Int) := by
  have h1 : (K : Int) ≥ 1 := by omega
  have h2 : (K : Int) ≤ 8 := by omega
  have h3 : (s : Int) ≥ 0 := by omega
  have h4 : (s : Int) ≤ 120 := by omega
  unfold impl_Long.f impl_in.f
  simp only [h1, h2, h3, h4, if_true, decide_true, Option.bind_some]
  rw [if_neg (by omega), lg_tdiv hK hs]
  unfold mx lgN
  generalize (s + K - 1) / K = q
  by_cases h : (q : Int) < 1
  · rw [if_pos h, show max 1 q = 1 by omega]; rfl
  · rw [if_neg h, show max 1 q = q by omega]
theorem spec_long {K s : Nat} (hK : 1 ≤ K ∧ K ≤ 8) (hs : s ≤ 120) : spec_Long.f (K : Int) (s : Int) = some ((lgN K s : Nat) : Int) := by
  have h1 : (K : Int) ≥ 1 := by omega
  have h2 : (K : Int) ≤ 8 := by omega
  have h3 : (s : Int) ≥ 0 := by omega
  have h4 : (s : Int) ≤ 120 := by omega
  unfold spec_Long.f spec_l1In.f
  simp only [h1, h2, h3, h4, if_true, decide_true, Option.bind_some]
  rw [if_neg (by omega), lg_tdiv hK hs]
  unfold spec_l1Max.f lgN
  generalize (s + K - 1) / K = q
  by_cases h : (1 : Int) > (q : Int)
  · rw [if_pos h, show max 1 q = 1 by omega]; rfl
  · rw [if_neg h, show max 1 q = q by omega]; rfl
/-- The numbers are right. -/
def numsOk (k n : Int) (s : Nat) : Prop := 1 ≤ k ∧ k ≤ n ∧ n ≤ 8 ∧ s ≤ 120
instance (k n : Int) (s : Nat) : Decidable (numsOk k n s) := by unfold numsOk; infer_instance
theorem spec_nums (k n : Int) (s : Nat) : spec_l5Numbers.f k n (s : Int) = some (decide (numsOk k n s)) := by
  unfold spec_l5Numbers.f spec_l1In.f numsOk
  by_cases h1 : k ≥ 1
  · by_cases h2 : k ≤ n
    · by_cases h3 : n ≤ 8
      · have h4 : (s : Int) ≥ 0 := by omega
        simp only [h1, h2, h3, h4, if_true, decide_true, Option.bind_some]
        congr 1
        by_cases h5 : s ≤ 120
        · simp [h5]; omega
        · simp [h5]; omega
      · simp [h1, h2, h3]
    · simp [h1, h2]
  · simp [h1]
theorem impl_nums (k n : Int) (s : Nat) : impl_codeOk.f k n (s : Int) = some (decide (numsOk k n s)) := by
  unfold impl_codeOk.f
  by_cases h : 1 ≤ k ∧ k ≤ 8 ∧ s ≤ 120
  · obtain ⟨K, rfl⟩ := Int.eq_ofNat_of_zero_le (show 0 ≤ k by omega)
    have hl := lgN_le (K := K) (s := s) (by omega) (by omega)
    rw [impl_long (by omega) (by omega), Option.bind_some, if_pos (by omega)]
    unfold impl_in.f
    by_cases h2 : n ≥ (K : Int)
    · rw [if_pos h2, Option.bind_some]
      exact congrArg some (decide_eq_decide.2 (by unfold numsOk; omega))
    · rw [if_neg h2, Option.bind_some]
      exact congrArg some (decide_eq_false (by unfold numsOk; omega)).symm
  · have e : impl_Long.f k (s : Int) = some (-1) := by
      unfold impl_Long.f impl_in.f
      by_cases h1 : k ≥ 1
      · by_cases h2 : k ≤ 8
        · have h4 : (s : Int) ≥ 0 := by omega
          have h5 : ¬ (s : Int) ≤ 120 := by omega
          simp [h1, h2, h4, h5]
        · simp [h1, h2]
      · simp [h1]
    rw [e, Option.bind_some, if_neg (by omega)]
    exact congrArg some (decide_eq_false (by unfold numsOk; omega)).symm
/-- The product of the ways from z to all places but the i-th. -/
def pr (z i : Nat) : List Nat → Nat → Nat → Nat
  | [], _, a => a
  | x :: l, j, a => if j = i then pr z i l (j + 1) a else pr z i l (j + 1) (Gf.gm a (z ^^^ x))
def inv0 (a : Nat) : Nat := if a = 0 then 0 else Gf.inv a
theorem inv0_lt {a : Nat} (h : a < 256) : inv0 a < 256 := by
  unfold inv0
  split
  · decide
  · exact Gf.inv_lt h
/-- How much the i-th place counts at z. -/
def wt (xs : List Nat) (z i : Nat) : Nat := Gf.gm (pr z i xs 0 1) (inv0 (pr (xs.getD i 0) i xs 0 1))
theorem pr_lt (z i : Nat) (l : List Nat) : ∀ j a, a < 256 → pr z i l j a < 256 := by
  induction l with
  | nil => intro j a h; exact h
  | cons x l ih =>
    intro j a h
    unfold pr
    split
    · exact ih _ _ h
    · exact ih _ _ (Gf.gm_lt _ h)
theorem wt_lt (xs : List Nat) (z i : Nat) : wt xs z i < 256 := Gf.gm_lt _ (pr_lt _ _ _ _ _ (by decide))
theorem impl_w_l1 (xs : List Nat) (hx : ∀ c ∈ xs, c < 256) (hl : xs.length ≤ 100) (z : Nat) (hz : z < 256) (o : List Nat) (ho : o.length ≤ 100) (i : Nat) (hi : i < xs.length) {R : List Int} (n : Nat) : ∀ j a b, j + n = xs.length → a < 256 → b < 256 →
    Ev (fun k => impl_weights.l0 k (I xs) (z : Int) (I (o ++ [Gf.gm (pr z i (xs.drop j) j a) (inv0 (pr (xs.getD i 0) i (xs.drop j) j b))])) (I xs) ((I xs).length : Int) (wrap64 ((i : Int) + 1))) R →
    Ev (fun k => impl_weights.l1 k (I xs) (z : Int) (I o) (i : Int) ((xs.getD i 0 : Nat) : Int) (a : Int) (b : Int) (I xs) ((I xs).length : Int) (i : Int) (I xs) ((I xs).length : Int) (j : Int)) R := by
  induction n with
  | zero =>
    intro j a b hj ha hb h
    rw [show xs.drop j = [] from List.drop_eq_nil_of_le (by omega)] at h
    refine Ev.step (fun k => impl_weights.l1.eq_2 ..) (ev_neg (by rw [I_length]; omega) (ev_bind (impl_inv hb) (ev_bind (impl_mul ha (inv0_lt hb)) (ev_pos (by rw [I_length]; omega) ?_))))
    rw [I_snoc]
    exact h
  | succ n ih =>
    intro j a b hj ha hb h
    rw [drop_getD xs 0 j (by omega)] at h
    have hxj := getD_lt hx (by decide) j
    have hxi := getD_lt hx (by decide) i
    refine Ev.step (fun k => impl_weights.l1.eq_2 ..) (ev_pos (by rw [I_length]; omega) (ev_pos (by omega) (ev_pos (by rw [I_length]; omega) ?_)))
    rw [rd_I, wr_succ (n := j) (by omega), xor8 hz hxj, xor8 hxi hxj]
    by_cases hij : j = i
    · subst hij
      refine ev_pos rfl (ih (j + 1) a b (by omega) ha hb ?_)
      unfold pr at h
      rw [if_pos rfl, if_pos rfl] at h
      exact h
    · refine ev_neg (by omega) (ev_bind (impl_mul ha (Gf.xor_lt hz hxj)) (ev_bind (impl_mul hb (Gf.xor_lt hxi hxj)) (ih (j + 1) _ _ (by omega) (Gf.gm_lt _ ha) (Gf.gm_lt _ hb) ?_)))
      unfold pr at h
      rw [if_neg hij, if_neg hij] at h
      exact h
theorem range_snoc {α : Type} (f : Nat → α) (i : Nat) : (List.range i).map f ++ [f i] = (List.range (i + 1)).map f := by rw [List.range_succ, List.map_append]; rfl
theorem impl_w_l0 (xs : List Nat) (hx : ∀ c ∈ xs, c < 256) (hl : xs.length ≤ 100) (z : Nat) (hz : z < 256) (n : Nat) : ∀ i : Nat, i + n = xs.length →
    Ev (fun k => impl_weights.l0 k (I xs) (z : Int) (I ((List.range i).map (wt xs z))) (I xs) ((I xs).length : Int) (i : Int)) (I ((List.range xs.length).map (wt xs z))) := by
  induction n with
  | zero =>
    intro i hi
    rw [show i = xs.length by omega]
    exact Ev.step (fun k => impl_weights.l0.eq_2 ..) (ev_neg (by rw [I_length]; omega) (ev_ret rfl))
  | succ n ih =>
    intro i hi
    have h := ih (i + 1) (by omega)
    rw [← range_snoc] at h
    refine Ev.step (fun k => impl_weights.l0.eq_2 ..) (ev_pos (by rw [I_length]; omega) (ev_pos (by omega) (ev_pos (by rw [I_length]; omega) ?_)))
    rw [rd_I]
    refine impl_w_l1 xs hx hl z hz _ (by simp; omega) i (by omega) xs.length 0 1 1 (by omega) (by decide) (by decide) ?_
    rw [wr_succ (by omega)]
    exact h
theorem impl_w {xs : List Nat} (hx : ∀ c ∈ xs, c < 256) (hl : xs.length ≤ 100) {z : Nat} (hz : z < 256) : Ev (fun k => impl_weights.f k (I xs) (z : Int)) (I ((List.range xs.length).map (wt xs z))) := by
  unfold impl_weights.f
  exact impl_w_l0 xs hx hl z hz xs.length 0 (by omega)
/-- The value at z of what runs through ys, summed over the first places. -/
def fy (ys xs : List Nat) (z : Nat) : Nat → Nat
  | 0 => 0
  | i + 1 => fy ys xs z i ^^^ Gf.gm (ys.getD i 0) (wt xs z i)
theorem fy_lt {ys : List Nat} (hy : ∀ c ∈ ys, c < 256) (xs : List Nat) (z i : Nat) : fy ys xs z i < 256 := by
  induction i with
  | zero => exact (by decide : 0 < 256)
  | succ i ih => exact Gf.xor_lt ih (Gf.gm_lt _ (getD_lt hy (by decide) i))
theorem spec_lag_l1 (xs ys : List Nat) (hx : ∀ c ∈ xs, c < 256) (hy : ∀ c ∈ ys, c < 256) (hl : xs.length ≤ 100) (he : ys.length = xs.length) (z : Nat) (hz : z < 256) (y : Nat) (hyy : y < 256) (i : Nat) (hi : i < xs.length) (hd : ∀ j, j < xs.length → j ≠ i → xs.getD j 0 ≠ xs.getD i 0) {R : Int × Bool} (n : Nat) : ∀ j a b, j + n = xs.length → a < 256 → b < 256 →
    Ev (fun k => spec_GfLagrange.l0 k (I xs) (I ys) (z : Int) ((y ^^^ Gf.gm (ys.getD i 0) (Gf.gm (pr z i (xs.drop j) j a) (inv0 (pr (xs.getD i 0) i (xs.drop j) j b))) : Nat) : Int) (wrap64 ((i : Int) + 1))) R →
    Ev (fun k => spec_GfLagrange.l1 k (I xs) (I ys) (z : Int) (y : Int) (i : Int) (a : Int) (b : Int) (j : Int)) R := by
  induction n with
  | zero =>
    intro j a b hj ha hb h
    rw [show xs.drop j = [] from List.drop_eq_nil_of_le (by omega)] at h
    have hyi := getD_lt hy (by decide) i
    refine Ev.step (fun k => spec_GfLagrange.l1.eq_2 ..) (ev_neg (by rw [I_length]; omega) (ev_bind (spec_inv hb) (ev_pos (by omega) (ev_pos (by rw [I_length]; omega) (ev_bind (spec_mul ha (inv0_lt hb)) ?_)))))
    rw [rd_I]
    refine ev_bind (spec_mul hyi (Gf.gm_lt _ ha)) ?_
    rw [xor8 hyy (Gf.gm_lt _ hyi)]
    exact h
  | succ n ih =>
    intro j a b hj ha hb h
    rw [drop_getD xs 0 j (by omega)] at h
    have hxj := getD_lt hx (by decide) j
    have hxi := getD_lt hx (by decide) i
    refine Ev.step (fun k => spec_GfLagrange.l1.eq_2 ..) (ev_pos (by rw [I_length]; omega) ?_)
    rw [rd_I, rd_I, wr_succ (n := j) (by omega), xor8 hz hxj, xor8 hxi hxj]
    by_cases hij : j = i
    · subst hij
      refine ev_pos rfl (ih (j + 1) a b (by omega) ha hb ?_)
      unfold pr at h
      rw [if_pos rfl, if_pos rfl] at h
      exact h
    · have hne := hd j (by omega) hij
      refine ev_neg (by omega) (ev_pos (by omega) (ev_pos (by omega) (ev_pos (by rw [I_length]; omega) (ev_neg (by omega) (ev_bind (spec_mul ha (Gf.xor_lt hz hxj)) (ev_bind (spec_mul hb (Gf.xor_lt hxi hxj)) (ih (j + 1) _ _ (by omega) (Gf.gm_lt _ ha) (Gf.gm_lt _ hb) ?_)))))))
      unfold pr at h
      rw [if_neg hij, if_neg hij] at h
      exact h
theorem spec_lag_l0 (xs ys : List Nat) (hx : ∀ c ∈ xs, c < 256) (hy : ∀ c ∈ ys, c < 256) (hl : xs.length ≤ 100) (he : ys.length = xs.length) (z : Nat) (hz : z < 256) (hd : ∀ i, i < xs.length → ∀ j, j < xs.length → j ≠ i → xs.getD j 0 ≠ xs.getD i 0) (n : Nat) : ∀ i : Nat, i + n = xs.length →
    Ev (fun k => spec_GfLagrange.l0 k (I xs) (I ys) (z : Int) ((fy ys xs z i : Nat) : Int) (i : Int)) (((fy ys xs z xs.length : Nat) : Int), true) := by
  induction n with
  | zero =>
    intro i hi
    rw [show i = xs.length by omega]
    exact Ev.step (fun k => spec_GfLagrange.l0.eq_2 ..) (ev_neg (by rw [I_length]; omega) (ev_ret rfl))
  | succ n ih =>
    intro i hi
    refine Ev.step (fun k => spec_GfLagrange.l0.eq_2 ..) (ev_pos (by rw [I_length]; omega) (spec_lag_l1 xs ys hx hy hl he z hz _ (fy_lt hy xs z i) i (by omega) (hd i (by omega)) xs.length 0 1 1 (by omega) (by decide) (by decide) ?_))
    rw [wr_succ (by omega)]
    exact ih (i + 1) (by omega)
theorem spec_lag {xs ys : List Nat} (hx : ∀ c ∈ xs, c < 256) (hy : ∀ c ∈ ys, c < 256) (h1 : 1 ≤ xs.length) (hl : xs.length ≤ 60) (he : ys.length = xs.length) {z : Nat} (hz : z < 256) (hd : ∀ i, i < xs.length → ∀ j, j < xs.length → j ≠ i → xs.getD j 0 ≠ xs.getD i 0) :
    Ev (fun k => spec_GfLagrange.f k (I xs) (I ys) (z : Int)) (((fy ys xs z xs.length : Nat) : Int), true) := by
  unfold spec_GfLagrange.f spec_l1In.f
  rw [I_length, I_length, he]
  refine ev_pure (a := true) ?_ (ev_pos rfl (Ev.step (fun k => spec_GfLagrange.j0.eq_2 ..) (ev_neg (by simp) (spec_lag_l0 xs ys hx hy (by omega) he z hz hd xs.length 0 (by omega)))))
  rw [if_pos (by omega)]
  simp
  omega
theorem map_at {α : Type} (f : Nat → α) (d : α) {n i : Nat} (h : i < n) : ((List.range n).map f).getD i d = f i := by
  rw [List.getD_eq_getElem?_getD, List.getElem?_map, List.getElem?_range h]
  rfl
theorem axpy_range (c : Nat) (f : Nat → Nat) (n : Nat) : ∀ (s : Nat) (r : List Nat), r.length = n → axpy c ((List.range' s n).map f) r = (List.range' s n).map (fun p => f p ^^^ Gf.gm c (r.getD (p - s) 0)) := by
  induction n with
  | zero => intro s r h; rfl
  | succ n ih =>
    intro s r h
    cases r with
    | nil => simp at h
    | cons x r =>
      rw [List.range'_succ, List.map_cons, List.map_cons, axpy, ih (s + 1) r (by simpa using h), Nat.sub_self]
      refine congrArg (List.cons _) (List.map_congr_left fun p hp => ?_)
      have := (List.mem_range'_1.1 hp).1
      rw [show p - s = (p - (s + 1)) + 1 by omega, List.getD_cons_succ]
theorem axpy_map (c : Nat) (f : Nat → Nat) (n : Nat) (r : List Nat) (h : r.length = n) : axpy c ((List.range n).map f) r = (List.range n).map (fun p => f p ^^^ Gf.gm c (r.getD p 0)) := by
  have := axpy_range c f n 0 r h
  rw [← List.range_eq_range'] at this
  simpa using this
/-- The first rows. -/
def RR (R : Nat → List Nat) (i : Nat) : List (List Int) := (List.range i).map fun t => I (R t)
theorem RR_length (R : Nat → List Nat) (i : Nat) : (RR R i).length = i := by simp [RR]
theorem RR_snoc (R : Nat → List Nat) (i : Nat) : RR R i ++ [I (R i)] = RR R (i + 1) := range_snoc _ i
theorem RR_at (R : Nat → List Nat) {i n : Nat} (h : i < n) : rd_L1 (RR R n) (i : Int) = I (R i) := by rw [rdB_nat]; exact map_at _ _ h
theorem RR_take (R R' : Nat → List Nat) {K i : Nat} (h : K ≤ i) (hr : ∀ t, t < K → R t = R' t) : (RR R i).take K = RR R' K := by
  unfold RR
  rw [← List.map_take, List.take_range, Nat.min_eq_left h]
  exact List.map_congr_left fun t ht => by rw [hr t (List.mem_range.1 ht)]
/-- The places' bytes at one place of the rows. -/
def col (R : Nat → List Nat) (K p : Nat) : List Nat := (List.range K).map fun t => (R t).getD p 0
theorem col_lt {R : Nat → List Nat} {K : Nat} (hR : ∀ t, t < K → ∀ c ∈ R t, c < 256) (p : Nat) : ∀ c ∈ col R K p, c < 256 := by
  intro c hc
  obtain ⟨t, ht, rfl⟩ := List.mem_map.1 hc
  exact getD_lt (hR t (List.mem_range.1 ht)) (by decide) p
theorem impl_bp_l0 (R : Nat → List Nat) (K L : Nat) (xs : List Nat) (z : Nat) (hK : K ≤ 8) (hL : L ≤ 127) (hR : ∀ t, t < K → (R t).length = L) (hb : ∀ t, t < K → ∀ c ∈ R t, c < 256) (n : Nat) : ∀ i : Nat, i + n = K →
    Ev (fun k => impl_byPlaces.l0 k (RR R K) (I ((List.range L).map fun p => fy (col R K p) xs z i)) (I ((List.range K).map (wt xs z))) ((I ((List.range K).map (wt xs z))).length : Int) (i : Int)) (I ((List.range L).map fun p => fy (col R K p) xs z K)) := by
  induction n with
  | zero =>
    intro i hi
    rw [show i = K by omega]
    exact Ev.step (fun k => impl_byPlaces.l0.eq_2 ..) (ev_neg (by rw [I_length, List.length_map, List.length_range]; omega) (ev_ret rfl))
  | succ n ih =>
    intro i hi
    have hn := ih (i + 1) (by omega)
    have hlen : (I ((List.range K).map (wt xs z))).length = K := by rw [I_length, List.length_map, List.length_range]
    refine Ev.step (fun k => impl_byPlaces.l0.eq_2 ..) (ev_pos (by rw [hlen]; omega) (ev_pos (by omega) (ev_pos (by rw [hlen]; omega) (ev_pos (by rw [RR_length]; omega) ?_))))
    rw [rd_I, map_at _ _ (by omega), RR_at R (by omega), wr_succ (by omega)]
    have ha : ∀ c ∈ (List.range L).map (fun p => fy (col R K p) xs z i), c < 256 := by
      intro c hc
      obtain ⟨p, _, rfl⟩ := List.mem_map.1 hc
      exact fy_lt (col_lt hb p) xs z i
    have hax := impl_axpy (wt_lt xs z i) ha (hb i (by omega)) (by rw [List.length_map, List.length_range]; omega)
    rw [if_pos (by rw [List.length_map, List.length_range, hR i (by omega)]), axpy_map _ _ L (R i) (hR i (by omega))] at hax
    refine ev_bind hax ?_
    have e : (fun p => fy (col R K p) xs z i ^^^ Gf.gm (wt xs z i) ((R i).getD p 0)) = fun p => fy (col R K p) xs z (i + 1) := by
      funext p
      unfold fy
      rw [show (col R K p).getD i 0 = (R i).getD p 0 from map_at _ _ (by omega), Gf.gm_comm (wt_lt xs z i) (getD_lt (hb i (by omega)) (by decide) p)]
      cases i <;> rfl
    rw [e]
    exact hn
theorem I_rep (n : Nat) : I (List.replicate n 0) = List.replicate n 0 := by simp [I]
theorem impl_bp (R : Nat → List Nat) (K L : Nat) {xs : List Nat} {z : Nat} (hK : 1 ≤ K ∧ K ≤ 8) (hL : L ≤ 127) (hR : ∀ t, t < K → (R t).length = L) (hb : ∀ t, t < K → ∀ c ∈ R t, c < 256) (hx : ∀ c ∈ xs, c < 256) (hl : xs.length = K) (hz : z < 256) :
    Ev (fun k => impl_byPlaces.f k (I xs) (RR R K) (z : Int)) (I ((List.range L).map fun p => fy (col R K p) xs z K)) := by
  unfold impl_byPlaces.f
  have e0 : rd_L1 (RR R K) 0 = I (R 0) := RR_at R (i := 0) (by omega)
  have hw := impl_w hx (by omega) hz
  rw [hl] at hw
  rw [e0, I_length, hR 0 (by omega), Int.toNat_natCast]
  refine ev_pos (by rw [RR_length]; omega) (ev_pos (by omega) (ev_pos (by omega) (ev_bind hw ?_)))
  have h := impl_bp_l0 R K L xs z hK.2 hL hR hb K 0 (by omega)
  have e : (List.range L).map (fun p => fy (col R K p) xs z 0) = List.replicate L 0 := by
    show (List.range L).map (fun _ => 0) = _
    rw [List.map_const', List.length_range]
  rw [e, I_rep] at h
  exact h
theorem impl_first_l0 (K : Nat) (hK : K ≤ 8) (n : Nat) : ∀ j : Nat, j + n = K → Ev (fun k => impl_firstPlaces.l0 k (I (List.range j)) (K : Int) (j : Int)) (I (List.range K)) := by
  induction n with
  | zero =>
    intro j hj
    rw [show j = K by omega]
    exact Ev.step (fun k => impl_firstPlaces.l0.eq_2 ..) (ev_neg (by omega) (ev_ret rfl))
  | succ n ih =>
    intro j hj
    have h := ih (j + 1) (by omega)
    rw [List.range_succ, ← I_snoc] at h
    refine Ev.step (fun k => impl_firstPlaces.l0.eq_2 ..) (ev_pos (by omega) (ev_pos (by rw [I_length, List.length_range]; omega) ?_))
    rw [wr_succ (by omega), show (j : Int) % 256 = (j : Int) by omega]
    exact h
theorem range_lt {K : Nat} (hK : K ≤ 8) : ∀ c ∈ List.range K, c < 256 := fun c hc => by have := List.mem_range.1 hc; omega
/-- The data of one place. -/
def dat (W : List Nat) (L t : Nat) : List Nat := (W.drop (t * L)).take L
/-- A place's shard. -/
def row (W : List Nat) (K L i : Nat) : List Nat := if i < K then dat W L i else (List.range L).map fun p => fy (col (dat W L) K p) (List.range K) i K
theorem row_dat (W : List Nat) (K L : Nat) : ∀ t, t < K → row W K L t = dat W L t := fun t h => by unfold row; rw [if_pos h]
theorem mulN {a b : Nat} (h : a * b ≤ 9223372036854775807) : wrap64 ((a : Int) * (b : Int)) = ((a * b : Nat) : Int) := by rw [← Int.natCast_mul, wrn h]
section
variable {W : List Nat} {K L n : Nat}
theorem dat_len (hW : W.length = K * L) : ∀ t, t < K → (dat W L t).length = L := by
  intro t ht
  have h1 := Nat.mul_le_mul_right L (show t + 1 ≤ K by omega)
  rw [Nat.succ_mul] at h1
  unfold dat
  rw [List.length_take, List.length_drop, hW]
  generalize t * L = a at *
  generalize K * L = b at *
  omega
theorem dat_lt (hb : ∀ c ∈ W, c < 256) : ∀ t, t < K → ∀ c ∈ dat W L t, c < 256 := fun _ _ c hc => hb c (List.mem_of_mem_drop (List.mem_of_mem_take hc))
theorem cut_eq (W : List Nat) (L i : Nat) : ((I W).take (i * L + L)).drop (i * L) = I (dat W L i) := by
  unfold dat
  rw [I_take, I_drop, List.drop_take, Nat.add_sub_cancel_left]
theorem impl_enc_l0 (hK : 1 ≤ K ∧ K ≤ 8) (hn : n ≤ 8) (hL : L ≤ 127) (hW : W.length = K * L) (hb : ∀ c ∈ W, c < 256) (m : Nat) : ∀ i : Nat, i + m = n →
    Ev (fun k => impl_encode.l0 k (K : Int) (L : Int) (I W) (RR (row W K L) i) (n : Int) (i : Int)) (RR (row W K L) n) := by
  have hKL : K * L ≤ 1016 := Nat.mul_le_mul hK.2 hL
  induction m with
  | zero =>
    intro i hi
    rw [show i = n by omega]
    exact Ev.step (fun k => impl_encode.l0.eq_2 ..) (ev_neg (by omega) (ev_ret rfl))
  | succ m ih =>
    intro i hi
    have h := ih (i + 1) (by omega)
    rw [← RR_snoc] at h
    refine Ev.step (fun k => impl_encode.l0.eq_2 ..) (ev_pos (by omega) ?_)
    by_cases hi2 : i < K
    · have h1 := Nat.mul_le_mul_right L (show i + 1 ≤ K by omega)
      rw [Nat.succ_mul] at h1
      have e2 : wrap64 (wrap64 ((i : Int) + 1) * (L : Int)) = ((i * L + L : Nat) : Int) := by rw [wr_succ (by omega), mulN (by rw [Nat.succ_mul]; omega), Nat.succ_mul]
      refine ev_pos (by omega) ?_
      rw [e2, mulN (by omega), Int.toNat_natCast, Int.toNat_natCast, cut_eq, wr_succ (by omega)]
      rw [row_dat W K L i hi2] at h
      have hd : (dat W L i).length ≤ L := by unfold dat; exact List.length_take_le _ _
      refine ev_pos (by omega) (ev_pos (by omega) (ev_pos (by rw [I_length, hW]; omega) (ev_pure (a := I (dat W L i)) ?_ (ev_pos (by rw [RR_length]; omega) h))))
      unfold bytes_Clone.f
      rw [if_pos (by rw [I_length]; omega)]
    · refine ev_neg (by omega) ?_
      unfold impl_firstPlaces.f
      refine ev_bind (impl_first_l0 K hK.2 K 0 (by omega)) (ev_pos (by omega) (ev_pos (by rw [RR_length]; omega) ?_))
      rw [Int.toNat_natCast, RR_take (row W K L) (dat W L) (by omega) (row_dat W K L), show (i : Int) % 256 = (i : Int) by omega]
      refine ev_bind (impl_bp (dat W L) K L hK hL (dat_len hW) (dat_lt hb) (range_lt hK.2) List.length_range (by omega)) (ev_pos (by rw [RR_length]; omega) ?_)
      rw [wr_succ (by omega)]
      rw [show row W K L i = _ from if_neg hi2] at h
      exact h
theorem spec_col_l0 (R : Nat → List Nat) (hK : K ≤ 8) (hR : ∀ t, t < K → (R t).length = L) (p : Nat) (hp : p < L) (n : Nat) : ∀ i : Nat, i + n = K →
    Ev (fun k => spec_l5Column.l0 k (RR R K) (p : Int) (I (col R i p)) (i : Int)) (I (col R K p)) := by
  induction n with
  | zero =>
    intro i hi
    rw [show i = K by omega]
    exact Ev.step (fun k => spec_l5Column.l0.eq_2 ..) (ev_neg (by rw [RR_length]; omega) (ev_ret rfl))
  | succ n ih =>
    intro i hi
    have h := ih (i + 1) (by omega)
    have e : I (col R (i + 1) p) = I (col R i p) ++ [(((R i).getD p 0 : Nat) : Int)] := by
      rw [I_snoc]
      exact congrArg I (range_snoc _ i).symm
    rw [e] at h
    refine Ev.step (fun k => spec_l5Column.l0.eq_2 ..) (ev_pos (by rw [RR_length]; omega) (ev_pos (by omega) (ev_pos (by omega) ?_)))
    rw [RR_at R (by omega), rd_I, wr_succ (by omega)]
    refine ev_pos (by rw [I_length, hR i (by omega)]; omega) (ev_pos ?_ h)
    rw [I_length]
    unfold col
    rw [List.length_map, List.length_range]
    omega
theorem range_ne {K : Nat} : ∀ i, i < (List.range K).length → ∀ j, j < (List.range K).length → j ≠ i → (List.range K).getD j 0 ≠ (List.range K).getD i 0 := by
  intro i hi j hj h
  rw [List.length_range] at hi hj
  rw [List.getD_eq_getElem?_getD, List.getD_eq_getElem?_getD, List.getElem?_range hi, List.getElem?_range hj]
  exact h
theorem spec_enc_l2 (hK : 1 ≤ K ∧ K ≤ 8) (hL : L ≤ 127) (hW : W.length = K * L) (hb : ∀ c ∈ W, c < 256) (i : Nat) (hi : K ≤ i) (hi2 : i < 8) {N : Int} {R : List (List Int) × Bool}
    (h0 : Ev (fun k => spec_Encode.l1 k (K : Int) N (L : Int) (RR (row W K L) (i + 1)) (I (List.range K)) (wrap64 ((i : Int) + 1))) R) (m : Nat) : ∀ p : Nat, p + m = L →
    Ev (fun k => spec_Encode.l2 k (K : Int) N (L : Int) (RR (row W K L) i) (I (List.range K)) (i : Int) (I ((List.range p).map fun q => fy (col (dat W L) K q) (List.range K) i K)) (p : Int)) R := by
  induction m with
  | zero =>
    intro p hp
    rw [show p = L by omega]
    rw [← RR_snoc, show row W K L i = _ from if_neg (by omega)] at h0
    exact Ev.step (fun k => spec_Encode.l2.eq_2 ..) (ev_neg (by omega) (ev_pos (by rw [RR_length]; omega) h0))
  | succ m ih =>
    intro p hp
    have h := ih (p + 1) (by omega)
    rw [← range_snoc, ← I_snoc] at h
    refine Ev.step (fun k => spec_Encode.l2.eq_2 ..) (ev_pos (by omega) (ev_pos (by omega) (ev_pos (by rw [RR_length]; omega) ?_)))
    rw [Int.toNat_natCast, RR_take (row W K L) (dat W L) hi (row_dat W K L), show (i : Int) % 256 = (i : Int) by omega, wr_succ (by omega)]
    have hc : Ev (fun k => spec_l5Column.f k (RR (dat W L) K) (p : Int)) (I (col (dat W L) K p)) := by
      unfold spec_l5Column.f
      exact spec_col_l0 (dat W L) hK.2 (dat_len hW) p (by omega) K 0 (by omega)
    have hlag := spec_lag (xs := List.range K) (ys := col (dat W L) K p) (z := i) (range_lt hK.2) (col_lt (dat_lt hb) p) (by rw [List.length_range]; omega) (by rw [List.length_range]; omega) (by unfold col; rw [List.length_map]) (by omega) range_ne
    rw [List.length_range] at hlag
    refine ev_bind hc (ev_bind hlag (ev_pos ?_ h))
    rw [I_length, List.length_map, List.length_range]
    omega
theorem spec_enc_l1 (hK : 1 ≤ K ∧ K ≤ 8) (hn : n ≤ 8) (hL : L ≤ 127) (hW : W.length = K * L) (hb : ∀ c ∈ W, c < 256) (m : Nat) : ∀ i : Nat, i + m = n → K ≤ i →
    Ev (fun k => spec_Encode.l1 k (K : Int) (n : Int) (L : Int) (RR (row W K L) i) (I (List.range K)) (i : Int)) (RR (row W K L) n, true) := by
  induction m with
  | zero =>
    intro i hi _
    rw [show i = n by omega]
    exact Ev.step (fun k => spec_Encode.l1.eq_2 ..) (ev_neg (by omega) (ev_ret rfl))
  | succ m ih =>
    intro i hi hk
    refine Ev.step (fun k => spec_Encode.l1.eq_2 ..) (ev_pos (by omega) (spec_enc_l2 hK hL hW hb i hk (by omega) ?_ L 0 (by omega)))
    rw [wr_succ (by omega)]
    exact ih (i + 1) (by omega) (by omega)
theorem spec_b {p : List Int} (hp : p.length ≤ 1048576) : spec_l1Bytes.f p = some p := by
  unfold spec_l1Bytes.f
  rw [Option.bind_some, if_pos (by simp only [List.length_nil]; omega), List.nil_append]
theorem spec_enc_l0 (hK : 1 ≤ K ∧ K ≤ 8) (hn : n ≤ 8) (hkn : K ≤ n) (hL : L ≤ 127) (hW : W.length = K * L) (hb : ∀ c ∈ W, c < 256) (m : Nat) : ∀ i : Nat, i + m = K →
    Ev (fun k => spec_Encode.l0 k (K : Int) (n : Int) (L : Int) (I W) (RR (row W K L) i) (I (List.range i)) (i : Int)) (RR (row W K L) n, true) := by
  have hKL : K * L ≤ 1016 := Nat.mul_le_mul hK.2 hL
  induction m with
  | zero =>
    intro i hi
    rw [show i = K by omega]
    exact Ev.step (fun k => spec_Encode.l0.eq_2 ..) (ev_neg (by omega) (spec_enc_l1 hK hn hL hW hb (n - K) K (by omega) (Nat.le_refl _)))
  | succ m ih =>
    intro i hi
    have h := ih (i + 1) (by omega)
    rw [← RR_snoc, row_dat W K L i (by omega), List.range_succ, ← I_snoc] at h
    have h1 := Nat.mul_le_mul_right L (show i + 1 ≤ K by omega)
    rw [Nat.succ_mul] at h1
    have e2 : wrap64 (((i * L : Nat) : Int) + (L : Int)) = ((i * L + L : Nat) : Int) := by rw [← Int.natCast_add, wrn (by omega)]
    refine Ev.step (fun k => spec_Encode.l0.eq_2 ..) (ev_pos (by omega) ?_)
    rw [mulN (by omega), e2, Int.toNat_natCast, Int.toNat_natCast, cut_eq, wr_succ (by omega), show (i : Int) % 256 = (i : Int) by omega]
    have hd : (dat W L i).length ≤ L := by unfold dat; exact List.length_take_le _ _
    exact ev_pos (by omega) (ev_pos (by omega) (ev_pos (by rw [I_length, hW]; omega) (ev_pure (spec_b (by rw [I_length]; omega)) (ev_pos (by rw [RR_length]; omega) (ev_pos (by rw [I_length, List.length_range]; omega) h)))))
end
/-- The shards of data, and whether there are some. -/
def encoded (k n : Int) (m : List Nat) : List (List Int) × Bool := if numsOk k n m.length then (RR (row (m ++ List.replicate (k.toNat * lgN k.toNat m.length - m.length) 0) k.toNat (lgN k.toNat m.length)) n.toNat, true) else ([], false)
theorem whole_ok {K : Nat} {m : List Nat} (hK : 1 ≤ K ∧ K ≤ 8) (hs : m.length ≤ 120) (hm : ∀ c ∈ m, c < 256) : (m ++ List.replicate (K * lgN K m.length - m.length) 0).length = K * lgN K m.length ∧ ∀ c ∈ m ++ List.replicate (K * lgN K m.length - m.length) 0, c < 256 := by
  have h := (lgN_le hK hs).2.1
  refine ⟨by rw [List.length_append, List.length_replicate]; omega, fun c hc => ?_⟩
  rcases List.mem_append.1 hc with hc | hc
  · exact hm c hc
  · rw [(List.mem_replicate.1 hc).2]
    decide
theorem pad_eq {K L s : Nat} (h1 : K * L ≤ 1016) (h2 : s ≤ K * L) : wrap64 (wrap64 ((K : Int) * (L : Int)) - (s : Int)) = ((K * L - s : Nat) : Int) := by
  rw [mulN (by omega), wr (by omega) (by omega)]
  omega
theorem impl_enc {K n : Nat} {m : List Nat} (hK : 1 ≤ K ∧ K ≤ 8) (hn : n ≤ 8) (hs : m.length ≤ 120) (hm : ∀ c ∈ m, c < 256) :
    Ev (fun k => impl_encode.f k (K : Int) (n : Int) (I m)) (RR (row (m ++ List.replicate (K * lgN K m.length - m.length) 0) K (lgN K m.length)) n) := by
  unfold impl_encode.f
  have hl := lgN_le hK hs
  have hw := whole_ok hK hs hm
  have hKL : K * lgN K m.length ≤ 1016 := Nat.mul_le_mul hK.2 hl.1
  rw [I_length]
  refine ev_pure (impl_long hK hs) (ev_pure (a := I m) ?_ ?_)
  · unfold bytes_Clone.f
    rw [if_pos (by rw [I_length]; omega)]
  · rw [pad_eq hKL hl.2.1, Int.toNat_natCast, I_length, ← I_rep, ← I_append]
    exact ev_pos (by omega) (ev_pos (by omega) (impl_enc_l0 hK hn hl.1 hw.1 hw.2 n 0 (by omega)))
theorem spec_encodeF (k n : Int) {m : List Nat} (hm : ∀ c ∈ m, c < 256) : Ev (fun q => spec_Encode.f q k n (I m)) (encoded k n m) := by
  unfold spec_Encode.f encoded
  rw [I_length]
  refine ev_pure (spec_nums k n m.length) ?_
  by_cases h : numsOk k n m.length
  · rw [if_pos h]
    refine ev_pos (decide_eq_true h) ?_
    obtain ⟨h1, h2, h3, h4⟩ := h
    obtain ⟨K, rfl⟩ := Int.eq_ofNat_of_zero_le (show 0 ≤ k by omega)
    obtain ⟨N, rfl⟩ := Int.eq_ofNat_of_zero_le (show 0 ≤ n by omega)
    rw [Int.toNat_natCast, Int.toNat_natCast]
    have hK : 1 ≤ K ∧ K ≤ 8 := by omega
    have hl := lgN_le hK h4
    have hw := whole_ok hK h4 hm
    have hKL : K * lgN K m.length ≤ 1016 := Nat.mul_le_mul hK.2 hl.1
    refine ev_pure (spec_long hK h4) (ev_pure (spec_b (by rw [I_length]; omega)) ?_)
    rw [pad_eq hKL hl.2.1, Int.toNat_natCast, I_length, ← I_rep, ← I_append]
    exact ev_pos (by omega) (ev_pos (by omega) (spec_enc_l0 hK (by omega) (by omega) hl.1 hw.1 hw.2 K 0 (by omega)))
  · rw [if_neg h]
    exact ev_neg (by simp only [decide_eq_true_eq]; exact h) (ev_ret rfl)
theorem tot_bound (l : List (List Int)) (b : Nat) (h : ∀ x ∈ l, x.length ≤ b) : tot l ≤ l.length * (b + 1) := by
  unfold tot
  induction l with
  | nil => exact Nat.zero_le _
  | cons x l ih =>
    have h1 := h x List.mem_cons_self
    have h2 := ih fun y hy => h y (List.mem_cons_of_mem _ hy)
    unfold tsum
    rw [List.length_cons, Nat.succ_mul]
    omega
theorem encoded_le (k n : Int) (m : List Nat) : tot (encoded k n m).1 ≤ 1000000000000 := by
  unfold encoded
  split
  · rename_i h
    obtain ⟨h1, h2, h3, h4⟩ := h
    have hl := (lgN_le (K := k.toNat) (s := m.length) (by omega) h4).1
    generalize lgN k.toNat m.length = L at *
    refine Nat.le_trans (tot_bound _ 127 fun x hx => ?_) ?_
    · obtain ⟨t, _, rfl⟩ := List.mem_map.1 hx
      rw [I_length]
      unfold row dat
      split
      · exact Nat.le_trans (List.length_take_le _ _) hl
      · rw [List.length_map, List.length_range]
        exact hl
    · rw [RR_length]
      omega
  · exact Nat.zero_le _
theorem strs_map (l : List Int) : (strOfNums l).toList = l.map (fun n => UInt8.ofNat n.toNat) := ByteArray.toList_mk _
/-- As the two programs compare two texts. -/
def same (p q : List Int) : Bool := (strOfNums p).toList == (strOfNums q).toList
theorem same_self (p : List Int) : same p p = true := by simp [same]
theorem same_imp (p : List Int) : ∀ q : List Int, (∀ x ∈ p, 0 ≤ x ∧ x < 256) → (∀ x ∈ q, 0 ≤ x ∧ x < 256) → same p q = true → p = q := by
  induction p with
  | nil =>
    intro q _ _ h
    cases q with
    | nil => rfl
    | cons y q => simp [same, strs_map] at h
  | cons x p ih =>
    intro q hp hq h
    cases q with
    | nil => simp [same, strs_map] at h
    | cons y q =>
      unfold same at h
      rw [strs_map, strs_map, List.map_cons, List.map_cons, beq_iff_eq, List.cons.injEq] at h
      obtain ⟨h1, h2⟩ := h
      have hx := hp x List.mem_cons_self
      have hy := hq y List.mem_cons_self
      have e : x.toNat = y.toNat := by
        have := congrArg UInt8.toNat h1
        simp only [UInt8.toNat_ofNat'] at this
        omega
      have exy : x = y := by omega
      subst exy
      rw [ih q (fun z hz => hp z (List.mem_cons_of_mem _ hz)) (fun z hz => hq z (List.mem_cons_of_mem _ hz)) (by unfold same; rw [strs_map, strs_map, beq_iff_eq]; exact h2)]
/-- The places are within bounds, and unlike. -/
def okAt (n : Int) : List Int → List Int → Bool
  | _, [] => true
  | p, x :: l => if 0 ≤ x ∧ x ≤ n - 1 then (if x ∈ p then false else okAt n (p ++ [x]) l) else false
theorem okAt_all (n : Int) (l : List Int) : ∀ p : List Int, p.Nodup → (∀ x ∈ p, 0 ≤ x ∧ x ≤ n - 1) → okAt n p l = true → (p ++ l).Nodup ∧ ∀ x ∈ p ++ l, 0 ≤ x ∧ x ≤ n - 1 := by
  induction l with
  | nil =>
    intro p h1 h2 _
    rw [List.append_nil]
    exact ⟨h1, h2⟩
  | cons x l ih =>
    intro p h1 h2 h
    unfold okAt at h
    by_cases hx : 0 ≤ x ∧ x ≤ n - 1
    · rw [if_pos hx] at h
      by_cases hm : x ∈ p
      · rw [if_pos hm] at h
        cases h
      · rw [if_neg hm] at h
        have := ih (p ++ [x]) ?_ ?_ h
        · rw [List.append_assoc] at this
          exact this
        · rw [List.nodup_append]
          refine ⟨h1, by simp, ?_⟩
          intro a ha b hb hab
          rw [List.mem_singleton] at hb
          subst hb
          subst hab
          exact hm ha
        · intro y hy
          rcases List.mem_append.1 hy with hy | hy
          · exact h2 y hy
          · rw [List.mem_singleton] at hy
            subst hy
            exact hx
    · rw [if_neg hx] at h
      cases h
theorem pigeon (n : Nat) : ∀ l : List Int, l.Nodup → (∀ x ∈ l, 0 ≤ x ∧ x ≤ (n : Int) - 1) → l.length ≤ n := by
  induction n with
  | zero =>
    intro l _ h
    cases l with
    | nil => exact Nat.le_refl _
    | cons x l => have := h x List.mem_cons_self; omega
  | succ n ih =>
    intro l hn h
    by_cases hm : (n : Int) ∈ l
    · have h1 := ih (l.erase (n : Int)) (hn.erase _) (fun x hx => by
        have h2 := (List.Nodup.mem_erase_iff hn).1 hx
        have h3 := h x h2.2
        have h4 := h2.1
        omega)
      rw [List.length_erase_of_mem hm] at h1
      omega
    · have := ih l hn (fun x hx => by
        have h3 := h x hx
        have : x ≠ (n : Int) := fun e => hm (e ▸ hx)
        omega)
      omega
theorem okAt_len {n : Int} {l : List Int} (h0 : 0 ≤ n) (h : okAt n [] l = true) : (l.length : Int) ≤ n := by
  have h1 := okAt_all n l [] List.nodup_nil (fun x hx => by cases hx) h
  obtain ⟨N, rfl⟩ := Int.eq_ofNat_of_zero_le h0
  have := pigeon N l h1.1 h1.2
  omega
theorem in_eq {x n : Int} (f : Int → Int → Int → Option Bool) (hf : ∀ a b c, f a b c = if a ≥ b then (some (decide (a ≤ c))) else (some false)) : f x 0 (n - 1) = some (decide (0 ≤ x ∧ x ≤ n - 1)) := by
  rw [hf]
  by_cases h : x ≥ 0
  · rw [if_pos h]
    exact congrArg some (decide_eq_decide.2 (by omega))
  · rw [if_neg h]
    exact congrArg some (decide_eq_false (by omega)).symm
theorem dropI {l : List Int} {i : Nat} (h : i < l.length) : l.drop i = l.getD i 0 :: l.drop (i + 1) := drop_getD l 0 i h
theorem getD_memI {l : List Int} {i : Nat} (h : i < l.length) : l.getD i 0 ∈ l := by
  rw [List.getD_eq_getElem?_getD, List.getElem?_eq_getElem h]
  exact List.getElem_mem h
theorem spec_at_l1 (n : Int) (l : List Int) (hl : l.length ≤ 1048576) (i : Nat) (hi : i < l.length) {R : Bool} (h0 : Ev (fun k => spec_l5At.l0 k n l (wrap64 ((i : Int) + 1))) R) (m : Nat) : ∀ j : Nat, j + m = i →
    Ev (fun k => spec_l5At.l1 k n l (i : Int) (j : Int)) (if l.getD i 0 ∈ (l.take i).drop j then false else R) := by
  have hlen : (l.take i).length = i := by rw [List.length_take]; omega
  induction m with
  | zero =>
    intro j hj
    rw [show (l.take i).drop j = [] from List.drop_eq_nil_of_le (by omega), if_neg (by simp)]
    exact Ev.step (fun k => spec_l5At.l1.eq_2 ..) (ev_neg (by omega) h0)
  | succ m ih =>
    intro j hj
    have h := ih (j + 1) (by omega)
    have e : (l.take i).getD j 0 = l.getD j 0 := by rw [List.getD_eq_getElem?_getD, List.getElem?_take_of_lt (by omega), List.getD_eq_getElem?_getD]
    rw [dropI (l := l.take i) (by omega), e]
    refine Ev.step (fun k => spec_l5At.l1.eq_2 ..) (ev_pos (by omega) (ev_pos (by omega) (ev_pos (by omega) (ev_pos (by omega) (ev_pos (by omega) ?_)))))
    rw [rd_nat, rd_nat, wr_succ (by omega)]
    generalize l.getD i 0 = x at h ⊢
    by_cases hx : l.getD j 0 = x
    · rw [if_pos (by rw [hx]; exact List.mem_cons_self)]
      exact ev_pos hx (ev_ret rfl)
    · refine ev_neg hx ?_
      by_cases hm : x ∈ (l.take i).drop (j + 1)
      · rw [if_pos hm] at h
        rw [if_pos (List.mem_cons_of_mem _ hm)]
        exact h
      · rw [if_neg hm] at h
        rw [if_neg (fun hc => (List.mem_cons.1 hc).elim (fun e => hx e.symm) hm)]
        exact h
theorem spec_at_l0 (n : Int) (hn : 1 ≤ n ∧ n ≤ 8) (l : List Int) (hl : l.length ≤ 1048576) (m : Nat) : ∀ i : Nat, i + m = l.length →
    Ev (fun k => spec_l5At.l0 k n l (i : Int)) (okAt n (l.take i) (l.drop i)) := by
  induction m with
  | zero =>
    intro i hi
    rw [show l.drop i = [] from List.drop_eq_nil_of_le (by omega)]
    exact Ev.step (fun k => spec_l5At.l0.eq_2 ..) (ev_neg (by omega) (ev_ret rfl))
  | succ m ih =>
    intro i hi
    have h := ih (i + 1) (by omega)
    rw [← take_getD l 0 i (by omega), ← wr_succ (n := i) (by omega)] at h
    rw [dropI (l := l) (by omega)]
    refine Ev.step (fun k => spec_l5At.l0.eq_2 ..) (ev_pos (by omega) (ev_pos (by omega) ?_))
    rw [rd_nat, wr (n := n - 1) (by omega) (by omega)]
    refine ev_pure (in_eq spec_l1In.f (fun _ _ _ => rfl)) ?_
    unfold okAt
    by_cases hx : 0 ≤ l.getD i 0 ∧ l.getD i 0 ≤ n - 1
    · rw [if_pos hx]
      exact ev_pos (decide_eq_true hx) (spec_at_l1 n l hl i (by omega) h i 0 (by omega))
    · rw [if_neg hx]
      exact ev_neg (by simp only [decide_eq_true_eq]; exact hx) (ev_ret rfl)
theorem spec_at (n : Int) (hn : 1 ≤ n ∧ n ≤ 8) (l : List Int) (hl : l.length ≤ 1048576) (ss : List (List Int)) :
    Ev (fun k => spec_l5At.f k n l ss) (decide (l.length = ss.length) && okAt n [] l) := by
  unfold spec_l5At.f
  have h0 := spec_at_l0 n hn l hl l.length 0 (by omega)
  rw [List.take_zero, List.drop_zero] at h0
  by_cases h1 : l.length = ss.length
  · refine ev_pos (by omega) (Ev.step (fun k => spec_l5At.j0.eq_2 ..) ?_)
    rw [decide_eq_true h1, Bool.true_and]
    by_cases h2 : (l.length : Int) > n
    · refine ev_pos (decide_eq_true h2) (ev_ret ?_)
      cases h3 : okAt n [] l
      · rfl
      · have := okAt_len (by omega) h3
        omega
    · exact ev_neg (by simp only [decide_eq_true_eq]; exact h2) h0
  · refine ev_neg (by omega) (Ev.step (fun k => spec_l5At.j0.eq_2 ..) (ev_pos rfl (ev_ret ?_)))
    rw [decide_eq_false h1, Bool.false_and]
/-- Where a number stands first. -/
def ixf (x : Int) : List Int → Nat → Int
  | [], _ => -1
  | y :: l, j => if x = y then (j : Int) else ixf x l (j + 1)
theorem ixf_mem (x : Int) (l : List Int) : ∀ j, decide (ixf x l j ≥ 0) = decide (x ∈ l) := by
  induction l with
  | nil => intro j; simp [ixf]
  | cons y l ih =>
    intro j
    unfold ixf
    by_cases h : x = y
    · rw [if_pos h, decide_eq_true (by omega), decide_eq_true (by rw [h]; exact List.mem_cons_self)]
    · rw [if_neg h, ih]
      exact decide_eq_decide.2 ⟨List.mem_cons_of_mem _, fun hc => (List.mem_cons.1 hc).elim (fun e => absurd e h) id⟩
theorem index_l0 (p : List Int) (x : Int) (hp : p.length ≤ 1048576) (m : Nat) : ∀ j : Nat, j + m = p.length → Ev (fun k => slices_Index_int_int.l0 k p x (p.length : Int) (j : Int)) (ixf x (p.drop j) j) := by
  induction m with
  | zero =>
    intro j hj
    rw [show p.drop j = [] from List.drop_eq_nil_of_le (by omega)]
    exact Ev.step (fun k => slices_Index_int_int.l0.eq_2 ..) (ev_neg (by omega) (ev_ret rfl))
  | succ m ih =>
    intro j hj
    rw [dropI (l := p) (by omega)]
    refine Ev.step (fun k => slices_Index_int_int.l0.eq_2 ..) (ev_pos (by omega) (ev_pos (by omega) (ev_pos (by omega) ?_)))
    rw [rd_nat, wr_succ (by omega)]
    unfold ixf
    by_cases h : x = p.getD j 0
    · rw [if_pos h]
      exact ev_pos h (ev_ret rfl)
    · rw [if_neg h]
      exact ev_neg h (ih (j + 1) (by omega))
theorem contains_eq (p : List Int) (x : Int) (hp : p.length ≤ 1048576) : Ev (fun k => slices_Contains_int_int.f k p x) (decide (x ∈ p)) := by
  unfold slices_Contains_int_int.f slices_Index_int_int.f
  have h := index_l0 p x hp p.length 0 (by omega)
  rw [List.drop_zero] at h
  refine ev_bind h (ev_ret ?_)
  exact ixf_mem x p 0
theorem impl_un_l0 (n : Int) (hn : 1 ≤ n ∧ n ≤ 8) (l : List Int) (hl : l.length ≤ 1048576) (m : Nat) : ∀ i : Nat, i + m = l.length →
    Ev (fun k => impl_unlike.l0 k l n l (l.length : Int) (i : Int)) (okAt n (l.take i) (l.drop i)) := by
  induction m with
  | zero =>
    intro i hi
    rw [show l.drop i = [] from List.drop_eq_nil_of_le (by omega)]
    exact Ev.step (fun k => impl_unlike.l0.eq_2 ..) (ev_neg (by omega) (ev_ret rfl))
  | succ m ih =>
    intro i hi
    have h := ih (i + 1) (by omega)
    rw [← take_getD l 0 i (by omega)] at h
    rw [dropI (l := l) (by omega)]
    refine Ev.step (fun k => impl_unlike.l0.eq_2 ..) (ev_pos (by omega) (ev_pos (by omega) (ev_pos (by omega) ?_)))
    rw [rd_nat, wr (n := n - 1) (by omega) (by omega), wr_succ (by omega), Int.toNat_natCast]
    refine ev_pure (in_eq impl_in.f (fun _ _ _ => rfl)) ?_
    unfold okAt
    by_cases hx : 0 ≤ l.getD i 0 ∧ l.getD i 0 ≤ n - 1
    · rw [if_pos hx]
      refine ev_pos (decide_eq_true hx) (ev_pos (by omega) (ev_bind (contains_eq (l.take i) (l.getD i 0) (by rw [List.length_take]; omega)) ?_))
      by_cases hm : l.getD i 0 ∈ l.take i
      · rw [if_pos hm]
        exact ev_pos (decide_eq_true hm) (ev_ret rfl)
      · rw [if_neg hm]
        exact ev_neg (by simp only [decide_eq_true_eq]; exact hm) h
    · rw [if_neg hx]
      exact ev_neg (by simp only [decide_eq_true_eq]; exact hx) (ev_ret rfl)
theorem impl_un (n : Int) (hn : 1 ≤ n ∧ n ≤ 8) (l : List Int) (hl : l.length ≤ 1048576) : Ev (fun k => impl_unlike.f k l n) (okAt n [] l) := by
  unfold impl_unlike.f
  have h0 := impl_un_l0 n hn l hl l.length 0 (by omega)
  rw [List.take_zero, List.drop_zero] at h0
  exact h0
/-- The first shard that is another. -/
def chk (all : List (List Int)) : List Int → List (List Int) → Nat → Int × Bool
  | x :: l, s :: ss, i => if same (all.getD x.toNat []) s = true then chk all l ss (i + 1) else ((i : Int), true)
  | _, _, _ => (-1, true)
theorem same_comm (p q : List Int) : same p q = same q p := by
  unfold same
  rw [Bool.eq_iff_iff, beq_iff_eq, beq_iff_eq]
  exact eq_comm
theorem rdB_int (l : List (List Int)) (x : Int) : rd_L1 l x = l.getD x.toNat [] := rfl
theorem spec_re_l0 (all : List (List Int)) (l : List Int) (ss : List (List Int)) (hl : l.length ≤ 1048576) (he : l.length = ss.length) (hr : ∀ x ∈ l, 0 ≤ x ∧ x < (all.length : Int)) (m : Nat) : ∀ i : Nat, i + m = l.length →
    Ev (fun k => spec_Recheck.l0 k l ss all (i : Int)) (chk all (l.drop i) (ss.drop i) i) := by
  induction m with
  | zero =>
    intro i hi
    rw [show l.drop i = [] from List.drop_eq_nil_of_le (by omega)]
    exact Ev.step (fun k => spec_Recheck.l0.eq_2 ..) (ev_neg (by omega) (ev_ret (by unfold chk; rfl)))
  | succ m ih =>
    intro i hi
    have h := ih (i + 1) (by omega)
    have hx := hr _ (getD_memI (l := l) (i := i) (by omega))
    rw [dropI (l := l) (by omega), dropB (l := ss) (by omega)]
    refine Ev.step (fun k => spec_Recheck.l0.eq_2 ..) (ev_pos (by omega) (ev_pos (by omega) (ev_pos (by omega) ?_)))
    rw [rd_nat, rdB_nat, rdB_int, wr_succ (by omega)]
    refine ev_pos hx.1 (ev_pos hx.2 (ev_pure (a := same (ss.getD i []) (all.getD (l.getD i 0).toNat [])) rfl ?_))
    unfold chk
    rw [same_comm]
    by_cases hs : same (all.getD (l.getD i 0).toNat []) (ss.getD i []) = true
    · rw [if_pos hs]
      exact ev_pos hs h
    · rw [if_neg hs]
      exact ev_neg hs (ev_ret rfl)
theorem impl_re_l0 (all : List (List Int)) (l : List Int) (ss : List (List Int)) (hl : l.length ≤ 1048576) (he : l.length = ss.length) (hr : ∀ x ∈ l, 0 ≤ x ∧ x < (all.length : Int)) (m : Nat) : ∀ i : Nat, i + m = l.length →
    Ev (fun k => impl_Recheck.l0 k ss all l (l.length : Int) (i : Int)) (chk all (l.drop i) (ss.drop i) i) := by
  induction m with
  | zero =>
    intro i hi
    rw [show l.drop i = [] from List.drop_eq_nil_of_le (by omega)]
    exact Ev.step (fun k => impl_Recheck.l0.eq_2 ..) (ev_neg (by omega) (ev_ret (by unfold chk; rfl)))
  | succ m ih =>
    intro i hi
    have h := ih (i + 1) (by omega)
    have hx := hr _ (getD_memI (l := l) (i := i) (by omega))
    rw [dropI (l := l) (by omega), dropB (l := ss) (by omega)]
    refine Ev.step (fun k => impl_Recheck.l0.eq_2 ..) (ev_pos (by omega) (ev_pos (by omega) (ev_pos (by omega) ?_)))
    rw [rd_nat, rdB_nat, rdB_int, wr_succ (by omega)]
    refine ev_pos hx.1 (ev_pos hx.2 (ev_pos (by omega) (ev_pure (a := same (all.getD (l.getD i 0).toNat []) (ss.getD i [])) rfl ?_)))
    unfold chk
    by_cases hs : same (all.getD (l.getD i 0).toNat []) (ss.getD i []) = true
    · rw [if_pos hs]
      exact ev_pos hs h
    · rw [if_neg hs]
      exact ev_neg hs (ev_ret rfl)
def recheck (k n : Int) (m : List Nat) (l : List Int) (ss : List (List Int)) : Int × Bool :=
  if numsOk k n m.length ∧ l.length = ss.length ∧ okAt n [] l = true then chk (encoded k n m).1 l ss 0 else (-2, false)
theorem encoded_len {k n : Int} {m : List Nat} (h : numsOk k n m.length) : ((encoded k n m).1.length : Int) = n ∧ (encoded k n m).2 = true := by
  unfold encoded
  rw [if_pos h]
  obtain ⟨h1, h2, _, _⟩ := h
  refine ⟨?_, rfl⟩
  rw [RR_length]
  omega
theorem okAt_in {n : Int} {l : List Int} (h : okAt n [] l = true) (x : Int) (hx : x ∈ l) : 0 ≤ x ∧ x ≤ n - 1 := (okAt_all n l [] List.nodup_nil (fun x hx => by cases hx) h).2 x hx
theorem spec_recheck (k n : Int) {m : List Nat} (hm : ∀ c ∈ m, c < 256) (l : List Int) (hl : l.length ≤ 1048576) (ss : List (List Int)) : Ev (fun q => spec_Recheck.f q k n (I m) l ss) (recheck k n m l ss) := by
  unfold spec_Recheck.f recheck
  refine ev_bind (spec_encodeF k n hm) ?_
  by_cases h : numsOk k n m.length
  · have he := encoded_len h
    refine ev_pos he.2 ?_
    have hn : 1 ≤ n ∧ n ≤ 8 := by obtain ⟨h1, h2, h3, _⟩ := h; omega
    refine ev_bind (spec_at n hn l hl ss) (Ev.step (fun k => spec_Recheck.j0.eq_2 ..) ?_)
    by_cases h2 : l.length = ss.length
    · rw [decide_eq_true h2, Bool.true_and]
      cases h3 : okAt n [] l
      · rw [if_neg (by simp)]
        exact ev_pos rfl (ev_ret rfl)
      · rw [if_pos ⟨h, h2, rfl⟩]
        exact ev_neg (by decide) (spec_re_l0 _ l ss hl h2 (fun x hx => by have := okAt_in h3 x hx; omega) l.length 0 (by omega))
    · rw [decide_eq_false h2, Bool.false_and, if_neg (fun hc => h2 hc.2.1)]
      exact ev_pos rfl (ev_ret rfl)
  · rw [if_neg (fun hc => h hc.1)]
    have e : (encoded k n m).2 = false := by unfold encoded; rw [if_neg h]
    exact ev_neg (by rw [e]; decide) (Ev.step (fun k => spec_Recheck.j0.eq_2 ..) (ev_pos rfl (ev_ret rfl)))
theorem impl_recheck (k n : Int) {m : List Nat} (hm : ∀ c ∈ m, c < 256) (l : List Int) (hl : l.length ≤ 1048576) (ss : List (List Int)) : Ev (fun q => impl_Recheck.f q k n (I m) l ss) (recheck k n m l ss) := by
  unfold impl_Recheck.f recheck
  rw [I_length]
  refine ev_pure (impl_nums k n m.length) ?_
  by_cases h : numsOk k n m.length
  · have he := encoded_len h
    refine ev_pos (decide_eq_true h) ?_
    have hn : 1 ≤ n ∧ n ≤ 8 := by obtain ⟨h1, h2, h3, _⟩ := h; omega
    refine ev_bind (impl_un n hn l hl) ?_
    cases h3 : okAt n [] l
    · rw [if_neg (by simp)]
      exact ev_neg (by decide) (Ev.step (fun k => impl_Recheck.j0.eq_2 ..) (ev_pos rfl (ev_ret rfl)))
    · refine ev_pos rfl (Ev.step (fun k => impl_Recheck.j0.eq_2 ..) ?_)
      by_cases h2 : l.length = ss.length
      · rw [if_pos ⟨h, h2, rfl⟩]
        have hc := spec_encodeF k n hm
        have henc : Ev (fun q => impl_encode.f q k n (I m)) (encoded k n m).1 := by
          unfold encoded
          rw [if_pos h]
          obtain ⟨h1, h4, h5, h6⟩ := h
          obtain ⟨K, rfl⟩ := Int.eq_ofNat_of_zero_le (show 0 ≤ k by omega)
          obtain ⟨N, rfl⟩ := Int.eq_ofNat_of_zero_le (show 0 ≤ n by omega)
          rw [Int.toNat_natCast, Int.toNat_natCast]
          exact impl_enc (by omega) (by omega) h6 hm
        exact ev_neg (by simp [h2]) (ev_bind henc (impl_re_l0 _ l ss hl h2 (fun x hx => by have := okAt_in h3 x hx; omega) l.length 0 (by omega)))
      · rw [if_neg (fun hc => h2 hc.2.1)]
        exact ev_pos (by simp; omega) (ev_ret rfl)
  · rw [if_neg (fun hc => h hc.1)]
    exact ev_neg (by simp only [decide_eq_true_eq]; exact h) (Ev.step (fun k => impl_Recheck.j0.eq_2 ..) (ev_pos rfl (ev_ret rfl)))
theorem FnExactRecheck (a b : Int) (x : List Int) (y : List Int) (z : List (List Int)) (_ : (Lit.int .i64 a).wf = true) (_ : (Lit.int .i64 b).wf = true) (hx : x.length ≤ maxLen ∧ ∀ v0 ∈ x, (Lit.int .u8 v0).wf = true) (_ : y.length ≤ maxLen ∧ ∀ v0 ∈ y, (Lit.int .i64 v0).wf = true) (_ : z.length ≤ maxLen ∧ ∀ v0 ∈ z, (v0.length ≤ maxLen ∧ ∀ v1 ∈ v0, (Lit.int .u8 v1).wf = true)) (_ : x.length ≤ 1048576) (hy : y.length ≤ 1048576) (_ : tot z ≤ 1048576) :
    ∃ (r1 : Int) (r2 : Bool), (∃ k, spec_Recheck.f k a b x y z = some (r1, r2)) ∧ (∃ k, impl_Recheck.f k a b x y z = some (r1, r2)) := by
  obtain ⟨m, rfl, hm⟩ := bytes_of hx.2
  exact ⟨_, _, (spec_recheck a b hm y hy z).rounds, (impl_recheck a b hm y hy z).rounds⟩

end Go.Proofs.Ythaoloacbbohlaa.Pure
