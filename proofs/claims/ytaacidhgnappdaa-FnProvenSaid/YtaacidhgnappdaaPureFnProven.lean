/- Each of drawn leaves is proven by its path, and not by less of it; a leaf put in its place is proven by that path for the changed root: for every text of bytes. -/
import Derived.Test.YtaacidhgnappdaaPFnProvenx7
import Derived.Test.YtaacidhgnappdaaKit
import Derived.Test.YtaacidhgnappdaaDig
namespace Go.Proofs.Ytaacidhgnappdaa.Pure
open Go.RowKit Go.Proofs.Ytaacidhgnappdaa Go.Proofs.Ytaacidhgnappdaa.PFnProven Go.Proofs.YtaacidhgnappdaaW.PrintWords Go.Proofs.YtaacidhgnappdaaW.PrintLast Go.Proofs.YtaacidhgnappdaaW.PrintMore Go.Proofs.Ytaacidhgnappdaa.K
set_option linter.unusedVariables false

/-- What is left of a behind a taking of t; -1: t was too much. -/
def left (a : Int) (t : Nat) : Int := if a - (t : Int) < 0 then -1 else a - (t : Int)
theorem left_ok {a : Int} {t : Nat} (h : ¬ left a t < 0) : left a t = a - (t : Int) := by
  unfold left at h ⊢
  split
  · rename_i h2
    rw [if_pos h2] at h
    omega
  · rfl
theorem left_neg {a : Int} {t : Nat} (h : a - (t : Int) < 0) : left a t = -1 := if_pos h
theorem left_pos {a : Int} {t : Nat} (h : ¬ a - (t : Int) < 0) : left a t = a - (t : Int) := if_neg h
theorem len_max {n : Nat} (h : n ≤ maxLen) : n ≤ 9223372036854775807 := by unfold maxLen at h; omega
/-- The bytes of all texts together. -/
def tsum : List (List Int) → Nat
  | [] => 0
  | x :: l => x.length + tsum l
/-- .. and the texts. -/
def tot (l : List (List Int)) : Nat := l.length + tsum l
theorem tsum_le (l : List (List Int)) : tsum l ≤ tot l := Nat.le_add_left _ _
theorem tot_len (l : List (List Int)) : l.length ≤ tot l := Nat.le_add_right _ _
theorem tsum_mem {l : List (List Int)} {x : List Int} (h : x ∈ l) : x.length ≤ tsum l := by
  induction l with
  | nil => cases h
  | cons y l ih =>
    rcases List.mem_cons.1 h with rfl | h
    · unfold tsum; omega
    · have := ih h; unfold tsum; omega
theorem tsum_append (l m : List (List Int)) : tsum (l ++ m) = tsum l + tsum m := by
  induction l with
  | nil => simp [tsum]
  | cons x l ih => simp only [List.cons_append, tsum, ih]; omega
theorem rdB_nat (l : List (List Int)) (i : Nat) : rd_L1 l (i : Int) = l.getD i [] := by unfold rd_L1; rw [Int.toNat_natCast]
theorem getD_mem {l : List (List Int)} {i : Nat} (h : i < l.length) : l.getD i [] ∈ l := by
  rw [List.getD_eq_getElem?_getD, List.getElem?_eq_getElem h]
  exact List.getElem_mem h
theorem dropB {l : List (List Int)} {i : Nat} (h : i < l.length) : l.drop i = l.getD i [] :: l.drop (i + 1) := drop_getD l [] i h
theorem digest_a (a0 : Int) (l : List Int) (h1 : 2 ≤ a0 ∧ a0 ≤ 60) (h2 : l.length ≤ 4000) : impl_Squeeze.f a0 l 1 = some ([Dig.out a0 (Dig.rnds 6 (Dig.taken l))], true) := by
  unfold impl_Squeeze.f
  rw [if_pos h1, if_pos h2, if_pos (by decide)]
  generalize Dig.rnds 6 (Dig.taken l) = s
  simp only [Int.toNat_one, Dig.squeeze]
theorem digest_b (a0 : Int) (l : List Int) (h : ¬ ((2 ≤ a0 ∧ a0 ≤ 60) ∧ l.length ≤ 4000)) : impl_Squeeze.f a0 l 1 = some ([], false) := by
  unfold impl_Squeeze.f
  by_cases h1 : 2 ≤ a0 ∧ a0 ≤ 60
  · rw [if_pos h1, if_neg (fun h2 => h ⟨h1, h2⟩)]
  · rw [if_neg h1]
theorem digest_fin (x : Int) : ((some ([x], true) : Option (List Int × Bool)).bind fun bt => (if bt.2 = true then (if 0 < (bt.1.length : Int) then (some (rd bt.1 0)) else (none)) else (some (-1)))) = some x := by
  rw [Option.bind_some, if_pos rfl, if_pos (by simp)]
  rfl
theorem digest_non : ((some ([], false) : Option (List Int × Bool)).bind fun bt => (if bt.2 = true then (if 0 < (bt.1.length : Int) then (some (rd bt.1 0)) else (none)) else (some (-1)))) = some (-1) := by
  rw [Option.bind_some, if_neg (by simp)]
theorem impl_digest (a0 : Int) (l : List Int) : impl_Digest.f a0 l = some (Dig.digest a0 l) := by
  unfold impl_Digest.f
  by_cases h1 : 2 ≤ a0 ∧ a0 ≤ 60
  · by_cases h2 : l.length ≤ 4000
    · have e : Dig.digest a0 l = Dig.out a0 (Dig.rnds 6 (Dig.taken l)) := by
        unfold Dig.digest
        rw [if_pos h1, if_pos h2]
      rw [digest_a a0 l h1 h2, e]
      exact digest_fin _
    · have e : Dig.digest a0 l = -1 := by
        unfold Dig.digest
        rw [if_pos h1, if_neg h2]
      rw [digest_b a0 l (fun h => h2 h.2), e]
      exact digest_non
  · have e : Dig.digest a0 l = -1 := by
      unfold Dig.digest
      rw [if_neg h1]
    rw [digest_b a0 l (fun h => h1 h.1), e]
    exact digest_non

/-- The last n bytes of a number, the highest first. -/
def be : Nat → Nat → List Int
  | 0, _ => []
  | n + 1, x => be n (x / 256) ++ [((x % 256 : Nat) : Int)]
theorem be_length (n : Nat) : ∀ x, (be n x).length = n := by
  induction n with
  | zero => intro x; rfl
  | succ n ih => intro x; simp [be, ih]
/-- The eight bytes of a number, nothing below 0. -/
def eightOf (x : Int) : List Int := if x < 0 then [] else be 8 x.toNat
theorem impl_high_l0 (n : Nat) : ∀ (x : Nat) (t : List Int), n ≤ 8 → t.length = 8 - n →
    Ev (fun k => impl_high.l0 k (x : Int) (List.replicate n 0 ++ t) ((n : Int) - 1)) (be n x ++ t) := by
  induction n with
  | zero =>
    intro x t _ _
    refine Ev.step (fun k => impl_high.l0.eq_2 ..) ?_
    exact ev_neg (by omega) (ev_ret rfl)
  | succ n ih =>
    intro x t hn ht
    refine Ev.step (fun k => impl_high.l0.eq_2 ..) ?_
    refine ev_pos (by omega) (ev_pos (by omega) (ev_pos (by rw [List.length_append, List.length_replicate, ht]; omega) ?_))
    have e1 : wrap64 (((n + 1 : Nat) : Int) - 1 - 1) = (n : Int) - 1 := by rw [wr (by omega) (by omega)]; omega
    have e2 : (((n + 1 : Nat) : Int) - 1).toNat = n := by omega
    have e3 : (x : Int) / 256 = ((x / 256 : Nat) : Int) := by omega
    have e4 : (x : Int) % 256 = ((x % 256 : Nat) : Int) := by omega
    rw [e1, e2, e3, e4]
    have e5 : (List.replicate (n + 1) (0 : Int) ++ t).set n ((x % 256 : Nat) : Int) = List.replicate n 0 ++ (((x % 256 : Nat) : Int) :: t) := by
      rw [List.replicate_succ', List.append_assoc, List.set_append_right _ _ (by rw [List.length_replicate]; exact Nat.le_refl _), List.length_replicate, Nat.sub_self]
      rfl
    rw [e5]
    have := ih (x / 256) (((x % 256 : Nat) : Int) :: t) (by omega) (by rw [List.length_cons, ht]; omega)
    simp only [be, List.append_assoc, List.singleton_append]
    exact this
theorem impl_eight {x : Int} (hx : x ≤ 9223372036854775807) : Ev (fun k => impl_Eight.f k x) (eightOf x) := by
  unfold impl_Eight.f eightOf
  by_cases h : x < 0
  · rw [if_pos h]
    exact ev_pos h (ev_ret rfl)
  · rw [if_neg h]
    refine ev_neg h (ev_bind (a := be 8 x.toNat) ?_ (ev_ret rfl))
    unfold impl_high.f
    refine ev_pos (by decide) (ev_pos (by decide) ?_)
    have := impl_high_l0 8 x.toNat [] (by decide) rfl
    rw [Int.toNat_of_nonneg (by omega)] at this
    simpa [wrap64] using this
theorem impl_leafin {l : List Int} (hl : l.length ≤ 140737488355000) : impl_leafInput.f l = some (0 :: l) := by
  unfold impl_leafInput.f
  rw [Option.bind_some, if_pos (by simp only [List.length_singleton]; omega)]
  rfl
theorem impl_leaf (a : Int) {l : List Int} (hl : l.length ≤ 140737488355000) : impl_LeafOf.f a l = some (Dig.digest a (0 :: l)) := by
  unfold impl_LeafOf.f
  rw [impl_leafin hl, Option.bind_some, impl_digest, Option.bind_some]
theorem shl_one {b : Int} (h : 2 ≤ b ∧ b ≤ 60) : shl .i64 1 b = 2 ^ b.toNat ∧ (4 : Int) ≤ 2 ^ b.toNat ∧ (2 : Int) ^ b.toNat ≤ 1152921504606846976 := by
  have h1 := Dig.two_pow_le b.toNat (by omega)
  have e60 : (2 : Nat) ^ 60 = 1152921504606846976 := by decide
  have ec : (2 : Int) ^ b.toNat = ((2 ^ b.toNat : Nat) : Int) := by simp
  have h2 : 2 ^ 2 ≤ 2 ^ b.toNat := Nat.pow_le_pow_right (by decide) (by omega)
  unfold shl
  rw [Nat.min_eq_left (show b.toNat ≤ IntKind.i64.bits by show b.toNat ≤ 64; omega), IntKind.wrap_i64, ec]
  omega
/-- A number that is a digest of so many bits. -/
def okd (b x : Int) : Prop := (2 ≤ b ∧ b ≤ 60) ∧ 0 ≤ x ∧ x < 2 ^ b.toNat
instance (b x : Int) : Decidable (okd b x) := by unfold okd; infer_instance
theorem okd_le {b x : Int} (h : okd b x) : 0 ≤ x ∧ x ≤ 9223372036854775807 := by
  have := (shl_one h.1).2.2
  have := h.2
  omega
theorem impl_in_eq (a b c : Int) : impl_in.f a b c = some (decide (b ≤ a ∧ a ≤ c)) := by
  unfold impl_in.f
  by_cases h : a ≥ b <;> simp [h]
theorem impl_bits_eq (a : Int) : impl_bitsOk.f a = some (decide (2 ≤ a ∧ a ≤ 60)) := by
  unfold impl_bitsOk.f
  rw [impl_in_eq, Option.bind_some]
theorem impl_isdig (b x : Int) : impl_isDigest.f b x = some (decide (okd b x)) := by
  unfold impl_isDigest.f
  rw [impl_bits_eq, Option.bind_some]
  by_cases h : 2 ≤ b ∧ b ≤ 60
  · obtain ⟨h1, h2, h3⟩ := shl_one h
    rw [if_pos (by simp [h]), if_pos (by omega), h1, wr (by omega) (by omega), impl_in_eq, Option.bind_some]
    congr 1
    apply decide_eq_decide.2
    unfold okd
    omega
  · rw [if_neg (by simp [h])]
    congr 1
    exact (decide_eq_false (fun k => h k.1)).symm
theorem eightOf_le (x : Int) : (eightOf x).length ≤ 8 := by
  unfold eightOf; split
  · simp
  · rw [be_length]; omega
/-- What a node's digest is taken of. -/
def nodeIn (x y : Int) : List Int := 1 :: (eightOf x ++ eightOf y)
theorem nodeIn_le (x y : Int) : (nodeIn x y).length ≤ 17 := by
  have := eightOf_le x
  have := eightOf_le y
  unfold nodeIn
  simp only [List.length_cons, List.length_append]
  omega
theorem impl_nodein {x y : Int} (hx : x ≤ 9223372036854775807) (hy : y ≤ 9223372036854775807) : Ev (fun k => impl_nodeInput.f k x y) (nodeIn x y) := by
  unfold impl_nodeInput.f
  have h1 := eightOf_le x
  have h2 := eightOf_le y
  refine ev_bind (impl_eight hx) (ev_bind (impl_eight hy) (ev_pure (a := nodeIn x y) ?_ (ev_ret rfl)))
  unfold slices_Concat_byte_byte.f nodeIn
  generalize eightOf x = p at h1 ⊢
  generalize eightOf y = q at h2 ⊢
  have e : [[1], p, q].flatten = 1 :: (p ++ q) := by simp
  rw [e, if_pos (by simp only [List.length_cons, List.length_append]; omega)]
/-- A node's digest. -/
def node (b x y : Int) : Int := if okd b x ∧ okd b y then Dig.digest b (nodeIn x y) else -1
theorem impl_node (b x y : Int) : Ev (fun k => impl_NodeOf.f k b x y) (node b x y) := by
  unfold impl_NodeOf.f node
  refine ev_pure (impl_isdig b x) ?_
  by_cases h1 : okd b x
  · refine ev_pos (decide_eq_true h1) (ev_pure (impl_isdig b y) (Ev.step (fun k => impl_NodeOf.j0.eq_2 ..) ?_))
    by_cases h2 : okd b y
    · rw [if_pos ⟨h1, h2⟩]
      exact ev_neg (by simp [h2]) (ev_bind (impl_nodein (okd_le h1).2 (okd_le h2).2) (ev_pure (impl_digest b (nodeIn x y)) (ev_ret rfl)))
    · rw [if_neg (fun h => h2 h.2)]
      exact ev_pos (by simp [h2]) (ev_ret rfl)
  · rw [if_neg (fun h => h1 h.1)]
    exact ev_neg (by simp [h1]) (Ev.step (fun k => impl_NodeOf.j0.eq_2 ..) (ev_pos rfl (ev_ret rfl)))
/-- What a top's digest is taken of. -/
def topIn (many : Nat) (x : Int) : List Int := 2 :: (many : Int) :: eightOf x
theorem topIn_le (many : Nat) (x : Int) : (topIn many x).length ≤ 10 := by
  have := eightOf_le x
  unfold topIn
  simp only [List.length_cons]
  omega
/-- The place beside. -/
def beside (a : Nat) : Nat := if a % 2 = 0 then a + 1 else a - 1
/-- The input of a step up. -/
def stepIn (a : Nat) (q x : Int) : List Int := if a % 2 = 1 then nodeIn q x else nodeIn x q
/-- The way up from a place: the nodes' inputs, what is left of the path, and the digest at the end. -/
def ups (b : Int) : Nat → Nat → Nat → Int → List Int → Option (List (List Int) × List Int × Int)
  | 0, _, _, x, p => some ([], p, x)
  | n + 1, size, a, x, p =>
    if 1 < size then
      if beside a < size then
        match p with
        | [] => none
        | q :: p => (ups b n ((size + 1) / 2) (a / 2) (Dig.digest b (stepIn a q x)) p).map fun r => (stepIn a q x :: r.1, r.2)
      else ups b n ((size + 1) / 2) (a / 2) x p
    else some ([], p, x)
/-- All that a way up must hold to. -/
def upOk (b many at_ : Int) (leaf path : List Int) : Prop := (1 ≤ many ∧ many ≤ 16) ∧ (0 ≤ at_ ∧ at_ < many) ∧ (2 ≤ b ∧ b ≤ 60) ∧ leaf.length < 4000 ∧ ∀ p ∈ path, okd b p
instance (b many at_ : Int) (leaf path : List Int) : Decidable (upOk b many at_ leaf path) := by unfold upOk; infer_instance
theorem upOk_okd {b many at_ : Int} {leaf path : List Int} (h : upOk b many at_ leaf path) : okd b (Dig.digest b (0 :: leaf)) := by
  obtain ⟨_, _, h3, h4, _⟩ := h
  exact ⟨h3, Dig.digest_range h3.1 h3.2 (by simp only [List.length_cons]; omega)⟩
theorem node_okd {b : Int} (hb : 2 ≤ b ∧ b ≤ 60) (x y : Int) : okd b (Dig.digest b (nodeIn x y)) :=
  ⟨hb, Dig.digest_range hb.1 hb.2 (by have := nodeIn_le x y; omega)⟩
/-- The inputs of a way up, the top's the last. -/
def climbed (b many at_ : Int) (leaf path : List Int) : List (List Int) × Bool :=
  if upOk b many at_ leaf path then
    match ups b 16 many.toNat at_.toNat (Dig.digest b (0 :: leaf)) path with
    | none => ([], false)
    | some (l, r, y) => ((0 :: leaf) :: (l ++ [topIn many.toNat y]), decide (r = []))
  else ([], false)
/-- RootFrom's answer. -/
def rootFrom (b many at_ : Int) (leaf path : List Int) : Int :=
  if upOk b many at_ leaf path then
    match ups b 16 many.toNat at_.toNat (Dig.digest b (0 :: leaf)) path with
    | none => -1
    | some (_, r, y) => if r = [] then Dig.digest b (topIn many.toNat y) else -1
  else -1
theorem half_nat (a : Nat) (h : a ≤ 1000) : wrap64 (Int.tdiv (a : Int) 2) = ((a / 2 : Nat) : Int) := by
  rw [Int.tdiv_eq_ediv_of_nonneg (by omega), wr (by omega) (by omega)]
  omega
theorem odd_nat (a : Nat) : Int.tmod (a : Int) 2 = ((a % 2 : Nat) : Int) := by
  rw [Int.tmod_eq_emod_of_nonneg (by omega)]
  omega
theorem ups_le (b : Int) (n size a : Nat) (x : Int) (p : List Int) (h : size ≤ 1) : ups b (n + 1) size a x p = some ([], p, x) := by
  unfold ups
  rw [if_neg (by omega)]
theorem ups_nil (b : Int) (n size a : Nat) (x : Int) (h : 1 < size) (h2 : beside a < size) : ups b (n + 1) size a x [] = none := by
  rw [ups, if_pos h, if_pos h2]
theorem step_okd {b : Int} (hb : 2 ≤ b ∧ b ≤ 60) (a : Nat) (q x : Int) : okd b (Dig.digest b (stepIn a q x)) := by
  by_cases h : a % 2 = 1
  · have e : stepIn a q x = nodeIn q x := if_pos h
    rw [e]
    exact node_okd hb _ _
  · have e : stepIn a q x = nodeIn x q := if_neg h
    rw [e]
    exact node_okd hb _ _
theorem ups_step (b : Int) (n size a : Nat) (x q : Int) (p : List Int) (h : 1 < size) (h2 : beside a < size) : ups b (n + 1) size a x (q :: p) = (ups b n ((size + 1) / 2) (a / 2) (Dig.digest b (stepIn a q x)) p).map fun r => (stepIn a q x :: r.1, r.2) := by
  rw [ups, if_pos h, if_pos h2]
theorem ups_skip (b : Int) (n size a : Nat) (x : Int) (p : List Int) (h : 1 < size) (h2 : ¬ beside a < size) : ups b (n + 1) size a x p = ups b n ((size + 1) / 2) (a / 2) x p := by
  cases p <;> rw [ups, if_pos h, if_neg h2]
theorem xor_one : ∀ a : Fin 16, Go.bits .xor .i64 ((a.val : Nat) : Int) 1 = ((beside a.val : Nat) : Int) := by decide
theorem impl_leafin' {l : List Int} (hl : l.length < 4000) : impl_leafInput.f l = some (0 :: l) := by
  unfold impl_leafInput.f
  rw [Option.bind_some, if_pos (by simp only [List.length_singleton]; omega)]
  rfl
theorem impl_topin {many : Nat} {x : Int} (hm : many ≤ 16) (hx : x ≤ 9223372036854775807) : Ev (fun k => impl_topInput.f k (many : Int) x) (topIn many x) := by
  unfold impl_topInput.f topIn
  have h1 := eightOf_le x
  have e : (many : Int) % 256 = many := by omega
  rw [e]
  exact ev_some (ev_bind (impl_eight hx) (ev_pos (by simp only [List.length_cons, List.length_nil]; omega) (ev_ret rfl)))
theorem rd_last (l : List (List Int)) (x : List Int) (hl : l.length ≤ 1000) : rd_L1 (l ++ [x]) (wrap64 (((l ++ [x]).length : Int) - 1)) = x := by
  have e : wrap64 (((l ++ [x]).length : Int) - 1) = (l.length : Int) := by
    rw [List.length_append, List.length_singleton, wr (by omega) (by omega)]
    omega
  rw [e]
  unfold rd_L1
  rw [Int.toNat_natCast, List.getD_eq_getElem?_getD, List.getElem?_append_right (Nat.le_refl _), Nat.sub_self]
  rfl
theorem last_le (l : List (List Int)) (x : List Int) (hl : l.length ≤ 1000) : 0 ≤ wrap64 (((l ++ [x]).length : Int) - 1) ∧ wrap64 (((l ++ [x]).length : Int) - 1) < ((l ++ [x]).length : Int) := by
  rw [List.length_append, List.length_singleton, wr (by omega) (by omega)]
  omega
/-- What climb answers behind its leaf. -/
def climbEnd (many : Nat) (out : List (List Int)) : Option (List (List Int) × List Int × Int) → List (List Int) × Bool
  | none => ([], false)
  | some (l, r, y) => (out ++ (l ++ [topIn many y]), decide (r = []))
theorem climbEnd_some (many : Nat) (out l : List (List Int)) (r : List Int) (y : Int) : climbEnd many out (some (l, r, y)) = (out ++ (l ++ [topIn many y]), decide (r = [])) := rfl
theorem nil_len (p : List Int) : ((p.length : Int) == 0) = decide (p = []) := by
  cases p with
  | nil => rfl
  | cons x p =>
    rw [decide_eq_false (by simp)]
    simp only [List.length_cons, beq_eq_false_iff_ne]
    omega
theorem climb_l0 {b : Int} (hb : 2 ≤ b ∧ b ≤ 60) (many : Nat) (hm : many ≤ 16) (n : Nat) : ∀ (size a : Nat) (x : Int) (p : List Int) (out : List (List Int)), size ≤ n + 1 → size ≤ 16 → a < 16 → okd b x → (∀ q ∈ p, okd b q) → out.length + n ≤ 100 →
    Ev (fun k => impl_climb.l0 k b (many : Int) (a : Int) p out x (size : Int)) (climbEnd many out (ups b (n + 1) size a x p)) := by
  induction n with
  | zero =>
    intro size a x p out hs _ _ hx hp ho
    refine Ev.step (fun k => impl_climb.l0.eq_2 ..) (ev_neg (by omega) (ev_bind (impl_topin hm (okd_le hx).2) (ev_pos (by omega) (ev_ret ?_))))
    rw [ups_le b 0 size a x p (by omega), climbEnd_some, nil_len, List.nil_append]
  | succ n ih =>
    intro size a x p out hs hs2 ha hx hp ho
    refine Ev.step (fun k => impl_climb.l0.eq_2 ..) ?_
    by_cases h1 : 1 < size
    · have e1 : wrap64 ((size : Int) + 1) = ((size + 1 : Nat) : Int) := wr_succ (by omega)
      rw [e1, half_nat a (by omega), half_nat (size + 1) (by omega), xor_one ⟨a, ha⟩, odd_nat a]
      refine ev_pos (by omega) ?_
      by_cases h2 : beside a < size
      · refine ev_pos (by show ((beside a : Nat) : Int) < size; omega) ?_
        cases p with
        | nil =>
          rw [ups_nil b (n + 1) size a x h1 h2]
          exact ev_pos rfl (ev_ret rfl)
        | cons q p =>
          rw [ups_step b (n + 1) size a x q p h1 h2]
          have hq : okd b q := hp q List.mem_cons_self
          have hp2 : ∀ r ∈ p, okd b r := fun r hr => hp r (List.mem_cons_of_mem _ hr)
          have eq0 : rd (q :: p) 0 = q := rfl
          have ed0 : (q :: p).drop 1 = p := rfl
          rw [eq0, ed0]
          refine ev_neg (by simp only [List.length_cons]; omega) (ev_pos (by simp only [List.length_cons]; omega) ?_)
          have hr := ih ((size + 1) / 2) (a / 2) (Dig.digest b (stepIn a q x)) p (out ++ [stepIn a q x]) (by omega) (by omega) (by omega) (step_okd hb a q x) hp2 (by simp only [List.length_append, List.length_singleton]; omega)
          have hfin : ∀ u, climbEnd many (out ++ [stepIn a q x]) u = climbEnd many out (u.map fun r => (stepIn a q x :: r.1, r.2)) := by
            intro u
            generalize stepIn a q x = s
            cases u with
            | none => rfl
            | some u => obtain ⟨l, r, y⟩ := u; simp [climbEnd]
          rw [hfin] at hr
          by_cases h3 : a % 2 = 1
          · have es : stepIn a q x = nodeIn q x := if_pos h3
            refine ev_pos (by omega) (ev_pos (by simp only [List.length_cons]; omega) (ev_bind (impl_nodein (okd_le hq).2 (okd_le hx).2) ?_))
            rw [es] at hr ⊢
            refine ev_pos (by omega) (ev_some (ev_pos (last_le _ _ (by omega)).1 (ev_pos (last_le _ _ (by omega)).2 (ev_pure (impl_digest b _) ?_))))
            rw [rd_last _ _ (by omega)]
            exact hr
          · have es : stepIn a q x = nodeIn x q := if_neg h3
            refine ev_neg (by omega) (ev_pos (by simp only [List.length_cons]; omega) (ev_bind (impl_nodein (okd_le hx).2 (okd_le hq).2) ?_))
            rw [es] at hr ⊢
            refine ev_pos (by omega) (ev_some (ev_pos (last_le _ _ (by omega)).1 (ev_pos (last_le _ _ (by omega)).2 (ev_pure (impl_digest b _) ?_))))
            rw [rd_last _ _ (by omega)]
            exact hr
      · rw [ups_skip b (n + 1) size a x p h1 h2]
        exact ev_neg (by show ¬ ((beside a : Nat) : Int) < size; omega) (ih ((size + 1) / 2) (a / 2) x p out (by omega) (by omega) (by omega) hx hp (by omega))
    · refine ev_neg (by omega) (ev_bind (impl_topin hm (okd_le hx).2) (ev_pos (by omega) (ev_ret ?_)))
      rw [ups_le b (n + 1) size a x p (by omega), climbEnd_some, nil_len, List.nil_append]
theorem impl_leaves (b : Int) (l : List (List Int)) : impl_leavesOk.f b l = some (decide ((2 ≤ b ∧ b ≤ 60) ∧ 1 ≤ l.length ∧ l.length ≤ 16) && l.all fun x => decide (x.length < 4000)) := rfl
theorem impl_digs (b : Int) (l : List Int) : impl_digests.f b l = some (decide (∀ x ∈ l, okd b x)) := by
  unfold impl_digests.f
  rw [if_pos (List.all_eq_true.2 fun x _ => by rw [impl_isdig]; rfl)]
  congr 1
  rw [Bool.eq_iff_iff, List.all_eq_true]
  simp only [impl_isdig, Option.getD_some, decide_eq_true_eq]
theorem impl_climbed (b many at_ : Int) (leaf path : List Int) : Ev (fun k => impl_climb.f k b many at_ leaf path) (climbed b many at_ leaf path) := by
  unfold impl_climb.f
  have hno : ∀ a : Bool, a = true → ¬ upOk b many at_ leaf path → Ev (fun k => impl_climb.j0 k b many at_ leaf path a) (climbed b many at_ leaf path) := by
    intro a ha h
    subst ha
    unfold climbed
    rw [if_neg h]
    exact Ev.step (fun k => impl_climb.j0.eq_2 ..) (ev_pos rfl (ev_ret rfl))
  refine ev_pure (impl_in_eq _ _ _) ?_
  by_cases h1 : 1 ≤ many ∧ many ≤ 16
  · refine ev_pos (decide_eq_true h1) (ev_pure (impl_in_eq _ _ _) ?_)
    rw [wr (n := many - 1) (by omega) (by omega)]
    by_cases h2 : 0 ≤ at_ ∧ at_ ≤ many - 1
    · refine ev_pos (decide_eq_true h2) (ev_pure (impl_leaves b _) ?_)
      by_cases h3 : (2 ≤ b ∧ b ≤ 60) ∧ leaf.length < 4000
      · refine ev_pos (by simp [h3]) (ev_pure (impl_digs b path) ?_)
        by_cases h4 : ∀ p ∈ path, okd b p
        · have hu : upOk b many at_ leaf path := ⟨h1, ⟨h2.1, by omega⟩, h3.1, h3.2, h4⟩
          have hx := upOk_okd hu
          obtain ⟨m, rfl⟩ := Int.eq_ofNat_of_zero_le (by omega : 0 ≤ many)
          obtain ⟨a, rfl⟩ := Int.eq_ofNat_of_zero_le h2.1
          have hr := climb_l0 h3.1 m (by omega) 15 m a (Dig.digest b (0 :: leaf)) path [0 :: leaf] (by omega) (by omega) (by omega) hx h4 (by simp only [List.length_singleton]; omega)
          refine Ev.step (fun k => impl_climb.j0.eq_2 ..) (ev_neg (by simp; exact h4) (ev_pure (impl_leafin' h3.2) (ev_some (ev_pos (by simp only [List.length_singleton]; omega) (ev_pure (impl_digest b _) ?_)))))
          refine ev_eq hr ?_
          unfold climbed
          rw [if_pos hu, Int.toNat_natCast, Int.toNat_natCast]
          generalize ups b (15 + 1) m a (Dig.digest b (0 :: leaf)) path = u
          cases u with
          | none => rfl
          | some u => rfl
        · exact hno _ (by simp only [decide_eq_false h4]; rfl) (fun h => h4 h.2.2.2.2)
      · refine ev_neg ?_ (hno _ rfl (fun h => h3 ⟨h.2.2.1, h.2.2.2.1⟩))
        simp only [List.all_cons, List.all_nil, Bool.and_true, Bool.and_eq_true, decide_eq_true_eq]
        exact fun h => h3 ⟨h.1.1, h.2⟩
    · exact ev_neg (by simp only [decide_eq_true_eq]; exact h2) (hno _ rfl (fun h => h2 ⟨h.2.1.1, by have := h.2.1.2; omega⟩))
  · exact ev_neg (by simp only [decide_eq_true_eq]; exact h1) (hno _ rfl (fun h => h1 h.1))
theorem ups_length {b : Int} (n : Nat) : ∀ (size a : Nat) (x : Int) (p : List Int) {r}, ups b n size a x p = some r → r.1.length ≤ n := by
  induction n with
  | zero => intro size a x p r h; unfold ups at h; cases h; exact Nat.le_refl _
  | succ n ih =>
    intro size a x p r h
    by_cases h1 : 1 < size
    · by_cases h2 : beside a < size
      · cases p with
        | nil => rw [ups_nil b n size a x h1 h2] at h; cases h
        | cons q p =>
          rw [ups_step b n size a x q p h1 h2] at h
          obtain ⟨r', h1, rfl⟩ := Option.map_eq_some_iff.1 h
          have := ih _ _ _ _ h1
          simp only [List.length_cons]
          omega
      · rw [ups_skip b n size a x p h1 h2] at h
        have := ih _ _ _ _ h
        omega
    · rw [ups_le b n size a x p (by omega)] at h
      cases h
      exact Nat.zero_le _
theorem impl_lastof (b many at_ : Int) (leaf path : List Int) : impl_lastOf.f b (climbed b many at_ leaf path).1 (climbed b many at_ leaf path).2 = some (rootFrom b many at_ leaf path) := by
  unfold climbed rootFrom impl_lastOf.f
  by_cases hu : upOk b many at_ leaf path
  · rw [if_pos hu, if_pos hu]
    have hl := fun r => @ups_length b 16 many.toNat at_.toNat (Dig.digest b (0 :: leaf)) path r
    generalize ups b 16 many.toNat at_.toNat (Dig.digest b (0 :: leaf)) path = u at hl ⊢
    cases u with
    | none => rfl
    | some u =>
      obtain ⟨l, r, y⟩ := u
      have hl := hl _ rfl
      simp only at hl
      simp only []
      by_cases hr : r = []
      · have e1 := rd_last ((0 :: leaf) :: l) (topIn many.toNat y) (by simp only [List.length_cons]; omega)
        have e2 := last_le ((0 :: leaf) :: l) (topIn many.toNat y) (by simp only [List.length_cons]; omega)
        rw [List.cons_append] at e1 e2
        rw [if_pos (decide_eq_true hr), if_pos e2.1, if_pos e2.2, e1, impl_digest, if_pos hr]
        rfl
      · rw [if_neg (by simp [hr]), if_neg hr]
  · rw [if_neg hu, if_neg hu]
    rfl
theorem impl_root (b many at_ : Int) (leaf path : List Int) : Ev (fun k => impl_RootFrom.f k b many at_ leaf path) (rootFrom b many at_ leaf path) := by
  unfold impl_RootFrom.f
  exact ev_bind (impl_climbed b many at_ leaf path) (ev_pure (impl_lastof b many at_ leaf path) (ev_ret rfl))
theorem drop_one {m : List Int} {i : Nat} {x : Int} {t : List Int} (h : m.drop i = x :: t) : i < m.length ∧ rd m (i : Int) = x ∧ m.drop (i + 1) = t := by
  have hl : i < m.length := by
    have := congrArg List.length h
    simp only [List.length_drop, List.length_cons] at this
    omega
  have h2 := drop_getD m 0 i hl
  rw [h] at h2
  injection h2 with h3 h4
  exact ⟨hl, by rw [rd_nat]; exact h3.symm, h4.symm⟩
/-- The level above. -/
def abv (b : Int) : List Int → List Int
  | x :: y :: l => node b x y :: abv b l
  | [x] => [x]
  | [] => []
theorem abv_length (b : Int) : ∀ l : List Int, (abv b l).length = (l.length + 1) / 2
  | [] => rfl
  | [x] => by simp [abv]
  | x :: y :: l => by
    have := abv_length b l
    simp only [abv, List.length_cons]
    omega
theorem abv_okd {b : Int} (hb : 2 ≤ b ∧ b ≤ 60) : ∀ l : List Int, (∀ x ∈ l, okd b x) → ∀ x ∈ abv b l, okd b x
  | [], _ => fun x hx => by cases hx
  | [y], h => fun x hx => h x hx
  | y :: z :: l, h => fun x hx => by
    simp only [abv, List.mem_cons] at hx
    rcases hx with rfl | hx
    · unfold node
      rw [if_pos ⟨h y (by simp), h z (by simp)⟩]
      exact node_okd hb _ _
    · exact abv_okd hb l (fun w hw => h w (by simp [hw])) x hx
/-- All levels of a tree, the leaves' first. -/
def lvs (b : Int) : Nat → List Int → List (List Int)
  | 0, l => [l]
  | n + 1, l => if l.length = 1 then [l] else l :: lvs b n (abv b l)
/-- The one number of the last level. -/
def apex (b : Int) : Nat → List Int → Int
  | 0, l => rd l 0
  | n + 1, l => if l.length = 1 then rd l 0 else apex b n (abv b l)
theorem one_of {l : List Int} (h : l.length = 1) : l = [rd l 0] := by
  match l, h with
  | [x], _ => rfl
theorem lvs_last (b : Int) (n : Nat) : ∀ l : List Int, 1 ≤ l.length → l.length ≤ n + 1 → ∃ pre, lvs b n l = pre ++ [[apex b n l]] ∧ pre.length ≤ n := by
  induction n with
  | zero =>
    intro l h1 h2
    refine ⟨[], ?_, Nat.le_refl _⟩
    unfold lvs apex
    rw [List.nil_append, ← one_of (by omega)]
  | succ n ih =>
    intro l h1 h2
    unfold lvs apex
    by_cases h : l.length = 1
    · rw [if_pos h, if_pos h]
      exact ⟨[], by rw [List.nil_append, ← one_of h], Nat.zero_le _⟩
    · rw [if_neg h, if_neg h]
      have hl := abv_length b l
      obtain ⟨pre, e, hp⟩ := ih (abv b l) (by omega) (by omega)
      exact ⟨l :: pre, by rw [e, List.cons_append], by simp only [List.length_cons]; omega⟩
theorem apex_okd {b : Int} (hb : 2 ≤ b ∧ b ≤ 60) (n : Nat) : ∀ l : List Int, 1 ≤ l.length → l.length ≤ n + 1 → (∀ x ∈ l, okd b x) → okd b (apex b n l) := by
  have h0 : ∀ l : List Int, 1 ≤ l.length → (∀ x ∈ l, okd b x) → okd b (rd l 0) := by
    intro l h1 h
    match l, h1 with
    | x :: l, _ => exact h x List.mem_cons_self
  induction n with
  | zero => intro l h1 _ h; exact h0 l h1 h
  | succ n ih =>
    intro l h1 h2 h
    unfold apex
    split
    · exact h0 l h1 h
    · have hl := abv_length b l
      exact ih (abv b l) (by omega) (by omega) (abv_okd hb l h)
/-- The leaves' digests. -/
def leafs (b : Int) (l : List (List Int)) : List Int := l.map fun x => Dig.digest b (0 :: x)
theorem leafs_length (b : Int) (l : List (List Int)) : (leafs b l).length = l.length := by simp [leafs]
theorem leafs_okd {b : Int} (hb : 2 ≤ b ∧ b ≤ 60) {l : List (List Int)} (h : ∀ x ∈ l, x.length < 4000) : ∀ x ∈ leafs b l, okd b x := by
  intro x hx
  obtain ⟨y, hy, rfl⟩ := List.mem_map.1 hx
  have := h y hy
  exact ⟨hb, Dig.digest_range hb.1 hb.2 (by simp only [List.length_cons]; omega)⟩
/-- Leaves that are such of a tree. -/
def lok (b : Int) (l : List (List Int)) : Prop := ((2 ≤ b ∧ b ≤ 60) ∧ 1 ≤ l.length ∧ l.length ≤ 16) ∧ ∀ x ∈ l, x.length < 4000
instance (b : Int) (l : List (List Int)) : Decidable (lok b l) := by unfold lok; infer_instance
theorem impl_lok (b : Int) (l : List (List Int)) : impl_leavesOk.f b l = some (decide (lok b l)) := by
  have h : impl_leavesOk.f b l = some (decide ((2 ≤ b ∧ b ≤ 60) ∧ 1 ≤ l.length ∧ l.length ≤ 16) && l.all fun x => decide (x.length < 4000)) := rfl
  rw [h]
  congr 1
  rw [Bool.eq_iff_iff, Bool.and_eq_true, decide_eq_true_eq, List.all_eq_true, decide_eq_true_eq]
  unfold lok
  simp only [decide_eq_true_eq]
theorem snoc_take (f : List Int → Int) (l : List (List Int)) (i : Nat) (h : i < l.length) : (l.map f).take i ++ [f (l.getD i [])] = (l.map f).take (i + 1) := by
  rw [List.take_succ_eq_append_getElem (by simpa using h), List.getElem_map, List.getD_eq_getElem?_getD, List.getElem?_eq_getElem h]
  rfl
theorem lv_l2 (b : Int) (m : List Int) (out : List (List Int)) (hm : m.length ≤ 16) (res : List (List Int)) : ∀ (t : List Int) (i : Nat) (acc : List Int), m.drop i = t → acc.length + t.length ≤ 100 → i ≤ 100 →
    Ev (fun k => impl_levels.l1 k b (acc ++ abv b t) out) res → Ev (fun k => impl_levels.l2 k b m out acc (i : Int)) res
  | [], i, acc, hd, ha, hi, hk => by
    have hl : m.length ≤ i := List.drop_eq_nil_iff.1 hd
    refine Ev.step (fun k => impl_levels.l2.eq_2 ..) (ev_neg (by omega) ?_)
    rw [abv, List.append_nil] at hk
    exact hk
  | [x], i, acc, hd, ha, hi, hk => by
    obtain ⟨h1, h2, h3⟩ := drop_one hd
    have hl : m.length ≤ i + 1 := List.drop_eq_nil_iff.1 h3
    simp only [List.length_cons, List.length_nil] at ha
    refine Ev.step (fun k => impl_levels.l2.eq_2 ..) (ev_pos (by omega) (ev_neg (by rw [wr_succ (by omega)]; omega) (ev_pos (by omega) (ev_pos (by omega) ?_))))
    rw [h2, wr (n := (i : Int) + 2) (by omega) (by omega)]
    exact lv_l2 b m out hm res [] (i + 2) (acc ++ [x]) (List.drop_eq_nil_iff.2 (by omega)) (by simp only [List.length_append, List.length_singleton, List.length_nil]; omega) (by omega) (by rw [abv, List.append_nil]; exact hk)
  | x :: y :: t, i, acc, hd, ha, hi, hk => by
    obtain ⟨h1, h2, h3⟩ := drop_one hd
    obtain ⟨h4, h5, h6⟩ := drop_one h3
    simp only [List.length_cons] at ha
    refine Ev.step (fun k => impl_levels.l2.eq_2 ..) (ev_pos (by omega) (ev_pos (by rw [wr_succ (by omega)]; omega) (ev_pos (by omega) (ev_pos (by rw [wr_succ (by omega)]; omega) ?_))))
    rw [h2, wr_succ (n := i) (by omega), h5, wr (n := (i : Int) + 2) (by omega) (by omega)]
    refine ev_bind (impl_node b x y) (ev_pos (by omega) ?_)
    refine lv_l2 b m out hm res t (i + 2) (acc ++ [node b x y]) h6 (by simp only [List.length_append, List.length_singleton]; omega) (by omega) ?_
    rw [List.append_assoc]
    exact hk
theorem lv_l1 (b : Int) (n : Nat) : ∀ (m : List Int) (out : List (List Int)), 1 ≤ m.length → m.length ≤ n + 1 → m.length ≤ 16 → out.length + n ≤ 1000 → Ev (fun k => impl_levels.l1 k b m out) (out ++ lvs b n m) := by
  induction n with
  | zero =>
    intro m out h1 h2 h3 h4
    refine Ev.step (fun k => impl_levels.l1.eq_2 ..) (ev_pos (by omega) (ev_some (ev_pos (by omega) (ev_ret ?_))))
    unfold lvs
    rfl
  | succ n ih =>
    intro m out h1 h2 h3 h4
    refine Ev.step (fun k => impl_levels.l1.eq_2 ..) (ev_pos (by omega) (ev_some ?_))
    unfold lvs
    by_cases h : m.length = 1
    · rw [if_pos h]
      exact ev_pos (by omega) (ev_ret rfl)
    · rw [if_neg h]
      have hl := abv_length b m
      refine ev_neg (by omega) (lv_l2 b m (out ++ [m]) h3 _ m 0 [] rfl (by simp only [List.length_nil]; omega) (by omega) ?_)
      have := ih (abv b m) (out ++ [m]) (by omega) (by omega) (by omega) (by simp only [List.length_append, List.length_singleton]; omega)
      rw [List.append_assoc] at this
      exact this
theorem lv_l0 (b : Int) (l : List (List Int)) (h1 : 1 ≤ l.length) (h2 : l.length ≤ 16) (hs : ∀ x ∈ l, x.length < 4000) (n : Nat) : ∀ i : Nat, i + n = l.length →
    Ev (fun k => impl_levels.l0 k b ((leafs b l).take i) [] l (l.length : Int) (i : Int)) (lvs b 15 (leafs b l)) := by
  have hll := leafs_length b l
  induction n with
  | zero =>
    intro i hi
    refine Ev.step (fun k => impl_levels.l0.eq_2 ..) (ev_neg (by omega) ?_)
    rw [List.take_of_length_le (by omega)]
    exact lv_l1 b 15 (leafs b l) [] (by omega) (by omega) (by omega) (by decide)
  | succ n ih =>
    intro i hi
    have hx : (l.getD i []).length < 4000 := by
      rw [List.getD_eq_getElem?_getD, List.getElem?_eq_getElem (by omega)]
      exact hs _ (List.getElem_mem _)
    refine Ev.step (fun k => impl_levels.l0.eq_2 ..) (ev_pos (by omega) (ev_pos (by omega) (ev_pos (by omega) ?_)))
    have er : rd_L1 l (i : Int) = l.getD i [] := by unfold rd_L1; rw [Int.toNat_natCast]
    rw [er]
    refine ev_pure (impl_leaf b (by omega)) (ev_pos (by rw [List.length_take]; omega) ?_)
    have es : (leafs b l).take i ++ [Dig.digest b (0 :: l.getD i [])] = (leafs b l).take (i + 1) := snoc_take (fun x => Dig.digest b (0 :: x)) l i (by omega)
    rw [wr_succ (by omega), es]
    exact ih (i + 1) (by omega)
theorem impl_lvs (b : Int) (l : List (List Int)) (h1 : 1 ≤ l.length) (h2 : l.length ≤ 16) (hs : ∀ x ∈ l, x.length < 4000) : Ev (fun k => impl_levels.f k b l) (lvs b 15 (leafs b l)) := by
  unfold impl_levels.f
  exact lv_l0 b l h1 h2 hs l.length 0 (by omega)
/-- The top's input of leaves. -/
def topOfL (b : Int) (l : List (List Int)) : List Int := topIn l.length (apex b 15 (leafs b l))
theorem lok_apex {b : Int} {l : List (List Int)} (h : lok b l) : okd b (apex b 15 (leafs b l)) := by
  have := leafs_length b l
  exact apex_okd h.1.1 15 (leafs b l) (by have := h.1.2; omega) (by have := h.1.2; omega) (leafs_okd h.1.1 h.2)
theorem last_lvs (b : Int) (l : List (List Int)) (h1 : 1 ≤ l.length) (h2 : l.length ≤ 16) : ∃ pre, lvs b 15 (leafs b l) = pre ++ [[apex b 15 (leafs b l)]] ∧ pre.length ≤ 15 := by
  have := leafs_length b l
  exact lvs_last b 15 (leafs b l) (by omega) (by omega)
theorem rdI_last (pre : List (List Int)) (x : List Int) (h : pre.length ≤ 15) : wrap64 (((pre ++ [x]).length : Int) - 1) = (pre.length : Int) ∧ rd_L3 (pre ++ [x]) (pre.length : Int) = x := by
  refine ⟨?_, ?_⟩
  · rw [List.length_append, List.length_singleton, wr (by omega) (by omega)]
    omega
  · unfold rd_L3
    rw [Int.toNat_natCast, List.getD_eq_getElem?_getD, List.getElem?_append_right (Nat.le_refl _), Nat.sub_self]
    rfl
theorem impl_topof {b : Int} {l : List (List Int)} (h : lok b l) : Ev (fun k => impl_topOf.f k b l) (topOfL b l) := by
  unfold impl_topOf.f topOfL
  obtain ⟨⟨hb, h1, h2⟩, hs⟩ := h
  have ha := lok_apex (b := b) (l := l) ⟨⟨hb, h1, h2⟩, hs⟩
  obtain ⟨pre, e, hp⟩ := last_lvs b l h1 h2
  refine ev_bind (impl_lvs b l h1 h2 hs) ?_
  rw [e]
  generalize apex b 15 (leafs b l) = x at ha ⊢
  obtain ⟨e1, e2⟩ := rdI_last pre [x] hp
  rw [e1, e2]
  have e3 : rd [x] 0 = x := rfl
  rw [e3]
  exact ev_pos (by omega) (ev_pos (by simp only [List.length_append, List.length_singleton]; omega) (ev_pos (by simp) (ev_bind (impl_topin h2 (okd_le ha).2) (ev_ret rfl))))
/-- A tree's root; -1: the leaves are no such. -/
def treeRoot (b : Int) (l : List (List Int)) : Int := if lok b l then Dig.digest b (topOfL b l) else -1
theorem impl_treeroot (b : Int) (l : List (List Int)) : Ev (fun k => impl_TreeRoot.f k b l) (treeRoot b l) := by
  unfold impl_TreeRoot.f treeRoot
  refine ev_pure (impl_lok b l) ?_
  by_cases h : lok b l
  · rw [if_pos h]
    exact ev_pos (decide_eq_true h) (ev_bind (impl_topof h) (ev_pure (impl_digest b _) (ev_ret rfl)))
  · rw [if_neg h]
    exact ev_neg (by simp [h]) (ev_ret rfl)
/-- The path of a place: of each level the one beside, where there is one. -/
def pth (a : Nat) : List (List Int) → List Int
  | [] => []
  | v :: r => (if beside a < v.length then [v.getD (beside a) 0] else []) ++ pth (a / 2) r
theorem pth_length (L : List (List Int)) : ∀ a, (pth a L).length ≤ L.length := by
  induction L with
  | nil => intro a; exact Nat.le_refl _
  | cons v r ih =>
    intro a
    have := ih (a / 2)
    unfold pth
    rw [List.length_append, List.length_cons]
    split
    · simp only [List.length_singleton]; omega
    · simp only [List.length_nil]; omega
theorem lvs_length (b : Int) (n : Nat) : ∀ m : List Int, (lvs b n m).length ≤ n + 1 := by
  induction n with
  | zero => intro m; exact Nat.le_refl _
  | succ n ih =>
    intro m
    unfold lvs
    split
    · simp
    · have := ih (abv b m)
      simp only [List.length_cons]
      omega
theorem rdI_nat (L : List (List Int)) (i : Nat) : rd_L3 L (i : Int) = L.getD i [] := by unfold rd_L3; rw [Int.toNat_natCast]
theorem impl_path_l0 (L : List (List Int)) (hL : L.length ≤ 100) (n : Nat) : ∀ (i a : Nat) (acc : List Int), i + n = L.length → a < 16 → acc.length + n ≤ 1000 →
    Ev (fun k => impl_path.l0 k (a : Int) acc L (L.length : Int) (i : Int)) (acc ++ pth a (L.drop i)) := by
  induction n with
  | zero =>
    intro i a acc hi ha hac
    refine Ev.step (fun k => impl_path.l0.eq_2 ..) (ev_neg (by omega) (ev_ret ?_))
    rw [List.drop_eq_nil_of_le (by omega)]
    unfold pth
    rw [List.append_nil]
  | succ n ih =>
    intro i a acc hi ha hac
    refine Ev.step (fun k => impl_path.l0.eq_2 ..) (ev_pos (by omega) (ev_pos (by omega) (ev_pos (by omega) ?_)))
    have hd : L.drop i = L.getD i [] :: L.drop (i + 1) := drop_getD L [] i (by omega)
    have hx : Go.bits .xor .i64 (a : Int) 1 = ((beside a : Nat) : Int) := xor_one ⟨a, ha⟩
    rw [hx, rdI_nat, half_nat a (by omega), wr_succ (n := i) (by omega), hd, pth]
    generalize L.getD i [] = v
    by_cases h : beside a < v.length
    · rw [if_pos h, rd_nat]
      refine ev_pos (by omega) (ev_pos (by omega) (ev_pos (by omega) ?_))
      have := ih (i + 1) (a / 2) (acc ++ [v.getD (beside a) 0]) (by omega) (by omega) (by simp only [List.length_append, List.length_singleton]; omega)
      rw [List.append_assoc] at this
      exact this
    · rw [if_neg h]
      exact ev_neg (by omega) (ih (i + 1) (a / 2) acc (by omega) (by omega) (by omega))
/-- Path's answer. -/
def pathOf (b : Int) (l : List (List Int)) (a : Int) : List Int × Bool := if lok b l ∧ 0 ≤ a ∧ a < (l.length : Int) then (pth a.toNat (lvs b 15 (leafs b l)), true) else ([], false)
theorem impl_pathL {b : Int} {l : List (List Int)} {a : Int} (h : lok b l) (h0 : 0 ≤ a) (h1 : a < (l.length : Int)) : Ev (fun k => impl_path.f k b l a) (pth a.toNat (lvs b 15 (leafs b l))) := by
  have hl := h.1.2
  obtain ⟨n, rfl⟩ := Int.eq_ofNat_of_zero_le h0
  unfold impl_path.f
  refine ev_bind (impl_lvs b l hl.1 hl.2 h.2) ?_
  have hL := lvs_length b 15 (leafs b l)
  rw [Int.toNat_natCast]
  have := impl_path_l0 (lvs b 15 (leafs b l)) (by omega) (lvs b 15 (leafs b l)).length 0 n [] (by omega) (by omega) (by simp only [List.length_nil]; omega)
  exact this
theorem impl_pathof (b : Int) (l : List (List Int)) (a : Int) : Ev (fun k => impl_Path.f k b l a) (pathOf b l a) := by
  unfold impl_Path.f pathOf
  refine ev_pure (impl_lok b l) ?_
  by_cases h : lok b l
  · have hl := h.1.2
    refine ev_pos (decide_eq_true h) (ev_pure (impl_in_eq _ _ _) ?_)
    rw [wr (n := (l.length : Int) - 1) (by omega) (by omega)]
    by_cases h2 : 0 ≤ a ∧ a ≤ (l.length : Int) - 1
    · rw [if_pos ⟨h, h2.1, by omega⟩]
      exact ev_pos (decide_eq_true h2) (ev_bind (impl_pathL h h2.1 (by omega)) (ev_ret rfl))
    · rw [if_neg (fun k => h2 ⟨k.2.1, by have := k.2.2; omega⟩)]
      exact ev_neg (by simp only [decide_eq_true_eq]; exact h2) (ev_ret rfl)
  · rw [if_neg (fun k => h k.1)]
    exact ev_neg (by simp [h]) (ev_ret rfl)
/-- The root with one leaf changed. -/
def changed (b : Int) (l : List (List Int)) (i : Int) (x : List Int) : Int × Bool := if lok b l ∧ 0 ≤ i ∧ i < (l.length : Int) then (treeRoot b (l.set i.toNat x), decide (0 ≤ treeRoot b (l.set i.toNat x))) else (-1, false)
theorem lok_all (b : Int) (l : List (List Int)) : (((2 ≤ b ∧ b ≤ 60) ∧ 1 ≤ l.length ∧ l.length ≤ 16) ∧ (l.all fun z => decide (z.length < 4000)) = true) ↔ lok b l := by
  unfold lok
  rw [List.all_eq_true]
  exact and_congr_right fun _ => forall_congr' fun x => imp_congr_right fun _ => decide_eq_true_iff
theorem impl_changed (b : Int) (l : List (List Int)) (i : Int) (x : List Int) : Ev (fun k => impl_Changed.f k b l i x) (changed b l i x) := by
  unfold impl_Changed.f changed
  by_cases h : lok b l
  · refine ev_pos ((lok_all b l).2 h) ?_
    by_cases q : 0 ≤ i ∧ i < (l.length : Int)
    · rw [if_pos ⟨h, q⟩]
      exact ev_pos q (ev_bind (impl_treeroot b _) (ev_ret rfl))
    · rw [if_neg (fun hc => q hc.2)]
      exact ev_neg q (ev_ret rfl)
  · rw [if_neg (fun hc => h hc.1)]
    exact ev_neg (fun hc => h ((lok_all b l).1 hc)) (ev_ret rfl)
theorem beside_add (a : Nat) : beside (a + 2) = beside a + 2 := by
  unfold beside
  by_cases h : a % 2 = 0
  · rw [if_pos h, if_pos (by omega)]
  · rw [if_neg h, if_neg (by omega)]
    omega
/-- A level's number is the digest of the two below, or the one below that is alone. -/
theorem abv_getD {b : Int} : ∀ (l : List Int) (a : Nat), a < l.length → (∀ x ∈ l, okd b x) → (abv b l).getD (a / 2) 0 = if beside a < l.length then Dig.digest b (stepIn a (l.getD (beside a) 0) (l.getD a 0)) else l.getD a 0
  | [], a, h, _ => absurd h (Nat.not_lt_zero _)
  | [x], a, h, _ => by
    have : a = 0 := by simp only [List.length_singleton] at h; omega
    subst this
    rfl
  | x :: y :: l, a, h, ho => by
    have hn : node b x y = Dig.digest b (nodeIn x y) := by
      unfold node
      rw [if_pos ⟨ho x (by simp), ho y (by simp)⟩]
    match a, h with
    | 0, _ =>
      rw [if_pos (by simp [beside])]
      exact hn
    | 1, _ =>
      rw [if_pos (by simp [beside])]
      exact hn
    | a + 2, h =>
      have hi := abv_getD l a (by simp only [List.length_cons] at h; omega) (fun z hz => ho z (by simp [hz]))
      have e1 : (a + 2) / 2 = a / 2 + 1 := by omega
      have e2 : stepIn (a + 2) ((x :: y :: l).getD (beside (a + 2)) 0) ((x :: y :: l).getD (a + 2) 0) = stepIn a (l.getD (beside a) 0) (l.getD a 0) := by
        rw [beside_add]
        unfold stepIn
        rw [show (a + 2) % 2 = a % 2 by omega]
        rfl
      rw [e1, e2, beside_add]
      show (abv b l).getD (a / 2) 0 = if beside a + 2 < l.length + 1 + 1 then _ else l.getD a 0
      rw [hi]
      by_cases h3 : beside a < l.length
      · rw [if_pos h3, if_pos (by omega)]
      · rw [if_neg h3, if_neg (by omega)]
/-- The way up along a leaf's path ends in the apex, and leaves nothing of the path. -/
theorem ups_pth {b : Int} (hb : 2 ≤ b ∧ b ≤ 60) (n : Nat) : ∀ (m : List Int) (a : Nat) (t : List Int), 1 ≤ m.length → m.length ≤ n + 1 → a < m.length → (∀ x ∈ m, okd b x) → ∃ l, ups b (n + 1) m.length a (m.getD a 0) (pth a (lvs b n m) ++ t) = some (l, t, apex b n m) := by
  have one : ∀ (n : Nat) (m : List Int) (a : Nat) (t : List Int), m.length = 1 → a < m.length → ups b (n + 1) m.length a (m.getD a 0) (pth a [m] ++ t) = some ([], t, rd m 0) := by
    intro n m a t h1 ha
    have : a = 0 := by omega
    subst this
    have e : pth 0 [m] = [] := by
      unfold pth
      rw [if_neg (by rw [h1]; decide)]
      rfl
    rw [e, List.nil_append, ups_le b n m.length 0 _ _ (by omega)]
    rfl
  induction n with
  | zero =>
    intro m a t h1 h2 ha ho
    exact ⟨[], one 0 m a t (by omega) ha⟩
  | succ n ih =>
    intro m a t h1 h2 ha ho
    unfold lvs apex
    by_cases h : m.length = 1
    · rw [if_pos h, if_pos h]
      exact ⟨[], one (n + 1) m a t h ha⟩
    · rw [if_neg h, if_neg h]
      have hl := abv_length b m
      obtain ⟨l, e⟩ := ih (abv b m) (a / 2) t (by omega) (by omega) (by omega) (abv_okd hb m ho)
      rw [abv_getD m a ha ho, hl] at e
      unfold pth
      by_cases hs : beside a < m.length
      · rw [if_pos hs] at e ⊢
        refine ⟨stepIn a (m.getD (beside a) 0) (m.getD a 0) :: l, ?_⟩
        rw [List.append_assoc, List.singleton_append, ups_step b (n + 1) _ _ _ _ _ (by omega) hs, e]
        rfl
      · rw [if_neg hs] at e ⊢
        refine ⟨l, ?_⟩
        rw [List.nil_append, ups_skip b (n + 1) _ _ _ _ (by omega) hs]
        exact e
theorem pth_okd {b : Int} (L : List (List Int)) (h : ∀ v ∈ L, ∀ x ∈ v, okd b x) : ∀ a, ∀ x ∈ pth a L, okd b x := by
  induction L with
  | nil => intro a x hx; cases hx
  | cons v r ih =>
    intro a x hx
    unfold pth at hx
    rcases List.mem_append.1 hx with hx | hx
    · by_cases hs : beside a < v.length
      · rw [if_pos hs, List.mem_singleton, List.getD_eq_getElem?_getD, List.getElem?_eq_getElem hs] at hx
        subst hx
        exact h v List.mem_cons_self _ (List.getElem_mem hs)
      · rw [if_neg hs] at hx
        cases hx
    · exact ih (fun u hu => h u (List.mem_cons_of_mem _ hu)) (a / 2) x hx
theorem lvs_okd {b : Int} (hb : 2 ≤ b ∧ b ≤ 60) (n : Nat) : ∀ m : List Int, (∀ x ∈ m, okd b x) → ∀ v ∈ lvs b n m, ∀ x ∈ v, okd b x := by
  induction n with
  | zero =>
    intro m h v hv
    unfold lvs at hv
    rw [List.mem_singleton] at hv
    subst hv
    exact h
  | succ n ih =>
    intro m h v hv
    unfold lvs at hv
    by_cases h1 : m.length = 1
    · rw [if_pos h1, List.mem_singleton] at hv
      subst hv
      exact h
    · rw [if_neg h1] at hv
      rcases List.mem_cons.1 hv with rfl | hv
      · exact h
      · exact ih (abv b m) (abv_okd hb m h) v hv
/-- A leaf's path leads to the root. -/
theorem rootFrom_path {b : Int} {l : List (List Int)} (h : lok b l) {i : Nat} (hi : i < l.length) : rootFrom b (l.length : Int) (i : Int) (l.getD i []) (pth i (lvs b 15 (leafs b l))) = treeRoot b l := by
  have hl := leafs_length b l
  have ho := leafs_okd h.1.1 h.2
  obtain ⟨ls, e⟩ := ups_pth h.1.1 15 (leafs b l) i [] (by have := h.1.2; omega) (by have := h.1.2; omega) (by omega) ho
  have eg : (leafs b l).getD i 0 = Dig.digest b (0 :: l.getD i []) := by
    unfold leafs
    rw [List.getD_eq_getElem?_getD, List.getElem?_map, List.getD_eq_getElem?_getD, List.getElem?_eq_getElem hi]
    rfl
  rw [hl, eg, List.append_nil] at e
  unfold rootFrom treeRoot topOfL
  rw [if_pos h, if_pos ⟨⟨by have := h.1.2; omega, by have := h.1.2; omega⟩, ⟨by omega, by omega⟩, h.1.1, h.2 _ (getD_mem hi), pth_okd _ (lvs_okd h.1.1 15 _ ho) i⟩, Int.toNat_natCast, Int.toNat_natCast]
  have e' : ups b 16 l.length i (Dig.digest b (0 :: l.getD i [])) (pth i (lvs b 15 (leafs b l))) = some (ls, [], apex b 15 (leafs b l)) := e
  generalize apex b 15 (leafs b l) = y at e' ⊢
  generalize pth i (lvs b 15 (leafs b l)) = p at e' ⊢
  generalize Dig.digest b (0 :: l.getD i []) = x at e' ⊢
  simp only [e', if_true]
theorem and_bits_lt (x : Int) (j : Nat) (hj : j ≤ 62) (y : Int) (hy : y = ((2 ^ j - 1 : Nat) : Int)) : 0 ≤ Go.bits .and .i64 x y ∧ Go.bits .and .i64 x y < 2 ^ j := by
  subst hy
  have hp : 0 < 2 ^ j := Nat.two_pow_pos j
  have hle : (BitVec.ofInt 64 x &&& BitVec.ofInt 64 ((2 ^ j - 1 : Nat) : Int)).toNat ≤ 2 ^ j - 1 := by
    rw [BitVec.toNat_and, BitVec.ofInt_natCast, BitVec.toNat_ofNat]
    exact Nat.le_trans Nat.and_le_right (Nat.mod_le _ _)
  have h62 : 2 ^ j ≤ 2 ^ 62 := Nat.pow_le_pow_right (by decide) hj
  have e62 : (2 : Nat) ^ 62 = 4611686018427387904 := by decide
  have ec : (2 : Int) ^ j = ((2 ^ j : Nat) : Int) := by simp
  have h0 : (0 : Int) ≤ (((BitVec.ofInt 64 x &&& BitVec.ofInt 64 ((2 ^ j - 1 : Nat) : Int)).toNat : Nat) : Int) := Int.natCast_nonneg _
  have h1 : (((BitVec.ofInt 64 x &&& BitVec.ofInt 64 ((2 ^ j - 1 : Nat) : Int)).toNat : Nat) : Int) < 2 ^ 63 := by
    have : (2 : Int) ^ 63 = 9223372036854775808 := by decide
    omega
  have e : Go.bits .and .i64 x ((2 ^ j - 1 : Nat) : Int) = (((BitVec.ofInt 64 x &&& BitVec.ofInt 64 ((2 ^ j - 1 : Nat) : Int)).toNat : Nat) : Int) := wraps_i64 _ h0 h1
  rw [e, ec]
  omega
theorem and255 (x : Int) : 0 ≤ Go.bits .and .i64 x 255 ∧ Go.bits .and .i64 x 255 < 256 := by
  have := and_bits_lt x 8 (by decide) 255 (by decide)
  simpa using this
/-- Where a cursor stands: inside its bytes. -/
def Cur (b : List Int) (i : Int) : Prop := 0 ≤ i ∧ i ≤ b.length ∧ b.length ≤ 1048576
theorem d_new (l : List Int) (hl : l.length ≤ 1048576) : ∃ h, Ev (fun k => spec_l1New.f k l) (l, 0, h) := by
  have key : ∀ (n i : Nat) (h : Int), i + n = l.length → ∃ h', Ev (fun k => spec_l1New.l0 k l h (i : Int)) (l, 0, h') := by
    intro n
    induction n with
    | zero =>
      intro i h hi
      exact ⟨h, Ev.step (fun k => spec_l1New.l0.eq_2 ..) (ev_neg (by omega) (ev_ret rfl))⟩
    | succ n ih =>
      intro i h hi
      by_cases h4 : (i : Int) < 4000
      · obtain ⟨h', e⟩ := ih (i + 1) _ (by omega)
        refine ⟨h', Ev.step (fun k => spec_l1New.l0.eq_2 ..) (ev_pos (by omega) (ev_pos h4 (ev_pos (by omega) ?_)))⟩
        rw [wr_succ (by omega)]
        exact e
      · exact ⟨h, Ev.step (fun k => spec_l1New.l0.eq_2 ..) (ev_pos (by omega) (ev_neg h4 (ev_ret rfl)))⟩
  obtain ⟨h, e⟩ := key l.length 0 (wrap64 (88088 + (l.length : Int))) (Nat.zero_add _)
  exact ⟨h, e⟩
theorem d_cur {l : List Int} (hl : l.length ≤ 1048576) : Cur l 0 := ⟨Int.le_refl _, by omega, hl⟩
theorem d_byte {b : List Int} {i : Int} (h : Int) (hc : Cur b i) : ∃ v i' h', spec_l1Byte.f b i h = some (v, i', h') ∧ 0 ≤ v ∧ v < 256 ∧ Cur b i' := by
  obtain ⟨h0, h1, h2⟩ := hc
  unfold spec_l1Byte.f
  by_cases hi : i < (b.length : Int)
  · rw [if_pos hi, if_pos h0]
    exact ⟨_, _, _, rfl, (and255 _).1, (and255 _).2, by rw [wr (by omega) (by omega)]; omega, by rw [wr (by omega) (by omega)]; omega, h2⟩
  · rw [if_neg hi]
    exact ⟨_, _, _, rfl, (and255 _).1, (and255 _).2, h0, h1, h2⟩
theorem d_below {b : List Int} {i : Int} (h : Int) (hc : Cur b i) (n : Int) (hn : n ≤ 1000000) : ∃ v i' h', spec_l1Below.f b i h n = some (v, i', h') ∧ 0 ≤ v ∧ (v < n ∨ v = 0) ∧ Cur b i' := by
  unfold spec_l1Below.f
  by_cases h0 : n ≤ 0
  · rw [if_pos h0]
    exact ⟨_, _, _, rfl, Int.le_refl _, .inr rfl, hc⟩
  rw [if_neg h0]
  obtain ⟨v, i1, h1, e1, v0, v1, c1⟩ := d_byte h hc
  by_cases h256 : n ≤ 256
  · rw [if_pos h256, e1, Option.bind_some, if_neg (by omega)]
    refine ⟨_, _, _, rfl, ?_, .inl ?_, c1⟩
    · rw [Int.tmod_eq_emod_of_nonneg v0]; exact Int.emod_nonneg _ (by omega)
    · rw [Int.tmod_eq_emod_of_nonneg v0]; exact Int.emod_lt_of_pos _ (by omega)
  · rw [if_neg h256, e1, Option.bind_some]
    obtain ⟨x, i2, h2, e2, x0, x1, c2⟩ := d_byte h1 c1
    rw [e2, Option.bind_some]
    obtain ⟨y, i3, h3, e3, y0, y1, c3⟩ := d_byte h2 c2
    rw [e3, Option.bind_some]
    obtain ⟨z, i4, h4, e4, z0, z1, c4⟩ := d_byte h3 c3
    rw [e4, Option.bind_some, if_neg (by omega)]
    have ew : wrap64 ((wrap64 ((wrap64 ((wrap64 (v * 16777216)) + (wrap64 (x * 65536)))) + (wrap64 (y * 256)))) + z) = v * 16777216 + x * 65536 + y * 256 + z := by
      rw [wr (n := v * 16777216) (by omega) (by omega), wr (n := x * 65536) (by omega) (by omega), wr (n := v * 16777216 + x * 65536) (by omega) (by omega), wr (n := y * 256) (by omega) (by omega), wr (n := v * 16777216 + x * 65536 + y * 256) (by omega) (by omega), wr (by omega) (by omega)]
    refine ⟨_, _, _, rfl, ?_, .inl ?_, c4⟩
    · show 0 ≤ Int.tmod (wrap64 ((wrap64 ((wrap64 ((wrap64 (v * 16777216)) + (wrap64 (x * 65536)))) + (wrap64 (y * 256)))) + z)) n
      rw [ew, Int.tmod_eq_emod_of_nonneg (by omega)]
      exact Int.emod_nonneg _ (by omega)
    · show Int.tmod (wrap64 ((wrap64 ((wrap64 ((wrap64 (v * 16777216)) + (wrap64 (x * 65536)))) + (wrap64 (y * 256)))) + z)) n < n
      rw [ew, Int.tmod_eq_emod_of_nonneg (by omega)]
      exact Int.emod_lt_of_pos _ (by omega)
theorem d_data {b : List Int} {i : Int} (h : Int) (hc : Cur b i) (n : Nat) (hn : n ≤ 1000) : ∃ l i' h', Ev (fun k => spec_l1DrawData.f k b i h (n : Int)) (l, i', h') ∧ l.length ≤ n ∧ (∀ x ∈ l, 0 ≤ x ∧ x < 256) ∧ Cur b i' := by
  have key : ∀ (m : Nat) (o : List Int) (i h : Int), o.length + m ≤ 1000 → Cur b i → (∀ x ∈ o, 0 ≤ x ∧ x < 256) → ∃ l i' h', Ev (fun k => spec_l1DrawData.l0 k o (m : Int) b i h) (l, i', h') ∧ l.length = o.length + m ∧ (∀ x ∈ l, 0 ≤ x ∧ x < 256) ∧ Cur b i' := by
    intro m
    induction m with
    | zero =>
      intro o i h ho hc hb
      exact ⟨o, i, h, Ev.step (fun k => spec_l1DrawData.l0.eq_2 ..) (ev_neg (by omega) (ev_ret rfl)), rfl, hb, hc⟩
    | succ m ih =>
      intro o i h ho hc hb
      obtain ⟨v, i1, h1, e1, v0, v1, c1⟩ := d_byte h hc
      have ev : v % 256 = v := by omega
      obtain ⟨l, i2, h2, e2, hl, hx, c2⟩ := ih (o ++ [v]) i1 h1 (by simp only [List.length_append, List.length_singleton]; omega) c1 (by
        intro x hx
        rcases List.mem_append.1 hx with hx | hx
        · exact hb x hx
        · rw [List.mem_singleton.1 hx]; exact ⟨v0, v1⟩)
      refine ⟨l, i2, h2, Ev.step (fun k => spec_l1DrawData.l0.eq_2 ..) (ev_pos (by omega) (ev_pure e1 (ev_pos (by omega) ?_))), by rw [hl, List.length_append, List.length_singleton]; omega, hx, c2⟩
      have ew : wrap64 (((m + 1 : Nat) : Int) - 1) = (m : Int) := by rw [wr (by omega) (by omega)]; omega
      rw [ew]
      show Ev (fun k => spec_l1DrawData.l0 k (o ++ [v % 256]) (m : Int) b i1 h1) _
      rw [ev]
      exact e2
  obtain ⟨v, i1, h1, e1, v0, v1, c1⟩ := d_below h hc (n : Int) (by omega)
  obtain ⟨m, rfl⟩ := Int.eq_ofNat_of_zero_le v0
  obtain ⟨l, i2, h2, e2, hl, hx, c2⟩ := key m [] i1 h1 (by simp; omega) c1 (by simp)
  refine ⟨l, i2, h2, ?_, by rw [hl]; simp; omega, hx, c2⟩
  unfold spec_l1DrawData.f
  exact ev_pure e1 e2
theorem d_pick {b : List Int} {i : Int} (h : Int) (hc : Cur b i) (l : List Int) (h0 : 0 < l.length) (h1 : l.length ≤ 100) : ∃ v i' h', spec_l1PickInt.f b i h l = some (v, i', h') ∧ v ∈ l ∧ Cur b i' := by
  obtain ⟨v, i', h', e, v0, v1, c⟩ := d_below h hc (l.length : Int) (by omega)
  unfold spec_l1PickInt.f
  rw [e, Option.bind_some]
  have hv : v < (l.length : Int) := by omega
  rw [if_pos v0, if_pos hv]
  refine ⟨_, _, _, rfl, ?_, c⟩
  show rd l v ∈ l
  unfold rd
  rw [List.getD_eq_getElem?_getD, List.getElem?_eq_getElem (by omega)]
  exact List.getElem_mem _
theorem at_ok {m : List Nat} (hm : ∀ c ∈ m, c < 256) (hl : m.length ≤ 1048576) (i : Nat) (hi : i ≤ 1000000) : ∃ n : Nat, n < 256 ∧ laws_at.f (I m) (i : Int) = some (n : Int) := by
  unfold laws_at.f
  by_cases h : i < m.length
  · refine ⟨m.getD i 0, getD_lt hm (by decide) i, ?_⟩
    have := getD_lt hm (by decide) i
    rw [if_pos (by rw [I_length]; omega), if_pos (by omega), rd_I, wrn (by omega)]
  · refine ⟨(i * 7 + m.length) % 256, Nat.mod_lt _ (by decide), ?_⟩
    rw [if_neg (by rw [I_length]; omega), I_length, wr (n := (i : Int) * 7) (by omega) (by omega), wr (by omega) (by omega), Int.tmod_eq_emod_of_nonneg (by omega)]
    congr 1
theorem draw_l0 (m : Nat) : ∀ {b : List Int} (o : List (List Int)) (i h : Int), o.length + m ≤ 16 → 1 ≤ o.length → Cur b i → (∀ x ∈ o, x.length < 4000) →
    ∃ (bits : Int) (ls : List (List Int)), Ev (fun k => spec_DrawLeaves.l0 k o (m : Int) b i h) (bits, ls) ∧ lok bits ls := by
  induction m with
  | zero =>
    intro b o i h h1 h2 hc ho
    obtain ⟨v, i', h', e, hv, _⟩ := d_pick h hc [2, 3, 4, 8, 16, 32, 60, 5] (by decide) (by decide)
    refine ⟨v, o, Ev.step (fun k => spec_DrawLeaves.l0.eq_2 ..) (ev_neg (by omega) (ev_pure e (ev_ret rfl))), ⟨⟨?_, by omega, by omega⟩, ho⟩⟩
    simp only [List.mem_cons, List.not_mem_nil, or_false] at hv
    omega
  | succ m ih =>
    intro b o i h h1 h2 hc ho
    obtain ⟨d, i1, hh, e1, hd, _, c1⟩ := d_data h hc 5 (by decide)
    obtain ⟨bits, ls, e, hk⟩ := ih (o ++ [d]) i1 hh (by rw [List.length_append, List.length_singleton]; omega) (by rw [List.length_append]; omega) c1 (fun x hx => by
      rcases List.mem_append.1 hx with hx | hx
      · exact ho x hx
      · rw [List.mem_singleton] at hx
        subst hx
        omega)
    refine ⟨bits, ls, Ev.step (fun k => spec_DrawLeaves.l0.eq_2 ..) (ev_pos (by omega) (ev_bind e1 (ev_pos (by omega) ?_))), hk⟩
    rw [show wrap64 (((m + 1 : Nat) : Int) - 1) = (m : Int) by rw [wr (by omega) (by omega)]; omega]
    exact e
theorem draw_leaves (l : List Int) (hl : l.length ≤ 1048576) : ∃ (bits : Int) (ls : List (List Int)), Ev (fun k => spec_DrawLeaves.f k l) (bits, ls) ∧ lok bits ls := by
  obtain ⟨h0, e0⟩ := d_new l hl
  obtain ⟨d, i1, h1, e1, hd, _, c1⟩ := d_data h0 (d_cur hl) 5 (by decide)
  obtain ⟨v, i2, h2, e2, v0, v1, c2⟩ := d_below h1 c1 10 (by decide)
  obtain ⟨m, rfl⟩ := Int.eq_ofNat_of_zero_le v0
  obtain ⟨bits, ls, e, hk⟩ := draw_l0 m [d] i2 h2 (by simp only [List.length_singleton]; omega) (by simp) c2 (fun x hx => by rw [List.mem_singleton] at hx; subst hx; omega)
  refine ⟨bits, ls, ?_, hk⟩
  unfold spec_DrawLeaves.f
  exact ev_bind e0 (ev_bind e1 (ev_pure e2 e))
theorem treeRoot_in {b : Int} {l : List (List Int)} (h : lok b l) : 0 ≤ treeRoot b l ∧ treeRoot b l < 2 ^ b.toNat := by
  unfold treeRoot
  rw [if_pos h]
  exact Dig.digest_range h.1.1.1 h.1.1.2 (by have := topIn_le l.length (apex b 15 (leafs b l)); unfold topOfL; omega)
theorem beside_ne (a : Nat) : beside a ≠ a := by
  unfold beside
  split <;> omega
theorem abv_set (b : Int) : ∀ (m : List Int) (a : Nat) (y : Int), ∃ z, abv b (m.set a y) = (abv b m).set (a / 2) z
  | [], a, y => ⟨0, rfl⟩
  | [x], 0, y => ⟨y, rfl⟩
  | [x], a + 1, y => by
    by_cases h : a = 0
    · subst h
      exact ⟨x, rfl⟩
    · refine ⟨0, ?_⟩
      obtain ⟨c, hc⟩ : ∃ c, (a + 1) / 2 = c + 1 := ⟨(a + 1) / 2 - 1, by omega⟩
      rw [hc]
      rfl
  | x :: u :: l, 0, y => ⟨node b y u, rfl⟩
  | x :: u :: l, 1, y => ⟨node b x y, rfl⟩
  | x :: u :: l, a + 2, y => by
    obtain ⟨z, e⟩ := abv_set b l a y
    refine ⟨z, ?_⟩
    rw [show (a + 2) / 2 = a / 2 + 1 by omega]
    show node b x u :: abv b (l.set a y) = node b x u :: (abv b l).set (a / 2) z
    rw [e]
/-- A place's path does not hang on what stands at the place. -/
theorem pth_set (b : Int) (n : Nat) : ∀ (m : List Int) (a : Nat) (y : Int), pth a (lvs b n (m.set a y)) = pth a (lvs b n m) := by
  have head : ∀ (m : List Int) (a : Nat) (y : Int), (if beside a < (m.set a y).length then [(m.set a y).getD (beside a) 0] else []) = (if beside a < m.length then [m.getD (beside a) 0] else []) := by
    intro m a y
    rw [List.length_set, List.getD_eq_getElem?_getD, List.getElem?_set_ne (fun h => beside_ne a h.symm), List.getD_eq_getElem?_getD]
  induction n with
  | zero =>
    intro m a y
    unfold lvs pth
    rw [head]
  | succ n ih =>
    intro m a y
    unfold lvs
    rw [List.length_set]
    by_cases h : m.length = 1
    · rw [if_pos h, if_pos h]
      unfold pth
      rw [head]
    · rw [if_neg h, if_neg h]
      obtain ⟨z, e⟩ := abv_set b m a y
      unfold pth
      rw [head, e, ih]
theorem leafs_set (b : Int) (l : List (List Int)) (i : Nat) (x : List Int) : leafs b (l.set i x) = (leafs b l).set i (Dig.digest b (0 :: x)) := by
  unfold leafs
  rw [List.map_set]
/-- How much of a path a way up takes. -/
theorem ups_len (b : Int) (n : Nat) : ∀ (size a : Nat) (x x' : Int) (p p' : List Int) (r r' : List (List Int) × List Int × Int), ups b n size a x p = some r → ups b n size a x' p' = some r' → p.length + r'.2.1.length = p'.length + r.2.1.length := by
  induction n with
  | zero =>
    intro size a x x' p p' r r' h h'
    unfold ups at h h'
    cases h
    cases h'
    exact Nat.add_comm _ _
  | succ n ih =>
    intro size a x x' p p' r r' h h'
    by_cases h1 : 1 < size
    · by_cases h2 : beside a < size
      · cases p with
        | nil => rw [ups_nil b n size a x h1 h2] at h; cases h
        | cons q p =>
          cases p' with
          | nil => rw [ups_nil b n size a x' h1 h2] at h'; cases h'
          | cons q' p' =>
            rw [ups_step b n size a x q p h1 h2] at h
            rw [ups_step b n size a x' q' p' h1 h2] at h'
            obtain ⟨s, e, rfl⟩ := Option.map_eq_some_iff.1 h
            obtain ⟨s', e', rfl⟩ := Option.map_eq_some_iff.1 h'
            have := ih _ _ _ _ _ _ _ _ e e'
            simp only [List.length_cons]
            omega
      · rw [ups_skip b n size a x p h1 h2] at h
        rw [ups_skip b n size a x' p' h1 h2] at h'
        exact ih _ _ _ _ _ _ _ _ h h'
    · rw [ups_le b n size a x p (by omega)] at h
      rw [ups_le b n size a x' p' (by omega)] at h'
      cases h
      cases h'
      exact Nat.add_comm _ _
theorem root_short {b : Int} {l : List (List Int)} (h : lok b l) {i : Nat} (hi : i < l.length) (hp : 0 < (pth i (lvs b 15 (leafs b l))).length) : rootFrom b (l.length : Int) (i : Int) (l.getD i []) ((pth i (lvs b 15 (leafs b l))).drop 1) = -1 := by
  have hl := leafs_length b l
  have ho := leafs_okd h.1.1 h.2
  obtain ⟨ls, e⟩ := ups_pth h.1.1 15 (leafs b l) i [] (by have := h.1.2; omega) (by have := h.1.2; omega) (by omega) ho
  rw [hl, List.append_nil] at e
  have e' : ups b 16 l.length i ((leafs b l).getD i 0) (pth i (lvs b 15 (leafs b l))) = some (ls, [], apex b 15 (leafs b l)) := e
  clear e
  generalize apex b 15 (leafs b l) = y at e'
  generalize pth i (lvs b 15 (leafs b l)) = p at e' hp ⊢
  unfold rootFrom
  by_cases hu : upOk b (l.length : Int) (i : Int) (l.getD i []) (p.drop 1)
  · rw [if_pos hu, Int.toNat_natCast, Int.toNat_natCast]
    generalize Dig.digest b (0 :: l.getD i []) = x
    cases hc : ups b 16 l.length i x (p.drop 1) with
    | none => rfl
    | some r =>
      have := ups_len b 16 _ _ _ _ _ _ _ _ e' hc
      obtain ⟨r1, r2, r3⟩ := r
      simp only [List.length_drop, List.length_nil] at this
      show (if r2 = [] then _ else -1) = (-1 : Int)
      rw [if_neg]
      intro hr
      rw [hr, List.length_nil] at this
      omega
  · rw [if_neg hu]
theorem impl_prov {b root many at_ : Int} {l p : List Int} (hr : root ≠ -1) : Ev (fun k => impl_Proven.f k b root many at_ l p) (rootFrom b many at_ l p == root) := by
  unfold impl_Proven.f
  exact ev_neg hr (ev_bind (impl_root b many at_ l p) (ev_ret rfl))
theorem proven_loop (c : List Int) (hw : ∀ i : Nat, i ≤ 1000 → ∃ n : Int, laws_at.f c (i : Int) = some n) {b : Int} {l : List (List Int)} (h : lok b l) (n : Nat) : ∀ i : Nat, i + n = l.length → Ev (fun k => laws_FnProven.l0 k c b l (treeRoot b l) (i : Int)) true := by
  have h16 := h.1.2
  have hr := treeRoot_in h
  induction n with
  | zero =>
    intro i hi
    have hb := h.1.1
    have hx : okd b (Dig.digest b (0 :: l.getD 0 [])) := ⟨hb, Dig.digest_range hb.1 hb.2 (by have := h.2 _ (getD_mem (l := l) (i := 0) (by omega)); simp only [List.length_cons]; omega)⟩
    have h4 := h.2 _ (getD_mem (l := l) (i := 0) (by omega))
    have e0 : rd_L1 l 0 = l.getD 0 [] := rdB_nat l 0
    refine Ev.step (fun k => laws_FnProven.l0.eq_2 ..) (ev_neg (by omega) (ev_pos (by omega) ?_))
    rw [e0]
    generalize l.getD 0 [] = u at hx h4 ⊢
    refine ev_pure (impl_leaf b (by omega)) (ev_bind (impl_node b _ _) (ev_pos ?_ (ev_bind (impl_node b (-1) 0) (ev_pos ?_ (ev_some (ev_pos ?_ (ev_pure (impl_digest b _) (ev_ret ?_))))))))
    · unfold node
      rw [if_pos ⟨hx, hx⟩]
      exact (node_okd hb _ _).2.1
    · unfold node
      rw [if_neg (fun hc => by have := hc.1.2.1; omega)]
    · simp only [List.length_singleton]
      omega
    · exact beq_self_eq_true _
  | succ n ih =>
    intro i hi
    have hn := ih (i + 1) (by omega)
    rw [← wr_succ (n := i) (by omega)] at hn
    have hpo : pathOf b l (i : Int) = (pth i (lvs b 15 (leafs b l)), true) := by
      unfold pathOf
      rw [if_pos ⟨h, by omega, by omega⟩, Int.toNat_natCast]
    have hp := impl_pathof b l (i : Int)
    rw [hpo] at hp
    have hroot := rootFrom_path h (i := i) (by omega)
    have hne : treeRoot b l ≠ -1 := by omega
    have hprov := impl_prov (b := b) (root := treeRoot b l) (many := (l.length : Int)) (at_ := (i : Int)) (l := l.getD i []) (p := pth i (lvs b 15 (leafs b l))) hne
    rw [hroot, beq_self_eq_true] at hprov
    have hrf := impl_root b (l.length : Int) (i : Int) (l.getD i []) (pth i (lvs b 15 (leafs b l)))
    rw [hroot] at hrf
    refine Ev.step (fun k => laws_FnProven.l0.eq_2 ..) (ev_pos (by omega) (ev_bind hp (ev_pos rfl (ev_pos (by omega) ?_))))
    rw [rdB_nat]
    refine ev_bind hprov (ev_pos rfl (ev_bind hrf (Ev.step (fun k => laws_FnProven.j2.eq_2 ..) (ev_neg (by simp) ?_))))
    obtain ⟨v, ev⟩ := hw i (by omega)
    refine ev_pure ev (ev_some ?_)
    generalize v % 256 = q
    have hlok : lok b (l.set i [q, 9, 9, 9, 9, 9, 9]) := by
      refine ⟨⟨h.1.1, by rw [List.length_set]; omega, by rw [List.length_set]; omega⟩, fun x hx => ?_⟩
      rcases List.mem_or_eq_of_mem_set hx with hx | rfl
      · exact h.2 x hx
      · exact (by decide : 7 < 4000)
    have hr2 := treeRoot_in hlok
    have hch := impl_changed b l (i : Int) [q, 9, 9, 9, 9, 9, 9]
    unfold changed at hch
    rw [if_pos ⟨h, by omega, by omega⟩, Int.toNat_natCast, decide_eq_true hr2.1] at hch
    have hroot2 := rootFrom_path hlok (i := i) (by rw [List.length_set]; omega)
    have eg : (l.set i [q, 9, 9, 9, 9, 9, 9]).getD i [] = [q, 9, 9, 9, 9, 9, 9] := by
      rw [List.getD_eq_getElem?_getD, List.getElem?_set_self (by omega)]
      rfl
    rw [eg, List.length_set, leafs_set, pth_set] at hroot2
    have hprov2 := impl_prov (b := b) (root := treeRoot b (l.set i [q, 9, 9, 9, 9, 9, 9])) (many := (l.length : Int)) (at_ := (i : Int)) (l := [q, 9, 9, 9, 9, 9, 9]) (p := pth i (lvs b 15 (leafs b l))) (by omega)
    rw [hroot2, beq_self_eq_true] at hprov2
    refine ev_bind hch (ev_pos rfl (ev_bind hprov2 (Ev.step (fun k => laws_FnProven.j3.eq_2 ..) (ev_neg (by decide) ?_))))
    by_cases hz : 0 < (pth i (lvs b 15 (leafs b l))).length
    · have hs := root_short h (i := i) (by omega) hz
      have hprov3 := impl_prov (b := b) (root := treeRoot b l) (many := (l.length : Int)) (at_ := (i : Int)) (l := l.getD i []) (p := (pth i (lvs b 15 (leafs b l))).drop 1) hne
      rw [hs, beq_eq_false_iff_ne.2 (fun hc => hne hc.symm)] at hprov3
      refine ev_pos (show ((pth i (lvs b 15 (leafs b l))).length : Int) > 0 by omega) (ev_pos (by omega) (ev_pos (by omega) (ev_pos (show 1 ≤ ((pth i (lvs b 15 (leafs b l))).length : Int) by omega) ?_)))
      rw [rdB_nat]
      exact ev_bind hprov3 (ev_neg (by decide) hn)
    · exact ev_neg (show ¬ ((pth i (lvs b 15 (leafs b l))).length : Int) > 0 by omega) hn
theorem FnProven : laws_FnProven.Pure := by
  intro l hl _ wb
  obtain ⟨m, rfl, hm⟩ := bytes_of wb
  refine Ev.rounds ?_
  unfold laws_FnProven.f
  refine ev_pure (a := decide (((I m).length : Int) > 1048576)) rfl ?_
  by_cases h : ((I m).length : Int) > 1048576
  · exact ev_pos (by simp [h]) (ev_ret rfl)
  refine ev_neg (by simp only [decide_eq_true_eq]; exact h) ?_
  rw [I_length] at h
  obtain ⟨b, ls, e, hk⟩ := draw_leaves (I m) (by rw [I_length]; omega)
  have hr := treeRoot_in hk
  have hs := (shl_one hk.1.1).1
  refine ev_bind e (ev_bind (impl_treeroot b ls) (ev_neg (by omega) (ev_pos (by have := hk.1.1; omega) ?_)))
  rw [hs]
  refine Ev.step (fun k => laws_FnProven.j0.eq_2 ..) (ev_neg (by simp only [decide_eq_true_eq]; omega) ?_)
  exact proven_loop (I m) (fun i hi => by obtain ⟨n, _, e⟩ := at_ok hm (by omega) i (by omega); exact ⟨_, e⟩) hk ls.length 0 (by omega)

end Go.Proofs.Ytaacidhgnappdaa.Pure
