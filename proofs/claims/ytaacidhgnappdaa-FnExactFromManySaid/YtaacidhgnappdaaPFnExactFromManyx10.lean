-- Written by a program of this workplace (wip/mp.py) out of the translation.
import Derived.Test.YtaacidhgnappdaaPFnExactFromManyx0
import Derived.Test.YtaacidhgnappdaaPFnExactFromManyx9
namespace Go.Proofs.Ytaacidhgnappdaa.PFnExactFromMany
open Go.RowKit Go.Proofs.YtaacidhgnappdaaW.PrintWords Go.Proofs.YtaacidhgnappdaaW.PrintLast Go.Proofs.YtaacidhgnappdaaW.PrintMore Go.Proofs.Ytaacidhgnappdaa.Slim
attribute [local go_sem] max2_int min2_int max_two min_two max_three min_three max_four min_four   -- for this text's walks alone
set_option linter.unusedVariables false
set_option linter.unusedSimpArgs false

/-! ### impl_digests: function 105 -/
/-- Is it a digest of so many bits. -/
def isDig (bits x : Int) : Bool := decide ((2 ≤ bits ∧ bits ≤ 60) ∧ 0 ≤ x ∧ x < 2 ^ bits.toNat)
def impl_digests.f (a0 : Int) (l1 : List Int) : Option (Bool) := if l1.all (fun x => (impl_isDigest.f a0 x).isSome) then some (l1.all fun x => (impl_isDigest.f a0 x).getD false) else none
/-- The first number that is no digest; -1: there is none. -/
def firstNot (a0 : Int) (l : List Int) (i : Nat) : Int := match l with
 | [] => -1
 | x :: l => if (impl_isDigest.f a0 x).getD false = true then firstNot a0 l (i + 1) else (i : Int)
theorem firstNot_all (a0 : Int) (l : List Int) : ∀ i : Nat, decide (0 ≤ firstNot a0 l i) = !(l.all fun x => (impl_isDigest.f a0 x).getD false) := by
 induction l with
 | nil => intro i; rfl
 | cons x l ih =>
  intro i
  unfold firstNot
  by_cases h : (impl_isDigest.f a0 x).getD false = true
  ·rw [if_pos h, ih (i + 1)]; simp [h]
  ·rw [if_neg h]; simp [h]
set_option maxHeartbeats 4000000 in
theorem digest_lit (a0 x : Int) (v : Bool) (B : Nat) (W : World) (hc : W.cell? ⟨B, 0, none⟩ = some (.int .i64 a0)) (h : impl_isDigest.f a0 x = some v) :
  Calls Try.prog 122 #[.int .i64 x, .pointer (some ⟨B, 0, none⟩)] W fun e w' => e = .returned (.bool (!v)) ∧ Drawn0 W w' := by
 have H := Aside0.mk h
 clear h
 go_enter Try.func122, Try.ntmps122
 go_wp2_with (go_at_call 71; refine (impl_isDigest.calls a0 x v _ H.out).mono ?_; rintro e w' ⟨rfl, ⟨nd, rfl⟩⟩)
 go_ret
 exact ⟨rfl, by repeat (first | exact Drawn0.refl _ | apply Drawn0.step)⟩
set_option maxHeartbeats 4000000 in
set_option maxRecDepth 100000 in
theorem digests_index (a0 : Int) (A1 : Option Addr) (c1 : Nat) (l1 : List Int) (B : Nat) (w : World) (hr1 : Kd.C (Kd.int .i64) w A1 l1.length l1) (hc : w.cell? ⟨B, 0, none⟩ = some (.int .i64 a0)) (h : ∀ x ∈ l1, ∃ v, impl_isDigest.f a0 x = some v) :
  Calls Try.prog 127 #[.slice A1 l1.length c1, .func (.func 122) #[] #[.pointer (some ⟨B, 0, none⟩)]] w fun e w' => e = .returned (.int .i64 (firstNot a0 l1 0)) ∧ Drawn0 w w' := by
 have HR := Aside0.mk hr1
 have HC := Aside0.mk hc
 have HH := Aside0.mk h
 clear hr1 hc h
 have eg := enters_of Try.func122 (by kernel_rfl) rfl
 go_enter Try.func127, Try.ntmps127
 go_wp2
 go_loopw [8] (fun i wr => ∃ k : Nat, i = .int .i64 k ∧ Aside0 (k ≤ l1.length) ∧ Aside0 (firstNot a0 (l1.drop k) k = firstNot a0 l1 0) ∧ Drawn0 w wr) (fun i _ => l1.length - (intOf i).toNat)
 case atStart => exact ⟨0, rfl, ⟨Nat.zero_le _⟩, ⟨rfl⟩, Drawn0.refl _⟩
 case round =>
  obtain ⟨k, rfl, HK, HF, ⟨m, rfl⟩⟩ := hrel
  have HM : Aside0 (l1.length ≤ 9223372036854775807) := ⟨HR.out.2.1⟩
  by_cases hlt : k < l1.length
  ·have c0 : decide (k < l1.length) = true := decide_eq_true hlt
   have c1 : decide ((k : Int) < (l1.length : Int)) = true := decide_eq_true (by omega)
   have p1 : 0 ≤ (k : Int) := Int.natCast_nonneg k
   have q1 : (k : Int) < (l1.length : Int) := by omega
   obtain ⟨ad, e1, hx⟩ := Kd.at_int HR.out k p1 q1
   cases e1
   rw [Int.toNat_natCast] at hx
   have ed : l1.drop k = rd l1 k :: l1.drop (k + 1) := by
    unfold rd
    rw [Int.toNat_natCast, List.getD_eq_getElem?_getD, List.getElem?_eq_getElem hlt]
    exact List.drop_eq_getElem_cons hlt
   obtain ⟨v, hv⟩ := HH.out (rd l1 k) (by unfold rd; rw [Int.toNat_natCast, List.getD_eq_getElem?_getD, List.getElem?_eq_getElem hlt]; exact List.getElem_mem hlt)
   have HV := Aside0.mk hv
   have HD := Aside0.mk ed
   have HL := Aside0.mk hlt
   clear hlt ed hv
   generalize rd l1 (k : Int) = x at hx HV HD
   go_wp2_with fail
   refine (digest_lit a0 x v B (w.drewN m) HC.out HV.out).mono ?_
   rintro e w' ⟨rfl, ⟨nd, rfl⟩⟩
   have b2 : (k : Int) ≤ 9223372036854775806 := by have := HL.out; have := HM.out; omega
   cases v with
   | true =>
    go_wp2
    go_roundw
    case rel => exact ⟨k + 1, by go_num, ⟨HL.out⟩, ⟨by have h := HF.out; rw [HD.out] at h; simp only [firstNot, HV.out, Option.getD_some, if_true] at h; exact h⟩, by repeat (first | exact Drawn0.refl _ | apply Drawn0.step)⟩
    case measure => have := HL.out; simp [intOf]; omega
   | false =>
    go_wp2
    go_ret
    exact ⟨by have h := HF.out; rw [HD.out] at h; simp only [firstNot, HV.out, Option.getD_some] at h; rw [← h]; simp, by repeat (first | exact Drawn0.refl _ | apply Drawn0.step)⟩
  ·have c0 : decide (k < l1.length) = false := decide_eq_false hlt
   have c1 : decide ((k : Int) < (l1.length : Int)) = false := decide_eq_false (by omega)
   have e : firstNot a0 l1 0 = -1 := by
    have h := HF.out
    rw [List.drop_eq_nil_of_le (by omega)] at h
    exact h.symm
   have HE := Aside0.mk e
   clear hlt e
   go_wp2
   go_ret
   exact ⟨by first | (rw [HE.out]; done) | (rw [HE.out]; rfl), by repeat (first | exact Drawn0.refl _ | apply Drawn0.step)⟩
set_option maxHeartbeats 4000000 in
theorem digests_contains (a0 : Int) (A1 : Option Addr) (c1 : Nat) (l1 : List Int) (B : Nat) (w : World) (hr1 : Kd.C (Kd.int .i64) w A1 l1.length l1) (hc : w.cell? ⟨B, 0, none⟩ = some (.int .i64 a0)) (h : ∀ x ∈ l1, ∃ v, impl_isDigest.f a0 x = some v) :
  Calls Try.prog 121 #[.slice A1 l1.length c1, .func (.func 122) #[] #[.pointer (some ⟨B, 0, none⟩)]] w fun e w' => e = .returned (.bool (decide (0 ≤ firstNot a0 l1 0))) ∧ Drawn0 w w' := by
 have HI := Aside0.mk (digests_index a0 A1 c1 l1 B w hr1 hc h)
 clear hr1 hc h
 go_enter Try.func121, Try.ntmps121
 go_wp2_with (go_at_call 127; refine HI.out.mono ?_; rintro e w' ⟨rfl, ⟨nd, rfl⟩⟩)
 go_ret
 exact ⟨rfl, by repeat (first | exact Drawn0.refl _ | apply Drawn0.step)⟩
set_option maxHeartbeats 4000000 in
theorem impl_digests.calls (a0 : Int) (A1 : Option Addr) (c1 : Nat) (l1 : List Int) (r : Bool) (w : World) (hr1 : Kd.C (Kd.int .i64) w A1 l1.length l1) (hc1 : l1.length ≤ c1) (h : impl_digests.f a0 l1 = some r) :
  Calls Try.prog 105 #[.int .i64 a0, .slice A1 l1.length c1] w fun e w' => e = .returned (.bool r) ∧ Below w.heap.size w w' := by
 unfold impl_digests.f at h
 by_cases ha : (l1.all fun x => (impl_isDigest.f a0 x).isSome) = true
 ·rw [if_pos ha] at h
  have hr := Option.some.inj h
  have hall : ∀ x ∈ l1, ∃ v, impl_isDigest.f a0 x = some v := fun x hx => by
   have := List.all_eq_true.1 ha x hx
   exact Option.isSome_iff_exists.1 this
  have hf := firstNot_all a0 l1 0
  rw [hr] at hf
  have hb : Below w.heap.size w (w.alloc (.cells #[.int .i64 a0] 3)) := below_alloc (Below.refl _ _) _
  have hcell : (w.alloc (.cells #[.int .i64 a0] 3)).cell? ⟨w.heap.size, 0, none⟩ = some (.int .i64 a0) := by
   exact (blk_cell (blk_new w (.cells #[.int .i64 a0] 3)) 0).trans rfl
  have HC := Aside0.mk (digests_contains a0 A1 c1 l1 w.heap.size _ (Kd.C_below hr1 hb) hcell hall)
  have HF := Aside0.mk hf
  have HB := Aside0.mk hb
  clear h ha hr hall hf hb hcell hr1
  go_enter Try.func105, Try.ntmps105
  go_wp2_with (go_at_call 121; refine HC.out.mono ?_; rintro e w' ⟨rfl, hd⟩)
  go_ret
  exact ⟨by rw [HF.out]; simp, HB.out.trans (hd.below.mono HB.out.size)⟩
 ·rw [if_neg ha] at h
  cases h

/-! ### fake_mp_new: function 145 -/
/-- A map of whole numbers as it is told: the latest entry first. -/
abbrev Mp := List (Int × Int)
def mget : Mp → Int → Int
 | [], _ => 0
 | (a, v) :: m, k => if a = k then v else mget m k
def mhas : Mp → Int → Bool
 | [], _ => false
 | (a, _) :: m, k => if a = k then true else mhas m k
def fake_mp_new.f : Option Mp := some []
def fake_mp_get.f (m : Mp) (k : Int) : Option Int := if (Lit.int .i64 k).wf = true then some (mget m k) else none
def fake_mp_look.f (m : Mp) (k : Int) : Option (Int × Bool) := if (Lit.int .i64 k).wf = true then some (mget m k, mhas m k) else none
def fake_mp_put.f (m : Mp) (k v : Int) : Option Mp := if (Lit.int .i64 k).wf = true ∧ (Lit.int .i64 v).wf = true ∧ m.length ≤ 1000 then some ((k, v) :: m) else none
def dat : Mp → DataW Unit
 | [] => .map []
 | (k, v) :: m => (dat m).put (.int .i64 k) (.lit (.int .i64 v))
theorem dat_map : ∀ m : Mp, Go.Maps.IsMap (dat m)
 | [] => Go.Maps.isMap_empty
 | (k, v) :: m => (dat_map m).put _ _
theorem dat_get : ∀ (m : Mp) (k : Int), (dat m).atKey (.int .i64 k) (.lit (.int .i64 0)) = .lit (.int .i64 (mget m k))
 | [], k => rfl
 | (a, v) :: m, k => by
  unfold dat mget
  by_cases h : a = k
  ·rw [if_pos h, h]; exact Go.Maps.atKey_put_same (dat_map m) (show Go.WideAt.IsKeyLit (.int .i64 k) from trivial) _ _
  ·rw [if_neg h, Go.Maps.atKey_put_other (fun e => h (by injection e with _ e; exact e.symm))]; exact dat_get m k
theorem dat_has : ∀ (m : Mp) (k : Int), Go.Maps.has (dat m) (.int .i64 k) = mhas m k
 | [], k => rfl
 | (a, v) :: m, k => by
  unfold dat mhas
  by_cases h : a = k
  ·rw [if_pos h, h]; exact Go.Maps.has_put_same (dat_map m) (show Go.WideAt.IsKeyLit (.int .i64 k) from trivial) _
  ·rw [if_neg h, Go.Maps.has_put_other (fun e => h (by injection e with _ e; exact e.symm))]; exact dat_has m k
/-- Block b, the call's own, is a map that reads as m. -/
def MR (W : World) (base b : Nat) (m : Mp) : Prop := base ≤ b ∧ W.ownsMap Try.prog 3 (plainElem Try.prog 3) b m.length (dat m)
section
variable {W W1 : World} {base b b' : Nat} {m m' : Mp}
theorem MR_lt (h : MR W base b m) : b < W.heap.size := h.2.lt
theorem MR_is (h : MR W base b m) : ∃ es clock, W.heap[b]? = some (.map es clock) := by
 obtain ⟨_, es, clock, hb, _⟩ := h
 exact ⟨es, clock, hb⟩
theorem MR_grown {row : Option Nat} (h : MR W base b m) (hg : W.grownBy W1 row) (hne : some b ≠ row) : MR W1 base b m := ⟨h.1, h.2.kept hg hne⟩
theorem MR_below (h : MR W base b m) (hb : Below W.heap.size W W1) : MR W1 base b m := MR_grown h (row := none) ⟨hb.os, hb.tape, hb.output, hb.size, fun k hk _ => hb.block k hk⟩ (by simp)
theorem MR_alloc (h : MR W base b m) (o : Obj) : MR (W.alloc o) base b m := MR_below h (below_alloc (Below.refl _ _) o)
theorem MR_drew (h : MR W base b m) : MR W.drew base b m := MR_below h (below_drew (Below.refl _ _))
theorem MR_drewN (h : MR W base b m) (n : Nat) : MR (W.drewN n) base b m := MR_below h (pw_below_drewN (Below.refl _ _) n)
/-- A row of the call's own is no map. -/
theorem MR_ne {v : Value} {e : Nat} (h : MR W base b m) (ht : ∀ k, v.ownBlock = some k → ∃ cells, W.heap[k]? = some (.cells cells e (0, 0))) : some b ≠ v.ownBlock := by
 intro he
 obtain ⟨es, c, hm⟩ := MR_is h
 obtain ⟨cells, hc⟩ := ht b he.symm
 rw [hm] at hc
 cases hc
/-- W1 is W but for the entries of the map in block b. -/
structure Turn (W W1 : World) (base b : Nat) : Prop where
 lo : base ≤ b
 g : W.grownBy W1 (some b)
 m0 : ∃ es c, W.heap[b]? = some (.map es c)
 m1 : ∃ es c, W1.heap[b]? = some (.map es c)
theorem below_turn {w : World} (h : Below w.heap.size w W) (t : Turn W W1 w.heap.size b) : Below w.heap.size w W1 :=
 ⟨t.g.os.trans h.os, t.g.tape.trans h.tape, t.g.output.trans h.output, Nat.le_trans h.size t.g.size, fun k hk => (t.g.block k (Nat.lt_of_lt_of_le hk h.size) (fun e => by have := t.lo; injection e with e; omega)).trans (h.block k hk)⟩
theorem MR_turn (h : MR W base b' m) (t : Turn W W1 base b) (hne : b' ≠ b) : MR W1 base b' m := MR_grown h t.g (fun e => hne (by injection e))
theorem R_turn {α : Type} {d : Kd α} {e : Nat} {bs : Nat} {ok : Nat → Prop} {v : Value} {xs : List α} (h : d.R e W bs ok v xs) (t : Turn W W1 base b) : d.R e W1 bs ok v xs := by
 refine Kd.R_mono (Kd.R_move (Kd.R_bound h) (fun k hk => t.g.block k hk.2.2.1 (fun e => ?_))) (fun k hk => hk.1)
 obtain ⟨_, _, _, q, _, cells, hc⟩ := hk
 obtain ⟨es, c, hm⟩ := t.m0
 injection e with e
 subst e
 rw [hm] at hc
 cases hc
theorem S_turn {α : Type} {d : Kd α} {e : Nat} {bs : Nat} {ok : Nat → Prop} {v : Value} {xs : List α} (h : d.S e W bs ok v xs) (t : Turn W W1 base b) : d.S e W1 bs ok v xs := by
 obtain ⟨f, h⟩ := h
 exact ⟨f, R_turn h t⟩
theorem C_cells {A : Option Addr} {n : Nat} {xs : List Int} (hc : ∀ a v, W.cell? a = some v → W1.cell? a = some v) (h : (Kd.int .i64).C W A n xs) : (Kd.int .i64).C W1 A n xs := by
 obtain ⟨h1, h2, h3⟩ := h
 refine ⟨h1, h2, fun hp => ?_⟩
 obtain ⟨ad, ha, hr⟩ := h3 hp
 refine ⟨ad, ha, fun j p hj => ?_⟩
 obtain ⟨c, hl, hk, hcell⟩ := hr j p hj
 exact ⟨c, hl, hk, fun i u hi => hc _ _ (hcell i u hi)⟩
theorem F_turn {ok : Nat → Prop} {A : Option Addr} {n : Nat} {xs : List Int} (h : Kd.F (Kd.int .i64) W ok A n xs) (t : Turn W W1 base b) : Kd.F (Kd.int .i64) W1 ok A n xs := by
 intro W' hW
 obtain ⟨es, c, h0⟩ := t.m0
 obtain ⟨es1, c1, h1⟩ := t.m1
 have hb0 : b < W.heap.size := (Array.getElem?_eq_some_iff.1 h0).1
 by_cases hob : ok b
 ·have hb1 : W'.heap[b]? = some (.map es1 c1) := (hW b hob (Nat.lt_of_lt_of_le hb0 t.g.size)).trans h1
  have hlt : b < W'.heap.size := (Array.getElem?_eq_some_iff.1 hb1).1
  have key : Kd.C (Kd.int .i64) ({ W' with heap := W'.heap.setIfInBounds b (.map es c) } : World) A n xs := by
   refine h _ (fun k hk hlk => ?_)
   show (W'.heap.setIfInBounds b (.map es c))[k]? = _
   by_cases e : k = b
   ·subst e
    rw [Array.getElem?_setIfInBounds_self_of_lt hlt, h0]
   ·rw [Array.getElem?_setIfInBounds_ne (fun e' => e e'.symm)]
    exact (hW k hk (Nat.lt_of_lt_of_le hlk t.g.size)).trans (t.g.block k hlk (fun e' => e (by injection e')))
  refine C_cells (fun a v hv => ?_) key
  by_cases e : a.block = b
  ·have : ({ W' with heap := W'.heap.setIfInBounds b (.map es c) } : World).cell? a = none := by
    unfold World.cell?
    show (match (W'.heap.setIfInBounds b (.map es c))[a.block]? with | some (.cells c _ _) => _ | _ => none) = none
    rw [e, Array.getElem?_setIfInBounds_self_of_lt hlt]
   rw [this] at hv
   cases hv
  ·have : ({ W' with heap := W'.heap.setIfInBounds b (.map es c) } : World).cell? a = W'.cell? a := World.cell?_of_block (by show (W'.heap.setIfInBounds b (.map es c))[a.block]? = _; rw [Array.getElem?_setIfInBounds_ne (fun e' => e e'.symm)])
   rw [this] at hv
   exact hv
 ·exact h W' (fun k hk hlk => (hW k hk (Nat.lt_of_lt_of_le hlk t.g.size)).trans (t.g.block k hlk (fun e => hob (by injection e with e; rw [← e]; exact hk))))
theorem V_turn {e bs : Nat} {ok : Nat → Prop} {v : Value} {xs : List Int} (h : Kd.V (Kd.int .i64) e W bs ok v xs) (t : Turn W W1 base b) : Kd.V (Kd.int .i64) e W1 bs ok v xs := by
 obtain ⟨A, c, hv, hl, hF⟩ := h
 exact ⟨A, c, hv, hl, F_turn hF t⟩
theorem law3 : Go.Maps.Keyed Try.prog 3 := Go.Maps.int_keyed Try.underlying3
theorem zero3 (w : World) : (zeroValue 3).run Try.prog w = .ok (.int .i64 0) w := by kernel_rfl
/-- 'm[k] = v', run: the map reads as with the entry. -/
theorem MR_put {k v : Int} {m2 : Mp} (h : MR W base b m) (hA : fake_mp_put.f m k v = some m2) : ∃ W1, (Instr.mapUpdate 111 (.map (some b)) (.int .i64 k) (.int .i64 v)).run Try.prog W = .ok () W1 ∧ MR W1 base b m2 ∧ Turn W W1 base b := by
 unfold fake_mp_put.f at hA
 split at hA
 ·rename_i hw
  injection hA with hA
  subst hA
  obtain ⟨W1, hrun, ho, hg⟩ := h.2.update law3 Try.underlying111 (by have := hw.2.2; unfold maxLen; omega) (Go.Maps.keyOf_int_mk Try.underlying3 hw.1) (plainElem_int Try.underlying3 hw.2.1)
  have hM : MR W1 base b ((k, v) :: m) := ⟨h.1, ho⟩
  exact ⟨W1, hrun, hM, h.1, hg, MR_is h, MR_is hM⟩
 ·cases hA
variable {ops : Array Oper} {rest : List Oper} {o : Oper} {a : Act} {Q : Exit → Act → World → Prop}
/-- 'make(map[int]int)'. -/
theorem wp_mnew (hgd : o.guard = none) {N : Tmp} (hd : o.dst = some N) (hop : o.op = .makeMap 111 none) (base : Nat) (hbase : base ≤ W.heap.size)
  (h : ∀ b' W1, b' = W.heap.size → MR W1 base b' [] → Below W.heap.size W W1 → (∀ base2 b2 m2, MR W base2 b2 m2 → b2 ≠ b') → wpList Try.prog ops Q rest (a.put (some N) (.map (some b'))) W1) : wpList Try.prog ops Q (o :: rest) a W := by
 have hr : (execOp a.eval o).run Try.prog W = .ok (.value (.map (some W.heap.size))) (W.alloc (.map #[] 0)) := by
  simp [execOp, hop]
  rfl
 refine Kd.event_run hgd hr ?_
 rw [hd]
 exact h _ _ rfl ⟨hbase, World.ownsMap_made _ _ _ _⟩ (below_alloc (Below.refl _ _) _) (fun _ _ _ hm => Nat.ne_of_lt (MR_lt hm))
/-- 'm[k]'. -/
theorem wp_mget {k c : Int} (hgd : o.guard = none) (x y : Operand) (hop : o.op = .lookup 111 x y false) (hx : a.eval x = .map (some b)) (hy : a.eval y = .int .i64 k) (hM : MR W base b m) (hA : fake_mp_get.f m k = some c)
  (h : wpList Try.prog ops Q rest (a.put o.dst (.int .i64 c)) W) : wpList Try.prog ops Q (o :: rest) a W := by
 unfold fake_mp_get.f at hA
 split at hA
 ·rename_i hw
  injection hA with hA
  refine wpList_lookup_own_int W hgd x y _ hop 3 3 .i64 law3 Try.underlying111 Try.underlying3 (zero3 W) b _ _ hx hM.2 _ _ hy (Go.Maps.keyOf_int_mk Try.underlying3 hw) ?_
  intro c' hat _
  rw [dat_get] at hat
  injection hat with hat
  injection hat with _ hat
  rw [← hat, hA]
  exact h
 ·cases hA
/-- 'v, ok := m[k]'. -/
theorem wp_mlook {k c : Int} {q : Bool} (hgd : o.guard = none) (x y : Operand) (hop : o.op = .lookup 111 x y true) (hx : a.eval x = .map (some b)) (hy : a.eval y = .int .i64 k) (hM : MR W base b m) (hA : fake_mp_look.f m k = some (c, q))
  (h : wpList Try.prog ops Q rest (a.put o.dst (.tuple #[.int .i64 c, .bool q])) W) : wpList Try.prog ops Q (o :: rest) a W := by
 unfold fake_mp_look.f at hA
 split at hA
 ·rename_i hw
  injection hA with hA
  injection hA with hA hA2
  refine wpList_lookup_own_ok_int W hgd x y _ hop 3 3 .i64 law3 Try.underlying111 Try.underlying3 (zero3 W) b _ _ hx hM.2 _ _ hy (Go.Maps.keyOf_int_mk Try.underlying3 hw) ?_
  intro c' hat _
  rw [dat_get] at hat
  injection hat with hat
  injection hat with _ hat
  rw [← hat, hA, dat_has, hA2]
  exact h
 ·cases hA
theorem put_run {W0 W2 : World} {oi : Oper} {k v : Int} {x y z : Operand} (hop : oi.op = .mapUpdate 111 x y z) (hx : a.eval x = .map (some b)) (hy : a.eval y = .int .i64 k) (hz : a.eval z = .int .i64 v)
  (hrun : (Instr.mapUpdate 111 (.map (some b)) (.int .i64 k) (.int .i64 v)).run Try.prog W0 = .ok () W2) : (execOp a.eval oi).run Try.prog W0 = .ok .skip W2 := by
 simp [execOp, hop, hx, hy, hz, hrun, Result.andThen]
/-- 'm[k] = v'. -/
theorem wp_mput {k v : Int} {m2 : Mp} (hgd : o.guard = none) (hd : o.dst = none) (x y z : Operand) (hop : o.op = .mapUpdate 111 x y z) (hx : a.eval x = .map (some b)) (hy : a.eval y = .int .i64 k) (hz : a.eval z = .int .i64 v) (hM : MR W base b m) (hA : fake_mp_put.f m k v = some m2)
  (h : ∀ W1, MR W1 base b m2 → Turn W W1 base b → wpList Try.prog ops Q rest a W1) : wpList Try.prog ops Q (o :: rest) a W := by
 obtain ⟨W1, hrun, h1, h2⟩ := MR_put hM hA
 refine wpList_plain hgd fun K' hK' => ?_
 unfold Oper.wp
 simp [execOp, hop, hx, hy, hz, hrun, Result.andThen]
 refine hK' _ _ ?_
 have e : a.put o.dst undef = a := by rw [hd]; rfl
 rw [e]
 exact h W1 h1 h2
end

/-! ### fake_mp_get: function 146 -/


/-! ### fake_mp_look: function 147 -/


/-! ### fake_mp_put: function 148 -/


end Go.Proofs.Ytaacidhgnappdaa.PFnExactFromMany
