-- Written by a program of this workplace (wip/mp.py) out of the translation.
import Derived.Test.YthaoloacbbohlaaPFnOutvotedx0
import Derived.Test.YthaoloacbbohlaaPFnOutvotedx1
import Derived.Test.YthaoloacbbohlaaPFnOutvotedx3
import Derived.Test.YthaoloacbbohlaaPFnOutvotedx4
import Derived.Test.YthaoloacbbohlaaPFnOutvotedx5
namespace Go.Proofs.Ythaoloacbbohlaa.PFnOutvoted
open Go.RowKit Go.Proofs.YthaoloacbbohlaaW.PrintWords Go.Proofs.YthaoloacbbohlaaW.PrintLast Go.Proofs.YthaoloacbbohlaaW.PrintMore Go.Proofs.Ythaoloacbbohlaa.Slim
attribute [local go_sem] max2_int min2_int max_two min_two max_three min_three max_four min_four   -- for this text's walks alone
set_option linter.unusedVariables false
set_option linter.unusedSimpArgs false

/-! ### impl_Outvote: function 43 -/
/-- The lists of m ascending numbers from x on, of c that there are. -/
def combos : Nat → Nat → Nat → List (List Int)
 | _, 0, _ => [[]]
 | 0, _ + 1, _ => []
 | c + 1, m + 1, x => (combos c m (x + 1)).map (fun l => (x : Int) :: l) ++ combos c (m + 1) (x + 1)
/-- The first that is taken. -/
def firstF (T : List Int → Option (Option (List Int))) : List (List Int) → Option (Option (List Int × List Int))
 | [] => some none
 | c :: cs => (T c).bind fun r => match r with
  | some f => some (some (f, c))
  | none => firstF T cs
theorem firstF_append (T : List Int → Option (Option (List Int))) (b : List (List Int)) : ∀ a : List (List Int), firstF T (a ++ b) = (firstF T a).bind fun r => match r with
  | some p => some (some p)
  | none => firstF T b
 | [] => rfl
 | c :: a => by
  show (T c).bind _ = ((T c).bind _).bind _
  cases T c with
  | none => rfl
  | some r =>
   cases r with
   | none => exact firstF_append T b a
   | some f => rfl
set_option maxHeartbeats 4000000 in
theorem clip_call (A : Option Addr) (n c : Nat) (W : World) (hn : n ≤ c) (hm : n ≤ 1000) : Calls Try.prog 95 #[.slice A n c] W fun e w' => e = .returned (.slice A n n) ∧ Drawn0 W w' := by
 have p0 : 0 ≤ (n : Int) := Int.natCast_nonneg n
 have p1 : (n : Int) ≤ (c : Int) := by omega
 go_enter Try.func95, Try.ntmps95
 go_wp2
 go_ret
 exact ⟨by first | rfl | simp, Drawn0.refl _⟩
theorem clip_append {W : World} (A : Option Addr) (ls : List Int) (y : Int) (b : Nat) (hC : Kd.C (Kd.int .i64) W A ls.length ls) (hl : ls.length ≤ 1000) (hb : W.cell? ⟨b, 0, none⟩ = some (.int .i64 y)) :
  ∃ v' w', (Builtin.append_ #[47, 47] 47 #[.slice A ls.length ls.length, .slice (some ⟨b, 0, none⟩) 1 1]).run Try.prog W = .ok v' w' ∧ Kd.R (Kd.int .i64) 3 w' W.heap.size (fun _ => True) v' (ls ++ [y]) ∧ Below W.heap.size W w' := by
 obtain ⟨i0, hi, hzz⟩ := Option.map_eq_some_iff.1 info3
 simp only [Prod.mk.injEq] at hzz
 obtain ⟨hz0, hz1, hz2⟩ := hzz
 have hnews : ∀ (j : Nat) u, [Value.int .i64 y][j]? = some u → W.cell? ((⟨b, 0, none⟩ : Addr).add j) = some u := by
  intro j u hj
  cases j with
  | zero =>
   simp only [List.getElem?_cons_zero, Option.some.injEq] at hj
   rw [← hj]
   exact hb
  | succ j => simp at hj
 have fin : ∀ v' w', w'.ownsRow W.heap.size 3 1 v' (ls.length + 1) (encs (Value.int .i64) ls ++ [.int .i64 y]) → W.grownBy w' none → Kd.R (Kd.int .i64) 3 w' W.heap.size (fun _ => True) v' (ls ++ [y]) ∧ Below W.heap.size W w' := by
  intro v' w' h1 h2
  refine ⟨Kd.R_of_own (enc := Value.int .i64) ?_ (fun _ _ => trivial), (Below.refl W.heap.size W).grown h2 (Nat.le_refl _) (fun k hk => by cases hk)⟩
  rw [List.length_append, encs_append]
  exact h1
 cases A with
 | some ad =>
  obtain ⟨v', w', h0, h1, h2⟩ := run_append_arg_grows (P := Try.prog) (w := W) 47 47 3 i0 (.int .i64 0) 1 8 Try.underlying47 hi hz0 hz1 hz2 rfl (by decide) ad ls.length ls.length (encs (Value.int .i64) ls) (by simp [encs]) (fun j u hj => by
   unfold encs at hj
   rw [List.getElem?_map] at hj
   obtain ⟨x, hx, rfl⟩ := Option.map_eq_some_iff.1 hj
   have hjl : j < ls.length := (List.getElem?_eq_some_iff.1 hx).1
   obtain ⟨ad2, e2, h3⟩ := Kd.at_int hC (j : Int) (Int.natCast_nonneg j) (by omega)
   cases e2
   rw [Int.toNat_natCast] at h3
   rw [h3]
   unfold rd
   rw [Int.toNat_natCast, List.getD_eq_getElem?_getD, hx]
   rfl) ⟨b, 0, none⟩ 1 1 [.int .i64 y] rfl hnews (by omega) (by simp only [maxLen]; omega) (by omega)
  exact ⟨v', w', h0, fin v' w' h1 h2⟩
 | none =>
  have h00 : ls.length = 0 := by
   rcases Nat.eq_zero_or_pos ls.length with h | h
   ·exact h
   ·obtain ⟨ad, e, _⟩ := hC.2.2 h
    cases e
  obtain rfl : ls = [] := List.eq_nil_of_length_eq_zero h00
  obtain ⟨v', w', hrun, r1, r2, _⟩ := run_append_own (P := Try.prog) W W.heap.size 47 47 3 i0 (.int .i64 0) 1 8 Try.underlying47 hi hz0 hz1 hz2 rfl (by decide) (.slice none 0 0) 0 [] (World.ownsRow_nil W _ 3 1) ⟨b, 0, none⟩ 1 1 [.int .i64 y] rfl hnews (by simp [Value.oneCell']) (by simp only [maxLen]; omega) (by omega) (Nat.le_refl _)
  exact ⟨v', w', hrun, fin v' w' r1 r2⟩
theorem append_exec {P : Program} {t : TypeId} {oi : Oper} {a : Act} {s x : Operand} {v1 v2 v' : Value} {W w' : World} (hop : oi.op = .call { callee := .builtin .append, args := #[s, x], argTypes := #[t, t] }) (hty : oi.type = t) (hs : a.eval s = v1) (hx : a.eval x = v2)
  (hrun : (Builtin.append_ #[t, t] t #[v1, v2]).run P W = .ok v' w') : (execOp a.eval oi).run P W = .ok (.value v') w' := by
 unfold execOp
 simp only [hop, resolve, invoke, builtin, Sem.run_bind, Sem.run_pure, Result.andThen_ok, List.map_toArray, List.map_cons, List.map_nil, hs, hx, hty, hrun]
theorem callv_exec {P : Program} {oi : Oper} {a : Act} {c : Operand} {os : Array Operand} {ts : Array TypeId} {f : FuncId} {fn : Func} {caps args : Array Value} {W : World} (hf : P.funcs[f]? = some fn) (hname : (fn.name == "runtime.NumGoroutine") = false) (hb : fn.body.isSome = true)
  (hop : oi.op = .call { callee := .value c, args := os, argTypes := ts }) (hc : a.eval c = .func (.func f) #[] caps) (hargs : os.map a.eval ++ caps = args) : (execOp a.eval oi).run P W = .ok (.enter f args) W := by
 have he := enters_ hf hname hb args W
 unfold execOp
 simp [hop, resolve, Deferred.ofValue, invoke, hc, hargs, he]
theorem kept_cell {w w1 : World} {p : Addr} {v : Value} (hb : Below w.heap.size w w1) (h : w.cell? p = some v) : w1.cell? p = some v := (hb.cell (World.block_lt_of_cell? w _ h)).trans h
theorem alloc_at (w : World) (o : Obj) (k : Nat) : (w.alloc o).heap[k]? = if k = w.heap.size then some o else w.heap[k]? := Array.getElem?_push

/-- The function that hands on, of its four boxes. -/
def moreV (gm gt gb gr : Nat) : Value := .func (.func 94) #[] #[.pointer (some ⟨gm, 0, none⟩), .pointer (some ⟨gt, 0, none⟩), .pointer (some ⟨gb, 0, none⟩), .pointer (some ⟨gr, 0, none⟩)]
structure Ch (w : World) (gm gt gb gr : Nat) (many bound : Nat) (tv : Value) : Prop where
 m : w.cell? ⟨gm, 0, none⟩ = some (.int .i64 (many : Int))
 t : w.cell? ⟨gt, 0, none⟩ = some tv
 b : w.cell? ⟨gb, 0, none⟩ = some (.int .i64 (bound : Int))
 r : w.cell? ⟨gr, 0, none⟩ = some (.func (.func 94) #[] #[.pointer (some ⟨gm, 0, none⟩), .pointer (some ⟨gt, 0, none⟩), .pointer (some ⟨gb, 0, none⟩), .pointer (some ⟨gr, 0, none⟩)])
theorem Ch.below {w w1 : World} {gm gt gb gr many bound : Nat} {tv : Value} (h : Ch w gm gt gb gr many bound tv) (hb : Below w.heap.size w w1) : Ch w1 gm gt gb gr many bound tv := ⟨kept_cell hb h.m, kept_cell hb h.t, kept_cell hb h.b, kept_cell hb h.r⟩
def more.T6 : Bool × List (List Nat × List Nat) := (true, [([], []), ([], []), ([1], [1]), ([], []), ([3], [3]), ([2, 4, 2], [2, 4]), ([], []), ([6], [6]), ([0, 5, 7, 5], [0, 5, 7])])
def more.B6 : List Nat := [0, 0, 2, 0, 8, 30, 0, 64, 255]
theorem more.tab6 : rtab .any (opsOf Try.f94 6) = more.T6 := by kernel_rfl
theorem more.bits6 : waitsOk more.T6.2 more.B6 = true := by kernel_rfl
theorem firstF_step (T : List Int → Option (Option (List Int))) {ls : List Int} {c d y : Nat} {r : Option (List Int × List Int)} (h : firstF T ((combos (c + 1) (d + 1) y).map (fun l => ls ++ l)) = some r) :
  ∃ r1, firstF T ((combos c d (y + 1)).map (fun l => (ls ++ [(y : Int)]) ++ l)) = some r1 ∧ ((∃ p, r1 = some p ∧ r = some p) ∨ (r1 = none ∧ firstF T ((combos c (d + 1) (y + 1)).map (fun l => ls ++ l)) = some r)) := by
 unfold combos at h
 rw [List.map_append, firstF_append, List.map_map] at h
 obtain ⟨r1, h1, h2⟩ := Option.bind_eq_some_iff.1 h
 refine ⟨r1, ?_, ?_⟩
 ·rw [← h1]
  refine congrArg _ (List.map_congr_left fun l _ => ?_)
  show (ls ++ [(y : Int)]) ++ l = ls ++ ((y : Int) :: l)
  rw [List.append_assoc]
  rfl
 ·cases r1 with
  | none => exact .inr ⟨rfl, h2⟩
  | some p => exact .inl ⟨p, rfl, (Option.some.inj h2).symm⟩
set_option maxHeartbeats 8000000 in
set_option maxRecDepth 100000 in
theorem more_calls (W0 : World) (gm gt gb gr many bound : Nat) (p1 p2 p3 p4 p5 p6 p7 : Value) (T : List Int → Option (Option (List Int))) (Done : List Int → List Int → World → Prop) (hbd : bound ≤ 900) (hmany : many ≤ 900)
  (hch : Ch W0 gm gt gb gr many bound (.func (.func 78) #[] #[p1, p2, p3, p4, p5, p6, p7]))
  (HT : ∀ (W : World), Below W0.heap.size W0 W → ∀ (A : Option Addr) (c : Nat) (ls : List Int), Kd.C (Kd.int .i64) W A ls.length ls → ls.length ≤ c → ls.length ≤ 900 → ∀ r, T ls = some r → Calls Try.prog 78 #[.slice A ls.length c, p1, p2, p3, p4, p5, p6, p7] W fun e w' => (r = none ∧ e = .returned (.bool false) ∧ Below W.heap.size W w') ∨ (∃ f, r = some f ∧ e = .returned (.bool true) ∧ Done f ls w')) :
  ∀ (d : Nat) (ls : List Int) (x : Nat) (W : World) (A : Option Addr) (c : Nat), Below W0.heap.size W0 W → Kd.C (Kd.int .i64) W A ls.length ls → ls.length ≤ c → ls.length + d = many → x ≤ bound → ∀ r, firstF T ((combos (bound - x) d x).map (fun l => ls ++ l)) = some r →
   Calls Try.prog 94 #[.slice A ls.length c, .int .i64 (x : Int), .pointer (some ⟨gm, 0, none⟩), .pointer (some ⟨gt, 0, none⟩), .pointer (some ⟨gb, 0, none⟩), .pointer (some ⟨gr, 0, none⟩)] W fun e w' => (r = none ∧ e = .returned (.bool false) ∧ Below W.heap.size W w') ∨ (∃ f cc, r = some (f, cc) ∧ e = .returned (.bool true) ∧ Done f cc w') := by
 have HCH := Aside0.mk hch
 have HTT := Aside0.mk HT
 clear hch HT
 intro d
 induction d with
 | zero =>
  intro ls x W A c hB hC hc hd hx r hr
  obtain rfl : many = ls.length := by omega
  have hT : ∃ r0, T ls = some r0 ∧ r = r0.map (fun f => (f, ls)) := by
   have e : combos (bound - x) 0 x = [[]] := by cases bound - x <;> rfl
   rw [e] at hr
   simp only [List.map_cons, List.map_nil, List.append_nil, firstF] at hr
   obtain ⟨r0, h1, h2⟩ := Option.bind_eq_some_iff.1 hr
   refine ⟨r0, h1, ?_⟩
   cases r0 <;> exact (Option.some.inj h2).symm
  obtain ⟨r0, h1, rfl⟩ := hT
  have hw := HCH.out.below hB
  have x1 := hw.m
  have x2 := hw.t
  have HCL := Aside0.mk (HTT.out W hB A c ls hC hc hmany r0 h1)
  clear hw hB hC hr h1 HTT
  go_enter Try.func94, Try.ntmps94
  go_wp2_with fail
  refine HCL.out.mono ?_
  rintro e w' (⟨rfl, rfl, hb⟩ | ⟨f, rfl, rfl, hdn⟩)
  ·have HB := Aside0.mk hb
   clear hb
   go_wp2
   go_ret
   exact .inl ⟨rfl, rfl, HB.out⟩
  ·have HD := Aside0.mk hdn
   clear hdn
   go_wp2
   go_ret
   exact .inr ⟨f, ls, rfl, rfl, HD.out⟩
 | succ d ih =>
  intro ls x W A c hB hC hc hd hx r hr
  have IH := Aside0.mk ih
  have hw := HCH.out.below hB
  have x1 := hw.m
  have e1 : ((ls.length : Int) == (many : Int)) = false := beq_eq_false_iff_ne.mpr (by omega)
  have e1n : (ls.length == many) = false := beq_eq_false_iff_ne.mpr (by omega)
  have HB0 := Aside0.mk hB
  have HB := Aside0.mk (Below.refl W.heap.size W)
  have HR := Aside0.mk hC
  have HC := Aside0.mk hc
  have HL := Aside0.mk hd
  have HX := Aside0.mk hx
  have HM := Aside0.mk hmany
  have HBD := Aside0.mk hbd
  have HF := Aside0.mk hr
  clear ih hw hB hC hr hd hx hc hmany hbd
  go_enter Try.func94, Try.ntmps94
  go_wp2
  go_loopw [9] (fun v9 wr => ∃ y : Nat, v9 = .int .i64 (y : Int) ∧ Aside0 (y ≤ bound) ∧ Aside0 (firstF T ((combos (bound - y) (d + 1) y).map (fun l => ls ++ l)) = some r) ∧ Aside0 (Below W.heap.size W wr)) (fun v9 _ => bound - (intOf v9).toNat)
  case atStart => exact ⟨x, rfl, HX, HF, HB⟩
  case round =>
   clear HB HF x1
   obtain ⟨y, rfl, HY, HF, HB⟩ := hrel
   have hw := HCH.out.below (below_step HB0.out HB.out)
   have x2 := hw.b
   have x3 := hw.r
   have p0 : 0 ≤ (y : Int) := Int.natCast_nonneg y
   have p1_ : (y : Int) ≤ 900 := by have := HY.out; have := HBD.out; omega
   by_cases hy : y < bound
   ·have e2 : decide ((y : Int) < (bound : Int)) = true := decide_eq_true (by omega)
    have e2n : decide (y < bound) = true := decide_eq_true hy
    have hf := HF.out
    rw [show bound - y = (bound - (y + 1)) + 1 by omega] at hf
    obtain ⟨r1, hf1, hf2⟩ := firstF_step T hf
    have HF1 := Aside0.mk hf1
    have HF2 := Aside0.mk hf2
    have HYL := Aside0.mk hy
    have HRC := Aside0.mk (Kd.C_below HR.out HB.out)
    clear hf hf1 hf2 hy hw HF
    go_wp2
    refine start_ (n := 9) (S := fun w' => w'.cell? ⟨gr, 0, none⟩ = some (.func (.func 94) #[] #[.pointer (some ⟨gm, 0, none⟩), .pointer (some ⟨gt, 0, none⟩), .pointer (some ⟨gb, 0, none⟩), .pointer (some ⟨gr, 0, none⟩)])) (ds := [8]) #[false, false, false, false, false, false, false, false, false] (by kernel_rfl) rfl rfl x3 (fun hHeld => ?_); refine with_tabW more.tab6 more.bits6 (fun HT_ HW_ => ?_)
    have HB5 := Aside0.mk (below_drew1 HB.out)
    have HR5 := Aside0.mk (Kd.C_drew HRC.out)
    clear x2 x3 HB HRC
    generalize wr.drew = w5 at HB5 HR5 hHeld ⊢
    refine pz (i := 1) (N := some 24) #[false, true, false, false, false, false, false, false, false] rfl rfl HT_.out ?_
    refine pz (i := 3) (N := some 26) #[false, true, false, true, false, false, false, false, false] rfl rfl HT_.out ?_
    refine pz (i := 6) (N := some 29) #[false, true, false, true, false, false, true, false, false] rfl rfl HT_.out ?_
    refine pz (i := 7) (N := some 30) #[false, true, false, true, false, false, true, true, false] rfl rfl HT_.out ?_
    refine tz (i := 0) (N := some 23) #[true, true, false, true, false, false, true, true, false] rfl rfl HT_.out HW_.out hHeld (Or.inl ⟨by rfl, by rintro w' s0; go_simp; with_reducible rfl⟩) ?_
    refine join_ (σ := Nat) 2 #[true, true, true, true, true, false, true, true, false] (fun s_ => [(25, .slice A ls.length ls.length), (27, .slice (some ⟨s_, 0, none⟩) 1 1)]) (fun s_ w' => w'.cell? ⟨gr, 0, none⟩ = some (.func (.func 94) #[] #[.pointer (some ⟨gm, 0, none⟩), .pointer (some ⟨gt, 0, none⟩), .pointer (some ⟨gb, 0, none⟩), .pointer (some ⟨gr, 0, none⟩)]) ∧ w'.cell? ⟨s_, 0, none⟩ = some (.int .i64 (y : Int)) ∧ Below w5.heap.size w5 w') ?_ ?_
    rotate_left
    ·intro hCont
     refine two_ (i := 2) (j := 4) (Ni := some 25) (Nj := some 27) #[true, true, true, true, false, false, true, true, false] #[true, true, false, true, true, false, true, true, false] rfl rfl rfl rfl (two_of HT_.out (by kernel_rfl)) (by decide) (by decide) (fun K hK => ?_) (fun K hK => ?_)
     ·refine goes_ Try.func95 (by kernel_rfl) rfl #[.slice A ls.length c] (by rfl) rfl rfl av ?_
      with_reducible refine (clip_call A ls.length c _ HC.out (by have := HL.out; have := HM.out; omega)).mono ?_
      rintro e w' ⟨rfl, ⟨nd, rfl⟩⟩
      refine ⟨_, rfl, ?_⟩
      refine hK.out _ _ hHeld (fun hHeld => ?_)
      clear hK K
      refine nz (N := some 25) ?_
      refine one_ (i := 4) (N := some 27) #[true, true, true, true, true, false, true, true, false] rfl rfl (one_of HT_.out (by kernel_rfl)) (by decide) (fun K hK => ?_)
      refine value_ (w1 := ?_) (v := ?_) (by rfl) rfl ?_ ?_
      rotate_left 2
      ·go_simp
       constructor
       ·rfl
       ·rfl
      refine hK.out _ _ (kept_cell (below_alloc (Below.refl _ _) _) hHeld) (fun hHeld => ?_)
      clear hK K
      refine nz (N := some 27) ?_
      exact norm_ (by simp only [putAll, Act.put, List.setIfInBounds_toArray, List.set_cons_zero, List.set_cons_succ]) (hCont w5.heap.size _ ⟨hHeld, (Mat.Bx.new _ (.int .i64 (y : Int))).cell, below_alloc (pw_below_drewN (Below.refl _ _) nd) _⟩)
     ·refine value_ (w1 := ?_) (v := ?_) (by rfl) rfl ?_ ?_
      rotate_left 2
      ·go_simp
       constructor
       ·rfl
       ·rfl
      refine hK.out _ _ (kept_cell (below_alloc (Below.refl _ _) _) hHeld) (fun hHeld => ?_)
      clear hK K
      refine nz (N := some 27) ?_
      refine one_ (i := 2) (N := some 25) #[true, true, true, true, true, false, true, true, false] rfl rfl (one_of HT_.out (by kernel_rfl)) (by decide) (fun K hK => ?_)
      refine goes_ Try.func95 (by kernel_rfl) rfl #[.slice A ls.length c] (by rfl) rfl rfl av ?_
      with_reducible refine (clip_call A ls.length c _ HC.out (by have := HL.out; have := HM.out; omega)).mono ?_
      rintro e w' ⟨rfl, ⟨nd, rfl⟩⟩
      refine ⟨_, rfl, ?_⟩
      refine hK.out _ _ hHeld (fun hHeld => ?_)
      clear hK K
      refine nz (N := some 25) ?_
      exact norm_ (by simp only [putAll, Act.put, List.setIfInBounds_toArray, List.set_cons_zero, List.set_cons_succ]) (hCont w5.heap.size _ ⟨hHeld, (Mat.Bx.new _ (.int .i64 (y : Int))).cell, pw_below_drewN (below_alloc (Below.refl _ _) _) nd⟩)
    rintro b w6 ⟨hHeld, hlit, hb6⟩
    have HB6 := Aside0.mk (below_step HB5.out hb6)
    obtain ⟨v7, w7, hrun, hR7, hb7⟩ := clip_append A ls (y : Int) b (Kd.C_below HR5.out hb6) (by have := HL.out; have := HM.out; omega) hlit
    have HB7 := Aside0.mk (below_step HB6.out hb7)
    have h7 := kept_cell hb7 hHeld
    have HR7 := Aside0.mk hR7
    have HRUN := Aside0.mk hrun
    clear hb6 hb7 hR7 hlit HB5 HB6 HR5 hrun
    refine norm_ (a' := ?_) ?_ ?_
    rotate_left
    ·simp only [putAll, Act.put, List.setIfInBounds_toArray, List.set_cons_zero, List.set_cons_succ]
     rfl
    refine one_ (i := 5) (N := some 28) #[true, true, true, true, true, true, true, true, false] rfl rfl (one_of HT_.out (by kernel_rfl)) (by decide) (fun K hK => ?_)
    refine value_ (w1 := w7) (v := v7) (by rfl) rfl ?_ ?_
    ·exact append_exec (s := .tmp 25) (x := .tmp 27) rfl rfl rfl rfl HRUN.out
    refine hK.out _ _ h7 (fun hHeld => ?_)
    clear hK K HRUN
    refine nz (N := some 28) ?_
    obtain ⟨A7, c7, rfl⟩ := Kd.R_slice HR7.out
    refine last_ (i := 8) (N := some 31) #[true, true, true, true, true, true, true, true, true] rfl rfl (one_of HT_.out (by kernel_rfl)) (by decide) (fun K hK => ?_)
    have hr7 := Kd.R_reads' HR7.out
    refine call_ 94 #[.slice A7 (ls ++ [(y : Int)]).length c7, .int .i64 (wrap64 ((y : Int) + 1)), .pointer (some ⟨gm, 0, none⟩), .pointer (some ⟨gt, 0, none⟩), .pointer (some ⟨gb, 0, none⟩), .pointer (some ⟨gr, 0, none⟩)] (by rfl) rfl ?_ ?_
    ·exact callv_exec (c := .tmp 23) Try.func94 (by kernel_rfl) rfl rfl rfl (by simp only [List.map_toArray, List.map_cons, List.map_nil, List.append_toArray, List.cons_append, List.nil_append]; rfl)
    rw [show wrap64 ((y : Int) + 1) = ((y + 1 : Nat) : Int) by unfold wrap64; omega]
    have hcl := IH.out (ls ++ [(y : Int)]) (y + 1) w7 A7 c7 (below_step HB0.out HB7.out) hr7.2.2 hr7.2.1 (by rw [List.length_append]; have := HL.out; simp only [List.length_singleton]; omega) (by have := HYL.out; omega) r1 HF1.out
    clear hr7
    refine hcl.mono ?_
    clear hcl
    rintro e w8 (⟨rfl, rfl, hb⟩ | ⟨f, cc, rfl, rfl, hdn⟩)
    ·refine ⟨_, rfl, ?_⟩
     replace HB7 := Aside0.mk (below_step HB7.out hb)
     have hnx : firstF T ((combos (bound - (y + 1)) (d + 1) (y + 1)).map (fun l => ls ++ l)) = some r := by
      rcases HF2.out with ⟨p, h1, _⟩ | ⟨_, h2⟩
      ·cases h1
      ·exact h2
     have HNX := Aside0.mk hnx
     clear hb hnx HF1 HF2 HR7 h7 hHeld
     refine hK.out _ _ ?_
     clear hK K
     refine norm_ (a' := ?_) ?_ ?_
     rotate_left
     ·simp only [Act.put, List.setIfInBounds_toArray, List.set_cons_zero, List.set_cons_succ]
      rfl
     refine done_ (done_of HT_.out (by kernel_rfl)) ?_
     clear HT_ HW_
     go_wp2
     go_roundw
     case rel => exact ⟨y + 1, by go_num, ⟨HYL.out⟩, HNX, HB7⟩
     case measure => have := HYL.out; simp [intOf]; omega
    ·refine ⟨_, rfl, ?_⟩
     have hr : r = some (f, cc) := by
      rcases HF2.out with ⟨p, h1, h2⟩ | ⟨h1, _⟩
      ·rw [h2, ← h1]
      ·cases h1
     subst hr
     have HD := Aside0.mk hdn
     clear hdn HF1 HF2 HR7 h7 hHeld
     refine hK.out _ _ ?_
     clear hK K
     refine norm_ (a' := ?_) ?_ ?_
     rotate_left
     ·simp only [Act.put, List.setIfInBounds_toArray, List.set_cons_zero, List.set_cons_succ]
      rfl
     refine done_ (done_of HT_.out (by kernel_rfl)) ?_
     clear HT_ HW_
     go_wp2
     go_ret
     exact .inr ⟨f, cc, rfl, rfl, HD.out⟩
   ·have e2 : decide ((y : Int) < (bound : Int)) = false := decide_eq_false (by omega)
    have e2n : decide (y < bound) = false := decide_eq_false hy
    have hr : r = none := by
     have hf := HF.out
     rw [show bound - y = 0 by omega] at hf
     exact (Option.some.inj hf).symm
    subst hr
    clear hy hw HF
    go_wp2
    go_ret
    first | exact .inl ⟨rfl, rfl, bt⟩ | exact ⟨rfl, bt⟩

/-- The world in which choices has its boxes. -/
theorem choices_world (W : World) (many bound : Nat) (tv : Value) (w4 : World) (hw4 : w4 = (((W.alloc (.cells #[.int .i64 (many : Int)] 3)).alloc (.cells #[.int .i64 (bound : Int)] 3)).alloc (.cells #[tv] 81)).alloc (.cells #[.nilFunc] 76)) :
  w4.cell? ⟨W.heap.size + 1 + 1 + 1, 0, none⟩ = some .nilFunc ∧ w4.frozen? ⟨W.heap.size + 1 + 1 + 1, 0, none⟩ = false ∧ Below W.heap.size W w4 ∧
  ∀ v : Value, v = moreV W.heap.size (W.heap.size + 1 + 1) (W.heap.size + 1) (W.heap.size + 1 + 1 + 1) → Ch (w4.setCell ⟨W.heap.size + 1 + 1 + 1, 0, none⟩ v) W.heap.size (W.heap.size + 1 + 1) (W.heap.size + 1) (W.heap.size + 1 + 1 + 1) many bound tv := by
 have g1 : w4.heap[W.heap.size]? = some (.cells #[.int .i64 (many : Int)] 3 (0, 0)) := by
  rw [hw4]
  simp only [alloc_at, World.size_alloc]
  rw [if_neg (by omega), if_neg (by omega), if_neg (by omega), if_pos trivial]
 have g2 : w4.heap[W.heap.size + 1]? = some (.cells #[.int .i64 (bound : Int)] 3 (0, 0)) := by
  rw [hw4]
  simp only [alloc_at, World.size_alloc]
  rw [if_neg (by omega), if_neg (by omega), if_pos trivial]
 have g3 : w4.heap[W.heap.size + 1 + 1]? = some (.cells #[tv] 81 (0, 0)) := by
  rw [hw4]
  simp only [alloc_at, World.size_alloc]
  rw [if_neg (by omega), if_pos trivial]
 have g4 : w4.heap[W.heap.size + 1 + 1 + 1]? = some (.cells #[.nilFunc] 76 (0, 0)) := by
  rw [hw4]
  simp only [alloc_at, World.size_alloc]
  rw [if_pos trivial]
 refine ⟨Mat.cell_of g4 rfl, Mat.free_of g4, by rw [hw4]; exact below_alloc (below_alloc (below_alloc (below_alloc (Below.refl _ _) _) _) _) _, fun v hv => ?_⟩
 subst hv
 have far : ∀ k, k ≠ W.heap.size + 1 + 1 + 1 → (w4.setCell ⟨W.heap.size + 1 + 1 + 1, 0, none⟩ (moreV W.heap.size (W.heap.size + 1 + 1) (W.heap.size + 1) (W.heap.size + 1 + 1 + 1))).heap[k]? = w4.heap[k]? := fun k hk => Below.heap_setCell w4 _ _ k hk
 exact ⟨Mat.cell_of ((far _ (by omega)).trans g1) rfl, Mat.cell_of ((far _ (by omega)).trans g3) rfl, Mat.cell_of ((far _ (by omega)).trans g2) rfl, Mat.cell_of (Mat.heap_put g4) rfl⟩
set_option maxHeartbeats 8000000 in
set_option maxRecDepth 100000 in
theorem choices_calls (many bound : Nat) (p1 p2 p3 p4 p5 p6 p7 : Value) (T : List Int → Option (Option (List Int))) (Done : List Int → List Int → World → Prop) (hbd : bound ≤ 900) (hmany : many ≤ 900) (W : World)
  (HT : ∀ (W1 : World), Below W.heap.size W W1 → ∀ (A : Option Addr) (c : Nat) (ls : List Int), Kd.C (Kd.int .i64) W1 A ls.length ls → ls.length ≤ c → ls.length ≤ 900 → ∀ r, T ls = some r → Calls Try.prog 78 #[.slice A ls.length c, p1, p2, p3, p4, p5, p6, p7] W1 fun e w' => (r = none ∧ e = .returned (.bool false) ∧ Below W1.heap.size W1 w') ∨ (∃ f, r = some f ∧ e = .returned (.bool true) ∧ Done f ls w')) (r : Option (List Int × List Int)) (hr : firstF T (combos bound many 0) = some r) :
  Calls Try.prog 82 #[.int .i64 (many : Int), .int .i64 (bound : Int), .func (.func 78) #[] #[p1, p2, p3, p4, p5, p6, p7]] W fun e w' => (r = none ∧ e = .returned (.bool false) ∧ Below W.heap.size W w') ∨ (∃ f cc, r = some (f, cc) ∧ e = .returned (.bool true) ∧ Done f cc w') := by
 obtain ⟨w4, hw4⟩ : ∃ w4, w4 = (((W.alloc (.cells #[.int .i64 (many : Int)] 3)).alloc (.cells #[.int .i64 (bound : Int)] 3)).alloc (.cells #[.func (.func 78) #[] #[p1, p2, p3, p4, p5, p6, p7]] 81)).alloc (.cells #[.nilFunc] 76) := ⟨_, rfl⟩
 obtain ⟨x4, f4, hb4, hch4⟩ := choices_world W many bound (.func (.func 78) #[] #[p1, p2, p3, p4, p5, p6, p7]) w4 hw4
 have hch := hch4 _ rfl
 have hb5 : Below W.heap.size W (w4.setCell ⟨W.heap.size + 1 + 1 + 1, 0, none⟩ (moreV W.heap.size (W.heap.size + 1 + 1) (W.heap.size + 1) (W.heap.size + 1 + 1 + 1))) := hb4.setCell (p := ⟨W.heap.size + 1 + 1 + 1, 0, none⟩) (by show W.heap.size ≤ W.heap.size + 1 + 1 + 1; omega) _
 have x5 := hch.r
 have hcl := more_calls _ _ _ _ _ many bound p1 p2 p3 p4 p5 p6 p7 T Done hbd hmany hch (fun W1 hb => HT W1 (below_step hb5 hb)) many [] 0 _ none 0 (Below.refl _ _) (Kd.R_reads' (Kd.R_nil (Kd.int .i64) 3 _ 0 (fun _ => True))).2.2 (Nat.le_refl _) (by simp) (Nat.zero_le _) r (by rw [Nat.sub_zero, show (fun l : List Int => [] ++ l) = id from rfl, List.map_id]; exact hr)
 have HW4 := Aside0.mk hw4
 have HB5 := Aside0.mk hb5
 have HCL : Aside0 (Calls Try.prog 94 #[.slice none 0 0, .int .i64 0, .pointer (some ⟨W.heap.size, 0, none⟩), .pointer (some ⟨W.heap.size + 1 + 1, 0, none⟩), .pointer (some ⟨W.heap.size + 1, 0, none⟩), .pointer (some ⟨W.heap.size + 1 + 1 + 1, 0, none⟩)] (w4.setCell ⟨W.heap.size + 1 + 1 + 1, 0, none⟩ (moreV W.heap.size (W.heap.size + 1 + 1) (W.heap.size + 1) (W.heap.size + 1 + 1 + 1))) fun e w' => (r = none ∧ e = .returned (.bool false) ∧ Below (w4.setCell ⟨W.heap.size + 1 + 1 + 1, 0, none⟩ (moreV W.heap.size (W.heap.size + 1 + 1) (W.heap.size + 1) (W.heap.size + 1 + 1 + 1))).heap.size (w4.setCell ⟨W.heap.size + 1 + 1 + 1, 0, none⟩ (moreV W.heap.size (W.heap.size + 1 + 1) (W.heap.size + 1) (W.heap.size + 1 + 1 + 1))) w') ∨ (∃ f cc, r = some (f, cc) ∧ e = .returned (.bool true) ∧ Done f cc w')) := ⟨hcl⟩
 unfold moreV at x5 HB5 HCL
 clear hw4 hb5 hcl hch hch4 hb4 hr HT
 go_enter Try.func82, Try.ntmps82
 go_upto_region 2 with (fail)
 rw [← HW4.out]
 go_wp2_with fail
 refine HCL.out.mono ?_
 rintro e w' (⟨rfl, rfl, hb⟩ | ⟨f, cc, rfl, rfl, hdn⟩)
 ·have HB := Aside0.mk (below_step HB5.out hb)
  clear hb
  go_wp2
  go_ret
  first | exact .inl ⟨rfl, rfl, HB.out⟩ | exact ⟨rfl, HB.out⟩
 ·have HD := Aside0.mk hdn
  clear hdn
  go_wp2
  go_ret
  exact .inr ⟨f, cc, rfl, rfl, HD.out⟩

def impl_cloneI.f (l0 : List Int) : Option (List Int) := if l0.length < 17592186044416 then some l0 else none
set_option maxHeartbeats 4000000 in
set_option maxRecDepth 100000 in
theorem impl_cloneI.calls (A0 : Option Addr) (c0 : Nat) (l0 : List Int) (r : List Int) (w : World) (hr0 : Kd.C (Kd.int .i64) w A0 l0.length l0) (hc0 : l0.length ≤ c0) (h : impl_cloneI.f l0 = some r) :
  Calls Try.prog 81 #[.slice A0 l0.length c0] w fun e w' => ∃ v0_ : Value, e = .returned (v0_) ∧ Kd.R (Kd.int .i64) 3 w' w.heap.size (fun _ => True) v0_ r ∧ Below w.heap.size w w' := by
 unfold impl_cloneI.f at h
 by_cases hl : l0.length < 17592186044416
 ·rw [if_pos hl] at h
  obtain rfl := Option.some.inj h
  have HR0 := Aside0.mk hr0
  have LM := Aside0.mk hl
  have hq := fun W : World => Go.Lib.run_eql_slice_nil (P := Try.prog) W 47 3 A0 l0.length c0 0 0 Try.underlying47
  clear hr0 h hl
  cases A0 with
  | none =>
   have hz : l0 = [] := by
    obtain ⟨_, _, h3⟩ := HR0.out
    cases l0 with
    | nil => rfl
    | cons x l =>
     obtain ⟨ad, e, _⟩ := h3 (by simp)
     cases e
   have HZ := Aside0.mk hz
   clear hz
   have hq1 := hq
   simp only [Option.isNone_none] at hq1
   clear hq
   go_enter Try.func81, Try.ntmps81
   go_wp2
   go_ret
   exact ⟨_, rfl, by rw [HZ.out]; exact Kd.R_nil _ _ _ _ _, Below.refl _ _⟩
  | some ad =>
   have hq1 := hq
   simp only [Option.isNone_some] at hq1
   clear hq
   have HB := Aside0.mk (Below.refl w.heap.size w)
   go_enter Try.func81, Try.ntmps81
   go_wp2_with (first | ((with_reducible refine gate_dst (N := 5) rfl ?_); refine Kd.R_lit (Kd.int .i64) _ 3 ?hg (N := 5) ?hd (xs := ([] : List Int)) (inner := []) (ok := fun _ => True) (okp := fun _ => True) ?hr ?hp (fun _ hk => hk) trivial (Below.refl _ _) (Nat.le_refl _) (by simp) ?_; (case hd => rfl); (case hg => rfl); (case hr => first | (go_simp; done) | (go_simp; rfl)); (case hp => exact (Reps.none _ _)); intro v166 w3 ho4 hb hg_ hnew_; clear hg_ hnew_; have HO167 := Aside0.mk (Kd.R_lower ho4 (below_size (bt))); replace HB := Aside0.mk (below_step (bt) hb); clear hb ho4) | ((with_reducible refine gate_builtin (b := .append) (xs := #[.tmp 5, .tmp 6]) rfl ?_); at_builtin; refine Kd.R_append_rows (Kd.int .i64) (w0 := w) w.heap.size rfl (.tmp 5) (.tmp 6) 47 3 (.int .i64 0) 8 rfl Try.underlying47 info3 rfl (by decide) (by omega) v166 [] l0 _ _ _ (fun _ => True) (fun _ => False) rfl rfl ?aO ?aR (fun _ _ h => h) (fun _ h => h.elim) ?aF ?aB ?aS ?aL ?_; (case aR => exact (Kd.C_below HR0.out HB.out)); (case aB => exact HB.out); (case aF => exact (fun _ _ => trivial)); (case aO => exact HO167.out); (case aS => exact (below_size HB.out)); (case aL => have := LM.out; simp; omega); intro v169 w5 ho hb hg hat; replace HB := Aside0.mk (hb); have HO170 := Aside0.mk (ho); clear HO167; clear ho hb hg hat))
   go_ret
   exact ⟨_, rfl, HO170.out, HB.out⟩
 ·rw [if_neg hl] at h
  cases h

/-- A row of one-cell elements that is the call's own, and one element more. -/
theorem own_append {P : Program} (w : World) (base : Nat) (t e : TypeId) (z : Value) (bytes : Nat) (ht : P.underlying t = some (.slice e)) (hinfo : (P.info? e).map (fun i => (i.zero, i.size, i.bytes)) = some (some z, 1, bytes)) (hz : z.cells.size = 1)
  (v : Value) (xs : List Value) (ho : w.ownsRow base e 1 v xs.length xs) (b : Nat) (u : Value) (hb : w.heap[b]? = some (.cells #[u] e (0, 0))) (h1 : u.oneCell' = true) (hl : xs.length ≤ 1000) (hby : (xs.length + 1) * bytes ≤ 140737488355328) (hbase : base ≤ w.heap.size) :
  ∃ v' w', (Builtin.append_ #[t, t] t #[v, .slice (some ⟨b, 0, none⟩) 1 1]).run P w = .ok v' w' ∧ w'.ownsRow base e 1 v' (xs ++ [u]).length (xs ++ [u]) ∧ w.grownBy w' v.ownBlock := by
 obtain ⟨i0, hi, hzz⟩ := Option.map_eq_some_iff.1 hinfo
 simp only [Prod.mk.injEq] at hzz
 obtain ⟨hz0, hz1, hz2⟩ := hzz
 obtain ⟨v', w', hr, ho', hg, _⟩ := run_append_own_at (P := P) w base t t e i0 z 1 bytes ht hi hz0 hz1 hz2 hz (by decide) v xs.length xs ho ⟨b, 0, none⟩ 1 1 [u] rfl (fun j x hj => by
  cases j with
  | zero =>
   simp only [List.getElem?_cons_zero, Option.some.injEq] at hj
   rw [← hj]
   exact Mat.cell_of hb rfl
  | succ j => simp at hj) (by simpa using h1) (by simp only [maxLen]; omega) hby hbase
 exact ⟨v', w', hr, by rw [List.length_append]; exact ho', hg⟩
/-- The places and the rows that are kept so far, both the call's own. -/
structure St2 (W w : World) (v10 v11 : Value) (P : List Int) (rows : List Value) : Prop where
 p : w.ownsRow W.heap.size 3 1 v10 (encs (Value.int .i64) P).length (encs (Value.int .i64) P)
 o : w.ownsRow W.heap.size 24 1 v11 rows.length rows
 b : Below W.heap.size W w
theorem typed_ne {w : World} {k : Nat} {c c' : Array Value} {e e' : TypeId} {v : Value} {base n : Nat} {xs : List Value} (hk : w.heap[k]? = some (.cells c e' (0, 0))) (ho : w.ownsRow base e 1 v n xs) (hne : e' ≠ e) : some k ≠ v.ownBlock := by
 intro h
 obtain ⟨cells, h2⟩ := own_typed ho k h.symm
 rw [hk] at h2
 injection h2 with h2
 injection h2 with _ h2
 exact hne h2
theorem St2.alloc {W w : World} {v10 v11 : Value} {P : List Int} {rows : List Value} (h : St2 W w v10 v11 P rows) (o : Obj) : St2 W (w.alloc o) v10 v11 P rows :=
 ⟨own_move h.p fun k hk => by
  obtain ⟨_, h2⟩ := own_typed h.p k hk
  exact Below.heap_alloc w o k (Array.getElem?_eq_some_iff.1 h2).1, own_move h.o fun k hk => by
  obtain ⟨_, h2⟩ := own_typed h.o k hk
  exact Below.heap_alloc w o k (Array.getElem?_eq_some_iff.1 h2).1, below_alloc h.b o⟩
theorem St2.same {W w w1 : World} {v10 v11 : Value} {P : List Int} {rows : List Value} (h : St2 W w v10 v11 P rows) (hw : w1.heap = w.heap) (hb : Below W.heap.size W w1) : St2 W w1 v10 v11 P rows :=
 ⟨own_move h.p fun k _ => by rw [hw], own_move h.o fun k _ => by rw [hw], hb⟩
theorem St2.below {W w w1 : World} {v10 v11 : Value} {P : List Int} {rows : List Value} (h : St2 W w v10 v11 P rows) (hb : Below w.heap.size w w1) : St2 W w1 v10 v11 P rows :=
 ⟨own_move h.p fun k hk => by
  obtain ⟨_, h2⟩ := own_typed h.p k hk
  exact hb.block k (Array.getElem?_eq_some_iff.1 h2).1, own_move h.o fun k hk => by
  obtain ⟨_, h2⟩ := own_typed h.o k hk
  exact hb.block k (Array.getElem?_eq_some_iff.1 h2).1, below_step h.b hb⟩
theorem own_ge {w : World} {base : Nat} {e : TypeId} {n : Nat} {v : Value} {xs : List Value} (h : w.ownsRow base e 1 v n xs) (k : Nat) (hk : v.ownBlock = some k) : base ≤ k := by
 rcases h.2 with ⟨rfl, _⟩ | ⟨g, cap, cur, rfl, hg, hh, r⟩
 ·simp [Value.ownBlock] at hk
 ·have : g = k := by simpa [Value.ownBlock] using hk
  omega
theorem St2.addP {W w : World} {v10 v11 : Value} {P : List Int} {rows : List Value} (h : St2 W w v10 v11 P rows) {b : Nat} {x : Int} (hb : w.heap[b]? = some (.cells #[.int .i64 x] 3 (0, 0))) (hl : P.length ≤ 1000) :
  ∃ v' w', (Builtin.append_ #[47, 47] 47 #[v10, .slice (some ⟨b, 0, none⟩) 1 1]).run Try.prog w = .ok v' w' ∧ St2 W w' v' v11 (P ++ [x]) rows ∧ ∀ (k : Nat) (c : Array Value), w.heap[k]? = some (Obj.cells c 24 (0, 0)) → w'.heap[k]? = some (Obj.cells c 24 (0, 0)) := by
 obtain ⟨v', w', h1, h2, h3⟩ := own_append (P := Try.prog) w W.heap.size 47 3 (.int .i64 0) 8 Try.underlying47 info3 rfl v10 _ h.p b (.int .i64 x) hb rfl (by rw [encs_length]; exact hl) (by rw [encs_length]; omega) h.b.size
 have far : ∀ (k : Nat) (c : Array Value), w.heap[k]? = some (Obj.cells c 24 (0, 0)) → w'.heap[k]? = some (Obj.cells c 24 (0, 0)) := fun k c hk => (h3.block k (Array.getElem?_eq_some_iff.1 hk).1 (typed_ne (c' := c) hk h.p (by decide))).trans hk
 refine ⟨v', w', h1, ⟨by rw [encs_append]; exact h2, own_move h.o fun k hk => ?_, h.b.grown h3 h.b.size (fun k hk => own_ge h.p k hk)⟩, far⟩
 obtain ⟨c, hc⟩ := own_typed h.o k hk
 rw [far k c hc, hc]
theorem St2.addO {W w : World} {v10 v11 : Value} {P : List Int} {rows : List Value} (h : St2 W w v10 v11 P rows) {b : Nat} {u : Value} (hb : w.heap[b]? = some (.cells #[u] 24 (0, 0))) (hu : u.oneCell' = true) (hl : rows.length ≤ 1000) :
  ∃ v' w', (Builtin.append_ #[22, 22] 22 #[v11, .slice (some ⟨b, 0, none⟩) 1 1]).run Try.prog w = .ok v' w' ∧ St2 W w' v10 v' P (rows ++ [u]) := by
 obtain ⟨v', w', h1, h2, h3⟩ := own_append (P := Try.prog) w W.heap.size 22 24 (.slice none 0 0) 24 Try.underlying22 info24 rfl v11 rows h.o b u hb hu hl (by omega) h.b.size
 refine ⟨v', w', h1, own_move h.p fun k hk => ?_, h2, h.b.grown h3 h.b.size (fun k hk => own_ge h.o k hk)⟩
 obtain ⟨c, hc⟩ := own_typed h.p k hk
 exact h3.block k (Array.getElem?_eq_some_iff.1 hc).1 (typed_ne (c' := c) hc h.o (by decide))
/-- Of each row kept: where it lies, and that it is read there. -/
def RowsOf (W : World) (rows : List Value) (S : List (List Int)) : Prop := rows.length = S.length ∧ ∀ (j : Nat) (x : List Int), S[j]? = some x → ∃ A c, rows[j]? = some (.slice A x.length c) ∧ x.length ≤ c ∧ Kd.C (Kd.int .u8) W A x.length x
theorem RowsOf.snoc {W : World} {rows : List Value} {S : List (List Int)} (h : RowsOf W rows S) {A : Option Addr} {c : Nat} {x : List Int} (hc : x.length ≤ c) (hx : Kd.C (Kd.int .u8) W A x.length x) : RowsOf W (rows ++ [.slice A x.length c]) (S ++ [x]) := by
 refine ⟨by rw [List.length_append, List.length_append, h.1]; rfl, fun j y hj => ?_⟩
 by_cases e : j < S.length
 ·rw [List.getElem?_append_left e] at hj
  rw [List.getElem?_append_left (by rw [h.1]; exact e)]
  exact h.2 j y hj
 ·have ej : j = S.length := by
   have := (List.getElem?_eq_some_iff.1 hj).1
   rw [List.length_append, List.length_singleton] at this
   omega
  subst ej
  rw [List.getElem?_append_right (Nat.le_refl _), Nat.sub_self] at hj
  rw [List.getElem?_append_right (by rw [h.1]; exact Nat.le_refl _), h.1, Nat.sub_self]
  obtain rfl : x = y := Option.some.inj hj
  exact ⟨A, c, rfl, hc, hx⟩
/-- The places, as they are read. -/
theorem St2.readsP {W w : World} {v10 v11 : Value} {P : List Int} {rows : List Value} (h : St2 W w v10 v11 P rows) : ∃ A c, v10 = .slice A P.length c ∧ P.length ≤ c ∧ Kd.C (Kd.int .i64) w A P.length P := by
 have hR : Kd.R (Kd.int .i64) 3 w W.heap.size (fun _ => True) v10 P := Kd.R_of_own (enc := Value.int .i64) (by have := h.p; rwa [encs_length] at this) (fun _ _ => trivial)
 obtain ⟨A, c, rfl⟩ := Kd.R_slice hR
 exact ⟨A, c, rfl, (Kd.R_reads' hR).2.1, (Kd.R_reads' hR).2.2⟩
/-- The rows, as they are read. -/
theorem St2.readsO {W w : World} {v10 v11 : Value} {P : List Int} {rows : List Value} {S : List (List Int)} (h : St2 W w v10 v11 P rows) (hS : RowsOf W rows S) : ∃ A c, v11 = .slice A S.length c ∧ S.length ≤ c ∧ Kd.C (Kd.slice 5 (Kd.int .u8)) w A S.length S := by
 obtain ⟨h1, h2⟩ := h.o
 rcases h2 with ⟨hv, h0⟩ | ⟨g, cap, cur, hv, hg, hh, hn, hc, hs, ht⟩
 ·have e : S = [] := List.eq_nil_of_length_eq_zero (by rw [← hS.1]; exact h0)
  subst e
  exact ⟨none, 0, hv, Nat.le_refl _, (Kd.R_reads' (Kd.R_nil (Kd.slice 5 (Kd.int .u8)) 24 w 0 (fun _ => True))).2.2⟩
 ·refine ⟨some ⟨g, 0, none⟩, cap, by rw [hv, hS.1], by rw [← hS.1]; exact hn, rfl, ?_, fun _ => ⟨⟨g, 0, none⟩, rfl, fun j x hj => ?_⟩⟩
  ·rw [← hS.1]
   simp only [maxLen] at hc
   omega
  ·obtain ⟨A, c, h3, h4, h5⟩ := hS.2 j x hj
   have hjl : j < rows.length := by
    rw [hS.1]
    exact (List.getElem?_eq_some_iff.1 hj).1
   refine ⟨[.slice A x.length c], rfl, ⟨A, c, rfl, h4, Kd.C_below h5 h.b⟩, fun i u hu => ?_⟩
   cases i with
   | zero =>
    simp only [List.getElem?_cons_zero, Option.some.injEq] at hu
    rw [← hu]
    have e1 : cur[j]? = some (.slice A x.length c) := by
     rw [Nat.mul_one] at ht
     rw [← h3, ← ht, List.getElem?_take_of_lt hjl, Array.getElem?_toList]
    have : (⟨g, 0, none⟩ : Addr).add (j * (Kd.slice 5 (Kd.int .u8)).sz + 0) = ⟨g, j, none⟩ := by
     rw [show j * (Kd.slice 5 (Kd.int .u8)).sz + 0 = j from Nat.mul_one j]
     rw [Addr.add_lit, Nat.zero_add]
    rw [this]
    exact Mat.cell_of hh e1
   | succ i => simp at hu
/-- A store into an elder block leaves a newer row as it is. -/
theorem R_past {α : Type} {d : Kd α} {e N : Nat} {w : World} {v : Value} {xs : List α} (h : Kd.R d e w N (fun _ => True) v xs) {g : Nat} (hg : g < N) (u : Value) : Kd.R d e (w.setCell ⟨g, 0, none⟩ u) N (fun _ => True) v xs :=
 Kd.R_mono (Kd.R_far (Kd.R_bound h) (p := ⟨g, 0, none⟩) (fun k hk => by have := hk.2.1; show k ≠ g; omega) u) (fun _ _ => trivial)

/-- What is kept: the places and the rows whose number is not in ls. -/
def keepN (k : Nat) (ls ps : List Int) (ss : List (List Int)) : Nat → Nat → List Int → List (List Int) → Option (List Int × List (List Int))
 | 0, _, P, S => some (P, S)
 | n + 1, i, P, S => (slices_Contains_int_int.f k ls (i : Int)).bind fun b => if b = true then keepN k ls ps ss n (i + 1) P S else if i < ss.length then keepN k ls ps ss n (i + 1) (P ++ [ps.getD i 0]) (S ++ [ss.getD i []]) else none
/-- One list of liars tried: the data that the others tell, if all of them tell it. -/
def tryF (k : Nat) (a0 a1 a2 : Int) (ps : List Int) (ss : List (List Int)) (ls : List Int) : Option (Option (List Int)) :=
 (keepN k ls ps ss ps.length 0 [] []).bind fun q => (impl_Decode.f k a0 a1 a2 q.1 q.2).bind fun d => (impl_Recheck.f k a0 a1 d.1 q.1 q.2).bind fun c => some (if d.2 = true ∧ c.2 = true ∧ ¬ 0 ≤ c.1 then some d.1 else none)
structure Bxs (w : World) (g1 g2 g3 g4 g5 g6 g7 : Nat) (A3 : Option Addr) (n3 c3 : Nat) (A4 : Option Addr) (n4 c4 : Nat) (a0 a1 a2 : Int) : Prop where
 ps : w.cell? ⟨g1, 0, none⟩ = some (.slice A3 n3 c3)
 ss : w.cell? ⟨g2, 0, none⟩ = some (.slice A4 n4 c4)
 k : w.cell? ⟨g3, 0, none⟩ = some (.int .i64 a0)
 n : w.cell? ⟨g4, 0, none⟩ = some (.int .i64 a1)
 z : w.cell? ⟨g5, 0, none⟩ = some (.int .i64 a2)
 d : ∃ v, w.heap[g6]? = some (Obj.cells #[v] 24 (0, 0))
 o : ∃ v, w.heap[g7]? = some (Obj.cells #[v] 47 (0, 0))
theorem Bxs.below {w w1 : World} {g1 g2 g3 g4 g5 g6 g7 : Nat} {A3 : Option Addr} {n3 c3 : Nat} {A4 : Option Addr} {n4 c4 : Nat} {a0 a1 a2 : Int} (h : Bxs w g1 g2 g3 g4 g5 g6 g7 A3 n3 c3 A4 n4 c4 a0 a1 a2) (hb : Below w.heap.size w w1) : Bxs w1 g1 g2 g3 g4 g5 g6 g7 A3 n3 c3 A4 n4 c4 a0 a1 a2 := by
 obtain ⟨v, hv⟩ := h.d
 obtain ⟨u, hu⟩ := h.o
 exact ⟨kept_cell hb h.ps, kept_cell hb h.ss, kept_cell hb h.k, kept_cell hb h.n, kept_cell hb h.z, ⟨v, (hb.block _ (Array.getElem?_eq_some_iff.1 hv).1).trans hv⟩, ⟨u, (hb.block _ (Array.getElem?_eq_some_iff.1 hu).1).trans hu⟩⟩
/-- What stands in the two boxes when a list was taken. -/
def DoneW (B : World) (g6 g7 : Nat) (f ls : List Int) (w : World) : Prop := Below B.heap.size B w ∧ ∃ vd vo, w.heap[g6]? = some (Obj.cells #[vd] 24 (0, 0)) ∧ w.heap[g7]? = some (Obj.cells #[vo] 47 (0, 0)) ∧ Kd.R (Kd.int .u8) 5 w B.heap.size (fun _ => True) vd f ∧ Kd.R (Kd.int .i64) 3 w B.heap.size (fun _ => True) vo ls
def tryO.T6 : Bool × List (List Nat × List Nat) := (true, [([], []), ([], []), ([1], [1]), ([0, 2], [0, 2]), ([], []), ([], []), ([], []), ([5, 6], [5, 6]), ([7], [7]), ([8], [8]), ([4, 9, 3], [4, 9]), ([3, 10, 0, 1, 2, 3], [0, 3]), ([10, 11, 0, 1, 2, 3, 4, 5, 6, 7, 8, 9, 10, 11], [4, 10])])
def tryO.B6 : List Nat := [0, 0, 2, 7, 0, 0, 0, 96, 224, 480, 1023, 2047, 4095]
theorem tryO.tab6 : rtab .any (opsOf Try.f78 6) = tryO.T6 := by kernel_rfl
theorem tryO.bits6 : waitsOk tryO.T6.2 tryO.B6 = true := by kernel_rfl
set_option maxHeartbeats 8000000 in
set_option maxRecDepth 100000 in
theorem try_calls (k : Nat) (a0 a1 a2 : Int) (A3 : Option Addr) (c3 : Nat) (l3 : List Int) (A4 : Option Addr) (c4 : Nat) (l4 : List (List Int)) (B W : World) (g1 g2 g3 g4 g5 g6 g7 : Nat) (hbx : Bxs W g1 g2 g3 g4 g5 g6 g7 A3 l3.length c3 A4 l4.length c4 a0 a1 a2)
  (hbB : Below B.heap.size B W) (hg6 : B.heap.size ≤ g6) (hg7 : B.heap.size ≤ g7) (hr3 : Kd.C (Kd.int .i64) W A3 l3.length l3) (hr4 : Kd.C (Kd.slice 5 (Kd.int .u8)) W A4 l4.length l4) (hl3 : l3.length ≤ 900)
  (A : Option Addr) (c : Nat) (ls : List Int) (hr : Kd.C (Kd.int .i64) W A ls.length ls) (hc : ls.length ≤ c) (hls : ls.length ≤ 900) (r : Option (List Int)) (h : tryF k a0 a1 a2 l3 l4 ls = some r) :
  Calls Try.prog 78 #[.slice A ls.length c, .pointer (some ⟨g1, 0, none⟩), .pointer (some ⟨g2, 0, none⟩), .pointer (some ⟨g3, 0, none⟩), .pointer (some ⟨g4, 0, none⟩), .pointer (some ⟨g5, 0, none⟩), .pointer (some ⟨g6, 0, none⟩), .pointer (some ⟨g7, 0, none⟩)] W fun e w' => (r = none ∧ e = .returned (.bool false) ∧ Below W.heap.size W w') ∨ (∃ f, r = some f ∧ e = .returned (.bool true) ∧ DoneW B g6 g7 f ls w') := by
 unfold tryF at h
 obtain ⟨q, hq, h⟩ := Option.bind_eq_some_iff.1 h
 obtain ⟨⟨d1, d2⟩, hd, h⟩ := Option.bind_eq_some_iff.1 h
 obtain ⟨⟨s1, s2⟩, he, h⟩ := Option.bind_eq_some_iff.1 h
 have hres := Option.some.inj h
 dsimp only at hd he hres
 have HQ := Aside0.mk hq
 have HD := Aside0.mk hd
 have HE := Aside0.mk he
 have HRES := Aside0.mk hres
 have HBX := Aside0.mk hbx
 have HBB := Aside0.mk hbB
 have HG := Aside0.mk (⟨hg6, hg7⟩ : B.heap.size ≤ g6 ∧ B.heap.size ≤ g7)
 have HR3 := Aside0.mk hr3
 have HR4 := Aside0.mk hr4
 have HR := Aside0.mk hr
 have HC := Aside0.mk hc
 have HL3 := Aside0.mk hl3
 have HLS := Aside0.mk hls
 obtain ⟨w2, hw2⟩ : ∃ w2, w2 = (W.alloc (.cells #[] 3)).alloc (.cells #[] 24) := ⟨_, rfl⟩
 have hb2 : Below W.heap.size W w2 := by rw [hw2]; exact below_alloc (below_alloc (Below.refl _ _) _) _
 have x1 := kept_cell hb2 hbx.ps
 have hst : St2 W w2 (.slice (some ⟨W.heap.size, 0, none⟩) 0 0) (.slice (some ⟨W.heap.size + 1, 0, none⟩) 0 0) [] [] := by
  refine ⟨⟨rfl, .inr ⟨W.heap.size, 0, #[], rfl, Nat.le_refl _, ?_, Nat.le_refl _, by simp [maxLen], rfl, rfl⟩⟩, ⟨rfl, .inr ⟨W.heap.size + 1, 0, #[], rfl, Nat.le_succ _, ?_, Nat.le_refl _, by simp [maxLen], rfl, rfl⟩⟩, hb2⟩
  ·rw [hw2]
   simp only [alloc_at, World.size_alloc]
   rw [if_neg (by omega), if_pos trivial]
  ·rw [hw2]
   simp only [alloc_at, World.size_alloc]
   rw [if_pos trivial]
 have HST := Aside0.mk hst
 have HW2 := Aside0.mk hw2
 clear h hq hd he hres hbx hbB hg6 hg7 hr3 hr4 hr hc hl3 hls hw2 hb2 hst
 go_enter Try.func78, Try.ntmps78
 go_upto_region 2 with (fail)
 rw [← HW2.out]
 go_wp2
 go_loopw [10, 11, 22] (fun v10 v11 v22 wr => ∃ (i : Nat) (P : List Int) (S : List (List Int)) (rows : List Value), v22 = .int .i64 (i : Int) ∧ Aside0 (i ≤ l3.length) ∧ Aside0 (keepN k ls l3 l4 (l3.length - i) i P S = some q) ∧ Aside0 (P.length ≤ i ∧ S.length ≤ i) ∧ Aside0 (St2 W wr v10 v11 P rows) ∧ Aside0 (RowsOf W rows S)) (fun _ _ v22 _ => l3.length - (intOf v22).toNat)
 case atStart => exact ⟨0, [], [], [], rfl, ⟨Nat.zero_le _⟩, HQ, ⟨⟨Nat.le_refl _, Nat.le_refl _⟩⟩, HST, ⟨⟨rfl, fun j x hj => by simp at hj⟩⟩⟩
 case round =>
  clear HST HQ HW2 x1
  obtain ⟨i, P, S, rows, rfl, HI, HQ, HPS, HST, HRO⟩ := hrel
  have p0 : 0 ≤ (i : Int) := Int.natCast_nonneg i
  have p1 : (i : Int) ≤ 900 := by have := HI.out; have := HL3.out; omega
  by_cases hi : i < l3.length
  ·have e2 : decide ((i : Int) < (l3.length : Int)) = true := decide_eq_true (by omega)
   have e2n : decide (i < l3.length) = true := decide_eq_true hi
   have q2 : (i : Int) < (l3.length : Int) := by omega
   have hq := HQ.out
   rw [show l3.length - i = (l3.length - (i + 1)) + 1 by omega] at hq
   unfold keepN at hq
   obtain ⟨b, hb, hq⟩ := Option.bind_eq_some_iff.1 hq
   obtain ⟨ad3, e3, x3⟩ := Kd.at_int HR3.out (i : Int) (Int.natCast_nonneg i) (by omega)
   subst e3
   rw [Int.toNat_natCast] at x3
   replace x3 := kept_cell HST.out.b x3
   have HCO := Aside0.mk hb
   have HIL := Aside0.mk hi
   obtain ⟨x, hx⟩ : ∃ x, x = rd l3 (i : Int) := ⟨_, rfl⟩
   rw [← hx] at x3
   have HX := Aside0.mk hx
   have HRC := Aside0.mk (Kd.C_below HR.out HST.out.b)
   clear hb hi hx
   cases b with
   | true =>
    rw [if_pos rfl] at hq
    have HQ2 := Aside0.mk hq
    clear hq HQ
    go_wp2_with ((with_reducible refine gate_callee (f := 79) rfl ?_); refine goesL_ (some 29) rfl rfl Try.func79 (by kernel_rfl) rfl #[.slice A ls.length c, .int .i64 (i : Int)] rfl av ?_; (with_reducible refine (slices_Contains_int_int.calls k A c ls (i : Int) true _ HRC.out HC.out HCO.out).mono ?_); rintro e w' ⟨rfl, ⟨nd, rfl⟩⟩; refine ⟨_, rfl, ?_⟩)
    go_roundw
    case rel => exact ⟨i + 1, P, S, rows, by go_num, ⟨HIL.out⟩, HQ2, ⟨⟨Nat.le_succ_of_le HPS.out.1, Nat.le_succ_of_le HPS.out.2⟩⟩, ⟨HST.out.same rfl (pw_below_drewN HST.out.b nd)⟩, HRO⟩
    case measure => have := HIL.out; simp [intOf]; omega
   | false =>
    rw [if_neg (by decide)] at hq
    by_cases hi4 : i < l4.length
    ·rw [if_pos hi4] at hq
     have HQ2 := Aside0.mk hq
     have HI4 := Aside0.mk hi4
     clear hq HQ hi4
     go_wp2_with ((with_reducible refine gate_callee (f := 79) rfl ?_); refine goesL_ (some 29) rfl rfl Try.func79 (by kernel_rfl) rfl #[.slice A ls.length c, .int .i64 (i : Int)] rfl av ?_; (with_reducible refine (slices_Contains_int_int.calls k A c ls (i : Int) false _ HRC.out HC.out HCO.out).mono ?_); rintro e w' ⟨rfl, ⟨nd, rfl⟩⟩; refine ⟨_, rfl, ?_⟩)
     obtain ⟨ad4, cc, e4, _, hK4, hcc4⟩ := ReadsRow.get_ HR4.out ([] : List Int) (i : Int) (Int.natCast_nonneg i) (by have := HI4.out; omega)
     obtain ⟨A5, c5, rfl, h5, h6⟩ := hK4
     rw [Int.toNat_natCast] at hcc4 h5 h6
     have x6 := hcc4 0 _ rfl
     rw [show i * (Kd.slice 5 (Kd.int .u8)).sz + 0 = i from Nat.mul_one i] at x6
     subst e4
     have x5 := HBX.out.ss
     obtain ⟨y, hy⟩ : ∃ y, y = l4.getD i [] := ⟨_, rfl⟩
     rw [← hy] at x6 h5 h6
     have X5 := Aside0.mk x5
     have X6 := Aside0.mk x6
     have HY := Aside0.mk hy
     have HRO2 := Aside0.mk (HRO.out.snoc h5 h6)
     have q4 : (i : Int) < (l4.length : Int) := by have := HI4.out; omega
     clear x5 x6 h5 h6 hy hcc4
     have HST5 := Aside0.mk (HST.out.same (w1 := (wr.drewN nd).drew) rfl (below_drew1 (pw_below_drewN HST.out.b nd)))
     refine start_ (n := 13) (S := fun w' => w'.cell? ⟨g2, 0, none⟩ = some (.slice (some ad4) l4.length c4) ∧ w'.cell? (ad4.add i) = some (.slice A5 y.length c5)) (ds := []) #[false, false, false, false, false, false, false, false, false, false, false, false, false] (by kernel_rfl) rfl rfl ⟨kept_cell HST5.out.b X5.out, kept_cell HST5.out.b X6.out⟩ (fun hHeld => ?_); refine with_tabW tryO.tab6 tryO.bits6 (fun HT_ HW_ => ?_)
     clear HST x3
     generalize (wr.drewN nd).drew = w5 at HST5 hHeld ⊢
     refine pz (i := 0) (N := some 31) #[true, false, false, false, false, false, false, false, false, false, false, false, false] rfl rfl HT_.out ?_
     refine pz (i := 1) (N := some 32) #[true, true, false, false, false, false, false, false, false, false, false, false, false] rfl rfl HT_.out ?_
     refine pz (i := 4) (N := some 35) #[true, true, false, false, true, false, false, false, false, false, false, false, false] rfl rfl HT_.out ?_
     refine pz (i := 6) (N := some 37) #[true, true, false, false, true, false, true, false, false, false, false, false, false] rfl rfl HT_.out ?_
     refine tz (i := 5) (N := some 36) #[true, true, false, false, true, true, true, false, false, false, false, false, false] rfl rfl HT_.out HW_.out hHeld (Or.inl ⟨by rfl, by rintro w' ⟨s0, s1⟩; go_simp; with_reducible rfl⟩) ?_
     refine pz (i := 7) (N := some 38) #[true, true, false, false, true, true, true, true, false, false, false, false, false] rfl rfl HT_.out ?_
     refine tz (i := 8) (N := some 39) #[true, true, false, false, true, true, true, true, true, false, false, false, false] rfl rfl HT_.out HW_.out hHeld (Or.inl ⟨by rfl, by rintro w' ⟨s0, s1⟩; go_simp; with_reducible rfl⟩) ?_
     refine join_ (σ := Nat × Value × Nat) 3 #[true, true, true, true, true, true, true, true, true, true, false, false, false] (fun s_ => [(33, .slice (some ⟨s_.1, 0, none⟩) 1 1), (34, s_.2.1), (40, .slice (some ⟨s_.2.2, 0, none⟩) 1 1)]) (fun s_ w' => w'.cell? ⟨g2, 0, none⟩ = some (.slice (some ad4) l4.length c4) ∧ w'.cell? (ad4.add i) = some (.slice A5 y.length c5) ∧ St2 W w' s_.2.1 u11 (P ++ [x]) rows ∧ w'.heap[s_.2.2]? = some (Obj.cells #[.slice A5 y.length c5] 24 (0, 0))) ?_ ?_
     rotate_left
     ·intro hCont
      refine two_ (i := 2) (j := 9) (Ni := some 33) (Nj := some 40) #[true, true, true, false, true, true, true, true, true, false, false, false, false] #[true, true, false, false, true, true, true, true, true, true, false, false, false] rfl rfl rfl rfl (two_of HT_.out (by kernel_rfl)) (by decide) (by decide) (fun K hK => ?_) (fun K hK => ?_)
      ·skip
       refine value_ (w1 := ?_) (v := ?_) (by rfl) rfl ?_ ?_
       rotate_left 2
       ·go_simp
        constructor
        ·rfl
        ·rfl
       refine hK.out _ _ ⟨kept_cell (HST5.out.alloc _).b X5.out, kept_cell (HST5.out.alloc _).b X6.out⟩ (fun hHeld => ?_)
       clear hK K
       refine nz (N := some 33) ?_
       refine two_ (i := 3) (j := 9) (Ni := some 34) (Nj := some 40) #[true, true, true, true, true, true, true, true, true, false, false, false, false] #[true, true, true, false, true, true, true, true, true, true, false, false, false] rfl rfl rfl rfl (two_of HT_.out (by kernel_rfl)) (by decide) (by decide) (fun K hK => ?_) (fun K hK => ?_)
       ·skip
        obtain ⟨v7, w7, hrun, hst7, hfar⟩ := (HST5.out.alloc (.cells #[.int .i64 x] 3)).addP (b := w5.heap.size) (x := x) (by simp only [alloc_at, World.size_alloc]; rw [if_pos trivial]) (by have := HPS.out.1; omega)
        refine value_ (w1 := w7) (v := v7) (by rfl) rfl (append_exec (s := .tmp 31) (x := .tmp 33) rfl rfl rfl rfl hrun) ?_
        refine hK.out _ _ ⟨kept_cell hst7.b X5.out, kept_cell hst7.b X6.out⟩ (fun hHeld => ?_)
        clear hK K hrun
        refine nz (N := some 34) ?_
        refine one_ (i := 9) (N := some 40) #[true, true, true, true, true, true, true, true, true, true, false, false, false] rfl rfl (one_of HT_.out (by kernel_rfl)) (by decide) (fun K hK => ?_)
        refine value_ (w1 := ?_) (v := ?_) (by rfl) rfl ?_ ?_
        rotate_left 2
        ·go_simp
         constructor
         ·rfl
         ·rfl
        refine hK.out _ _ ⟨kept_cell (hst7.alloc _).b X5.out, kept_cell (hst7.alloc _).b X6.out⟩ (fun hHeld => ?_)
        clear hK K
        refine nz (N := some 40) ?_
        exact norm_ (by simp only [putAll, Act.put, List.setIfInBounds_toArray, List.set_cons_zero, List.set_cons_succ]) (hCont (w5.heap.size, v7, w7.heap.size) _ ⟨hHeld.1, hHeld.2, hst7.alloc _, (by simp only [alloc_at]; rw [if_pos trivial])⟩)
       ·skip
        refine value_ (w1 := ?_) (v := ?_) (by rfl) rfl ?_ ?_
        rotate_left 2
        ·go_simp
         constructor
         ·rfl
         ·rfl
        refine hK.out _ _ ⟨kept_cell ((HST5.out.alloc _).alloc _).b X5.out, kept_cell ((HST5.out.alloc _).alloc _).b X6.out⟩ (fun hHeld => ?_)
        clear hK K
        refine nz (N := some 40) ?_
        refine one_ (i := 3) (N := some 34) #[true, true, true, true, true, true, true, true, true, true, false, false, false] rfl rfl (one_of HT_.out (by kernel_rfl)) (by decide) (fun K hK => ?_)
        obtain ⟨v7, w7, hrun, hst7, hfar⟩ := ((HST5.out.alloc (.cells #[.int .i64 x] 3)).alloc (.cells #[.slice A5 y.length c5] 24)).addP (b := w5.heap.size) (x := x) (by simp only [alloc_at, World.size_alloc]; rw [if_neg (by omega), if_pos trivial]) (by have := HPS.out.1; omega)
        refine value_ (w1 := w7) (v := v7) (by rfl) rfl (append_exec (s := .tmp 31) (x := .tmp 33) rfl rfl rfl rfl hrun) ?_
        refine hK.out _ _ ⟨kept_cell hst7.b X5.out, kept_cell hst7.b X6.out⟩ (fun hHeld => ?_)
        clear hK K hrun
        refine nz (N := some 34) ?_
        exact norm_ (by simp only [putAll, Act.put, List.setIfInBounds_toArray, List.set_cons_zero, List.set_cons_succ]) (hCont (w5.heap.size, v7, w5.heap.size + 1) _ ⟨hHeld.1, hHeld.2, hst7, hfar _ _ (by simp only [alloc_at, World.size_alloc]; rw [if_pos trivial])⟩)
      ·skip
       refine value_ (w1 := ?_) (v := ?_) (by rfl) rfl ?_ ?_
       rotate_left 2
       ·go_simp
        constructor
        ·rfl
        ·rfl
       refine hK.out _ _ ⟨kept_cell (HST5.out.alloc _).b X5.out, kept_cell (HST5.out.alloc _).b X6.out⟩ (fun hHeld => ?_)
       clear hK K
       refine nz (N := some 40) ?_
       refine one_ (i := 2) (N := some 33) #[true, true, true, false, true, true, true, true, true, true, false, false, false] rfl rfl (one_of HT_.out (by kernel_rfl)) (by decide) (fun K hK => ?_)
       refine value_ (w1 := ?_) (v := ?_) (by rfl) rfl ?_ ?_
       rotate_left 2
       ·go_simp
        constructor
        ·rfl
        ·rfl
       refine hK.out _ _ ⟨kept_cell ((HST5.out.alloc _).alloc _).b X5.out, kept_cell ((HST5.out.alloc _).alloc _).b X6.out⟩ (fun hHeld => ?_)
       clear hK K
       refine nz (N := some 33) ?_
       refine one_ (i := 3) (N := some 34) #[true, true, true, true, true, true, true, true, true, true, false, false, false] rfl rfl (one_of HT_.out (by kernel_rfl)) (by decide) (fun K hK => ?_)
       obtain ⟨v7, w7, hrun, hst7, hfar⟩ := ((HST5.out.alloc (.cells #[.slice A5 y.length c5] 24)).alloc (.cells #[.int .i64 x] 3)).addP (b := w5.heap.size + 1) (x := x) (by simp only [alloc_at, World.size_alloc]; rw [if_pos trivial]) (by have := HPS.out.1; omega)
       refine value_ (w1 := w7) (v := v7) (by rfl) rfl (append_exec (s := .tmp 31) (x := .tmp 33) rfl rfl rfl rfl hrun) ?_
       refine hK.out _ _ ⟨kept_cell hst7.b X5.out, kept_cell hst7.b X6.out⟩ (fun hHeld => ?_)
       clear hK K hrun
       refine nz (N := some 34) ?_
       exact norm_ (by simp only [putAll, Act.put, List.setIfInBounds_toArray, List.set_cons_zero, List.set_cons_succ]) (hCont (w5.heap.size + 1, v7, w5.heap.size) _ ⟨hHeld.1, hHeld.2, hst7, hfar _ _ (by simp only [alloc_at, World.size_alloc]; rw [if_neg (by omega), if_pos trivial])⟩)
     rintro ⟨b2, v7, b9⟩ w7 ⟨hH1, hH2, hst7, hlit⟩
     have hHeld : w7.cell? ⟨g2, 0, none⟩ = some (.slice (some ad4) l4.length c4) ∧ w7.cell? (ad4.add i) = some (.slice A5 y.length c5) := ⟨hH1, hH2⟩
     dsimp only at hst7 hlit
     obtain ⟨v8, w8, hrun8, hst8⟩ := hst7.addO hlit rfl (by have := HRO.out.1; have := HPS.out.2; omega)
     have HRUN8 := Aside0.mk hrun8
     have HST8 := Aside0.mk hst8
     clear hH1 hH2 hst7 hlit hrun8 hst8 HST5
     refine norm_ (a' := ?_) ?_ ?_
     rotate_left
     ·simp only [putAll, Act.put, List.setIfInBounds_toArray, List.set_cons_zero, List.set_cons_succ]
      rfl
     refine one_ (i := 10) (N := some 41) #[true, true, true, true, true, true, true, true, true, true, true, false, false] rfl rfl (one_of HT_.out (by kernel_rfl)) (by decide) (fun K hK => ?_)
     refine value_ (w1 := w8) (v := v8) (by rfl) rfl (append_exec (s := .tmp 35) (x := .tmp 40) rfl rfl rfl rfl HRUN8.out) ?_
     refine hK.out _ _ ⟨kept_cell HST8.out.b X5.out, kept_cell HST8.out.b X6.out⟩ (fun hHeld => ?_)
     clear hK K HRUN8
     refine nz (N := some 41) ?_
     refine pz (i := 11) (N := some 10) #[true, true, true, true, true, true, true, true, true, true, true, true, false] rfl rfl HT_.out ?_
     refine pz (i := 12) (N := some 11) #[true, true, true, true, true, true, true, true, true, true, true, true, true] rfl rfl HT_.out ?_
     refine done_ (done_of HT_.out (by kernel_rfl)) ?_
     clear HT_ HW_ hHeld
     have hq2 : keepN k ls l3 l4 (l3.length - (i + 1)) (i + 1) (P ++ [x]) (S ++ [y]) = some q := by
      have h := HQ2.out
      rw [show l3.getD i 0 = x by rw [HX.out]; unfold rd; rw [Int.toNat_natCast], ← HY.out] at h
      exact h
     have HQ3 := Aside0.mk hq2
     clear hq2
     go_wp2
     go_roundw
     case rel => exact ⟨i + 1, P ++ [x], S ++ [y], rows ++ [.slice A5 y.length c5], by go_num, ⟨HIL.out⟩, HQ3, ⟨⟨by rw [List.length_append, List.length_singleton]; have := HPS.out.1; omega, by rw [List.length_append, List.length_singleton]; have := HPS.out.2; omega⟩⟩, HST8, HRO2⟩
     case measure => have := HIL.out; simp [intOf]; omega
    ·rw [if_neg hi4] at hq
     cases hq
  ·have e2 : decide ((i : Int) < (l3.length : Int)) = false := decide_eq_false (by omega)
   have e2n : decide (i < l3.length) = false := decide_eq_false hi
   have hq := HQ.out
   rw [show l3.length - i = 0 by omega] at hq
   obtain rfl : (P, S) = q := Option.some.inj hq
   have x3 := kept_cell HST.out.b HBX.out.k
   have x4 := kept_cell HST.out.b HBX.out.n
   have x5 := kept_cell HST.out.b HBX.out.z
   obtain ⟨AP, cP, rfl, hcP, hCP⟩ := HST.out.readsP
   obtain ⟨AO, cO, rfl, hcO, hCO⟩ := HST.out.readsO HRO.out
   have HCP := Aside0.mk hCP
   have HCO := Aside0.mk hCO
   have HKP := Aside0.mk hcP
   have HKO := Aside0.mk hcO
   dsimp only at HD HE
   have HGL : Aside0 (g6 < W.heap.size ∧ g7 < W.heap.size) := ⟨by obtain ⟨_, h1⟩ := HBX.out.d; obtain ⟨_, h2⟩ := HBX.out.o; exact ⟨(Array.getElem?_eq_some_iff.1 h1).1, (Array.getElem?_eq_some_iff.1 h2).1⟩⟩
   clear hq HQ hi hcP hCP hcO hCO
   cases d2 with
   | false =>
    have hr : r = none := by rw [← HRES.out]; exact if_neg (by intro h_; exact absurd h_.1 (by decide))
    subst hr
    clear HRES
    go_wp2_with fail
    (with_reducible refine (impl_Decode.calls k a0 a1 a2 AP cP P AO cO S d1 _ _ HCP.out HKP.out HCO.out HKO.out HD.out).mono ?_)
    rintro e w6 ⟨v6, rfl, ho6, hb6⟩
    have HB6 := Aside0.mk (below_step HST.out.b hb6)
    have y3 := kept_cell HB6.out HBX.out.k
    have y4 := kept_cell HB6.out HBX.out.n
    obtain ⟨Av, cv_, rfl⟩ := Kd.R_slice ho6
    have HO6 := Aside0.mk ho6
    have HP6 := Aside0.mk (Kd.C_below HCP.out hb6)
    have HS6 := Aside0.mk (Kd.C_below HCO.out hb6)
    clear hb6 ho6
    go_wp2_with fail
    (with_reducible refine (impl_Recheck.calls k a0 a1 Av cv_ d1 AP cP P AO cO S s1 _ _ (Kd.R_reads' HO6.out).2.2 (Kd.R_reads' HO6.out).2.1 HP6.out HKP.out HS6.out HKO.out HE.out).mono ?_)
    rintro e w7 ⟨rfl, hb7⟩
    have HB7 := Aside0.mk (below_step HB6.out hb7)
    have HO7 := Aside0.mk (Kd.R_below HO6.out hb7)
    clear hb7
    go_wp2
    go_ret
    first | exact .inl ⟨rfl, rfl, HB7.out⟩ | exact ⟨rfl, HB7.out⟩
   | true =>
    cases s2 with
    | false =>
     have hr : r = none := by rw [← HRES.out]; exact if_neg (by intro h_; exact absurd h_.2.1 (by decide))
     subst hr
     clear HRES
     go_wp2_with fail
     (with_reducible refine (impl_Decode.calls k a0 a1 a2 AP cP P AO cO S d1 _ _ HCP.out HKP.out HCO.out HKO.out HD.out).mono ?_)
     rintro e w6 ⟨v6, rfl, ho6, hb6⟩
     have HB6 := Aside0.mk (below_step HST.out.b hb6)
     have y3 := kept_cell HB6.out HBX.out.k
     have y4 := kept_cell HB6.out HBX.out.n
     obtain ⟨Av, cv_, rfl⟩ := Kd.R_slice ho6
     have HO6 := Aside0.mk ho6
     have HP6 := Aside0.mk (Kd.C_below HCP.out hb6)
     have HS6 := Aside0.mk (Kd.C_below HCO.out hb6)
     clear hb6 ho6
     go_wp2_with fail
     (with_reducible refine (impl_Recheck.calls k a0 a1 Av cv_ d1 AP cP P AO cO S s1 _ _ (Kd.R_reads' HO6.out).2.2 (Kd.R_reads' HO6.out).2.1 HP6.out HKP.out HS6.out HKO.out HE.out).mono ?_)
     rintro e w7 ⟨rfl, hb7⟩
     have HB7 := Aside0.mk (below_step HB6.out hb7)
     have HO7 := Aside0.mk (Kd.R_below HO6.out hb7)
     clear hb7
     go_wp2
     go_ret
     first | exact .inl ⟨rfl, rfl, HB7.out⟩ | exact ⟨rfl, HB7.out⟩
    | true =>
     by_cases hs : 0 ≤ s1
     ·have b1 : decide (0 ≤ s1) = true := decide_eq_true hs
      have hr : r = none := by rw [← HRES.out]; exact if_neg (by intro h_; have := h_.2.2; omega)
      subst hr
      clear HRES
      go_wp2_with fail
      (with_reducible refine (impl_Decode.calls k a0 a1 a2 AP cP P AO cO S d1 _ _ HCP.out HKP.out HCO.out HKO.out HD.out).mono ?_)
      rintro e w6 ⟨v6, rfl, ho6, hb6⟩
      have HB6 := Aside0.mk (below_step HST.out.b hb6)
      have y3 := kept_cell HB6.out HBX.out.k
      have y4 := kept_cell HB6.out HBX.out.n
      obtain ⟨Av, cv_, rfl⟩ := Kd.R_slice ho6
      have HO6 := Aside0.mk ho6
      have HP6 := Aside0.mk (Kd.C_below HCP.out hb6)
      have HS6 := Aside0.mk (Kd.C_below HCO.out hb6)
      clear hb6 ho6
      go_wp2_with fail
      (with_reducible refine (impl_Recheck.calls k a0 a1 Av cv_ d1 AP cP P AO cO S s1 _ _ (Kd.R_reads' HO6.out).2.2 (Kd.R_reads' HO6.out).2.1 HP6.out HKP.out HS6.out HKO.out HE.out).mono ?_)
      rintro e w7 ⟨rfl, hb7⟩
      have HB7 := Aside0.mk (below_step HB6.out hb7)
      have HO7 := Aside0.mk (Kd.R_below HO6.out hb7)
      clear hb7
      go_wp2
      go_ret
      first | exact .inl ⟨rfl, rfl, HB7.out⟩ | exact ⟨rfl, HB7.out⟩
     ·have b1 : decide (0 ≤ s1) = false := decide_eq_false hs
      have hr : r = some d1 := by rw [← HRES.out]; exact if_pos ⟨rfl, rfl, by omega⟩
      subst hr
      clear HRES hs
      go_wp2_with fail
      (with_reducible refine (impl_Decode.calls k a0 a1 a2 AP cP P AO cO S d1 _ _ HCP.out HKP.out HCO.out HKO.out HD.out).mono ?_)
      rintro e w6 ⟨v6, rfl, ho6, hb6⟩
      have HB6 := Aside0.mk (below_step HST.out.b hb6)
      have y3 := kept_cell HB6.out HBX.out.k
      have y4 := kept_cell HB6.out HBX.out.n
      obtain ⟨Av, cv_, rfl⟩ := Kd.R_slice ho6
      have HO6 := Aside0.mk ho6
      have HP6 := Aside0.mk (Kd.C_below HCP.out hb6)
      have HS6 := Aside0.mk (Kd.C_below HCO.out hb6)
      clear hb6 ho6
      go_wp2_with fail
      (with_reducible refine (impl_Recheck.calls k a0 a1 Av cv_ d1 AP cP P AO cO S s1 _ _ (Kd.R_reads' HO6.out).2.2 (Kd.R_reads' HO6.out).2.1 HP6.out HKP.out HS6.out HKO.out HE.out).mono ?_)
      rintro e w7 ⟨rfl, hb7⟩
      have HB7 := Aside0.mk (below_step HB6.out hb7)
      have HO7 := Aside0.mk (Kd.R_below HO6.out hb7)
      clear hb7
      go_wp2_with fail
      (with_reducible refine (impl_cloneI.calls A c ls ls _ (Kd.C_below HR.out HB7.out) HC.out (by unfold impl_cloneI.f; rw [if_pos (by have := HLS.out; omega)])).mono ?_)
      rintro e w8 ⟨v8, rfl, ho8, hb8⟩
      have HB8 := Aside0.mk (below_step HB7.out hb8)
      obtain ⟨A8, c8, rfl⟩ := Kd.R_slice ho8
      have HO8 := Aside0.mk ho8
      have HO9 := Aside0.mk (Kd.R_below HO7.out hb8)
      have HZ := Aside0.mk hb8
      obtain ⟨vd0, hd0⟩ := (HBX.out.below HB8.out).d
      obtain ⟨vo0, ho0⟩ := (HBX.out.below HB8.out).o
      have hne : g7 ≠ g6 := (fun e_ => by rw [e_, hd0] at ho0; injection ho0 with ho0; injection ho0 with _ ho0; exact absurd ho0 (by decide))
      have x6 := Mat.cell_of (j := 0) hd0 rfl
      have f6 := Mat.free_of (j := 0) hd0
      have ho1 := (Below.heap_setCell w8 ⟨g6, 0, none⟩ (.slice Av d1.length cv_) g7 hne).trans ho0
      have x7 := Mat.cell_of (j := 0) ho1 rfl
      have f7 := Mat.free_of (j := 0) ho1
      have HD0 := Aside0.mk hd0
      have HO1 := Aside0.mk ho1
      have HNE := Aside0.mk hne
      clear hb8 ho8 hd0 ho0 ho1 hne
      go_wp2
      go_ret
      refine .inr ⟨d1, rfl, rfl, ?_⟩
      have hsz : W.heap.size ≤ wr.heap.size := HST.out.b.size
      have hsz7 : W.heap.size ≤ w7.heap.size := HB7.out.size
      have hB8 := below_step HBB.out HB8.out
      have hBs : B.heap.size ≤ W.heap.size := HBB.out.size
      refine ⟨(hB8.setCell (p := ⟨g6, 0, none⟩) HG.out.1 _).setCell (p := ⟨g7, 0, none⟩) HG.out.2 _, _, _, (Below.heap_setCell _ ⟨g7, 0, none⟩ _ g6 (fun e_ => HNE.out e_.symm)).trans (Mat.heap_put HD0.out), Mat.heap_put HO1.out, ?_, ?_⟩
      ·exact Kd.R_lower (R_past (R_past HO9.out (by have := HGL.out.1; omega) _) (by have := HGL.out.2; omega) _) (by omega)
      ·exact Kd.R_lower (R_past (R_past HO8.out (by have := HGL.out.1; omega) _) (by have := HGL.out.2; omega) _) (by omega)

theorem out_boxes (w : World) (a0 a1 a2 : Int) (A3 : Option Addr) (n3 c3 : Nat) (A4 : Option Addr) (n4 c4 : Nat) (w5 : World)
  (hw5 : w5 = ((((w.alloc (.cells #[.int .i64 a0] 3)).alloc (.cells #[.int .i64 a1] 3)).alloc (.cells #[.int .i64 a2] 3)).alloc (.cells #[.slice A3 n3 c3] 47)).alloc (.cells #[.slice A4 n4 c4] 22)) :
  w5.cell? ⟨w.heap.size, 0, none⟩ = some (.int .i64 a0) ∧ w5.cell? ⟨w.heap.size + 1, 0, none⟩ = some (.int .i64 a1) ∧ w5.cell? ⟨w.heap.size + 1 + 1, 0, none⟩ = some (.int .i64 a2) ∧ w5.cell? ⟨w.heap.size + 1 + 1 + 1, 0, none⟩ = some (.slice A3 n3 c3) ∧ w5.cell? ⟨w.heap.size + 1 + 1 + 1 + 1, 0, none⟩ = some (.slice A4 n4 c4) ∧ Below w.heap.size w w5 := by
 have h1 : w5.heap[w.heap.size]? = some (Obj.cells #[.int .i64 a0] 3 (0, 0)) := by
  rw [hw5]
  simp only [alloc_at, World.size_alloc]
  rw [if_neg (by omega), if_neg (by omega), if_neg (by omega), if_neg (by omega), if_pos trivial]
 have h2 : w5.heap[w.heap.size + 1]? = some (Obj.cells #[.int .i64 a1] 3 (0, 0)) := by
  rw [hw5]
  simp only [alloc_at, World.size_alloc]
  rw [if_neg (by omega), if_neg (by omega), if_neg (by omega), if_pos trivial]
 have h3 : w5.heap[w.heap.size + 1 + 1]? = some (Obj.cells #[.int .i64 a2] 3 (0, 0)) := by
  rw [hw5]
  simp only [alloc_at, World.size_alloc]
  rw [if_neg (by omega), if_neg (by omega), if_pos trivial]
 have h4 : w5.heap[w.heap.size + 1 + 1 + 1]? = some (Obj.cells #[.slice A3 n3 c3] 47 (0, 0)) := by
  rw [hw5]
  simp only [alloc_at, World.size_alloc]
  rw [if_neg (by omega), if_pos trivial]
 have h5 : w5.heap[w.heap.size + 1 + 1 + 1 + 1]? = some (Obj.cells #[.slice A4 n4 c4] 22 (0, 0)) := by
  rw [hw5]
  simp only [alloc_at, World.size_alloc]
  rw [if_pos trivial]
 exact ⟨Mat.cell_of h1 rfl, Mat.cell_of h2 rfl, Mat.cell_of h3 rfl, Mat.cell_of h4 rfl, Mat.cell_of h5 rfl, by rw [hw5]; exact below_alloc (below_alloc (below_alloc (below_alloc (below_alloc (Below.refl _ _) _) _) _) _) _⟩
theorem out_boxes2 (w7 w8 : World) (hw8 : w8 = (w7.alloc (.cells #[.slice none 0 0] 24)).alloc (.cells #[.slice none 0 0] 47)) :
  w8.cell? ⟨w7.heap.size, 0, none⟩ = some (.slice none 0 0) ∧ w8.frozen? ⟨w7.heap.size, 0, none⟩ = false ∧ w8.cell? ⟨w7.heap.size + 1, 0, none⟩ = some (.slice none 0 0) ∧ w8.frozen? ⟨w7.heap.size + 1, 0, none⟩ = false ∧
  Below w7.heap.size w7 w8 ∧ (∃ v, w8.heap[w7.heap.size]? = some (Obj.cells #[v] 24 (0, 0))) ∧ ∃ v, w8.heap[w7.heap.size + 1]? = some (Obj.cells #[v] 47 (0, 0)) := by
 have h1 : w8.heap[w7.heap.size]? = some (Obj.cells #[.slice none 0 0] 24 (0, 0)) := by
  rw [hw8]
  simp only [alloc_at, World.size_alloc]
  rw [if_neg (by omega), if_pos trivial]
 have h2 : w8.heap[w7.heap.size + 1]? = some (Obj.cells #[.slice none 0 0] 47 (0, 0)) := by
  rw [hw8]
  simp only [alloc_at, World.size_alloc]
  rw [if_pos trivial]
 exact ⟨Mat.cell_of h1 rfl, Mat.free_of h1, Mat.cell_of h2 rfl, Mat.free_of h2, by rw [hw8]; exact below_alloc (below_alloc (Below.refl _ _) _) _, ⟨_, h1⟩, ⟨_, h2⟩⟩
/-- So many liars, and one more each time, till the others agree. -/
def loopF (T : List Int → Option (Option (List Int))) (bound : Nat) : Nat → Nat → Option (Option (List Int × List Int))
 | 0, _ => some none
 | c + 1, m => (firstF T (combos bound m 0)).bind fun r => match r with
  | some p => some (some p)
  | none => loopF T bound c (m + 1)
def impl_Outvote.f (k : Nat) (a0 : Int) (a1 : Int) (a2 : Int) (l3 : List Int) (l4 : List (List Int)) (a5 : Int) : Option (List Int × List Int × Bool) :=
 (impl_shardsOk.f k a0 a1 a2 l3 l4).bind fun t => if t = true then ((impl_in.f a5 0 3).bind fun u => if u = true then (if l3.length ≤ 900 ∧ 0 ≤ a5 ∧ a5 ≤ 3 then (loopF (tryF k a0 a1 a2 l3 l4) l3.length (min a5.toNat l3.length + 1) 0).bind (fun r => match r with
  | some p => some (p.1, p.2, true)
  | none => some ([], [], false)) else none) else some ([], [], false)) else some ([], [], false)
def outv.T9 : Bool × List (List Nat × List Nat) := (true, [([], []), ([], []), ([0, 0], [0]), ([1, 2, 0, 1, 2], [1]), ([3, 0, 1, 2, 3], [])])
def outv.B9 : List Nat := [0, 0, 1, 7, 15]
theorem outv.tab9 : rtab .any (opsOf Try.f43 9) = outv.T9 := by kernel_rfl
theorem outv.bits9 : waitsOk outv.T9.2 outv.B9 = true := by kernel_rfl
set_option maxHeartbeats 8000000 in
set_option maxRecDepth 100000 in
theorem impl_Outvote.calls (k : Nat) (a0 : Int) (a1 : Int) (a2 : Int) (A3 : Option Addr) (c3 : Nat) (l3 : List Int) (A4 : Option Addr) (c4 : Nat) (l4 : List (List Int)) (a5 : Int) (r1 : List Int) (r2 : List Int) (r3 : Bool) (w : World) (hr3 : Kd.C (Kd.int .i64) w A3 l3.length l3) (hc3 : l3.length ≤ c3) (hr4 : Kd.C (Kd.slice 5 (Kd.int .u8)) w A4 l4.length l4) (hc4 : l4.length ≤ c4) (h : impl_Outvote.f k a0 a1 a2 l3 l4 a5 = some (r1, r2, r3)) :
 Calls Try.prog 43 #[.int .i64 a0, .int .i64 a1, .int .i64 a2, .slice A3 l3.length c3, .slice A4 l4.length c4, .int .i64 a5] w fun e w' => ∃ (v0_ v1_ : Value), e = .returned (.tuple #[v0_, v1_, .bool r3]) ∧ Kd.R (Kd.int .u8) 5 w' w.heap.size (fun _ => True) v0_ r1 ∧ Kd.R (Kd.int .i64) 3 w' w.heap.size (fun _ => True) v1_ r2 ∧ Below w.heap.size w w' := by
 obtain ⟨w5, hw5⟩ : ∃ w5, w5 = ((((w.alloc (.cells #[.int .i64 a0] 3)).alloc (.cells #[.int .i64 a1] 3)).alloc (.cells #[.int .i64 a2] 3)).alloc (.cells #[.slice A3 l3.length c3] 47)).alloc (.cells #[.slice A4 l4.length c4] 22) := ⟨_, rfl⟩
 obtain ⟨x1, x2, x3, x4, x5, hb5⟩ := out_boxes w a0 a1 a2 A3 l3.length c3 A4 l4.length c4 w5 hw5
 have HR3 := Aside0.mk (Kd.C_below hr3 hb5)
 have HR4 := Aside0.mk (Kd.C_below hr4 hb5)
 have HC3 := Aside0.mk hc3
 have HC4 := Aside0.mk hc4
 have HB5 := Aside0.mk hb5
 have HW5 := Aside0.mk hw5
 unfold impl_Outvote.f at h
 obtain ⟨t, ht, h⟩ := Option.bind_eq_some_iff.1 h
 have HT := Aside0.mk ht
 clear hr3 hr4 hc3 hc4 hb5 hw5 ht
 by_cases c5 : t = true
 ·subst c5
  rw [if_pos rfl] at h
  obtain ⟨u, hu, h⟩ := Option.bind_eq_some_iff.1 h
  have HU := Aside0.mk hu
  clear hu
  by_cases c6 : u = true
  ·subst c6
   rw [if_pos rfl] at h
   by_cases c7 : l3.length ≤ 900 ∧ 0 ≤ a5 ∧ a5 ≤ 3
   ·rw [if_pos c7] at h
    obtain ⟨q, hq, h⟩ := Option.bind_eq_some_iff.1 h
    have HQ := Aside0.mk hq
    have HF := Aside0.mk h
    obtain ⟨⟨hl, ha0, ha3⟩⟩ := Aside0.mk c7
    have HL := Aside0.mk hl
    have HA := Aside0.mk (⟨ha0, ha3⟩ : 0 ≤ a5 ∧ a5 ≤ 3)
    clear hq h c7 hl ha0 ha3
    go_enter Try.func43, Try.ntmps43
    go_upto_region 1 with (fail)
    rw [← HW5.out]
    clear HW5
    go_wp2_with fail
    refine (impl_shardsOk.calls k a0 a1 a2 A3 c3 l3 A4 c4 l4 true _ HR3.out HC3.out HR4.out HC4.out HT.out).mono ?_
    rintro e w6 ⟨rfl, hb6⟩
    have HB6 := Aside0.mk hb6
    clear hb6
    go_wp2_with fail
    refine (impl_in.calls a5 0 3 true _ HU.out).mono ?_
    rintro e w' ⟨rfl, ⟨nd, rfl⟩⟩
    have HB7 := Aside0.mk (pw_below_drewN HB6.out nd)
    clear HB6
    generalize w6.drewN nd = w7 at HB7 ⊢
    obtain ⟨w8, hw8⟩ : ∃ w8, w8 = (w7.alloc (.cells #[.slice none 0 0] 24)).alloc (.cells #[.slice none 0 0] 47) := ⟨_, rfl⟩
    obtain ⟨z1, z2, z3, z4, hb8, hd8, ho8⟩ := out_boxes2 w7 w8 hw8
    have HB8 := Aside0.mk (below_step HB7.out hb8)
    have HBW := Aside0.mk (below_step HB5.out HB8.out)
    have HBX : Aside0 (Bxs w8 (w.heap.size + 1 + 1 + 1) (w.heap.size + 1 + 1 + 1 + 1) w.heap.size (w.heap.size + 1) (w.heap.size + 1 + 1) w7.heap.size (w7.heap.size + 1) A3 l3.length c3 A4 l4.length c4 a0 a1 a2) := ⟨kept_cell HB8.out x4, kept_cell HB8.out x5, kept_cell HB8.out x1, kept_cell HB8.out x2, kept_cell HB8.out x3, hd8, ho8⟩
    rw [hw8] at z1 z2 z3 z4
    have HW8 := Aside0.mk hw8
    clear hw8 hb8 hd8 ho8
    go_upto_region 4 with (fail)
    rw [← HW8.out]
    clear z1 z2 z3 z4 HW8
    replace x4 := HBX.out.ps
    obtain ⟨m5, hm5⟩ : ∃ m5 : Nat, a5 = (m5 : Int) := ⟨a5.toNat, by have := HA.out.1; omega⟩
    obtain ⟨cn, hcn⟩ : ∃ cn : Nat, cn = min m5 l3.length + 1 := ⟨_, rfl⟩
    subst hm5
    have hq := HQ.out
    rw [Int.toNat_natCast, ← hcn] at hq
    have HQ0 := Aside0.mk hq
    have HCN := Aside0.mk hcn
    have HG6 : Aside0 (w.heap.size ≤ w7.heap.size ∧ w5.heap.size ≤ w7.heap.size) := ⟨Nat.le_trans HB5.out.size HB7.out.size, HB7.out.size⟩
    have HR3' := Aside0.mk (Kd.C_below HR3.out HB8.out)
    have HR4' := Aside0.mk (Kd.C_below HR4.out HB8.out)
    clear hq hcn HQ x1 x2 x3 x5
    go_wp2
    all_goals
     first
     | rw [show wrap64 ((l3.length : Int) + 1) = (cn : Int) by unfold wrap64; have := HCN.out; have := HL.out; omega]
     | rw [show wrap64 ((m5 : Int) + 1) = (cn : Int) by unfold wrap64; have := HCN.out; have := HL.out; omega]
     go_loopw [37] (fun v37 wr => ∃ m : Nat, v37 = .int .i64 (m : Int) ∧ Aside0 (m ≤ cn) ∧ Aside0 (loopF (tryF k a0 a1 a2 l3 l4) l3.length (cn - m) m = some q) ∧ Aside0 (Below w8.heap.size w8 wr)) (fun v37 _ => cn - (intOf v37).toNat)
     case atStart => exact ⟨0, rfl, ⟨Nat.zero_le _⟩, HQ0, ⟨Below.refl _ _⟩⟩
     case round =>
      clear HQ0
      obtain ⟨m, rfl, HM, HQ, HB⟩ := hrel
      replace x4 := kept_cell HB.out HBX.out.ps
      have p0 : 0 ≤ (m : Int) := Int.natCast_nonneg m
      have p1 : (m : Int) ≤ 901 := by have := HM.out; have := HCN.out; have := HL.out; omega
      by_cases hm : m < cn
      ·have e2 : decide ((m : Int) < (cn : Int)) = true := decide_eq_true (by omega)
       have e2n : decide (m < cn) = true := decide_eq_true hm
       have hq := HQ.out
       rw [show cn - m = (cn - (m + 1)) + 1 by omega] at hq
       unfold loopF at hq
       obtain ⟨r, hr, hq⟩ := Option.bind_eq_some_iff.1 hq
       have HR := Aside0.mk hr
       have HQ2 := Aside0.mk hq
       have HML := Aside0.mk hm
       clear hr hq hm HQ
       go_wp2_with fail
       refine (choices_calls m l3.length _ _ _ _ _ _ _ (tryF k a0 a1 a2 l3 l4) (DoneW w w7.heap.size (w7.heap.size + 1)) HL.out (by have := HML.out; have := HCN.out; have := HL.out; omega) wr (fun W1 hb A c ls hr hc hls r ht => try_calls k a0 a1 a2 A3 c3 l3 A4 c4 l4 w W1 _ _ _ _ _ _ _ (HBX.out.below (below_step HB.out hb)) (below_step HBW.out (below_step HB.out hb)) HG6.out.1 (Nat.le_succ_of_le HG6.out.1) (Kd.C_below HR3'.out (below_step HB.out hb)) (Kd.C_below HR4'.out (below_step HB.out hb)) HL.out A c ls hr hc hls r ht) r HR.out).mono ?_
       rintro e w' (⟨rfl, rfl, hb⟩ | ⟨f, cc, rfl, rfl, hdn⟩)
       ·replace HB := Aside0.mk (below_step HB.out hb)
        have HQ3 : Aside0 (loopF (tryF k a0 a1 a2 l3 l4) l3.length (cn - (m + 1)) (m + 1) = some q) := ⟨HQ2.out⟩
        clear hb HQ2 HR x4
        go_wp2
        go_roundw
        case rel => exact ⟨m + 1, by go_num, ⟨HML.out⟩, HQ3, HB⟩
        case measure => have := HML.out; simp [intOf]; omega
       ·have hq : some (f, cc) = q := Option.some.inj HQ2.out
        subst hq
        have hf := HF.out
        simp only [Option.some.injEq, Prod.mk.injEq] at hf
        obtain ⟨rfl, rfl, rfl⟩ := hf
        obtain ⟨hbB, vd, vo, hvd, hvo, hRd, hRo⟩ := hdn
        have HBB := Aside0.mk hbB
        have HRD := Aside0.mk hRd
        have HRO := Aside0.mk hRo
        have y1 := Mat.cell_of (j := 0) hvd rfl
        have y2 := Mat.cell_of (j := 0) hvo rfl
        clear hbB hvd hvo hRd hRo HQ2 HR HF x4
        go_wp2
        refine start_ (n := 5) (S := fun w' => w'.cell? ⟨w7.heap.size, 0, none⟩ = some vd ∧ w'.cell? ⟨w7.heap.size + 1, 0, none⟩ = some vo) (ds := []) #[false, false, false, false, false] (by kernel_rfl) rfl rfl ⟨y1, y2⟩ (fun hHeld => ?_); refine with_tabW outv.tab9 outv.bits9 (fun HT_ HW_ => ?_)
        refine tz (i := 0) (N := some 45) #[true, false, false, false, false] rfl rfl HT_.out HW_.out hHeld (Or.inl ⟨by rfl, by rintro w' ⟨s0, s1⟩; go_simp; with_reducible rfl⟩) ?_
        refine tz (i := 1) (N := some 46) #[true, true, false, false, false] rfl rfl HT_.out HW_.out hHeld (Or.inl ⟨by rfl, by rintro w' ⟨s0, s1⟩; go_simp; with_reducible rfl⟩) ?_
        refine pz (i := 2) (N := some 12) #[true, true, true, false, false] rfl rfl HT_.out ?_
        refine pz (i := 3) (N := some 13) #[true, true, true, true, false] rfl rfl HT_.out ?_
        refine pz (i := 4) (N := some 14) #[true, true, true, true, true] rfl rfl HT_.out ?_
        refine done_ (done_of HT_.out (by kernel_rfl)) ?_
        go_wp2
        go_ret3
        exact ⟨vd, vo, by first | rfl | (simp [errW_none, errW_some] <;> rfl), mv HRD.out, mv HRO.out, below_drew1 HBB.out⟩
      ·have e2 : decide ((m : Int) < (cn : Int)) = false := decide_eq_false (by omega)
       have e2n : decide (m < cn) = false := decide_eq_false hm
       have hq := HQ.out
       rw [show cn - m = 0 by omega] at hq
       obtain rfl : none = q := Option.some.inj hq
       have hf := HF.out
       simp only [Option.some.injEq, Prod.mk.injEq] at hf
       obtain ⟨rfl, rfl, rfl⟩ := hf
       have HB9 := Aside0.mk (below_step HBW.out HB.out)
       clear hq hm HQ HF x4
       go_wp2
       go_ret3
       exact ⟨_, _, by first | rfl | (simp [errW_none, errW_some] <;> rfl), Kd.R_nil _ _ _ _ _, Kd.R_nil _ _ _ _ _, HB9.out⟩
   ·rw [if_neg c7] at h
    cases h
  ·replace c6 := Bool.eq_false_iff.mpr c6
   subst c6
   rw [if_neg (show ¬ (false = true) by decide)] at h
   simp only [Option.some.injEq, Prod.mk.injEq] at h
   obtain ⟨rfl, rfl, rfl⟩ := h
   go_enter Try.func43, Try.ntmps43
   go_upto_region 1 with (fail)
   rw [← HW5.out]
   clear HW5
   go_wp2_with fail
   refine (impl_shardsOk.calls k a0 a1 a2 A3 c3 l3 A4 c4 l4 true _ HR3.out HC3.out HR4.out HC4.out HT.out).mono ?_
   rintro e w6 ⟨rfl, hb6⟩
   have HB := Aside0.mk (below_step HB5.out hb6)
   clear hb6
   go_wp2_with fail
   refine (impl_in.calls a5 0 3 false _ HU.out).mono ?_
   rintro e w' ⟨rfl, ⟨nd, rfl⟩⟩
   go_wp2
   go_ret3
   exact ⟨_, _, by first | rfl | (simp [errW_none, errW_some] <;> rfl), Kd.R_nil _ _ _ _ _, Kd.R_nil _ _ _ _ _, bt⟩
 ·replace c5 := Bool.eq_false_iff.mpr c5
  subst c5
  rw [if_neg (show ¬ (false = true) by decide)] at h
  simp only [Option.some.injEq, Prod.mk.injEq] at h
  obtain ⟨rfl, rfl, rfl⟩ := h
  go_enter Try.func43, Try.ntmps43
  go_upto_region 1 with (fail)
  rw [← HW5.out]
  clear HW5
  go_wp2_with fail
  refine (impl_shardsOk.calls k a0 a1 a2 A3 c3 l3 A4 c4 l4 false _ HR3.out HC3.out HR4.out HC4.out HT.out).mono ?_
  rintro e w6 ⟨rfl, hb6⟩
  have HB := Aside0.mk (below_step HB5.out hb6)
  clear hb6
  go_wp2
  go_ret3
  exact ⟨_, _, by first | rfl | (simp [errW_none, errW_some] <;> rfl), Kd.R_nil _ _ _ _ _, Kd.R_nil _ _ _ _ _, bt⟩

end Go.Proofs.Ythaoloacbbohlaa.PFnOutvoted
