-- Written by a program of this workplace (wip/mp.py) out of the translation.
import Derived.Test.YtaacidhgnappdaaPFnProvenx0
import Derived.Test.YtaacidhgnappdaaPFnProvenx1
import Derived.Test.YtaacidhgnappdaaPFnProvenx5
namespace Go.Proofs.Ytaacidhgnappdaa.PFnProven
open Go.RowKit Go.Proofs.YtaacidhgnappdaaW.PrintWords Go.Proofs.YtaacidhgnappdaaW.PrintLast Go.Proofs.YtaacidhgnappdaaW.PrintMore Go.Proofs.Ytaacidhgnappdaa.Slim
attribute [local go_sem] max2_int min2_int max_two min_two max_three min_three max_four min_four   -- for this text's walks alone
set_option linter.unusedVariables false
set_option linter.unusedSimpArgs false

/-! ### impl_Path: function 23 -/
def impl_Path.f (k : Nat) (a0 : Int) (l1 : List (List Int)) (a2 : Int) : Option (List Int × Bool) := (impl_leavesOk.f a0 l1).bind fun t327 => (if t327 = true then ((impl_in.f a2 0 (wrap64 ((l1.length : Int) - 1))).bind fun t328 => (if t328 = true then ((impl_path.f k a0 l1 a2).bind fun t329 => (some (t329, true))) else (some (([] : List Int), false)))) else (some (([] : List Int), false)))
set_option maxHeartbeats 8000000 in
set_option maxRecDepth 100000 in
theorem impl_Path.calls (k : Nat) (a0 : Int) (A1 : Option Addr) (c1 : Nat) (l1 : List (List Int)) (a2 : Int) (r1 : List Int) (r2 : Bool) (w : World) (hr1 : Kd.C (Kd.slice 5 (Kd.int .u8)) w A1 l1.length l1) (hc1 : l1.length ≤ c1) (h : impl_Path.f k a0 l1 a2 = some (r1, r2)) :
  Calls Try.prog 23 #[.int .i64 a0, .slice A1 l1.length c1, .int .i64 a2] w fun e w' => ∃ v0_ : Value, e = .returned (.tuple #[v0_, .bool r2]) ∧ Kd.R (Kd.int .i64) 3 w' w.heap.size (fun _ => True) v0_ r1 ∧ Below w.heap.size w w' := by
 have HR1 := Aside0.mk hr1
 have HC1 := Aside0.mk hc1
 clear hr1 hc1
 have HB := Aside0.mk (Below.refl w.heap.size w)
 have H : ((impl_leavesOk.f a0 l1).bind fun t327 => (if t327 = true then ((impl_in.f a2 0 (wrap64 ((l1.length : Int) - 1))).bind fun t328 => (if t328 = true then ((impl_path.f k a0 l1 a2).bind fun t329 => (some (t329, true))) else (some (([] : List Int), false)))) else (some (([] : List Int), false)))) = some (r1, r2) := h
 clear h
 replace H := Option.bind_eq_some_iff.mp H
 obtain ⟨t327, A40, H⟩ := H
 (try dsimp -simprocs only at H)
 have A4 := Aside0.mk A40
 clear A40
 by_cases c5 : t327 = true
 ·subst c5
  rw [if_pos rfl] at H
  replace H := Option.bind_eq_some_iff.mp H
  obtain ⟨t328, A60, H⟩ := H
  (try dsimp -simprocs only at H)
  have A6 := Aside0.mk A60
  clear A60
  by_cases c7 : t328 = true
  ·subst c7
   rw [if_pos rfl] at H
   replace H := Option.bind_eq_some_iff.mp H
   obtain ⟨t329, A80, H⟩ := H
   (try dsimp -simprocs only at H)
   have A8 := Aside0.mk A80
   clear A80
   simp only [Option.some.injEq, Prod.mk.injEq] at H
   obtain ⟨rfl, rfl⟩ := H
   go_enter Try.func23, Try.ntmps23
   go_wp2_with (first | ((with_reducible refine gate_callee (f := 63) rfl ?_); refine goesL_ (some 10) rfl rfl Try.func63 (by kernel_rfl) rfl #[.int .i64 a0, .slice A1 l1.length c1] rfl av ?_; (with_reducible refine (impl_leavesOk.calls a0 _ _ l1 true _ ?side1 ?side2 A4.out).mono ?_); (case side1 => exact cv (HR1.out)); (case side2 => exact HC1.out); rintro e w' ⟨rfl, ⟨nd, rfl⟩⟩; refine ⟨_, rfl, ?_⟩) | (go_at_call 65; (with_reducible refine (impl_in.calls a2 0 (wrap64 ((l1.length : Int) - 1)) true _ A6.out).mono ?_); rintro e w' ⟨rfl, ⟨nd, rfl⟩⟩) | ((with_reducible refine gate_callee (f := 66) rfl ?_); refine goesL_ (some 23) rfl rfl Try.func66 (by kernel_rfl) rfl #[.int .i64 a0, .slice A1 l1.length c1, .int .i64 a2] rfl av ?_; (with_reducible refine (impl_path.calls k a0 _ _ l1 a2 t329 _ ?side1 ?side2 A8.out).mono ?_); (case side1 => exact cv (HR1.out)); (case side2 => exact HC1.out); rintro e w9 ⟨v330, rfl, ho0, hb⟩; refine ⟨_, rfl, ?_⟩; have HO331 := Aside0.mk (Kd.R_lower ho0 (below_size (bt))); replace HB := Aside0.mk (below_step (bt) hb); (try clear hb); (try clear hb2); (try clear hk); (try clear hi); (try clear ho0)))
   go_ret2
   exact ⟨_, by first | rfl | (simp [errW_none, errW_some] <;> rfl) | (simp [*, errW_none, errW_some] <;> rfl), by (with_reducible repeat (first | apply Kd.R_alloc | apply Kd.R_drewN | apply Kd.R_drew)); exact HO331.out, bt⟩
  ·replace c7 := Bool.eq_false_iff.mpr c7
   subst c7
   rw [if_neg (show ¬ (false = true) by decide)] at H
   simp only [Option.some.injEq, Prod.mk.injEq] at H
   obtain ⟨rfl, rfl⟩ := H
   go_enter Try.func23, Try.ntmps23
   go_wp2_with (first | ((with_reducible refine gate_callee (f := 63) rfl ?_); refine goesL_ (some 10) rfl rfl Try.func63 (by kernel_rfl) rfl #[.int .i64 a0, .slice A1 l1.length c1] rfl av ?_; (with_reducible refine (impl_leavesOk.calls a0 _ _ l1 true _ ?side1 ?side2 A4.out).mono ?_); (case side1 => exact cv (HR1.out)); (case side2 => exact HC1.out); rintro e w' ⟨rfl, ⟨nd, rfl⟩⟩; refine ⟨_, rfl, ?_⟩) | (go_at_call 65; (with_reducible refine (impl_in.calls a2 0 (wrap64 ((l1.length : Int) - 1)) false _ A6.out).mono ?_); rintro e w' ⟨rfl, ⟨nd, rfl⟩⟩))
   go_ret2
   exact ⟨_, by first | rfl | (simp [errW_none, errW_some] <;> rfl) | (simp [*, errW_none, errW_some] <;> rfl), by first | exact Kd.R_nil _ _ _ _ _ | exact Kd.N_nil _ _ _ _ _ | exact Kd.V_nil _ _ _ _ _ | exact Kd.Q_nil _ _ _ _ _ | exact Kd.S_nil _ _ _ _ _, bt⟩
 ·replace c5 := Bool.eq_false_iff.mpr c5
  subst c5
  rw [if_neg (show ¬ (false = true) by decide)] at H
  simp only [Option.some.injEq, Prod.mk.injEq] at H
  obtain ⟨rfl, rfl⟩ := H
  go_enter Try.func23, Try.ntmps23
  go_wp2_with (first | ((with_reducible refine gate_callee (f := 63) rfl ?_); refine goesL_ (some 10) rfl rfl Try.func63 (by kernel_rfl) rfl #[.int .i64 a0, .slice A1 l1.length c1] rfl av ?_; (with_reducible refine (impl_leavesOk.calls a0 _ _ l1 false _ ?side1 ?side2 A4.out).mono ?_); (case side1 => exact cv (HR1.out)); (case side2 => exact HC1.out); rintro e w' ⟨rfl, ⟨nd, rfl⟩⟩; refine ⟨_, rfl, ?_⟩))
  go_ret2
  exact ⟨_, by first | rfl | (simp [errW_none, errW_some] <;> rfl) | (simp [*, errW_none, errW_some] <;> rfl), by first | exact Kd.R_nil _ _ _ _ _ | exact Kd.N_nil _ _ _ _ _ | exact Kd.V_nil _ _ _ _ _ | exact Kd.Q_nil _ _ _ _ _ | exact Kd.S_nil _ _ _ _ _, bt⟩

/-! ### laws_at: function 25 -/
def laws_at.f (l0 : List Int) (a1 : Int) : Option (Int) := if a1 < (l0.length : Int) then (if 0 ≤ a1 then (some (wrap64 (rd l0 a1))) else (none)) else (some (Int.tmod (wrap64 ((wrap64 (a1 * 7)) + (l0.length : Int))) 256))
set_option maxHeartbeats 8000000 in
set_option maxRecDepth 100000 in
theorem laws_at.calls (A0 : Option Addr) (c0 : Nat) (l0 : List Int) (a1 : Int) (r : Int) (w : World) (hr0 : Kd.C (Kd.int .u8) w A0 l0.length l0) (hc0 : l0.length ≤ c0) (h : laws_at.f l0 a1 = some r) :
  Calls Try.prog 25 #[.slice A0 l0.length c0, .int .i64 a1] w fun e w' => e = .returned (.int .i64 r) ∧ Drawn0 w w' := by
 have HR0 := Aside0.mk hr0
 have HC0 := Aside0.mk hc0
 clear hr0 hc0
 have H : (if a1 < (l0.length : Int) then (if 0 ≤ a1 then (some (wrap64 (rd l0 a1))) else (none)) else (some (Int.tmod (wrap64 ((wrap64 (a1 * 7)) + (l0.length : Int))) 256))) = some r := h
 clear h
 by_cases c3 : a1 < (l0.length : Int)
 ·rw [if_pos c3] at H
  have c3b0 : decide (a1 < (l0.length : Int)) = true := decide_eq_true c3
  clear c3
  by_cases c4 : 0 ≤ a1
  ·rw [if_pos c4] at H
   have c4b0 : decide (0 ≤ a1) = true := decide_eq_true c4
   clear c4
   obtain rfl := Option.some.inj H
   have p332 : 0 ≤ (a1 : Int) := of_decide_eq_true asm
   have q332 : a1 < (l0.length : Int) := of_decide_eq_true asm
   obtain ⟨ad332, e332, hx332_0⟩ := Kd.at_int HR0.out a1 p332 q332
   cases e332
   replace p332 := eq_true p332
   replace q332 := eq_true q332
   go_enter Try.func25, Try.ntmps25
   go_wp2
   go_ret
   exact ⟨by first | rfl | (simp; done) | (simp [*]; done), by repeat (first | exact Drawn0.refl _ | apply Drawn0.step)⟩
  ·rw [if_neg c4] at H
   exact absurd H (by simp)
 ·rw [if_neg c3] at H
  have c3b0 : decide (a1 < (l0.length : Int)) = false := decide_eq_false c3
  clear c3
  obtain rfl := Option.some.inj H
  go_enter Try.func25, Try.ntmps25
  go_wp2
  go_ret
  exact ⟨by first | rfl | (simp; done) | (simp [*]; done), by repeat (first | exact Drawn0.refl _ | apply Drawn0.step)⟩

/-! ### impl_Changed: function 26 -/
/-- Lists of bytes that lie where they lay when W was, as the elements of a row. -/
def frz (W : World) : Kd (List Int) where
 sz := 1
 E := []
 K := fun _ xs cs => ∃ A c, cs = [.slice A xs.length c] ∧ xs.length ≤ c ∧ ∀ w' : World, Below W.heap.size W w' → (Kd.int .u8).C w' A xs.length xs
 M := fun _ _ _ xs cs => ∃ A c, cs = [.slice A xs.length c] ∧ xs.length ≤ c ∧ ∀ w' : World, Below W.heap.size W w' → (Kd.int .u8).C w' A xs.length xs
 K_len := by
  rintro w x cs ⟨A, c, rfl, _⟩
  rfl
 K_one := by
  rintro w x cs ⟨A, c, rfl, _⟩ u hu
  rw [List.mem_singleton] at hu
  subst hu
  rfl
 K_below := fun _ h => h
 K_of_M := fun h => h
 M_mono := fun _ h => h
 M_bound := fun h => h
 M_move := fun _ h => h
 M_lower := fun _ h => h
theorem frz_C {W : World} {A : Option Addr} {n : Nat} {xs : List (List Int)} (h : Kd.C (Kd.slice 5 (Kd.int .u8)) W A n xs) : (frz W).C W A n xs :=
 ReadsRow.imp_ h (Below.refl _ _) (fun _ _ ⟨A, c', e, hl, hc⟩ => ⟨A, c', e, hl, fun _ hb => Kd.C_below hc hb⟩)
theorem frz_of {W w : World} {A : Option Addr} {n : Nat} {xs : List (List Int)} (h : (frz W).C w A n xs) (hb : Below W.heap.size W w) : Kd.C (Kd.slice 5 (Kd.int .u8)) w A n xs :=
 ReadsRow.imp_ h (Below.refl _ _) (fun _ _ ⟨A, c', e, hl, hc⟩ => ⟨A, c', e, hl, hc w hb⟩)
set_option maxHeartbeats 4000000 in
set_option maxRecDepth 100000 in
theorem clone_rows (W : World) (A0 : Option Addr) (c0 : Nat) (l0 : List (List Int)) (w : World) (hr0 : (frz W).C w A0 l0.length l0) (h1 : 1 ≤ l0.length) (hl : l0.length ≤ 16) :
  Calls Try.prog 69 #[.slice A0 l0.length c0] w fun e w' => ∃ v : Value, e = .returned v ∧ (frz W).R 22 w' w.heap.size (fun _ => True) v l0 ∧ Below w.heap.size w w' := by
 obtain ⟨ad, rfl, _⟩ := hr0.2.2 h1
 have HR0 := Aside0.mk hr0
 have LM := Aside0.mk hl
 have hq1 := fun W : World => Go.Lib.run_eql_slice_nil (P := Try.prog) W 30 22 (some ad) l0.length c0 0 0 Try.underlying30
 simp only [Option.isNone_some] at hq1
 clear hr0 hl h1
 have HB := Aside0.mk (Below.refl w.heap.size w)
 go_enter Try.func69, Try.ntmps69
 go_wp2_with (first | ((with_reducible refine gate_dst (N := 5) rfl ?_); refine Kd.R_lit (frz W) _ 22 ?hg (N := 5) ?hd (xs := ([] : List (List Int))) (inner := []) (ok := fun _ => True) (okp := fun _ => True) ?hr ?hp (fun _ hk => hk) trivial (Below.refl _ _) (Nat.le_refl _) (by simp) ?_; (case hd => rfl); (case hg => rfl); (case hr => first | (go_simp; done) | (go_simp; rfl)); (case hp => exact (Reps.none _ _)); intro v166 w3 ho4 hb hg_ hnew_; clear hg_ hnew_; have HO167 := Aside0.mk (Kd.R_lower ho4 (below_size (bt))); replace HB := Aside0.mk (below_step (bt) hb); clear hb ho4) | ((with_reducible refine gate_builtin (b := .append) (xs := #[.tmp 5, .tmp 6]) rfl ?_); at_builtin; refine Kd.R_append_rows (frz W) (w0 := w) w.heap.size rfl (.tmp 5) (.tmp 6) 30 22 (.slice none 0 0) 24 rfl Try.underlying30 info22 rfl (show 0 < 1 from Nat.one_pos) (by omega) v166 [] l0 _ _ _ (fun _ => True) (fun _ => False) rfl rfl ?aO ?aR (fun _ _ h => h) (fun _ h => h.elim) ?aF ?aB ?aS ?aL ?_; (case aR => exact (Kd.C_below HR0.out HB.out)); (case aB => exact HB.out); (case aF => exact (fun _ _ => trivial)); (case aO => exact HO167.out); (case aS => exact (below_size HB.out)); (case aL => have := LM.out; simp; omega); intro v169 w5 ho hb hg hat; replace HB := Aside0.mk (hb); have HO170 := Aside0.mk (ho); clear HO167; clear ho hb hg hat))
 go_ret
 exact ⟨_, rfl, HO170.out, HB.out⟩
def impl_Changed.f (k : Nat) (a0 : Int) (l1 : List (List Int)) (a2 : Int) (l3 : List Int) : Option (Int × Bool) :=
 if ((2 ≤ a0 ∧ a0 ≤ 60) ∧ 1 ≤ l1.length ∧ l1.length ≤ 16) ∧ (l1.all fun b => decide (b.length < 4000)) = true then
  (if 0 ≤ a2 ∧ a2 < (l1.length : Int) then ((impl_TreeRoot.f k a0 (l1.set a2.toNat l3)).bind fun r => some (r, decide (0 ≤ r))) else some (-1, false))
 else some (-1, false)
set_option maxHeartbeats 8000000 in
set_option maxRecDepth 100000 in
theorem impl_Changed.calls (k : Nat) (a0 : Int) (A1 : Option Addr) (c1 : Nat) (l1 : List (List Int)) (a2 : Int) (A3 : Option Addr) (c3 : Nat) (l3 : List Int) (r1 : Int) (r2 : Bool) (w : World) (hr1 : Kd.C (Kd.slice 5 (Kd.int .u8)) w A1 l1.length l1) (hc1 : l1.length ≤ c1) (hr3 : Kd.C (Kd.int .u8) w A3 l3.length l3) (hc3 : l3.length ≤ c3) (h : impl_Changed.f k a0 l1 a2 l3 = some (r1, r2)) :
  Calls Try.prog 26 #[.int .i64 a0, .slice A1 l1.length c1, .int .i64 a2, .slice A3 l3.length c3] w fun e w' => e = .returned (.tuple #[.int .i64 r1, .bool r2]) ∧ Below w.heap.size w w' := by
 have HR1 := Aside0.mk hr1
 have HC1 := Aside0.mk hc1
 have HR3 := Aside0.mk hr3
 have HC3 := Aside0.mk hc3
 have HF := Aside0.mk (frz_C hr1)
 have HB := Aside0.mk (Below.refl w.heap.size w)
 clear hr1 hc1 hr3 hc3
 unfold impl_Changed.f at h
 by_cases g : ((2 ≤ a0 ∧ a0 ≤ 60) ∧ 1 ≤ l1.length ∧ l1.length ≤ 16) ∧ (l1.all fun b => decide (b.length < 4000)) = true
 ·rw [if_pos g] at h
  have HL : Aside0 (impl_leavesOk.f a0 l1 = some true) := ⟨by unfold impl_leavesOk.f; rw [g.2, decide_eq_true g.1]; rfl⟩
  have L1 := Aside0.mk g.1.2.1
  have L2 := Aside0.mk g.1.2.2
  clear g
  have ew : wrap64 ((l1.length : Int) - 1) = (l1.length : Int) - 1 := by have := L1.out; have := L2.out; unfold wrap64; omega
  by_cases q : 0 ≤ a2 ∧ a2 < (l1.length : Int)
  ·rw [if_pos q] at h
   have HI : Aside0 (impl_in.f a2 0 (wrap64 ((l1.length : Int) - 1)) = some true) := ⟨by unfold impl_in.f; rw [ew, if_pos (show a2 ≥ 0 from q.1), decide_eq_true (by omega)]⟩
   clear ew
   have Q := Aside0.mk q
   have q1 : (0 ≤ a2) = True := eq_true q.1
   have q2 : (a2 < (l1.length : Int)) = True := eq_true q.2
   clear q
   obtain ⟨t, AT, h⟩ := Option.bind_eq_some_iff.mp h
   simp only [Option.some.injEq, Prod.mk.injEq] at h
   obtain ⟨rfl, rfl⟩ := h
   have HT := Aside0.mk AT
   clear AT
   go_enter Try.func26, Try.ntmps26
   go_wp2_with (first | ((with_reducible refine gate_callee (f := 63) rfl ?_); refine goesL_ (some 14) rfl rfl Try.func63 (by kernel_rfl) rfl #[.int .i64 a0, .slice A1 l1.length c1] rfl (by (try simp only [List.map_toArray, List.map_cons, List.map_nil]); first | done | rfl) ?_; (with_reducible refine (impl_leavesOk.calls a0 _ _ l1 true _ ?side1 ?side2 HL.out).mono ?_); (case side1 => exact cv ((Kd.C_below HR1.out HB.out))); (case side2 => exact HC1.out); rintro e w' ⟨rfl, ⟨nd, rfl⟩⟩; refine ⟨_, rfl, ?_⟩) | (go_at_call 65; (with_reducible refine (impl_in.calls a2 0 (wrap64 ((l1.length : Int) - 1)) true _ HI.out).mono ?_); rintro e w' ⟨rfl, ⟨nd, rfl⟩⟩) | ((with_reducible refine gate_callee (f := 69) rfl ?_); refine goesL_ (some 25) rfl rfl Try.func69 (by kernel_rfl) rfl #[.slice A1 l1.length c1] rfl (by (try simp only [List.map_toArray, List.map_cons, List.map_nil]); first | done | rfl) ?_; (with_reducible refine (clone_rows w _ _ l1 _ ?side1 L1.out L2.out).mono ?_); (case side1 => exact cv (HF.out)); rintro e w15 ⟨v, rfl, ho0, hb⟩; refine ⟨_, rfl, ?_⟩; have HO := Aside0.mk (Kd.R_lower ho0 (below_size (bt))); have n2_ := Aside0.mk (below_step (bt) hb); clear HB; have HB := n2_; clear n2_ hb ho0; obtain ⟨go, co, eo, gb, gl, cl⟩ := Kd.R_form HO.out L1.out; subst eo; have GB := Aside0.mk gb; clear gb gl cl; obtain ⟨ce, hcl, hM, hcc, hfr⟩ := Kd.R_elem HO.out [] a2 Q.out.1 Q.out.2; have HP := Kd.R_seg HO.out a2 Q.out.1 Q.out.2 (seg := [.slice A3 l3.length c3]) (j := 0) (x' := l3) (okp := fun _ => False) hcl hcc (show 1 ≤ 1 from by decide) (by obtain ⟨Ae, cc, rfl, _⟩ := hM; exact ⟨A3, c3, rfl, HC3.out, fun _ hb => Kd.C_below HR3.out hb⟩) (fun _ h => h.elim); obtain ⟨Ae, cc, rfl, _, _⟩ := hM; have hx0 := hcc 0 _ rfl; have hf0 := hfr 0; (try simp only [show (frz w).sz = 1 from rfl, Nat.mul_one, Nat.add_zero] at hx0); (try simp only [show (frz w).sz = 1 from rfl, Nat.mul_one, Nat.add_zero] at hf0); (try simp only [show (frz w).sz = 1 from rfl, Nat.mul_one, Nat.add_zero] at HP); clear hcl hcc hfr) | ((with_reducible refine gate_store (t := 22) (p := 29) rfl ?_); refine store_event (t := 22) (p := 29) (v := ?vo) (w1 := (w15.setCell ⟨go, (a2 : Int).toNat, none⟩ (.slice A3 l3.length c3))) ?hg ?ho ?hn ?hr ?_; (case ho => rfl); (case hg => rfl); (case hn => rfl); (case hr => first | (go_simp; done) | (go_simp; rfl)); intro w17 hw; have HO2 := Aside0.mk (by rw [hw]; exact HP.1 : (frz w).R 22 w17 w.heap.size (fun _ => True) (.slice (some ⟨go, 0, none⟩) l1.length co) (l1.set a2.toNat l3)); have n2_ := Aside0.mk ((by rw [hw]; exact below_set (HB.out) GB.out : Below w.heap.size w w17)); clear HP HO HB hw; have HB := n2_; clear n2_; have HZ := Aside0.mk (frz_of (Kd.R_reads' HO2.out).2.2 HB.out); have HN := Aside0.mk (Kd.R_reads' HO2.out).2.1; have HE := Aside0.mk (show (l1.set a2.toNat l3).length = l1.length from List.length_set ..)) | ((with_reducible refine gate_callee (f := 22) rfl ?_); refine goesL_ (some 32) rfl rfl Try.func22 (by kernel_rfl) rfl #[.int .i64 a0, .slice (some ⟨go, 0, none⟩) (l1.set a2.toNat l3).length co] rfl (by (try simp only [List.map_toArray, List.map_cons, List.map_nil]); first | done | (rw [HE.out] <;> rfl) | rfl) ?_; (with_reducible refine (impl_TreeRoot.calls k a0 _ _ (l1.set a2.toNat l3) t _ ?side1 ?side2 HT.out).mono ?_); (case side1 => exact cv (HZ.out)); (case side2 => rw [HE.out]; exact HN.out); rintro e w19 ⟨rfl, hb⟩; refine ⟨_, rfl, ?_⟩; have n2_ := Aside0.mk (below_step (bt) hb); clear HB; have HB := n2_; clear n2_ hb))
   go_ret2
   exact ⟨by first | rfl | (simp [*]; done), bt⟩
  ·rw [if_neg q] at h
   have HI : Aside0 (impl_in.f a2 0 (wrap64 ((l1.length : Int) - 1)) = some false) := ⟨by
    unfold impl_in.f
    rw [ew]
    by_cases q1 : a2 ≥ 0
    ·rw [if_pos q1, decide_eq_false (by omega)]
    ·rw [if_neg q1]⟩
   clear ew q
   simp only [Option.some.injEq, Prod.mk.injEq] at h
   obtain ⟨rfl, rfl⟩ := h
   go_enter Try.func26, Try.ntmps26
   go_wp2_with (first | ((with_reducible refine gate_callee (f := 63) rfl ?_); refine goesL_ (some 14) rfl rfl Try.func63 (by kernel_rfl) rfl #[.int .i64 a0, .slice A1 l1.length c1] rfl (by (try simp only [List.map_toArray, List.map_cons, List.map_nil]); first | done | rfl) ?_; (with_reducible refine (impl_leavesOk.calls a0 _ _ l1 true _ ?side1 ?side2 HL.out).mono ?_); (case side1 => exact cv ((Kd.C_below HR1.out HB.out))); (case side2 => exact HC1.out); rintro e w' ⟨rfl, ⟨nd, rfl⟩⟩; refine ⟨_, rfl, ?_⟩) | (go_at_call 65; (with_reducible refine (impl_in.calls a2 0 (wrap64 ((l1.length : Int) - 1)) false _ HI.out).mono ?_); rintro e w' ⟨rfl, ⟨nd, rfl⟩⟩))
   go_ret2
   exact ⟨by first | rfl | (simp [*]; done), bt⟩
 ·rw [if_neg g] at h
  have HL : Aside0 (impl_leavesOk.f a0 l1 = some false) := ⟨by
   unfold impl_leavesOk.f
   refine congrArg some ?_
   by_cases g1 : (2 ≤ a0 ∧ a0 ≤ 60) ∧ 1 ≤ l1.length ∧ l1.length ≤ 16
   ·rw [Bool.eq_false_iff.mpr (fun g2 => g ⟨g1, g2⟩), Bool.and_false]
   ·rw [decide_eq_false g1, Bool.false_and]⟩
  clear g
  simp only [Option.some.injEq, Prod.mk.injEq] at h
  obtain ⟨rfl, rfl⟩ := h
  go_enter Try.func26, Try.ntmps26
  go_wp2_with (first | ((with_reducible refine gate_callee (f := 63) rfl ?_); refine goesL_ (some 14) rfl rfl Try.func63 (by kernel_rfl) rfl #[.int .i64 a0, .slice A1 l1.length c1] rfl (by (try simp only [List.map_toArray, List.map_cons, List.map_nil]); first | done | rfl) ?_; (with_reducible refine (impl_leavesOk.calls a0 _ _ l1 false _ ?side1 ?side2 HL.out).mono ?_); (case side1 => exact cv ((Kd.C_below HR1.out HB.out))); (case side2 => exact HC1.out); rintro e w' ⟨rfl, ⟨nd, rfl⟩⟩; refine ⟨_, rfl, ?_⟩))
  go_ret2
  exact ⟨by first | rfl | (simp [*]; done), bt⟩

end Go.Proofs.Ytaacidhgnappdaa.PFnProven
