-- Written by a program of this workplace (wip/mp.py) out of the translation.
import Derived.Test.YtchjajbkaiefdaaPFnForgeryx0
import Derived.Test.YtchjajbkaiefdaaPFnForgeryx1
import Derived.Test.YtchjajbkaiefdaaPFnForgeryx2
import Derived.Test.YtchjajbkaiefdaaPFnForgeryx3
import Derived.Test.YtchjajbkaiefdaaPFnForgeryx9
namespace Go.Proofs.Ytchjajbkaiefdaa.PFnForgery
open Go.RowKit Go.Proofs.YtchjajbkaiefdaaW.PrintWords Go.Proofs.YtchjajbkaiefdaaW.PrintLast Go.Proofs.YtchjajbkaiefdaaW.PrintMore Go.Proofs.Ytchjajbkaiefdaa.Slim
attribute [local go_sem] max2_int min2_int max_two min_two max_three min_three max_four min_four   -- for this text's walks alone
set_option linter.unusedVariables false
set_option linter.unusedSimpArgs false

theorem lf_below {W W1 : World} (h : W.grownBy W1 none) : Below W.heap.size W W1 := ⟨h.os, h.tape, h.output, h.size, fun k hk => h.block k hk (by simp)⟩
theorem lf_new {v : Value} {n : Nat} (h : ∃ b, v.ownBlock = some b ∧ n ≤ b) : ∀ k, v.ownBlock = some k → n ≤ k := by
  obtain ⟨b, e, hb⟩ := h
  intro k hk
  rw [e] at hk
  injection hk with hk
  omega
theorem lf_rep {W : World} {base : Nat} {A : Option Addr} {n c : Nat} {l : List Int} {ok : Nat → Prop} (h : (Kd.int .u8).R 5 W base ok (.slice A n c) l) : ∀ (j : Nat) (x : List Int), [l][j]? = some x → (Kd.slice 5 (Kd.int .u8)).M W base (fun k => j = 0 ∧ some k = (.slice A n c : Value).ownBlock) x (([(.slice A n c : Value)].drop (j * (Kd.slice 5 (Kd.int .u8)).sz)).take (Kd.slice 5 (Kd.int .u8)).sz) := by
  intro j x hx
  match j, hx with
  | 0, hx =>
    cases hx
    exact Kd.M_row (Kd.R_mono (Kd.R_tight rfl h) (fun _ h_ => ⟨rfl, h_⟩))
  | j + 1, hx => simp at hx
/-- A literal of a row, in memory of its own. -/
theorem lf_event {P : Program} {ops : Array Oper} {rest : List Oper} {o : Oper} {a : Act} {Q : Exit → Act → World → Prop} {W : World} (hgd : o.guard = none) {N : Tmp} (_hd : o.dst = some N) {cs : Array Value} {t : TypeId} {n : Nat}
    (hrun : (execOp a.eval o).run P W = .ok (.value (.slice (some ⟨W.heap.size, 0, none⟩) n n)) (W.alloc (.cells cs t (0, 0))))
    (h : ∀ g, g = W.heap.size → ∀ w1, w1.heap[g]? = some (.cells cs t (0, 0)) → Below W.heap.size W w1 → wpList P ops Q rest (a.put o.dst (.slice (some ⟨g, 0, none⟩) n n)) w1) : wpList P ops Q (o :: rest) a W :=
  Kd.event_run hgd hrun (h _ rfl _ (blk_new W _) (below_alloc (Below.refl _ _) _))
theorem lf_C {W : World} {g t : Nat} {A : Option Addr} {c : Nat} {l : List Int} (h : W.heap[g]? = some (.cells #[.slice A l.length c] t (0, 0))) (hr : Kd.C (Kd.int .u8) W A l.length l) (hc : l.length ≤ c) : Kd.C (Kd.slice 5 (Kd.int .u8)) W (some ⟨g, 0, none⟩) [l].length [l] := by
  refine ⟨rfl, by simp, fun _ => ⟨_, rfl, fun j p hj => ?_⟩⟩
  match j, hj with
  | 0, hj =>
    cases hj
    refine ⟨[.slice A l.length c], rfl, ⟨A, c, rfl, hc, hr⟩, fun i u hu => ?_⟩
    match i, hu with
    | 0, hu =>
      cases hu
      exact (blk_cell h 0).trans rfl
    | i + 1, hu => simp at hu
  | j + 1, hj => simp at hj
/-! ### impl_climb: function 59 -/
mutual
def impl_climb.j0 : Nat → Int → Int → Int → List Int → List Int → Bool → Option ((List (List Int)) × Bool)
 | 0, _, _, _, _, _, _ => none
 | k + 1, x0, x1, x2, x3, x4, x39 => if x39 = true then (some (([] : List (List Int)), false)) else ((impl_leafInput.f x3).bind fun t514 => ((some (([t514] : List (List Int)) : List (List Int))).bind fun y517 => (if 0 < (y517.length : Int) then ((impl_Digest.f x0 (rd_L1 y517 0)).bind fun t521 => (impl_climb.l0 k x0 x1 x2 x4 y517 t521 x1)) else (none))))
def impl_climb.l0 : Nat → Int → Int → Int → List Int → List (List Int) → Int → Int → Option ((List (List Int)) × Bool)
 | 0, _, _, _, _, _, _, _ => none
 | k + 1, x0, x1, x2, x4, x12, x13, x14 => if x14 > 1 then (if (Go.bits .xor .i64 x2 1) < x14 then (if (x4.length : Int) = 0 then (some (([] : List (List Int)), false)) else (if 0 < (x4.length : Int) then (if (Int.tmod x2 2) = 1 then (if 1 ≤ (x4.length : Int) then ((impl_nodeInput.f k (rd x4 0) x13).bind fun t534 => (if x12.length < 5864062014805 then ((some (x12 ++ [t534] : List (List Int))).bind fun y537 => (if 0 ≤ (wrap64 ((y537.length : Int) - 1)) then (if (wrap64 ((y537.length : Int) - 1)) < (y537.length : Int) then ((impl_Digest.f x0 (rd_L1 y537 (wrap64 ((y537.length : Int) - 1)))).bind fun t541 => (impl_climb.l0 k x0 x1 (wrap64 (Int.tdiv x2 2)) (x4.drop 1) y537 t541 (wrap64 (Int.tdiv (wrap64 (x14 + 1)) 2)))) else (none)) else (none))) else (none))) else (none)) else (if 1 ≤ (x4.length : Int) then ((impl_nodeInput.f k x13 (rd x4 0)).bind fun t547 => (if x12.length < 5864062014805 then ((some (x12 ++ [t547] : List (List Int))).bind fun y550 => (if 0 ≤ (wrap64 ((y550.length : Int) - 1)) then (if (wrap64 ((y550.length : Int) - 1)) < (y550.length : Int) then ((impl_Digest.f x0 (rd_L1 y550 (wrap64 ((y550.length : Int) - 1)))).bind fun t554 => (impl_climb.l0 k x0 x1 (wrap64 (Int.tdiv x2 2)) (x4.drop 1) y550 t554 (wrap64 (Int.tdiv (wrap64 (x14 + 1)) 2)))) else (none)) else (none))) else (none))) else (none))) else (none))) else (impl_climb.l0 k x0 x1 (wrap64 (Int.tdiv x2 2)) x4 x12 x13 (wrap64 (Int.tdiv (wrap64 (x14 + 1)) 2)))) else ((impl_topInput.f k x1 x13).bind fun t522 => (if x12.length < 5864062014805 then (some ((x12 ++ [t522]), ((x4.length : Int) == 0))) else (none)))
end
def impl_climb.f (k : Nat) (a0 : Int) (a1 : Int) (a2 : Int) (l3 : List Int) (l4 : List Int) : Option ((List (List Int)) × Bool) := (impl_in.f a1 1 16).bind fun t510 => (if t510 = true then ((impl_in.f a2 0 (wrap64 (a1 - 1))).bind fun t511 => (if t511 = true then ((fake_lf_one.f a0 l3).bind fun t512 => (if t512 = true then ((impl_digests.f a0 l4).bind fun t513 => (impl_climb.j0 k a0 a1 a2 l3 l4 (!t513))) else (impl_climb.j0 k a0 a1 a2 l3 l4 true))) else (impl_climb.j0 k a0 a1 a2 l3 l4 true))) else (impl_climb.j0 k a0 a1 a2 l3 l4 true))
set_option maxHeartbeats 8000000 in
set_option maxRecDepth 100000 in
theorem impl_climb.calls (k : Nat) (a0 : Int) (a1 : Int) (a2 : Int) (A3 : Option Addr) (c3 : Nat) (l3 : List Int) (P4_ : Nat → Prop) (A4 : Option Addr) (c4 : Nat) (l4 : List Int) (r1 : List (List Int)) (r2 : Bool) (w : World) (hr3 : Kd.C (Kd.int .u8) w A3 l3.length l3) (hc3 : l3.length ≤ c3) (hs4 : Kd.V (Kd.int .i64) 3 w w.heap.size (fun k_ => P4_ k_) (.slice A4 l4.length c4) l4) (h : impl_climb.f k a0 a1 a2 l3 l4 = some (r1, r2)) :
  Calls Try.prog 59 #[.int .i64 a0, .int .i64 a1, .int .i64 a2, .slice A3 l3.length c3, .slice A4 l4.length c4] w fun e w' => ∃ v0_ : Value, e = .returned (.tuple #[v0_, .bool r2]) ∧ Kd.S (Kd.slice 5 (Kd.int .u8)) 22 w' w.heap.size (fun k_ => (w.heap.size ≤ k_)) v0_ r1 ∧ Below w.heap.size w w' := by
 have HR3 := am hr3
 have HC3 := am hc3
 clear hr3 hc3
 have HO4 := am (show Kd.V (Kd.int .i64) 3 w w.heap.size (fun k_ => (P4_ k_ ∨ w.heap.size ≤ k_)) (.slice A4 l4.length c4) l4 from Kd.V_mono hs4 (fun k_ hk => .inl hk))
 have HB := am (Below.refl w.heap.size w)
 have H : ((impl_in.f a1 1 16).bind fun t510 => (if t510 = true then ((impl_in.f a2 0 (wrap64 (a1 - 1))).bind fun t511 => (if t511 = true then ((fake_lf_one.f a0 l3).bind fun t512 => (if t512 = true then ((impl_digests.f a0 l4).bind fun t513 => (impl_climb.j0 k a0 a1 a2 l3 l4 (!t513))) else (impl_climb.j0 k a0 a1 a2 l3 l4 true))) else (impl_climb.j0 k a0 a1 a2 l3 l4 true))) else (impl_climb.j0 k a0 a1 a2 l3 l4 true))) = some (r1, r2) := h
 clear h
 have HC6 := am H
 clear H
 go_enter Try.func59, Try.ntmps59
 go_upto_region 1 with (fail)
 go_cut [39] (fun v39 wc => ∃ (kq : Nat) (x39_5 : Bool), v39 = .bool x39_5 ∧ Aside0 (impl_climb.j0 kq a0 a1 a2 l3 l4 x39_5 = some (r1, r2)) ∧ Aside0 (kq ≤ k) ∧ Aside0 (Kd.V (Kd.int .i64) 3 wc w.heap.size (fun k_ => (P4_ k_ ∨ w.heap.size ≤ k_)) (.slice A4 l4.length c4) l4) ∧ Aside0 (Below w.heap.size w wc))
 case first =>
  have H := HC6.out
  clear HC6
  replace H := Option.bind_eq_some_iff.mp H
  obtain ⟨t510, A70, H⟩ := H
  (try dsimp -simprocs only at H)
  have A7 := am A70
  clear A70
  by_cases c8 : t510 = true
  ·subst c8
   rw [if_pos rfl] at H
   replace H := Option.bind_eq_some_iff.mp H
   obtain ⟨t511, A90, H⟩ := H
   (try dsimp -simprocs only at H)
   have A9 := am A90
   clear A90
   by_cases c10 : t511 = true
   ·subst c10
    rw [if_pos rfl] at H
    replace H := Option.bind_eq_some_iff.mp H
    obtain ⟨t512, A110, H⟩ := H
    (try dsimp -simprocs only at H)
    have A11 := am A110
    clear A110
    by_cases c12 : t512 = true
    ·subst c12
     rw [if_pos rfl] at H
     replace H := Option.bind_eq_some_iff.mp H
     obtain ⟨t513, A130, H⟩ := H
     (try dsimp -simprocs only at H)
     have A13 := am A130
     clear A130
     have H' := am H
     clear H
     go_wp2_with (first | (go_at_call 94; (with_reducible refine (impl_in.calls a1 1 16 true _ A7.out).mono ?_); rintro e w' ⟨rfl, ⟨nd, rfl⟩⟩; (try first | exact ⟨rfl, _, World.drewN_drewN _ _ _⟩ | exact ⟨rfl, _, Eq.trans (World.drewN_drewN _ _ _) (congrArg (World.drewN _) (Nat.add_assoc _ _ _))⟩)) | (go_at_call 94; (with_reducible refine (impl_in.calls a2 0 (wrap64 (a1 - 1)) true _ A9.out).mono ?_); rintro e w' ⟨rfl, ⟨nd, rfl⟩⟩; (try first | exact ⟨rfl, _, World.drewN_drewN _ _ _⟩ | exact ⟨rfl, _, Eq.trans (World.drewN_drewN _ _ _) (congrArg (World.drewN _) (Nat.add_assoc _ _ _))⟩)) | ((with_reducible refine gate_dst (N := 30) rfl ?_); (try (refine gate_guard (by rfl) ?_; dsimp only)); refine lf_event ?hg (N := 30) ?hd (cs := #[.slice A3 l3.length c3]) (t := 22) (n := 1) ?hr ?_; (case hd => rfl); (case hg => rfl); (case hr => first | (go_simp; done) | (go_simp; rfl)); intro glf hglf_ wlf hbox hb; replace HO4 := am (Kd.V_below (mv HO4.out) hb); replace HB := am (below_step (bt) hb); have HLF := am (lf_C hbox (Kd.C_below HR3.out HB.out) HC3.out); clear hbox hb hglf_) | (go_at_call 55; refine (impl_leavesOk.calls a0 _ _ [l3] true _ (cv HLF.out) (Nat.le_refl _) A11.out).mono ?_; rintro e w' ⟨rfl, ⟨nd, rfl⟩⟩; (try first | exact ⟨rfl, _, World.drewN_drewN _ _ _⟩ | exact ⟨rfl, _, Eq.trans (World.drewN_drewN _ _ _) (congrArg (World.drewN _) (Nat.add_assoc _ _ _))⟩)) | (go_at_call 106; (with_reducible refine (impl_digests.calls a0 _ _ l4 t513 _ ?side1 ?side2 A13.out).mono ?_); (case side1 => exact cv ((Kd.V_reads' HO4.out).2.2)); (case side2 => exact (Kd.V_reads' HO4.out).2.1); rintro e w14 ⟨rfl, hb⟩; replace HO4 := am (Kd.V_below (mv HO4.out) hb); replace HB := am (below_step (bt) hb); (try clear hb); (try clear hb2); (try clear hk); (try clear hi)))
     go_meet
     case rel => exact ⟨_, (!t513), (by first | rfl | (simp; done) | (simp [*]; done)), H', ⟨by first | omega | exact Nat.le_refl _⟩, ⟨mv HO4.out⟩, ⟨bt⟩⟩
    ·replace c12 := Bool.eq_false_iff.mpr c12
     subst c12
     rw [if_neg (show ¬ (false = true) by decide)] at H
     have H' := am H
     clear H
     go_wp2_with (first | (go_at_call 94; (with_reducible refine (impl_in.calls a1 1 16 true _ A7.out).mono ?_); rintro e w' ⟨rfl, ⟨nd, rfl⟩⟩; (try first | exact ⟨rfl, _, World.drewN_drewN _ _ _⟩ | exact ⟨rfl, _, Eq.trans (World.drewN_drewN _ _ _) (congrArg (World.drewN _) (Nat.add_assoc _ _ _))⟩)) | (go_at_call 94; (with_reducible refine (impl_in.calls a2 0 (wrap64 (a1 - 1)) true _ A9.out).mono ?_); rintro e w' ⟨rfl, ⟨nd, rfl⟩⟩; (try first | exact ⟨rfl, _, World.drewN_drewN _ _ _⟩ | exact ⟨rfl, _, Eq.trans (World.drewN_drewN _ _ _) (congrArg (World.drewN _) (Nat.add_assoc _ _ _))⟩)) | ((with_reducible refine gate_dst (N := 30) rfl ?_); (try (refine gate_guard (by rfl) ?_; dsimp only)); refine lf_event ?hg (N := 30) ?hd (cs := #[.slice A3 l3.length c3]) (t := 22) (n := 1) ?hr ?_; (case hd => rfl); (case hg => rfl); (case hr => first | (go_simp; done) | (go_simp; rfl)); intro glf hglf_ wlf hbox hb; replace HO4 := am (Kd.V_below (mv HO4.out) hb); replace HB := am (below_step (bt) hb); have HLF := am (lf_C hbox (Kd.C_below HR3.out HB.out) HC3.out); clear hbox hb hglf_) | (go_at_call 55; refine (impl_leavesOk.calls a0 _ _ [l3] false _ (cv HLF.out) (Nat.le_refl _) A11.out).mono ?_; rintro e w' ⟨rfl, ⟨nd, rfl⟩⟩; (try first | exact ⟨rfl, _, World.drewN_drewN _ _ _⟩ | exact ⟨rfl, _, Eq.trans (World.drewN_drewN _ _ _) (congrArg (World.drewN _) (Nat.add_assoc _ _ _))⟩)))
     go_meet
     case rel => exact ⟨_, (true), (by first | rfl | (simp; done) | (simp [*]; done)), H', ⟨by first | omega | exact Nat.le_refl _⟩, ⟨mv HO4.out⟩, ⟨bt⟩⟩
   ·replace c10 := Bool.eq_false_iff.mpr c10
    subst c10
    rw [if_neg (show ¬ (false = true) by decide)] at H
    have H' := am H
    clear H
    go_wp2_with (first | (go_at_call 94; (with_reducible refine (impl_in.calls a1 1 16 true _ A7.out).mono ?_); rintro e w' ⟨rfl, ⟨nd, rfl⟩⟩; (try first | exact ⟨rfl, _, World.drewN_drewN _ _ _⟩ | exact ⟨rfl, _, Eq.trans (World.drewN_drewN _ _ _) (congrArg (World.drewN _) (Nat.add_assoc _ _ _))⟩)) | (go_at_call 94; (with_reducible refine (impl_in.calls a2 0 (wrap64 (a1 - 1)) false _ A9.out).mono ?_); rintro e w' ⟨rfl, ⟨nd, rfl⟩⟩; (try first | exact ⟨rfl, _, World.drewN_drewN _ _ _⟩ | exact ⟨rfl, _, Eq.trans (World.drewN_drewN _ _ _) (congrArg (World.drewN _) (Nat.add_assoc _ _ _))⟩)))
    go_meet
    case rel => exact ⟨_, (true), (by first | rfl | (simp; done) | (simp [*]; done)), H', ⟨by first | omega | exact Nat.le_refl _⟩, ⟨mv HO4.out⟩, ⟨bt⟩⟩
  ·replace c8 := Bool.eq_false_iff.mpr c8
   subst c8
   rw [if_neg (show ¬ (false = true) by decide)] at H
   have H' := am H
   clear H
   go_wp2_with (first | (go_at_call 94; (with_reducible refine (impl_in.calls a1 1 16 false _ A7.out).mono ?_); rintro e w' ⟨rfl, ⟨nd, rfl⟩⟩; (try first | exact ⟨rfl, _, World.drewN_drewN _ _ _⟩ | exact ⟨rfl, _, Eq.trans (World.drewN_drewN _ _ _) (congrArg (World.drewN _) (Nat.add_assoc _ _ _))⟩)))
   go_meet
   case rel => exact ⟨_, (true), (by first | rfl | (simp; done) | (simp [*]; done)), H', ⟨by first | omega | exact Nat.le_refl _⟩, ⟨mv HO4.out⟩, ⟨bt⟩⟩
 case rest =>
  clear HC6
  try clear c1
  try clear p2
  try clear c3
  try clear c4
  try clear c5
  try clear p6
  try clear c8
  try clear c10
  try clear c12
  obtain ⟨kq, x39_5, rfl, HA, HJ5, HO_4, HB⟩ := hcut
  cases kq with
  | zero => exact absurd HA.out (by simp [impl_climb.j0])
  | succ kj5 =>
   have H := HA.out
   clear HA
   simp only [impl_climb.j0] at H
   by_cases c15 : x39_5 = true
   ·subst c15
    rw [if_pos rfl] at H
    simp only [Option.some.injEq, Prod.mk.injEq] at H
    obtain ⟨rfl, rfl⟩ := H
    go_wp2
    go_ret2
    exact ⟨_, by first | rfl | (simp [errW_none, errW_some] <;> rfl) | (simp [*, errW_none, errW_some] <;> rfl), by first | exact Kd.S_nil _ _ _ _ _ | exact Kd.N_nil _ _ _ _ _ | exact Kd.V_nil _ _ _ _ _ | exact Kd.Q_nil _ _ _ _ _ | exact Kd.R_nil _ _ _ _ _, bt⟩
   ·replace c15 := Bool.eq_false_iff.mpr c15
    subst c15
    rw [if_neg (show ¬ (false = true) by decide)] at H
    replace H := Option.bind_eq_some_iff.mp H
    obtain ⟨t514, A160, H⟩ := H
    (try dsimp -simprocs only at H)
    have A16 := am A160
    clear A160
    obtain ⟨y517, hy517⟩ : ∃ y_ : List (List Int), y_ = (([t514] : List (List Int))) := ⟨_, rfl⟩
    replace H : (if 0 < (y517.length : Int) then ((impl_Digest.f a0 (rd_L1 y517 0)).bind fun t521 => (impl_climb.l0 kj5 a0 a1 a2 l4 y517 t521 a1)) else (none)) = some (r1, r2) := by first | (rw [hy517]; exact H) | exact H
    have Ny517 := am hy517
    clear hy517
    by_cases c17 : 0 < (y517.length : Int)
    ·rw [if_pos c17] at H
     have c17b0 : decide (0 < (y517.length : Int)) = true := decide_eq_true c17
     have c17b1 : decide (0 < y517.length) = true := decide_eq_true (by omega)
     clear c17
     replace H := Option.bind_eq_some_iff.mp H
     obtain ⟨t521, A180, H⟩ := H
     (try dsimp -simprocs only at H)
     have A18 := am A180
     clear A180
     have H' := am H
     clear H
     go_wp2_with (first | (go_at_call 107; (with_reducible refine (impl_leafInput.calls _ _ l3 t514 _ ?side1 ?side2 A16.out).mono ?_); (case side1 => exact cv ((Kd.C_below HR3.out HB.out))); (case side2 => exact HC3.out); rintro e w19 ⟨v515, rfl, ho0, hb⟩; replace HO_4 := am (Kd.V_elder' (mv HO_4.out) (Kd.R_base ho0) hb); have HO516 := am (Kd.R_lower (Kd.R_newM (M := fun k_ => (w.heap.size ≤ k_)) ho0 (below_size (bt)) (fun k_ h_ => h_)) (below_size (bt))); replace HB := am (below_step (bt) hb); (try clear hb); (try clear hb2); (try clear hk); (try clear hi); (try clear ho0); obtain ⟨Ao20, co20, eo20⟩ := Kd.R_slice HO516.out; subst eo20) | ((with_reducible refine gate_dst (N := 42) rfl ?_); refine Kd.S_lits (Kd.slice 5 (Kd.int .u8)) (w0 := w) w.heap.size 22 ?hg (N := 42) ?hd (xs := ([t514] : List (List Int))) (inner := [.slice Ao20 t514.length co20]) (ok := fun k_ => (w.heap.size ≤ k_)) (okj := fun j_ k_ => j_ = 0 ∧ some k_ = (.slice Ao20 t514.length co20 : Value).ownBlock) ?hr rfl (lf_rep HO516.out) (fun _ _ _ h1_ h2_ => h1_.1.trans h2_.1.symm) (fun _ k_ h_ => ((HO516.out).1 k_ h_.2.symm).1) (below_size (bt)) (bt) (below_size (bt)) (by simp) ?_; (case hd => rfl); (case hg => rfl); (case hr => first | (go_simp; done) | (go_simp; rfl)); intro v518 w21 ho22 hbW hg_ hnew_; have hb := lf_below hg_; (first | rw [← Ny517.out] at ho22 | (simp only [Int.reduceToNat] at ho22; rw [← Ny517.out] at ho22)); replace HO_4 := am (Kd.V_elder' (mv HO_4.out) (lf_new hnew_) hb); have HO519 := am ho22; replace HO516 := am (Kd.R_below (mv HO516.out) hb); replace HB := am (below_step (bt) hb); clear hb hbW hg_ hnew_ ho22; obtain ⟨Ao23, co23, eo23⟩ := Kd.S_slice HO519.out; subst eo23; have p520 : 0 ≤ (0 : Int) := (by omega); have q520 : 0 < (y517.length : Int) := of_decide_eq_true asm; obtain ⟨ad520, A520_0, c520_0, e520, hx520_0, hl520_0, hi520_0⟩ := at_L1 (Kd.S_reads' HO519.out).2.2 0 p520 q520; cases e520; obtain ⟨ce520, hce520, hMe520, hcc520⟩ := Kd.S_get HO519.out [] 0 p520 (by first | exact q520 | exact of_decide_eq_true asm | (have e_ := (Kd.S_reads' HO519.out).1; omega)); obtain ⟨ve520_0, rfl, ge520_0⟩ := hMe520; have hv520_0 := hcc520 0 _ rfl; rw [Nat.add_zero, show ((Kd.slice 5 (Kd.int .u8))).sz = 1 from rfl, Nat.mul_one] at hv520_0; replace hv520_0 := Option.some.inj (hv520_0.symm.trans hx520_0); rw [hv520_0] at ge520_0; have HL520_0 := am (show Kd.R (Kd.int .u8) 5 _ _ _ _ (rd_L1 y517 0) from ge520_0); clear hv520_0 ge520_0; clear hcc520 hce520; have qi520 : (0 < y517.length) = True := eq_true (by omega); (try rw [show ((0 : Int)).toNat = 0 from rfl] at hx520_0); (try rw [Addr.add_zero'] at hx520_0); have HR520_0 := am hi520_0; have HC520_0 := am hl520_0; clear hi520_0 hl520_0; replace p520 := eq_true p520; replace q520 := eq_true q520) | (go_at_call 56; (with_reducible refine (impl_Digest.calls a0 _ _ (rd_L1 y517 0) t521 _ ?side1 ?side2 A18.out).mono ?_); (case side1 => repeat (first | exact (cv HR520_0.out) | (with_reducible refine Kd.C_alloc ?_ _) | (with_reducible refine Kd.C_drewN ?_ _) | (with_reducible refine Kd.C_drew ?_))); (case side2 => exact HC520_0.out); rintro e w24 ⟨rfl, hb⟩; replace HO_4 := am (Kd.V_below (mv HO_4.out) hb); replace HO516 := am (Kd.R_below (mv HO516.out) hb); replace HO519 := am (Kd.S_below (mv HO519.out) hb); replace HL520_0 := am (Kd.R_below (mv HL520_0.out) hb); replace HR520_0 := am (Kd.C_below (cv HR520_0.out) hb); replace HB := am (below_step (bt) hb); (try clear hb); (try clear hb2); (try clear hk); (try clear hi)))
     go_loopg [2, 4, 12, 13, 14] kj5 (fun kq v2 v4 v12 v13 v14 w' => ∃ (x2_2 : Int) (x4_2 : List Int) (x12_2 : List (List Int)) (x13_2 : Int) (x14_2 : Int), v2 = .int .i64 x2_2 ∧ v13 = .int .i64 x13_2 ∧ v14 = .int .i64 x14_2 ∧ Aside0 (impl_climb.l0 kq a0 a1 x2_2 x4_2 x12_2 x13_2 x14_2 = some (r1, r2)) ∧ Aside0 (kq ≤ kj5) ∧ Aside0 (Kd.V (Kd.int .i64) 3 w' w.heap.size (fun k_ => (P4_ k_ ∨ w.heap.size ≤ k_) ∧ some k_ ≠ (v12 : Value).ownBlock) v4 x4_2) ∧ Aside0 (Kd.S (Kd.slice 5 (Kd.int .u8)) 22 w' w.heap.size (fun k_ => (w.heap.size ≤ k_)) v12 x12_2) ∧ Aside0 (Below w.heap.size w w'))
     case atStart => exact ⟨(a2), (l4), (y517), (t521), (a1), (by first | rfl | (simp; done) | (simp [*]; done)), (by first | rfl | (simp; done) | (simp [*]; done)), (by first | rfl | (simp; done) | (simp [*]; done)), H', ⟨Nat.le_refl _⟩, ⟨by (with_reducible repeat (first | apply Kd.V_alloc | apply Kd.V_drewN | apply Kd.V_drew)); exact Kd.V_mono HO_4.out (fun _ hk => ⟨hk.1.1, hk.2⟩)⟩, ⟨by (with_reducible repeat (first | apply Kd.S_alloc | apply Kd.S_drewN | apply Kd.S_drew)); exact HO519.out⟩, ⟨bt⟩⟩
     case round =>
      clear H'
      try clear c1
      try clear p2
      try clear c3
      try clear c4
      try clear c5
      try clear p5
      try clear q5
      try clear hx5
      try clear qi5
      try clear p6
      try clear c8
      try clear c10
      try clear c12
      try clear c15
      try clear c17
      try clear c17b0
      try clear c17b1
      try clear hx520_0
      try clear p2
      try clear p520
      try clear p6
      try clear q520
      obtain ⟨x2_2, x4_2, x12_2, x13_2, x14_2, rfl, rfl, rfl, HA, HK2, HO_4, HO_12, HB⟩ := hrel
      cases gk with
      | zero => exact absurd HA.out (by simp [impl_climb.l0])
      | succ k2 =>
       have H := HA.out
       clear HA
       simp only [impl_climb.l0] at H
       by_cases c25 : x14_2 > 1
       ·rw [if_pos c25] at H
        have c25b0 : decide (1 < x14_2) = true := decide_eq_true c25
        clear c25
        by_cases c26 : (Go.bits .xor .i64 x2_2 1) < x14_2
        ·rw [if_pos c26] at H
         have c26b0 : decide ((Go.bits .xor .i64 x2_2 1) < x14_2) = true := decide_eq_true c26
         clear c26
         by_cases c27 : (x4_2.length : Int) = 0
         ·rw [if_pos c27] at H
          have c27b0 : ((x4_2.length : Int) == 0) = true := beq_iff_eq.mpr c27
          have c27b1 : ((x4_2.length : Int) != 0) = false := bne_eq_false_iff_eq.mpr c27
          clear c27
          simp only [Option.some.injEq, Prod.mk.injEq] at H
          obtain ⟨rfl, rfl⟩ := H
          obtain ⟨Ao28, co28, eo28⟩ := Kd.V_slice HO_4.out
          subst eo28
          go_wp2
          go_ret2
          exact ⟨_, by first | rfl | (simp [errW_none, errW_some] <;> rfl) | (simp [*, errW_none, errW_some] <;> rfl), by first | exact Kd.S_nil _ _ _ _ _ | exact Kd.N_nil _ _ _ _ _ | exact Kd.V_nil _ _ _ _ _ | exact Kd.Q_nil _ _ _ _ _ | exact Kd.R_nil _ _ _ _ _, bt⟩
         ·rw [if_neg c27] at H
          have c27b0 : ((x4_2.length : Int) == 0) = false := beq_eq_false_iff_ne.mpr c27
          have c27b1 : ((x4_2.length : Int) != 0) = true := bne_iff_ne.mpr c27
          have c27b2 : ¬ (x4_2 = []) := fun h_ => c27 (by rw [h_]; rfl)
          by_cases c29 : 0 < (x4_2.length : Int)
          ·rw [if_pos c29] at H
           have c29b0 : decide (0 < (x4_2.length : Int)) = true := decide_eq_true c29
           have c29b1 : decide (0 < x4_2.length) = true := decide_eq_true (by omega)
           clear c29
           by_cases c30 : (Int.tmod x2_2 2) = 1
           ·rw [if_pos c30] at H
            have c30b0 : ((Int.tmod x2_2 2) == 1) = true := beq_iff_eq.mpr c30
            have c30b1 : ((Int.tmod x2_2 2) != 1) = false := bne_eq_false_iff_eq.mpr c30
            clear c30
            by_cases c31 : 1 ≤ (x4_2.length : Int)
            ·rw [if_pos c31] at H
             have c31b0 := eq_true c31
             have c31b1 : decide (1 ≤ (x4_2.length : Int)) = true := decide_eq_true c31
             clear c31
             obtain ⟨y529, hy529⟩ : ∃ y_ : List Int, y_ = (x4_2.drop 1) := ⟨_, rfl⟩
             replace H : ((impl_nodeInput.f k2 (rd x4_2 0) x13_2).bind fun t534 => (if x12_2.length < 5864062014805 then ((some (x12_2 ++ [t534] : List (List Int))).bind fun y537 => (if 0 ≤ (wrap64 ((y537.length : Int) - 1)) then (if (wrap64 ((y537.length : Int) - 1)) < (y537.length : Int) then ((impl_Digest.f a0 (rd_L1 y537 (wrap64 ((y537.length : Int) - 1)))).bind fun t541 => (impl_climb.l0 k2 a0 a1 (wrap64 (Int.tdiv x2_2 2)) y529 y537 t541 (wrap64 (Int.tdiv (wrap64 (x14_2 + 1)) 2)))) else (none)) else (none))) else (none))) = some (r1, r2) := by first | (rw [hy529]; exact H) | exact H
             have Ny529 := am hy529
             clear hy529
             replace H := Option.bind_eq_some_iff.mp H
             obtain ⟨t534, A320, H⟩ := H
             (try dsimp -simprocs only at H)
             have A32 := am A320
             clear A320
             by_cases c33 : x12_2.length < 5864062014805
             ·rw [if_pos c33] at H
              have LMc33 := am c33
              clear c33
              obtain ⟨y537, hy537⟩ : ∃ y_ : List (List Int), y_ = (x12_2 ++ [t534]) := ⟨_, rfl⟩
              replace H : (if 0 ≤ (wrap64 ((y537.length : Int) - 1)) then (if (wrap64 ((y537.length : Int) - 1)) < (y537.length : Int) then ((impl_Digest.f a0 (rd_L1 y537 (wrap64 ((y537.length : Int) - 1)))).bind fun t541 => (impl_climb.l0 k2 a0 a1 (wrap64 (Int.tdiv x2_2 2)) y529 y537 t541 (wrap64 (Int.tdiv (wrap64 (x14_2 + 1)) 2)))) else (none)) else (none)) = some (r1, r2) := by first | (rw [hy537]; exact H) | exact H
              have Ny537 := am hy537
              clear hy537
              obtain ⟨ji34, hji34⟩ : ∃ j_ : Int, (wrap64 ((y537.length : Int) - 1)) = j_ := ⟨_, rfl⟩
              replace H : (if 0 ≤ (ji34) then (if (ji34) < (y537.length : Int) then ((impl_Digest.f a0 (rd_L1 y537 (ji34))).bind fun t541 => (impl_climb.l0 k2 a0 a1 (wrap64 (Int.tdiv x2_2 2)) y529 y537 t541 (wrap64 (Int.tdiv (wrap64 (x14_2 + 1)) 2)))) else (none)) else (none)) = some (r1, r2) := by first | (rw [hji34] at H; exact H) | (simp only [hji34] at H ⊢; exact H)
              (try rw [hji34] at A32)
              have hji34w : (IntKind.i64.wrap ((y537.length : Int) - 1)) = ji34 := (i64_w _).trans hji34
              by_cases c35 : 0 ≤ (ji34)
              ·rw [if_pos c35] at H
               have c35b0 : decide (0 ≤ (ji34)) = true := decide_eq_true c35
               clear c35
               by_cases c36 : (ji34) < (y537.length : Int)
               ·rw [if_pos c36] at H
                have c36b0 : decide ((ji34) < (y537.length : Int)) = true := decide_eq_true c36
                clear c36
                replace H := Option.bind_eq_some_iff.mp H
                obtain ⟨t541, A370, H⟩ := H
                (try dsimp -simprocs only at H)
                have A37 := am A370
                clear A370
                have H' := am H
                clear H
                obtain ⟨Ao38, co38, eo38⟩ := Kd.V_slice HO_4.out
                subst eo38
                have p528 : 0 ≤ (0 : Int) := (by omega)
                have q528 : 0 < (x4_2.length : Int) := of_decide_eq_true asm
                obtain ⟨ad528, e528, hx528_0⟩ := Kd.at_int (Kd.V_reads' HO_4.out).2.2 0 p528 q528
                cases e528
                have qi528 : (0 < x4_2.length) = True := eq_true (by omega)
                (try rw [show ((0 : Int)).toNat = 0 from rfl] at hx528_0)
                (try rw [Addr.add_zero'] at hx528_0)
                replace p528 := eq_true p528
                replace q528 := eq_true q528
                have q39 : (1 : Int) ≤ ((x4_2.length : Int) : Int) := of_decide_eq_true asm
                obtain ⟨i039, hi039, _, hsz39, _⟩ := info_parts info3
                have hroom39 : x4_2.length ≤ co38 := (Kd.V_reads' HO_4.out).2.1
                have hC39 : Kd.F (Kd.int .i64) _ _ (some ad528) x4_2.length x4_2 := (Kd.V_at (base := w.heap.size) HO_4.out).2.2
                have hcut39 := cut_from (P := Try.prog) 29 3 .i64 Try.underlying29 hi039 1 hsz39 (some ad528) x4_2.length co38 1 (by omega) q39
                have hr39 := Kd.F_cut (m := (1 : Int).toNat) (c := co38) hC39 (by omega) hroom39
                obtain ⟨A39, hA39⟩ : ∃ A1, A1 = (if co38 = (1 : Int).toNat then (some ad528) else ((some ad528) : Option Addr).map (·.add ((1 : Int).toNat * 1))) := ⟨_, rfl⟩
                obtain ⟨c39, hc39⟩ : ∃ c1, c1 = co38 - (1 : Int).toNat := ⟨_, rfl⟩
                have hy39 : y529.length = x4_2.length - (1 : Int).toNat := (by rw [Ny529.out, List.length_drop] <;> omega)
                rw [show (x4_2).drop (1 : Int).toNat = y529 from Ny529.out.symm] at hr39
                replace hr39 : Kd.F (Kd.int .i64) _ _ A39 y529.length y529 := (by rw [hA39]; exact hr39)
                rw [← hy39, ← hA39, ← hc39] at hcut39
                have HO533 := am (show Kd.V (Kd.int .i64) 3 _ w.heap.size _ (.slice A39 y529.length c39) y529 from Kd.V_mk (by rw [hy39, hc39]; exact Nat.sub_le_sub_right hroom39 _) hr39)
                have HC533 := am (show y529.length ≤ c39 from by rw [hy39, hc39]; exact Nat.sub_le_sub_right hroom39 _)
                clear hr39 hC39 hroom39 hi039 hsz39 hc39
                have KY39 := am hy39
                have KA39 := am hA39
                clear hy39 hA39
                replace q39 := eq_true q39
                go_wp2
                go_quiet (fail)
                go_wp2_with (first | (go_at_call 108; (with_reducible refine (impl_nodeInput.calls k2 (rd x4_2 0) x13_2 t534 _ A32.out).mono ?_); rintro e w40 ⟨v535, rfl, ho0, hb⟩; replace HO_4 := am (Kd.V_elder' (mv HO_4.out) (Kd.R_base ho0) hb); replace HO_12 := am (Kd.S_elder' (mv HO_12.out) (Kd.R_base ho0) hb); replace HO533 := am (Kd.V_elder' (mv HO533.out) (Kd.R_base ho0) hb); have HO536 := am (Kd.R_lower (Kd.R_newM (M := fun k_ => (w.heap.size ≤ k_)) ho0 (below_size (bt)) (fun k_ h_ => h_)) (below_size (bt))); replace HB := am (below_step (bt) hb); (try clear hb); (try clear hb2); (try clear hk); (try clear hi); (try clear ho0); obtain ⟨Ao42, co42, eo42⟩ := Kd.R_slice HO536.out; subst eo42) | ((with_reducible refine gate_builtin (b := .append) (xs := #[.tmp 72, .tmp 76]) rfl ?_); at_builtin; refine Kd.S_append (Kd.slice 5 (Kd.int .u8)) (w0 := w) w.heap.size rfl (.tmp 72) (.tmp 76) 24 22 (.slice none 0 0) 24 rfl Try.underlying24 info22 rfl (by decide) (by omega) u12 x12_2 t534 [.slice Ao42 t534.length co42] (fun k_ => (w.heap.size ≤ k_)) (fun k_ => some k_ = (.slice Ao42 t534.length co42 : Value).ownBlock) rfl rfl ?aP (fun k_ hk_ => ((Kd.R_mono (ok' := fun k_ => ((fun k_ => (w.heap.size ≤ k_))) k_ ∧ some k_ ≠ (u12 : Value).ownBlock) (Kd.R_apart' (HO536.out) (Kd.S_typed HO_12.out) (by decide)) (fun k_ hk => ⟨hk.1.1, hk.2⟩))).1 k_ hk_.symm) ?aF ?aO ?aB ?aS ?aL ?_; (case aP => exact Kd.M_row (Kd.R_mono (Kd.R_tight rfl (Kd.R_mono (ok' := fun k_ => ((fun k_ => (w.heap.size ≤ k_))) k_ ∧ some k_ ≠ (u12 : Value).ownBlock) (Kd.R_apart' (HO536.out) (Kd.S_typed HO_12.out) (by decide)) (fun k_ hk => ⟨hk.1.1, hk.2⟩))) (fun _ h_ => h_))); (case aB => exact (bt)); (case aF => exact (fun k_ hk => (Nat.le_trans (below_size (bt)) hk))); (case aO => exact (by (with_reducible repeat (first | apply Kd.S_alloc | apply Kd.S_drewN | apply Kd.S_drew)); exact Kd.S_mono HO_12.out (fun k_ hk => ⟨hk.1, fun e_ => hk.2 e_⟩))); (case aS => exact (below_size (bt))); (case aL => have := LMc33.out; omega); intro v538 w41 ho hb hg hat; rw [← Ny537.out] at ho; replace HO_4 := am (Kd.V_afterv (ok := (fun k_ => (P4_ k_ ∨ w.heap.size ≤ k_) ∧ some k_ ≠ (.slice Ao42 t534.length co42 : Value).ownBlock)) (by (with_reducible repeat (first | apply Kd.V_alloc | apply Kd.V_drewN | apply Kd.V_drew)); exact Kd.V_mono HO_4.out (fun _ hk => ⟨⟨hk.1.1, hk.2⟩, hk.1.2⟩)) hg hat); replace HO533 := am (Kd.V_afterv (ok := (fun k_ => (P4_ k_ ∨ w.heap.size ≤ k_) ∧ some k_ ≠ (.slice Ao42 t534.length co42 : Value).ownBlock)) (by (with_reducible repeat (first | apply Kd.V_alloc | apply Kd.V_drewN | apply Kd.V_drew)); exact Kd.V_mono HO533.out (fun _ hk => ⟨⟨hk.1.1, hk.2⟩, hk.1.2⟩)) hg hat); replace HB := am (hb); have HO539 := am (ho); clear HO_12 HO536; clear ho hb hg hat; obtain ⟨Ao43, co43, eo43⟩ := Kd.S_slice HO539.out; subst eo43; have p540 : 0 ≤ ((ji34) : Int) := of_decide_eq_true asm; have q540 : (ji34) < (y537.length : Int) := of_decide_eq_true asm; obtain ⟨ad540, A540_0, c540_0, e540, hx540_0, hl540_0, hi540_0⟩ := at_L1 (Kd.S_reads' HO539.out).2.2 (ji34) p540 q540; cases e540; obtain ⟨ce540, hce540, hMe540, hcc540⟩ := Kd.S_get HO539.out [] (ji34) p540 (by first | exact q540 | exact of_decide_eq_true asm | (have e_ := (Kd.S_reads' HO539.out).1; omega)); obtain ⟨ve540_0, rfl, ge540_0⟩ := hMe540; have hv540_0 := hcc540 0 _ rfl; rw [Nat.add_zero, show ((Kd.slice 5 (Kd.int .u8))).sz = 1 from rfl, Nat.mul_one] at hv540_0; replace hv540_0 := Option.some.inj (hv540_0.symm.trans hx540_0); rw [hv540_0] at ge540_0; have HL540_0 := am (show Kd.R (Kd.int .u8) 5 _ _ _ _ (rd_L1 y537 (ji34)) from ge540_0); clear hv540_0 ge540_0; clear hcc540 hce540; have HR540_0 := am hi540_0; have HC540_0 := am hl540_0; clear hi540_0 hl540_0; replace p540 := eq_true p540; replace q540 := eq_true q540) | (go_at_call 56; (with_reducible refine (impl_Digest.calls a0 _ _ (rd_L1 y537 (ji34)) t541 _ ?side1 ?side2 A37.out).mono ?_); (case side1 => repeat (first | exact (cv HR540_0.out) | (with_reducible refine Kd.C_alloc ?_ _) | (with_reducible refine Kd.C_drewN ?_ _) | (with_reducible refine Kd.C_drew ?_))); (case side2 => exact HC540_0.out); rintro e w44 ⟨rfl, hb⟩; replace HO_4 := am (Kd.V_below (mv HO_4.out) hb); replace HO533 := am (Kd.V_below (mv HO533.out) hb); replace HO539 := am (Kd.S_below (mv HO539.out) hb); replace HL540_0 := am (Kd.R_below (mv HL540_0.out) hb); replace HR540_0 := am (Kd.C_below (cv HR540_0.out) hb); replace HB := am (below_step (bt) hb); (try clear hb); (try clear hb2); (try clear hk); (try clear hi)))
                go_roundg k2
                case measure => have := HJ5.out; have := HK2.out; omega
                case rel => exact ⟨(wrap64 (Int.tdiv x2_2 2)), (y529), (y537), (t541), (wrap64 (Int.tdiv (wrap64 (x14_2 + 1)) 2)), (by first | rfl | (simp; done) | (simp [*]; done)), (by first | rfl | (simp; done) | (simp [*]; done)), (by first | rfl | (simp; done) | (simp [*]; done)), H', ⟨by have := HJ5.out; have := HK2.out; omega⟩, ⟨by (with_reducible repeat (first | apply Kd.V_alloc | apply Kd.V_drewN | apply Kd.V_drew)); exact Kd.V_mono HO533.out (fun _ hk => ⟨hk.1.1, hk.2⟩)⟩, ⟨mv HO539.out⟩, ⟨bt⟩⟩
               ·rw [if_neg c36] at H
                exact absurd H (by simp)
              ·rw [if_neg c35] at H
               exact absurd H (by simp)
             ·rw [if_neg c33] at H
              exact absurd H (by simp)
            ·rw [if_neg c31] at H
             exact absurd H (by simp)
           ·rw [if_neg c30] at H
            have c30b0 : ((Int.tmod x2_2 2) == 1) = false := beq_eq_false_iff_ne.mpr c30
            have c30b1 : ((Int.tmod x2_2 2) != 1) = true := bne_iff_ne.mpr c30
            by_cases c45 : 1 ≤ (x4_2.length : Int)
            ·rw [if_pos c45] at H
             have c45b0 := eq_true c45
             have c45b1 : decide (1 ≤ (x4_2.length : Int)) = true := decide_eq_true c45
             clear c45
             obtain ⟨y542, hy542⟩ : ∃ y_ : List Int, y_ = (x4_2.drop 1) := ⟨_, rfl⟩
             replace H : ((impl_nodeInput.f k2 x13_2 (rd x4_2 0)).bind fun t547 => (if x12_2.length < 5864062014805 then ((some (x12_2 ++ [t547] : List (List Int))).bind fun y550 => (if 0 ≤ (wrap64 ((y550.length : Int) - 1)) then (if (wrap64 ((y550.length : Int) - 1)) < (y550.length : Int) then ((impl_Digest.f a0 (rd_L1 y550 (wrap64 ((y550.length : Int) - 1)))).bind fun t554 => (impl_climb.l0 k2 a0 a1 (wrap64 (Int.tdiv x2_2 2)) y542 y550 t554 (wrap64 (Int.tdiv (wrap64 (x14_2 + 1)) 2)))) else (none)) else (none))) else (none))) = some (r1, r2) := by first | (rw [hy542]; exact H) | exact H
             have Ny542 := am hy542
             clear hy542
             replace H := Option.bind_eq_some_iff.mp H
             obtain ⟨t547, A460, H⟩ := H
             (try dsimp -simprocs only at H)
             have A46 := am A460
             clear A460
             by_cases c47 : x12_2.length < 5864062014805
             ·rw [if_pos c47] at H
              have LMc47 := am c47
              clear c47
              obtain ⟨y550, hy550⟩ : ∃ y_ : List (List Int), y_ = (x12_2 ++ [t547]) := ⟨_, rfl⟩
              replace H : (if 0 ≤ (wrap64 ((y550.length : Int) - 1)) then (if (wrap64 ((y550.length : Int) - 1)) < (y550.length : Int) then ((impl_Digest.f a0 (rd_L1 y550 (wrap64 ((y550.length : Int) - 1)))).bind fun t554 => (impl_climb.l0 k2 a0 a1 (wrap64 (Int.tdiv x2_2 2)) y542 y550 t554 (wrap64 (Int.tdiv (wrap64 (x14_2 + 1)) 2)))) else (none)) else (none)) = some (r1, r2) := by first | (rw [hy550]; exact H) | exact H
              have Ny550 := am hy550
              clear hy550
              obtain ⟨ji48, hji48⟩ : ∃ j_ : Int, (wrap64 ((y550.length : Int) - 1)) = j_ := ⟨_, rfl⟩
              replace H : (if 0 ≤ (ji48) then (if (ji48) < (y550.length : Int) then ((impl_Digest.f a0 (rd_L1 y550 (ji48))).bind fun t554 => (impl_climb.l0 k2 a0 a1 (wrap64 (Int.tdiv x2_2 2)) y542 y550 t554 (wrap64 (Int.tdiv (wrap64 (x14_2 + 1)) 2)))) else (none)) else (none)) = some (r1, r2) := by first | (rw [hji48] at H; exact H) | (simp only [hji48] at H ⊢; exact H)
              (try rw [hji48] at A46)
              have hji48w : (IntKind.i64.wrap ((y550.length : Int) - 1)) = ji48 := (i64_w _).trans hji48
              by_cases c49 : 0 ≤ (ji48)
              ·rw [if_pos c49] at H
               have c49b0 : decide (0 ≤ (ji48)) = true := decide_eq_true c49
               clear c49
               by_cases c50 : (ji48) < (y550.length : Int)
               ·rw [if_pos c50] at H
                have c50b0 : decide ((ji48) < (y550.length : Int)) = true := decide_eq_true c50
                clear c50
                replace H := Option.bind_eq_some_iff.mp H
                obtain ⟨t554, A510, H⟩ := H
                (try dsimp -simprocs only at H)
                have A51 := am A510
                clear A510
                have H' := am H
                clear H
                obtain ⟨Ao52, co52, eo52⟩ := Kd.V_slice HO_4.out
                subst eo52
                have p528 : 0 ≤ (0 : Int) := (by omega)
                have q528 : 0 < (x4_2.length : Int) := of_decide_eq_true asm
                obtain ⟨ad528, e528, hx528_0⟩ := Kd.at_int (Kd.V_reads' HO_4.out).2.2 0 p528 q528
                cases e528
                have qi528 : (0 < x4_2.length) = True := eq_true (by omega)
                (try rw [show ((0 : Int)).toNat = 0 from rfl] at hx528_0)
                (try rw [Addr.add_zero'] at hx528_0)
                replace p528 := eq_true p528
                replace q528 := eq_true q528
                have q53 : (1 : Int) ≤ ((x4_2.length : Int) : Int) := of_decide_eq_true asm
                obtain ⟨i053, hi053, _, hsz53, _⟩ := info_parts info3
                have hroom53 : x4_2.length ≤ co52 := (Kd.V_reads' HO_4.out).2.1
                have hC53 : Kd.F (Kd.int .i64) _ _ (some ad528) x4_2.length x4_2 := (Kd.V_at (base := w.heap.size) HO_4.out).2.2
                have hcut53 := cut_from (P := Try.prog) 29 3 .i64 Try.underlying29 hi053 1 hsz53 (some ad528) x4_2.length co52 1 (by omega) q53
                have hr53 := Kd.F_cut (m := (1 : Int).toNat) (c := co52) hC53 (by omega) hroom53
                obtain ⟨A53, hA53⟩ : ∃ A1, A1 = (if co52 = (1 : Int).toNat then (some ad528) else ((some ad528) : Option Addr).map (·.add ((1 : Int).toNat * 1))) := ⟨_, rfl⟩
                obtain ⟨c53, hc53⟩ : ∃ c1, c1 = co52 - (1 : Int).toNat := ⟨_, rfl⟩
                have hy53 : y542.length = x4_2.length - (1 : Int).toNat := (by rw [Ny542.out, List.length_drop] <;> omega)
                rw [show (x4_2).drop (1 : Int).toNat = y542 from Ny542.out.symm] at hr53
                replace hr53 : Kd.F (Kd.int .i64) _ _ A53 y542.length y542 := (by rw [hA53]; exact hr53)
                rw [← hy53, ← hA53, ← hc53] at hcut53
                have HO546 := am (show Kd.V (Kd.int .i64) 3 _ w.heap.size _ (.slice A53 y542.length c53) y542 from Kd.V_mk (by rw [hy53, hc53]; exact Nat.sub_le_sub_right hroom53 _) hr53)
                have HC546 := am (show y542.length ≤ c53 from by rw [hy53, hc53]; exact Nat.sub_le_sub_right hroom53 _)
                clear hr53 hC53 hroom53 hi053 hsz53 hc53
                have KY53 := am hy53
                have KA53 := am hA53
                clear hy53 hA53
                replace q53 := eq_true q53
                go_wp2
                go_quiet (fail)
                go_wp2_with (first | (go_at_call 108; (with_reducible refine (impl_nodeInput.calls k2 x13_2 (rd x4_2 0) t547 _ A46.out).mono ?_); rintro e w54 ⟨v548, rfl, ho0, hb⟩; replace HO_4 := am (Kd.V_elder' (mv HO_4.out) (Kd.R_base ho0) hb); replace HO_12 := am (Kd.S_elder' (mv HO_12.out) (Kd.R_base ho0) hb); replace HO546 := am (Kd.V_elder' (mv HO546.out) (Kd.R_base ho0) hb); have HO549 := am (Kd.R_lower (Kd.R_newM (M := fun k_ => (w.heap.size ≤ k_)) ho0 (below_size (bt)) (fun k_ h_ => h_)) (below_size (bt))); replace HB := am (below_step (bt) hb); (try clear hb); (try clear hb2); (try clear hk); (try clear hi); (try clear ho0); obtain ⟨Ao56, co56, eo56⟩ := Kd.R_slice HO549.out; subst eo56) | ((with_reducible refine gate_builtin (b := .append) (xs := #[.tmp 72, .tmp 76]) rfl ?_); at_builtin; refine Kd.S_append (Kd.slice 5 (Kd.int .u8)) (w0 := w) w.heap.size rfl (.tmp 72) (.tmp 76) 24 22 (.slice none 0 0) 24 rfl Try.underlying24 info22 rfl (by decide) (by omega) u12 x12_2 t547 [.slice Ao56 t547.length co56] (fun k_ => (w.heap.size ≤ k_)) (fun k_ => some k_ = (.slice Ao56 t547.length co56 : Value).ownBlock) rfl rfl ?aP (fun k_ hk_ => ((Kd.R_mono (ok' := fun k_ => ((fun k_ => (w.heap.size ≤ k_))) k_ ∧ some k_ ≠ (u12 : Value).ownBlock) (Kd.R_apart' (HO549.out) (Kd.S_typed HO_12.out) (by decide)) (fun k_ hk => ⟨hk.1.1, hk.2⟩))).1 k_ hk_.symm) ?aF ?aO ?aB ?aS ?aL ?_; (case aP => exact Kd.M_row (Kd.R_mono (Kd.R_tight rfl (Kd.R_mono (ok' := fun k_ => ((fun k_ => (w.heap.size ≤ k_))) k_ ∧ some k_ ≠ (u12 : Value).ownBlock) (Kd.R_apart' (HO549.out) (Kd.S_typed HO_12.out) (by decide)) (fun k_ hk => ⟨hk.1.1, hk.2⟩))) (fun _ h_ => h_))); (case aB => exact (bt)); (case aF => exact (fun k_ hk => (Nat.le_trans (below_size (bt)) hk))); (case aO => exact (by (with_reducible repeat (first | apply Kd.S_alloc | apply Kd.S_drewN | apply Kd.S_drew)); exact Kd.S_mono HO_12.out (fun k_ hk => ⟨hk.1, fun e_ => hk.2 e_⟩))); (case aS => exact (below_size (bt))); (case aL => have := LMc47.out; omega); intro v551 w55 ho hb hg hat; rw [← Ny550.out] at ho; replace HO_4 := am (Kd.V_afterv (ok := (fun k_ => (P4_ k_ ∨ w.heap.size ≤ k_) ∧ some k_ ≠ (.slice Ao56 t547.length co56 : Value).ownBlock)) (by (with_reducible repeat (first | apply Kd.V_alloc | apply Kd.V_drewN | apply Kd.V_drew)); exact Kd.V_mono HO_4.out (fun _ hk => ⟨⟨hk.1.1, hk.2⟩, hk.1.2⟩)) hg hat); replace HO546 := am (Kd.V_afterv (ok := (fun k_ => (P4_ k_ ∨ w.heap.size ≤ k_) ∧ some k_ ≠ (.slice Ao56 t547.length co56 : Value).ownBlock)) (by (with_reducible repeat (first | apply Kd.V_alloc | apply Kd.V_drewN | apply Kd.V_drew)); exact Kd.V_mono HO546.out (fun _ hk => ⟨⟨hk.1.1, hk.2⟩, hk.1.2⟩)) hg hat); replace HB := am (hb); have HO552 := am (ho); clear HO_12 HO549; clear ho hb hg hat; obtain ⟨Ao57, co57, eo57⟩ := Kd.S_slice HO552.out; subst eo57; have p553 : 0 ≤ ((ji48) : Int) := of_decide_eq_true asm; have q553 : (ji48) < (y550.length : Int) := of_decide_eq_true asm; obtain ⟨ad553, A553_0, c553_0, e553, hx553_0, hl553_0, hi553_0⟩ := at_L1 (Kd.S_reads' HO552.out).2.2 (ji48) p553 q553; cases e553; obtain ⟨ce553, hce553, hMe553, hcc553⟩ := Kd.S_get HO552.out [] (ji48) p553 (by first | exact q553 | exact of_decide_eq_true asm | (have e_ := (Kd.S_reads' HO552.out).1; omega)); obtain ⟨ve553_0, rfl, ge553_0⟩ := hMe553; have hv553_0 := hcc553 0 _ rfl; rw [Nat.add_zero, show ((Kd.slice 5 (Kd.int .u8))).sz = 1 from rfl, Nat.mul_one] at hv553_0; replace hv553_0 := Option.some.inj (hv553_0.symm.trans hx553_0); rw [hv553_0] at ge553_0; have HL553_0 := am (show Kd.R (Kd.int .u8) 5 _ _ _ _ (rd_L1 y550 (ji48)) from ge553_0); clear hv553_0 ge553_0; clear hcc553 hce553; have HR553_0 := am hi553_0; have HC553_0 := am hl553_0; clear hi553_0 hl553_0; replace p553 := eq_true p553; replace q553 := eq_true q553) | (go_at_call 56; (with_reducible refine (impl_Digest.calls a0 _ _ (rd_L1 y550 (ji48)) t554 _ ?side1 ?side2 A51.out).mono ?_); (case side1 => repeat (first | exact (cv HR553_0.out) | (with_reducible refine Kd.C_alloc ?_ _) | (with_reducible refine Kd.C_drewN ?_ _) | (with_reducible refine Kd.C_drew ?_))); (case side2 => exact HC553_0.out); rintro e w58 ⟨rfl, hb⟩; replace HO_4 := am (Kd.V_below (mv HO_4.out) hb); replace HO546 := am (Kd.V_below (mv HO546.out) hb); replace HO552 := am (Kd.S_below (mv HO552.out) hb); replace HL553_0 := am (Kd.R_below (mv HL553_0.out) hb); replace HR553_0 := am (Kd.C_below (cv HR553_0.out) hb); replace HB := am (below_step (bt) hb); (try clear hb); (try clear hb2); (try clear hk); (try clear hi)))
                go_roundg k2
                case measure => have := HJ5.out; have := HK2.out; omega
                case rel => exact ⟨(wrap64 (Int.tdiv x2_2 2)), (y542), (y550), (t554), (wrap64 (Int.tdiv (wrap64 (x14_2 + 1)) 2)), (by first | rfl | (simp; done) | (simp [*]; done)), (by first | rfl | (simp; done) | (simp [*]; done)), (by first | rfl | (simp; done) | (simp [*]; done)), H', ⟨by have := HJ5.out; have := HK2.out; omega⟩, ⟨by (with_reducible repeat (first | apply Kd.V_alloc | apply Kd.V_drewN | apply Kd.V_drew)); exact Kd.V_mono HO546.out (fun _ hk => ⟨hk.1.1, hk.2⟩)⟩, ⟨mv HO552.out⟩, ⟨bt⟩⟩
               ·rw [if_neg c50] at H
                exact absurd H (by simp)
              ·rw [if_neg c49] at H
               exact absurd H (by simp)
             ·rw [if_neg c47] at H
              exact absurd H (by simp)
            ·rw [if_neg c45] at H
             exact absurd H (by simp)
          ·rw [if_neg c29] at H
           exact absurd H (by simp)
        ·rw [if_neg c26] at H
         have c26b0 : decide ((Go.bits .xor .i64 x2_2 1) < x14_2) = false := decide_eq_false c26
         clear c26
         have H' := am H
         clear H
         go_wp2
         go_roundg k2
         case measure => have := HJ5.out; have := HK2.out; omega
         case rel => exact ⟨(wrap64 (Int.tdiv x2_2 2)), (x4_2), (x12_2), (x13_2), (wrap64 (Int.tdiv (wrap64 (x14_2 + 1)) 2)), (by first | rfl | (simp; done) | (simp [*]; done)), (by first | rfl | (simp; done) | (simp [*]; done)), (by first | rfl | (simp; done) | (simp [*]; done)), H', ⟨by have := HJ5.out; have := HK2.out; omega⟩, ⟨mv HO_4.out⟩, ⟨mv HO_12.out⟩, ⟨bt⟩⟩
       ·rw [if_neg c25] at H
        have c25b0 : decide (1 < x14_2) = false := decide_eq_false c25
        clear c25
        replace H := Option.bind_eq_some_iff.mp H
        obtain ⟨t522, A590, H⟩ := H
        (try dsimp -simprocs only at H)
        have A59 := am A590
        clear A590
        by_cases c60 : x12_2.length < 5864062014805
        ·rw [if_pos c60] at H
         have LMc60 := am c60
         clear c60
         obtain ⟨y525, hy525⟩ : ∃ y_ : List (List Int), y_ = (x12_2 ++ [t522]) := ⟨_, rfl⟩
         replace H : (some (y525, ((x4_2.length : Int) == 0))) = some (r1, r2) := by first | (rw [hy525]; exact H) | exact H
         have Ny525 := am hy525
         clear hy525
         simp only [Option.some.injEq, Prod.mk.injEq] at H
         obtain ⟨rfl, rfl⟩ := H
         go_wp2_with (first | (go_at_call 105; (with_reducible refine (impl_topInput.calls k2 a1 x13_2 t522 _ A59.out).mono ?_); rintro e w61 ⟨v523, rfl, ho0, hb⟩; replace HO_4 := am (Kd.V_elder' (mv HO_4.out) (Kd.R_base ho0) hb); replace HO_12 := am (Kd.S_elder' (mv HO_12.out) (Kd.R_base ho0) hb); have HO524 := am (Kd.R_lower (Kd.R_newM (M := fun k_ => (w.heap.size ≤ k_)) ho0 (below_size (bt)) (fun k_ h_ => h_)) (below_size (bt))); replace HB := am (below_step (bt) hb); (try clear hb); (try clear hb2); (try clear hk); (try clear hi); (try clear ho0); obtain ⟨Ao63, co63, eo63⟩ := Kd.R_slice HO524.out; subst eo63) | ((with_reducible refine gate_builtin (b := .append) (xs := #[.tmp 88, .tmp 92]) rfl ?_); at_builtin; refine Kd.S_append (Kd.slice 5 (Kd.int .u8)) (w0 := w) w.heap.size rfl (.tmp 88) (.tmp 92) 24 22 (.slice none 0 0) 24 rfl Try.underlying24 info22 rfl (by decide) (by omega) u12 x12_2 t522 [.slice Ao63 t522.length co63] (fun k_ => (w.heap.size ≤ k_)) (fun k_ => some k_ = (.slice Ao63 t522.length co63 : Value).ownBlock) rfl rfl ?aP (fun k_ hk_ => ((Kd.R_mono (ok' := fun k_ => ((fun k_ => (w.heap.size ≤ k_))) k_ ∧ some k_ ≠ (u12 : Value).ownBlock) (Kd.R_apart' (HO524.out) (Kd.S_typed HO_12.out) (by decide)) (fun k_ hk => ⟨hk.1.1, hk.2⟩))).1 k_ hk_.symm) ?aF ?aO ?aB ?aS ?aL ?_; (case aP => exact Kd.M_row (Kd.R_mono (Kd.R_tight rfl (Kd.R_mono (ok' := fun k_ => ((fun k_ => (w.heap.size ≤ k_))) k_ ∧ some k_ ≠ (u12 : Value).ownBlock) (Kd.R_apart' (HO524.out) (Kd.S_typed HO_12.out) (by decide)) (fun k_ hk => ⟨hk.1.1, hk.2⟩))) (fun _ h_ => h_))); (case aB => exact (bt)); (case aF => exact (fun k_ hk => (Nat.le_trans (below_size (bt)) hk))); (case aO => exact (by (with_reducible repeat (first | apply Kd.S_alloc | apply Kd.S_drewN | apply Kd.S_drew)); exact Kd.S_mono HO_12.out (fun k_ hk => ⟨hk.1, fun e_ => hk.2 e_⟩))); (case aS => exact (below_size (bt))); (case aL => have := LMc60.out; omega); intro v526 w62 ho hb hg hat; rw [← Ny525.out] at ho; replace HO_4 := am (Kd.V_afterv (ok := (fun k_ => (P4_ k_ ∨ w.heap.size ≤ k_) ∧ some k_ ≠ (.slice Ao63 t522.length co63 : Value).ownBlock)) (by (with_reducible repeat (first | apply Kd.V_alloc | apply Kd.V_drewN | apply Kd.V_drew)); exact Kd.V_mono HO_4.out (fun _ hk => ⟨⟨hk.1.1, hk.2⟩, hk.1.2⟩)) hg hat); replace HB := am (hb); have HO527 := am (ho); clear HO_12 HO524; clear ho hb hg hat; obtain ⟨Ao64, co64, eo64⟩ := Kd.V_slice HO_4.out; subst eo64))
         go_ret2
         exact ⟨_, by first | rfl | (simp [errW_none, errW_some] <;> rfl) | (simp [*, errW_none, errW_some] <;> rfl), by (with_reducible repeat (first | apply Kd.S_alloc | apply Kd.S_drewN | apply Kd.S_drew)); exact HO527.out, bt⟩
        ·rw [if_neg c60] at H
         exact absurd H (by simp)
    ·rw [if_neg c17] at H
     exact absurd H (by simp)

/-! ### impl_lastOf: function 69 -/
def impl_lastOf.f (a0 : Int) (l1 : List (List Int)) (a2 : Bool) : Option (Int) := if a2 = true then (if 0 ≤ (wrap64 ((l1.length : Int) - 1)) then (if (wrap64 ((l1.length : Int) - 1)) < (l1.length : Int) then ((impl_Digest.f a0 (rd_L1 l1 (wrap64 ((l1.length : Int) - 1)))).bind fun t556 => (some t556)) else (none)) else (none)) else (some (-1))
set_option maxHeartbeats 8000000 in
set_option maxRecDepth 100000 in
theorem impl_lastOf.calls (a0 : Int) (A1 : Option Addr) (c1 : Nat) (l1 : List (List Int)) (a2 : Bool) (r : Int) (w : World) (hr1 : Kd.C (Kd.slice 5 (Kd.int .u8)) w A1 l1.length l1) (hc1 : l1.length ≤ c1) (h : impl_lastOf.f a0 l1 a2 = some r) :
  Calls Try.prog 69 #[.int .i64 a0, .slice A1 l1.length c1, .bool a2] w fun e w' => e = .returned (.int .i64 r) ∧ Below w.heap.size w w' := by
 have HR1 := am hr1
 have HC1 := am hc1
 clear hr1 hc1
 have HB := am (Below.refl w.heap.size w)
 have H : (if a2 = true then (if 0 ≤ (wrap64 ((l1.length : Int) - 1)) then (if (wrap64 ((l1.length : Int) - 1)) < (l1.length : Int) then ((impl_Digest.f a0 (rd_L1 l1 (wrap64 ((l1.length : Int) - 1)))).bind fun t556 => (some t556)) else (none)) else (none)) else (some (-1))) = some r := h
 clear h
 by_cases c4 : a2 = true
 ·subst c4
  rw [if_pos rfl] at H
  obtain ⟨ji5, hji5⟩ : ∃ j_ : Int, (wrap64 ((l1.length : Int) - 1)) = j_ := ⟨_, rfl⟩
  replace H : (if 0 ≤ (ji5) then (if (ji5) < (l1.length : Int) then ((impl_Digest.f a0 (rd_L1 l1 (ji5))).bind fun t556 => (some t556)) else (none)) else (none)) = some r := by first | (rw [hji5] at H; exact H) | (simp only [hji5] at H ⊢; exact H)
  have hji5w : (IntKind.i64.wrap ((l1.length : Int) - 1)) = ji5 := (i64_w _).trans hji5
  by_cases c6 : 0 ≤ (ji5)
  ·rw [if_pos c6] at H
   have c6b0 : decide (0 ≤ (ji5)) = true := decide_eq_true c6
   clear c6
   by_cases c7 : (ji5) < (l1.length : Int)
   ·rw [if_pos c7] at H
    have c7b0 : decide ((ji5) < (l1.length : Int)) = true := decide_eq_true c7
    clear c7
    replace H := Option.bind_eq_some_iff.mp H
    obtain ⟨t556, A80, H⟩ := H
    (try dsimp -simprocs only at H)
    have A8 := am A80
    clear A80
    obtain rfl := Option.some.inj H
    have p555 : 0 ≤ ((ji5) : Int) := of_decide_eq_true asm
    have q555 : (ji5) < (l1.length : Int) := of_decide_eq_true asm
    obtain ⟨ad555, A555_0, c555_0, e555, hx555_0, hl555_0, hi555_0⟩ := at_L1 HR1.out (ji5) p555 q555
    cases e555
    have HR555_0 := am hi555_0
    have HC555_0 := am hl555_0
    clear hi555_0 hl555_0
    replace p555 := eq_true p555
    replace q555 := eq_true q555
    go_enter Try.func69, Try.ntmps69
    go_wp2_with (first | ((with_reducible refine gate_callee (f := 56) rfl ?_); refine goesL_ (some 16) rfl rfl Try.func56 (by kernel_rfl) rfl #[.int .i64 a0, .slice A555_0 (rd_L1 l1 (ji5)).length c555_0] rfl (by (try simp only [List.map_toArray, List.map_cons, List.map_nil]); first | done | (simp only [hji5]; rfl) | rfl | (simp only [List.length_drop, List.length_take]; rfl)) ?_; (with_reducible refine (impl_Digest.calls a0 _ _ (rd_L1 l1 (ji5)) t556 _ ?side1 ?side2 A8.out).mono ?_); (case side1 => exact cv (HR555_0.out)); (case side2 => exact HC555_0.out); rintro e w9 ⟨rfl, hb⟩; refine ⟨_, rfl, ?_⟩; replace HB := am (below_step (bt) hb); (try clear hb); (try clear hb2); (try clear hk); (try clear hi)))
    go_ret
    exact ⟨by first | rfl | (simp [errW_none, errW_some] <;> rfl) | (simp only [← hji5]; first | rfl | (simp [errW_none, errW_some] <;> rfl)) | (simp [*, errW_none, errW_some] <;> rfl), bt⟩
   ·rw [if_neg c7] at H
    exact absurd H (by simp)
  ·rw [if_neg c6] at H
   exact absurd H (by simp)
 ·replace c4 := Bool.eq_false_iff.mpr c4
  subst c4
  rw [if_neg (show ¬ (false = true) by decide)] at H
  obtain rfl := Option.some.inj H
  go_enter Try.func69, Try.ntmps69
  go_wp2
  go_ret
  exact ⟨by first | rfl | (simp [errW_none, errW_some] <;> rfl) | (simp [*, errW_none, errW_some] <;> rfl), bt⟩

/-! ### bytes_Clone: function 61 -/
def bytes_Clone.f (l0 : List Int) : Option (List Int) := if l0.length < 140737488355328 then some l0 else none
set_option maxHeartbeats 4000000 in
set_option maxRecDepth 100000 in
theorem bytes_Clone.calls (A0 : Option Addr) (c0 : Nat) (l0 : List Int) (r : List Int) (w : World) (hr0 : Kd.C (Kd.int .u8) w A0 l0.length l0) (hc0 : l0.length ≤ c0) (h : bytes_Clone.f l0 = some r) :
  Calls Try.prog 61 #[.slice A0 l0.length c0] w fun e w' => ∃ v0_ : Value, e = .returned (v0_) ∧ Kd.R (Kd.int .u8) 5 w' w.heap.size (fun _ => True) v0_ r ∧ Below w.heap.size w w' := by
 unfold bytes_Clone.f at h
 by_cases hl : l0.length < 140737488355328
 ·rw [if_pos hl] at h
  obtain rfl := Option.some.inj h
  have HR0 := am hr0
  have LM := am hl
  have hq := fun W : World => Go.Lib.run_eql_slice_nil (P := Try.prog) W 22 5 A0 l0.length c0 0 0 Try.underlying22
  clear hr0 h hl
  cases A0 with
  | none =>
   have hz : l0 = [] := by
    obtain ⟨_, _, h3⟩ := HR0.out
    cases l0 with
    | nil => rfl
    | cons x l =>
     obtain ⟨ad, e, _⟩ := h3 (by simp)
     cases e
   have HZ := am hz
   clear hz
   have hq1 := hq
   simp only [Option.isNone_none] at hq1
   clear hq
   go_enter Try.func61, Try.ntmps61
   go_wp2
   go_ret
   exact ⟨_, rfl, by rw [HZ.out]; exact Kd.R_nil _ _ _ _ _, Below.refl _ _⟩
  | some ad =>
   have hq1 := hq
   simp only [Option.isNone_some] at hq1
   clear hq
   have HB := am (Below.refl w.heap.size w)
   go_enter Try.func61, Try.ntmps61
   go_wp2_with (first | ((with_reducible refine gate_dst (N := 5) rfl ?_); refine Kd.R_lit (Kd.int .u8) _ 5 ?hg (N := 5) ?hd (xs := ([] : List Int)) (inner := []) (ok := fun _ => True) (okp := fun _ => True) ?hr ?hp (fun _ hk => hk) trivial (Below.refl _ _) (Nat.le_refl _) (by simp) ?_; (case hd => rfl); (case hg => rfl); (case hr => first | (go_simp; done) | (go_simp; rfl)); (case hp => exact (Reps.none _ _)); intro v166 w3 ho4 hb hg_ hnew_; clear hg_ hnew_; have HO167 := am (Kd.R_lower ho4 (below_size (bt))); replace HB := am (below_step (bt) hb); clear hb ho4) | ((with_reducible refine gate_builtin (b := .append) (xs := #[.tmp 5, .tmp 6]) rfl ?_); at_builtin; refine Kd.R_append_rows (Kd.int .u8) (w0 := w) w.heap.size rfl (.tmp 5) (.tmp 6) 22 5 (.int .u8 0) 1 rfl Try.underlying22 info5 rfl (by decide) (by omega) v166 [] l0 _ _ _ (fun _ => True) (fun _ => False) rfl rfl ?aO ?aR (fun _ _ h => h) (fun _ h => h.elim) ?aF ?aB ?aS ?aL ?_; (case aR => exact (Kd.C_below HR0.out HB.out)); (case aB => exact HB.out); (case aF => exact (fun _ _ => trivial)); (case aO => exact HO167.out); (case aS => exact (below_size HB.out)); (case aL => have := LM.out; simp; omega); intro v169 w5 ho hb hg hat; replace HB := am (hb); have HO170 := am (ho); clear HO167; clear ho hb hg hat))
   go_ret
   exact ⟨_, rfl, HO170.out, HB.out⟩
 ·rw [if_neg hl] at h
  cases h

/-! ### impl_pairOf: function 71 -/
def impl_pairOf.f (l0 : List Int) (l1 : List Int) : Option (List Int × List Int) := (bytes_Clone.f l0).bind fun t558 => ((bytes_Clone.f l1).bind fun t561 => (some (t558, t561)))
set_option maxHeartbeats 8000000 in
set_option maxRecDepth 100000 in
theorem impl_pairOf.calls (A0 : Option Addr) (c0 : Nat) (l0 : List Int) (A1 : Option Addr) (c1 : Nat) (l1 : List Int) (r1 : List Int) (r2 : List Int) (w : World) (hr0 : Kd.C (Kd.int .u8) w A0 l0.length l0) (hc0 : l0.length ≤ c0) (hr1 : Kd.C (Kd.int .u8) w A1 l1.length l1) (hc1 : l1.length ≤ c1) (h : impl_pairOf.f l0 l1 = some (r1, r2)) :
  Calls Try.prog 71 #[.slice A0 l0.length c0, .slice A1 l1.length c1] w fun e w' => ∃ v0_ v1_ : Value, e = .returned (.agg #[v0_, v1_]) ∧ Kd.R (Kd.int .u8) 5 w' w.heap.size (fun k_ => some k_ ≠ (v1_ : Value).ownBlock) v0_ r1 ∧ Kd.R (Kd.int .u8) 5 w' w.heap.size (fun k_ => some k_ ≠ (v0_ : Value).ownBlock) v1_ r2 ∧ Below w.heap.size w w' := by
 have hu33 := Try.underlying33
 have HR0 := am hr0
 have HC0 := am hc0
 clear hr0 hc0
 have HR1 := am hr1
 have HC1 := am hc1
 clear hr1 hc1
 have HB := am (Below.refl w.heap.size w)
 have H : ((bytes_Clone.f l0).bind fun t558 => ((bytes_Clone.f l1).bind fun t561 => (some (t558, t561)))) = some (r1, r2) := h
 clear h
 replace H := Option.bind_eq_some_iff.mp H
 obtain ⟨t558, A30, H⟩ := H
 (try dsimp -simprocs only at H)
 have A3 := am A30
 clear A30
 replace H := Option.bind_eq_some_iff.mp H
 obtain ⟨t561, A40, H⟩ := H
 (try dsimp -simprocs only at H)
 have A4 := am A40
 clear A40
 simp only [Option.some.injEq, Prod.mk.injEq] at H
 obtain ⟨rfl, rfl⟩ := H
 go_enter Try.func71, Try.ntmps71
 go_wp2_with (first | ((with_reducible refine gate_dst (N := 4) rfl ?_); refine box_event ?hg (N := 4) ?hd (cs := #[.slice none 0 0, .slice none 0 0]) (t := 33) ?hr ?_; (case hd => rfl); (case hg => rfl); (case hr => first | (go_simp; done) | (go_simp; rfl)); intro gb557 hg w5 hbox hb; have BK557 := am (hbox); have GW557 := am ((by rw [hg]; exact (below_size (bt)) : w.heap.size ≤ gb557)); have GE557 := am ((by rw [hg]; exact (below_size (bt)) : w.heap.size ≤ gb557)); replace HB := am (below_step (bt) hb); clear hb hbox hg) | ((with_reducible refine gate_callee (f := 61) rfl ?_); refine goesL_ (some 6) rfl rfl Try.func61 (by kernel_rfl) rfl #[.slice A0 l0.length c0] rfl av ?_; (with_reducible refine (bytes_Clone.calls _ _ l0 t558 _ ?side1 ?side2 A3.out).mono ?_); (case side1 => exact cv ((Kd.C_below HR0.out HB.out))); (case side2 => exact HC0.out); rintro e w6 ⟨v559, rfl, ho0, hb⟩; refine ⟨_, rfl, ?_⟩; have HO560 := am (Kd.R_lower ho0 (below_size (b1 GE557.out))); replace BK557 := am (blk_below (g := gb557) (o := .cells #[.slice none 0 0, .slice none 0 0] 33 (0, 0)) (mb BK557.out) hb); replace HB := am (below_step (b1 GE557.out) hb); (try clear hb); (try clear hb2); (try clear hk); (try clear hi); (try clear ho0)) | ((with_reducible refine gate_callee (f := 61) rfl ?_); refine goesL_ (some 8) rfl rfl Try.func61 (by kernel_rfl) rfl #[.slice A1 l1.length c1] rfl av ?_; (with_reducible refine (bytes_Clone.calls _ _ l1 t561 _ ?side1 ?side2 A4.out).mono ?_); (case side1 => exact cv ((Kd.C_below HR1.out HB.out))); (case side2 => exact HC1.out); rintro e w7 ⟨v562, rfl, ho0, hb⟩; refine ⟨_, rfl, ?_⟩; have HO563 := am (Kd.R_lower (Kd.R_new' ho0 (Kd.R_lt (mv HO560.out))) (below_size (b1 GE557.out))); replace HO560 := am (Kd.R_elder' (mv HO560.out) (Kd.R_base ho0) hb); replace BK557 := am (blk_below (g := gb557) (o := .cells #[.slice none 0 0, .slice none 0 0] 33 (0, 0)) (mb BK557.out) hb); replace HB := am (below_step (b1 GE557.out) hb); (try clear hb); (try clear hb2); (try clear hk); (try clear hi); (try clear ho0); obtain ⟨Ao8, co8, eo8⟩ := Kd.R_slice HO563.out; subst eo8; obtain ⟨Ao9, co9, eo9⟩ := Kd.R_slice HO560.out; subst eo9; have hcz10_0 : w7.cell? ⟨gb557, 0, none⟩ = some (.slice none 0 0) := (blk_cell BK557.out 0).trans rfl; have hcz10_1 : w7.cell? ⟨gb557, 1, none⟩ = some (.slice none 0 0) := (blk_cell BK557.out 1).trans rfl; have hfz10_0 := blk_frozen BK557.out 0; have hfz10_1 := blk_frozen BK557.out 1))
 refine bodyPost_ret (results_cell_row rfl _ _ gb557 33 #[.slice Ao9 t558.length co9, .slice Ao8 t561.length co8] (0, 0) _ rfl (by (with_reducible repeat (first | refine blk_drewN ?_ _ | refine blk_drew ?_ | refine blk_alloc ?_ _)); refine blk_put (cs := #[.slice Ao9 t558.length co9, .slice none 0 0]) ?_ 1 _ rfl; (with_reducible repeat (first | refine blk_drewN ?_ _ | refine blk_drew ?_ | refine blk_alloc ?_ _)); refine blk_put (cs := #[.slice none 0 0, .slice none 0 0]) ?_ 0 _ rfl; (with_reducible repeat (first | refine blk_drewN ?_ _ | refine blk_drew ?_ | refine blk_alloc ?_ _)); exact BK557.out) Try.underlying33 rfl (by kernel_rfl)) rfl ?_
 exact ⟨_, _, by first | rfl | (simp [errW_none, errW_some] <;> rfl) | (simp [*, errW_none, errW_some] <;> rfl), by (with_reducible repeat (first | apply Kd.R_alloc | apply Kd.R_drewN | apply Kd.R_drew)); exact Kd.R_mono (Kd.R_far (p := ⟨gb557, 1, none⟩) (Kd.R_far (p := ⟨gb557, 0, none⟩) (Kd.R_types HO560.out BK557.out (by decide)) (fun _ hk => hk.2) (.slice Ao9 t558.length co9)) (fun _ hk => hk.2) (.slice Ao8 t561.length co8)) (fun _ hk => hk.1.2), by (with_reducible repeat (first | apply Kd.R_alloc | apply Kd.R_drewN | apply Kd.R_drew)); exact Kd.R_mono (Kd.R_far (p := ⟨gb557, 1, none⟩) (Kd.R_far (p := ⟨gb557, 0, none⟩) (Kd.R_types HO563.out BK557.out (by decide)) (fun _ hk => hk.2) (.slice Ao9 t558.length co9)) (fun _ hk => hk.2) (.slice Ao8 t561.length co8)) (fun _ hk => hk.1.2), b1 GE557.out⟩

end Go.Proofs.Ytchjajbkaiefdaa.PFnForgery
