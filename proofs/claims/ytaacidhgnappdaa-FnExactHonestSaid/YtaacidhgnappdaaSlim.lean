/- Short names for steps that a printed walk takes often: each proves its goal by the tactic that it bears. -/
import Derived.Test.YtaacidhgnappdaaWWords
import Derived.Test.YtaacidhgnappdaaWMore
import Derived.WalkKit
namespace Go.Proofs.Ytaacidhgnappdaa.Slim
open Go.RowKit Go.Proofs.YtaacidhgnappdaaW.PrintWords Go.Proofs.YtaacidhgnappdaaW.PrintMore
/-- What was made since the call's begin leaves what was there as it was. -/
theorem bt {q : Prop} (h : q := by repeat (first | (with_reducible first | exact HB.out | apply below_alloc | apply pw_below_drewN | apply below_drew1) | exact HB.out)) : q := h
/-- A row reads on over what was made and drawn since. -/
theorem mv {p q : Prop} (h : p) (e : p → q := by intro h_; (with_reducible repeat (first | apply Kd.R_alloc | apply Kd.R_drewN | apply Kd.R_drew | apply Kd.S_alloc | apply Kd.S_drewN | apply Kd.S_drew | apply Kd.N_alloc | apply Kd.N_drewN | apply Kd.N_drew | apply Kd.V_alloc | apply Kd.V_drewN | apply Kd.V_drew)); exact h_) : q := e h
theorem mb {p q : Prop} (h : p) (e : p → q := by intro h_; (with_reducible repeat (first | refine blk_drewN ?_ _ | refine blk_drew ?_ | refine blk_alloc ?_ _)); exact h_) : q := e h
theorem cv {p q : Prop} (h : p) (e : p → q := by intro h_; repeat (first | exact h_ | (with_reducible refine Kd.C_alloc ?_ _) | (with_reducible refine Kd.C_drewN ?_ _) | (with_reducible refine Kd.C_drew ?_))) : q := e h
theorem er {q : Prop} (h : q := by first | rfl | (simp [*]; done)) : q := h
theorem asm {q : Prop} (h : q := by first | (with_reducible assumption) | assumption) : q := h
theorem av {q : Prop} (h : q := by (try simp only [List.map_toArray, List.map_cons, List.map_nil]); first | done | rfl | (simp only [List.length_drop, List.length_take]; rfl)) : q := h
end Go.Proofs.Ytaacidhgnappdaa.Slim
