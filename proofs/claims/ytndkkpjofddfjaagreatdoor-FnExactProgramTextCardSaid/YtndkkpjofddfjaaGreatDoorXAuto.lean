/-
  Steps of the walks that are said often, each as a lemma whose last argument is found by a script; no condition.
-/
import Derived.Test.YtndkkpjofddfjaaGreatDoorWWords
import Derived.Test.YtndkkpjofddfjaaGreatDoorWLast
import Derived.Test.YtndkkpjofddfjaaGreatDoorWN
import Derived.Test.YtndkkpjofddfjaaGreatDoorWMore
namespace Go.Proofs.YtndkkpjofddfjaaGreatDoorW.PrintWords
open Go.RowKit Go.Proofs.YtndkkpjofddfjaaGreatDoorW.PrintLast Go.Proofs.YtndkkpjofddfjaaGreatDoorW.PrintMore
theorem Ba {p q0 : Prop} (h0 : q0) (f : q0 → p := by intro h0_; (with_reducible repeat (first | refine blk_drewN ?_ _ | refine blk_drew ?_ | refine blk_alloc ?_ _)); exact h0_) : p := f h0
theorem Bb0 {p q0 : Prop} (h0 : q0) (f : q0 → p := by intro h0_; repeat (first | (with_reducible first | exact h0_ | apply below_alloc | apply pw_below_drewN | apply below_drew1) | exact h0_)) : p := f h0
theorem Bb1 {p q0 q1 : Prop} (h0 : q0) (h1 : q1) (f : q0 → q1 → p := by intro h0_ h1_; repeat (first | (with_reducible first | exact h0_ | apply below_alloc | apply pw_below_drewN | apply below_drew1 | refine below_set ?_ h1_) | exact h0_)) : p := f h0 h1
theorem Bb2 {p q0 q1 q2 : Prop} (h0 : q0) (h1 : q1) (h2 : q2) (f : q0 → q1 → q2 → p := by intro h0_ h1_ h2_; repeat (first | (with_reducible first | exact h0_ | apply below_alloc | apply pw_below_drewN | apply below_drew1 | refine below_set ?_ h1_ | refine below_set ?_ h2_) | exact h0_)) : p := f h0 h1 h2
theorem Bb3 {p q0 q1 q2 q3 : Prop} (h0 : q0) (h1 : q1) (h2 : q2) (h3 : q3) (f : q0 → q1 → q2 → q3 → p := by intro h0_ h1_ h2_ h3_; repeat (first | (with_reducible first | exact h0_ | apply below_alloc | apply pw_below_drewN | apply below_drew1 | refine below_set ?_ h1_ | refine below_set ?_ h2_ | refine below_set ?_ h3_) | exact h0_)) : p := f h0 h1 h2 h3
theorem Bb4 {p q0 q1 q2 q3 q4 : Prop} (h0 : q0) (h1 : q1) (h2 : q2) (h3 : q3) (h4 : q4) (f : q0 → q1 → q2 → q3 → q4 → p := by intro h0_ h1_ h2_ h3_ h4_; repeat (first | (with_reducible first | exact h0_ | apply below_alloc | apply pw_below_drewN | apply below_drew1 | refine below_set ?_ h1_ | refine below_set ?_ h2_ | refine below_set ?_ h3_ | refine below_set ?_ h4_) | exact h0_)) : p := f h0 h1 h2 h3 h4
theorem Br {p q0 : Prop} (h0 : q0) (f : q0 → p := by intro h0_; (with_reducible repeat (first | apply Kd.R_alloc | apply Kd.R_drewN | apply Kd.R_drew)); exact h0_) : p := f h0
theorem Bn {p q0 : Prop} (h0 : q0) (f : q0 → p := by intro h0_; (with_reducible repeat (first | apply Kd.N_alloc | apply Kd.N_drewN | apply Kd.N_drew)); exact h0_) : p := f h0
theorem Bc {p q0 : Prop} (h0 : q0) (f : q0 → p := by intro h0_; (with_reducible repeat (first | apply Kd.C_alloc | apply Kd.C_drewN | apply Kd.C_drew)); exact h0_) : p := f h0
end Go.Proofs.YtndkkpjofddfjaaGreatDoorW.PrintWords
