/- A part of the walk through the printed functions; no condition. -/
import Derived.Test.YtoljagpjejpmpaaXAuto
import Derived.Test.YtoljagpjejpmpaaPFnExactParseFormulax0
import Derived.Test.YtoljagpjejpmpaaPFnExactParseFormulax6
import Derived.Test.YtoljagpjejpmpaaPFnExactParseFormulax7
namespace Go.Proofs.Ytoljagpjejpmpaa.PFnExactParseFormula
open Go.RowKit Go.Proofs.YtoljagpjejpmpaaW.PrintWords Go.Proofs.YtoljagpjejpmpaaW.PrintLast Go.Proofs.YtoljagpjejpmpaaW.PrintMore
attribute [local go_sem] max2_int min2_int max_two min_two max_three min_three max_four min_four
set_option maxHeartbeats 32000000
set_option maxRecDepth 100000
attribute [local irreducible] Go.World.setCell
set_option linter.unusedVariables false
set_option linter.unusedSimpArgs false
open Go.Proofs.YtoljagpjejpmpaaW.PrintWords.Aside0 renaming mk → Qa
open Go.Proofs.YtoljagpjejpmpaaW.PrintWords renaming gate_callee → Qc, Aside0 → Qf, gate_dst → Qp, below_size → Qv
open Go.Proofs.Try renaming underlying32 → Qh, prog → Qk
open Go.Proofs.YtoljagpjejpmpaaW.PrintWords.Drawn0 renaming refl → Qi, step → Qj
def impl_ParseFormula.f (k : Nat) (l0 : List ByteArray) (a1 : ByteArray) : Option (Int × Int × Int × Int × (List (S32)) × Bool) := (impl_formulaReader_read.f k l0 a1 0).bind fun bt43 => (if bt43.2.2.2.2.2.1 = true then ((impl_FormulaText.f k l0 bt43.1 bt43.2.1 bt43.2.2.1 bt43.2.2.2.1 bt43.2.2.2.2.1).bind fun t55 => (if t55.toList = a1.toList then (some (bt43.1, bt43.2.1, bt43.2.2.1, bt43.2.2.2.1, bt43.2.2.2.2.1, true)) else (some (0, 0, 0, 0, ([] : List (S32)), false)))) else (some (0, 0, 0, 0, ([] : List (S32)), false)))
theorem impl_ParseFormula.mono : ∀ a0 a1 k, LeO (impl_ParseFormula.f k a0 a1) (impl_ParseFormula.f (k + 1) a0 a1) := by
 intro a0 a1 k
 unfold impl_ParseFormula.f
 exact Lm2 impl_FormulaText.mono impl_formulaReader_read.mono
theorem impl_ParseFormula.calls (k : Nat) (A0 : Option Addr) (c0 : Nat) (l0 : List ByteArray) (a1 : ByteArray) (r1 : Int) (r2 : Int) (r3 : Int) (r4 : Int) (r5 : List (S32)) (r6 : Bool) (w : World) (hr0 : Kd.C Kd.string w A0 l0.length l0) (hc0 : l0.length ≤ c0) (h : impl_ParseFormula.f k l0 a1 = some (r1, r2, r3, r4, r5, r6)) :
  Calls Qk 18 #[.slice A0 l0.length c0, .string a1] w fun e w' => ∃ v4_ : Value, e = .returned (.tuple #[.agg #[.int .i64 r1, .int .i64 r2, .int .i64 r3, .int .i64 r4, v4_], .bool r6]) ∧ T32 w' w.heap.size (fun k_ => (w.heap.size ≤ k_)) v4_ r5 ∧ Below w.heap.size w w' := by
 have hu32 := Qh
 have hu72 := Try.underlying72
 have HR0 := Qa hr0
 have HC0 := Qa hc0
 clear hr0 hc0
 have HB := Qa (Below.refl w.heap.size w)
 have H : ((impl_formulaReader_read.f k l0 a1 0).bind fun bt43 => (if bt43.2.2.2.2.2.1 = true then ((impl_FormulaText.f k l0 bt43.1 bt43.2.1 bt43.2.2.1 bt43.2.2.2.1 bt43.2.2.2.2.1).bind fun t55 => (if t55.toList = a1.toList then (some (bt43.1, bt43.2.1, bt43.2.2.1, bt43.2.2.2.1, bt43.2.2.2.2.1, true)) else (some (0, 0, 0, 0, ([] : List (S32)), false)))) else (some (0, 0, 0, 0, ([] : List (S32)), false)))) = some (r1, r2, r3, r4, r5, r6) := h
 clear h
 obtain ⟨⟨t43, t50, t51, t52, t48, t63, t53, t54⟩, A3, H⟩ := Ob H
 (try dsimp only at H)
 by_cases c4 : t63 = true
 ·subst c4
  rw [if_pos rfl] at H; obtain ⟨t55, A5, H⟩ := Ob H; (try dsimp only at H)
  by_cases c6 : t55.toList = a1.toList
  ·rw [if_pos c6] at H; have c6b0 := beq_iff_eq.mpr c6; have c6b1 := bne_eq_false_iff_eq.mpr c6; clear c6; simp only [Option.some.injEq, Prod.mk.injEq] at H; obtain ⟨rfl, rfl, rfl, rfl, rfl, rfl⟩ := H; go_enter Try.func18, Try.ntmps18; go_wp2_with (first | ((with_reducible refine Qp (N := 4) rfl ?_); refine Bz5 4 32 ?_; intro gb40 hg w7 hbox hb; have BK40 := Qa (hbox); have GW40 := Gs (w := w) hg (Bb0 HB.out); have GE40 := GW40; replace HB := Sb (Bb0 HB.out) hb; clear hb hbox hg) | ((with_reducible refine Qp (N := 12) rfl ?_); refine Bx (N := 12) (cs := #[.slice A0 l0.length c0, .string a1, .int .i64 0]) (t := 72) ?_; intro gb42 hg w8 hbox hb; have BK42 := Qa (hbox); have GW42 := Gs (w := w) hg (Bb1 HB.out GE40.out); have GE42 := GW42; replace HB := Sb (Bb1 HB.out GE40.out) hb; have NB40_42 := Nl hg BK40; have NB42_40 := Ng hg BK40; replace BK40 := Kb BK40 hb; clear hb hbox hg; have HI264 := Qa (show IsS72 w _ gb42 l0 a1 0 from ⟨_, _, BK42.out, GW42.out, ⟨HR0.out, HC0.out⟩⟩); clear BK42) | ((with_reducible refine Qc (f := 52) rfl ?_); refine Gl 15 Try.func52 #[.pointer (some ⟨gb42, 0, none⟩)] ?_; (with_reducible refine (impl_formulaReader_read.calls k gb42 l0 a1 0 t43 t50 t51 t52 t48 true t53 t54 w _ ?_ ?_ A3.out).mono ?_); exact I72x1 HI264.out NB42_40.out; exact Bb2 HB.out (IsS72.ge HI264.out) GE40.out; rintro e w9 ⟨v62, rfl, ho0, hi, hb, hk⟩; refine ⟨_, rfl, ?_⟩; have HO46 := Qa (T32_lower (T32_mono (ok' := fun k_ => (w.heap.size ≤ k_) ∧ k_ ≠ gb40 ∧ k_ ≠ gb42) ho0 (fun k_ hk_ => ⟨(Nat.le_trans (Qv (Bb2 HB.out (IsS72.ge HI264.out) GE40.out)) hk_), (Fb BK40 k_ hk_), (IsS72.fresh (I72x1 HI264.out NB42_40.out) k_ hk_)⟩)) (Qv (Bb2 HB.out (IsS72.ge HI264.out) GE40.out))); replace BK40 := Kc hk BK40 NB40_42; replace HB := Qa (hb); replace HI264 := Qa (hi); clear hb hk hi; (try clear ho0)) | ((with_reducible refine Qp (N := 7) rfl ?_); refine Bz5 7 32 ?_; intro gb41 hg w10 hbox hb; replace HO46 := Qa (T32_below (T32_elderB (by (with_reducible repeat (first | apply T32_alloc | apply T32_drewN | apply T32_drew)); exact HO46.out) gb41 (Nat.le_of_eq hg.symm)) hb); have BK41 := Qa (hbox); have GW41 := Qa ((by rw [hg]; exact (Qv (Bb2 HB.out (IsS72.ge HI264.out) GE40.out)) : w.heap.size ≤ gb41)); have GE41 := Qa ((by rw [hg]; exact (Qv (Bb2 HB.out (IsS72.ge HI264.out) GE40.out)) : w.heap.size ≤ gb41)); replace HB := Sb (Bb2 HB.out (IsS72.ge HI264.out) GE40.out) hb; have NB40_41 := Nl hg BK40; have NB41_40 := Ng hg BK40; replace BK40 := Kb BK40 hb; have NB42_41 := Qa ((by rw [hg]; exact Nat.ne_of_lt (IsS72.lt (show IsS72 w _ gb42 l0 t53 t54 from I72x1 HI264.out NB42_40.out)) : gb42 ≠ gb41)); have NB41_42 := Qa ((by rw [hg]; exact Nat.ne_of_gt (IsS72.lt (show IsS72 w _ gb42 l0 t53 t54 from I72x1 HI264.out NB42_40.out)) : gb41 ≠ gb42)); replace HI264 := Qa (IsS72.below (I72x1 HI264.out NB42_40.out) hb); clear hb hbox hg; have hnb11 := NB41_40.out; have hnc11 := NB40_41.out; have hnb12 := NB41_42.out; have hnc12 := NB42_41.out; obtain ⟨q13_0, q13_1, q13_2, q13_3, q13_4, u13_0, u13_1, u13_2, u13_3, u13_4⟩ := Cf5 BK41; obtain ⟨Ao14, co14, eo14⟩ := T32_slice HO46.out; subst eo14) | (go_at_call 13; (with_reducible refine (impl_FormulaText.calls k _ _ l0 t43 t50 t51 t52 _ _ t48 t55 _ ?side1 ?side2 ?side3 ?side4 A5.out).mono ?_); (case side1 => exact Kd.C_below HR0.out (Bb3 HB.out (IsS72.ge HI264.out) GE40.out GE41.out)); (case side2 => exact HC0.out); (case side3 => refine (T32_reads' (base := w.heap.size) (ok := fun k_ => (((w.heap.size ≤ k_) ∧ (k_ ≠ gb40 ∧ k_ ≠ gb42)) ∧ k_ ≠ gb41)) (n := t48.length) (c := co14) ?_).2.2; exact (by (with_reducible repeat (first | apply T32_alloc | apply T32_drewN | apply T32_drew)); exact (T32_mono (T32_far (p := ⟨gb41, 4, none⟩) (T32_far (p := ⟨gb41, 3, none⟩) (T32_far (p := ⟨gb41, 2, none⟩) (T32_far (p := ⟨gb41, 1, none⟩) (T32_far (p := ⟨gb41, 0, none⟩) (T32_mono HO46.out (fun k_ hk => (⟨hk, hk.2⟩ : _ ∧ k_ ≠ gb41))) (fun _ hk => hk.2) (.int .i64 t43)) (fun _ hk => hk.2) (.int .i64 t50)) (fun _ hk => hk.2) (.int .i64 t51)) (fun _ hk => hk.2) (.int .i64 t52)) (fun _ hk => hk.2) (.slice Ao14 t48.length co14)) (fun _ h_ => h_.1)))); (case side4 => exact (T32_reads' HO46.out).2.1); rintro e w15 ⟨rfl, hb⟩; replace HO46 := Qa (T32_below (by (with_reducible repeat (first | apply T32_alloc | apply T32_drewN | apply T32_drew)); exact (T32_mono (T32_far (p := ⟨gb41, 4, none⟩) (T32_far (p := ⟨gb41, 3, none⟩) (T32_far (p := ⟨gb41, 2, none⟩) (T32_far (p := ⟨gb41, 1, none⟩) (T32_far (p := ⟨gb41, 0, none⟩) (T32_mono HO46.out (fun k_ hk => (⟨hk, hk.2⟩ : _ ∧ k_ ≠ gb41))) (fun _ hk => hk.2) (.int .i64 t43)) (fun _ hk => hk.2) (.int .i64 t50)) (fun _ hk => hk.2) (.int .i64 t51)) (fun _ hk => hk.2) (.int .i64 t52)) (fun _ hk => hk.2) (.slice Ao14 t48.length co14)) (fun _ h_ => h_.1))) hb); replace BK40 := Kf BK40 NB40_41.out hb; replace BK41 := Kx0 (.cells #[.int .i64 t43, .int .i64 t50, .int .i64 t51, .int .i64 t52, .slice Ao14 t48.length co14] 32 (0, 0)) BK41 hb; replace HB := Sb (Bb3 HB.out (IsS72.ge HI264.out) GE40.out GE41.out) hb; replace HI264 := Qa (IsS72.below (show IsS72 w (((((w10.setCell ⟨gb41, 0, none⟩ (.int .i64 t43)).setCell ⟨gb41, 1, none⟩ (.int .i64 t50)).setCell ⟨gb41, 2, none⟩ (.int .i64 t51)).setCell ⟨gb41, 3, none⟩ (.int .i64 t52)).setCell ⟨gb41, 4, none⟩ (.slice Ao14 t48.length co14)) gb42 l0 t53 t54 from I72x2 HI264.out NB42_40.out NB42_41.out) hb); clear hb; obtain ⟨q16_0, q16_1, q16_2, q16_3, q16_4, u16_0, u16_1, u16_2, u16_3, u16_4⟩ := Cf5 BK41; have hnb17 := NB40_42.out; have hnc17 := NB42_40.out; obtain ⟨q18_0, q18_1, q18_2, q18_3, q18_4, u18_0, u18_1, u18_2, u18_3, u18_4⟩ := Cf5 BK40) | ((with_reducible show bodyPost _ _ _ _ _ _); refine bodyPost_ret (results_ct rfl _ _ gb40 32 #[.int .i64 t43, .int .i64 t50, .int .i64 t51, .int .i64 t52, .slice Ao14 t48.length co14] (0, 0) _ rfl (Bq BK40.out) Qh rfl (by kernel_rfl)) rfl ?_; exact ⟨_, Ze, by (with_reducible repeat (first | apply T32_alloc | apply T32_drewN | apply T32_drew)); exact T32_mono (T32_far (p := ⟨gb40, 4, none⟩) (T32_far (p := ⟨gb40, 3, none⟩) (T32_far (p := ⟨gb40, 2, none⟩) (T32_far (p := ⟨gb40, 1, none⟩) (T32_far (p := ⟨gb40, 0, none⟩) (T32_mono HO46.out (fun k_ hk => (⟨hk, hk.1.2.1⟩ : _ ∧ k_ ≠ gb40))) (fun _ hk => hk.2) (.int .i64 t43)) (fun _ hk => hk.2) (.int .i64 t50)) (fun _ hk => hk.2) (.int .i64 t51)) (fun _ hk => hk.2) (.int .i64 t52)) (fun _ hk => hk.2) (.slice Ao14 t48.length co14)) (fun _ hk => hk.1.1.1), Bb3 HB.out (IsS72.ge HI264.out) GE40.out GE41.out⟩))
  ·rw [if_neg c6] at H; have c6b0 := beq_eq_false_iff_ne.mpr c6; have c6b1 := bne_iff_ne.mpr c6; simp only [Option.some.injEq, Prod.mk.injEq] at H; obtain ⟨rfl, rfl, rfl, rfl, rfl, rfl⟩ := H; go_enter Try.func18, Try.ntmps18; go_wp2_with (first | ((with_reducible refine Qp (N := 4) rfl ?_); refine Bz5 4 32 ?_; intro gb40 hg w19 hbox hb; have BK40 := Qa (hbox); have GW40 := Gs (w := w) hg (Bb0 HB.out); have GE40 := GW40; replace HB := Sb (Bb0 HB.out) hb; clear hb hbox hg) | ((with_reducible refine Qp (N := 12) rfl ?_); refine Bx (N := 12) (cs := #[.slice A0 l0.length c0, .string a1, .int .i64 0]) (t := 72) ?_; intro gb42 hg w20 hbox hb; have BK42 := Qa (hbox); have GW42 := Gs (w := w) hg (Bb1 HB.out GE40.out); have GE42 := GW42; replace HB := Sb (Bb1 HB.out GE40.out) hb; have NB40_42 := Nl hg BK40; have NB42_40 := Ng hg BK40; replace BK40 := Kb BK40 hb; clear hb hbox hg; have HI264 := Qa (show IsS72 w _ gb42 l0 a1 0 from ⟨_, _, BK42.out, GW42.out, ⟨HR0.out, HC0.out⟩⟩); clear BK42) | ((with_reducible refine Qc (f := 52) rfl ?_); refine Gl 15 Try.func52 #[.pointer (some ⟨gb42, 0, none⟩)] ?_; (with_reducible refine (impl_formulaReader_read.calls k gb42 l0 a1 0 t43 t50 t51 t52 t48 true t53 t54 w _ ?_ ?_ A3.out).mono ?_); exact I72x1 HI264.out NB42_40.out; exact Bb2 HB.out (IsS72.ge HI264.out) GE40.out; rintro e w21 ⟨v62, rfl, ho0, hi, hb, hk⟩; refine ⟨_, rfl, ?_⟩; have HO46 := Qa (T32_lower (T32_mono (ok' := fun k_ => (w.heap.size ≤ k_) ∧ k_ ≠ gb40 ∧ k_ ≠ gb42) ho0 (fun k_ hk_ => ⟨(Nat.le_trans (Qv (Bb2 HB.out (IsS72.ge HI264.out) GE40.out)) hk_), (Fb BK40 k_ hk_), (IsS72.fresh (I72x1 HI264.out NB42_40.out) k_ hk_)⟩)) (Qv (Bb2 HB.out (IsS72.ge HI264.out) GE40.out))); replace BK40 := Kc hk BK40 NB40_42; replace HB := Qa (hb); replace HI264 := Qa (hi); clear hb hk hi; (try clear ho0)) | ((with_reducible refine Qp (N := 7) rfl ?_); refine Bz5 7 32 ?_; intro gb41 hg w22 hbox hb; replace HO46 := Qa (T32_below (T32_elderB (by (with_reducible repeat (first | apply T32_alloc | apply T32_drewN | apply T32_drew)); exact HO46.out) gb41 (Nat.le_of_eq hg.symm)) hb); have BK41 := Qa (hbox); have GW41 := Qa ((by rw [hg]; exact (Qv (Bb2 HB.out (IsS72.ge HI264.out) GE40.out)) : w.heap.size ≤ gb41)); have GE41 := Qa ((by rw [hg]; exact (Qv (Bb2 HB.out (IsS72.ge HI264.out) GE40.out)) : w.heap.size ≤ gb41)); replace HB := Sb (Bb2 HB.out (IsS72.ge HI264.out) GE40.out) hb; have NB40_41 := Nl hg BK40; have NB41_40 := Ng hg BK40; replace BK40 := Kb BK40 hb; have NB42_41 := Qa ((by rw [hg]; exact Nat.ne_of_lt (IsS72.lt (show IsS72 w _ gb42 l0 t53 t54 from I72x1 HI264.out NB42_40.out)) : gb42 ≠ gb41)); have NB41_42 := Qa ((by rw [hg]; exact Nat.ne_of_gt (IsS72.lt (show IsS72 w _ gb42 l0 t53 t54 from I72x1 HI264.out NB42_40.out)) : gb41 ≠ gb42)); replace HI264 := Qa (IsS72.below (I72x1 HI264.out NB42_40.out) hb); clear hb hbox hg; have hnb23 := NB41_40.out; have hnc23 := NB40_41.out; have hnb24 := NB41_42.out; have hnc24 := NB42_41.out; obtain ⟨q25_0, q25_1, q25_2, q25_3, q25_4, u25_0, u25_1, u25_2, u25_3, u25_4⟩ := Cf5 BK41; obtain ⟨Ao26, co26, eo26⟩ := T32_slice HO46.out; subst eo26) | (go_at_call 13; (with_reducible refine (impl_FormulaText.calls k _ _ l0 t43 t50 t51 t52 _ _ t48 t55 _ ?side1 ?side2 ?side3 ?side4 A5.out).mono ?_); (case side1 => exact Kd.C_below HR0.out (Bb3 HB.out (IsS72.ge HI264.out) GE40.out GE41.out)); (case side2 => exact HC0.out); (case side3 => refine (T32_reads' (base := w.heap.size) (ok := fun k_ => (((w.heap.size ≤ k_) ∧ (k_ ≠ gb40 ∧ k_ ≠ gb42)) ∧ k_ ≠ gb41)) (n := t48.length) (c := co26) ?_).2.2; exact (by (with_reducible repeat (first | apply T32_alloc | apply T32_drewN | apply T32_drew)); exact (T32_mono (T32_far (p := ⟨gb41, 4, none⟩) (T32_far (p := ⟨gb41, 3, none⟩) (T32_far (p := ⟨gb41, 2, none⟩) (T32_far (p := ⟨gb41, 1, none⟩) (T32_far (p := ⟨gb41, 0, none⟩) (T32_mono HO46.out (fun k_ hk => (⟨hk, hk.2⟩ : _ ∧ k_ ≠ gb41))) (fun _ hk => hk.2) (.int .i64 t43)) (fun _ hk => hk.2) (.int .i64 t50)) (fun _ hk => hk.2) (.int .i64 t51)) (fun _ hk => hk.2) (.int .i64 t52)) (fun _ hk => hk.2) (.slice Ao26 t48.length co26)) (fun _ h_ => h_.1)))); (case side4 => exact (T32_reads' HO46.out).2.1); rintro e w27 ⟨rfl, hb⟩; replace HO46 := Qa (T32_below (by (with_reducible repeat (first | apply T32_alloc | apply T32_drewN | apply T32_drew)); exact (T32_mono (T32_far (p := ⟨gb41, 4, none⟩) (T32_far (p := ⟨gb41, 3, none⟩) (T32_far (p := ⟨gb41, 2, none⟩) (T32_far (p := ⟨gb41, 1, none⟩) (T32_far (p := ⟨gb41, 0, none⟩) (T32_mono HO46.out (fun k_ hk => (⟨hk, hk.2⟩ : _ ∧ k_ ≠ gb41))) (fun _ hk => hk.2) (.int .i64 t43)) (fun _ hk => hk.2) (.int .i64 t50)) (fun _ hk => hk.2) (.int .i64 t51)) (fun _ hk => hk.2) (.int .i64 t52)) (fun _ hk => hk.2) (.slice Ao26 t48.length co26)) (fun _ h_ => h_.1))) hb); replace BK40 := Kf BK40 NB40_41.out hb; replace BK41 := Kx0 (.cells #[.int .i64 t43, .int .i64 t50, .int .i64 t51, .int .i64 t52, .slice Ao26 t48.length co26] 32 (0, 0)) BK41 hb; replace HB := Sb (Bb3 HB.out (IsS72.ge HI264.out) GE40.out GE41.out) hb; replace HI264 := Qa (IsS72.below (show IsS72 w (((((w22.setCell ⟨gb41, 0, none⟩ (.int .i64 t43)).setCell ⟨gb41, 1, none⟩ (.int .i64 t50)).setCell ⟨gb41, 2, none⟩ (.int .i64 t51)).setCell ⟨gb41, 3, none⟩ (.int .i64 t52)).setCell ⟨gb41, 4, none⟩ (.slice Ao26 t48.length co26)) gb42 l0 t53 t54 from I72x2 HI264.out NB42_40.out NB42_41.out) hb); clear hb; have hnb28 := NB40_42.out; have hnc28 := NB42_40.out; obtain ⟨q29_0, q29_1, q29_2, q29_3, q29_4, u29_0, u29_1, u29_2, u29_3, u29_4⟩ := Cf5 BK40) | ((with_reducible show bodyPost _ _ _ _ _ _); refine bodyPost_ret (results_ct rfl _ _ gb40 32 #[.int .i64 0, .int .i64 0, .int .i64 0, .int .i64 0, .slice none 0 0] (0, 0) _ rfl (Bq BK40.out) Qh rfl (by kernel_rfl)) rfl ?_; exact ⟨_, Ze, by first | exact Kd.R_nil _ _ _ _ _ | exact T32_nil _ _ _ | exact Kd.V_nil _ _ _ _ _ | exact Kd.Q_nil _ _ _ _ _ | exact Kd.S_nil _ _ _ _ _, Bb3 HB.out (IsS72.ge HI264.out) GE40.out GE41.out⟩))
 ·replace c4 := Bool.eq_false_iff.mpr c4
  subst c4; rw [if_neg (show ¬ (false = true) by decide)] at H; simp only [Option.some.injEq, Prod.mk.injEq] at H; obtain ⟨rfl, rfl, rfl, rfl, rfl, rfl⟩ := H; go_enter Try.func18, Try.ntmps18; go_wp2_with (first | ((with_reducible refine Qp (N := 4) rfl ?_); refine Bz5 4 32 ?_; intro gb40 hg w30 hbox hb; have BK40 := Qa (hbox); have GW40 := Gs (w := w) hg (Bb0 HB.out); have GE40 := GW40; replace HB := Sb (Bb0 HB.out) hb; clear hb hbox hg) | ((with_reducible refine Qp (N := 12) rfl ?_); refine Bx (N := 12) (cs := #[.slice A0 l0.length c0, .string a1, .int .i64 0]) (t := 72) ?_; intro gb42 hg w31 hbox hb; have BK42 := Qa (hbox); have GW42 := Gs (w := w) hg (Bb1 HB.out GE40.out); have GE42 := GW42; replace HB := Sb (Bb1 HB.out GE40.out) hb; have NB40_42 := Nl hg BK40; have NB42_40 := Ng hg BK40; replace BK40 := Kb BK40 hb; clear hb hbox hg; have HI264 := Qa (show IsS72 w _ gb42 l0 a1 0 from ⟨_, _, BK42.out, GW42.out, ⟨HR0.out, HC0.out⟩⟩); clear BK42) | ((with_reducible refine Qc (f := 52) rfl ?_); refine Gl 15 Try.func52 #[.pointer (some ⟨gb42, 0, none⟩)] ?_; (with_reducible refine (impl_formulaReader_read.calls k gb42 l0 a1 0 t43 t50 t51 t52 t48 false t53 t54 w _ ?_ ?_ A3.out).mono ?_); exact I72x1 HI264.out NB42_40.out; exact Bb2 HB.out (IsS72.ge HI264.out) GE40.out; rintro e w32 ⟨v62, rfl, ho0, hi, hb, hk⟩; refine ⟨_, rfl, ?_⟩; have HO46 := Qa (T32_lower (T32_mono (ok' := fun k_ => (w.heap.size ≤ k_) ∧ k_ ≠ gb40 ∧ k_ ≠ gb42) ho0 (fun k_ hk_ => ⟨(Nat.le_trans (Qv (Bb2 HB.out (IsS72.ge HI264.out) GE40.out)) hk_), (Fb BK40 k_ hk_), (IsS72.fresh (I72x1 HI264.out NB42_40.out) k_ hk_)⟩)) (Qv (Bb2 HB.out (IsS72.ge HI264.out) GE40.out))); replace BK40 := Kc hk BK40 NB40_42; replace HB := Qa (hb); replace HI264 := Qa (hi); clear hb hk hi; (try clear ho0)) | ((with_reducible refine Qp (N := 7) rfl ?_); refine Bz5 7 32 ?_; intro gb41 hg w33 hbox hb; replace HO46 := Qa (T32_below (T32_elderB (by (with_reducible repeat (first | apply T32_alloc | apply T32_drewN | apply T32_drew)); exact HO46.out) gb41 (Nat.le_of_eq hg.symm)) hb); have BK41 := Qa (hbox); have GW41 := Qa ((by rw [hg]; exact (Qv (Bb2 HB.out (IsS72.ge HI264.out) GE40.out)) : w.heap.size ≤ gb41)); have GE41 := Qa ((by rw [hg]; exact (Qv (Bb2 HB.out (IsS72.ge HI264.out) GE40.out)) : w.heap.size ≤ gb41)); replace HB := Sb (Bb2 HB.out (IsS72.ge HI264.out) GE40.out) hb; have NB40_41 := Nl hg BK40; have NB41_40 := Ng hg BK40; replace BK40 := Kb BK40 hb; have NB42_41 := Qa ((by rw [hg]; exact Nat.ne_of_lt (IsS72.lt (show IsS72 w _ gb42 l0 t53 t54 from I72x1 HI264.out NB42_40.out)) : gb42 ≠ gb41)); have NB41_42 := Qa ((by rw [hg]; exact Nat.ne_of_gt (IsS72.lt (show IsS72 w _ gb42 l0 t53 t54 from I72x1 HI264.out NB42_40.out)) : gb41 ≠ gb42)); replace HI264 := Qa (IsS72.below (I72x1 HI264.out NB42_40.out) hb); clear hb hbox hg; have hnb34 := NB41_40.out; have hnc34 := NB40_41.out; have hnb35 := NB41_42.out; have hnc35 := NB42_41.out; obtain ⟨q36_0, q36_1, q36_2, q36_3, q36_4, u36_0, u36_1, u36_2, u36_3, u36_4⟩ := Cf5 BK41; obtain ⟨Ao37, co37, eo37⟩ := T32_slice HO46.out; subst eo37; have hnb38 := NB40_42.out; have hnc38 := NB42_40.out; obtain ⟨q39_0, q39_1, q39_2, q39_3, q39_4, u39_0, u39_1, u39_2, u39_3, u39_4⟩ := Cf5 BK40) | ((with_reducible show bodyPost _ _ _ _ _ _); refine bodyPost_ret (results_ct rfl _ _ gb40 32 #[.int .i64 0, .int .i64 0, .int .i64 0, .int .i64 0, .slice none 0 0] (0, 0) _ rfl (Bm1 BK40.out NB40_41.out) Qh rfl (by kernel_rfl)) rfl ?_; exact ⟨_, Ze, by first | exact Kd.R_nil _ _ _ _ _ | exact T32_nil _ _ _ | exact Kd.V_nil _ _ _ _ _ | exact Kd.Q_nil _ _ _ _ _ | exact Kd.S_nil _ _ _ _ _, Bb3 HB.out (IsS72.ge HI264.out) GE40.out GE41.out⟩))
mutual
def spec_l10Left.l0 : Nat → Int → Int → Int → Int → Int → Int → List (S32) → Option (Int)
 | 0, _, _, _, _, _, _, _ => none
 | k + 1, x1, x5, x65, x66, x67, x68, x56 => if x5 < (x56.length : Int) then (if x1 ≥ 0 then (if 0 ≤ x5 then ((spec_l10Left.f k ((rd_T32 x56 x5).f0) ((rd_T32 x56 x5).f1) ((rd_T32 x56 x5).f2) ((rd_T32 x56 x5).f3) ((rd_T32 x56 x5).f4) x1).bind fun t60 => (spec_l10Left.l0 k t60 (wrap64 (x5 + 1)) x65 x66 x67 x68 x56)) else (none)) else (some x1)) else (some x1)
def spec_l10Left.f : Nat → Int → Int → Int → Int → List (S32) → Int → Option (Int)
 | 0, _, _, _, _, _, _ => none
 | k + 1, a0_0, a0_1, a0_2, a0_3, l0_4, a1 => spec_l10Left.l0 k (wrap64 (a1 - 1)) 0 a0_0 a0_1 a0_2 a0_3 l0_4
end
theorem spec_l10Left.mono_l : ∀ k, (∀ y0 y1 y2 y3 y4 y5, LeO (spec_l10Left.f k y0 y1 y2 y3 y4 y5) (spec_l10Left.f (k + 1) y0 y1 y2 y3 y4 y5)) ∧ (∀ y0 y1 y2 y3 y4 y5 y6, LeO (spec_l10Left.l0 k y0 y1 y2 y3 y4 y5 y6) (spec_l10Left.l0 (k + 1) y0 y1 y2 y3 y4 y5 y6))
 | 0 => ⟨fun _ _ _ _ _ _ r h => by simp [spec_l10Left.f] at h, fun _ _ _ _ _ _ _ r h => by simp [spec_l10Left.l0] at h⟩
 | k + 1 => by
  obtain ⟨ih0, ih1⟩ := spec_l10Left.mono_l k; refine ⟨?_, ?_⟩
  ·intro y0 y1 y2 y3 y4 y5; unfold spec_l10Left.f; exact Lm2 ih0 ih1
  ·intro y0 y1 y2 y3 y4 y5 y6; unfold spec_l10Left.l0; exact Lm2 ih0 ih1
theorem spec_l10Left.mono : ∀ a0 a1 a2 a3 a4 a5 k, LeO (spec_l10Left.f k a0 a1 a2 a3 a4 a5) (spec_l10Left.f (k + 1) a0 a1 a2 a3 a4 a5) := by
 intro a0 a1 a2 a3 a4 a5 k
 obtain ⟨ih0, ih1⟩ := spec_l10Left.mono_l k
 exact ih0 a0 a1 a2 a3 a4 a5
theorem spec_l10Left.calls (k : Nat) : ∀ (a0_0 : Int) (a0_1 : Int) (a0_2 : Int) (a0_3 : Int) (A0_4 : Option Addr) (c0_4 : Nat) (l0_4 : List (S32)) (a1 : Int) (r : Int) (w : World) (hr0_4 : Kd.C k32 w A0_4 l0_4.length l0_4) (hc0_4 : l0_4.length ≤ c0_4) (h : spec_l10Left.f k a0_0 a0_1 a0_2 a0_3 l0_4 a1 = some r),
  Calls Qk 74 #[.agg #[.int .i64 a0_0, .int .i64 a0_1, .int .i64 a0_2, .int .i64 a0_3, .slice A0_4 l0_4.length c0_4], .int .i64 a1] w fun e w' => e = .returned (.int .i64 r) ∧ Below w.heap.size w w' := by
 induction k using Nat.strongRecOn with
 | _ k ih =>
 intro a0_0 a0_1 a0_2 a0_3 A0_4 c0_4 l0_4 a1 r w hr0_4 hc0_4 h
 cases k with
 | zero => exact absurd h (by simp [spec_l10Left.f])
 | succ k =>
 simp only [spec_l10Left.f] at h
 have hu32 := Qh
 have HR0_4 := Qa hr0_4
 have HC0_4 := Qa hc0_4
 clear hr0_4 hc0_4
 have HB := Qa (Below.refl w.heap.size w)
 have H : (spec_l10Left.l0 k (wrap64 (a1 - 1)) 0 a0_0 a0_1 a0_2 a0_3 l0_4) = some r := h
 clear h
 have H' := Qa H
 clear H
 go_enter Try.func74, Try.ntmps74
 go_wp2_with (first | ((with_reducible refine Qp (N := 2) rfl ?_); refine Bx (N := 2) (cs := #[.int .i64 a0_0, .int .i64 a0_1, .int .i64 a0_2, .int .i64 a0_3, .slice A0_4 l0_4.length c0_4]) (t := 32) ?_; intro gb47 hg w3 hbox hb; have BK47 := Qa (hbox); have GW47 := Gs (w := w) hg (Bb0 HB.out); have GE47 := GW47; replace HB := Sb (Bb0 HB.out) hb; clear hb hbox hg))
 go_loopg [1, 5] k (fun kq v1 v5 w' => ∃ (x1_1 : Int) (x5_1 : Int), v1 = .int .i64 x1_1 ∧ v5 = .int .i64 x5_1 ∧ Qf (spec_l10Left.l0 kq x1_1 x5_1 a0_0 a0_1 a0_2 a0_3 l0_4 = some r) ∧ Qf (kq ≤ k) ∧ Qf (w'.heap[gb47]? = some (.cells #[.int .i64 a0_0, .int .i64 a0_1, .int .i64 a0_2, .int .i64 a0_3, (.slice A0_4 l0_4.length c0_4)] 32 (0, 0))) ∧ Qf (Below w.heap.size w w'))
 case atStart => exact ⟨(wrap64 (a1 - 1)), (0), Zf, Zf, H', ⟨Nat.le_refl _⟩, ⟨Ba BK47.out⟩, ⟨Bb1 HB.out GE47.out⟩⟩
 case round =>
  clear H'; (try clear p2)
  obtain ⟨x1_1, x5_1, rfl, rfl, HA, HK1, BK47, HB⟩ := hrel; cases gk with
  | zero => exact absurd HA.out (by simp [spec_l10Left.l0])
  | succ k1 =>
   have H := HA.out; clear HA; simp only [spec_l10Left.l0] at H; by_cases c4 : x5_1 < (l0_4.length : Int)
   ·rw [if_pos c4] at H; replace c4 := decide_eq_true c4; by_cases c5 : x1_1 ≥ 0
    ·rw [if_pos c5] at H; replace c5 := decide_eq_true c5; by_cases c6 : 0 ≤ x5_1
     ·rw [if_pos c6] at H; replace c6 := decide_eq_true c6; obtain ⟨t60, A7, H⟩ := Ob H; (try dsimp only at H)
      have H' := Qa H; clear H; obtain ⟨q8_0, q8_1, q8_2, q8_3, q8_4, u8_0, u8_1, u8_2, u8_3, u8_4⟩ := Cf5 BK47; have p44 : 0 ≤ (x5_1 : Int) := Da; have q44 : x5_1 < (l0_4.length : Int) := Da; obtain ⟨ad44, A44_4, c278_4, e44, hx44_0, hx44_1, hx44_2, hx44_3, hx44_4, hl278_4, hi278_4⟩ := at_T32 HR0_4.out x5_1 p44 q44; cases e44
      replace hx44_0 := Cx HB hx44_0; replace hx44_1 := Cx HB hx44_1; replace hx44_2 := Cx HB hx44_2; replace hx44_3 := Cx HB hx44_3; replace hx44_4 := Cx HB hx44_4; have HR44_4 := Qa hi278_4; have HC278_4 := Qa hl278_4; clear hi278_4 hl278_4; replace p44 := eq_true p44; replace q44 := eq_true q44; go_wp2_with (first | ((with_reducible refine Qc (f := 74) rfl ?_); refine Gl 25 Try.func74 #[.agg #[.int .i64 ((rd_T32 l0_4 x5_1).f0), .int .i64 ((rd_T32 l0_4 x5_1).f1), .int .i64 ((rd_T32 l0_4 x5_1).f2), .int .i64 ((rd_T32 l0_4 x5_1).f3), .slice A44_4 ((rd_T32 l0_4 x5_1).f4).length c278_4], .int .i64 x1_1] ?_; (with_reducible refine (ih k1 (by have := HK1.out; omega) ((rd_T32 l0_4 x5_1).f0) ((rd_T32 l0_4 x5_1).f1) ((rd_T32 l0_4 x5_1).f2) ((rd_T32 l0_4 x5_1).f3) _ _ ((rd_T32 l0_4 x5_1).f4) x1_1 t60 _ ?_ ?_ A7.out).mono ?_); exact Bc (Kd.C_below HR44_4.out HB.out); exact HC278_4.out; rintro e w9 ⟨rfl, hb⟩; refine ⟨_, rfl, ?_⟩; replace BK47 := Kb BK47 hb; replace HB := Sb (Bb1 HB.out GE47.out) hb; clear hb)); go_roundg k1
      case measure => have := HK1.out; omega
      case rel => exact ⟨(t60), (wrap64 (x5_1 + 1)), Zf, Zf, H', ⟨by have := HK1.out; omega⟩, ⟨Ba BK47.out⟩, ⟨Bb1 HB.out GE47.out⟩⟩
     ·rw [if_neg c6] at H; exact absurd H (by simp)
    ·rw [if_neg c5] at H; replace c5 := decide_eq_false c5; obtain rfl := Option.some.inj H; obtain ⟨q10_0, q10_1, q10_2, q10_3, q10_4, u10_0, u10_1, u10_2, u10_3, u10_4⟩ := Cf5 BK47; go_wp2; go_ret; exact ⟨Ze, Bb1 HB.out GE47.out⟩
   ·rw [if_neg c4] at H; replace c4 := decide_eq_false c4; obtain rfl := Option.some.inj H; obtain ⟨q11_0, q11_1, q11_2, q11_3, q11_4, u11_0, u11_1, u11_2, u11_3, u11_4⟩ := Cf5 BK47; go_wp2; go_ret; exact ⟨Ze, Bb1 HB.out GE47.out⟩
def spec_l1Max.f (a0 : Int) (a1 : Int) : Option (Int) := if a0 > a1 then (some a0) else (some a1)
theorem spec_l1Max.calls (a0 : Int) (a1 : Int) (r : Int) (w : World) (h : spec_l1Max.f a0 a1 = some r) :
  Calls Qk 108 #[.int .i64 a0, .int .i64 a1] w fun e w' => e = .returned (.int .i64 r) ∧ Drawn0 w w' := by
 have H : (if a0 > a1 then (some a0) else (some a1)) = some r := h
 clear h
 by_cases c3 : a0 > a1
 ·rw [if_pos c3] at H
  replace c3 := decide_eq_true c3; obtain rfl := Option.some.inj H; go_enter Try.func108, Try.ntmps108; go_wp2; go_ret; exact ⟨by first | rfl | (simp; done) | (simp [*]; done), by repeat (first | exact Qi _ | apply Qj)⟩
 ·rw [if_neg c3] at H
  replace c3 := decide_eq_false c3; obtain rfl := Option.some.inj H; go_enter Try.func108, Try.ntmps108; go_wp2; go_ret; exact ⟨by first | rfl | (simp; done) | (simp [*]; done), by repeat (first | exact Qi _ | apply Qj)⟩
mutual
def spec_DepthOf.l0 : Nat → Int → Int → Int → Int → Int → Int → List (S32) → Option (Int)
 | 0, _, _, _, _, _, _, _ => none
 | k + 1, x3, x4, x69, x70, x71, x73, x57 => if x4 < (x57.length : Int) then (if 0 ≤ x4 then ((spec_DepthOf.f k ((rd_T32 x57 x4).f0) ((rd_T32 x57 x4).f1) ((rd_T32 x57 x4).f2) ((rd_T32 x57 x4).f3) ((rd_T32 x57 x4).f4)).bind fun t58 => ((spec_l1Max.f x3 t58).bind fun t61 => (spec_DepthOf.l0 k t61 (wrap64 (x4 + 1)) x69 x70 x71 x73 x57))) else (none)) else (some (wrap64 (x3 + 1)))
def spec_DepthOf.f : Nat → Int → Int → Int → Int → List (S32) → Option (Int)
 | 0, _, _, _, _, _ => none
 | k + 1, a0_0, a0_1, a0_2, a0_3, l0_4 => spec_DepthOf.l0 k 0 0 a0_0 a0_1 a0_2 a0_3 l0_4
end
theorem spec_DepthOf.mono_l : ∀ k, (∀ y0 y1 y2 y3 y4, LeO (spec_DepthOf.f k y0 y1 y2 y3 y4) (spec_DepthOf.f (k + 1) y0 y1 y2 y3 y4)) ∧ (∀ y0 y1 y2 y3 y4 y5 y6, LeO (spec_DepthOf.l0 k y0 y1 y2 y3 y4 y5 y6) (spec_DepthOf.l0 (k + 1) y0 y1 y2 y3 y4 y5 y6))
 | 0 => ⟨fun _ _ _ _ _ r h => by simp [spec_DepthOf.f] at h, fun _ _ _ _ _ _ _ r h => by simp [spec_DepthOf.l0] at h⟩
 | k + 1 => by
  obtain ⟨ih0, ih1⟩ := spec_DepthOf.mono_l k; refine ⟨?_, ?_⟩
  ·intro y0 y1 y2 y3 y4; unfold spec_DepthOf.f; exact Lm2 ih0 ih1
  ·intro y0 y1 y2 y3 y4 y5 y6; unfold spec_DepthOf.l0; exact Lm2 ih0 ih1
theorem spec_DepthOf.mono : ∀ a0 a1 a2 a3 a4 k, LeO (spec_DepthOf.f k a0 a1 a2 a3 a4) (spec_DepthOf.f (k + 1) a0 a1 a2 a3 a4) := by
 intro a0 a1 a2 a3 a4 k
 obtain ⟨ih0, ih1⟩ := spec_DepthOf.mono_l k
 exact ih0 a0 a1 a2 a3 a4
theorem spec_DepthOf.calls (k : Nat) : ∀ (a0_0 : Int) (a0_1 : Int) (a0_2 : Int) (a0_3 : Int) (A0_4 : Option Addr) (c0_4 : Nat) (l0_4 : List (S32)) (r : Int) (w : World) (hr0_4 : Kd.C k32 w A0_4 l0_4.length l0_4) (hc0_4 : l0_4.length ≤ c0_4) (h : spec_DepthOf.f k a0_0 a0_1 a0_2 a0_3 l0_4 = some r),
  Calls Qk 75 #[.agg #[.int .i64 a0_0, .int .i64 a0_1, .int .i64 a0_2, .int .i64 a0_3, .slice A0_4 l0_4.length c0_4]] w fun e w' => e = .returned (.int .i64 r) ∧ Below w.heap.size w w' := by
 induction k using Nat.strongRecOn with
 | _ k ih =>
 intro a0_0 a0_1 a0_2 a0_3 A0_4 c0_4 l0_4 r w hr0_4 hc0_4 h
 cases k with
 | zero => exact absurd h (by simp [spec_DepthOf.f])
 | succ k =>
 simp only [spec_DepthOf.f] at h
 have hu32 := Qh
 have HR0_4 := Qa hr0_4
 have HC0_4 := Qa hc0_4
 clear hr0_4 hc0_4
 have HB := Qa (Below.refl w.heap.size w)
 have H : (spec_DepthOf.l0 k 0 0 a0_0 a0_1 a0_2 a0_3 l0_4) = some r := h
 clear h
 have H' := Qa H
 clear H
 go_enter Try.func75, Try.ntmps75
 go_wp2_with (first | ((with_reducible refine Qp (N := 1) rfl ?_); refine Bx (N := 1) (cs := #[.int .i64 a0_0, .int .i64 a0_1, .int .i64 a0_2, .int .i64 a0_3, .slice A0_4 l0_4.length c0_4]) (t := 32) ?_; intro gb49 hg w2 hbox hb; have BK49 := Qa (hbox); have GW49 := Gs (w := w) hg (Bb0 HB.out); have GE49 := GW49; replace HB := Sb (Bb0 HB.out) hb; clear hb hbox hg))
 go_loopg [3, 4] k (fun kq v3 v4 w' => ∃ (x3_1 : Int) (x4_1 : Int), v3 = .int .i64 x3_1 ∧ v4 = .int .i64 x4_1 ∧ Qf (spec_DepthOf.l0 kq x3_1 x4_1 a0_0 a0_1 a0_2 a0_3 l0_4 = some r) ∧ Qf (kq ≤ k) ∧ Qf (w'.heap[gb49]? = some (.cells #[.int .i64 a0_0, .int .i64 a0_1, .int .i64 a0_2, .int .i64 a0_3, (.slice A0_4 l0_4.length c0_4)] 32 (0, 0))) ∧ Qf (Below w.heap.size w w'))
 case atStart => exact ⟨(0), (0), Zf, Zf, H', ⟨Nat.le_refl _⟩, ⟨Ba BK49.out⟩, ⟨Bb1 HB.out GE49.out⟩⟩
 case round =>
  clear H'; (try clear p2)
  obtain ⟨x3_1, x4_1, rfl, rfl, HA, HK1, BK49, HB⟩ := hrel; cases gk with
  | zero => exact absurd HA.out (by simp [spec_DepthOf.l0])
  | succ k1 =>
   have H := HA.out; clear HA; simp only [spec_DepthOf.l0] at H; by_cases c3 : x4_1 < (l0_4.length : Int)
   ·rw [if_pos c3] at H; replace c3 := decide_eq_true c3; by_cases c4 : 0 ≤ x4_1
    ·rw [if_pos c4] at H; replace c4 := decide_eq_true c4; obtain ⟨t58, A5, H⟩ := Ob H; (try dsimp only at H)
     obtain ⟨t61, A6, H⟩ := Ob H; (try dsimp only at H)
     have H' := Qa H; clear H; obtain ⟨q7_0, q7_1, q7_2, q7_3, q7_4, u7_0, u7_1, u7_2, u7_3, u7_4⟩ := Cf5 BK49; have p45 : 0 ≤ (x4_1 : Int) := Da; have q45 : x4_1 < (l0_4.length : Int) := Da; obtain ⟨ad45, A45_4, c281_4, e45, hx45_0, hx45_1, hx45_2, hx45_3, hx45_4, hl281_4, hi281_4⟩ := at_T32 HR0_4.out x4_1 p45 q45; cases e45
     replace hx45_0 := Cx HB hx45_0; replace hx45_1 := Cx HB hx45_1; replace hx45_2 := Cx HB hx45_2; replace hx45_3 := Cx HB hx45_3; replace hx45_4 := Cx HB hx45_4; have HR45_4 := Qa hi281_4; have HC281_4 := Qa hl281_4; clear hi281_4 hl281_4; replace p45 := eq_true p45; replace q45 := eq_true q45; go_wp2_with (first | ((with_reducible refine Qc (f := 75) rfl ?_); refine Gl 18 Try.func75 #[.agg #[.int .i64 ((rd_T32 l0_4 x4_1).f0), .int .i64 ((rd_T32 l0_4 x4_1).f1), .int .i64 ((rd_T32 l0_4 x4_1).f2), .int .i64 ((rd_T32 l0_4 x4_1).f3), .slice A45_4 ((rd_T32 l0_4 x4_1).f4).length c281_4]] ?_; (with_reducible refine (ih k1 (by have := HK1.out; omega) ((rd_T32 l0_4 x4_1).f0) ((rd_T32 l0_4 x4_1).f1) ((rd_T32 l0_4 x4_1).f2) ((rd_T32 l0_4 x4_1).f3) _ _ ((rd_T32 l0_4 x4_1).f4) t58 _ ?_ ?_ A5.out).mono ?_); exact Bc (Kd.C_below HR45_4.out HB.out); exact HC281_4.out; rintro e w8 ⟨rfl, hb⟩; refine ⟨_, rfl, ?_⟩; replace BK49 := Kb BK49 hb; replace HB := Sb (Bb1 HB.out GE49.out) hb; clear hb) | ((with_reducible refine Qc (f := 108) rfl ?_); refine Gl 19 Try.func108 #[.int .i64 x3_1, .int .i64 t58] ?_; (with_reducible refine (spec_l1Max.calls x3_1 t58 t61 _ A6.out).mono ?_); rintro e w' ⟨rfl, ⟨nd, rfl⟩⟩; refine ⟨_, rfl, ?_⟩)); go_roundg k1
     case measure => have := HK1.out; omega
     case rel => exact ⟨(t61), (wrap64 (x4_1 + 1)), Zf, Zf, H', ⟨by have := HK1.out; omega⟩, ⟨Ba BK49.out⟩, ⟨Bb1 HB.out GE49.out⟩⟩
    ·rw [if_neg c4] at H; exact absurd H (by simp)
   ·rw [if_neg c3] at H; replace c3 := decide_eq_false c3; obtain rfl := Option.some.inj H; obtain ⟨q9_0, q9_1, q9_2, q9_3, q9_4, u9_0, u9_1, u9_2, u9_3, u9_4⟩ := Cf5 BK49; go_wp2; go_ret; exact ⟨Ze, Bb1 HB.out GE49.out⟩
def spec_l1In.f (a0 : Int) (a1 : Int) (a2 : Int) : Option (Bool) := if a0 ≥ a1 then (some (decide (a0 ≤ a2))) else (some false)
theorem spec_l1In.calls (a0 : Int) (a1 : Int) (a2 : Int) (r : Bool) (w : World) (h : spec_l1In.f a0 a1 a2 = some r) :
  Calls Qk 77 #[.int .i64 a0, .int .i64 a1, .int .i64 a2] w fun e w' => e = .returned (.bool r) ∧ Drawn0 w w' := by
 have H : (if a0 ≥ a1 then (some (decide (a0 ≤ a2))) else (some false)) = some r := h
 clear h
 by_cases c4 : a0 ≥ a1
 ·rw [if_pos c4] at H
  replace c4 := decide_eq_true c4; obtain rfl := Option.some.inj H; go_enter Try.func77, Try.ntmps77; go_wp2; go_ret; exact ⟨by first | rfl | (simp; done) | (simp [*]; done), by repeat (first | exact Qi _ | apply Qj)⟩
 ·rw [if_neg c4] at H
  replace c4 := decide_eq_false c4; obtain rfl := Option.some.inj H; go_enter Try.func77, Try.ntmps77; go_wp2; go_ret; exact ⟨by first | rfl | (simp; done) | (simp [*]; done), by repeat (first | exact Qi _ | apply Qj)⟩
def spec_ArityOf.j0 : Nat → Int → Bool → Option (Int)
 | 0, _, _ => none
 | k + 1, x0, x6 => if x6 = true then (some 1) else (if x0 = 9 then (some 2) else (if x0 = 10 then (some 2) else (some (-1))))
def spec_ArityOf.f (k : Nat) (a0 : Int) : Option (Int) := (spec_l1In.f a0 1 7).bind fun t59 => (if t59 = true then (some 0) else (if a0 = 8 then (spec_ArityOf.j0 k a0 true) else (if a0 = 11 then (spec_ArityOf.j0 k a0 true) else (spec_ArityOf.j0 k a0 (a0 == 12)))))
theorem spec_ArityOf.mono_l : ∀ k, (∀ y0 y1, LeO (spec_ArityOf.j0 k y0 y1) (spec_ArityOf.j0 (k + 1) y0 y1))
 | 0 => fun _ _ r h => by simp [spec_ArityOf.j0] at h
 | k + 1 => by
  have ih0 := spec_ArityOf.mono_l k
  ·intro y0 y1; unfold spec_ArityOf.j0; exact Lm1 ih0
theorem spec_ArityOf.mono : ∀ a0 k, LeO (spec_ArityOf.f k a0) (spec_ArityOf.f (k + 1) a0) := by
 intro a0 k
 have ih0 := spec_ArityOf.mono_l k
 unfold spec_ArityOf.f
 exact Lm1 ih0
theorem spec_ArityOf.calls (k : Nat) (a0 : Int) (r : Int) (w : World) (h : spec_ArityOf.f k a0 = some r) :
  Calls Qk 41 #[.int .i64 a0] w fun e w' => e = .returned (.int .i64 r) ∧ Drawn0 w w' := by
 have H : ((spec_l1In.f a0 1 7).bind fun t59 => (if t59 = true then (some 0) else (if a0 = 8 then (spec_ArityOf.j0 k a0 true) else (if a0 = 11 then (spec_ArityOf.j0 k a0 true) else (spec_ArityOf.j0 k a0 (a0 == 12)))))) = some r := h
 clear h
 obtain ⟨t59, A2, H⟩ := Ob H
 (try dsimp only at H)
 by_cases c3 : t59 = true
 ·subst c3
  rw [if_pos rfl] at H; obtain rfl := Option.some.inj H; go_enter Try.func41, Try.ntmps41; go_wp2_with (first | ((with_reducible refine Qc (f := 77) rfl ?_); refine Gl 5 Try.func77 #[.int .i64 a0, .int .i64 1, .int .i64 7] ?_; (with_reducible refine (spec_l1In.calls a0 1 7 true _ A2.out).mono ?_); rintro e w' ⟨rfl, ⟨nd, rfl⟩⟩; refine ⟨_, rfl, ?_⟩)); go_ret; exact ⟨by first | rfl | (simp; done) | (simp [*]; done), by repeat (first | exact Qi _ | apply Qj)⟩
 ·replace c3 := Bool.eq_false_iff.mpr c3
  subst c3; rw [if_neg (show ¬ (false = true) by decide)] at H; have HC4 := Qa H; clear H; go_enter Try.func41, Try.ntmps41; go_upto_region 3 with (first | ((with_reducible refine Qc (f := 77) rfl ?_); refine Gl 5 Try.func77 #[.int .i64 a0, .int .i64 1, .int .i64 7] ?_; (with_reducible refine (spec_l1In.calls a0 1 7 false _ A2.out).mono ?_); rintro e w' ⟨rfl, ⟨nd, rfl⟩⟩; refine ⟨_, rfl, ?_⟩))
  (try simp only [Act.put, List.setIfInBounds_toArray, List.set_cons_zero, List.set_cons_succ])
  go_cut [6] (fun v6 wc => ∃ (kq : Nat) (x6_3 : Bool), v6 = .bool x6_3 ∧ Qf (spec_ArityOf.j0 kq a0 x6_3 = some r) ∧ Qf (kq ≤ k) ∧ Drawn0 w wc)
  case first =>
   have H := HC4.out; clear HC4; by_cases c5 : a0 = 8
   ·rw [if_pos c5] at H; have c5b0 := beq_iff_eq.mpr c5; have c5b1 := bne_eq_false_iff_eq.mpr c5; clear c5; (first | rw [c5b0] | (simp only [i64_w, i32_w]; rw [c5b0]) | skip)
    have H' := Qa H; clear H; go_wp2; go_meet
    case rel => exact ⟨_, (true), Zf, H', ⟨by first | omega | exact Nat.le_refl _⟩, by repeat (first | exact Qi _ | apply Qj)⟩
   ·rw [if_neg c5] at H; have c5b0 := beq_eq_false_iff_ne.mpr c5; have c5b1 := bne_iff_ne.mpr c5; (first | rw [c5b0] | (simp only [i64_w, i32_w]; rw [c5b0]) | skip)
    by_cases c6 : a0 = 11
    ·rw [if_pos c6] at H; have c6b0 := beq_iff_eq.mpr c6; have c6b1 := bne_eq_false_iff_eq.mpr c6; clear c6; have H' := Qa H; clear H; go_wp2; go_meet
     case rel => exact ⟨_, (true), Zf, H', ⟨by first | omega | exact Nat.le_refl _⟩, by repeat (first | exact Qi _ | apply Qj)⟩
    ·rw [if_neg c6] at H; have c6b0 := beq_eq_false_iff_ne.mpr c6; have c6b1 := bne_iff_ne.mpr c6; have H' := Qa H; clear H; go_wp2; go_meet
     case rel => exact ⟨_, ((a0 == 12)), Zf, H', ⟨by first | omega | exact Nat.le_refl _⟩, by repeat (first | exact Qi _ | apply Qj)⟩
  case rest =>
   clear HC4; (try clear p2)
   (try clear c3)
   (try clear c4)
   (try clear c5)
   (try clear c5b0)
   (try clear c5b1)
   (try clear c6)
   (try clear c6b0)
   (try clear c6b1)
   obtain ⟨kq, x6_3, rfl, HA, HJ3, ⟨mc3, rfl⟩⟩ := hcut; cases kq with
   | zero => exact absurd HA.out (by simp [spec_ArityOf.j0])
   | succ kj3 =>
    have H := HA.out; clear HA; simp only [spec_ArityOf.j0] at H; by_cases c7 : x6_3 = true
    ·subst c7; rw [if_pos rfl] at H; obtain rfl := Option.some.inj H; go_wp2; go_ret; exact ⟨by first | rfl | (simp; done) | (simp [*]; done), by repeat (first | exact Qi _ | apply Qj)⟩
    ·replace c7 := Bool.eq_false_iff.mpr c7; subst c7; rw [if_neg (show ¬ (false = true) by decide)] at H; by_cases c8 : a0 = 9
     ·rw [if_pos c8] at H; have c8b0 := beq_iff_eq.mpr c8; have c8b1 := bne_eq_false_iff_eq.mpr c8; clear c8; obtain rfl := Option.some.inj H; go_wp2; go_ret; exact ⟨by first | rfl | (simp; done) | (simp [*]; done), by repeat (first | exact Qi _ | apply Qj)⟩
     ·rw [if_neg c8] at H; have c8b0 := beq_eq_false_iff_ne.mpr c8; have c8b1 := bne_iff_ne.mpr c8; by_cases c9 : a0 = 10
      ·rw [if_pos c9] at H; have c9b0 := beq_iff_eq.mpr c9; have c9b1 := bne_eq_false_iff_eq.mpr c9; clear c9; obtain rfl := Option.some.inj H; go_wp2; go_ret; exact ⟨by first | rfl | (simp; done) | (simp [*]; done), by repeat (first | exact Qi _ | apply Qj)⟩
      ·rw [if_neg c9] at H; have c9b0 := beq_eq_false_iff_ne.mpr c9; have c9b1 := bne_iff_ne.mpr c9; obtain rfl := Option.some.inj H; go_wp2; go_ret; exact ⟨by first | rfl | (simp; done) | (simp [*]; done), by repeat (first | exact Qi _ | apply Qj)⟩
def spec_l10Uses.j0 : Nat → Int → Bool → Option (Int)
 | 0, _, _ => none
 | k + 1, x3, x4 => if x4 = true then (some 1) else (if x3 = 5 then (some 2) else (if x3 = 6 then (some 2) else (if x3 = 7 then (some 2) else (some 0))))
def spec_l10Uses.f (k : Nat) (a0 : Int) : Option (Int) := if a0 = 2 then (spec_l10Uses.j0 k a0 (a0 == 2)) else (if a0 = 3 then (spec_l10Uses.j0 k a0 (a0 == 3)) else (if a0 = 4 then (spec_l10Uses.j0 k a0 (a0 == 4)) else (if a0 = 11 then (spec_l10Uses.j0 k a0 (a0 == 11)) else (spec_l10Uses.j0 k a0 (a0 == 12)))))
theorem spec_l10Uses.mono_l : ∀ k, (∀ y0 y1, LeO (spec_l10Uses.j0 k y0 y1) (spec_l10Uses.j0 (k + 1) y0 y1))
 | 0 => fun _ _ r h => by simp [spec_l10Uses.j0] at h
 | k + 1 => by
  have ih0 := spec_l10Uses.mono_l k
  ·intro y0 y1; unfold spec_l10Uses.j0; exact Lm1 ih0
theorem spec_l10Uses.mono : ∀ a0 k, LeO (spec_l10Uses.f k a0) (spec_l10Uses.f (k + 1) a0) := by
 intro a0 k
 have ih0 := spec_l10Uses.mono_l k
 unfold spec_l10Uses.f
 exact Lm1 ih0
theorem spec_l10Uses.calls (k : Nat) (a0 : Int) (r : Int) (w : World) (h : spec_l10Uses.f k a0 = some r) :
  Calls Qk 98 #[.int .i64 a0] w fun e w' => e = .returned (.int .i64 r) ∧ Drawn0 w w' := by
 have H : (if a0 = 2 then (spec_l10Uses.j0 k a0 (a0 == 2)) else (if a0 = 3 then (spec_l10Uses.j0 k a0 (a0 == 3)) else (if a0 = 4 then (spec_l10Uses.j0 k a0 (a0 == 4)) else (if a0 = 11 then (spec_l10Uses.j0 k a0 (a0 == 11)) else (spec_l10Uses.j0 k a0 (a0 == 12)))))) = some r := h
 clear h
 have HC2 := Qa H
 clear H
 go_enter Try.func98, Try.ntmps98
 go_upto_if 4 with (fail)
 go_cut [4] (fun v4 wc => ∃ (kq : Nat) (x4_1 : Bool), v4 = .bool x4_1 ∧ Qf (spec_l10Uses.j0 kq a0 x4_1 = some r) ∧ Qf (kq ≤ k) ∧ Drawn0 w wc)
 case first =>
  have H := HC2.out; clear HC2; by_cases c3 : a0 = 2
  ·rw [if_pos c3] at H; have c3b0 := beq_iff_eq.mpr c3; have c3b1 := bne_eq_false_iff_eq.mpr c3; clear c3; (first | rw [c3b0] | (simp only [i64_w, i32_w]; rw [c3b0]) | skip)
   have H' := Qa H; clear H; go_wp2; go_meet
   case rel => exact ⟨_, ((a0 == 2)), Zf, H', ⟨by first | omega | exact Nat.le_refl _⟩, by repeat (first | exact Qi _ | apply Qj)⟩
  ·rw [if_neg c3] at H; have c3b0 := beq_eq_false_iff_ne.mpr c3; have c3b1 := bne_iff_ne.mpr c3; (first | rw [c3b0] | (simp only [i64_w, i32_w]; rw [c3b0]) | skip)
   by_cases c4 : a0 = 3
   ·rw [if_pos c4] at H; have c4b0 := beq_iff_eq.mpr c4; have c4b1 := bne_eq_false_iff_eq.mpr c4; clear c4; have H' := Qa H; clear H; go_wp2; go_meet
    case rel => exact ⟨_, ((a0 == 3)), Zf, H', ⟨by first | omega | exact Nat.le_refl _⟩, by repeat (first | exact Qi _ | apply Qj)⟩
   ·rw [if_neg c4] at H; have c4b0 := beq_eq_false_iff_ne.mpr c4; have c4b1 := bne_iff_ne.mpr c4; by_cases c5 : a0 = 4
    ·rw [if_pos c5] at H; have c5b0 := beq_iff_eq.mpr c5; have c5b1 := bne_eq_false_iff_eq.mpr c5; clear c5; have H' := Qa H; clear H; go_wp2; go_meet
     case rel => exact ⟨_, ((a0 == 4)), Zf, H', ⟨by first | omega | exact Nat.le_refl _⟩, by repeat (first | exact Qi _ | apply Qj)⟩
    ·rw [if_neg c5] at H; have c5b0 := beq_eq_false_iff_ne.mpr c5; have c5b1 := bne_iff_ne.mpr c5; by_cases c6 : a0 = 11
     ·rw [if_pos c6] at H; have c6b0 := beq_iff_eq.mpr c6; have c6b1 := bne_eq_false_iff_eq.mpr c6; clear c6; have H' := Qa H; clear H; go_wp2; go_meet
      case rel => exact ⟨_, ((a0 == 11)), Zf, H', ⟨by first | omega | exact Nat.le_refl _⟩, by repeat (first | exact Qi _ | apply Qj)⟩
     ·rw [if_neg c6] at H; have c6b0 := beq_eq_false_iff_ne.mpr c6; have c6b1 := bne_iff_ne.mpr c6; have H' := Qa H; clear H; go_wp2; go_meet
      case rel => exact ⟨_, ((a0 == 12)), Zf, H', ⟨by first | omega | exact Nat.le_refl _⟩, by repeat (first | exact Qi _ | apply Qj)⟩
 case rest =>
  clear HC2; (try clear p2)
  (try clear c3)
  (try clear c3b0)
  (try clear c3b1)
  (try clear c4)
  (try clear c4b0)
  (try clear c4b1)
  (try clear c5)
  (try clear c5b0)
  (try clear c5b1)
  (try clear c6)
  (try clear c6b0)
  (try clear c6b1)
  obtain ⟨kq, x4_1, rfl, HA, HJ1, ⟨mc1, rfl⟩⟩ := hcut; cases kq with
  | zero => exact absurd HA.out (by simp [spec_l10Uses.j0])
  | succ kj1 =>
   have H := HA.out; clear HA; simp only [spec_l10Uses.j0] at H; by_cases c7 : x4_1 = true
   ·subst c7; rw [if_pos rfl] at H; obtain rfl := Option.some.inj H; go_wp2; go_ret; exact ⟨by first | rfl | (simp; done) | (simp [*]; done), by repeat (first | exact Qi _ | apply Qj)⟩
   ·replace c7 := Bool.eq_false_iff.mpr c7; subst c7; rw [if_neg (show ¬ (false = true) by decide)] at H; by_cases c8 : a0 = 5
    ·rw [if_pos c8] at H; have c8b0 := beq_iff_eq.mpr c8; have c8b1 := bne_eq_false_iff_eq.mpr c8; clear c8; obtain rfl := Option.some.inj H; go_wp2; go_ret; exact ⟨by first | rfl | (simp; done) | (simp [*]; done), by repeat (first | exact Qi _ | apply Qj)⟩
    ·rw [if_neg c8] at H; have c8b0 := beq_eq_false_iff_ne.mpr c8; have c8b1 := bne_iff_ne.mpr c8; by_cases c9 : a0 = 6
     ·rw [if_pos c9] at H; have c9b0 := beq_iff_eq.mpr c9; have c9b1 := bne_eq_false_iff_eq.mpr c9; clear c9; obtain rfl := Option.some.inj H; go_wp2; go_ret; exact ⟨by first | rfl | (simp; done) | (simp [*]; done), by repeat (first | exact Qi _ | apply Qj)⟩
     ·rw [if_neg c9] at H; have c9b0 := beq_eq_false_iff_ne.mpr c9; have c9b1 := bne_iff_ne.mpr c9; by_cases c10 : a0 = 7
      ·rw [if_pos c10] at H; have c10b0 := beq_iff_eq.mpr c10; have c10b1 := bne_eq_false_iff_eq.mpr c10; clear c10; obtain rfl := Option.some.inj H; go_wp2; go_ret; exact ⟨by first | rfl | (simp; done) | (simp [*]; done), by repeat (first | exact Qi _ | apply Qj)⟩
      ·rw [if_neg c10] at H; have c10b0 := beq_eq_false_iff_ne.mpr c10; have c10b1 := bne_iff_ne.mpr c10; obtain rfl := Option.some.inj H; go_wp2; go_ret; exact ⟨by first | rfl | (simp; done) | (simp [*]; done), by repeat (first | exact Qi _ | apply Qj)⟩
end Go.Proofs.Ytoljagpjejpmpaa.PFnExactParseFormula
