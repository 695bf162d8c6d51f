/- A part of the walk through the printed functions; no condition. -/
import Derived.Test.YtoljagpjejpmpaaXAuto
import Derived.Test.YtoljagpjejpmpaaPFnExactParseFormulax0
import Derived.Test.YtoljagpjejpmpaaPFnExactParseFormulax11
import Derived.Test.YtoljagpjejpmpaaPFnExactParseFormulax12
import Derived.Test.YtoljagpjejpmpaaPFnExactParseFormulax13
namespace Go.Proofs.Ytoljagpjejpmpaa.PFnExactParseFormula
open Go.RowKit Go.Proofs.YtoljagpjejpmpaaW.PrintWords Go.Proofs.YtoljagpjejpmpaaW.PrintLast Go.Proofs.YtoljagpjejpmpaaW.PrintMore
attribute [local go_sem] max2_int min2_int max_two min_two max_three min_three max_four min_four
set_option maxHeartbeats 32000000
set_option maxRecDepth 100000
attribute [local irreducible] Go.World.setCell
set_option linter.unusedVariables false
set_option linter.unusedSimpArgs false
open Go.Proofs.YtoljagpjejpmpaaW.PrintWords.Aside0 renaming mk → Qa
open Go.Proofs.YtoljagpjejpmpaaW.PrintWords renaming gate_callee → Qc, blk_frozen → Qe, Aside0 → Qf, gate_dst → Qp, below_size → Qv
open Go.RowKit renaming wrap64 → Qg, Below → Qq
open Go.Proofs.Try renaming underlying32 → Qh, prog → Qk
open Go renaming World → Qm, Value → Qs, bodyPost_ret → Qx, Calls → Qz
def spec_ParseFormula.f (k : Nat) (l0 : List ByteArray) (a1 : ByteArray) : Option (Int × Int × Int × Int × (List (S32)) × Bool) := (spec_l11All.f k l0 a1 0 false 1).bind fun bt70 => (if bt70.2.2.2.2.2.2.2 = true then (some (0, 0, 0, 0, ([] : List (S32)), false)) else (if bt70.2.2.2.2.2.2.1 = (a1.size : Int) then (if a1.toList = ([] : List UInt8) then (some (0, 0, 0, 0, ([] : List (S32)), false)) else ((spec_FormulaText.f k l0 bt70.1 bt70.2.1 bt70.2.2.1 bt70.2.2.2.1 bt70.2.2.2.2.1).bind fun t81 => (if t81.toList = a1.toList then (some (bt70.1, bt70.2.1, bt70.2.2.1, bt70.2.2.2.1, bt70.2.2.2.2.1, true)) else (some (0, 0, 0, 0, ([] : List (S32)), false))))) else (some (0, 0, 0, 0, ([] : List (S32)), false))))
theorem spec_ParseFormula.mono : ∀ a0 a1 k, LeO (spec_ParseFormula.f k a0 a1) (spec_ParseFormula.f (k + 1) a0 a1) := by
 intro a0 a1 k
 unfold spec_ParseFormula.f
 exact Lm2 spec_FormulaText.mono spec_l11All.mono
theorem spec_ParseFormula.calls (k : Nat) (A0 : Option Addr) (c0 : Nat) (l0 : List ByteArray) (a1 : ByteArray) (r1 : Int) (r2 : Int) (r3 : Int) (r4 : Int) (r5 : List (S32)) (r6 : Bool) (w : Qm) (hr0 : Kd.C Kd.string w A0 l0.length l0) (hc0 : l0.length ≤ c0) (h : spec_ParseFormula.f k l0 a1 = some (r1, r2, r3, r4, r5, r6)) :
  Qz Qk 21 #[.slice A0 l0.length c0, .string a1] w fun e w' => ∃ v4_ : Qs, e = .returned (.tuple #[.agg #[.int .i64 r1, .int .i64 r2, .int .i64 r3, .int .i64 r4, v4_], .bool r6]) ∧ Kd.N k32 32 w' w.heap.size (fun k_ => (w.heap.size ≤ k_)) v4_ r5 ∧ Qq w.heap.size w w' := by
 have hu32 := Qh
 have hu78 := Try.underlying78
 have HR0 := Qa hr0
 have HC0 := Qa hc0
 clear hr0 hc0
 have HB := Qa (Below.refl w.heap.size w)
 have H : ((spec_l11All.f k l0 a1 0 false 1).bind fun bt70 => (if bt70.2.2.2.2.2.2.2 = true then (some (0, 0, 0, 0, ([] : List (S32)), false)) else (if bt70.2.2.2.2.2.2.1 = (a1.size : Int) then (if a1.toList = ([] : List UInt8) then (some (0, 0, 0, 0, ([] : List (S32)), false)) else ((spec_FormulaText.f k l0 bt70.1 bt70.2.1 bt70.2.2.1 bt70.2.2.2.1 bt70.2.2.2.2.1).bind fun t81 => (if t81.toList = a1.toList then (some (bt70.1, bt70.2.1, bt70.2.2.1, bt70.2.2.2.1, bt70.2.2.2.2.1, true)) else (some (0, 0, 0, 0, ([] : List (S32)), false))))) else (some (0, 0, 0, 0, ([] : List (S32)), false))))) = some (r1, r2, r3, r4, r5, r6) := h
 clear h
 obtain ⟨⟨t70, t76, t77, t79, t75, t73, t72, t84⟩, A3, H⟩ := Ob H
 (try dsimp only at H)
 by_cases c4 : t84 = true
 ·subst c4
  rw [if_pos rfl] at H; simp only [Option.some.injEq, Prod.mk.injEq] at H; obtain ⟨rfl, rfl, rfl, rfl, rfl, rfl⟩ := H; go_enter Try.func21, Try.ntmps21; go_wp2_with (first | ((with_reducible refine Qp (N := 4) rfl ?_); (try (refine gate_guard (by rfl) ?_; dsimp only)); refine Bz5 4 32 ?_; intro gb67 hg w5 hbox hb; have BK67 := Qa (hbox); have GW67 := Gs (w := w) hg (Bb0 HB.out); have GE67 := GW67; replace HB := Sb (Bb0 HB.out) hb; clear hb hbox hg) | ((with_reducible refine Qp (N := 11) rfl ?_); (try (refine gate_guard (by rfl) ?_; dsimp only)); refine Bx (N := 11) (cs := #[.slice A0 l0.length c0, .string a1, .int .i64 0, .bool false]) (t := 78) ?_; intro gb68 hg w6 hbox hb; have BK68 := Qa (hbox); have GW68 := Gs (w := w) hg (Bb1 HB.out GE67.out); have GE68 := GW68; replace HB := Sb (Bb1 HB.out GE67.out) hb; have NB67_68 := Nl hg BK67; have NB68_67 := Ng hg BK67; replace BK67 := Kb BK67 hb; clear hb hbox hg; have HI571 := Qa (show IsS78 w _ gb68 l0 a1 0 false from ⟨_, _, BK68.out, GW68.out, ⟨HR0.out, HC0.out⟩⟩); clear BK68) | ((with_reducible refine Qc (f := 55) rfl ?_); refine Gl 13 Try.func55 #[.pointer (some ⟨gb68, 0, none⟩), .int .i64 1] ?_; (with_reducible refine (spec_l11All.calls k gb68 l0 a1 0 false 1 t70 t76 t77 t79 t75 t73 t72 true w _ ?_ ?_ A3.out).mono ?_); exact I78x1 HI571.out NB68_67.out; exact Bb2 HB.out (IsS78.ge HI571.out) GE67.out; rintro e w7 ⟨v83, rfl, ho0, hi, hb, hk⟩; refine ⟨_, rfl, ?_⟩; have HO71 := Qa (Kd.N_lower (Kd.N_mono (ok' := fun k_ => (w.heap.size ≤ k_) ∧ k_ ≠ gb67 ∧ k_ ≠ gb68) ho0 (fun k_ hk_ => ⟨(Nat.le_trans (Qv (Bb2 HB.out (IsS78.ge HI571.out) GE67.out)) hk_), (Fb BK67 k_ hk_), (IsS78.fresh (I78x1 HI571.out NB68_67.out) k_ hk_)⟩)) (Qv (Bb2 HB.out (IsS78.ge HI571.out) GE67.out))); replace BK67 := Kc hk BK67 NB67_68; replace HB := Qa (hb); replace HI571 := Qa (hi); clear hb hk hi; (try clear ho0)) | ((with_reducible refine Qp (N := 7) rfl ?_); (try (refine gate_guard (by rfl) ?_; dsimp only)); refine Bz5 7 32 ?_; intro gb69 hg w8 hbox hb; replace HO71 := Qa (Kd.N_below (Kd.N_elderB (Bn HO71.out) gb69 (Nat.le_of_eq hg.symm)) hb); have BK69 := Qa (hbox); have GW69 := Qa ((by rw [hg]; exact (Qv (Bb2 HB.out (IsS78.ge HI571.out) GE67.out)) : w.heap.size ≤ gb69)); have GE69 := Qa ((by rw [hg]; exact (Qv (Bb2 HB.out (IsS78.ge HI571.out) GE67.out)) : w.heap.size ≤ gb69)); replace HB := Sb (Bb2 HB.out (IsS78.ge HI571.out) GE67.out) hb; have NB67_69 := Nl hg BK67; have NB69_67 := Ng hg BK67; replace BK67 := Kb BK67 hb; have NB68_69 := Qa ((by rw [hg]; exact Nat.ne_of_lt (IsS78.lt (show IsS78 w _ gb68 l0 t73 t72 true from I78x1 HI571.out NB68_67.out)) : gb68 ≠ gb69)); have NB69_68 := Qa ((by rw [hg]; exact Nat.ne_of_gt (IsS78.lt (show IsS78 w _ gb68 l0 t73 t72 true from I78x1 HI571.out NB68_67.out)) : gb69 ≠ gb68)); replace HI571 := Qa (IsS78.below (I78x1 HI571.out NB68_67.out) hb); clear hb hbox hg; have hnb9 := NB69_67.out; have hnc9 := NB67_69.out; have hnb10 := NB69_68.out; have hnc10 := NB68_69.out; obtain ⟨q11_0, q11_1, q11_2, q11_3, q11_4, u11_0, u11_1, u11_2, u11_3, u11_4⟩ := Cf5 BK69; obtain ⟨Ao12, co12, eo12⟩ := Kd.N_slice HO71.out; subst eo12; obtain ⟨ASz13_0, cSz13_0, HGz13, hgz13, ⟨HSz13_0, HQz13_0⟩⟩ := HI571.out; have q13_0 := cellS78_0 HGz13; have q13_1 := cellS78_1 HGz13; have q13_2 := cellS78_2 HGz13; have q13_3 := cellS78_3 HGz13; have u13_1 := Qe HGz13 1; have u13_2 := Qe HGz13 2; have u13_3 := Qe HGz13 3; clear HGz13 hgz13; have hnb14 := NB67_68.out; have hnc14 := NB68_67.out; obtain ⟨q15_0, q15_1, q15_2, q15_3, q15_4, u15_0, u15_1, u15_2, u15_3, u15_4⟩ := Cf5 BK67) | ((with_reducible show bodyPost _ _ _ _ _ _); refine Qx (results_ct rfl _ _ gb67 32 #[.int .i64 0, .int .i64 0, .int .i64 0, .int .i64 0, .slice none 0 0] (0, 0) _ rfl (Bm1 BK67.out NB67_69.out) Qh rfl (by kernel_rfl)) rfl ?_; exact ⟨_, Ze, by first | exact Kd.R_nil _ _ _ _ _ | exact Kd.N_nil _ _ _ _ _ | exact Kd.V_nil _ _ _ _ _ | exact Kd.Q_nil _ _ _ _ _ | exact Kd.S_nil _ _ _ _ _, Bb3 HB.out (IsS78.ge HI571.out) GE67.out GE69.out⟩))
 ·replace c4 := Bool.eq_false_iff.mpr c4
  subst c4; rw [if_neg (show ¬ (false = true) by decide)] at H; by_cases c16 : t72 = (a1.size : Int)
  ·rw [if_pos c16] at H; have c16b0 := beq_iff_eq.mpr c16; have c16b1 := bne_eq_false_iff_eq.mpr c16; clear c16; by_cases c17 : a1.toList = ([] : List UInt8)
   ·rw [if_pos c17] at H; have c17b0 := beq_iff_eq.mpr c17; have c17b1 := bne_eq_false_iff_eq.mpr c17; clear c17; simp only [Option.some.injEq, Prod.mk.injEq] at H; obtain ⟨rfl, rfl, rfl, rfl, rfl, rfl⟩ := H; go_enter Try.func21, Try.ntmps21; go_wp2_with (first | ((with_reducible refine Qp (N := 4) rfl ?_); (try (refine gate_guard (by rfl) ?_; dsimp only)); refine Bz5 4 32 ?_; intro gb67 hg w18 hbox hb; have BK67 := Qa (hbox); have GW67 := Gs (w := w) hg (Bb0 HB.out); have GE67 := GW67; replace HB := Sb (Bb0 HB.out) hb; clear hb hbox hg) | ((with_reducible refine Qp (N := 11) rfl ?_); (try (refine gate_guard (by rfl) ?_; dsimp only)); refine Bx (N := 11) (cs := #[.slice A0 l0.length c0, .string a1, .int .i64 0, .bool false]) (t := 78) ?_; intro gb68 hg w19 hbox hb; have BK68 := Qa (hbox); have GW68 := Gs (w := w) hg (Bb1 HB.out GE67.out); have GE68 := GW68; replace HB := Sb (Bb1 HB.out GE67.out) hb; have NB67_68 := Nl hg BK67; have NB68_67 := Ng hg BK67; replace BK67 := Kb BK67 hb; clear hb hbox hg; have HI571 := Qa (show IsS78 w _ gb68 l0 a1 0 false from ⟨_, _, BK68.out, GW68.out, ⟨HR0.out, HC0.out⟩⟩); clear BK68) | ((with_reducible refine Qc (f := 55) rfl ?_); refine Gl 13 Try.func55 #[.pointer (some ⟨gb68, 0, none⟩), .int .i64 1] ?_; (with_reducible refine (spec_l11All.calls k gb68 l0 a1 0 false 1 t70 t76 t77 t79 t75 t73 t72 false w _ ?_ ?_ A3.out).mono ?_); exact I78x1 HI571.out NB68_67.out; exact Bb2 HB.out (IsS78.ge HI571.out) GE67.out; rintro e w20 ⟨v83, rfl, ho0, hi, hb, hk⟩; refine ⟨_, rfl, ?_⟩; have HO71 := Qa (Kd.N_lower (Kd.N_mono (ok' := fun k_ => (w.heap.size ≤ k_) ∧ k_ ≠ gb67 ∧ k_ ≠ gb68) ho0 (fun k_ hk_ => ⟨(Nat.le_trans (Qv (Bb2 HB.out (IsS78.ge HI571.out) GE67.out)) hk_), (Fb BK67 k_ hk_), (IsS78.fresh (I78x1 HI571.out NB68_67.out) k_ hk_)⟩)) (Qv (Bb2 HB.out (IsS78.ge HI571.out) GE67.out))); replace BK67 := Kc hk BK67 NB67_68; replace HB := Qa (hb); replace HI571 := Qa (hi); clear hb hk hi; (try clear ho0)) | ((with_reducible refine Qp (N := 7) rfl ?_); (try (refine gate_guard (by rfl) ?_; dsimp only)); refine Bz5 7 32 ?_; intro gb69 hg w21 hbox hb; replace HO71 := Qa (Kd.N_below (Kd.N_elderB (Bn HO71.out) gb69 (Nat.le_of_eq hg.symm)) hb); have BK69 := Qa (hbox); have GW69 := Qa ((by rw [hg]; exact (Qv (Bb2 HB.out (IsS78.ge HI571.out) GE67.out)) : w.heap.size ≤ gb69)); have GE69 := Qa ((by rw [hg]; exact (Qv (Bb2 HB.out (IsS78.ge HI571.out) GE67.out)) : w.heap.size ≤ gb69)); replace HB := Sb (Bb2 HB.out (IsS78.ge HI571.out) GE67.out) hb; have NB67_69 := Nl hg BK67; have NB69_67 := Ng hg BK67; replace BK67 := Kb BK67 hb; have NB68_69 := Qa ((by rw [hg]; exact Nat.ne_of_lt (IsS78.lt (show IsS78 w _ gb68 l0 t73 t72 false from I78x1 HI571.out NB68_67.out)) : gb68 ≠ gb69)); have NB69_68 := Qa ((by rw [hg]; exact Nat.ne_of_gt (IsS78.lt (show IsS78 w _ gb68 l0 t73 t72 false from I78x1 HI571.out NB68_67.out)) : gb69 ≠ gb68)); replace HI571 := Qa (IsS78.below (I78x1 HI571.out NB68_67.out) hb); clear hb hbox hg; have hnb22 := NB69_67.out; have hnc22 := NB67_69.out; have hnb23 := NB69_68.out; have hnc23 := NB68_69.out; obtain ⟨q24_0, q24_1, q24_2, q24_3, q24_4, u24_0, u24_1, u24_2, u24_3, u24_4⟩ := Cf5 BK69; obtain ⟨Ao25, co25, eo25⟩ := Kd.N_slice HO71.out; subst eo25; obtain ⟨ASz26_0, cSz26_0, HGz26, hgz26, ⟨HSz26_0, HQz26_0⟩⟩ := HI571.out; have q26_0 := cellS78_0 HGz26; have q26_1 := cellS78_1 HGz26; have q26_2 := cellS78_2 HGz26; have q26_3 := cellS78_3 HGz26; have u26_1 := Qe HGz26 1; have u26_2 := Qe HGz26 2; have u26_3 := Qe HGz26 3; clear HGz26 hgz26; have hnb27 := NB67_68.out; have hnc27 := NB68_67.out; obtain ⟨q28_0, q28_1, q28_2, q28_3, q28_4, u28_0, u28_1, u28_2, u28_3, u28_4⟩ := Cf5 BK67) | ((with_reducible show bodyPost _ _ _ _ _ _); refine Qx (results_ct rfl _ _ gb67 32 #[.int .i64 0, .int .i64 0, .int .i64 0, .int .i64 0, .slice none 0 0] (0, 0) _ rfl (Bm1 BK67.out NB67_69.out) Qh rfl (by kernel_rfl)) rfl ?_; exact ⟨_, Ze, by first | exact Kd.R_nil _ _ _ _ _ | exact Kd.N_nil _ _ _ _ _ | exact Kd.V_nil _ _ _ _ _ | exact Kd.Q_nil _ _ _ _ _ | exact Kd.S_nil _ _ _ _ _, Bb3 HB.out (IsS78.ge HI571.out) GE67.out GE69.out⟩))
   ·rw [if_neg c17] at H; have c17b0 := beq_eq_false_iff_ne.mpr c17; have c17b1 := bne_iff_ne.mpr c17; obtain ⟨t81, A29, H⟩ := Ob H; (try dsimp only at H)
    by_cases c30 : t81.toList = a1.toList
    ·rw [if_pos c30] at H; have c30b0 := beq_iff_eq.mpr c30; have c30b1 := bne_eq_false_iff_eq.mpr c30; clear c30; simp only [Option.some.injEq, Prod.mk.injEq] at H; obtain ⟨rfl, rfl, rfl, rfl, rfl, rfl⟩ := H; go_enter Try.func21, Try.ntmps21; go_wp2_with (first | ((with_reducible refine Qp (N := 4) rfl ?_); (try (refine gate_guard (by rfl) ?_; dsimp only)); refine Bz5 4 32 ?_; intro gb67 hg w31 hbox hb; have BK67 := Qa (hbox); have GW67 := Gs (w := w) hg (Bb0 HB.out); have GE67 := GW67; replace HB := Sb (Bb0 HB.out) hb; clear hb hbox hg) | ((with_reducible refine Qp (N := 11) rfl ?_); (try (refine gate_guard (by rfl) ?_; dsimp only)); refine Bx (N := 11) (cs := #[.slice A0 l0.length c0, .string a1, .int .i64 0, .bool false]) (t := 78) ?_; intro gb68 hg w32 hbox hb; have BK68 := Qa (hbox); have GW68 := Gs (w := w) hg (Bb1 HB.out GE67.out); have GE68 := GW68; replace HB := Sb (Bb1 HB.out GE67.out) hb; have NB67_68 := Nl hg BK67; have NB68_67 := Ng hg BK67; replace BK67 := Kb BK67 hb; clear hb hbox hg; have HI571 := Qa (show IsS78 w _ gb68 l0 a1 0 false from ⟨_, _, BK68.out, GW68.out, ⟨HR0.out, HC0.out⟩⟩); clear BK68) | ((with_reducible refine Qc (f := 55) rfl ?_); refine Gl 13 Try.func55 #[.pointer (some ⟨gb68, 0, none⟩), .int .i64 1] ?_; (with_reducible refine (spec_l11All.calls k gb68 l0 a1 0 false 1 t70 t76 t77 t79 t75 t73 t72 false w _ ?_ ?_ A3.out).mono ?_); exact I78x1 HI571.out NB68_67.out; exact Bb2 HB.out (IsS78.ge HI571.out) GE67.out; rintro e w33 ⟨v83, rfl, ho0, hi, hb, hk⟩; refine ⟨_, rfl, ?_⟩; have HO71 := Qa (Kd.N_lower (Kd.N_mono (ok' := fun k_ => (w.heap.size ≤ k_) ∧ k_ ≠ gb67 ∧ k_ ≠ gb68) ho0 (fun k_ hk_ => ⟨(Nat.le_trans (Qv (Bb2 HB.out (IsS78.ge HI571.out) GE67.out)) hk_), (Fb BK67 k_ hk_), (IsS78.fresh (I78x1 HI571.out NB68_67.out) k_ hk_)⟩)) (Qv (Bb2 HB.out (IsS78.ge HI571.out) GE67.out))); replace BK67 := Kc hk BK67 NB67_68; replace HB := Qa (hb); replace HI571 := Qa (hi); clear hb hk hi; (try clear ho0)) | ((with_reducible refine Qp (N := 7) rfl ?_); (try (refine gate_guard (by rfl) ?_; dsimp only)); refine Bz5 7 32 ?_; intro gb69 hg w34 hbox hb; replace HO71 := Qa (Kd.N_below (Kd.N_elderB (Bn HO71.out) gb69 (Nat.le_of_eq hg.symm)) hb); have BK69 := Qa (hbox); have GW69 := Qa ((by rw [hg]; exact (Qv (Bb2 HB.out (IsS78.ge HI571.out) GE67.out)) : w.heap.size ≤ gb69)); have GE69 := Qa ((by rw [hg]; exact (Qv (Bb2 HB.out (IsS78.ge HI571.out) GE67.out)) : w.heap.size ≤ gb69)); replace HB := Sb (Bb2 HB.out (IsS78.ge HI571.out) GE67.out) hb; have NB67_69 := Nl hg BK67; have NB69_67 := Ng hg BK67; replace BK67 := Kb BK67 hb; have NB68_69 := Qa ((by rw [hg]; exact Nat.ne_of_lt (IsS78.lt (show IsS78 w _ gb68 l0 t73 t72 false from I78x1 HI571.out NB68_67.out)) : gb68 ≠ gb69)); have NB69_68 := Qa ((by rw [hg]; exact Nat.ne_of_gt (IsS78.lt (show IsS78 w _ gb68 l0 t73 t72 false from I78x1 HI571.out NB68_67.out)) : gb69 ≠ gb68)); replace HI571 := Qa (IsS78.below (I78x1 HI571.out NB68_67.out) hb); clear hb hbox hg; have hnb35 := NB69_67.out; have hnc35 := NB67_69.out; have hnb36 := NB69_68.out; have hnc36 := NB68_69.out; obtain ⟨q37_0, q37_1, q37_2, q37_3, q37_4, u37_0, u37_1, u37_2, u37_3, u37_4⟩ := Cf5 BK69; obtain ⟨Ao38, co38, eo38⟩ := Kd.N_slice HO71.out; subst eo38; obtain ⟨ASz39_0, cSz39_0, HGz39, hgz39, ⟨HSz39_0, HQz39_0⟩⟩ := HI571.out; have q39_0 := cellS78_0 HGz39; have q39_1 := cellS78_1 HGz39; have q39_2 := cellS78_2 HGz39; have q39_3 := cellS78_3 HGz39; have u39_1 := Qe HGz39 1; have u39_2 := Qe HGz39 2; have u39_3 := Qe HGz39 3; clear HGz39 hgz39) | (go_at_call 10; (with_reducible refine (spec_FormulaText.calls k _ _ l0 t70 t76 t77 t79 _ _ t75 t81 _ ?side1 ?side2 ?side3 ?side4 A29.out).mono ?_); (case side1 => exact Kd.C_below HR0.out (Bb3 HB.out (IsS78.ge HI571.out) GE67.out GE69.out)); (case side2 => exact HC0.out); (case side3 => refine (Kd.N_reads' (e := 32) (base := w.heap.size) (ok := fun k_ => (((w.heap.size ≤ k_) ∧ (k_ ≠ gb67 ∧ k_ ≠ gb68)) ∧ k_ ≠ gb69)) (n := t75.length) (c := co38) ?_).2.2; exact (Bn (Ne5 (g := gb69) HO71.out (fun _ hk => hk.2)))); (case side4 => exact (Kd.N_reads' HO71.out).2.1); rintro e w40 ⟨rfl, hb⟩; replace HO71 := Qa (Kd.N_below (Bn (Ne5 (g := gb69) HO71.out (fun _ hk => hk.2))) hb); replace BK67 := Kf BK67 NB67_69.out hb; replace BK69 := Kx0 (.cells #[.int .i64 t70, .int .i64 t76, .int .i64 t77, .int .i64 t79, .slice Ao38 t75.length co38] 32 (0, 0)) BK69 hb; replace HB := Sb (Bb3 HB.out (IsS78.ge HI571.out) GE67.out GE69.out) hb; replace HI571 := Qa (IsS78.below (show IsS78 w (((((w34.setCell ⟨gb69, 0, none⟩ (.int .i64 t70)).setCell ⟨gb69, 1, none⟩ (.int .i64 t76)).setCell ⟨gb69, 2, none⟩ (.int .i64 t77)).setCell ⟨gb69, 3, none⟩ (.int .i64 t79)).setCell ⟨gb69, 4, none⟩ (.slice Ao38 t75.length co38)) gb68 l0 t73 t72 false from I78x2 HI571.out NB68_67.out NB68_69.out) hb); clear hb; obtain ⟨q41_0, q41_1, q41_2, q41_3, q41_4, u41_0, u41_1, u41_2, u41_3, u41_4⟩ := Cf5 BK69; have hnb42 := NB67_68.out; have hnc42 := NB68_67.out; obtain ⟨q43_0, q43_1, q43_2, q43_3, q43_4, u43_0, u43_1, u43_2, u43_3, u43_4⟩ := Cf5 BK67) | ((with_reducible show bodyPost _ _ _ _ _ _); refine Qx (results_ct rfl _ _ gb67 32 #[.int .i64 t70, .int .i64 t76, .int .i64 t77, .int .i64 t79, .slice Ao38 t75.length co38] (0, 0) _ rfl (Bq BK67.out) Qh rfl (by kernel_rfl)) rfl ?_; exact ⟨_, Ze, Nm (Nf5 (g := gb67) HO71.out (fun _ hk => hk.1.2.1)) (fun _ hk => hk.1.1.1), Bb3 HB.out (IsS78.ge HI571.out) GE67.out GE69.out⟩))
    ·rw [if_neg c30] at H; have c30b0 := beq_eq_false_iff_ne.mpr c30; have c30b1 := bne_iff_ne.mpr c30; simp only [Option.some.injEq, Prod.mk.injEq] at H; obtain ⟨rfl, rfl, rfl, rfl, rfl, rfl⟩ := H; go_enter Try.func21, Try.ntmps21; go_wp2_with (first | ((with_reducible refine Qp (N := 4) rfl ?_); (try (refine gate_guard (by rfl) ?_; dsimp only)); refine Bz5 4 32 ?_; intro gb67 hg w44 hbox hb; have BK67 := Qa (hbox); have GW67 := Gs (w := w) hg (Bb0 HB.out); have GE67 := GW67; replace HB := Sb (Bb0 HB.out) hb; clear hb hbox hg) | ((with_reducible refine Qp (N := 11) rfl ?_); (try (refine gate_guard (by rfl) ?_; dsimp only)); refine Bx (N := 11) (cs := #[.slice A0 l0.length c0, .string a1, .int .i64 0, .bool false]) (t := 78) ?_; intro gb68 hg w45 hbox hb; have BK68 := Qa (hbox); have GW68 := Gs (w := w) hg (Bb1 HB.out GE67.out); have GE68 := GW68; replace HB := Sb (Bb1 HB.out GE67.out) hb; have NB67_68 := Nl hg BK67; have NB68_67 := Ng hg BK67; replace BK67 := Kb BK67 hb; clear hb hbox hg; have HI571 := Qa (show IsS78 w _ gb68 l0 a1 0 false from ⟨_, _, BK68.out, GW68.out, ⟨HR0.out, HC0.out⟩⟩); clear BK68) | ((with_reducible refine Qc (f := 55) rfl ?_); refine Gl 13 Try.func55 #[.pointer (some ⟨gb68, 0, none⟩), .int .i64 1] ?_; (with_reducible refine (spec_l11All.calls k gb68 l0 a1 0 false 1 t70 t76 t77 t79 t75 t73 t72 false w _ ?_ ?_ A3.out).mono ?_); exact I78x1 HI571.out NB68_67.out; exact Bb2 HB.out (IsS78.ge HI571.out) GE67.out; rintro e w46 ⟨v83, rfl, ho0, hi, hb, hk⟩; refine ⟨_, rfl, ?_⟩; have HO71 := Qa (Kd.N_lower (Kd.N_mono (ok' := fun k_ => (w.heap.size ≤ k_) ∧ k_ ≠ gb67 ∧ k_ ≠ gb68) ho0 (fun k_ hk_ => ⟨(Nat.le_trans (Qv (Bb2 HB.out (IsS78.ge HI571.out) GE67.out)) hk_), (Fb BK67 k_ hk_), (IsS78.fresh (I78x1 HI571.out NB68_67.out) k_ hk_)⟩)) (Qv (Bb2 HB.out (IsS78.ge HI571.out) GE67.out))); replace BK67 := Kc hk BK67 NB67_68; replace HB := Qa (hb); replace HI571 := Qa (hi); clear hb hk hi; (try clear ho0)) | ((with_reducible refine Qp (N := 7) rfl ?_); (try (refine gate_guard (by rfl) ?_; dsimp only)); refine Bz5 7 32 ?_; intro gb69 hg w47 hbox hb; replace HO71 := Qa (Kd.N_below (Kd.N_elderB (Bn HO71.out) gb69 (Nat.le_of_eq hg.symm)) hb); have BK69 := Qa (hbox); have GW69 := Qa ((by rw [hg]; exact (Qv (Bb2 HB.out (IsS78.ge HI571.out) GE67.out)) : w.heap.size ≤ gb69)); have GE69 := Qa ((by rw [hg]; exact (Qv (Bb2 HB.out (IsS78.ge HI571.out) GE67.out)) : w.heap.size ≤ gb69)); replace HB := Sb (Bb2 HB.out (IsS78.ge HI571.out) GE67.out) hb; have NB67_69 := Nl hg BK67; have NB69_67 := Ng hg BK67; replace BK67 := Kb BK67 hb; have NB68_69 := Qa ((by rw [hg]; exact Nat.ne_of_lt (IsS78.lt (show IsS78 w _ gb68 l0 t73 t72 false from I78x1 HI571.out NB68_67.out)) : gb68 ≠ gb69)); have NB69_68 := Qa ((by rw [hg]; exact Nat.ne_of_gt (IsS78.lt (show IsS78 w _ gb68 l0 t73 t72 false from I78x1 HI571.out NB68_67.out)) : gb69 ≠ gb68)); replace HI571 := Qa (IsS78.below (I78x1 HI571.out NB68_67.out) hb); clear hb hbox hg; have hnb48 := NB69_67.out; have hnc48 := NB67_69.out; have hnb49 := NB69_68.out; have hnc49 := NB68_69.out; obtain ⟨q50_0, q50_1, q50_2, q50_3, q50_4, u50_0, u50_1, u50_2, u50_3, u50_4⟩ := Cf5 BK69; obtain ⟨Ao51, co51, eo51⟩ := Kd.N_slice HO71.out; subst eo51; obtain ⟨ASz52_0, cSz52_0, HGz52, hgz52, ⟨HSz52_0, HQz52_0⟩⟩ := HI571.out; have q52_0 := cellS78_0 HGz52; have q52_1 := cellS78_1 HGz52; have q52_2 := cellS78_2 HGz52; have q52_3 := cellS78_3 HGz52; have u52_1 := Qe HGz52 1; have u52_2 := Qe HGz52 2; have u52_3 := Qe HGz52 3; clear HGz52 hgz52) | (go_at_call 10; (with_reducible refine (spec_FormulaText.calls k _ _ l0 t70 t76 t77 t79 _ _ t75 t81 _ ?side1 ?side2 ?side3 ?side4 A29.out).mono ?_); (case side1 => exact Kd.C_below HR0.out (Bb3 HB.out (IsS78.ge HI571.out) GE67.out GE69.out)); (case side2 => exact HC0.out); (case side3 => refine (Kd.N_reads' (e := 32) (base := w.heap.size) (ok := fun k_ => (((w.heap.size ≤ k_) ∧ (k_ ≠ gb67 ∧ k_ ≠ gb68)) ∧ k_ ≠ gb69)) (n := t75.length) (c := co51) ?_).2.2; exact (Bn (Ne5 (g := gb69) HO71.out (fun _ hk => hk.2)))); (case side4 => exact (Kd.N_reads' HO71.out).2.1); rintro e w53 ⟨rfl, hb⟩; replace HO71 := Qa (Kd.N_below (Bn (Ne5 (g := gb69) HO71.out (fun _ hk => hk.2))) hb); replace BK67 := Kf BK67 NB67_69.out hb; replace BK69 := Kx0 (.cells #[.int .i64 t70, .int .i64 t76, .int .i64 t77, .int .i64 t79, .slice Ao51 t75.length co51] 32 (0, 0)) BK69 hb; replace HB := Sb (Bb3 HB.out (IsS78.ge HI571.out) GE67.out GE69.out) hb; replace HI571 := Qa (IsS78.below (show IsS78 w (((((w47.setCell ⟨gb69, 0, none⟩ (.int .i64 t70)).setCell ⟨gb69, 1, none⟩ (.int .i64 t76)).setCell ⟨gb69, 2, none⟩ (.int .i64 t77)).setCell ⟨gb69, 3, none⟩ (.int .i64 t79)).setCell ⟨gb69, 4, none⟩ (.slice Ao51 t75.length co51)) gb68 l0 t73 t72 false from I78x2 HI571.out NB68_67.out NB68_69.out) hb); clear hb; have hnb54 := NB67_68.out; have hnc54 := NB68_67.out; obtain ⟨q55_0, q55_1, q55_2, q55_3, q55_4, u55_0, u55_1, u55_2, u55_3, u55_4⟩ := Cf5 BK67) | ((with_reducible show bodyPost _ _ _ _ _ _); refine Qx (results_ct rfl _ _ gb67 32 #[.int .i64 0, .int .i64 0, .int .i64 0, .int .i64 0, .slice none 0 0] (0, 0) _ rfl (Bq BK67.out) Qh rfl (by kernel_rfl)) rfl ?_; exact ⟨_, Ze, by first | exact Kd.R_nil _ _ _ _ _ | exact Kd.N_nil _ _ _ _ _ | exact Kd.V_nil _ _ _ _ _ | exact Kd.Q_nil _ _ _ _ _ | exact Kd.S_nil _ _ _ _ _, Bb3 HB.out (IsS78.ge HI571.out) GE67.out GE69.out⟩))
  ·rw [if_neg c16] at H; have c16b0 := beq_eq_false_iff_ne.mpr c16; have c16b1 := bne_iff_ne.mpr c16; simp only [Option.some.injEq, Prod.mk.injEq] at H; obtain ⟨rfl, rfl, rfl, rfl, rfl, rfl⟩ := H; go_enter Try.func21, Try.ntmps21; go_wp2_with (first | ((with_reducible refine Qp (N := 4) rfl ?_); (try (refine gate_guard (by rfl) ?_; dsimp only)); refine Bz5 4 32 ?_; intro gb67 hg w56 hbox hb; have BK67 := Qa (hbox); have GW67 := Gs (w := w) hg (Bb0 HB.out); have GE67 := GW67; replace HB := Sb (Bb0 HB.out) hb; clear hb hbox hg) | ((with_reducible refine Qp (N := 11) rfl ?_); (try (refine gate_guard (by rfl) ?_; dsimp only)); refine Bx (N := 11) (cs := #[.slice A0 l0.length c0, .string a1, .int .i64 0, .bool false]) (t := 78) ?_; intro gb68 hg w57 hbox hb; have BK68 := Qa (hbox); have GW68 := Gs (w := w) hg (Bb1 HB.out GE67.out); have GE68 := GW68; replace HB := Sb (Bb1 HB.out GE67.out) hb; have NB67_68 := Nl hg BK67; have NB68_67 := Ng hg BK67; replace BK67 := Kb BK67 hb; clear hb hbox hg; have HI571 := Qa (show IsS78 w _ gb68 l0 a1 0 false from ⟨_, _, BK68.out, GW68.out, ⟨HR0.out, HC0.out⟩⟩); clear BK68) | ((with_reducible refine Qc (f := 55) rfl ?_); refine Gl 13 Try.func55 #[.pointer (some ⟨gb68, 0, none⟩), .int .i64 1] ?_; (with_reducible refine (spec_l11All.calls k gb68 l0 a1 0 false 1 t70 t76 t77 t79 t75 t73 t72 false w _ ?_ ?_ A3.out).mono ?_); exact I78x1 HI571.out NB68_67.out; exact Bb2 HB.out (IsS78.ge HI571.out) GE67.out; rintro e w58 ⟨v83, rfl, ho0, hi, hb, hk⟩; refine ⟨_, rfl, ?_⟩; have HO71 := Qa (Kd.N_lower (Kd.N_mono (ok' := fun k_ => (w.heap.size ≤ k_) ∧ k_ ≠ gb67 ∧ k_ ≠ gb68) ho0 (fun k_ hk_ => ⟨(Nat.le_trans (Qv (Bb2 HB.out (IsS78.ge HI571.out) GE67.out)) hk_), (Fb BK67 k_ hk_), (IsS78.fresh (I78x1 HI571.out NB68_67.out) k_ hk_)⟩)) (Qv (Bb2 HB.out (IsS78.ge HI571.out) GE67.out))); replace BK67 := Kc hk BK67 NB67_68; replace HB := Qa (hb); replace HI571 := Qa (hi); clear hb hk hi; (try clear ho0)) | ((with_reducible refine Qp (N := 7) rfl ?_); (try (refine gate_guard (by rfl) ?_; dsimp only)); refine Bz5 7 32 ?_; intro gb69 hg w59 hbox hb; replace HO71 := Qa (Kd.N_below (Kd.N_elderB (Bn HO71.out) gb69 (Nat.le_of_eq hg.symm)) hb); have BK69 := Qa (hbox); have GW69 := Qa ((by rw [hg]; exact (Qv (Bb2 HB.out (IsS78.ge HI571.out) GE67.out)) : w.heap.size ≤ gb69)); have GE69 := Qa ((by rw [hg]; exact (Qv (Bb2 HB.out (IsS78.ge HI571.out) GE67.out)) : w.heap.size ≤ gb69)); replace HB := Sb (Bb2 HB.out (IsS78.ge HI571.out) GE67.out) hb; have NB67_69 := Nl hg BK67; have NB69_67 := Ng hg BK67; replace BK67 := Kb BK67 hb; have NB68_69 := Qa ((by rw [hg]; exact Nat.ne_of_lt (IsS78.lt (show IsS78 w _ gb68 l0 t73 t72 false from I78x1 HI571.out NB68_67.out)) : gb68 ≠ gb69)); have NB69_68 := Qa ((by rw [hg]; exact Nat.ne_of_gt (IsS78.lt (show IsS78 w _ gb68 l0 t73 t72 false from I78x1 HI571.out NB68_67.out)) : gb69 ≠ gb68)); replace HI571 := Qa (IsS78.below (I78x1 HI571.out NB68_67.out) hb); clear hb hbox hg; have hnb60 := NB69_67.out; have hnc60 := NB67_69.out; have hnb61 := NB69_68.out; have hnc61 := NB68_69.out; obtain ⟨q62_0, q62_1, q62_2, q62_3, q62_4, u62_0, u62_1, u62_2, u62_3, u62_4⟩ := Cf5 BK69; obtain ⟨Ao63, co63, eo63⟩ := Kd.N_slice HO71.out; subst eo63; obtain ⟨ASz64_0, cSz64_0, HGz64, hgz64, ⟨HSz64_0, HQz64_0⟩⟩ := HI571.out; have q64_0 := cellS78_0 HGz64; have q64_1 := cellS78_1 HGz64; have q64_2 := cellS78_2 HGz64; have q64_3 := cellS78_3 HGz64; have u64_1 := Qe HGz64 1; have u64_2 := Qe HGz64 2; have u64_3 := Qe HGz64 3; clear HGz64 hgz64; have hnb65 := NB67_68.out; have hnc65 := NB68_67.out; obtain ⟨q66_0, q66_1, q66_2, q66_3, q66_4, u66_0, u66_1, u66_2, u66_3, u66_4⟩ := Cf5 BK67) | ((with_reducible show bodyPost _ _ _ _ _ _); refine Qx (results_ct rfl _ _ gb67 32 #[.int .i64 0, .int .i64 0, .int .i64 0, .int .i64 0, .slice none 0 0] (0, 0) _ rfl (Bm1 BK67.out NB67_69.out) Qh rfl (by kernel_rfl)) rfl ?_; exact ⟨_, Ze, by first | exact Kd.R_nil _ _ _ _ _ | exact Kd.N_nil _ _ _ _ _ | exact Kd.V_nil _ _ _ _ _ | exact Kd.Q_nil _ _ _ _ _ | exact Kd.S_nil _ _ _ _ _, Bb3 HB.out (IsS78.ge HI571.out) GE67.out GE69.out⟩))
def laws_markText.l0 : Nat → Int → ByteArray → Option (ByteArray)
 | 0, _, _ => none
 | k + 1, x0, x3 => if x0 > 0 then ((some (([(Qg (48 + (Int.tmod x0 10))) % 256] : List Int) : List Int)).bind fun y74 => (if (strOfNums y74).size + x3.size ≤ 9223372036854775807 then (laws_markText.l0 k (Qg (Int.tdiv x0 10)) ((strOfNums y74) ++ x3)) else (none))) else (if 1 + x3.size ≤ 9223372036854775807 then (some ((⟨#[109]⟩ : ByteArray) ++ x3)) else (none))
def laws_markText.f (k : Nat) (a0 : Int) : Option (ByteArray) := if a0 ≤ 0 then (some (⟨#[109, 48]⟩ : ByteArray)) else (laws_markText.l0 k a0 (⟨#[]⟩ : ByteArray))
theorem laws_markText.mono_l : ∀ k, (∀ y0 y1, LeO (laws_markText.l0 k y0 y1) (laws_markText.l0 (k + 1) y0 y1))
 | 0 => fun _ _ r h => by simp [laws_markText.l0] at h
 | k + 1 => by
  have ih0 := laws_markText.mono_l k
  ·intro y0 y1; unfold laws_markText.l0; exact Lm1 ih0
theorem laws_markText.mono : ∀ a0 k, LeO (laws_markText.f k a0) (laws_markText.f (k + 1) a0) := by
 intro a0 k
 have ih0 := laws_markText.mono_l k
 unfold laws_markText.f
 exact Lm1 ih0
theorem laws_markText.calls (k : Nat) (a0 : Int) (r : ByteArray) (w : Qm) (h : laws_markText.f k a0 = some r) :
  Qz Qk 56 #[.int .i64 a0] w fun e w' => e = .returned (.string r) ∧ Qq w.heap.size w w' := by
 have HB := Qa (Below.refl w.heap.size w)
 have H : (if a0 ≤ 0 then (some (⟨#[109, 48]⟩ : ByteArray)) else (laws_markText.l0 k a0 (⟨#[]⟩ : ByteArray))) = some r := h
 clear h
 by_cases c2 : a0 ≤ 0
 ·rw [if_pos c2] at H
  replace c2 := decide_eq_true c2; obtain rfl := Option.some.inj H; go_enter Try.func56, Try.ntmps56; go_wp2; go_ret; exact ⟨Ze, Bb0 HB.out⟩
 ·rw [if_neg c2] at H
  replace c2 := decide_eq_false c2; have H' := Qa H; clear H; go_enter Try.func56, Try.ntmps56; go_wp2; go_loopg [0, 3] k (fun kq v0 v3 w' => ∃ (x0_1 : Int) (x3_1 : ByteArray), v0 = .int .i64 x0_1 ∧ v3 = .string x3_1 ∧ Qf (laws_markText.l0 kq x0_1 x3_1 = some r) ∧ Qf (kq ≤ k) ∧ Qf (Qq w.heap.size w w'))
  case atStart => exact ⟨(a0), ((⟨#[]⟩ : ByteArray)), Zf, Zf, H', ⟨Nat.le_refl _⟩, ⟨Bb0 HB.out⟩⟩
  case round =>
   clear H'; (try clear c2)
   (try clear c2)
   (try clear p2)
   obtain ⟨x0_1, x3_1, rfl, rfl, HA, HK1, HB⟩ := hrel; cases gk with
   | zero => exact absurd HA.out (by simp [laws_markText.l0])
   | succ k1 =>
    have H := HA.out; clear HA; simp only [laws_markText.l0] at H; by_cases c3 : x0_1 > 0
    ·rw [if_pos c3] at H; replace c3 := decide_eq_true c3; obtain ⟨y74, hy74⟩ : ∃ y_ : List Int, y_ = (([(Qg (48 + (Int.tmod x0_1 10))) % 256] : List Int)) := ⟨_, rfl⟩; replace H : (if (strOfNums y74).size + x3_1.size ≤ 9223372036854775807 then (laws_markText.l0 k1 (Qg (Int.tdiv x0_1 10)) ((strOfNums y74) ++ x3_1)) else (none)) = some r := Zh hy74 H; have Ny74 := Qa hy74; clear hy74; by_cases c4 : (strOfNums y74).size + x3_1.size ≤ 9223372036854775807
     ·rw [if_pos c4] at H; have c4b0 := eq_true c4; have c4b1 := decide_eq_true c4; try have c4b2 : (9223372036854775807 < (strOfNums y74).size + x3_1.size) = False := eq_false (Nat.not_lt.2 c4)
      have H' := Qa H; clear H; go_wp2_with (first | ((with_reducible refine Qp (N := 12) rfl ?_); refine Kd.R_lit (Kd.int .u8) _ 5 ?hg (N := 12) ?hd (xs := ([(Qg (48 + (Int.tmod x0_1 10))) % 256] : List Int)) (inner := [.int .u8 ((Qg (48 + (Int.tmod x0_1 10))) % 256)]) (ok := fun _ => True) (okp := fun _ => True) ?hr ?hp (fun _ hk => hk) trivial (Below.refl _ _) (Nat.le_refl _) (by simp) ?_; (case hd => rfl); (case hg => rfl); (case hr => first | (go_simp; done) | (go_simp; rfl)); (case hp => exact (Reps.one (show Kd.M (Kd.int .u8) _ _ _ ((Qg (48 + (Int.tmod x0_1 10))) % 256) [.int .u8 ((Qg (48 + (Int.tmod x0_1 10))) % 256)] from rfl) (Reps.none _ _))); intro v86 w5 ho6 hb hg_ hnew_; clear hg_ hnew_; (first | rw [← Ny74.out] at ho6 | (simp only [Int.reduceToNat] at ho6; rw [← Ny74.out] at ho6)); have HO85 := Lw ho6 (Bb0 HB.out); replace HB := Sb (Bb0 HB.out) hb; clear hb ho6; have hcv7 := own_string (P := Qk) Try.underlying37 Try.underlying5 Try.underlying9 (Kd.own_of_R HO85.out))); go_roundg k1
      case measure => have := HK1.out; omega
      case rel => exact ⟨(Qg (Int.tdiv x0_1 10)), ((strOfNums y74) ++ x3_1), Zf, Zf, H', ⟨by have := HK1.out; omega⟩, ⟨Bb0 HB.out⟩⟩
     ·rw [if_neg c4] at H; exact absurd H (by simp)
    ·rw [if_neg c3] at H; replace c3 := decide_eq_false c3; by_cases c8 : 1 + x3_1.size ≤ 9223372036854775807
     ·rw [if_pos c8] at H; have c8b0 := eq_true c8; have c8b1 := decide_eq_true c8; try have c8b2 : (9223372036854775807 < 1 + x3_1.size) = False := eq_false (Nat.not_lt.2 c8)
      obtain rfl := Option.some.inj H; go_wp2; go_ret; exact ⟨Ze, Bb0 HB.out⟩
     ·rw [if_neg c8] at H; exact absurd H (by simp)
def laws_markStringS.l0 : Nat → List ByteArray → Int → Int → Option (Int × List ByteArray)
 | 0, _, _, _ => none
 | k + 1, x0, x1, x5 => if x5 < (x0.length : Int) then ((laws_markText.f k x1).bind fun t82 => (if 0 ≤ x5 then (laws_markStringS.l0 k (x0.set (x5 : Int).toNat t82) (Qg (x1 + 1)) (Qg (x5 + 1))) else (none))) else (some (x1, x0))
def laws_markStringS.f (k : Nat) (l0 : List ByteArray) (a1 : Int) : Option (Int × List ByteArray) := laws_markStringS.l0 k l0 a1 0
theorem laws_markStringS.mono_l : ∀ k, (∀ y0 y1 y2, LeO (laws_markStringS.l0 k y0 y1 y2) (laws_markStringS.l0 (k + 1) y0 y1 y2))
 | 0 => fun _ _ _ r h => by simp [laws_markStringS.l0] at h
 | k + 1 => by
  have ih0 := laws_markStringS.mono_l k
  ·intro y0 y1 y2; unfold laws_markStringS.l0; exact Lm2 ih0 laws_markText.mono
theorem laws_markStringS.mono : ∀ a0 a1 k, LeO (laws_markStringS.f k a0 a1) (laws_markStringS.f (k + 1) a0 a1) := by
 intro a0 a1 k
 have ih0 := laws_markStringS.mono_l k
 unfold laws_markStringS.f
 exact Lm2 ih0 laws_markText.mono
theorem laws_markStringS.calls (k : Nat) (P0_ : Nat → Prop) (u9000_ : Qs) (l0 : List ByteArray) (a1 : Int) (r1 : Int) (r2 : List ByteArray) (w0 w : Qm) (hB : Qq w0.heap.size w0 w) (ho0 : Kd.R Kd.string 9 w w0.heap.size P0_ u9000_ l0) (h : laws_markStringS.f k l0 a1 = some (r1, r2)) :
  Qz Qk 22 #[u9000_, .int .i64 a1] w fun e w' => e = .returned (.int .i64 r1) ∧ Kd.R Kd.string 9 w' w0.heap.size (fun k_ => (P0_ k_ ∨ w.heap.size ≤ k_)) u9000_ r2 ∧ Qq w0.heap.size w0 w' ∧ Kept w w' (fun k_ => P0_ k_) := by
 have HO0 := Qa (show Kd.R Kd.string 9 w w0.heap.size (fun k_ => (P0_ k_ ∨ w.heap.size ≤ k_)) u9000_ l0 from Kd.R_mono ho0 (fun k_ hk => (.inl hk)))
 have HK := Qa (Kept.refl w (fun k_ => P0_ k_))
 have HW0 := Qa hB.size
 have HB := Qa hB
 clear hB
 have H : (laws_markStringS.l0 k l0 a1 0) = some (r1, r2) := h
 clear h
 have H' := Qa H
 clear H
 go_enter Try.func22, Try.ntmps22
 go_wp2
 go_loopg [1, 5] k (fun kq v1 v5 w' => ∃ (x0_1 : List ByteArray) (x1_1 : Int) (x5_1 : Int), v1 = .int .i64 x1_1 ∧ v5 = .int .i64 x5_1 ∧ Qf (laws_markStringS.l0 kq x0_1 x1_1 x5_1 = some (r1, r2)) ∧ Qf (kq ≤ k) ∧ Qf (Kd.R Kd.string 9 w' w0.heap.size (fun k_ => (P0_ k_ ∨ w.heap.size ≤ k_)) u9000_ x0_1) ∧ Qf (Kept w w' (fun k_ => P0_ k_)) ∧ Qf (Qq w0.heap.size w0 w'))
 case atStart => exact ⟨(l0), (a1), (0), Zf, Zf, H', ⟨Nat.le_refl _⟩, ⟨Br HO0.out⟩, ⟨by repeat (first | (with_reducible first | exact HK.out | apply Kept.alloc | apply Kept.drewN | apply Kept.drew) | exact HK.out)⟩, ⟨Bb0 HB.out⟩⟩
 case round =>
  clear H'; (try clear c2)
  (try clear p2)
  obtain ⟨x0_1, x1_1, x5_1, rfl, rfl, HA, HK1, HO_0, HK, HB⟩ := hrel; cases gk with
  | zero => exact absurd HA.out (by simp [laws_markStringS.l0])
  | succ k1 =>
   have H := HA.out; clear HA; simp only [laws_markStringS.l0] at H; by_cases c3 : x5_1 < (x0_1.length : Int)
   ·rw [if_pos c3] at H; replace c3 := decide_eq_true c3; obtain ⟨t82, A4, H⟩ := Ob H; (try dsimp only at H)
    by_cases c5 : 0 ≤ x5_1
    ·rw [if_pos c5] at H; replace c5 := decide_eq_true c5; obtain ⟨y80, hy80⟩ : ∃ y_ : List ByteArray, y_ = (x0_1.set (x5_1 : Int).toNat t82) := ⟨_, rfl⟩; replace H : (laws_markStringS.l0 k1 y80 (Qg (x1_1 + 1)) (Qg (x5_1 + 1))) = some (r1, r2) := Zh hy80 H; have Ny80 := Qa hy80; clear hy80; have H' := Qa H; clear H; obtain ⟨Ao7, co7, eo7⟩ := Kd.R_slice HO_0.out; subst eo7; go_wp2_with (first | ((with_reducible refine Qc (f := 56) rfl ?_); refine Gl 15 Try.func56 #[.int .i64 x1_1] ?_; (with_reducible refine (laws_markText.calls k1 x1_1 t82 _ A4.out).mono ?_); rintro e w8 ⟨rfl, hb⟩; refine ⟨_, rfl, ?_⟩; replace HO_0 := Rb HO_0 hb; replace HK := Qa (Kept.below (S := (fun k_ => P0_ k_)) (by repeat (first | (with_reducible first | exact HK.out | apply Kept.alloc | apply Kept.drewN | apply Kept.drew) | exact HK.out)) hb); replace HB := Sb (Bb0 HB.out) hb; clear hb; have p6 : 0 ≤ (x5_1 : Int) := Da; have q6 : (x5_1 : Int) < ((x0_1.length : Int) : Int) := Da; obtain ⟨go6, co6, eo6, gb6, gl6, cl6, HG6⟩ := Kd.R_form HO_0.out (by omega); (first | cases eo6 | (injection eo6 with ea_ en_ ec_; (first | subst ea_ | (injection ea_ with ea_; subst ea_)); subst ec_; clear en_)); have GB6 := Qa gb6; have GG6 := Qa HG6; clear gb6 gl6 HG6; have HMgo6 := Qa (show (P0_ go6 ∨ w.heap.size ≤ go6) from (HO_0.out.1 _ rfl)); obtain ⟨hx6_0, hf6_0⟩ := Kd.R_celln (⟨#[]⟩ : ByteArray) HO_0.out (x5_1 : Int) p6 q6; replace p6 := eq_true p6; replace q6 := eq_true q6; obtain ⟨hy9_, hz9_⟩ := Kd.R_celln (⟨#[]⟩ : ByteArray) HO_0.out (x5_1 : Int) (Da) (Da); have HP9 := Kd.R_putg HO_0.out (x5_1 : Int) t82) | ((with_reducible refine gate_store (t := 9) (p := 16) rfl ?_); refine store_event (t := 9) (p := 16) (v := ?vo_w10) (w1 := (w8.setCell ⟨go6, (x5_1 : Int).toNat, none⟩ (.string t82))) ?hg ?ho ?hn ?hr ?_; (case ho => rfl); (case hg => rfl); (case hn => rfl); (case hr => first | (go_simp; done) | (go_simp; rfl)); intro w10 hw; have hg : w8.grownBy w10 (some go6) := (by rw [hw]; exact HP9.2); have hp_ : Kd.R Kd.string 9 w10 w0.heap.size (fun k_ => (P0_ k_ ∨ w.heap.size ≤ k_)) (.slice (some ⟨go6, 0, none⟩) x0_1.length co7) y80 := (by rw [hw, Ny80.out]; exact HP9.1); clear HP9; replace HB := Qa ((by rw [hw]; exact below_set (HB.out) GB6.out : Qq w0.heap.size w0 w10)); replace HK := Qa (Kept.of_grown (S := (fun k_ => P0_ k_)) hg (by repeat (first | (with_reducible first | exact HK.out | apply Kept.alloc | apply Kept.drewN | apply Kept.drew) | exact HK.out)) (fun k_ e_ => (HO_0.out.1 k_ e_))); replace HO_0 := Qa (hp_); clear hg hw hp_)); go_roundg k1
     case measure => have := HK1.out; omega
     case rel => exact ⟨(y80), (Qg (x1_1 + 1)), (Qg (x5_1 + 1)), Zf, Zf, H', ⟨by have := HK1.out; omega⟩, ⟨Br HO_0.out⟩, ⟨by repeat (first | (with_reducible first | exact HK.out | apply Kept.alloc | apply Kept.drewN | apply Kept.drew) | exact HK.out)⟩, ⟨Bb0 HB.out⟩⟩
    ·rw [if_neg c5] at H; exact absurd H (by simp)
   ·rw [if_neg c3] at H; replace c3 := decide_eq_false c3; simp only [Option.some.injEq, Prod.mk.injEq] at H; obtain ⟨rfl, rfl⟩ := H; obtain ⟨Ao11, co11, eo11⟩ := Kd.R_slice HO_0.out; subst eo11; go_wp2; go_ret; exact ⟨Ze, Br HO_0.out, Bb0 HB.out, by repeat (first | (with_reducible first | exact HK.out | apply Kept.alloc | apply Kept.drewN | apply Kept.drew) | exact HK.out)⟩
theorem raw_open {w : Qm} {base : Nat} {ok : Nat → Prop} {v : Qs} {rows : List (List Qs)} (h : (Kd.raw 5).R 32 w base ok v rows) :
  (v = .slice none 0 0 ∧ rows = []) ∨ ∃ g cap, ∃ cur : Array Qs, v = .slice (some ⟨g, 0, none⟩) rows.length cap ∧ base ≤ g ∧ w.heap[g]? = some (.cells cur 32 (0, 0)) ∧ rows.length ≤ cap ∧ cap ≤ maxLen ∧ cur.size = cap * 5 ∧
   ∀ (j : Nat) (c : List Qs), rows[j]? = some c → c.length = 5 ∧ (∀ u ∈ c, u.oneCell' = true) ∧ ∀ i, i < 5 → cur[j * 5 + i]? = c[i]? := by
 obtain ⟨h0, inner, ho, hr⟩ := h
 have hs : (Kd.raw 5).sz = 5 := rfl
 rw [hs] at ho
 rcases ho.2 with ⟨h1, h2⟩ | ⟨g, cap, cur, rfl, a, b, c, d, e, f⟩
 ·exact .inl ⟨h1, List.eq_nil_of_length_eq_zero h2⟩
 ·refine .inr ⟨g, cap, cur, rfl, a, b, c, d, e, fun j q hj => ?_⟩
  obtain ⟨p1, p2, p3⟩ := hr.2 j q hj; refine ⟨p1 ▸ p2, fun u hu => p3 u (p1 ▸ hu), fun i hi => ?_⟩; have hjl : j < rows.length := (List.getElem?_eq_some_iff.1 hj).1; have : j * 5 + i < rows.length * 5 := by omega
  rw [← p1, hs, List.getElem?_take_of_lt hi, List.getElem?_drop, ← f, List.getElem?_take_of_lt this, Array.getElem?_toList]
theorem raw_close {w : Qm} {base g cap : Nat} {ok : Nat → Prop} {cur : Array Qs} {rows : List (List Qs)} (h0 : ok g) (a : base ≤ g) (b : w.heap[g]? = some (.cells cur 32 (0, 0))) (c : rows.length ≤ cap) (d : cap ≤ maxLen) (e : cur.size = cap * 5)
  (f : ∀ (j : Nat) (c : List Qs), rows[j]? = some c → c.length = 5 ∧ (∀ u ∈ c, u.oneCell' = true) ∧ ∀ i, i < 5 → cur[j * 5 + i]? = c[i]?) : (Kd.raw 5).R 32 w base ok (.slice (some ⟨g, 0, none⟩) rows.length cap) rows := by
 have hlen : (cur.toList.take (rows.length * 5)).length = rows.length * 5 := by
  rw [List.length_take, show cur.toList.length = cap * 5 from e]; omega
 refine ⟨fun k hk => by simp only [Value.ownBlock, Option.some.injEq] at hk; exact hk ▸ h0, cur.toList.take (rows.length * 5), ⟨hlen, .inr ⟨g, cap, cur, rfl, a, b, c, d, e, rfl⟩⟩, hlen, fun j q hj => ?_⟩
 obtain ⟨f1, f2, f3⟩ := f j q hj
 have hjl : j < rows.length := (List.getElem?_eq_some_iff.1 hj).1
 have hq : ((cur.toList.take (rows.length * 5)).drop (j * 5)).take 5 = q := by
  refine List.ext_getElem? (fun i => ?_); by_cases hi : i < 5
  ·have : j * 5 + i < rows.length * 5 := by omega
   rw [List.getElem?_take_of_lt hi, List.getElem?_drop, List.getElem?_take_of_lt this, Array.getElem?_toList]; exact f3 i hi
  ·rw [List.getElem?_take_eq_none (by omega), List.getElem?_eq_none (by omega)]
 exact ⟨hq, by rw [show ((cur.toList.take (rows.length * 5)).drop (j * (Kd.raw 5).sz)).take (Kd.raw 5).sz = q from hq]; exact f1, by rw [show ((cur.toList.take (rows.length * 5)).drop (j * (Kd.raw 5).sz)).take (Kd.raw 5).sz = q from hq]; exact f2⟩
section
variable {base g cap i j : Nat} {ok : Nat → Prop} {w W W' : Qm} {xs zs ys : List S32} {z z' : S32}
theorem T32_put (h : T32 W base ok (.slice (some ⟨g, 0, none⟩) zs.length cap) zs) (hi : zs[i]? = some z) (hj : j < 5) (u : Int) (h4 : z'.f4 = z.f4)
  (hz : ∀ v : Qs, [.int .i64 z'.f0, .int .i64 z'.f1, .int .i64 z'.f2, .int .i64 z'.f3, v] = ([.int .i64 z.f0, .int .i64 z.f1, .int .i64 z.f2, .int .i64 z.f3, v] : List Qs).set j (.int .i64 u)) : T32 (W.setCell ⟨g, i * 5 + j, none⟩ (.int .i64 u)) base ok (.slice (some ⟨g, 0, none⟩) zs.length cap) (zs.set i z') := by
 cases h with
 | mk _ _ _ _ rows vs oks h0 hl hR hs hd hc ht =>
  have hil : i < zs.length := (List.getElem?_eq_some_iff.1 hi).1; have hir : i < rows.length := by omega
  rcases raw_open hR with ⟨h1, _⟩ | ⟨g', cap', cur, e, a, b, c, d, e1, f⟩
  ·cases h1
  injection e with e2 e3 e4; injection e2 with e2; injection e2 with e2; subst e2 e4; have hrow := hc i z _ hi (List.getElem?_eq_getElem hir); have R2 : (Kd.raw 5).R 32 (W.setCell ⟨g, i * 5 + j, none⟩ (.int .i64 u)) base (fun k => some k = (Value.slice (some ⟨g, 0, none⟩) zs.length cap).ownBlock) (.slice (some ⟨g, 0, none⟩) zs.length cap) (rows.set i (rows[i].set j (.int .i64 u))) := by
   have hlen : (rows.set i (rows[i].set j (.int .i64 u))).length = zs.length := by rw [List.length_set]; exact hl
   have := raw_close (w := W.setCell ⟨g, i * 5 + j, none⟩ (.int .i64 u)) (base := base) (g := g) (cap := cap) (ok := fun k => some k = (Value.slice (some ⟨g, 0, none⟩) zs.length cap).ownBlock) (cur := cur.setIfInBounds (i * 5 + j) (.int .i64 u)) (rows := rows.set i (rows[i].set j (.int .i64 u))) rfl a (blk_put b (i * 5 + j) _ rfl) (by rw [List.length_set]; exact c) d (by rw [Array.size_setIfInBounds]; exact e1) (fun q p hp => ?_)
   ·rw [hlen] at this; exact this
   ·rcases Nat.lt_trichotomy q i with hq | hq | hq
    ·rw [List.getElem?_set_ne (by omega)] at hp; obtain ⟨f1, f2, f3⟩ := f q p hp; exact ⟨f1, f2, fun y hy => by rw [Array.getElem?_setIfInBounds_ne (by omega)]; exact f3 y hy⟩
    ·subst hq; rw [List.getElem?_set_self hir] at hp; obtain rfl := Option.some.inj hp; obtain ⟨f1, f2, f3⟩ := f q _ (List.getElem?_eq_getElem hir); refine ⟨by rw [List.length_set]; exact f1, fun y hy => ?_, fun y hy => ?_⟩
     ·rcases List.mem_or_eq_of_mem_set hy with hy | rfl
      ·exact f2 y hy
      ·rfl
     ·by_cases hyj : y = j
      ·subst hyj; rw [Array.getElem?_setIfInBounds_self_of_lt (by rw [e1]; omega), List.getElem?_set_self (by omega)]
      ·rw [Array.getElem?_setIfInBounds_ne (by omega), List.getElem?_set_ne (by omega)]; exact f3 y hy
    ·rw [List.getElem?_set_ne (by omega)] at hp; obtain ⟨f1, f2, f3⟩ := f q p hp; exact ⟨f1, f2, fun y hy => by rw [Array.getElem?_setIfInBounds_ne (by omega)]; exact f3 y hy⟩
  refine Tr.mk _ _ _ _ (rows.set i (rows[i].set j (.int .i64 u))) vs oks h0 (by rw [List.length_set, List.length_set]; exact hl) R2 hs hd (fun q x p hx hp => ?_) (fun q x hx => ?_)
  ·by_cases hq : q = i
   ·subst hq; rw [List.getElem?_set_self hil] at hx; obtain rfl := Option.some.inj hx; rw [List.getElem?_set_self hir] at hp; obtain rfl := Option.some.inj hp; rw [hrow]; exact (hz _).symm
   ·rw [List.getElem?_set_ne (by omega)] at hx hp; exact hc q x p hx hp
  ·have far : ∀ k, oks q k → (W.setCell ⟨g, i * 5 + j, none⟩ (.int .i64 u)).heap[k]? = W.heap[k]? := fun k hk => Below.heap_setCell W _ _ k (fun e => (hs q k hk).2 (by simp [Value.ownBlock]; exact e))
   by_cases hq : q = i
   ·subst hq; rw [List.getElem?_set_self hil] at hx; obtain rfl := Option.some.inj hx; rw [h4]; exact T32_step (ht q z hi) (fun k hk _ => far k hk)
   ·rw [List.getElem?_set_ne (by omega)] at hx; exact T32_step (ht q x hx) (fun k hk _ => far k hk)
theorem T32_cells (h : T32 W base ok (.slice (some ⟨g, 0, none⟩) zs.length cap) zs) (hi : i < zs.length) (hj : j < 5) : (∃ u, W.cell? ⟨g, i * 5 + j, none⟩ = some u) ∧ W.frozen? ⟨g, i * 5 + j, none⟩ = false := by
 cases h with
 | mk _ _ _ _ rows vs oks h0 hl hR hs hd hc ht =>
  rcases raw_open hR with ⟨h1, _⟩ | ⟨g', cap', cur, e, a, b, c, d, e1, f⟩
  ·cases h1
  injection e with e2 e3 e4; injection e2 with e2; injection e2 with e2; subst e2 e4; have hlt : i * 5 + j < cur.size := by omega
  exact ⟨⟨cur[i * 5 + j], by simp [World.cell?, b, Array.getElem?_eq_getElem hlt]⟩, by simp [World.frozen?, b]⟩
theorem T32_kid (h : T32 W base ok (.slice (some ⟨g, 0, none⟩) zs.length cap) zs) (hi : zs[i]? = some z) : ∃ (v4 : Qs) (ok4 : Nat → Prop), W.cell? ⟨g, i * 5 + 4, none⟩ = some v4 ∧ T32 W 0 ok4 v4 z.f4 ∧ (∀ k, ok4 k → ok k) ∧
  ∀ (W' : Qm) (ys : List S32), Kept W W' ok4 → T32 W' 0 ok4 v4 ys → T32 W' base ok (.slice (some ⟨g, 0, none⟩) zs.length cap) (zs.set i ⟨z.f0, z.f1, z.f2, z.f3, ys⟩) := by
 cases h with
 | mk _ _ _ _ rows vs oks h0 hl hR hs hd hc ht =>
  have hil : i < zs.length := (List.getElem?_eq_some_iff.1 hi).1; have hir : i < rows.length := by omega
  have hR' := hR; rcases raw_open hR with ⟨h1, _⟩ | ⟨g', cap', cur, e, a, b, c, d, e1, f⟩
  ·cases h1
  injection e with e2 e3 e4; injection e2 with e2; injection e2 with e2; subst e2 e4; have hrow := hc i z _ hi (List.getElem?_eq_getElem hir); have hcell := (f i _ (List.getElem?_eq_getElem hir)).2.2 4 (by decide); rw [hrow] at hcell; refine ⟨vs i, oks i, ?_, ht i z hi, fun k hk => (hs i k hk).1, fun W' ys hK hT => ?_⟩
  ·simp [World.cell?, b, hcell]
  ·refine Tr.mk _ _ _ _ rows vs oks h0 (by rw [List.length_set]; exact hl) (Kd.R_step hR' (fun k hk hlt => hK.2 k hlt (fun hk4 => (hs i k hk4).2 hk))) hs hd (fun q x p hx hp => ?_) (fun q x hx => ?_)
   ·by_cases hq : q = i
    ·subst hq; rw [List.getElem?_set_self hil] at hx; obtain rfl := Option.some.inj hx; exact hc q z p hi hp
    ·rw [List.getElem?_set_ne (by omega)] at hx; exact hc q x p hx hp
   ·by_cases hq : q = i
    ·subst hq; rw [List.getElem?_set_self hil] at hx; obtain rfl := Option.some.inj hx; exact hT
    ·rw [List.getElem?_set_ne (by omega)] at hx; exact T32_step (ht q x hx) (fun k hk hlt => hK.2 k hlt (fun hk4 => hd q i k hq hk hk4))
theorem T32_own (h : T32 W base ok (.slice (some ⟨g, 0, none⟩) zs.length cap) zs) : ok g := by
 cases h with
 | mk _ _ _ _ rows vs oks h0 hl hR hs hd hc ht => exact h0 g rfl
theorem T32_split {v : Qs} (h : T32 W base ok v zs) : (v = .slice none 0 0 ∧ zs = []) ∨ ∃ g cap, v = .slice (some ⟨g, 0, none⟩) zs.length cap := by
 cases h with
 | mk _ _ _ _ rows vs oks h0 hl hR hs hd hc ht =>
  rcases raw_open hR with ⟨h1, h2⟩ | ⟨g', cap', cur, e, _⟩
  ·exact .inl ⟨h1, List.eq_nil_of_length_eq_zero (by rw [← hl, h2]; rfl)⟩
  ·exact .inr ⟨g', cap', by rw [e, hl]⟩
end
def laws_markFormulaS.f : Nat → List S32 → Int → Option (List S32 × Int)
 | 0, _, _ => none
 | k + 1, l, a => l.foldlM (fun p x => if 0 ≤ p.2 ∧ p.2 ≤ 4611686018427387904 then (laws_markFormulaS.f k x.f4 (p.2 + 4)).bind fun t => some (p.1 ++ [(⟨p.2, p.2 + 1, p.2 + 2, p.2 + 3, t.1⟩ : S32)], t.2) else none) ([], a)
theorem fold_leoM {α β : Type} {f g : β → α → Option β} (h : ∀ b a, LeO (f b a) (g b a)) : ∀ (l : List α) (b : β), LeO (l.foldlM f b) (l.foldlM g b)
 | [], b => LeO.refl _
 | a :: l, b => by
  simp only [List.foldlM_cons]; exact LeO.bind (h b a) (fun b' => fold_leoM h l b')
theorem laws_markFormulaS.mono : ∀ a0 a1 k, LeO (laws_markFormulaS.f k a0 a1) (laws_markFormulaS.f (k + 1) a0 a1) := by
 intro a0 a1 k
 induction k generalizing a0 a1 with
 | zero => intro r h; simp [laws_markFormulaS.f] at h
 | succ k ih =>
  rw [laws_markFormulaS.f, laws_markFormulaS.f]; exact fold_leoM (fun b x => LeO.ite (LeO.bind (ih _ _) (fun _ => LeO.refl _)) (LeO.none _)) _ _
structure MS (ok : Nat → Prop) (w0 w : Qm) (v : Qs) (zs : List S32) (W : Qm) : Prop where
 bel : Qq w0.heap.size w0 W
 kept : Kept w W ok
 tree : T32 W 0 ok v zs
section
variable {ok ok4 : Nat → Prop} {w0 w W W' : Qm} {v : Qs} {zs : List S32} {z : S32}
theorem MS.drewN (h : MS ok w0 w v zs W) (n : Nat) : MS ok w0 w v zs (W.drewN n) := ⟨pw_below_drewN h.bel n, h.kept.drewN n, T32_drewN h.tree n⟩
theorem MS.put {g cap i j : Nat} {z' : S32} (h : MS ok w0 w (.slice (some ⟨g, 0, none⟩) zs.length cap) zs W) (hg : w0.heap.size ≤ g) (hi : zs[i]? = some z) (hj : j < 5) (u : Int) (h4 : z'.f4 = z.f4)
  (hz : ∀ v : Qs, [.int .i64 z'.f0, .int .i64 z'.f1, .int .i64 z'.f2, .int .i64 z'.f3, v] = ([.int .i64 z.f0, .int .i64 z.f1, .int .i64 z.f2, .int .i64 z.f3, v] : List Qs).set j (.int .i64 u)) :
  MS ok w0 w (.slice (some ⟨g, 0, none⟩) zs.length cap) (zs.set i z') (W.setCell ⟨g, i * 5 + j, none⟩ (.int .i64 u)) :=
 ⟨below_set h.bel hg, h.kept.setCell (.inl (T32_own h.tree)) _, T32_put h.tree hi hj u h4 hz⟩
theorem MS.puts {g cap i j n : Nat} {z z' : S32} (h : MS ok w0 w (.slice (some ⟨g, 0, none⟩) n cap) (zs.set i z) W) (hn : zs.length = n) (hg : w0.heap.size ≤ g) (hi : i < zs.length) (hj : j < 5) (u : Int) (h4 : z'.f4 = z.f4)
  (hz : ∀ v : Qs, [.int .i64 z'.f0, .int .i64 z'.f1, .int .i64 z'.f2, .int .i64 z'.f3, v] = ([.int .i64 z.f0, .int .i64 z.f1, .int .i64 z.f2, .int .i64 z.f3, v] : List Qs).set j (.int .i64 u)) :
  MS ok w0 w (.slice (some ⟨g, 0, none⟩) n cap) (zs.set i z') (W.setCell ⟨g, i * 5 + j, none⟩ (.int .i64 u)) := by
 have e : (zs.set i z).length = n := by rw [List.length_set]; exact hn
 subst e
 have := MS.put h hg (List.getElem?_set_self hi) hj u h4 hz
 rwa [List.set_set] at this
theorem MS.cells {g cap i j n : Nat} (h : MS ok w0 w (.slice (some ⟨g, 0, none⟩) n cap) zs W) (hn : zs.length = n) (hi : i < zs.length) (hj : j < 5) : (∃ u, W.cell? ⟨g, i * 5 + j, none⟩ = some u) ∧ W.frozen? ⟨g, i * 5 + j, none⟩ = false := by
 subst hn
 exact T32_cells h.tree hi hj
theorem MS.kid {g cap i n : Nat} (h : MS ok w0 w (.slice (some ⟨g, 0, none⟩) n cap) (zs.set i z) W) (hn : zs.length = n) (hi : i < zs.length) : ∃ (v4 : Qs) (ok4 : Nat → Prop), W.cell? ⟨g, i * 5 + 4, none⟩ = some v4 ∧ T32 W 0 ok4 v4 z.f4 ∧ (∀ k, ok4 k → ok k) ∧
  ∀ (W' : Qm) (ys : List S32), Qq w0.heap.size w0 W' → Kept W W' ok4 → T32 W' 0 ok4 v4 ys → MS ok w0 w (.slice (some ⟨g, 0, none⟩) n cap) (zs.set i ⟨z.f0, z.f1, z.f2, z.f3, ys⟩) W' := by
 have e : (zs.set i z).length = n := by rw [List.length_set]; exact hn
 subst e
 obtain ⟨v4, ok4, h1, h2, h3, h4⟩ := T32_kid h.tree (List.getElem?_set_self hi)
 refine ⟨v4, ok4, h1, h2, h3, fun W' ys hb hk ht => ⟨hb, h.kept.then_ hk (fun k hk => .inl (h3 k hk)), ?_⟩⟩
 have := h4 W' ys hk ht
 rwa [List.set_set] at this
theorem MS.len {n m : Nat} {g cap : Nat} (e : n = m) (h : MS ok w0 w (.slice (some ⟨g, 0, none⟩) n cap) zs W) : MS ok w0 w (.slice (some ⟨g, 0, none⟩) m cap) zs W := e ▸ h
theorem set_drop {i : Nat} (z : S32) : (zs.set i z).drop (i + 1) = zs.drop (i + 1) := List.drop_set_of_lt (by omega)
theorem set_take {i : Nat} (z : S32) (hi : i < zs.length) : (zs.set i z).take (i + 1) = zs.take i ++ [z] := by
 rw [List.take_add_one, List.getElem?_set_self hi, List.take_set_of_le (Nat.le_refl _)]
 rfl
end
theorem laws_markFormulaS.walk (k : Nat) : ∀ (v : Qs) (xs : List S32) (a1 : Int) (r : List S32 × Int) (ok : Nat → Prop) (w0 w : Qm) (hB : Qq w0.heap.size w0 w) (hT : T32 w 0 ok v xs) (hP : ∀ g, ok g → w0.heap.size ≤ g) (h : laws_markFormulaS.f k xs a1 = some r),
  Qz Qk 57 #[v, .int .i64 a1] w fun e w' => e = .returned (.int .i64 r.2) ∧ Qq w0.heap.size w0 w' ∧ Kept w w' ok ∧ T32 w' 0 ok v r.1 := by
 induction k using Nat.strongRecOn with
 | _ k ih =>
 intro v xs a1 r ok w0 w hB hT hP h
 cases k with
 | zero => exact absurd h (by simp [laws_markFormulaS.f])
 | succ k =>
 simp only [laws_markFormulaS.f] at h
 have H := Qa h
 clear h
 rcases T32_split hT with ⟨rfl, rfl⟩ | ⟨g, cap, rfl⟩
 ·have h := H.out
  rw [List.foldlM_nil] at h; obtain rfl := Option.some.inj h; go_enter Try.func57, Try.ntmps57; go_wp2; go_loopg [1, 5] 1 (fun kq v1 v5 w' => v1 = .int .i64 a1 ∧ v5 = .int .i64 0 ∧ w' = w)
  case atStart => exact ⟨rfl, rfl, rfl⟩
  case round =>
   obtain ⟨rfl, rfl, rfl⟩ := hrel; go_wp2; go_ret; exact ⟨rfl, hB, Kept.refl _ _, hT⟩
 ·have hg0 := hP g (T32_own hT)
  have hu32 := Qh; have hcap : xs.length ≤ 9223372036854775807 := (T32_reads' hT).2.2.2.1; have ST : Qf (MS ok w0 w (.slice (some ⟨g, 0, none⟩) xs.length cap) xs w) := ⟨⟨hB, Kept.refl _ _, hT⟩⟩; clear hT; go_enter Try.func57, Try.ntmps57; go_wp2; go_loopg [1, 5] xs.length (fun kq v1 v5 w' => ∃ (i : Nat) (n : Int) (zs : List S32), v1 = .int .i64 n ∧ v5 = .int .i64 (i : Int) ∧ i ≤ xs.length ∧ xs.length - i ≤ kq ∧ zs.length = xs.length ∧ Qf ((zs.drop i).foldlM (fun p x => if 0 ≤ p.2 ∧ p.2 ≤ 4611686018427387904 then (laws_markFormulaS.f k x.f4 (p.2 + 4)).bind fun t => some (p.1 ++ [(⟨p.2, p.2 + 1, p.2 + 2, p.2 + 3, t.1⟩ : S32)], t.2) else none) (zs.take i, n) = some r) ∧ Qf (MS ok w0 w (.slice (some ⟨g, 0, none⟩) xs.length cap) zs w'))
  case atStart => exact ⟨0, a1, xs, rfl, rfl, by omega, by omega, rfl, ⟨by rw [List.drop_zero, List.take_zero]; exact H.out⟩, ⟨by repeat (first | exact ST.out | refine MS.drewN ?_ _)⟩⟩
  case round =>
   clear H ST; obtain ⟨i, n, zs, rfl, rfl, hi, hgk, hzl, H, ST⟩ := hrel; by_cases hlt' : i < xs.length
   ·have hltz : (i : Int) < (xs.length : Int) := by omega
    have hiz : i < zs.length := by omega
    have h := H.out; rw [List.drop_eq_getElem_cons hiz, List.foldlM_cons] at h; obtain ⟨t', hn', h⟩ := Option.bind_eq_some_iff.mp h; split at hn'
    case isFalse => cases hn'
    case isTrue hn0 =>
    obtain ⟨⟨l4, n'⟩, hm, ht'⟩ := Option.bind_eq_some_iff.mp hn'; obtain rfl := Option.some.inj ht'; have H' := Qa h; simp only at hm hn0; rw [show n + 4 = n + 1 + 1 + 1 + 1 by omega] at hm; have HN' := Qa hm; clear h hn' ht' hm H; have hz0 : zs[i]? = some zs[i] := List.getElem?_eq_getElem hiz; have c0b : decide ((i : Int) < (xs.length : Int)) = true := decide_eq_true hltz; have p1 : (0 ≤ (i : Int)) = True := eq_true (by omega); have p2 : ((i : Int) < (xs.length : Int)) = True := eq_true hltz; replace ST : Qf (MS ok w0 w (.slice (some ⟨g, 0, none⟩) xs.length cap) (zs.set i zs[i]) wr) := ⟨by rw [List.set_getElem_self]; exact ST.out⟩; have hls : ∀ z, (zs.set i z).length = xs.length := fun z => by rw [List.length_set]; exact hzl
    have hil : ∀ z, i < (zs.set i z).length := fun z => by rw [List.length_set]; exact hiz
    have e4 : ∀ z : S32, zs[i]? = some z → True := fun _ _ => trivial
    generalize zs[i] = z0 at H' HN' ST; obtain ⟨y0, y1, y2, y3, y4⟩ := z0; obtain ⟨⟨u0, hc0⟩, hf0⟩ := ST.out.cells (hls _) (hil _) (j := 0) (by decide); have hc0 : wr.cell? ⟨g, i * 5, none⟩ = some u0 := hc0; have hf0 : wr.frozen? ⟨g, i * 5, none⟩ = false := hf0; have W1 : Qg (n + 1) = n + 1 := by unfold Qg; omega
    have W2 : Qg (n + 1 + 1) = n + 1 + 1 := by unfold Qg; omega
    have W3 : Qg (n + 1 + 1 + 1) = n + 1 + 1 + 1 := by unfold Qg; omega
    have W4 : Qg (n + 1 + 1 + 1 + 1) = n + 1 + 1 + 1 + 1 := by unfold Qg; omega
    have UP : Qf (Qg ((i : Int) + 1) = ((i + 1 : Nat) : Int)) := ⟨by unfold Qg; omega⟩; go_wp2_with (first
     | ((with_reducible refine gate_store (t := 3) (p := 16) rfl ?_); refine store_event (t := 3) (p := 16) (v := ?vo_16) (w1 := (wr.setCell ⟨g, i * 5, none⟩ (.int .i64 n))) ?hg ?ho ?hn ?hr ?_; (case ho => rfl); (case hg => rfl); (case hn => rfl); (case hr => first | (go_simp; done) | (go_simp; rfl)); intro w1 hw; have ST2 : Qf (MS ok w0 w (.slice (some ⟨g, 0, none⟩) xs.length cap) (zs.set i (⟨n, y1, y2, y3, y4⟩ : S32)) w1) := ⟨by rw [hw]; exact ST.out.puts (j := 0) hzl hg0 hiz (by decide) n rfl (fun _ => rfl)⟩; clear ST hw; have ST := ST2; clear ST2; obtain ⟨⟨u1, hc1⟩, hf1⟩ := ST.out.cells (hls _) (hil _) (j := 1) (by decide))
     | ((with_reducible refine gate_store (t := 3) (p := 23) rfl ?_); refine store_event (t := 3) (p := 23) (v := ?vo_23) (w1 := (w1.setCell ⟨g, i * 5 + 1, none⟩ (.int .i64 (n + 1)))) ?hg ?ho ?hn ?hr ?_; (case ho => rfl); (case hg => rfl); (case hn => rfl); (case hr => first | (go_simp; done) | (go_simp; rfl)); intro w2 hw; have ST2 : Qf (MS ok w0 w (.slice (some ⟨g, 0, none⟩) xs.length cap) (zs.set i (⟨n, n + 1, y2, y3, y4⟩ : S32)) w2) := ⟨by rw [hw]; exact ST.out.puts (j := 1) hzl hg0 hiz (by decide) (n + 1) rfl (fun _ => rfl)⟩; clear ST hw; have ST := ST2; clear ST2; obtain ⟨⟨u2, hc2⟩, hf2⟩ := ST.out.cells (hls _) (hil _) (j := 2) (by decide))
     | ((with_reducible refine gate_store (t := 3) (p := 30) rfl ?_); refine store_event (t := 3) (p := 30) (v := ?vo_30) (w1 := (w2.setCell ⟨g, i * 5 + 2, none⟩ (.int .i64 (n + 1 + 1)))) ?hg ?ho ?hn ?hr ?_; (case ho => rfl); (case hg => rfl); (case hn => rfl); (case hr => first | (go_simp; done) | (go_simp; rfl)); intro w3 hw; have ST2 : Qf (MS ok w0 w (.slice (some ⟨g, 0, none⟩) xs.length cap) (zs.set i (⟨n, n + 1, n + 1 + 1, y3, y4⟩ : S32)) w3) := ⟨by rw [hw]; exact ST.out.puts (j := 2) hzl hg0 hiz (by decide) (n + 1 + 1) rfl (fun _ => rfl)⟩; clear ST hw; have ST := ST2; clear ST2; obtain ⟨⟨u3, hc3⟩, hf3⟩ := ST.out.cells (hls _) (hil _) (j := 3) (by decide))
     | ((with_reducible refine gate_store (t := 3) (p := 37) rfl ?_); refine store_event (t := 3) (p := 37) (v := ?vo_37) (w1 := (w3.setCell ⟨g, i * 5 + 3, none⟩ (.int .i64 (n + 1 + 1 + 1)))) ?hg ?ho ?hn ?hr ?_; (case ho => rfl); (case hg => rfl); (case hn => rfl); (case hr => first | (go_simp; done) | (go_simp; rfl)); intro w4 hw; have ST2 : Qf (MS ok w0 w (.slice (some ⟨g, 0, none⟩) xs.length cap) (zs.set i (⟨n, n + 1, n + 1 + 1, n + 1 + 1 + 1, y4⟩ : S32)) w4) := ⟨by rw [hw]; exact ST.out.puts (j := 3) hzl hg0 hiz (by decide) (n + 1 + 1 + 1) rfl (fun _ => rfl)⟩; clear ST hw; have ST := ST2; clear ST2; obtain ⟨v4, ok4, hc4, hT4, hP4, hS4⟩ := ST.out.kid hzl hiz)
     | (go_at_call 57; refine (ih k (Nat.lt_succ_self k) v4 y4 (n + 1 + 1 + 1 + 1) (l4, n') ok4 w0 _ ST.out.bel hT4 (fun k_ hk_ => hP _ (hP4 k_ hk_)) HN'.out).mono ?_; rintro e w6 ⟨rfl, h1, h2, h3⟩; have ST2 := Qa (hS4 _ _ h1 h2 h3); clear ST h1 h2 h3 hS4 hT4; have ST := ST2; clear ST2))
    clear W1 W2 W3 W4; go_roundg (xs.length - (i + 1))
    case measure => omega
    case rel => exact ⟨i + 1, n', zs.set i (⟨n, n + 1, n + 1 + 1, n + 1 + 1 + 1, l4⟩ : S32), rfl, by first | exact congrArg _ UP.out | (simp only [i64_w]; exact congrArg _ UP.out) | (simp; done), by omega, by omega, hls _, ⟨by rw [set_drop, set_take _ hiz]; have h_ := H'.out; rw [show n + 2 = n + 1 + 1 by omega, show n + 3 = n + 1 + 1 + 1 by omega] at h_; exact h_⟩, ⟨by repeat (first | exact ST.out | refine MS.drewN ?_ _)⟩⟩
   ·have hltz : ¬ (i : Int) < (xs.length : Int) := by omega
    have c0b : decide ((i : Int) < (xs.length : Int)) = false := decide_eq_false hltz; have h := H.out; rw [List.drop_eq_nil_of_le (by omega), List.foldlM_nil, List.take_of_length_le (by omega)] at h; obtain rfl := Option.some.inj h; go_wp2; go_ret; exact ⟨rfl, ST.out.bel, ST.out.kept, ST.out.tree⟩
def laws_markFormula.f (k : Nat) (a0_0 a0_1 a0_2 a0_3 : Int) (l0_4 : List S32) (a1 : Int) : Option (Int × List S32) := (laws_markFormulaS.f k l0_4 a1).bind fun t => some (t.2, t.1)
theorem laws_markFormula.mono : ∀ a0 a1 a2 a3 a4 a5 k, LeO (laws_markFormula.f k a0 a1 a2 a3 a4 a5) (laws_markFormula.f (k + 1) a0 a1 a2 a3 a4 a5) := fun _ _ _ _ a4 a5 k => LeO.bind (laws_markFormulaS.mono a4 a5 k) (fun _ => LeO.refl _)
theorem laws_markFormula.calls (k : Nat) (a0_0 : Int) (a0_1 : Int) (a0_2 : Int) (a0_3 : Int) (P0_4_ : Nat → Prop) (u9000_ : Qs) (l0_4 : List S32) (a1 : Int) (r1 : Int) (r2 : List S32) (w0 w : Qm) (hB : Qq w0.heap.size w0 w) (ho0_4 : T32 w w0.heap.size P0_4_ u9000_ l0_4) (hP : ∀ g, P0_4_ g → w0.heap.size ≤ g) (h : laws_markFormula.f k a0_0 a0_1 a0_2 a0_3 l0_4 a1 = some (r1, r2)) :
  Qz Qk 23 #[.agg #[.int .i64 a0_0, .int .i64 a0_1, .int .i64 a0_2, .int .i64 a0_3, u9000_], .int .i64 a1] w fun e w' => e = .returned (.int .i64 r1) ∧ T32 w' w0.heap.size P0_4_ u9000_ r2 ∧ Qq w0.heap.size w0 w' ∧ Kept w w' (fun k_ => P0_4_ k_) := by
 have hu32 := Qh
 obtain ⟨t, h', ht⟩ := Option.bind_eq_some_iff.mp h
 clear h
 obtain ⟨rfl, rfl⟩ := Prod.mk.inj (Option.some.inj ht)
 have hbase := T32_base ho0_4
 have hT := T32_lower ho0_4 (Nat.zero_le _)
 obtain ⟨A_, c_, e_⟩ := T32_slice hT
 subst e_
 clear ho0_4
 go_enter Try.func23, Try.ntmps23
 go_wp2_with (first
  | ((with_reducible refine Qp (N := 2) rfl ?_); refine Bx (N := 2) (cs := #[.int .i64 a0_0, .int .i64 a0_1, .int .i64 a0_2, .int .i64 a0_3, .slice A_ l0_4.length c_]) (t := 32) ?_; intro gb hgb W1 hbox hb1; have q4 : W1.cell? ⟨gb, 4, none⟩ = some (.slice A_ l0_4.length c_) := (blk_cell hbox 4).trans rfl; have HR1 := Qa (T32_below hT hb1); have HB1 := Qa (below_step hB hb1); have HK1 := Qa (Kept.of_below hb1 P0_4_); clear hbox hb1 hgb)
  | (go_at_call 57; refine (laws_markFormulaS.walk k (.slice A_ l0_4.length c_) l0_4 a1 t P0_4_ w0 _ HB1.out HR1.out hP h').mono ?_; rintro e W2 ⟨rfl, h1, h2, h3⟩; have HB2 := Qa h1; have HK2 := Qa (HK1.out.then_ h2 (fun _ hk => .inl hk)); have HT2 := Qa h3; clear h1 h2 h3))
 go_wp2
 go_ret
 exact ⟨rfl, T32_rebase HT2.out hbase, HB2.out, HK2.out⟩
end Go.Proofs.Ytoljagpjejpmpaa.PFnExactParseFormula
