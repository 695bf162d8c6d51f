/- A part of the walk through the printed functions; no condition. -/
import Derived.Test.YtndkkpjofddfjaaGreatDoorXAuto
import Derived.Test.YtndkkpjofddfjaaGreatDoorPFnExactParseProgramx0
namespace Go.Proofs.YtndkkpjofddfjaaGreatDoor.PFnExactParseProgram
open Go.RowKit Go.Proofs.YtndkkpjofddfjaaGreatDoorW.PrintWords Go.Proofs.YtndkkpjofddfjaaGreatDoorW.PrintLast Go.Proofs.YtndkkpjofddfjaaGreatDoorW.PrintMore
attribute [local go_sem] max2_int min2_int max_two min_two max_three min_three max_four min_four
set_option maxHeartbeats 32000000
set_option maxRecDepth 100000
attribute [local irreducible] Go.World.setCell
set_option linter.unusedVariables false
set_option linter.unusedSimpArgs false
open Go.Proofs.YtndkkpjofddfjaaGreatDoorW.PrintWords.Aside0 renaming mk → Qa
open Go.Proofs.YtndkkpjofddfjaaGreatDoorW.PrintWords renaming gate_callee → Qd, Aside0 → Qe, gate_dst → Ql
open Go.Proofs.YtndkkpjofddfjaaGreatDoorW.PrintWords.Kd renaming string → Qf, at_string → Qg, C_below → Qk
open Go.Proofs.Tryz renaming prog → Qm, underlying50 → Qu, underlying52 → Zb
def laws_eqStringS.l0 : Nat → List ByteArray → List ByteArray → Int → Option (Bool)
 | 0, _, _, _ => none
 | k + 1, x0, x1, x5 => if x5 < (x0.length : Int) then (if 0 ≤ x5 then (if x5 < (x1.length : Int) then (if (rdOf ByteArray.empty x0 x5).toList = (rdOf ByteArray.empty x1 x5).toList then (laws_eqStringS.l0 k x0 x1 (wrap64 (x5 + 1))) else (some false)) else (none)) else (none)) else (some true)
def laws_eqStringS.f (k : Nat) (l0 : List ByteArray) (l1 : List ByteArray) : Option (Bool) := if (l0.length : Int) = (l1.length : Int) then (laws_eqStringS.l0 k l0 l1 0) else (some false)
theorem laws_eqStringS.mono_l : ∀ k, (∀ y0 y1 y2, LeO (laws_eqStringS.l0 k y0 y1 y2) (laws_eqStringS.l0 (k + 1) y0 y1 y2))
 | 0 => fun _ _ _ r h => by simp [laws_eqStringS.l0] at h
 | k + 1 => by
  have ih0 := laws_eqStringS.mono_l k
  ·intro y0 y1 y2; unfold laws_eqStringS.l0; exact Lm1 ih0
theorem laws_eqStringS.mono : ∀ a0 a1 k, LeO (laws_eqStringS.f k a0 a1) (laws_eqStringS.f (k + 1) a0 a1) := by
 intro a0 a1 k
 have ih0 := laws_eqStringS.mono_l k
 unfold laws_eqStringS.f
 exact Lm1 ih0
theorem laws_eqStringS.calls (k : Nat) (A0 : Option Addr) (c0 : Nat) (l0 : List ByteArray) (A1 : Option Addr) (c1 : Nat) (l1 : List ByteArray) (r : Bool) (w : World) (hr0 : Kd.C Qf w A0 l0.length l0) (hc0 : l0.length ≤ c0) (hr1 : Kd.C Qf w A1 l1.length l1) (hc1 : l1.length ≤ c1) (h : laws_eqStringS.f k l0 l1 = some r) :
  Calls Qm 37 #[.slice A0 l0.length c0, .slice A1 l1.length c1] w fun e w' => e = .returned (.bool r) ∧ Drawn0 w w' := by
 have HR0 := Qa hr0
 have HC0 := Qa hc0
 clear hr0 hc0
 have HR1 := Qa hr1
 have HC1 := Qa hc1
 clear hr1 hc1
 have H : (if (l0.length : Int) = (l1.length : Int) then (laws_eqStringS.l0 k l0 l1 0) else (some false)) = some r := h
 clear h
 by_cases c3 : (l0.length : Int) = (l1.length : Int)
 ·rw [if_pos c3] at H
  have c3b0 := beq_iff_eq.mpr c3; have c3b1 := bne_eq_false_iff_eq.mpr c3; have c3b2 : (l0.length == l1.length) = true := by first | simpa using c3 | (simp at c3 ⊢; omega)
  clear c3; have H' := Qa H; clear H; go_enter Tryz.func37, Tryz.ntmps37; go_wp2; repeat (go_quiet (fail); try go_wp2)
  go_loopg [5] k (fun kq v5 w' => ∃ (x5_1 : Int), v5 = .int .i64 x5_1 ∧ Qe (laws_eqStringS.l0 kq l0 l1 x5_1 = some r) ∧ Qe (kq ≤ k) ∧ Drawn0 w w')
  case atStart => exact ⟨(0), Zf, H', ⟨Nat.le_refl _⟩, by repeat (first | exact Drawn0.refl _ | apply Drawn0.step)⟩
  case round =>
   clear H'; (try clear c1)
   (try clear p2)
   (try clear c3)
   (try clear c3b0)
   (try clear c3b1)
   (try clear c3b2)
   obtain ⟨x5_1, rfl, HA, HK1, ⟨m1, rfl⟩⟩ := hrel; cases gk with
   | zero => exact absurd HA.out (by simp [laws_eqStringS.l0])
   | succ k1 =>
    have H := HA.out; clear HA; simp only [laws_eqStringS.l0] at H; by_cases c4 : x5_1 < (l0.length : Int)
    ·rw [if_pos c4] at H; replace c4 := decide_eq_true c4; by_cases c5 : 0 ≤ x5_1
     ·rw [if_pos c5] at H; replace c5 := decide_eq_true c5; by_cases c6 : x5_1 < (l1.length : Int)
      ·rw [if_pos c6] at H; replace c6 := decide_eq_true c6; by_cases c7 : (rdOf ByteArray.empty l0 x5_1).toList = (rdOf ByteArray.empty l1 x5_1).toList
       ·rw [if_pos c7] at H; have c7b0 := beq_iff_eq.mpr c7; have c7b1 := bne_eq_false_iff_eq.mpr c7; clear c7; have H' := Qa H; clear H; have p39 : 0 ≤ (x5_1 : Int) := Da; have q39 : x5_1 < (l0.length : Int) := Da; obtain ⟨ad39, e39, hx39_0⟩ := Qg HR0.out x5_1 p39 q39; cases e39
        replace p39 := eq_true p39; replace q39 := eq_true q39; have p40 : 0 ≤ (x5_1 : Int) := Da; have q40 : x5_1 < (l1.length : Int) := Da; obtain ⟨ad40, e40, hx40_0⟩ := Qg HR1.out x5_1 p40 q40; cases e40
        replace p40 := eq_true p40; replace q40 := eq_true q40; go_wp2; repeat (go_quiet (fail); try go_wp2)
        go_roundg k1
        case measure => have := HK1.out; omega
        case rel => exact ⟨(wrap64 (x5_1 + 1)), Zf, H', ⟨by have := HK1.out; omega⟩, by repeat (first | exact Drawn0.refl _ | apply Drawn0.step)⟩
       ·rw [if_neg c7] at H; have c7b0 := beq_eq_false_iff_ne.mpr c7; have c7b1 := bne_iff_ne.mpr c7; obtain rfl := Option.some.inj H; have p39 : 0 ≤ (x5_1 : Int) := Da; have q39 : x5_1 < (l0.length : Int) := Da; obtain ⟨ad39, e39, hx39_0⟩ := Qg HR0.out x5_1 p39 q39; cases e39
        replace p39 := eq_true p39; replace q39 := eq_true q39; have p40 : 0 ≤ (x5_1 : Int) := Da; have q40 : x5_1 < (l1.length : Int) := Da; obtain ⟨ad40, e40, hx40_0⟩ := Qg HR1.out x5_1 p40 q40; cases e40
        replace p40 := eq_true p40; replace q40 := eq_true q40; go_wp2; repeat (go_quiet (fail); try go_wp2)
        go_ret; exact ⟨by first | rfl | (simp; done) | (simp [*]; done), by repeat (first | exact Drawn0.refl _ | apply Drawn0.step)⟩
      ·rw [if_neg c6] at H; exact absurd H (by simp)
     ·rw [if_neg c5] at H; exact absurd H (by simp)
    ·rw [if_neg c4] at H; replace c4 := decide_eq_false c4; obtain rfl := Option.some.inj H; go_wp2; repeat (go_quiet (fail); try go_wp2)
     go_ret; exact ⟨by first | rfl | (simp; done) | (simp [*]; done), by repeat (first | exact Drawn0.refl _ | apply Drawn0.step)⟩
 ·rw [if_neg c3] at H
  have c3b0 := beq_eq_false_iff_ne.mpr c3; have c3b1 := bne_iff_ne.mpr c3; have c3b2 : (l0.length == l1.length) = false := by first | simpa using c3 | (simp at c3 ⊢; omega)
  obtain rfl := Option.some.inj H; go_enter Tryz.func37, Tryz.ntmps37; go_wp2; repeat (go_quiet (fail); try go_wp2)
  go_ret; exact ⟨by first | rfl | (simp; done) | (simp [*]; done), by repeat (first | exact Drawn0.refl _ | apply Drawn0.step)⟩
def laws_eqStmt.f (a0_0 : Int) (a0_1 : ByteArray) (a0_2 : ByteArray) (a1_0 : Int) (a1_1 : ByteArray) (a1_2 : ByteArray) : Option (Bool) := if a0_0 = a1_0 then (if a0_1.toList = a1_1.toList then (if a0_2.toList = a1_2.toList then (some true) else (some false)) else (some false)) else (some false)
theorem laws_eqStmt.calls (a0_0 : Int) (a0_1 : ByteArray) (a0_2 : ByteArray) (a1_0 : Int) (a1_1 : ByteArray) (a1_2 : ByteArray) (r : Bool) (w : World) (h : laws_eqStmt.f a0_0 a0_1 a0_2 a1_0 a1_1 a1_2 = some r) :
  Calls Qm 106 #[.agg #[.int .i64 a0_0, .string a0_1, .string a0_2], .agg #[.int .i64 a1_0, .string a1_1, .string a1_2]] w fun e w' => e = .returned (.bool r) ∧ Below w.heap.size w w' := by
 have hu50 := Qu
 have HB := Qa (Below.refl w.heap.size w)
 have H : (if a0_0 = a1_0 then (if a0_1.toList = a1_1.toList then (if a0_2.toList = a1_2.toList then (some true) else (some false)) else (some false)) else (some false)) = some r := h
 clear h
 by_cases c3 : a0_0 = a1_0
 ·rw [if_pos c3] at H
  have c3b0 := beq_iff_eq.mpr c3; have c3b1 := bne_eq_false_iff_eq.mpr c3; clear c3; by_cases c4 : a0_1.toList = a1_1.toList
  ·rw [if_pos c4] at H; have c4b0 := beq_iff_eq.mpr c4; have c4b1 := bne_eq_false_iff_eq.mpr c4; clear c4; by_cases c5 : a0_2.toList = a1_2.toList
   ·rw [if_pos c5] at H; have c5b0 := beq_iff_eq.mpr c5; have c5b1 := bne_eq_false_iff_eq.mpr c5; clear c5; obtain rfl := Option.some.inj H; go_enter Tryz.func106, Tryz.ntmps106; go_wp2_with (first | ((with_reducible refine Ql (N := 2) rfl ?_); refine Bx (N := 2) (cs := #[.int .i64 a0_0, .string a0_1, .string a0_2]) (t := 50) ?_; intro gb35 hg w6 hbox hb; have BK35 := Qa (hbox); have GW35 := Gs (w := w) hg (Bb0 HB.out); have GE35 := GW35; replace HB := Sb (Bb0 HB.out) hb; clear hb hbox hg) | ((with_reducible refine Ql (N := 3) rfl ?_); refine Bx (N := 3) (cs := #[.int .i64 a1_0, .string a1_1, .string a1_2]) (t := 50) ?_; intro gb38 hg w7 hbox hb; have BK38 := Qa (hbox); have GW38 := Gs (w := w) hg (Bb1 HB.out GE35.out); have GE38 := GW38; replace HB := Sb (Bb1 HB.out GE35.out) hb; have NB35_38 := Nl hg BK35; have NB38_35 := Ng hg BK35; replace BK35 := Kb BK35 hb; clear hb hbox hg; have hnb8 := NB35_38.out; have hnc8 := NB38_35.out; obtain ⟨q9_0, q9_1, q9_2, u9_0, u9_1, u9_2⟩ := Cf3 BK35; obtain ⟨q10_0, q10_1, q10_2, u10_0, u10_1, u10_2⟩ := Cf3 BK38)); go_ret; exact ⟨Ze, Bb2 HB.out GE35.out GE38.out⟩
   ·rw [if_neg c5] at H; have c5b0 := beq_eq_false_iff_ne.mpr c5; have c5b1 := bne_iff_ne.mpr c5; obtain rfl := Option.some.inj H; go_enter Tryz.func106, Tryz.ntmps106; go_wp2_with (first | ((with_reducible refine Ql (N := 2) rfl ?_); refine Bx (N := 2) (cs := #[.int .i64 a0_0, .string a0_1, .string a0_2]) (t := 50) ?_; intro gb35 hg w11 hbox hb; have BK35 := Qa (hbox); have GW35 := Gs (w := w) hg (Bb0 HB.out); have GE35 := GW35; replace HB := Sb (Bb0 HB.out) hb; clear hb hbox hg) | ((with_reducible refine Ql (N := 3) rfl ?_); refine Bx (N := 3) (cs := #[.int .i64 a1_0, .string a1_1, .string a1_2]) (t := 50) ?_; intro gb38 hg w12 hbox hb; have BK38 := Qa (hbox); have GW38 := Gs (w := w) hg (Bb1 HB.out GE35.out); have GE38 := GW38; replace HB := Sb (Bb1 HB.out GE35.out) hb; have NB35_38 := Nl hg BK35; have NB38_35 := Ng hg BK35; replace BK35 := Kb BK35 hb; clear hb hbox hg; have hnb13 := NB35_38.out; have hnc13 := NB38_35.out; obtain ⟨q14_0, q14_1, q14_2, u14_0, u14_1, u14_2⟩ := Cf3 BK35; obtain ⟨q15_0, q15_1, q15_2, u15_0, u15_1, u15_2⟩ := Cf3 BK38)); go_ret; exact ⟨Ze, Bb2 HB.out GE35.out GE38.out⟩
  ·rw [if_neg c4] at H; have c4b0 := beq_eq_false_iff_ne.mpr c4; have c4b1 := bne_iff_ne.mpr c4; obtain rfl := Option.some.inj H; go_enter Tryz.func106, Tryz.ntmps106; go_wp2_with (first | ((with_reducible refine Ql (N := 2) rfl ?_); refine Bx (N := 2) (cs := #[.int .i64 a0_0, .string a0_1, .string a0_2]) (t := 50) ?_; intro gb35 hg w16 hbox hb; have BK35 := Qa (hbox); have GW35 := Gs (w := w) hg (Bb0 HB.out); have GE35 := GW35; replace HB := Sb (Bb0 HB.out) hb; clear hb hbox hg) | ((with_reducible refine Ql (N := 3) rfl ?_); refine Bx (N := 3) (cs := #[.int .i64 a1_0, .string a1_1, .string a1_2]) (t := 50) ?_; intro gb38 hg w17 hbox hb; have BK38 := Qa (hbox); have GW38 := Gs (w := w) hg (Bb1 HB.out GE35.out); have GE38 := GW38; replace HB := Sb (Bb1 HB.out GE35.out) hb; have NB35_38 := Nl hg BK35; have NB38_35 := Ng hg BK35; replace BK35 := Kb BK35 hb; clear hb hbox hg; have hnb18 := NB35_38.out; have hnc18 := NB38_35.out; obtain ⟨q19_0, q19_1, q19_2, u19_0, u19_1, u19_2⟩ := Cf3 BK35; obtain ⟨q20_0, q20_1, q20_2, u20_0, u20_1, u20_2⟩ := Cf3 BK38)); go_ret; exact ⟨Ze, Bb2 HB.out GE35.out GE38.out⟩
 ·rw [if_neg c3] at H
  have c3b0 := beq_eq_false_iff_ne.mpr c3; have c3b1 := bne_iff_ne.mpr c3; obtain rfl := Option.some.inj H; go_enter Tryz.func106, Tryz.ntmps106; go_wp2_with (first | ((with_reducible refine Ql (N := 2) rfl ?_); refine Bx (N := 2) (cs := #[.int .i64 a0_0, .string a0_1, .string a0_2]) (t := 50) ?_; intro gb35 hg w21 hbox hb; have BK35 := Qa (hbox); have GW35 := Gs (w := w) hg (Bb0 HB.out); have GE35 := GW35; replace HB := Sb (Bb0 HB.out) hb; clear hb hbox hg) | ((with_reducible refine Ql (N := 3) rfl ?_); refine Bx (N := 3) (cs := #[.int .i64 a1_0, .string a1_1, .string a1_2]) (t := 50) ?_; intro gb38 hg w22 hbox hb; have BK38 := Qa (hbox); have GW38 := Gs (w := w) hg (Bb1 HB.out GE35.out); have GE38 := GW38; replace HB := Sb (Bb1 HB.out GE35.out) hb; have NB35_38 := Nl hg BK35; have NB38_35 := Ng hg BK35; replace BK35 := Kb BK35 hb; clear hb hbox hg; have hnb23 := NB35_38.out; have hnc23 := NB38_35.out; obtain ⟨q24_0, q24_1, q24_2, u24_0, u24_1, u24_2⟩ := Cf3 BK35; obtain ⟨q25_0, q25_1, q25_2, u25_0, u25_1, u25_2⟩ := Cf3 BK38)); go_ret; exact ⟨Ze, Bb2 HB.out GE35.out GE38.out⟩
def laws_eqEdge.f (a0_0 : Int) (a0_1 : Int) (a0_2 : Int) (a0_3 : ByteArray) (a0_4 : ByteArray) (a1_0 : Int) (a1_1 : Int) (a1_2 : Int) (a1_3 : ByteArray) (a1_4 : ByteArray) : Option (Bool) := if a0_0 = a1_0 then (if a0_1 = a1_1 then ((laws_eqStmt.f a0_2 a0_3 a0_4 a1_2 a1_3 a1_4).bind fun t41 => (if t41 = true then (some true) else (some false))) else (some false)) else (some false)
theorem laws_eqEdge.calls (a0_0 : Int) (a0_1 : Int) (a0_2 : Int) (a0_3 : ByteArray) (a0_4 : ByteArray) (a1_0 : Int) (a1_1 : Int) (a1_2 : Int) (a1_3 : ByteArray) (a1_4 : ByteArray) (r : Bool) (w : World) (h : laws_eqEdge.f a0_0 a0_1 a0_2 a0_3 a0_4 a1_0 a1_1 a1_2 a1_3 a1_4 = some r) :
  Calls Qm 78 #[.agg #[.int .i64 a0_0, .int .i64 a0_1, .int .i64 a0_2, .string a0_3, .string a0_4], .agg #[.int .i64 a1_0, .int .i64 a1_1, .int .i64 a1_2, .string a1_3, .string a1_4]] w fun e w' => e = .returned (.bool r) ∧ Below w.heap.size w w' := by
 have hu52 := Zb
 have hu50 := Qu
 have HB := Qa (Below.refl w.heap.size w)
 have H : (if a0_0 = a1_0 then (if a0_1 = a1_1 then ((laws_eqStmt.f a0_2 a0_3 a0_4 a1_2 a1_3 a1_4).bind fun t41 => (if t41 = true then (some true) else (some false))) else (some false)) else (some false)) = some r := h
 clear h
 by_cases c3 : a0_0 = a1_0
 ·rw [if_pos c3] at H
  have c3b0 := beq_iff_eq.mpr c3; have c3b1 := bne_eq_false_iff_eq.mpr c3; clear c3; by_cases c4 : a0_1 = a1_1
  ·rw [if_pos c4] at H; have c4b0 := beq_iff_eq.mpr c4; have c4b1 := bne_eq_false_iff_eq.mpr c4; clear c4; obtain ⟨t41, A5, H⟩ := Ob H; (try dsimp only at H)
   by_cases c6 : t41 = true
   ·subst c6; rw [if_pos rfl] at H; obtain rfl := Option.some.inj H; go_enter Tryz.func78, Tryz.ntmps78; go_wp2_with (first | ((with_reducible refine Ql (N := 2) rfl ?_); refine Bx (N := 2) (cs := #[.int .i64 a0_0, .int .i64 a0_1, .int .i64 a0_2, .string a0_3, .string a0_4]) (t := 52) ?_; intro gb34 hg w7 hbox hb; have BK34 := Qa (hbox); have GW34 := Gs (w := w) hg (Bb0 HB.out); have GE34 := GW34; replace HB := Sb (Bb0 HB.out) hb; clear hb hbox hg) | ((with_reducible refine Ql (N := 3) rfl ?_); refine Bx (N := 3) (cs := #[.int .i64 a1_0, .int .i64 a1_1, .int .i64 a1_2, .string a1_3, .string a1_4]) (t := 52) ?_; intro gb37 hg w8 hbox hb; have BK37 := Qa (hbox); have GW37 := Gs (w := w) hg (Bb1 HB.out GE34.out); have GE37 := GW37; replace HB := Sb (Bb1 HB.out GE34.out) hb; have NB34_37 := Nl hg BK34; have NB37_34 := Ng hg BK34; replace BK34 := Kb BK34 hb; clear hb hbox hg; have hnb9 := NB34_37.out; have hnc9 := NB37_34.out; obtain ⟨q10_0, q10_1, q10_2, q10_3, q10_4, u10_0, u10_1, u10_2, u10_3, u10_4⟩ := Cf5 BK34; obtain ⟨q11_0, q11_1, q11_2, q11_3, q11_4, u11_0, u11_1, u11_2, u11_3, u11_4⟩ := Cf5 BK37) | ((with_reducible refine Qd (f := 106) rfl ?_); refine Gl 19 Tryz.func106 #[.agg #[.int .i64 a0_2, .string a0_3, .string a0_4], .agg #[.int .i64 a1_2, .string a1_3, .string a1_4]] ?_; (with_reducible refine (laws_eqStmt.calls a0_2 a0_3 a0_4 a1_2 a1_3 a1_4 true _ A5.out).mono ?_); rintro e w12 ⟨rfl, hb⟩; refine ⟨_, rfl, ?_⟩; replace BK34 := Kb BK34 hb; replace BK37 := Kb BK37 hb; replace HB := Sb (Bb2 HB.out GE34.out GE37.out) hb; clear hb)); go_ret; exact ⟨Ze, Bb2 HB.out GE34.out GE37.out⟩
   ·replace c6 := Bool.eq_false_iff.mpr c6; subst c6; rw [if_neg (show ¬ (false = true) by decide)] at H; obtain rfl := Option.some.inj H; go_enter Tryz.func78, Tryz.ntmps78; go_wp2_with (first | ((with_reducible refine Ql (N := 2) rfl ?_); refine Bx (N := 2) (cs := #[.int .i64 a0_0, .int .i64 a0_1, .int .i64 a0_2, .string a0_3, .string a0_4]) (t := 52) ?_; intro gb34 hg w13 hbox hb; have BK34 := Qa (hbox); have GW34 := Gs (w := w) hg (Bb0 HB.out); have GE34 := GW34; replace HB := Sb (Bb0 HB.out) hb; clear hb hbox hg) | ((with_reducible refine Ql (N := 3) rfl ?_); refine Bx (N := 3) (cs := #[.int .i64 a1_0, .int .i64 a1_1, .int .i64 a1_2, .string a1_3, .string a1_4]) (t := 52) ?_; intro gb37 hg w14 hbox hb; have BK37 := Qa (hbox); have GW37 := Gs (w := w) hg (Bb1 HB.out GE34.out); have GE37 := GW37; replace HB := Sb (Bb1 HB.out GE34.out) hb; have NB34_37 := Nl hg BK34; have NB37_34 := Ng hg BK34; replace BK34 := Kb BK34 hb; clear hb hbox hg; have hnb15 := NB34_37.out; have hnc15 := NB37_34.out; obtain ⟨q16_0, q16_1, q16_2, q16_3, q16_4, u16_0, u16_1, u16_2, u16_3, u16_4⟩ := Cf5 BK34; obtain ⟨q17_0, q17_1, q17_2, q17_3, q17_4, u17_0, u17_1, u17_2, u17_3, u17_4⟩ := Cf5 BK37) | ((with_reducible refine Qd (f := 106) rfl ?_); refine Gl 19 Tryz.func106 #[.agg #[.int .i64 a0_2, .string a0_3, .string a0_4], .agg #[.int .i64 a1_2, .string a1_3, .string a1_4]] ?_; (with_reducible refine (laws_eqStmt.calls a0_2 a0_3 a0_4 a1_2 a1_3 a1_4 false _ A5.out).mono ?_); rintro e w18 ⟨rfl, hb⟩; refine ⟨_, rfl, ?_⟩; replace BK34 := Kb BK34 hb; replace BK37 := Kb BK37 hb; replace HB := Sb (Bb2 HB.out GE34.out GE37.out) hb; clear hb)); go_ret; exact ⟨Ze, Bb2 HB.out GE34.out GE37.out⟩
  ·rw [if_neg c4] at H; have c4b0 := beq_eq_false_iff_ne.mpr c4; have c4b1 := bne_iff_ne.mpr c4; obtain rfl := Option.some.inj H; go_enter Tryz.func78, Tryz.ntmps78; go_wp2_with (first | ((with_reducible refine Ql (N := 2) rfl ?_); refine Bx (N := 2) (cs := #[.int .i64 a0_0, .int .i64 a0_1, .int .i64 a0_2, .string a0_3, .string a0_4]) (t := 52) ?_; intro gb34 hg w19 hbox hb; have BK34 := Qa (hbox); have GW34 := Gs (w := w) hg (Bb0 HB.out); have GE34 := GW34; replace HB := Sb (Bb0 HB.out) hb; clear hb hbox hg) | ((with_reducible refine Ql (N := 3) rfl ?_); refine Bx (N := 3) (cs := #[.int .i64 a1_0, .int .i64 a1_1, .int .i64 a1_2, .string a1_3, .string a1_4]) (t := 52) ?_; intro gb37 hg w20 hbox hb; have BK37 := Qa (hbox); have GW37 := Gs (w := w) hg (Bb1 HB.out GE34.out); have GE37 := GW37; replace HB := Sb (Bb1 HB.out GE34.out) hb; have NB34_37 := Nl hg BK34; have NB37_34 := Ng hg BK34; replace BK34 := Kb BK34 hb; clear hb hbox hg; have hnb21 := NB34_37.out; have hnc21 := NB37_34.out; obtain ⟨q22_0, q22_1, q22_2, q22_3, q22_4, u22_0, u22_1, u22_2, u22_3, u22_4⟩ := Cf5 BK34; obtain ⟨q23_0, q23_1, q23_2, q23_3, q23_4, u23_0, u23_1, u23_2, u23_3, u23_4⟩ := Cf5 BK37)); go_ret; exact ⟨Ze, Bb2 HB.out GE34.out GE37.out⟩
 ·rw [if_neg c3] at H
  have c3b0 := beq_eq_false_iff_ne.mpr c3; have c3b1 := bne_iff_ne.mpr c3; obtain rfl := Option.some.inj H; go_enter Tryz.func78, Tryz.ntmps78; go_wp2_with (first | ((with_reducible refine Ql (N := 2) rfl ?_); refine Bx (N := 2) (cs := #[.int .i64 a0_0, .int .i64 a0_1, .int .i64 a0_2, .string a0_3, .string a0_4]) (t := 52) ?_; intro gb34 hg w24 hbox hb; have BK34 := Qa (hbox); have GW34 := Gs (w := w) hg (Bb0 HB.out); have GE34 := GW34; replace HB := Sb (Bb0 HB.out) hb; clear hb hbox hg) | ((with_reducible refine Ql (N := 3) rfl ?_); refine Bx (N := 3) (cs := #[.int .i64 a1_0, .int .i64 a1_1, .int .i64 a1_2, .string a1_3, .string a1_4]) (t := 52) ?_; intro gb37 hg w25 hbox hb; have BK37 := Qa (hbox); have GW37 := Gs (w := w) hg (Bb1 HB.out GE34.out); have GE37 := GW37; replace HB := Sb (Bb1 HB.out GE34.out) hb; have NB34_37 := Nl hg BK34; have NB37_34 := Ng hg BK34; replace BK34 := Kb BK34 hb; clear hb hbox hg; have hnb26 := NB34_37.out; have hnc26 := NB37_34.out; obtain ⟨q27_0, q27_1, q27_2, q27_3, q27_4, u27_0, u27_1, u27_2, u27_3, u27_4⟩ := Cf5 BK34; obtain ⟨q28_0, q28_1, q28_2, q28_3, q28_4, u28_0, u28_1, u28_2, u28_3, u28_4⟩ := Cf5 BK37)); go_ret; exact ⟨Ze, Bb2 HB.out GE34.out GE37.out⟩
def laws_eqEdgeS.l0 : Nat → List (S52) → List (S52) → Int → Option (Bool)
 | 0, _, _, _ => none
 | k + 1, x0, x1, x5 => if x5 < (x0.length : Int) then (if 0 ≤ x5 then (if x5 < (x1.length : Int) then ((laws_eqEdge.f ((rd_T52 x0 x5).f0) ((rd_T52 x0 x5).f1) ((rd_T52 x0 x5).f2.f0) ((rd_T52 x0 x5).f2.f1) ((rd_T52 x0 x5).f2.f2) ((rd_T52 x1 x5).f0) ((rd_T52 x1 x5).f1) ((rd_T52 x1 x5).f2.f0) ((rd_T52 x1 x5).f2.f1) ((rd_T52 x1 x5).f2.f2)).bind fun t44 => (if t44 = true then (laws_eqEdgeS.l0 k x0 x1 (wrap64 (x5 + 1))) else (some false))) else (none)) else (none)) else (some true)
def laws_eqEdgeS.f (k : Nat) (l0 : List (S52)) (l1 : List (S52)) : Option (Bool) := if (l0.length : Int) = (l1.length : Int) then (laws_eqEdgeS.l0 k l0 l1 0) else (some false)
theorem laws_eqEdgeS.mono_l : ∀ k, (∀ y0 y1 y2, LeO (laws_eqEdgeS.l0 k y0 y1 y2) (laws_eqEdgeS.l0 (k + 1) y0 y1 y2))
 | 0 => fun _ _ _ r h => by simp [laws_eqEdgeS.l0] at h
 | k + 1 => by
  have ih0 := laws_eqEdgeS.mono_l k
  ·intro y0 y1 y2; unfold laws_eqEdgeS.l0; exact Lm1 ih0
theorem laws_eqEdgeS.mono : ∀ a0 a1 k, LeO (laws_eqEdgeS.f k a0 a1) (laws_eqEdgeS.f (k + 1) a0 a1) := by
 intro a0 a1 k
 have ih0 := laws_eqEdgeS.mono_l k
 unfold laws_eqEdgeS.f
 exact Lm1 ih0
def laws_eqEdgeS.T6 : Bool × List (List Nat × List Nat) := (true, [([], []), ([], []), ([0, 1], [0, 1]), ([2], [2]), ([], []), ([], []), ([4, 5], [4, 5]), ([6], [6]), ([3, 7], [3, 7]), ([8], [8])])
def laws_eqEdgeS.B6 : List Nat := [0, 0, 3, 7, 0, 0, 48, 112, 255, 511]
theorem laws_eqEdgeS.tab6 : rtab .any (opsOf Tryz.f38 6) = laws_eqEdgeS.T6 := by kernel_rfl
theorem laws_eqEdgeS.bits6 : waitsOk laws_eqEdgeS.T6.2 laws_eqEdgeS.B6 = true := by kernel_rfl
theorem laws_eqEdgeS.calls (k : Nat) (A0 : Option Addr) (c0 : Nat) (l0 : List (S52)) (A1 : Option Addr) (c1 : Nat) (l1 : List (S52)) (r : Bool) (w : World) (hr0 : Kd.C k52 w A0 l0.length l0) (hc0 : l0.length ≤ c0) (hr1 : Kd.C k52 w A1 l1.length l1) (hc1 : l1.length ≤ c1) (h : laws_eqEdgeS.f k l0 l1 = some r) :
  Calls Qm 38 #[.slice A0 l0.length c0, .slice A1 l1.length c1] w fun e w' => e = .returned (.bool r) ∧ Below w.heap.size w w' := by
 have hu52 := Zb
 have HR0 := Qa hr0
 have HC0 := Qa hc0
 clear hr0 hc0
 have HR1 := Qa hr1
 have HC1 := Qa hc1
 clear hr1 hc1
 have HB := Qa (Below.refl w.heap.size w)
 have H : (if (l0.length : Int) = (l1.length : Int) then (laws_eqEdgeS.l0 k l0 l1 0) else (some false)) = some r := h
 clear h
 by_cases c3 : (l0.length : Int) = (l1.length : Int)
 ·rw [if_pos c3] at H
  have c3b0 := beq_iff_eq.mpr c3; have c3b1 := bne_eq_false_iff_eq.mpr c3; have c3b2 : (l0.length == l1.length) = true := by first | simpa using c3 | (simp at c3 ⊢; omega)
  clear c3; have H' := Qa H; clear H; go_enter Tryz.func38, Tryz.ntmps38; go_wp2; go_loopg [5] k (fun kq v5 w' => ∃ (x5_1 : Int), v5 = .int .i64 x5_1 ∧ Qe (laws_eqEdgeS.l0 kq l0 l1 x5_1 = some r) ∧ Qe (kq ≤ k) ∧ Qe (Below w.heap.size w w'))
  case atStart => exact ⟨(0), Zf, H', ⟨Nat.le_refl _⟩, ⟨Bb0 HB.out⟩⟩
  case round =>
   clear H'; (try clear c1)
   (try clear p2)
   (try clear c3)
   (try clear c3b0)
   (try clear c3b1)
   (try clear c3b2)
   obtain ⟨x5_1, rfl, HA, HK1, HB⟩ := hrel; cases gk with
   | zero => exact absurd HA.out (by simp [laws_eqEdgeS.l0])
   | succ k1 =>
    have H := HA.out; clear HA; simp only [laws_eqEdgeS.l0] at H; by_cases c4 : x5_1 < (l0.length : Int)
    ·rw [if_pos c4] at H; replace c4 := decide_eq_true c4; by_cases c5 : 0 ≤ x5_1
     ·rw [if_pos c5] at H; replace c5 := decide_eq_true c5; by_cases c6 : x5_1 < (l1.length : Int)
      ·rw [if_pos c6] at H; replace c6 := decide_eq_true c6; obtain ⟨t44, A7, H⟩ := Ob H; (try dsimp only at H)
       by_cases c8 : t44 = true
       ·subst c8; rw [if_pos rfl] at H; have H' := Qa H; clear H; try go_wp2
        replace HB := Qa (below_drew1 HB.out); have p31 : 0 ≤ (x5_1 : Int) := Da; have q31 : x5_1 < (l0.length : Int) := Da; obtain ⟨ad31, e31, hx31_0, hx31_1, hx31_2, hx31_3, hx31_4⟩ := at_T52 HR0.out x5_1 p31 q31; have hw108_4 := hx31_4; have hw108_3 := hx31_3; have hw108_2 := hx31_2; have hw108_1 := hx31_1; have hw108_0 := hx31_0; cases e31
        replace hx31_0 := Cx HB hx31_0; replace hx31_1 := Cx HB hx31_1; replace hx31_2 := Cx HB hx31_2; replace hx31_3 := Cx HB hx31_3; replace hx31_4 := Cx HB hx31_4; replace p31 := eq_true p31; replace q31 := eq_true q31; have p32 : 0 ≤ (x5_1 : Int) := Da; have q32 : x5_1 < (l1.length : Int) := Da; obtain ⟨ad32, e32, hx32_0, hx32_1, hx32_2, hx32_3, hx32_4⟩ := at_T52 HR1.out x5_1 p32 q32; have hw109_4 := hx32_4; have hw109_3 := hx32_3; have hw109_2 := hx32_2; have hw109_1 := hx32_1; have hw109_0 := hx32_0; cases e32
        replace hx32_0 := Cx HB hx32_0; replace hx32_1 := Cx HB hx32_1; replace hx32_2 := Cx HB hx32_2; replace hx32_3 := Cx HB hx32_3; replace hx32_4 := Cx HB hx32_4; replace p32 := eq_true p32; replace q32 := eq_true q32; refine start_ (n := 10) (S := fun w' => w'.cell? (ad31.add ((x5_1).toNat * 5)) = some (.int .i64 ((rd_T52 l0 x5_1).f0)) ∧ w'.cell? ⟨(ad31.add ((x5_1).toNat * 5)).block, (ad31.add ((x5_1).toNat * 5)).off + 1, none⟩ = some (.int .i64 ((rd_T52 l0 x5_1).f1)) ∧ w'.cell? ⟨(ad31.add ((x5_1).toNat * 5)).block, (ad31.add ((x5_1).toNat * 5)).off + 2, none⟩ = some (.int .i64 ((rd_T52 l0 x5_1).f2.f0)) ∧ w'.cell? ⟨(ad31.add ((x5_1).toNat * 5)).block, (ad31.add ((x5_1).toNat * 5)).off + 3, none⟩ = some (.string ((rd_T52 l0 x5_1).f2.f1)) ∧ w'.cell? ⟨(ad31.add ((x5_1).toNat * 5)).block, (ad31.add ((x5_1).toNat * 5)).off + 4, none⟩ = some (.string ((rd_T52 l0 x5_1).f2.f2)) ∧ w'.cell? (ad32.add ((x5_1).toNat * 5)) = some (.int .i64 ((rd_T52 l1 x5_1).f0)) ∧ w'.cell? ⟨(ad32.add ((x5_1).toNat * 5)).block, (ad32.add ((x5_1).toNat * 5)).off + 1, none⟩ = some (.int .i64 ((rd_T52 l1 x5_1).f1)) ∧ w'.cell? ⟨(ad32.add ((x5_1).toNat * 5)).block, (ad32.add ((x5_1).toNat * 5)).off + 2, none⟩ = some (.int .i64 ((rd_T52 l1 x5_1).f2.f0)) ∧ w'.cell? ⟨(ad32.add ((x5_1).toNat * 5)).block, (ad32.add ((x5_1).toNat * 5)).off + 3, none⟩ = some (.string ((rd_T52 l1 x5_1).f2.f1)) ∧ w'.cell? ⟨(ad32.add ((x5_1).toNat * 5)).block, (ad32.add ((x5_1).toNat * 5)).off + 4, none⟩ = some (.string ((rd_T52 l1 x5_1).f2.f2))) (ds := []) #[false, false, false, false, false, false, false, false, false, false] (by kernel_rfl) rfl rfl ⟨(Cx HB hw108_0), (Cx HB hw108_1), (Cx HB hw108_2), (Cx HB hw108_3), (Cx HB hw108_4), (Cx HB hw109_0), (Cx HB hw109_1), (Cx HB hw109_2), (Cx HB hw109_3), (Cx HB hw109_4)⟩ (fun hHeld => ?_); refine with_tabW laws_eqEdgeS.tab6 laws_eqEdgeS.bits6 (fun HT_ HW_ => ?_); generalize wr.drew = w9 at HB hx31_0 hx31_1 hx31_2 hx31_3 hx31_4 hx32_0 hx32_1 hx32_2 hx32_3 hx32_4 hHeld ⊢; refine Pt 0 17 HT_ ?_; refine Pt 1 18 HT_ ?_; refine Pt 2 19 HT_ ?_; refine Pt 4 21 HT_ ?_; refine Pt 5 22 HT_ ?_; refine Pt 6 23 HT_ ?_; refine Tu10 3 20 HT_ HW_ hHeld ?_; refine Tu10 7 24 HT_ HW_ hHeld ?_; refine Ot 8 25 HT_ (fun K hK => ?_); refine goes_ Tryz.func78 (by kernel_rfl) rfl #[.agg #[.int .i64 ((rd_T52 l0 x5_1).f0), .int .i64 ((rd_T52 l0 x5_1).f1), .int .i64 ((rd_T52 l0 x5_1).f2.f0), .string ((rd_T52 l0 x5_1).f2.f1), .string ((rd_T52 l0 x5_1).f2.f2)], .agg #[.int .i64 ((rd_T52 l1 x5_1).f0), .int .i64 ((rd_T52 l1 x5_1).f1), .int .i64 ((rd_T52 l1 x5_1).f2.f0), .string ((rd_T52 l1 x5_1).f2.f1), .string ((rd_T52 l1 x5_1).f2.f2)]] (by rfl) rfl rfl Zm ?_; with_reducible refine (laws_eqEdge.calls ((rd_T52 l0 x5_1).f0) ((rd_T52 l0 x5_1).f1) ((rd_T52 l0 x5_1).f2.f0) ((rd_T52 l0 x5_1).f2.f1) ((rd_T52 l0 x5_1).f2.f2) ((rd_T52 l1 x5_1).f0) ((rd_T52 l1 x5_1).f1) ((rd_T52 l1 x5_1).f2.f0) ((rd_T52 l1 x5_1).f2.f1) ((rd_T52 l1 x5_1).f2.f2) true _ A7.out).mono ?_
        rintro e w10 ⟨rfl, hb⟩; refine ⟨_, rfl, ?_⟩; replace HB := Sb (Bb0 HB.out) hb; clear hb; refine hK.out _ _ ⟨(Cx HB hw108_0), (Cx HB hw108_1), (Cx HB hw108_2), (Cx HB hw108_3), (Cx HB hw108_4), (Cx HB hw109_0), (Cx HB hw109_1), (Cx HB hw109_2), (Cx HB hw109_3), (Cx HB hw109_4)⟩ (fun hHeld => ?_); clear hK K; refine Nn 25 ?_; refine Pt 9 26 HT_ ?_; refine done_ (done_of HT_.out (by kernel_rfl)) ?_; try go_wp2
        go_roundg k1
        case measure => have := HK1.out; omega
        case rel => exact ⟨(wrap64 (x5_1 + 1)), Zf, H', ⟨by have := HK1.out; omega⟩, ⟨Bb0 HB.out⟩⟩
       ·replace c8 := Bool.eq_false_iff.mpr c8; subst c8; rw [if_neg (show ¬ (false = true) by decide)] at H; obtain rfl := Option.some.inj H; try go_wp2
        replace HB := Qa (below_drew1 HB.out); have p31 : 0 ≤ (x5_1 : Int) := Da; have q31 : x5_1 < (l0.length : Int) := Da; obtain ⟨ad31, e31, hx31_0, hx31_1, hx31_2, hx31_3, hx31_4⟩ := at_T52 HR0.out x5_1 p31 q31; have hw108_4 := hx31_4; have hw108_3 := hx31_3; have hw108_2 := hx31_2; have hw108_1 := hx31_1; have hw108_0 := hx31_0; cases e31
        replace hx31_0 := Cx HB hx31_0; replace hx31_1 := Cx HB hx31_1; replace hx31_2 := Cx HB hx31_2; replace hx31_3 := Cx HB hx31_3; replace hx31_4 := Cx HB hx31_4; replace p31 := eq_true p31; replace q31 := eq_true q31; have p32 : 0 ≤ (x5_1 : Int) := Da; have q32 : x5_1 < (l1.length : Int) := Da; obtain ⟨ad32, e32, hx32_0, hx32_1, hx32_2, hx32_3, hx32_4⟩ := at_T52 HR1.out x5_1 p32 q32; have hw109_4 := hx32_4; have hw109_3 := hx32_3; have hw109_2 := hx32_2; have hw109_1 := hx32_1; have hw109_0 := hx32_0; cases e32
        replace hx32_0 := Cx HB hx32_0; replace hx32_1 := Cx HB hx32_1; replace hx32_2 := Cx HB hx32_2; replace hx32_3 := Cx HB hx32_3; replace hx32_4 := Cx HB hx32_4; replace p32 := eq_true p32; replace q32 := eq_true q32; refine start_ (n := 10) (S := fun w' => w'.cell? (ad31.add ((x5_1).toNat * 5)) = some (.int .i64 ((rd_T52 l0 x5_1).f0)) ∧ w'.cell? ⟨(ad31.add ((x5_1).toNat * 5)).block, (ad31.add ((x5_1).toNat * 5)).off + 1, none⟩ = some (.int .i64 ((rd_T52 l0 x5_1).f1)) ∧ w'.cell? ⟨(ad31.add ((x5_1).toNat * 5)).block, (ad31.add ((x5_1).toNat * 5)).off + 2, none⟩ = some (.int .i64 ((rd_T52 l0 x5_1).f2.f0)) ∧ w'.cell? ⟨(ad31.add ((x5_1).toNat * 5)).block, (ad31.add ((x5_1).toNat * 5)).off + 3, none⟩ = some (.string ((rd_T52 l0 x5_1).f2.f1)) ∧ w'.cell? ⟨(ad31.add ((x5_1).toNat * 5)).block, (ad31.add ((x5_1).toNat * 5)).off + 4, none⟩ = some (.string ((rd_T52 l0 x5_1).f2.f2)) ∧ w'.cell? (ad32.add ((x5_1).toNat * 5)) = some (.int .i64 ((rd_T52 l1 x5_1).f0)) ∧ w'.cell? ⟨(ad32.add ((x5_1).toNat * 5)).block, (ad32.add ((x5_1).toNat * 5)).off + 1, none⟩ = some (.int .i64 ((rd_T52 l1 x5_1).f1)) ∧ w'.cell? ⟨(ad32.add ((x5_1).toNat * 5)).block, (ad32.add ((x5_1).toNat * 5)).off + 2, none⟩ = some (.int .i64 ((rd_T52 l1 x5_1).f2.f0)) ∧ w'.cell? ⟨(ad32.add ((x5_1).toNat * 5)).block, (ad32.add ((x5_1).toNat * 5)).off + 3, none⟩ = some (.string ((rd_T52 l1 x5_1).f2.f1)) ∧ w'.cell? ⟨(ad32.add ((x5_1).toNat * 5)).block, (ad32.add ((x5_1).toNat * 5)).off + 4, none⟩ = some (.string ((rd_T52 l1 x5_1).f2.f2))) (ds := []) #[false, false, false, false, false, false, false, false, false, false] (by kernel_rfl) rfl rfl ⟨(Cx HB hw108_0), (Cx HB hw108_1), (Cx HB hw108_2), (Cx HB hw108_3), (Cx HB hw108_4), (Cx HB hw109_0), (Cx HB hw109_1), (Cx HB hw109_2), (Cx HB hw109_3), (Cx HB hw109_4)⟩ (fun hHeld => ?_); refine with_tabW laws_eqEdgeS.tab6 laws_eqEdgeS.bits6 (fun HT_ HW_ => ?_); generalize wr.drew = w11 at HB hx31_0 hx31_1 hx31_2 hx31_3 hx31_4 hx32_0 hx32_1 hx32_2 hx32_3 hx32_4 hHeld ⊢; refine Pt 0 17 HT_ ?_; refine Pt 1 18 HT_ ?_; refine Pt 2 19 HT_ ?_; refine Pt 4 21 HT_ ?_; refine Pt 5 22 HT_ ?_; refine Pt 6 23 HT_ ?_; refine Tu10 3 20 HT_ HW_ hHeld ?_; refine Tu10 7 24 HT_ HW_ hHeld ?_; refine Ot 8 25 HT_ (fun K hK => ?_); refine goes_ Tryz.func78 (by kernel_rfl) rfl #[.agg #[.int .i64 ((rd_T52 l0 x5_1).f0), .int .i64 ((rd_T52 l0 x5_1).f1), .int .i64 ((rd_T52 l0 x5_1).f2.f0), .string ((rd_T52 l0 x5_1).f2.f1), .string ((rd_T52 l0 x5_1).f2.f2)], .agg #[.int .i64 ((rd_T52 l1 x5_1).f0), .int .i64 ((rd_T52 l1 x5_1).f1), .int .i64 ((rd_T52 l1 x5_1).f2.f0), .string ((rd_T52 l1 x5_1).f2.f1), .string ((rd_T52 l1 x5_1).f2.f2)]] (by rfl) rfl rfl Zm ?_; with_reducible refine (laws_eqEdge.calls ((rd_T52 l0 x5_1).f0) ((rd_T52 l0 x5_1).f1) ((rd_T52 l0 x5_1).f2.f0) ((rd_T52 l0 x5_1).f2.f1) ((rd_T52 l0 x5_1).f2.f2) ((rd_T52 l1 x5_1).f0) ((rd_T52 l1 x5_1).f1) ((rd_T52 l1 x5_1).f2.f0) ((rd_T52 l1 x5_1).f2.f1) ((rd_T52 l1 x5_1).f2.f2) false _ A7.out).mono ?_
        rintro e w12 ⟨rfl, hb⟩; refine ⟨_, rfl, ?_⟩; replace HB := Sb (Bb0 HB.out) hb; clear hb; refine hK.out _ _ ⟨(Cx HB hw108_0), (Cx HB hw108_1), (Cx HB hw108_2), (Cx HB hw108_3), (Cx HB hw108_4), (Cx HB hw109_0), (Cx HB hw109_1), (Cx HB hw109_2), (Cx HB hw109_3), (Cx HB hw109_4)⟩ (fun hHeld => ?_); clear hK K; refine Nn 25 ?_; refine Pt 9 26 HT_ ?_; refine done_ (done_of HT_.out (by kernel_rfl)) ?_; try go_wp2
        go_ret; exact ⟨Ze, Bb0 HB.out⟩
      ·rw [if_neg c6] at H; exact absurd H (by simp)
     ·rw [if_neg c5] at H; exact absurd H (by simp)
    ·rw [if_neg c4] at H; replace c4 := decide_eq_false c4; obtain rfl := Option.some.inj H; go_wp2; go_ret; exact ⟨Ze, Bb0 HB.out⟩
 ·rw [if_neg c3] at H
  have c3b0 := beq_eq_false_iff_ne.mpr c3; have c3b1 := bne_iff_ne.mpr c3; have c3b2 : (l0.length == l1.length) = false := by first | simpa using c3 | (simp at c3 ⊢; omega)
  obtain rfl := Option.some.inj H; go_enter Tryz.func38, Tryz.ntmps38; go_wp2; go_ret; exact ⟨Ze, Bb0 HB.out⟩
def laws_eqProgram.f (k : Nat) (l0_0 : List ByteArray) (a0_1 : Int) (l0_2 : List (S52)) (l1_0 : List ByteArray) (a1_1 : Int) (l1_2 : List (S52)) : Option (Bool) := (laws_eqStringS.f k l0_0 l1_0).bind fun t42 => (if t42 = true then (if a0_1 = a1_1 then ((laws_eqEdgeS.f k l0_2 l1_2).bind fun t43 => (if t43 = true then (some true) else (some false))) else (some false)) else (some false))
theorem laws_eqProgram.mono : ∀ a0 a1 a2 a3 a4 a5 k, LeO (laws_eqProgram.f k a0 a1 a2 a3 a4 a5) (laws_eqProgram.f (k + 1) a0 a1 a2 a3 a4 a5) := by
 intro a0 a1 a2 a3 a4 a5 k
 unfold laws_eqProgram.f
 exact Lm2 laws_eqEdgeS.mono laws_eqStringS.mono
theorem laws_eqProgram.calls (k : Nat) (A0_0 : Option Addr) (c0_0 : Nat) (l0_0 : List ByteArray) (a0_1 : Int) (A0_2 : Option Addr) (c0_2 : Nat) (l0_2 : List (S52)) (A1_0 : Option Addr) (c1_0 : Nat) (l1_0 : List ByteArray) (a1_1 : Int) (A1_2 : Option Addr) (c1_2 : Nat) (l1_2 : List (S52)) (r : Bool) (w : World) (hr0_0 : Kd.C Qf w A0_0 l0_0.length l0_0) (hc0_0 : l0_0.length ≤ c0_0) (hr0_2 : Kd.C k52 w A0_2 l0_2.length l0_2) (hc0_2 : l0_2.length ≤ c0_2) (hr1_0 : Kd.C Qf w A1_0 l1_0.length l1_0) (hc1_0 : l1_0.length ≤ c1_0) (hr1_2 : Kd.C k52 w A1_2 l1_2.length l1_2) (hc1_2 : l1_2.length ≤ c1_2) (h : laws_eqProgram.f k l0_0 a0_1 l0_2 l1_0 a1_1 l1_2 = some r) :
  Calls Qm 10 #[.agg #[.slice A0_0 l0_0.length c0_0, .int .i64 a0_1, .slice A0_2 l0_2.length c0_2], .agg #[.slice A1_0 l1_0.length c1_0, .int .i64 a1_1, .slice A1_2 l1_2.length c1_2]] w fun e w' => e = .returned (.bool r) ∧ Below w.heap.size w w' := by
 have hu30 := Tryz.underlying30
 have HR0_0 := Qa hr0_0
 have HC0_0 := Qa hc0_0
 clear hr0_0 hc0_0
 have HR0_2 := Qa hr0_2
 have HC0_2 := Qa hc0_2
 clear hr0_2 hc0_2
 have HR1_0 := Qa hr1_0
 have HC1_0 := Qa hc1_0
 clear hr1_0 hc1_0
 have HR1_2 := Qa hr1_2
 have HC1_2 := Qa hc1_2
 clear hr1_2 hc1_2
 have HB := Qa (Below.refl w.heap.size w)
 have H : ((laws_eqStringS.f k l0_0 l1_0).bind fun t42 => (if t42 = true then (if a0_1 = a1_1 then ((laws_eqEdgeS.f k l0_2 l1_2).bind fun t43 => (if t43 = true then (some true) else (some false))) else (some false)) else (some false))) = some r := h
 clear h
 obtain ⟨t42, A3, H⟩ := Ob H
 (try dsimp only at H)
 by_cases c4 : t42 = true
 ·subst c4
  rw [if_pos rfl] at H; by_cases c5 : a0_1 = a1_1
  ·rw [if_pos c5] at H; have c5b0 := beq_iff_eq.mpr c5; have c5b1 := bne_eq_false_iff_eq.mpr c5; clear c5; obtain ⟨t43, A6, H⟩ := Ob H; (try dsimp only at H)
   by_cases c7 : t43 = true
   ·subst c7; rw [if_pos rfl] at H; obtain rfl := Option.some.inj H; go_enter Tryz.func10, Tryz.ntmps10; go_wp2_with (first | ((with_reducible refine Ql (N := 2) rfl ?_); refine Bx (N := 2) (cs := #[.slice A0_0 l0_0.length c0_0, .int .i64 a0_1, .slice A0_2 l0_2.length c0_2]) (t := 30) ?_; intro gb33 hg w8 hbox hb; have BK33 := Qa (hbox); have GW33 := Gs (w := w) hg (Bb0 HB.out); have GE33 := GW33; replace HB := Sb (Bb0 HB.out) hb; clear hb hbox hg) | ((with_reducible refine Ql (N := 3) rfl ?_); refine Bx (N := 3) (cs := #[.slice A1_0 l1_0.length c1_0, .int .i64 a1_1, .slice A1_2 l1_2.length c1_2]) (t := 30) ?_; intro gb36 hg w9 hbox hb; have BK36 := Qa (hbox); have GW36 := Gs (w := w) hg (Bb1 HB.out GE33.out); have GE36 := GW36; replace HB := Sb (Bb1 HB.out GE33.out) hb; have NB33_36 := Nl hg BK33; have NB36_33 := Ng hg BK33; replace BK33 := Kb BK33 hb; clear hb hbox hg; have hnb10 := NB33_36.out; have hnc10 := NB36_33.out; obtain ⟨q11_0, q11_1, q11_2, u11_0, u11_1, u11_2⟩ := Cf3 BK33; obtain ⟨q12_0, q12_1, q12_2, u12_0, u12_1, u12_2⟩ := Cf3 BK36) | ((with_reducible refine Qd (f := 37) rfl ?_); refine Gl 9 Tryz.func37 #[.slice A0_0 l0_0.length c0_0, .slice A1_0 l1_0.length c1_0] ?_; (with_reducible refine (laws_eqStringS.calls k _ _ l0_0 _ _ l1_0 true _ ?side1 ?side2 ?side3 ?side4 A3.out).mono ?_); (case side1 => exact Bc (Qk HR0_0.out HB.out)); (case side2 => exact HC0_0.out); (case side3 => exact Bc (Qk HR1_0.out HB.out)); (case side4 => exact HC1_0.out); rintro e w' ⟨rfl, ⟨nd, rfl⟩⟩; refine ⟨_, rfl, ?_⟩) | ((with_reducible refine Qd (f := 38) rfl ?_); refine Gl 20 Tryz.func38 #[.slice A0_2 l0_2.length c0_2, .slice A1_2 l1_2.length c1_2] ?_; (with_reducible refine (laws_eqEdgeS.calls k _ _ l0_2 _ _ l1_2 true _ ?side1 ?side2 ?side3 ?side4 A6.out).mono ?_); (case side1 => exact Bc (Qk HR0_2.out (Bb2 HB.out GE33.out GE36.out))); (case side2 => exact HC0_2.out); (case side3 => exact Bc (Qk HR1_2.out (Bb2 HB.out GE33.out GE36.out))); (case side4 => exact HC1_2.out); rintro e w13 ⟨rfl, hb⟩; refine ⟨_, rfl, ?_⟩; replace BK33 := Kb BK33 hb; replace BK36 := Kb BK36 hb; replace HB := Sb (Bb2 HB.out GE33.out GE36.out) hb; clear hb)); go_ret; exact ⟨Ze, Bb2 HB.out GE33.out GE36.out⟩
   ·replace c7 := Bool.eq_false_iff.mpr c7; subst c7; rw [if_neg (show ¬ (false = true) by decide)] at H; obtain rfl := Option.some.inj H; go_enter Tryz.func10, Tryz.ntmps10; go_wp2_with (first | ((with_reducible refine Ql (N := 2) rfl ?_); refine Bx (N := 2) (cs := #[.slice A0_0 l0_0.length c0_0, .int .i64 a0_1, .slice A0_2 l0_2.length c0_2]) (t := 30) ?_; intro gb33 hg w14 hbox hb; have BK33 := Qa (hbox); have GW33 := Gs (w := w) hg (Bb0 HB.out); have GE33 := GW33; replace HB := Sb (Bb0 HB.out) hb; clear hb hbox hg) | ((with_reducible refine Ql (N := 3) rfl ?_); refine Bx (N := 3) (cs := #[.slice A1_0 l1_0.length c1_0, .int .i64 a1_1, .slice A1_2 l1_2.length c1_2]) (t := 30) ?_; intro gb36 hg w15 hbox hb; have BK36 := Qa (hbox); have GW36 := Gs (w := w) hg (Bb1 HB.out GE33.out); have GE36 := GW36; replace HB := Sb (Bb1 HB.out GE33.out) hb; have NB33_36 := Nl hg BK33; have NB36_33 := Ng hg BK33; replace BK33 := Kb BK33 hb; clear hb hbox hg; have hnb16 := NB33_36.out; have hnc16 := NB36_33.out; obtain ⟨q17_0, q17_1, q17_2, u17_0, u17_1, u17_2⟩ := Cf3 BK33; obtain ⟨q18_0, q18_1, q18_2, u18_0, u18_1, u18_2⟩ := Cf3 BK36) | ((with_reducible refine Qd (f := 37) rfl ?_); refine Gl 9 Tryz.func37 #[.slice A0_0 l0_0.length c0_0, .slice A1_0 l1_0.length c1_0] ?_; (with_reducible refine (laws_eqStringS.calls k _ _ l0_0 _ _ l1_0 true _ ?side1 ?side2 ?side3 ?side4 A3.out).mono ?_); (case side1 => exact Bc (Qk HR0_0.out HB.out)); (case side2 => exact HC0_0.out); (case side3 => exact Bc (Qk HR1_0.out HB.out)); (case side4 => exact HC1_0.out); rintro e w' ⟨rfl, ⟨nd, rfl⟩⟩; refine ⟨_, rfl, ?_⟩) | ((with_reducible refine Qd (f := 38) rfl ?_); refine Gl 20 Tryz.func38 #[.slice A0_2 l0_2.length c0_2, .slice A1_2 l1_2.length c1_2] ?_; (with_reducible refine (laws_eqEdgeS.calls k _ _ l0_2 _ _ l1_2 false _ ?side1 ?side2 ?side3 ?side4 A6.out).mono ?_); (case side1 => exact Bc (Qk HR0_2.out (Bb2 HB.out GE33.out GE36.out))); (case side2 => exact HC0_2.out); (case side3 => exact Bc (Qk HR1_2.out (Bb2 HB.out GE33.out GE36.out))); (case side4 => exact HC1_2.out); rintro e w19 ⟨rfl, hb⟩; refine ⟨_, rfl, ?_⟩; replace BK33 := Kb BK33 hb; replace BK36 := Kb BK36 hb; replace HB := Sb (Bb2 HB.out GE33.out GE36.out) hb; clear hb)); go_ret; exact ⟨Ze, Bb2 HB.out GE33.out GE36.out⟩
  ·rw [if_neg c5] at H; have c5b0 := beq_eq_false_iff_ne.mpr c5; have c5b1 := bne_iff_ne.mpr c5; obtain rfl := Option.some.inj H; go_enter Tryz.func10, Tryz.ntmps10; go_wp2_with (first | ((with_reducible refine Ql (N := 2) rfl ?_); refine Bx (N := 2) (cs := #[.slice A0_0 l0_0.length c0_0, .int .i64 a0_1, .slice A0_2 l0_2.length c0_2]) (t := 30) ?_; intro gb33 hg w20 hbox hb; have BK33 := Qa (hbox); have GW33 := Gs (w := w) hg (Bb0 HB.out); have GE33 := GW33; replace HB := Sb (Bb0 HB.out) hb; clear hb hbox hg) | ((with_reducible refine Ql (N := 3) rfl ?_); refine Bx (N := 3) (cs := #[.slice A1_0 l1_0.length c1_0, .int .i64 a1_1, .slice A1_2 l1_2.length c1_2]) (t := 30) ?_; intro gb36 hg w21 hbox hb; have BK36 := Qa (hbox); have GW36 := Gs (w := w) hg (Bb1 HB.out GE33.out); have GE36 := GW36; replace HB := Sb (Bb1 HB.out GE33.out) hb; have NB33_36 := Nl hg BK33; have NB36_33 := Ng hg BK33; replace BK33 := Kb BK33 hb; clear hb hbox hg; have hnb22 := NB33_36.out; have hnc22 := NB36_33.out; obtain ⟨q23_0, q23_1, q23_2, u23_0, u23_1, u23_2⟩ := Cf3 BK33; obtain ⟨q24_0, q24_1, q24_2, u24_0, u24_1, u24_2⟩ := Cf3 BK36) | ((with_reducible refine Qd (f := 37) rfl ?_); refine Gl 9 Tryz.func37 #[.slice A0_0 l0_0.length c0_0, .slice A1_0 l1_0.length c1_0] ?_; (with_reducible refine (laws_eqStringS.calls k _ _ l0_0 _ _ l1_0 true _ ?side1 ?side2 ?side3 ?side4 A3.out).mono ?_); (case side1 => exact Bc (Qk HR0_0.out HB.out)); (case side2 => exact HC0_0.out); (case side3 => exact Bc (Qk HR1_0.out HB.out)); (case side4 => exact HC1_0.out); rintro e w' ⟨rfl, ⟨nd, rfl⟩⟩; refine ⟨_, rfl, ?_⟩)); go_ret; exact ⟨Ze, Bb2 HB.out GE33.out GE36.out⟩
 ·replace c4 := Bool.eq_false_iff.mpr c4
  subst c4; rw [if_neg (show ¬ (false = true) by decide)] at H; obtain rfl := Option.some.inj H; go_enter Tryz.func10, Tryz.ntmps10; go_wp2_with (first | ((with_reducible refine Ql (N := 2) rfl ?_); refine Bx (N := 2) (cs := #[.slice A0_0 l0_0.length c0_0, .int .i64 a0_1, .slice A0_2 l0_2.length c0_2]) (t := 30) ?_; intro gb33 hg w25 hbox hb; have BK33 := Qa (hbox); have GW33 := Gs (w := w) hg (Bb0 HB.out); have GE33 := GW33; replace HB := Sb (Bb0 HB.out) hb; clear hb hbox hg) | ((with_reducible refine Ql (N := 3) rfl ?_); refine Bx (N := 3) (cs := #[.slice A1_0 l1_0.length c1_0, .int .i64 a1_1, .slice A1_2 l1_2.length c1_2]) (t := 30) ?_; intro gb36 hg w26 hbox hb; have BK36 := Qa (hbox); have GW36 := Gs (w := w) hg (Bb1 HB.out GE33.out); have GE36 := GW36; replace HB := Sb (Bb1 HB.out GE33.out) hb; have NB33_36 := Nl hg BK33; have NB36_33 := Ng hg BK33; replace BK33 := Kb BK33 hb; clear hb hbox hg; have hnb27 := NB33_36.out; have hnc27 := NB36_33.out; obtain ⟨q28_0, q28_1, q28_2, u28_0, u28_1, u28_2⟩ := Cf3 BK33; obtain ⟨q29_0, q29_1, q29_2, u29_0, u29_1, u29_2⟩ := Cf3 BK36) | ((with_reducible refine Qd (f := 37) rfl ?_); refine Gl 9 Tryz.func37 #[.slice A0_0 l0_0.length c0_0, .slice A1_0 l1_0.length c1_0] ?_; (with_reducible refine (laws_eqStringS.calls k _ _ l0_0 _ _ l1_0 false _ ?side1 ?side2 ?side3 ?side4 A3.out).mono ?_); (case side1 => exact Bc (Qk HR0_0.out HB.out)); (case side2 => exact HC0_0.out); (case side3 => exact Bc (Qk HR1_0.out HB.out)); (case side4 => exact HC1_0.out); rintro e w' ⟨rfl, ⟨nd, rfl⟩⟩; refine ⟨_, rfl, ?_⟩)); go_ret; exact ⟨Ze, Bb2 HB.out GE33.out GE36.out⟩
def spec_l1In.f (a0 : Int) (a1 : Int) (a2 : Int) : Option (Bool) := if a0 ≥ a1 then (some (decide (a0 ≤ a2))) else (some false)
theorem spec_l1In.calls (a0 : Int) (a1 : Int) (a2 : Int) (r : Bool) (w : World) (h : spec_l1In.f a0 a1 a2 = some r) :
  Calls Qm 57 #[.int .i64 a0, .int .i64 a1, .int .i64 a2] w fun e w' => e = .returned (.bool r) ∧ Drawn0 w w' := by
 have H : (if a0 ≥ a1 then (some (decide (a0 ≤ a2))) else (some false)) = some r := h
 clear h
 by_cases c4 : a0 ≥ a1
 ·rw [if_pos c4] at H
  replace c4 := decide_eq_true c4; obtain rfl := Option.some.inj H; go_enter Tryz.func57, Tryz.ntmps57; go_wp2; go_ret; exact ⟨by first | rfl | (simp; done) | (simp [*]; done), by repeat (first | exact Drawn0.refl _ | apply Drawn0.step)⟩
 ·rw [if_neg c4] at H
  replace c4 := decide_eq_false c4; obtain rfl := Option.some.inj H; go_enter Tryz.func57, Tryz.ntmps57; go_wp2; go_ret; exact ⟨by first | rfl | (simp; done) | (simp [*]; done), by repeat (first | exact Drawn0.refl _ | apply Drawn0.step)⟩
end Go.Proofs.YtndkkpjofddfjaaGreatDoor.PFnExactParseProgram
