/- A part of the walk through the printed functions; no condition. -/
import Derived.Test.YtndkkpjofddfjaaGreatDoorXAuto
import Derived.Test.YtndkkpjofddfjaaGreatDoorPFnExactParseProgramx0
import Derived.Test.YtndkkpjofddfjaaGreatDoorPFnExactParseProgramx1
import Derived.Test.YtndkkpjofddfjaaGreatDoorPFnExactParseProgramx8
import Derived.Test.YtndkkpjofddfjaaGreatDoorPFnExactParseProgramx13
import Derived.Test.YtndkkpjofddfjaaGreatDoorPFnExactParseProgramx14
import Derived.Test.YtndkkpjofddfjaaGreatDoorPFnExactParseProgramx15
namespace Go.Proofs.YtndkkpjofddfjaaGreatDoor.PFnExactParseProgram
open Go.RowKit Go.Proofs.YtndkkpjofddfjaaGreatDoorW.PrintWords Go.Proofs.YtndkkpjofddfjaaGreatDoorW.PrintLast Go.Proofs.YtndkkpjofddfjaaGreatDoorW.PrintMore
attribute [local go_sem] max2_int min2_int max_two min_two max_three min_three max_four min_four
set_option maxHeartbeats 32000000
set_option maxRecDepth 100000
attribute [local irreducible] Go.World.setCell
set_option linter.unusedVariables false
set_option linter.unusedSimpArgs false
open Go.Proofs.YtndkkpjofddfjaaGreatDoorW.PrintWords.Aside0 renaming mk → Qa
open Go.Proofs.YtndkkpjofddfjaaGreatDoorW.PrintWords.Kd renaming R_reads' → Qc, string → Qf, R_types → Qh, C_below → Qk, R_ne → Qp, R_slice → Qr, R_below → Qw
open Go.Proofs.YtndkkpjofddfjaaGreatDoorW.PrintWords renaming gate_callee → Qd, Aside0 → Qe, gate_dst → Ql
open Go renaming Value → Qx
def laws_heldProgram.f (k : Nat) (l0_0 : List ByteArray) (a0_1 : Int) (l0_2 : List (S52)) (a1 : Int) : Option (Int) := (laws_heldStringS.f k l0_0 a1).bind fun t85 => (if t85 < 0 then (some (-1)) else ((laws_heldEdgeS.f k l0_2 t85).bind fun t92 => (if t92 < 0 then (some (-1)) else (some t92))))
theorem laws_heldProgram.mono : ∀ a0 a1 a2 a3 k, LeO (laws_heldProgram.f k a0 a1 a2 a3) (laws_heldProgram.f (k + 1) a0 a1 a2 a3) := by
 intro a0 a1 a2 a3 k
 unfold laws_heldProgram.f
 exact Lm2 laws_heldEdgeS.mono laws_heldStringS.mono
theorem laws_heldProgram.calls (k : Nat) (A0_0 : Option Addr) (c0_0 : Nat) (l0_0 : List ByteArray) (a0_1 : Int) (A0_2 : Option Addr) (c0_2 : Nat) (l0_2 : List (S52)) (a1 : Int) (r : Int) (w : World) (hr0_0 : Kd.C Qf w A0_0 l0_0.length l0_0) (hc0_0 : l0_0.length ≤ c0_0) (hr0_2 : Kd.C k52 w A0_2 l0_2.length l0_2) (hc0_2 : l0_2.length ≤ c0_2) (h : laws_heldProgram.f k l0_0 a0_1 l0_2 a1 = some r) :
  Calls Tryz.prog 14 #[.agg #[.slice A0_0 l0_0.length c0_0, .int .i64 a0_1, .slice A0_2 l0_2.length c0_2], .int .i64 a1] w fun e w' => e = .returned (.int .i64 r) ∧ Below w.heap.size w w' := by
 have hu30 := Tryz.underlying30
 have HR0_0 := Qa hr0_0
 have HC0_0 := Qa hc0_0
 clear hr0_0 hc0_0
 have HR0_2 := Qa hr0_2
 have HC0_2 := Qa hc0_2
 clear hr0_2 hc0_2
 have HB := Qa (Below.refl w.heap.size w)
 have H : ((laws_heldStringS.f k l0_0 a1).bind fun t85 => (if t85 < 0 then (some (-1)) else ((laws_heldEdgeS.f k l0_2 t85).bind fun t92 => (if t92 < 0 then (some (-1)) else (some t92))))) = some r := h
 clear h
 obtain ⟨t85, A3, H⟩ := Ob H
 (try dsimp only at H)
 by_cases c4 : t85 < 0
 ·rw [if_pos c4] at H
  replace c4 := decide_eq_true c4; obtain rfl := Option.some.inj H; go_enter Tryz.func14, Tryz.ntmps14; go_wp2_with (first | ((with_reducible refine Ql (N := 2) rfl ?_); refine Bx (N := 2) (cs := #[.slice A0_0 l0_0.length c0_0, .int .i64 a0_1, .slice A0_2 l0_2.length c0_2]) (t := 30) ?_; intro gb73 hg w5 hbox hb; have BK73 := Qa (hbox); have GW73 := Gs (w := w) hg (Bb0 HB.out); have GE73 := GW73; replace HB := Sb (Bb0 HB.out) hb; clear hb hbox hg; obtain ⟨q6_0, q6_1, q6_2, u6_0, u6_1, u6_2⟩ := Cf3 BK73) | ((with_reducible refine Qd (f := 48) rfl ?_); refine Gl 8 Tryz.func48 #[.slice A0_0 l0_0.length c0_0, .int .i64 a1] ?_; (with_reducible refine (laws_heldStringS.calls k _ _ l0_0 a1 t85 _ ?side1 ?side2 A3.out).mono ?_); (case side1 => exact Bc (Qk HR0_0.out HB.out)); (case side2 => exact HC0_0.out); rintro e w7 ⟨rfl, hb⟩; refine ⟨_, rfl, ?_⟩; replace BK73 := Kb BK73 hb; replace HB := Sb (Bb1 HB.out GE73.out) hb; clear hb)); go_ret; exact ⟨Ze, Bb1 HB.out GE73.out⟩
 ·rw [if_neg c4] at H
  replace c4 := decide_eq_false c4; obtain ⟨t92, A8, H⟩ := Ob H; (try dsimp only at H)
  by_cases c9 : t92 < 0
  ·rw [if_pos c9] at H; replace c9 := decide_eq_true c9; obtain rfl := Option.some.inj H; go_enter Tryz.func14, Tryz.ntmps14; go_wp2_with (first | ((with_reducible refine Ql (N := 2) rfl ?_); refine Bx (N := 2) (cs := #[.slice A0_0 l0_0.length c0_0, .int .i64 a0_1, .slice A0_2 l0_2.length c0_2]) (t := 30) ?_; intro gb73 hg w10 hbox hb; have BK73 := Qa (hbox); have GW73 := Gs (w := w) hg (Bb0 HB.out); have GE73 := GW73; replace HB := Sb (Bb0 HB.out) hb; clear hb hbox hg; obtain ⟨q11_0, q11_1, q11_2, u11_0, u11_1, u11_2⟩ := Cf3 BK73) | ((with_reducible refine Qd (f := 48) rfl ?_); refine Gl 8 Tryz.func48 #[.slice A0_0 l0_0.length c0_0, .int .i64 a1] ?_; (with_reducible refine (laws_heldStringS.calls k _ _ l0_0 a1 t85 _ ?side1 ?side2 A3.out).mono ?_); (case side1 => exact Bc (Qk HR0_0.out HB.out)); (case side2 => exact HC0_0.out); rintro e w12 ⟨rfl, hb⟩; refine ⟨_, rfl, ?_⟩; replace BK73 := Kb BK73 hb; replace HB := Sb (Bb1 HB.out GE73.out) hb; clear hb; obtain ⟨q13_0, q13_1, q13_2, u13_0, u13_1, u13_2⟩ := Cf3 BK73) | ((with_reducible refine Qd (f := 49) rfl ?_); refine Gl 14 Tryz.func49 #[.slice A0_2 l0_2.length c0_2, .int .i64 t85] ?_; (with_reducible refine (laws_heldEdgeS.calls k _ _ l0_2 t85 t92 _ ?side1 ?side2 A8.out).mono ?_); (case side1 => exact Bc (Qk HR0_2.out HB.out)); (case side2 => exact HC0_2.out); rintro e w14 ⟨rfl, hb⟩; refine ⟨_, rfl, ?_⟩; replace BK73 := Kb BK73 hb; replace HB := Sb (Bb1 HB.out GE73.out) hb; clear hb)); go_ret; exact ⟨Ze, Bb1 HB.out GE73.out⟩
  ·rw [if_neg c9] at H; replace c9 := decide_eq_false c9; obtain rfl := Option.some.inj H; go_enter Tryz.func14, Tryz.ntmps14; go_wp2_with (first | ((with_reducible refine Ql (N := 2) rfl ?_); refine Bx (N := 2) (cs := #[.slice A0_0 l0_0.length c0_0, .int .i64 a0_1, .slice A0_2 l0_2.length c0_2]) (t := 30) ?_; intro gb73 hg w15 hbox hb; have BK73 := Qa (hbox); have GW73 := Gs (w := w) hg (Bb0 HB.out); have GE73 := GW73; replace HB := Sb (Bb0 HB.out) hb; clear hb hbox hg; obtain ⟨q16_0, q16_1, q16_2, u16_0, u16_1, u16_2⟩ := Cf3 BK73) | ((with_reducible refine Qd (f := 48) rfl ?_); refine Gl 8 Tryz.func48 #[.slice A0_0 l0_0.length c0_0, .int .i64 a1] ?_; (with_reducible refine (laws_heldStringS.calls k _ _ l0_0 a1 t85 _ ?side1 ?side2 A3.out).mono ?_); (case side1 => exact Bc (Qk HR0_0.out HB.out)); (case side2 => exact HC0_0.out); rintro e w17 ⟨rfl, hb⟩; refine ⟨_, rfl, ?_⟩; replace BK73 := Kb BK73 hb; replace HB := Sb (Bb1 HB.out GE73.out) hb; clear hb; obtain ⟨q18_0, q18_1, q18_2, u18_0, u18_1, u18_2⟩ := Cf3 BK73) | ((with_reducible refine Qd (f := 49) rfl ?_); refine Gl 14 Tryz.func49 #[.slice A0_2 l0_2.length c0_2, .int .i64 t85] ?_; (with_reducible refine (laws_heldEdgeS.calls k _ _ l0_2 t85 t92 _ ?side1 ?side2 A8.out).mono ?_); (case side1 => exact Bc (Qk HR0_2.out HB.out)); (case side2 => exact HC0_2.out); rintro e w19 ⟨rfl, hb⟩; refine ⟨_, rfl, ?_⟩; replace BK73 := Kb BK73 hb; replace HB := Sb (Bb1 HB.out GE73.out) hb; clear hb)); go_ret; exact ⟨Ze, Bb1 HB.out GE73.out⟩
mutual
def laws_FnExactParseProgram.j0 : Nat → ByteArray → Bool → Bool → List ByteArray → Int → List (S52) → List ByteArray → Int → List (S52) → Option (Bool)
 | 0, _, _, _, _, _, _, _, _, _ => none
 | k + 1, x0, x4, x32, x78, x102, x79, x74, x96, x75 => if x32 = true then (some false) else ((laws_markProgram.f k x74 x96 x75 1).bind fun bt86 => ((laws_heldProgram.f k bt86.2.1 x96 bt86.2.2 1).bind fun t97 => (if t97 < 0 then (some false) else (if t97 = bt86.1 then ((impl_ParseProgram.f k x0).bind fun bt80 => ((laws_eqProgram.f k bt80.1 bt80.2.1 bt80.2.2.1 x78 x102 x79).bind fun t430 => (if t430 = true then (laws_FnExactParseProgram.j1 k bt86.1 (bt80.2.2.2 != x4) bt86.2.1 x96 bt86.2.2) else (laws_FnExactParseProgram.j1 k bt86.1 true bt86.2.1 x96 bt86.2.2)))) else (some false)))))
def laws_FnExactParseProgram.j1 : Nat → Int → Bool → List ByteArray → Int → List (S52) → Option (Bool)
 | 0, _, _, _, _, _ => none
 | k + 1, x7, x57, x74, x96, x75 => if x57 = true then (some false) else ((laws_heldProgram.f k x74 x96 x75 1).bind fun t98 => (if t98 < 0 then (some false) else (if t98 = x7 then (some true) else (some false))))
end
def laws_FnExactParseProgram.f (k : Nat) (a0 : ByteArray) : Option (Bool) := if (a0.size : Int) > 1048576 then (some true) else ((spec_ParseProgram.f k a0).bind fun bt71 => ((impl_ParseProgram.f k a0).bind fun bt72 => ((laws_eqProgram.f k bt72.1 bt72.2.1 bt72.2.2.1 bt71.1 bt71.2.1 bt71.2.2.1).bind fun t99 => (if t99 = true then (laws_FnExactParseProgram.j0 k a0 bt71.2.2.2 (bt72.2.2.2 != bt71.2.2.2) bt71.1 bt71.2.1 bt71.2.2.1 bt72.1 bt72.2.1 bt72.2.2.1) else (laws_FnExactParseProgram.j0 k a0 bt71.2.2.2 true bt71.1 bt71.2.1 bt71.2.2.1 bt72.1 bt72.2.1 bt72.2.2.1)))))
theorem laws_FnExactParseProgram.mono_l : ∀ k, (∀ y0 y1 y2 y3 y4 y5 y6 y7 y8, LeO (laws_FnExactParseProgram.j0 k y0 y1 y2 y3 y4 y5 y6 y7 y8) (laws_FnExactParseProgram.j0 (k + 1) y0 y1 y2 y3 y4 y5 y6 y7 y8)) ∧ (∀ y0 y1 y2 y3 y4, LeO (laws_FnExactParseProgram.j1 k y0 y1 y2 y3 y4) (laws_FnExactParseProgram.j1 (k + 1) y0 y1 y2 y3 y4))
 | 0 => ⟨fun _ _ _ _ _ _ _ _ _ r h => by simp [laws_FnExactParseProgram.j0] at h, fun _ _ _ _ _ r h => by simp [laws_FnExactParseProgram.j1] at h⟩
 | k + 1 => by
  obtain ⟨ih0, ih1⟩ := laws_FnExactParseProgram.mono_l k; refine ⟨?_, ?_⟩
  ·intro y0 y1 y2 y3 y4 y5 y6 y7 y8; unfold laws_FnExactParseProgram.j0; exact Lm7 ih0 ih1 impl_ParseProgram.mono laws_eqProgram.mono laws_heldProgram.mono laws_markProgram.mono spec_ParseProgram.mono
  ·intro y0 y1 y2 y3 y4; unfold laws_FnExactParseProgram.j1; exact Lm7 ih0 ih1 impl_ParseProgram.mono laws_eqProgram.mono laws_heldProgram.mono laws_markProgram.mono spec_ParseProgram.mono
theorem laws_FnExactParseProgram.mono : ∀ a0 k, LeO (laws_FnExactParseProgram.f k a0) (laws_FnExactParseProgram.f (k + 1) a0) := by
 intro a0 k
 obtain ⟨ih0, ih1⟩ := laws_FnExactParseProgram.mono_l k
 unfold laws_FnExactParseProgram.f
 exact Lm7 ih0 ih1 impl_ParseProgram.mono laws_eqProgram.mono laws_heldProgram.mono laws_markProgram.mono spec_ParseProgram.mono
theorem laws_FnExactParseProgram.calls (k : Nat) (a0 : ByteArray) (r : Bool) (w : World) (hw_LaidE : LaidE w) (hw_LaidI : LaidI w) (hw_LaidS : LaidS w) (hrt : Qe (r = true)) (h : laws_FnExactParseProgram.f k a0 = some r) :
  Calls Tryz.prog 4 #[.string a0] w fun e w' => e = .returned (.bool r) ∧ Below w.heap.size w w' := by
 have hu30 := Tryz.underlying30
 have W_LaidE := Qa hw_LaidE
 clear hw_LaidE
 have W_LaidI := Qa hw_LaidI
 clear hw_LaidI
 have W_LaidS := Qa hw_LaidS
 clear hw_LaidS
 have HB := Qa (Below.refl w.heap.size w)
 have H : (if (a0.size : Int) > 1048576 then (some true) else ((spec_ParseProgram.f k a0).bind fun bt71 => ((impl_ParseProgram.f k a0).bind fun bt72 => ((laws_eqProgram.f k bt72.1 bt72.2.1 bt72.2.2.1 bt71.1 bt71.2.1 bt71.2.2.1).bind fun t99 => (if t99 = true then (laws_FnExactParseProgram.j0 k a0 bt71.2.2.2 (bt72.2.2.2 != bt71.2.2.2) bt71.1 bt71.2.1 bt71.2.2.1 bt72.1 bt72.2.1 bt72.2.2.1) else (laws_FnExactParseProgram.j0 k a0 bt71.2.2.2 true bt71.1 bt71.2.1 bt71.2.2.1 bt72.1 bt72.2.1 bt72.2.2.1)))))) = some r := h
 clear h
 by_cases c2 : (a0.size : Int) > 1048576
 ·rw [if_pos c2] at H
  have c2b0 := decide_eq_true c2; have c2b1 : decide (1048576 < a0.size) = true := decide_eq_true (by omega); clear c2; obtain rfl := Option.some.inj H; go_enter Tryz.func4, Tryz.ntmps4; go_wp2; go_ret; exact ⟨Ze, Bb0 HB.out⟩
 ·rw [if_neg c2] at H
  have c2b0 := decide_eq_false c2; have c2b1 : decide (1048576 < a0.size) = false := decide_eq_false (by omega); clear c2; obtain ⟨⟨t71, t87, t77, t405⟩, A3, H⟩ := Ob H; (try dsimp only at H)
  obtain ⟨⟨t72, t83, t76, t414⟩, A4, H⟩ := Ob H; (try dsimp only at H)
  have HC5 := Qa H; clear H; go_enter Tryz.func4, Tryz.ntmps4; go_upto_region 5 with (first | ((with_reducible refine Qd (f := 11) rfl ?_); refine Gl 16 Tryz.func11 #[.string a0] ?_; (with_reducible refine (spec_ParseProgram.calls k a0 t71 t87 t77 t405 _ A3.out).mono ?_); rintro e w6 ⟨v399, v403, rfl, ho0, ho1, hb⟩; refine ⟨_, rfl, ?_⟩; have HO81 := Lw ho0 (Bb0 HB.out); have HO82 := Lw ho1 (Bb0 HB.out); replace HB := Sb (Bb0 HB.out) hb; clear hb; (try clear ho0); (try clear ho1)) | ((with_reducible refine Ql (N := 3) rfl ?_); refine Bx (N := 3) (cs := #[.slice none 0 0, .int .i64 0, .slice none 0 0]) (t := 30) ?_; intro gb69 hg w7 hbox hb; replace HO81 := Rb HO81 hb; replace HO82 := Rb HO82 hb; have BK69 := Qa (hbox); have GW69 := Gs (w := w) hg (Bb0 HB.out); have GE69 := GW69; replace HB := Sb (Bb0 HB.out) hb; clear hb hbox hg; obtain ⟨Ao8, co8, eo8⟩ := Qr HO81.out; subst eo8; obtain ⟨q9_0, q9_1, q9_2, u9_0, u9_1, u9_2⟩ := Cf3 BK69; obtain ⟨Ao10, co10, eo10⟩ := Qr HO82.out; subst eo10) | ((with_reducible refine Qd (f := 12) rfl ?_); refine Gl 21 Tryz.func12 #[.string a0] ?_; (with_reducible refine (impl_ParseProgram.calls k a0 t72 t83 t76 t414 _ ?side1 ?side2 ?side3 A4.out).mono ?_); (case side1 => exact Wl1 W_LaidE.out HB.out GE69.out); (case side2 => exact Wl1 W_LaidI.out HB.out GE69.out); (case side3 => exact Wl1 W_LaidS.out HB.out GE69.out); rintro e w11 ⟨v408, v412, rfl, ho0, ho1, hb⟩; refine ⟨_, rfl, ?_⟩; have HO88 := Qa (Kd.R_lower (Kd.R_new' ho0 (Kd.R_lt (Rv (Qh HO81.out BK69.out (by decide))))) (below_size (Bb1 HB.out GE69.out))); replace HO81 := Qa (Kd.R_elder' (Rv (Qh HO81.out BK69.out (by decide))) (Kd.R_base ho0) hb); have HO89 := Qa (Kd.R_lower (Kd.R_new' ho1 (Kd.R_lt (Rv (Qh HO82.out BK69.out (by decide))))) (below_size (Bb1 HB.out GE69.out))); replace HO82 := Qa (Kd.R_elder' (Rv (Qh HO82.out BK69.out (by decide))) (Kd.R_base ho1) hb); replace BK69 := Kx0 (.cells #[.slice Ao8 t71.length co8, .int .i64 t87, .slice Ao10 t77.length co10] 30 (0, 0)) BK69 hb; replace HB := Sb (Bb1 HB.out GE69.out) hb; clear hb; (try clear ho0); (try clear ho1)) | ((with_reducible refine Ql (N := 5) rfl ?_); refine Bx (N := 5) (cs := #[.slice none 0 0, .int .i64 0, .slice none 0 0]) (t := 30) ?_; intro gb68 hg w12 hbox hb; replace HO81 := Rb HO81 hb; replace HO82 := Rb HO82 hb; replace HO88 := Rb HO88 hb; replace HO89 := Rb HO89 hb; have BK68 := Qa (hbox); have GW68 := Gs (w := w) hg (Bb1 HB.out GE69.out); have GE68 := GW68; replace HB := Sb (Bb1 HB.out GE69.out) hb; have NB69_68 := Nl hg BK69; have NB68_69 := Ng hg BK69; replace BK69 := Kb BK69 hb; clear hb hbox hg; obtain ⟨Ao13, co13, eo13⟩ := Qr HO88.out; subst eo13; have hnb14 := NB68_69.out; have hnc14 := NB69_68.out; obtain ⟨q15_0, q15_1, q15_2, u15_0, u15_1, u15_2⟩ := Cf3 BK68; obtain ⟨Ao16, co16, eo16⟩ := Qr HO89.out; subst eo16))
  (try simp only [Act.put, List.setIfInBounds_toArray, List.set_cons_zero, List.set_cons_succ])
  go_cut [32] (fun v32 wc => ∃ (kq : Nat) (x32_4 : Bool), v32 = .bool x32_4 ∧ Qe (laws_FnExactParseProgram.j0 kq a0 t405 x32_4 t71 t87 t77 t72 t83 t76 = some r) ∧ Qe (kq ≤ k) ∧ Qe (Kd.R Qf 9 wc w.heap.size (fun k_ => some k_ ≠ ((.slice Ao13 t72.length co13) : Qx).ownBlock) (.slice Ao8 t71.length co8) t71) ∧ Qe (Kd.R k52 52 wc w.heap.size (fun k_ => some k_ ≠ ((.slice Ao16 t76.length co16) : Qx).ownBlock) (.slice Ao10 t77.length co10) t77) ∧ Qe (Kd.R Qf 9 wc w.heap.size (fun k_ => some k_ ≠ ((.slice Ao8 t71.length co8) : Qx).ownBlock) (.slice Ao13 t72.length co13) t72) ∧ Qe (Kd.R k52 52 wc w.heap.size (fun k_ => some k_ ≠ ((.slice Ao10 t77.length co10) : Qx).ownBlock) (.slice Ao16 t76.length co16) t76) ∧ Qe (wc.heap[gb69]? = some (.cells #[(.slice Ao8 t71.length co8), .int .i64 t87, (.slice Ao10 t77.length co10)] 30 (0, 0))) ∧ Qe (wc.heap[gb68]? = some (.cells #[(.slice Ao13 t72.length co13), .int .i64 t83, (.slice Ao16 t76.length co16)] 30 (0, 0))) ∧ Qe (Below w.heap.size w wc))
  case first =>
   have H := HC5.out; clear HC5; obtain ⟨t99, A17, H⟩ := Ob H; (try dsimp only at H)
   by_cases c18 : t99 = true
   ·subst c18; rw [if_pos rfl] at H; have H' := Qa H; clear H; have hnb19 := NB68_69.out; have hnc19 := NB69_68.out; obtain ⟨q20_0, q20_1, q20_2, u20_0, u20_1, u20_2⟩ := Cf3 BK68; obtain ⟨q21_0, q21_1, q21_2, u21_0, u21_1, u21_2⟩ := Cf3 BK69; go_wp2_with (first | ((with_reducible refine Qd (f := 10) rfl ?_); refine Gl 26 Tryz.func10 #[.agg #[.slice Ao13 t72.length co13, .int .i64 t83, .slice Ao16 t76.length co16], .agg #[.slice Ao8 t71.length co8, .int .i64 t87, .slice Ao10 t77.length co10]] ?_; (with_reducible refine (laws_eqProgram.calls k _ _ t72 t83 _ _ t76 _ _ t71 t87 _ _ t77 true _ ?side1 ?side2 ?side3 ?side4 ?side5 ?side6 ?side7 ?side8 A17.out).mono ?_); (case side1 => refine (Qc (e := 9) (base := w.heap.size) (ok := fun k_ => (True ∧ some k_ ≠ (.slice Ao8 t71.length co8 : Qx).ownBlock)) (n := t72.length) (c := co13) ?_).2.2; exact (Rv (Qh HO88.out BK68.out (by decide)))); (case side2 => exact (Qc HO88.out).2.1); (case side3 => refine (Qc (e := 52) (base := w.heap.size) (ok := fun k_ => (True ∧ some k_ ≠ (.slice Ao10 t77.length co10 : Qx).ownBlock)) (n := t76.length) (c := co16) ?_).2.2; exact (Rv (Qh HO89.out BK68.out (by decide)))); (case side4 => exact (Qc HO89.out).2.1); (case side5 => refine (Qc (e := 9) (base := w.heap.size) (ok := fun k_ => (True ∧ some k_ ≠ (.slice Ao13 t72.length co13 : Qx).ownBlock)) (n := t71.length) (c := co8) ?_).2.2; exact (Rv (Qh HO81.out BK68.out (by decide)))); (case side6 => exact (Qc HO81.out).2.1); (case side7 => refine (Qc (e := 52) (base := w.heap.size) (ok := fun k_ => (True ∧ some k_ ≠ (.slice Ao16 t76.length co16 : Qx).ownBlock)) (n := t77.length) (c := co10) ?_).2.2; exact (Rv (Qh HO82.out BK68.out (by decide)))); (case side8 => exact (Qc HO82.out).2.1); rintro e w22 ⟨rfl, hb⟩; refine ⟨_, rfl, ?_⟩; replace HO81 := Qa (Qw (Rv (Qh HO81.out BK68.out (by decide))) hb); replace HO82 := Qa (Qw (Rv (Qh HO82.out BK68.out (by decide))) hb); replace HO88 := Qa (Qw (Rv (Qh HO88.out BK68.out (by decide))) hb); replace HO89 := Qa (Qw (Rv (Qh HO89.out BK68.out (by decide))) hb); replace BK69 := Kf BK69 NB69_68.out hb; replace BK68 := Kx0 (.cells #[.slice Ao13 t72.length co13, .int .i64 t83, .slice Ao16 t76.length co16] 30 (0, 0)) BK68 hb; replace HB := Sb (Bb2 HB.out GE69.out GE68.out) hb; clear hb)); go_meet
    case rel => exact ⟨_, ((t414 != t405)), Zf, H', ⟨by first | omega | exact Nat.le_refl _⟩, ⟨Rs HO81.out⟩, ⟨Rs HO82.out⟩, ⟨Rs HO88.out⟩, ⟨Rs HO89.out⟩, ⟨Ba BK69.out⟩, ⟨Ba BK68.out⟩, ⟨Bb2 HB.out GE69.out GE68.out⟩⟩
   ·replace c18 := Bool.eq_false_iff.mpr c18; subst c18; rw [if_neg (show ¬ (false = true) by decide)] at H; have H' := Qa H; clear H; have hnb23 := NB68_69.out; have hnc23 := NB69_68.out; obtain ⟨q24_0, q24_1, q24_2, u24_0, u24_1, u24_2⟩ := Cf3 BK68; obtain ⟨q25_0, q25_1, q25_2, u25_0, u25_1, u25_2⟩ := Cf3 BK69; go_wp2_with (first | ((with_reducible refine Qd (f := 10) rfl ?_); refine Gl 26 Tryz.func10 #[.agg #[.slice Ao13 t72.length co13, .int .i64 t83, .slice Ao16 t76.length co16], .agg #[.slice Ao8 t71.length co8, .int .i64 t87, .slice Ao10 t77.length co10]] ?_; (with_reducible refine (laws_eqProgram.calls k _ _ t72 t83 _ _ t76 _ _ t71 t87 _ _ t77 false _ ?side1 ?side2 ?side3 ?side4 ?side5 ?side6 ?side7 ?side8 A17.out).mono ?_); (case side1 => refine (Qc (e := 9) (base := w.heap.size) (ok := fun k_ => (True ∧ some k_ ≠ (.slice Ao8 t71.length co8 : Qx).ownBlock)) (n := t72.length) (c := co13) ?_).2.2; exact (Rv (Qh HO88.out BK68.out (by decide)))); (case side2 => exact (Qc HO88.out).2.1); (case side3 => refine (Qc (e := 52) (base := w.heap.size) (ok := fun k_ => (True ∧ some k_ ≠ (.slice Ao10 t77.length co10 : Qx).ownBlock)) (n := t76.length) (c := co16) ?_).2.2; exact (Rv (Qh HO89.out BK68.out (by decide)))); (case side4 => exact (Qc HO89.out).2.1); (case side5 => refine (Qc (e := 9) (base := w.heap.size) (ok := fun k_ => (True ∧ some k_ ≠ (.slice Ao13 t72.length co13 : Qx).ownBlock)) (n := t71.length) (c := co8) ?_).2.2; exact (Rv (Qh HO81.out BK68.out (by decide)))); (case side6 => exact (Qc HO81.out).2.1); (case side7 => refine (Qc (e := 52) (base := w.heap.size) (ok := fun k_ => (True ∧ some k_ ≠ (.slice Ao16 t76.length co16 : Qx).ownBlock)) (n := t77.length) (c := co10) ?_).2.2; exact (Rv (Qh HO82.out BK68.out (by decide)))); (case side8 => exact (Qc HO82.out).2.1); rintro e w26 ⟨rfl, hb⟩; refine ⟨_, rfl, ?_⟩; replace HO81 := Qa (Qw (Rv (Qh HO81.out BK68.out (by decide))) hb); replace HO82 := Qa (Qw (Rv (Qh HO82.out BK68.out (by decide))) hb); replace HO88 := Qa (Qw (Rv (Qh HO88.out BK68.out (by decide))) hb); replace HO89 := Qa (Qw (Rv (Qh HO89.out BK68.out (by decide))) hb); replace BK69 := Kf BK69 NB69_68.out hb; replace BK68 := Kx0 (.cells #[.slice Ao13 t72.length co13, .int .i64 t83, .slice Ao16 t76.length co16] 30 (0, 0)) BK68 hb; replace HB := Sb (Bb2 HB.out GE69.out GE68.out) hb; clear hb)); go_meet
    case rel => exact ⟨_, (true), Zf, H', ⟨by first | omega | exact Nat.le_refl _⟩, ⟨Rs HO81.out⟩, ⟨Rs HO82.out⟩, ⟨Rs HO88.out⟩, ⟨Rs HO89.out⟩, ⟨Ba BK69.out⟩, ⟨Ba BK68.out⟩, ⟨Bb2 HB.out GE69.out GE68.out⟩⟩
  case rest =>
   clear HC5; (try clear c1)
   (try clear c2)
   (try clear c2b0)
   (try clear c2b1)
   (try clear p2)
   (try clear c4)
   (try clear c10)
   (try clear c11)
   (try clear c12)
   (try clear c14)
   (try clear c18)
   (try clear c19)
   (try clear c23)
   (try clear q15_0)
   (try clear q15_1)
   (try clear q15_2)
   (try clear q20_0)
   (try clear q20_1)
   (try clear q20_2)
   (try clear q21_0)
   (try clear q21_1)
   (try clear q21_2)
   (try clear q24_0)
   (try clear q24_1)
   (try clear q24_2)
   (try clear q25_0)
   (try clear q25_1)
   (try clear q25_2)
   (try clear q9_0)
   (try clear q9_1)
   (try clear q9_2)
   (try clear u15_0)
   (try clear u15_1)
   (try clear u15_2)
   (try clear u20_0)
   (try clear u20_1)
   (try clear u20_2)
   (try clear u21_0)
   (try clear u21_1)
   (try clear u21_2)
   (try clear u24_0)
   (try clear u24_1)
   (try clear u24_2)
   (try clear u25_0)
   (try clear u25_1)
   (try clear u25_2)
   (try clear u9_0)
   (try clear u9_1)
   (try clear u9_2)
   obtain ⟨kq, x32_4, rfl, HA, HJ4, HO_78, HO_79, HO_74, HO_75, BK69, BK68, HB⟩ := hcut; cases kq with
   | zero => exact absurd HA.out (by simp [laws_FnExactParseProgram.j0])
   | succ kj4 =>
    have H := HA.out; clear HA; simp only [laws_FnExactParseProgram.j0] at H; by_cases c27 : x32_4 = true
    ·subst c27; rw [if_pos rfl] at H; obtain rfl := Option.some.inj H; exact absurd hrt.out (by decide)
    ·replace c27 := Bool.eq_false_iff.mpr c27; subst c27; rw [if_neg (show ¬ (false = true) by decide)] at H; obtain ⟨⟨t86, t93, t94⟩, A28, H⟩ := Ob H; (try dsimp only at H)
     obtain ⟨t97, A29, H⟩ := Ob H; (try dsimp only at H)
     by_cases c30 : t97 < 0
     ·rw [if_pos c30] at H; replace c30 := decide_eq_true c30; obtain rfl := Option.some.inj H; exact absurd hrt.out (by decide)
     ·rw [if_neg c30] at H; replace c30 := decide_eq_false c30; by_cases c31 : t97 = t86
      ·rw [if_pos c31] at H; have c31b0 := beq_iff_eq.mpr c31; have c31b1 := bne_eq_false_iff_eq.mpr c31; clear c31; obtain ⟨⟨t80, t95, t84, t428⟩, A32, H⟩ := Ob H; (try dsimp only at H)
       have HC33 := Qa H; clear H; have hnb34 := NB68_69.out; have hnc34 := NB69_68.out; obtain ⟨q35_0, q35_1, q35_2, u35_0, u35_1, u35_2⟩ := Cf3 BK68; go_upto_region 16 with (first | ((with_reducible refine Qd (f := 13) rfl ?_); refine Gl 35 Tryz.func13 #[.agg #[.slice Ao13 t72.length co13, .int .i64 t83, .slice Ao16 t76.length co16], .int .i64 1] ?_; (with_reducible refine (laws_markProgram.calls kj4 (fun k_ => some k_ = (.slice Ao13 t72.length co13 : Qx).ownBlock) (.slice Ao13 t72.length co13) t72 t83 (fun k_ => some k_ = (.slice Ao16 t76.length co16 : Qx).ownBlock) (.slice Ao16 t76.length co16) t76 1 t86 t93 t94 w _ ?side1 ?side2 ?side3 A28.out).mono ?_); (case side1 => exact Bb2 HB.out GE69.out GE68.out); (case side2 => exact Kd.R_tight rfl HO_74.out); (case side3 => exact Kd.R_tight rfl HO_75.out); rintro e w36 ⟨rfl, hy0, hy1, hb, hkp⟩; refine ⟨_, rfl, ?_⟩; replace HO_78 := Qa (Kd.R_mono (ok' := fun k_ => some k_ ≠ (.slice Ao13 t72.length co13 : Qx).ownBlock) (Kd.R_keptB ((Kd.R_apart' HO_78.out (Kd.R_typed HO_75.out) (by decide))) hkp (fun k_ hk_ hs_ => Or.elim hs_ (fun e_ => (hk_.1) e_) (fun e_ => (hk_.2) e_))) (fun k_ hk_ => hk_.1.1)); replace HO_79 := Qa (Kd.R_mono (ok' := fun k_ => some k_ ≠ (.slice Ao16 t76.length co16 : Qx).ownBlock) (Kd.R_keptB ((Kd.R_apart' HO_79.out (Kd.R_typed HO_74.out) (by decide))) hkp (fun k_ hk_ hs_ => Or.elim hs_ (fun e_ => (hk_.2) e_) (fun e_ => (hk_.1) e_))) (fun k_ hk_ => hk_.1.1)); replace BK69 := Qa (blk_kept (Ba BK69.out) hkp (fun hs_ => Or.elim hs_ (fun e_ => (fun e_ => (Qp HO_74.out BK69.out (by decide)) e_) e_) (fun e_ => (fun e_ => (Qp HO_75.out BK69.out (by decide)) e_) e_))); replace BK68 := Qa (blk_kept (Ba BK68.out) hkp (fun hs_ => Or.elim hs_ (fun e_ => (fun e_ => (Qp HO_74.out BK68.out (by decide)) e_) e_) (fun e_ => (fun e_ => (Qp HO_75.out BK68.out (by decide)) e_) e_))); replace HO_74 := Qa (Kd.R_reok rfl hy0 (fun k_ e_ => HO_74.out.1 k_ e_)); replace HO_75 := Qa (Kd.R_reok rfl hy1 (fun k_ e_ => HO_75.out.1 k_ e_)); replace HB := Qa (hb); (try clear hb); (try clear hkp); (try clear hy0); (try clear hy1); obtain ⟨q37_0, q37_1, q37_2, u37_0, u37_1, u37_2⟩ := Cf3 BK68) | ((with_reducible refine Qd (f := 14) rfl ?_); refine goesL_ (some 38) rfl rfl Tryz.func14 (by kernel_rfl) rfl #[.agg #[.slice Ao13 t93.length co13, .int .i64 t83, .slice Ao16 t94.length co16], .int .i64 1] rfl (by (try simp only [List.map_toArray, List.map_cons, List.map_nil]); first | done | (rw [show t93.length = t72.length from (Qc HO_74.out).1.symm, show t94.length = t76.length from (Qc HO_75.out).1.symm] <;> rfl) | rfl | (simp only [List.length_drop, List.length_take]; rfl)) ?_; (with_reducible refine (laws_heldProgram.calls kj4 _ _ t93 t83 _ _ t94 1 t97 _ ?side1 ?side2 ?side3 ?side4 A29.out).mono ?_); (case side1 => exact Bc (Qc HO_74.out).2.2); (case side2 => rw [show t93.length = t72.length from (Qc HO_74.out).1.symm]; exact (Qc HO_74.out).2.1); (case side3 => exact Bc (Qc HO_75.out).2.2); (case side4 => rw [show t94.length = t76.length from (Qc HO_75.out).1.symm]; exact (Qc HO_75.out).2.1); rintro e w38 ⟨rfl, hb⟩; refine ⟨_, rfl, ?_⟩; replace HO_78 := Rb HO_78 hb; replace HO_79 := Rb HO_79 hb; replace HO_74 := Rb HO_74 hb; replace HO_75 := Rb HO_75 hb; replace BK69 := Kb BK69 hb; replace BK68 := Kb BK68 hb; replace HB := Sb (Bb2 HB.out GE69.out GE68.out) hb; clear hb) | ((with_reducible refine Qd (f := 12) rfl ?_); refine Gl 46 Tryz.func12 #[.string a0] ?_; (with_reducible refine (impl_ParseProgram.calls kj4 a0 t80 t95 t84 t428 _ ?side1 ?side2 ?side3 A32.out).mono ?_); (case side1 => exact Wl2 W_LaidE.out HB.out GE69.out GE68.out); (case side2 => exact Wl2 W_LaidI.out HB.out GE69.out GE68.out); (case side3 => exact Wl2 W_LaidS.out HB.out GE69.out GE68.out); rintro e w39 ⟨v422, v426, rfl, ho0, ho1, hb⟩; refine ⟨_, rfl, ?_⟩; have HO90 := Qa (Kd.R_lower (Kd.R_new' (Kd.R_new' ho0 (Kd.R_lt (Br HO_78.out))) (Kd.R_lt (Br HO_74.out))) (below_size (Bb2 HB.out GE69.out GE68.out))); replace HO_78 := Ke HO_78 hb ho0; replace HO_74 := Ke HO_74 hb ho0; have HO91 := Qa (Kd.R_lower (Kd.R_new' (Kd.R_new' ho1 (Kd.R_lt (Br HO_79.out))) (Kd.R_lt (Br HO_75.out))) (below_size (Bb2 HB.out GE69.out GE68.out))); replace HO_79 := Ke HO_79 hb ho1; replace HO_75 := Ke HO_75 hb ho1; replace BK69 := Kb BK69 hb; replace BK68 := Kb BK68 hb; replace HB := Sb (Bb2 HB.out GE69.out GE68.out) hb; clear hb; (try clear ho0); (try clear ho1)) | ((with_reducible refine Ql (N := 9) rfl ?_); refine Bx (N := 9) (cs := #[.slice none 0 0, .int .i64 0, .slice none 0 0]) (t := 30) ?_; intro gb70 hg w40 hbox hb; replace HO_78 := Rb HO_78 hb; replace HO_79 := Rb HO_79 hb; replace HO_74 := Rb HO_74 hb; replace HO_75 := Rb HO_75 hb; replace HO90 := Rb HO90 hb; replace HO91 := Rb HO91 hb; have BK70 := Qa (hbox); have GW70 := Gs (w := w) hg (Bb2 HB.out GE69.out GE68.out); have GE70 := GW70; replace HB := Sb (Bb2 HB.out GE69.out GE68.out) hb; have NB69_70 := Nl hg BK69; have NB70_69 := Ng hg BK69; replace BK69 := Kb BK69 hb; have NB68_70 := Nl hg BK68; have NB70_68 := Ng hg BK68; replace BK68 := Kb BK68 hb; clear hb hbox hg; obtain ⟨Ao41, co41, eo41⟩ := Qr HO90.out; subst eo41; have hnb42 := NB70_69.out; have hnc42 := NB69_70.out; have hnb43 := NB70_68.out; have hnc43 := NB68_70.out; obtain ⟨q44_0, q44_1, q44_2, u44_0, u44_1, u44_2⟩ := Cf3 BK70; obtain ⟨Ao45, co45, eo45⟩ := Qr HO91.out; subst eo45))
       (try simp only [Act.put, List.setIfInBounds_toArray, List.set_cons_zero, List.set_cons_succ])
       go_cut [57] (fun v57 wc => ∃ (kq : Nat) (x57_32 : Bool), v57 = .bool x57_32 ∧ Qe (laws_FnExactParseProgram.j1 kq t86 x57_32 t93 t83 t94 = some r) ∧ Qe (kq ≤ kj4) ∧ Qe (Kd.R Qf 9 wc w.heap.size (fun k_ => some k_ ≠ ((.slice Ao13 t72.length co13) : Qx).ownBlock ∧ some k_ ≠ ((.slice Ao41 t80.length co41) : Qx).ownBlock) (.slice Ao8 t71.length co8) t71) ∧ Qe (Kd.R k52 52 wc w.heap.size (fun k_ => some k_ ≠ ((.slice Ao16 t76.length co16) : Qx).ownBlock ∧ some k_ ≠ ((.slice Ao45 t84.length co45) : Qx).ownBlock) (.slice Ao10 t77.length co10) t77) ∧ Qe (Kd.R Qf 9 wc w.heap.size (fun k_ => some k_ ≠ ((.slice Ao8 t71.length co8) : Qx).ownBlock ∧ some k_ ≠ ((.slice Ao41 t80.length co41) : Qx).ownBlock) (.slice Ao13 t72.length co13) t93) ∧ Qe (Kd.R k52 52 wc w.heap.size (fun k_ => some k_ ≠ ((.slice Ao10 t77.length co10) : Qx).ownBlock ∧ some k_ ≠ ((.slice Ao45 t84.length co45) : Qx).ownBlock) (.slice Ao16 t76.length co16) t94) ∧ Qe (Kd.R Qf 9 wc w.heap.size (fun k_ => some k_ ≠ ((.slice Ao8 t71.length co8) : Qx).ownBlock ∧ some k_ ≠ ((.slice Ao13 t72.length co13) : Qx).ownBlock) (.slice Ao41 t80.length co41) t80) ∧ Qe (Kd.R k52 52 wc w.heap.size (fun k_ => some k_ ≠ ((.slice Ao10 t77.length co10) : Qx).ownBlock ∧ some k_ ≠ ((.slice Ao16 t76.length co16) : Qx).ownBlock) (.slice Ao45 t84.length co45) t84) ∧ Qe (wc.heap[gb69]? = some (.cells #[(.slice Ao8 t71.length co8), .int .i64 t87, (.slice Ao10 t77.length co10)] 30 (0, 0))) ∧ Qe (wc.heap[gb68]? = some (.cells #[(.slice Ao13 t72.length co13), .int .i64 t83, (.slice Ao16 t76.length co16)] 30 (0, 0))) ∧ Qe (wc.heap[gb70]? = some (.cells #[(.slice Ao41 t80.length co41), .int .i64 t95, (.slice Ao45 t84.length co45)] 30 (0, 0))) ∧ Qe (Below w.heap.size w wc))
       case first =>
        have H := HC33.out; clear HC33; obtain ⟨t430, A46, H⟩ := Ob H; (try dsimp only at H)
        by_cases c47 : t430 = true
        ·subst c47; rw [if_pos rfl] at H; have H' := Qa H; clear H; have hnb48 := NB70_69.out; have hnc48 := NB69_70.out; have hnb49 := NB70_68.out; have hnc49 := NB68_70.out; obtain ⟨q50_0, q50_1, q50_2, u50_0, u50_1, u50_2⟩ := Cf3 BK70; have hnb51 := NB69_68.out; have hnc51 := NB68_69.out; obtain ⟨q52_0, q52_1, q52_2, u52_0, u52_1, u52_2⟩ := Cf3 BK69; go_wp2_with (first | ((with_reducible refine Qd (f := 10) rfl ?_); refine Gl 51 Tryz.func10 #[.agg #[.slice Ao41 t80.length co41, .int .i64 t95, .slice Ao45 t84.length co45], .agg #[.slice Ao8 t71.length co8, .int .i64 t87, .slice Ao10 t77.length co10]] ?_; (with_reducible refine (laws_eqProgram.calls kj4 _ _ t80 t95 _ _ t84 _ _ t71 t87 _ _ t77 true _ ?side1 ?side2 ?side3 ?side4 ?side5 ?side6 ?side7 ?side8 A46.out).mono ?_); (case side1 => refine (Qc (e := 9) (base := w.heap.size) (ok := fun k_ => ((True ∧ some k_ ≠ (.slice Ao8 t71.length co8 : Qx).ownBlock) ∧ some k_ ≠ (.slice Ao13 t72.length co13 : Qx).ownBlock)) (n := t80.length) (c := co41) ?_).2.2; exact (Rv (Qh HO90.out BK70.out (by decide)))); (case side2 => exact (Qc HO90.out).2.1); (case side3 => refine (Qc (e := 52) (base := w.heap.size) (ok := fun k_ => ((True ∧ some k_ ≠ (.slice Ao10 t77.length co10 : Qx).ownBlock) ∧ some k_ ≠ (.slice Ao16 t76.length co16 : Qx).ownBlock)) (n := t84.length) (c := co45) ?_).2.2; exact (Rv (Qh HO91.out BK70.out (by decide)))); (case side4 => exact (Qc HO91.out).2.1); (case side5 => refine (Qc (e := 9) (base := w.heap.size) (ok := fun k_ => (some k_ ≠ (.slice Ao13 t72.length co13 : Qx).ownBlock ∧ some k_ ≠ (.slice Ao41 t80.length co41 : Qx).ownBlock)) (n := t71.length) (c := co8) ?_).2.2; exact (Rv (Qh HO_78.out BK70.out (by decide)))); (case side6 => exact (Qc HO_78.out).2.1); (case side7 => refine (Qc (e := 52) (base := w.heap.size) (ok := fun k_ => (some k_ ≠ (.slice Ao16 t76.length co16 : Qx).ownBlock ∧ some k_ ≠ (.slice Ao45 t84.length co45 : Qx).ownBlock)) (n := t77.length) (c := co10) ?_).2.2; exact (Rv (Qh HO_79.out BK70.out (by decide)))); (case side8 => exact (Qc HO_79.out).2.1); rintro e w53 ⟨rfl, hb⟩; refine ⟨_, rfl, ?_⟩; replace HO_78 := Qa (Qw (Rv (Qh HO_78.out BK70.out (by decide))) hb); replace HO_79 := Qa (Qw (Rv (Qh HO_79.out BK70.out (by decide))) hb); replace HO_74 := Qa (Qw (Rv (Qh HO_74.out BK70.out (by decide))) hb); replace HO_75 := Qa (Qw (Rv (Qh HO_75.out BK70.out (by decide))) hb); replace HO90 := Qa (Qw (Rv (Qh HO90.out BK70.out (by decide))) hb); replace HO91 := Qa (Qw (Rv (Qh HO91.out BK70.out (by decide))) hb); replace BK69 := Kf BK69 NB69_70.out hb; replace BK68 := Kf BK68 NB68_70.out hb; replace BK70 := Kx0 (.cells #[.slice Ao41 t80.length co41, .int .i64 t95, .slice Ao45 t84.length co45] 30 (0, 0)) BK70 hb; replace HB := Sb (Bb3 HB.out GE69.out GE68.out GE70.out) hb; clear hb)); go_meet
         case rel => exact ⟨_, ((t428 != t405)), Zf, H', ⟨by have := HJ4.out; first | omega | exact Nat.le_refl _⟩, ⟨Br HO_78.out⟩, ⟨Br HO_79.out⟩, ⟨Br HO_74.out⟩, ⟨Br HO_75.out⟩, ⟨Rs HO90.out⟩, ⟨Rs HO91.out⟩, ⟨Ba BK69.out⟩, ⟨Ba BK68.out⟩, ⟨Ba BK70.out⟩, ⟨Bb3 HB.out GE69.out GE68.out GE70.out⟩⟩
        ·replace c47 := Bool.eq_false_iff.mpr c47; subst c47; rw [if_neg (show ¬ (false = true) by decide)] at H; have H' := Qa H; clear H; have hnb54 := NB70_69.out; have hnc54 := NB69_70.out; have hnb55 := NB70_68.out; have hnc55 := NB68_70.out; obtain ⟨q56_0, q56_1, q56_2, u56_0, u56_1, u56_2⟩ := Cf3 BK70; have hnb57 := NB69_68.out; have hnc57 := NB68_69.out; obtain ⟨q58_0, q58_1, q58_2, u58_0, u58_1, u58_2⟩ := Cf3 BK69; go_wp2_with (first | ((with_reducible refine Qd (f := 10) rfl ?_); refine Gl 51 Tryz.func10 #[.agg #[.slice Ao41 t80.length co41, .int .i64 t95, .slice Ao45 t84.length co45], .agg #[.slice Ao8 t71.length co8, .int .i64 t87, .slice Ao10 t77.length co10]] ?_; (with_reducible refine (laws_eqProgram.calls kj4 _ _ t80 t95 _ _ t84 _ _ t71 t87 _ _ t77 false _ ?side1 ?side2 ?side3 ?side4 ?side5 ?side6 ?side7 ?side8 A46.out).mono ?_); (case side1 => refine (Qc (e := 9) (base := w.heap.size) (ok := fun k_ => ((True ∧ some k_ ≠ (.slice Ao8 t71.length co8 : Qx).ownBlock) ∧ some k_ ≠ (.slice Ao13 t72.length co13 : Qx).ownBlock)) (n := t80.length) (c := co41) ?_).2.2; exact (Rv (Qh HO90.out BK70.out (by decide)))); (case side2 => exact (Qc HO90.out).2.1); (case side3 => refine (Qc (e := 52) (base := w.heap.size) (ok := fun k_ => ((True ∧ some k_ ≠ (.slice Ao10 t77.length co10 : Qx).ownBlock) ∧ some k_ ≠ (.slice Ao16 t76.length co16 : Qx).ownBlock)) (n := t84.length) (c := co45) ?_).2.2; exact (Rv (Qh HO91.out BK70.out (by decide)))); (case side4 => exact (Qc HO91.out).2.1); (case side5 => refine (Qc (e := 9) (base := w.heap.size) (ok := fun k_ => (some k_ ≠ (.slice Ao13 t72.length co13 : Qx).ownBlock ∧ some k_ ≠ (.slice Ao41 t80.length co41 : Qx).ownBlock)) (n := t71.length) (c := co8) ?_).2.2; exact (Rv (Qh HO_78.out BK70.out (by decide)))); (case side6 => exact (Qc HO_78.out).2.1); (case side7 => refine (Qc (e := 52) (base := w.heap.size) (ok := fun k_ => (some k_ ≠ (.slice Ao16 t76.length co16 : Qx).ownBlock ∧ some k_ ≠ (.slice Ao45 t84.length co45 : Qx).ownBlock)) (n := t77.length) (c := co10) ?_).2.2; exact (Rv (Qh HO_79.out BK70.out (by decide)))); (case side8 => exact (Qc HO_79.out).2.1); rintro e w59 ⟨rfl, hb⟩; refine ⟨_, rfl, ?_⟩; replace HO_78 := Qa (Qw (Rv (Qh HO_78.out BK70.out (by decide))) hb); replace HO_79 := Qa (Qw (Rv (Qh HO_79.out BK70.out (by decide))) hb); replace HO_74 := Qa (Qw (Rv (Qh HO_74.out BK70.out (by decide))) hb); replace HO_75 := Qa (Qw (Rv (Qh HO_75.out BK70.out (by decide))) hb); replace HO90 := Qa (Qw (Rv (Qh HO90.out BK70.out (by decide))) hb); replace HO91 := Qa (Qw (Rv (Qh HO91.out BK70.out (by decide))) hb); replace BK69 := Kf BK69 NB69_70.out hb; replace BK68 := Kf BK68 NB68_70.out hb; replace BK70 := Kx0 (.cells #[.slice Ao41 t80.length co41, .int .i64 t95, .slice Ao45 t84.length co45] 30 (0, 0)) BK70 hb; replace HB := Sb (Bb3 HB.out GE69.out GE68.out GE70.out) hb; clear hb)); go_meet
         case rel => exact ⟨_, (true), Zf, H', ⟨by have := HJ4.out; first | omega | exact Nat.le_refl _⟩, ⟨Br HO_78.out⟩, ⟨Br HO_79.out⟩, ⟨Br HO_74.out⟩, ⟨Br HO_75.out⟩, ⟨Rs HO90.out⟩, ⟨Rs HO91.out⟩, ⟨Ba BK69.out⟩, ⟨Ba BK68.out⟩, ⟨Ba BK70.out⟩, ⟨Bb3 HB.out GE69.out GE68.out GE70.out⟩⟩
       case rest =>
        clear HC33; (try clear c1)
        (try clear c2)
        (try clear c2b0)
        (try clear c2b1)
        (try clear p2)
        (try clear c3)
        (try clear c4)
        (try clear c5)
        (try clear c10)
        (try clear c11)
        (try clear c12)
        (try clear c13)
        (try clear c14)
        (try clear c18)
        (try clear c19)
        (try clear c23)
        (try clear c27)
        (try clear c30)
        (try clear c30)
        (try clear c31)
        (try clear c31b0)
        (try clear c31b1)
        (try clear c34)
        (try clear c42)
        (try clear c43)
        (try clear c47)
        (try clear c48)
        (try clear c49)
        (try clear c51)
        (try clear c54)
        (try clear c55)
        (try clear c57)
        (try clear q15_0)
        (try clear q15_1)
        (try clear q15_2)
        (try clear q20_0)
        (try clear q20_1)
        (try clear q20_2)
        (try clear q21_0)
        (try clear q21_1)
        (try clear q21_2)
        (try clear q24_0)
        (try clear q24_1)
        (try clear q24_2)
        (try clear q25_0)
        (try clear q25_1)
        (try clear q25_2)
        (try clear q35_0)
        (try clear q35_1)
        (try clear q35_2)
        (try clear q37_0)
        (try clear q37_1)
        (try clear q37_2)
        (try clear q44_0)
        (try clear q44_1)
        (try clear q44_2)
        (try clear q50_0)
        (try clear q50_1)
        (try clear q50_2)
        (try clear q52_0)
        (try clear q52_1)
        (try clear q52_2)
        (try clear q56_0)
        (try clear q56_1)
        (try clear q56_2)
        (try clear q58_0)
        (try clear q58_1)
        (try clear q58_2)
        (try clear q9_0)
        (try clear q9_1)
        (try clear q9_2)
        (try clear u15_0)
        (try clear u15_1)
        (try clear u15_2)
        (try clear u20_0)
        (try clear u20_1)
        (try clear u20_2)
        (try clear u21_0)
        (try clear u21_1)
        (try clear u21_2)
        (try clear u24_0)
        (try clear u24_1)
        (try clear u24_2)
        (try clear u25_0)
        (try clear u25_1)
        (try clear u25_2)
        (try clear u35_0)
        (try clear u35_1)
        (try clear u35_2)
        (try clear u37_0)
        (try clear u37_1)
        (try clear u37_2)
        (try clear u44_0)
        (try clear u44_1)
        (try clear u44_2)
        (try clear u50_0)
        (try clear u50_1)
        (try clear u50_2)
        (try clear u52_0)
        (try clear u52_1)
        (try clear u52_2)
        (try clear u56_0)
        (try clear u56_1)
        (try clear u56_2)
        (try clear u58_0)
        (try clear u58_1)
        (try clear u58_2)
        (try clear u9_0)
        (try clear u9_1)
        (try clear u9_2)
        (try clear p2)
        obtain ⟨kq, x57_32, rfl, HA, HJ32, HO_78, HO_79, HO_74, HO_75, HO_100, HO_101, BK69, BK68, BK70, HB⟩ := hcut; have hl416000_32 := (Qc HO_74.out).1; rw [hl416000_32] at HO_74; (try simp only [hl416000_32])
        (try simp only [hl416000_32] at BK69)
        (try simp only [hl416000_32] at BK68)
        (try simp only [hl416000_32] at BK70)
        (try simp only [hl416000_32] at HO_78)
        (try simp only [hl416000_32] at HO_79)
        (try simp only [hl416000_32] at HO_75)
        (try simp only [hl416000_32] at HO_100)
        (try simp only [hl416000_32] at HO_101)
        have hl416002_32 := (Qc HO_75.out).1; rw [hl416002_32] at HO_75; (try simp only [hl416002_32])
        (try simp only [hl416002_32] at BK69)
        (try simp only [hl416002_32] at BK68)
        (try simp only [hl416002_32] at BK70)
        (try simp only [hl416002_32] at HO_78)
        (try simp only [hl416002_32] at HO_79)
        (try simp only [hl416002_32] at HO_74)
        (try simp only [hl416002_32] at HO_100)
        (try simp only [hl416002_32] at HO_101)
        cases kq with
        | zero => exact absurd HA.out (by simp [laws_FnExactParseProgram.j1])
        | succ kj32 =>
         have H := HA.out; clear HA; simp only [laws_FnExactParseProgram.j1] at H; by_cases c60 : x57_32 = true
         ·subst c60; rw [if_pos rfl] at H; obtain rfl := Option.some.inj H; exact absurd hrt.out (by decide)
         ·replace c60 := Bool.eq_false_iff.mpr c60; subst c60; rw [if_neg (show ¬ (false = true) by decide)] at H; obtain ⟨t98, A61, H⟩ := Ob H; (try dsimp only at H)
          by_cases c62 : t98 < 0
          ·rw [if_pos c62] at H; replace c62 := decide_eq_true c62; obtain rfl := Option.some.inj H; exact absurd hrt.out (by decide)
          ·rw [if_neg c62] at H; replace c62 := decide_eq_false c62; by_cases c63 : t98 = t86
           ·rw [if_pos c63] at H; have c63b0 := beq_iff_eq.mpr c63; have c63b1 := bne_eq_false_iff_eq.mpr c63; clear c63; obtain rfl := Option.some.inj H; have hnb64 := NB68_69.out; have hnc64 := NB69_68.out; have hnb65 := NB68_70.out; have hnc65 := NB70_68.out; obtain ⟨q66_0, q66_1, q66_2, u66_0, u66_1, u66_2⟩ := Cf3 BK68; go_wp2_with (first | ((with_reducible refine Qd (f := 14) rfl ?_); refine Gl 60 Tryz.func14 #[.agg #[.slice Ao13 t93.length co13, .int .i64 t83, .slice Ao16 t94.length co16], .int .i64 1] ?_; (with_reducible refine (laws_heldProgram.calls kj32 _ _ t93 t83 _ _ t94 1 t98 _ ?side1 ?side2 ?side3 ?side4 A61.out).mono ?_); (case side1 => exact Bc (Qc HO_74.out).2.2); (case side2 => exact (Qc HO_74.out).2.1); (case side3 => exact Bc (Qc HO_75.out).2.2); (case side4 => exact (Qc HO_75.out).2.1); rintro e w67 ⟨rfl, hb⟩; refine ⟨_, rfl, ?_⟩; replace HO_78 := Rb HO_78 hb; replace HO_79 := Rb HO_79 hb; replace HO_74 := Rb HO_74 hb; replace HO_75 := Rb HO_75 hb; replace HO_100 := Rb HO_100 hb; replace HO_101 := Rb HO_101 hb; replace BK69 := Kb BK69 hb; replace BK68 := Kb BK68 hb; replace BK70 := Kb BK70 hb; replace HB := Sb (Bb3 HB.out GE69.out GE68.out GE70.out) hb; clear hb)); go_ret; exact ⟨Ze, Bb3 HB.out GE69.out GE68.out GE70.out⟩
           ·rw [if_neg c63] at H; have c63b0 := beq_eq_false_iff_ne.mpr c63; have c63b1 := bne_iff_ne.mpr c63; obtain rfl := Option.some.inj H; exact absurd hrt.out (by decide)
      ·rw [if_neg c31] at H; have c31b0 := beq_eq_false_iff_ne.mpr c31; have c31b1 := bne_iff_ne.mpr c31; obtain rfl := Option.some.inj H; exact absurd hrt.out (by decide)
def laws_FnExactParseProgram.Pure : Prop := ∀ (a0 : ByteArray), a0.size ≤ maxLen → ∃ k, laws_FnExactParseProgram.f k a0 = some true
end Go.Proofs.YtndkkpjofddfjaaGreatDoor.PFnExactParseProgram
