/- A part of the walk through the printed functions; no condition. -/
import Derived.Test.YtndkkpjofddfjaaGreatDoorXAuto
import Derived.Test.YtndkkpjofddfjaaGreatDoorPFnProgramsx0
import Derived.Test.YtndkkpjofddfjaaGreatDoorPFnProgramsx5
import Derived.Test.YtndkkpjofddfjaaGreatDoorPFnProgramsx12
import Derived.Test.YtndkkpjofddfjaaGreatDoorPFnProgramsx13
import Derived.Test.YtndkkpjofddfjaaGreatDoorPFnProgramsx14
import Derived.Test.YtndkkpjofddfjaaGreatDoorPFnProgramsx16
namespace Go.Proofs.YtndkkpjofddfjaaGreatDoor.PFnPrograms
open Go.RowKit Go.Proofs.YtndkkpjofddfjaaGreatDoorW.PrintWords Go.Proofs.YtndkkpjofddfjaaGreatDoorW.PrintLast Go.Proofs.YtndkkpjofddfjaaGreatDoorW.PrintMore
attribute [local go_sem] max2_int min2_int max_two min_two max_three min_three max_four min_four
set_option maxHeartbeats 32000000
set_option maxRecDepth 100000
attribute [local irreducible] Go.World.setCell
set_option linter.unusedVariables false
set_option linter.unusedSimpArgs false
open Go.Proofs.YtndkkpjofddfjaaGreatDoorW.PrintWords.Aside0 renaming mk → Qa
open Go.Proofs.YtndkkpjofddfjaaGreatDoorW.PrintWords.Kd renaming R_reads' → Qb, R_types → Qd, string → Qe, R_slice → Qj, C_below → Qt, R_mono → Zi, R_alloc → Zr, R_drewN → Zs, int → Zw
open Go.Proofs.YtndkkpjofddfjaaGreatDoorW.PrintWords renaming gate_callee → Qc, Aside0 → Qg, blk_cell → Qh, gate_dst → Qk, cell_far → Qu, below_size → Qw, blk_frozen → Zp
open Go.RowKit renaming wrap64 → Qf, Below → Qz
open Go.Proofs.Tryz renaming underlying30 → Ql, prog → Qo, func64 → Zq
open Go.RowKit.Below renaming refl → Qs
def impl_EqualProgram.f (k : Nat) (l0_0 : List ByteArray) (a0_1 : Int) (l0_2 : List (S52)) (l1_0 : List ByteArray) (a1_1 : Int) (l1_2 : List (S52)) : Option (Bool) := (slices_Equal_string_string.f k l0_0 l1_0).bind fun t60 => (if t60 = true then (if a0_1 = a1_1 then ((impl_Edge.f k l0_2 l1_2).bind fun t61 => (some t61)) else (some false)) else (some false))
theorem impl_EqualProgram.mono : ∀ a0 a1 a2 a3 a4 a5 k, LeO (impl_EqualProgram.f k a0 a1 a2 a3 a4 a5) (impl_EqualProgram.f (k + 1) a0 a1 a2 a3 a4 a5) := by
 intro a0 a1 a2 a3 a4 a5 k
 unfold impl_EqualProgram.f
 exact Lm2 impl_Edge.mono slices_Equal_string_string.mono
theorem impl_EqualProgram.calls (k : Nat) (A0_0 : Option Addr) (c0_0 : Nat) (l0_0 : List ByteArray) (a0_1 : Int) (A0_2 : Option Addr) (c0_2 : Nat) (l0_2 : List (S52)) (A1_0 : Option Addr) (c1_0 : Nat) (l1_0 : List ByteArray) (a1_1 : Int) (A1_2 : Option Addr) (c1_2 : Nat) (l1_2 : List (S52)) (r : Bool) (w : World) (hr0_0 : Kd.C Qe w A0_0 l0_0.length l0_0) (hc0_0 : l0_0.length ≤ c0_0) (hr0_2 : Kd.C k52 w A0_2 l0_2.length l0_2) (hc0_2 : l0_2.length ≤ c0_2) (hr1_0 : Kd.C Qe w A1_0 l1_0.length l1_0) (hc1_0 : l1_0.length ≤ c1_0) (hr1_2 : Kd.C k52 w A1_2 l1_2.length l1_2) (hc1_2 : l1_2.length ≤ c1_2) (h : impl_EqualProgram.f k l0_0 a0_1 l0_2 l1_0 a1_1 l1_2 = some r) :
  Calls Qo 19 #[.agg #[.slice A0_0 l0_0.length c0_0, .int .i64 a0_1, .slice A0_2 l0_2.length c0_2], .agg #[.slice A1_0 l1_0.length c1_0, .int .i64 a1_1, .slice A1_2 l1_2.length c1_2]] w fun e w' => e = .returned (.bool r) ∧ Qz w.heap.size w w' := by
 have hu30 := Ql
 have HR0_0 := Qa hr0_0
 have HC0_0 := Qa hc0_0
 clear hr0_0 hc0_0
 have HR0_2 := Qa hr0_2
 have HC0_2 := Qa hc0_2
 clear hr0_2 hc0_2
 have HR1_0 := Qa hr1_0
 have HC1_0 := Qa hc1_0
 clear hr1_0 hc1_0
 have HR1_2 := Qa hr1_2
 have HC1_2 := Qa hc1_2
 clear hr1_2 hc1_2
 have HB := Qa (Qs w.heap.size w)
 have H : ((slices_Equal_string_string.f k l0_0 l1_0).bind fun t60 => (if t60 = true then (if a0_1 = a1_1 then ((impl_Edge.f k l0_2 l1_2).bind fun t61 => (some t61)) else (some false)) else (some false))) = some r := h
 clear h
 obtain ⟨t60, A3, H⟩ := Ob H
 (try dsimp only at H)
 by_cases c4 : t60 = true
 ·subst c4
  rw [if_pos rfl] at H; by_cases c5 : a0_1 = a1_1
  ·rw [if_pos c5] at H; have c5b0 := beq_iff_eq.mpr c5; have c5b1 := bne_eq_false_iff_eq.mpr c5; clear c5; obtain ⟨t61, A6, H⟩ := Ob H; (try dsimp only at H)
   obtain rfl := Option.some.inj H; go_enter Tryz.func19, Tryz.ntmps19; go_wp2_with (first | ((with_reducible refine Qk (N := 2) rfl ?_); refine Bx (N := 2) (cs := #[.slice A0_0 l0_0.length c0_0, .int .i64 a0_1, .slice A0_2 l0_2.length c0_2]) (t := 30) ?_; intro gb27 hg w7 hbox hb; have BK27 := Qa (hbox); have GW27 := Gs (w := w) hg (Bb0 HB.out); have GE27 := GW27; replace HB := Sb (Bb0 HB.out) hb; clear hb hbox hg) | ((with_reducible refine Qk (N := 3) rfl ?_); refine Bx (N := 3) (cs := #[.slice A1_0 l1_0.length c1_0, .int .i64 a1_1, .slice A1_2 l1_2.length c1_2]) (t := 30) ?_; intro gb33 hg w8 hbox hb; have BK33 := Qa (hbox); have GW33 := Gs (w := w) hg (Bb1 HB.out GE27.out); have GE33 := GW33; replace HB := Sb (Bb1 HB.out GE27.out) hb; have NB27_33 := Nl hg BK27; have NB33_27 := Ng hg BK27; replace BK27 := Kb BK27 hb; clear hb hbox hg; have hnb9 := NB27_33.out; have hnc9 := NB33_27.out; obtain ⟨q10_0, q10_1, q10_2, u10_0, u10_1, u10_2⟩ := Cf3 BK27; obtain ⟨q11_0, q11_1, q11_2, u11_0, u11_1, u11_2⟩ := Cf3 BK33) | ((with_reducible refine Qc (f := 60) rfl ?_); refine Gl 9 Tryz.func60 #[.slice A0_0 l0_0.length c0_0, .slice A1_0 l1_0.length c1_0] ?_; (with_reducible refine (slices_Equal_string_string.calls k _ _ l0_0 _ _ l1_0 true _ ?side1 ?side2 ?side3 ?side4 A3.out).mono ?_); (case side1 => exact Bc (Qt HR0_0.out HB.out)); (case side2 => exact HC0_0.out); (case side3 => exact Bc (Qt HR1_0.out HB.out)); (case side4 => exact HC1_0.out); rintro e w' ⟨rfl, ⟨nd, rfl⟩⟩; refine ⟨_, rfl, ?_⟩) | (go_at_call 61; (with_reducible refine (impl_Edge.calls k _ _ l0_2 _ _ l1_2 t61 _ ?side1 ?side2 ?side3 ?side4 A6.out).mono ?_); (case side1 => exact Bc (Qt HR0_2.out (Bb2 HB.out GE27.out GE33.out))); (case side2 => exact HC0_2.out); (case side3 => exact Bc (Qt HR1_2.out (Bb2 HB.out GE27.out GE33.out))); (case side4 => exact HC1_2.out); rintro e w' ⟨rfl, ⟨nd, rfl⟩⟩)); go_ret; exact ⟨Ze, Bb2 HB.out GE27.out GE33.out⟩
  ·rw [if_neg c5] at H; have c5b0 := beq_eq_false_iff_ne.mpr c5; have c5b1 := bne_iff_ne.mpr c5; obtain rfl := Option.some.inj H; go_enter Tryz.func19, Tryz.ntmps19; go_wp2_with (first | ((with_reducible refine Qk (N := 2) rfl ?_); refine Bx (N := 2) (cs := #[.slice A0_0 l0_0.length c0_0, .int .i64 a0_1, .slice A0_2 l0_2.length c0_2]) (t := 30) ?_; intro gb27 hg w12 hbox hb; have BK27 := Qa (hbox); have GW27 := Gs (w := w) hg (Bb0 HB.out); have GE27 := GW27; replace HB := Sb (Bb0 HB.out) hb; clear hb hbox hg) | ((with_reducible refine Qk (N := 3) rfl ?_); refine Bx (N := 3) (cs := #[.slice A1_0 l1_0.length c1_0, .int .i64 a1_1, .slice A1_2 l1_2.length c1_2]) (t := 30) ?_; intro gb33 hg w13 hbox hb; have BK33 := Qa (hbox); have GW33 := Gs (w := w) hg (Bb1 HB.out GE27.out); have GE33 := GW33; replace HB := Sb (Bb1 HB.out GE27.out) hb; have NB27_33 := Nl hg BK27; have NB33_27 := Ng hg BK27; replace BK27 := Kb BK27 hb; clear hb hbox hg; have hnb14 := NB27_33.out; have hnc14 := NB33_27.out; obtain ⟨q15_0, q15_1, q15_2, u15_0, u15_1, u15_2⟩ := Cf3 BK27; obtain ⟨q16_0, q16_1, q16_2, u16_0, u16_1, u16_2⟩ := Cf3 BK33) | ((with_reducible refine Qc (f := 60) rfl ?_); refine Gl 9 Tryz.func60 #[.slice A0_0 l0_0.length c0_0, .slice A1_0 l1_0.length c1_0] ?_; (with_reducible refine (slices_Equal_string_string.calls k _ _ l0_0 _ _ l1_0 true _ ?side1 ?side2 ?side3 ?side4 A3.out).mono ?_); (case side1 => exact Bc (Qt HR0_0.out HB.out)); (case side2 => exact HC0_0.out); (case side3 => exact Bc (Qt HR1_0.out HB.out)); (case side4 => exact HC1_0.out); rintro e w' ⟨rfl, ⟨nd, rfl⟩⟩; refine ⟨_, rfl, ?_⟩)); go_ret; exact ⟨Ze, Bb2 HB.out GE27.out GE33.out⟩
 ·replace c4 := Bool.eq_false_iff.mpr c4
  subst c4; rw [if_neg (show ¬ (false = true) by decide)] at H; obtain rfl := Option.some.inj H; go_enter Tryz.func19, Tryz.ntmps19; go_wp2_with (first | ((with_reducible refine Qk (N := 2) rfl ?_); refine Bx (N := 2) (cs := #[.slice A0_0 l0_0.length c0_0, .int .i64 a0_1, .slice A0_2 l0_2.length c0_2]) (t := 30) ?_; intro gb27 hg w17 hbox hb; have BK27 := Qa (hbox); have GW27 := Gs (w := w) hg (Bb0 HB.out); have GE27 := GW27; replace HB := Sb (Bb0 HB.out) hb; clear hb hbox hg) | ((with_reducible refine Qk (N := 3) rfl ?_); refine Bx (N := 3) (cs := #[.slice A1_0 l1_0.length c1_0, .int .i64 a1_1, .slice A1_2 l1_2.length c1_2]) (t := 30) ?_; intro gb33 hg w18 hbox hb; have BK33 := Qa (hbox); have GW33 := Gs (w := w) hg (Bb1 HB.out GE27.out); have GE33 := GW33; replace HB := Sb (Bb1 HB.out GE27.out) hb; have NB27_33 := Nl hg BK27; have NB33_27 := Ng hg BK27; replace BK27 := Kb BK27 hb; clear hb hbox hg; have hnb19 := NB27_33.out; have hnc19 := NB33_27.out; obtain ⟨q20_0, q20_1, q20_2, u20_0, u20_1, u20_2⟩ := Cf3 BK27; obtain ⟨q21_0, q21_1, q21_2, u21_0, u21_1, u21_2⟩ := Cf3 BK33) | ((with_reducible refine Qc (f := 60) rfl ?_); refine Gl 9 Tryz.func60 #[.slice A0_0 l0_0.length c0_0, .slice A1_0 l1_0.length c1_0] ?_; (with_reducible refine (slices_Equal_string_string.calls k _ _ l0_0 _ _ l1_0 false _ ?side1 ?side2 ?side3 ?side4 A3.out).mono ?_); (case side1 => exact Bc (Qt HR0_0.out HB.out)); (case side2 => exact HC0_0.out); (case side3 => exact Bc (Qt HR1_0.out HB.out)); (case side4 => exact HC1_0.out); rintro e w' ⟨rfl, ⟨nd, rfl⟩⟩; refine ⟨_, rfl, ?_⟩)); go_ret; exact ⟨Ze, Bb2 HB.out GE27.out GE33.out⟩
def spec_l1Turned.f (s0_0 : List Int) (s0_1 : Int) (s0_2 : Int) (a1 : ByteArray) (l2 : List ByteArray) : Option (ByteArray × Int × Int) := (spec_l1Below.f s0_0 s0_1 s0_2 (Qf ((a1.size : Int) + 1))).bind fun bt31 => ((spec_l1Below.f s0_0 bt31.2.1 bt31.2.2 6).bind fun bt35 => (if bt35.1 = 0 then (if 0 ≤ bt31.1 then (if bt31.1 ≤ (a1.size : Int) then ((spec_l1Pick.f s0_0 bt35.2.1 bt35.2.2 l2).bind fun bt37 => (if (a1.extract 0 (bt31.1 : Int).toNat).size + bt37.1.size ≤ 9223372036854775807 then (if ((a1.extract 0 (bt31.1 : Int).toNat) ++ bt37.1).size + (a1.extract (bt31.1 : Int).toNat a1.size).size ≤ 9223372036854775807 then (some (((a1.extract 0 (bt31.1 : Int).toNat) ++ bt37.1) ++ (a1.extract (bt31.1 : Int).toNat a1.size), bt37.2.1, bt37.2.2)) else (none)) else (none))) else (none)) else (none)) else (if bt35.1 = 1 then (if 0 ≤ bt31.1 then (if bt31.1 ≤ (a1.size : Int) then (some (a1.extract 0 (bt31.1 : Int).toNat, bt35.2.1, bt35.2.2)) else (none)) else (none)) else (some (a1, bt35.2.1, bt35.2.2)))))
def spec_l1Turned.T4 : Bool × List (List Nat × List Nat) := (true, [([], []), ([], []), ([0, 1], [0, 1]), ([], []), ([], []), ([3, 4], [3, 4]), ([2, 5], [2, 5]), ([], []), ([], []), ([7, 8], [7, 8]), ([6, 9], [6, 9]), ([10, 5, 0, 1, 2, 3, 4, 5, 6, 7, 8, 9, 10], [10])])
def spec_l1Turned.B4 : List Nat := [0, 0, 3, 0, 0, 24, 63, 0, 0, 384, 1023, 2047]
theorem spec_l1Turned.tab4 : rtab .any (opsOf Tryz.f62 4) = spec_l1Turned.T4 := by kernel_rfl
theorem spec_l1Turned.bits4 : waitsOk spec_l1Turned.T4.2 spec_l1Turned.B4 = true := by kernel_rfl
theorem spec_l1Turned.calls (g : Nat) (s0_0 : List Int) (s0_1 : Int) (s0_2 : Int) (a1 : ByteArray) (A2 : Option Addr) (c2 : Nat) (l2 : List ByteArray) (r1 : ByteArray) (r2 : Int) (r3 : Int) (w0 w : World) (hI : IsS104 w0 w g s0_0 s0_1 s0_2) (hB : Qz w0.heap.size w0 w) (hr2 : Kd.C Qe w A2 l2.length l2) (hc2 : l2.length ≤ c2) (hf2 : ∀ ad, A2 = some ad → 0 < l2.length → ad.block ≠ g) (h : spec_l1Turned.f s0_0 s0_1 s0_2 a1 l2 = some (r1, r2, r3)) :
  Calls Qo 62 #[.pointer (some ⟨g, 0, none⟩), .string a1, .slice A2 l2.length c2] w fun e w' => e = .returned (.string r1) ∧ IsS104 w0 w' g s0_0 r2 r3 ∧ Qz w0.heap.size w0 w' ∧ KeepBut w w' g none := by
 have HR2 := Qa hr2
 have HC2 := Qa hc2
 clear hr2 hc2
 have HI0 := Qa hI
 have HK := Qa (KeepBut.refl w g none)
 have HL := Qa hB.size
 clear hI
 have HW0 := Qa hB.size
 have HB := Qa hB
 clear hB
 have H : ((spec_l1Below.f s0_0 s0_1 s0_2 (Qf ((a1.size : Int) + 1))).bind fun bt31 => ((spec_l1Below.f s0_0 bt31.2.1 bt31.2.2 6).bind fun bt35 => (if bt35.1 = 0 then (if 0 ≤ bt31.1 then (if bt31.1 ≤ (a1.size : Int) then ((spec_l1Pick.f s0_0 bt35.2.1 bt35.2.2 l2).bind fun bt37 => (if (a1.extract 0 (bt31.1 : Int).toNat).size + bt37.1.size ≤ 9223372036854775807 then (if ((a1.extract 0 (bt31.1 : Int).toNat) ++ bt37.1).size + (a1.extract (bt31.1 : Int).toNat a1.size).size ≤ 9223372036854775807 then (some (((a1.extract 0 (bt31.1 : Int).toNat) ++ bt37.1) ++ (a1.extract (bt31.1 : Int).toNat a1.size), bt37.2.1, bt37.2.2)) else (none)) else (none))) else (none)) else (none)) else (if bt35.1 = 1 then (if 0 ≤ bt31.1 then (if bt31.1 ≤ (a1.size : Int) then (some (a1.extract 0 (bt31.1 : Int).toNat, bt35.2.1, bt35.2.2)) else (none)) else (none)) else (some (a1, bt35.2.1, bt35.2.2)))))) = some (r1, r2, r3) := h
 clear h
 obtain ⟨⟨t31, t55, t56⟩, A4, H⟩ := Ob H
 (try dsimp only at H)
 obtain ⟨⟨t35, t65, t66⟩, A5, H⟩ := Ob H
 (try dsimp only at H)
 by_cases c6 : t35 = 0
 ·rw [if_pos c6] at H
  have c6b0 := beq_iff_eq.mpr c6; have c6b1 := bne_eq_false_iff_eq.mpr c6; clear c6; by_cases c7 : 0 ≤ t31
  ·rw [if_pos c7] at H; have c7b0 := eq_true c7; have c7b1 := decide_eq_true c7; clear c7; by_cases c8 : t31 ≤ (a1.size : Int)
   ·rw [if_pos c8] at H; have c8b0 := eq_true c8; have c8b1 := decide_eq_true c8; clear c8; obtain ⟨⟨t37, t73, t74⟩, A9, H⟩ := Ob H; (try dsimp only at H)
    by_cases c10 : (a1.extract 0 (t31 : Int).toNat).size + t37.size ≤ 9223372036854775807
    ·rw [if_pos c10] at H; have c10b0 := eq_true c10; have c10b1 := decide_eq_true c10; try have c10b2 : (9223372036854775807 < (a1.extract 0 (t31 : Int).toNat).size + t37.size) = False := eq_false (Nat.not_lt.2 c10)
     try have c10b3 : (9223372036854775807 < t31.toNat + t37.size) = False := eq_false (Nat.not_lt.2 (by have h_ := c10; simp only [ByteArray.size_append, ByteArray.size_extract, eq_iff_iff, iff_true] at *; omega))
     have c11b0 := eq_true (Da : 0 ≤ t31); have c12b0 := eq_true (Da : t31 ≤ (a1.size : Int)); by_cases c13 : ((a1.extract 0 (t31 : Int).toNat) ++ t37).size + (a1.extract (t31 : Int).toNat a1.size).size ≤ 9223372036854775807
     ·rw [if_pos c13] at H; have c13b0 := eq_true c13; have c13b1 := decide_eq_true c13; try have c13b2 : (9223372036854775807 < ((a1.extract 0 (t31 : Int).toNat) ++ t37).size + (a1.extract (t31 : Int).toNat a1.size).size) = False := eq_false (Nat.not_lt.2 c13)
      try have c13b3 : (9223372036854775807 < t31.toNat + t37.size + (a1.size - t31.toNat)) = False := eq_false (Nat.not_lt.2 (by have h_ := c13; simp only [ByteArray.size_append, ByteArray.size_extract, eq_iff_iff, iff_true] at *; omega))
      simp only [Option.some.injEq, Prod.mk.injEq] at H; obtain ⟨rfl, rfl, rfl⟩ := H; go_enter Tryz.func62, Tryz.ntmps62; try go_wp2_with (first | ((with_reducible refine Qc (f := 64) rfl ?_); refine Gl 12 Zq #[.pointer (some ⟨g, 0, none⟩), .int .i64 (Qf ((a1.size : Int) + 1))] ?_; (with_reducible refine (spec_l1Below.calls g s0_0 s0_1 s0_2 (Qf ((a1.size : Int) + 1)) t31 t55 t56 w0 _ ?side1 ?side2 A4.out).mono ?_); (case side1 => exact I104 HI0.out); (case side2 => exact Bb1 HB.out (IsS104.ge HI0.out)); rintro e w14 ⟨rfl, hi, hb, hk⟩; refine ⟨_, rfl, ?_⟩; replace HK := Kk (Kp HK.out) hk; replace HB := Qa (hb); replace HI0 := Qa (hi); clear hb hk hi) | ((with_reducible refine Qc (f := 64) rfl ?_); refine Gl 14 Zq #[.pointer (some ⟨g, 0, none⟩), .int .i64 6] ?_; (with_reducible refine (spec_l1Below.calls g s0_0 t55 t56 6 t35 t65 t66 w0 _ ?side1 ?side2 A5.out).mono ?_); (case side1 => exact I104 HI0.out); (case side2 => exact Bb1 HB.out (IsS104.ge HI0.out)); rintro e w15 ⟨rfl, hi, hb, hk⟩; refine ⟨_, rfl, ?_⟩; replace HK := Kk (Kp HK.out) hk; replace HB := Qa (hb); replace HI0 := Qa (hi); clear hb hk hi))
      replace HI0 := Qa (IsS104.drew HI0.out); replace HK := Qa (keep_drew HK.out); replace HB := Qa (below_drew1 HB.out); refine start_ (n := 12) (S := fun w' => True) (ds := []) #[false, false, false, false, false, false, false, false, false, false, false, false] (by kernel_rfl) rfl rfl trivial (fun hHeld => ?_); refine with_tabW spec_l1Turned.tab4 spec_l1Turned.bits4 (fun HT_ HW_ => ?_); generalize w15.drew = w16 at HI0 HK HB hHeld ⊢; refine Pt 0 17 HT_ ?_; refine Pt 1 18 HT_ ?_; refine Pt 2 19 HT_ ?_; refine Pt 3 20 HT_ ?_; refine Pt 4 21 HT_ ?_; refine Pt 7 24 HT_ ?_; refine Pt 8 25 HT_ ?_; refine Pt 9 26 HT_ ?_; refine Ot 5 22 HT_ (fun K hK => ?_); refine goes_ Tryz.func92 (by kernel_rfl) rfl #[.pointer (some ⟨g, 0, none⟩), .slice A2 l2.length c2] (by rfl) rfl rfl Zm ?_; with_reducible refine (spec_l1Pick.calls g s0_0 t65 t66 _ _ l2 t37 t73 t74 w0 _ ?side1 ?side2 ?side3 ?side4 ?side5 A9.out).mono ?_
      (case side1 => exact I104 HI0.out)
      (case side2 => exact Bb1 HB.out (IsS104.ge HI0.out))
      (case side3 => exact Kd.C_keep (⟨#[]⟩ : ByteArray) HR2.out (Kp HK.out) hf2)
      (case side4 => exact HC2.out)
      (case side5 => exact hf2)
      rintro e w17 ⟨rfl, hi, hb, hk⟩; refine ⟨_, rfl, ?_⟩; replace HK := Kk (Kp HK.out) hk; replace HB := Qa (hb); replace HI0 := Qa (hi); clear hb hk hi; refine hK.out _ _ trivial (fun hHeld => ?_); clear hK K; refine Nn 22 ?_; refine Pt 6 23 HT_ ?_; refine Pt 10 27 HT_ ?_; refine Pt 11 6 HT_ ?_; refine done_ (done_of HT_.out (by kernel_rfl)) ?_; try go_wp2
      go_ret; exact ⟨Ze, I104 HI0.out, Bb1 HB.out (IsS104.ge HI0.out), Kp HK.out⟩
     ·rw [if_neg c13] at H; exact absurd H (by simp)
    ·rw [if_neg c10] at H; exact absurd H (by simp)
   ·rw [if_neg c8] at H; exact absurd H (by simp)
  ·rw [if_neg c7] at H; exact absurd H (by simp)
 ·rw [if_neg c6] at H
  have c6b0 := beq_eq_false_iff_ne.mpr c6; have c6b1 := bne_iff_ne.mpr c6; by_cases c18 : t35 = 1
  ·rw [if_pos c18] at H; have c18b0 := beq_iff_eq.mpr c18; have c18b1 := bne_eq_false_iff_eq.mpr c18; clear c18; by_cases c19 : 0 ≤ t31
   ·rw [if_pos c19] at H; have c19b0 := eq_true c19; have c19b1 := decide_eq_true c19; clear c19; by_cases c20 : t31 ≤ (a1.size : Int)
    ·rw [if_pos c20] at H; have c20b0 := eq_true c20; have c20b1 := decide_eq_true c20; clear c20; simp only [Option.some.injEq, Prod.mk.injEq] at H; obtain ⟨rfl, rfl, rfl⟩ := H; go_enter Tryz.func62, Tryz.ntmps62; go_wp2_with (first | ((with_reducible refine Qc (f := 64) rfl ?_); refine Gl 12 Zq #[.pointer (some ⟨g, 0, none⟩), .int .i64 (Qf ((a1.size : Int) + 1))] ?_; (with_reducible refine (spec_l1Below.calls g s0_0 s0_1 s0_2 (Qf ((a1.size : Int) + 1)) t31 t55 t56 w0 _ ?side1 ?side2 A4.out).mono ?_); (case side1 => exact I104 HI0.out); (case side2 => exact Bb1 HB.out (IsS104.ge HI0.out)); rintro e w21 ⟨rfl, hi, hb, hk⟩; refine ⟨_, rfl, ?_⟩; replace HK := Kk (Kp HK.out) hk; replace HB := Qa (hb); replace HI0 := Qa (hi); clear hb hk hi) | ((with_reducible refine Qc (f := 64) rfl ?_); refine Gl 14 Zq #[.pointer (some ⟨g, 0, none⟩), .int .i64 6] ?_; (with_reducible refine (spec_l1Below.calls g s0_0 t55 t56 6 t35 t65 t66 w0 _ ?side1 ?side2 A5.out).mono ?_); (case side1 => exact I104 HI0.out); (case side2 => exact Bb1 HB.out (IsS104.ge HI0.out)); rintro e w22 ⟨rfl, hi, hb, hk⟩; refine ⟨_, rfl, ?_⟩; replace HK := Kk (Kp HK.out) hk; replace HB := Qa (hb); replace HI0 := Qa (hi); clear hb hk hi)); go_ret; exact ⟨Ze, I104 HI0.out, Bb1 HB.out (IsS104.ge HI0.out), Kp HK.out⟩
    ·rw [if_neg c20] at H; exact absurd H (by simp)
   ·rw [if_neg c19] at H; exact absurd H (by simp)
  ·rw [if_neg c18] at H; have c18b0 := beq_eq_false_iff_ne.mpr c18; have c18b1 := bne_iff_ne.mpr c18; simp only [Option.some.injEq, Prod.mk.injEq] at H; obtain ⟨rfl, rfl, rfl⟩ := H; go_enter Tryz.func62, Tryz.ntmps62; go_wp2_with (first | ((with_reducible refine Qc (f := 64) rfl ?_); refine Gl 12 Zq #[.pointer (some ⟨g, 0, none⟩), .int .i64 (Qf ((a1.size : Int) + 1))] ?_; (with_reducible refine (spec_l1Below.calls g s0_0 s0_1 s0_2 (Qf ((a1.size : Int) + 1)) t31 t55 t56 w0 _ ?side1 ?side2 A4.out).mono ?_); (case side1 => exact I104 HI0.out); (case side2 => exact Bb1 HB.out (IsS104.ge HI0.out)); rintro e w23 ⟨rfl, hi, hb, hk⟩; refine ⟨_, rfl, ?_⟩; replace HK := Kk (Kp HK.out) hk; replace HB := Qa (hb); replace HI0 := Qa (hi); clear hb hk hi) | ((with_reducible refine Qc (f := 64) rfl ?_); refine Gl 14 Zq #[.pointer (some ⟨g, 0, none⟩), .int .i64 6] ?_; (with_reducible refine (spec_l1Below.calls g s0_0 t55 t56 6 t35 t65 t66 w0 _ ?side1 ?side2 A5.out).mono ?_); (case side1 => exact I104 HI0.out); (case side2 => exact Bb1 HB.out (IsS104.ge HI0.out)); rintro e w24 ⟨rfl, hi, hb, hk⟩; refine ⟨_, rfl, ?_⟩; replace HK := Kk (Kp HK.out) hk; replace HB := Qa (hb); replace HI0 := Qa (hi); clear hb hk hi)); go_ret; exact ⟨Ze, I104 HI0.out, Bb1 HB.out (IsS104.ge HI0.out), Kp HK.out⟩
def spec_DrawParseProgram.f (k : Nat) (l0 : List Int) : Option (ByteArray) := (spec_l1New.f k l0).bind fun bt40 => ((spec_l6Draw.f k bt40.1 bt40.2.1 bt40.2.2).bind fun bt41 => ((spec_ProgramText.f k bt41.1 bt41.2.1 bt41.2.2.1).bind fun t48 => ((spec_l1Turned.f bt40.1 bt41.2.2.2.1 bt41.2.2.2.2 t48 (([(⟨#[59]⟩ : ByteArray), (⟨#[32]⟩ : ByteArray), (⟨#[120]⟩ : ByteArray), (⟨#[48]⟩ : ByteArray), (⟨#[61]⟩ : ByteArray), (⟨#[115, 107, 105, 112]⟩ : ByteArray)] : List ByteArray))).bind fun bt50 => (some bt50.1))))
theorem spec_DrawParseProgram.mono : ∀ a0 k, LeO (spec_DrawParseProgram.f k a0) (spec_DrawParseProgram.f (k + 1) a0) := by
 intro a0 k
 unfold spec_DrawParseProgram.f
 exact Lm3 spec_ProgramText.mono spec_l1New.mono spec_l6Draw.mono
theorem spec_DrawParseProgram.calls (k : Nat) (A0 : Option Addr) (c0 : Nat) (l0 : List Int) (r : ByteArray) (w : World) (hr0 : Kd.C (Zw .u8) w A0 l0.length l0) (hc0 : l0.length ≤ c0) (h : spec_DrawParseProgram.f k l0 = some r) :
  Calls Qo 20 #[.slice A0 l0.length c0] w fun e w' => e = .returned (.string r) ∧ Qz w.heap.size w w' := by
 have HR0 := Qa hr0
 have HC0 := Qa hc0
 clear hr0 hc0
 have HB := Qa (Qs w.heap.size w)
 have H : ((spec_l1New.f k l0).bind fun bt40 => ((spec_l6Draw.f k bt40.1 bt40.2.1 bt40.2.2).bind fun bt41 => ((spec_ProgramText.f k bt41.1 bt41.2.1 bt41.2.2.1).bind fun t48 => ((spec_l1Turned.f bt40.1 bt41.2.2.2.1 bt41.2.2.2.2 t48 (([(⟨#[59]⟩ : ByteArray), (⟨#[32]⟩ : ByteArray), (⟨#[120]⟩ : ByteArray), (⟨#[48]⟩ : ByteArray), (⟨#[61]⟩ : ByteArray), (⟨#[115, 107, 105, 112]⟩ : ByteArray)] : List ByteArray))).bind fun bt50 => (some bt50.1))))) = some r := h
 clear h
 obtain ⟨⟨t40, t69, t70⟩, A2, H⟩ := Ob H
 (try dsimp only at H)
 obtain ⟨⟨t41, t67, t68, t57, t58⟩, A3, H⟩ := Ob H
 (try dsimp only at H)
 obtain ⟨t48, A4, H⟩ := Ob H
 (try dsimp only at H)
 obtain ⟨y44, hy44⟩ : ∃ y_ : List ByteArray, y_ = (([(⟨#[59]⟩ : ByteArray), (⟨#[32]⟩ : ByteArray), (⟨#[120]⟩ : ByteArray), (⟨#[48]⟩ : ByteArray), (⟨#[61]⟩ : ByteArray), (⟨#[115, 107, 105, 112]⟩ : ByteArray)] : List ByteArray)) := ⟨_, rfl⟩
 replace H : ((spec_l1Turned.f t40 t57 t58 t48 y44).bind fun bt50 => (some bt50.1)) = some r := Zh hy44 H
 have Ny44 := Qa hy44
 clear hy44
 obtain ⟨⟨t50, t75, t76⟩, A5, H⟩ := Ob H
 (try dsimp only at H)
 obtain rfl := Option.some.inj H
 go_enter Tryz.func20, Tryz.ntmps20
 go_wp2_with (first | ((with_reducible refine Qc (f := 51) rfl ?_); refine Gl 5 Tryz.func51 #[.slice A0 l0.length c0] ?_; (with_reducible refine (spec_l1New.calls k _ _ l0 t40 t69 t70 w _ ?side1 ?side2 ?side3 A2.out).mono ?_); (case side1 => exact Bb0 HB.out); (case side2 => exact HR0.out); (case side3 => exact HC0.out); rintro e w6 ⟨g577, rfl, hi, hb, hb2⟩; refine ⟨_, rfl, ?_⟩; replace HB := Qa (hb); have HI577 := Qa (hi); clear hb hb2 hi) | ((with_reducible refine Qc (f := 63) rfl ?_); refine Gl 8 Tryz.func63 #[.pointer (some ⟨g577, 0, none⟩)] ?_; (with_reducible refine (spec_l6Draw.calls k g577 t40 t69 t70 t41 t67 t68 t57 t58 w _ ?side1 ?side2 A3.out).mono ?_); (case side1 => exact I104 HI577.out); (case side2 => exact Bb1 HB.out (IsS104.ge HI577.out)); rintro e w7 ⟨v81, v82, rfl, ho0, ho1, hi, hb, hk⟩; refine ⟨_, rfl, ?_⟩; have HO45 := Qa (Kd.R_lower ho0 (Qw (Bb1 HB.out (IsS104.ge HI577.out)))); have HO46 := Qa (Kd.R_lower ho1 (Qw (Bb1 HB.out (IsS104.ge HI577.out)))); replace HB := Qa (hb); replace HI577 := Qa (hi); clear hb hk hi; (try clear ho0); (try clear ho1); obtain ⟨Ao8, co8, eo8⟩ := Qj HO45.out; subst eo8; obtain ⟨Ao9, co9, eo9⟩ := Qj HO46.out; subst eo9) | ((with_reducible refine Qc (f := 7) rfl ?_); refine Gl 9 Tryz.func7 #[.agg #[.slice Ao8 t41.length co8, .int .i64 t67, .slice Ao9 t68.length co9]] ?_; (with_reducible refine (spec_ProgramText.calls k _ _ t41 t67 _ _ t68 t48 _ ?side1 ?side2 ?side3 ?side4 A4.out).mono ?_); (case side1 => exact Bc (Qb HO45.out).2.2); (case side2 => exact (Qb HO45.out).2.1); (case side3 => exact Bc (Qb HO46.out).2.2); (case side4 => exact (Qb HO46.out).2.1); rintro e w10 ⟨rfl, hb⟩; refine ⟨_, rfl, ?_⟩; replace HO45 := Rb HO45 hb; replace HO46 := Rb HO46 hb; replace HB := Sb (Bb1 HB.out (IsS104.ge HI577.out)) hb; replace HI577 := Qa (IsS104.below (I104 HI577.out) hb); clear hb) | ((with_reducible refine Qk (N := 10) rfl ?_); refine Kd.R_lit Qe _ 9 ?hg (N := 10) ?hd (xs := ([(⟨#[59]⟩ : ByteArray), (⟨#[32]⟩ : ByteArray), (⟨#[120]⟩ : ByteArray), (⟨#[48]⟩ : ByteArray), (⟨#[61]⟩ : ByteArray), (⟨#[115, 107, 105, 112]⟩ : ByteArray)] : List ByteArray)) (inner := [.string (⟨#[59]⟩ : ByteArray), .string (⟨#[32]⟩ : ByteArray), .string (⟨#[120]⟩ : ByteArray), .string (⟨#[48]⟩ : ByteArray), .string (⟨#[61]⟩ : ByteArray), .string (⟨#[115, 107, 105, 112]⟩ : ByteArray)]) (ok := fun _ => True) (okp := fun _ => True) ?hr ?hp (fun _ hk => hk) trivial (Qs _ _) (Nat.le_refl _) (by simp) ?_; (case hd => rfl); (case hg => rfl); (case hr => first | (go_simp; done) | (go_simp; rfl)); (case hp => exact (Reps.one (show Kd.M Qe _ _ _ (⟨#[59]⟩ : ByteArray) [.string (⟨#[59]⟩ : ByteArray)] from rfl) (Reps.one (show Kd.M Qe _ _ _ (⟨#[32]⟩ : ByteArray) [.string (⟨#[32]⟩ : ByteArray)] from rfl) (Reps.one (show Kd.M Qe _ _ _ (⟨#[120]⟩ : ByteArray) [.string (⟨#[120]⟩ : ByteArray)] from rfl) (Reps.one (show Kd.M Qe _ _ _ (⟨#[48]⟩ : ByteArray) [.string (⟨#[48]⟩ : ByteArray)] from rfl) (Reps.one (show Kd.M Qe _ _ _ (⟨#[61]⟩ : ByteArray) [.string (⟨#[61]⟩ : ByteArray)] from rfl) (Reps.one (show Kd.M Qe _ _ _ (⟨#[115, 107, 105, 112]⟩ : ByteArray) [.string (⟨#[115, 107, 105, 112]⟩ : ByteArray)] from rfl) (Reps.none _ _)))))))); intro v83 w11 ho12 hb hg_ hnew_; clear hg_ hnew_; (first | rw [← Ny44.out] at ho12 | (simp only [Int.reduceToNat] at ho12; rw [← Ny44.out] at ho12)); replace HO46 := Rb HO46 hb; have HO59 := Qa (Kd.R_lower (Kd.R_new' ho12 (Kd.R_lt (Br HO45.out))) (Qw (Bb1 HB.out (IsS104.ge HI577.out)))); replace HO45 := Ke HO45 hb ho12; replace HB := Sb (Bb1 HB.out (IsS104.ge HI577.out)) hb; replace HI577 := Qa (IsS104.below (I104 HI577.out) hb); clear hb ho12; obtain ⟨Ao13, co13, eo13⟩ := Qj HO59.out; subst eo13) | ((with_reducible refine Qc (f := 62) rfl ?_); refine Gl 11 Tryz.func62 #[.pointer (some ⟨g577, 0, none⟩), .string t48, .slice Ao13 y44.length co13] ?_; (with_reducible refine (spec_l1Turned.calls g577 t40 t57 t58 t48 _ _ y44 t50 t75 t76 w _ ?side1 ?side2 ?side3 ?side4 ?side5 A5.out).mono ?_); (case side1 => exact I104 HI577.out); (case side2 => exact Bb1 HB.out (IsS104.ge HI577.out)); (case side3 => exact Bc (Qb HO59.out).2.2); (case side4 => exact (Qb HO59.out).2.1); (case side5 => exact far_slice (IsS104.own_ne HI577.out HO59.out (by decide))); rintro e w14 ⟨rfl, hi, hb, hk⟩; refine ⟨_, rfl, ?_⟩; replace HO45 := Qa (Zi (Kd.R_keep (IsS104.apart (show IsS104 w _ g577 t40 t57 t58 from I104 HI577.out) (Br HO45.out) (by decide)) hk (fun _ h => h.2)) (fun _ h => h.1)); replace HO46 := Qa (Zi (Kd.R_keep (IsS104.apart (show IsS104 w _ g577 t40 t57 t58 from I104 HI577.out) (Br HO46.out) (by decide)) hk (fun _ h => h.2)) (fun _ h => h.1)); replace HO59 := Qa (Zi (Kd.R_keep (IsS104.apart (show IsS104 w _ g577 t40 t57 t58 from I104 HI577.out) (Br HO59.out) (by decide)) hk (fun _ h => h.2)) (fun _ h => h.1)); replace HB := Qa (hb); replace HI577 := Qa (hi); clear hb hk hi))
 go_ret
 exact ⟨Ze, Bb1 HB.out (IsS104.ge HI577.out)⟩
def spec_DrawEdgesFrom.f (k : Nat) (l0 : List Int) : Option (List ByteArray × Int × (List (S52)) × Int) := (spec_l1New.f k l0).bind fun bt39 => ((spec_l6Bent.f k bt39.1 bt39.2.1 bt39.2.2).bind fun bt38 => ((spec_l1Below.f bt39.1 bt38.2.2.2.1 bt38.2.2.2.2 5).bind fun bt62 => (some (bt38.1, bt38.2.1, bt38.2.2.1, Qf (bt62.1 - 1)))))
theorem spec_DrawEdgesFrom.mono : ∀ a0 k, LeO (spec_DrawEdgesFrom.f k a0) (spec_DrawEdgesFrom.f (k + 1) a0) := by
 intro a0 k
 unfold spec_DrawEdgesFrom.f
 exact Lm2 spec_l1New.mono spec_l6Bent.mono
theorem spec_DrawEdgesFrom.calls (k : Nat) (A0 : Option Addr) (c0 : Nat) (l0 : List Int) (r1 : List ByteArray) (r2 : Int) (r3 : List (S52)) (r4 : Int) (w : World) (hr0 : Kd.C (Zw .u8) w A0 l0.length l0) (hc0 : l0.length ≤ c0) (h : spec_DrawEdgesFrom.f k l0 = some (r1, r2, r3, r4)) :
  Calls Qo 21 #[.slice A0 l0.length c0] w fun e w' => ∃ v0_ v2_ : Value, e = .returned (.tuple #[.agg #[v0_, .int .i64 r2, v2_], .int .i64 r4]) ∧ Kd.R Qe 9 w' w.heap.size (fun _ => True) v0_ r1 ∧ Kd.R k52 52 w' w.heap.size (fun _ => True) v2_ r3 ∧ Qz w.heap.size w w' := by
 have hu30 := Ql
 have HR0 := Qa hr0
 have HC0 := Qa hc0
 clear hr0 hc0
 have HB := Qa (Qs w.heap.size w)
 have H : ((spec_l1New.f k l0).bind fun bt39 => ((spec_l6Bent.f k bt39.1 bt39.2.1 bt39.2.2).bind fun bt38 => ((spec_l1Below.f bt39.1 bt38.2.2.2.1 bt38.2.2.2.2 5).bind fun bt62 => (some (bt38.1, bt38.2.1, bt38.2.2.1, Qf (bt62.1 - 1)))))) = some (r1, r2, r3, r4) := h
 clear h
 obtain ⟨⟨t39, t71, t72⟩, A2, H⟩ := Ob H
 (try dsimp only at H)
 obtain ⟨⟨t38, t63, t51, t53, t54⟩, A3, H⟩ := Ob H
 (try dsimp only at H)
 obtain ⟨⟨t62, t77, t78⟩, A4, H⟩ := Ob H
 (try dsimp only at H)
 simp only [Option.some.injEq, Prod.mk.injEq] at H
 obtain ⟨rfl, rfl, rfl, rfl⟩ := H
 go_enter Tryz.func21, Tryz.ntmps21
 try go_wp2_with (first | ((with_reducible refine Qk (N := 2) rfl ?_); refine Bx (N := 2) (cs := #[.slice none 0 0, .int .i64 0, .slice none 0 0]) (t := 30) ?_; intro gb25 hg w5 hbox hb; have BK25 := Qa (hbox); have GW25 := Gs (w := w) hg (Bb0 HB.out); have GE25 := GW25; replace HB := Sb (Bb0 HB.out) hb; clear hb hbox hg) | ((with_reducible refine Qc (f := 51) rfl ?_); refine Gl 7 Tryz.func51 #[.slice A0 l0.length c0] ?_; (with_reducible refine (spec_l1New.calls k _ _ l0 t39 t71 t72 w _ ?side1 ?side2 ?side3 A2.out).mono ?_); (case side1 => exact Bb1 HB.out GE25.out); (case side2 => exact HR0.out); (case side3 => exact HC0.out); rintro e w6 ⟨g598, rfl, hi, hb, hb2⟩; refine ⟨_, rfl, ?_⟩; replace HB := Qa (hb); have HI598 := Qa (hi); have NB36_25 := Qa (IsS104.ne_blk hi (blk_below (g := gb25) (o := .cells #[.slice none 0 0, .int .i64 0, .slice none 0 0] 30 (0, 0)) (Ba BK25.out) hb2) (by decide)); have NB25_36 := Qa (Ne.symm (IsS104.ne_blk hi (blk_below (g := gb25) (o := .cells #[.slice none 0 0, .int .i64 0, .slice none 0 0] 30 (0, 0)) (Ba BK25.out) hb2) (by decide))); replace BK25 := Qa (blk_below (g := gb25) (o := .cells #[.slice none 0 0, .int .i64 0, .slice none 0 0] 30 (0, 0)) (Ba BK25.out) hb2); clear hb hb2 hi) | ((with_reducible refine Qc (f := 50) rfl ?_); refine Gl 9 Tryz.func50 #[.pointer (some ⟨g598, 0, none⟩)] ?_; (with_reducible refine (spec_l6Bent.calls k g598 t39 t71 t72 t38 t63 t51 t53 t54 w _ ?side1 ?side2 A3.out).mono ?_); (case side1 => exact I104x1 HI598.out NB36_25.out); (case side2 => exact Bb2 HB.out (IsS104.ge HI598.out) GE25.out); rintro e w7 ⟨v84, v85, rfl, ho0, ho1, hi, hb, hk⟩; refine ⟨_, rfl, ?_⟩; replace BK25 := Kc hk BK25 NB25_36; have HO42 := Qa (Kd.R_lower ho0 (Qw (Bb2 HB.out (IsS104.ge HI598.out) GE25.out))); have HO43 := Qa (Kd.R_lower ho1 (Qw (Bb2 HB.out (IsS104.ge HI598.out) GE25.out))); replace HB := Qa (hb); replace HI598 := Qa (hi); clear hb hk hi; (try clear ho0); (try clear ho1)) | ((with_reducible refine Qk (N := 5) rfl ?_); refine Bx (N := 5) (cs := #[.slice none 0 0, .int .i64 0, .slice none 0 0]) (t := 30) ?_; intro gb26 hg w8 hbox hb; replace HO42 := Rb HO42 hb; replace HO43 := Rb HO43 hb; have BK26 := Qa (hbox); have GW26 := Qa ((by rw [hg]; exact (Qw (Bb2 HB.out (IsS104.ge HI598.out) GE25.out)) : w.heap.size ≤ gb26)); have GE26 := Qa ((by rw [hg]; exact (Qw (Bb2 HB.out (IsS104.ge HI598.out) GE25.out)) : w.heap.size ≤ gb26)); replace HB := Sb (Bb2 HB.out (IsS104.ge HI598.out) GE25.out) hb; have NB25_26 := Nl hg BK25; have NB26_25 := Ng hg BK25; replace BK25 := Kb BK25 hb; have NB36_26 := Qa ((by rw [hg]; exact Nat.ne_of_lt (IsS104.lt (show IsS104 w _ g598 t39 t53 t54 from I104x1 HI598.out NB36_25.out)) : g598 ≠ gb26)); have NB26_36 := Qa ((by rw [hg]; exact Nat.ne_of_gt (IsS104.lt (show IsS104 w _ g598 t39 t53 t54 from I104x1 HI598.out NB36_25.out)) : gb26 ≠ g598)); replace HI598 := Qa (IsS104.below (I104x1 HI598.out NB36_25.out) hb); clear hb hbox hg; obtain ⟨Ao9, co9, eo9⟩ := Qj HO42.out; subst eo9; have hnb10 := NB26_25.out; have hnc10 := NB25_26.out; have hnb11 := NB26_36.out; have hnc11 := NB36_26.out; obtain ⟨q12_0, q12_1, q12_2, u12_0, u12_1, u12_2⟩ := Cf3 BK26; obtain ⟨Ao13, co13, eo13⟩ := Qj HO43.out; subst eo13))
 generalize hW_ : (((w8.setCell ⟨gb26, 0, none⟩ (.slice Ao9 t38.length co9)).setCell ⟨gb26, 1, none⟩ (.int .i64 t63)).setCell ⟨gb26, 2, none⟩ (.slice Ao13 t51.length co13)) = w14
 have n0_ : Qg (Kd.R Qe 9 w14 w.heap.size (fun _ => True) (.slice Ao9 t38.length co9) t38) := ⟨by rw [← hW_]; (with_reducible repeat (first | apply Zr | apply Zs | apply Kd.R_drew)); exact Rs (Qd HO42.out BK26.out (by decide))⟩
 have n1_ : Qg (Kd.R k52 52 w14 w.heap.size (fun _ => True) (.slice Ao13 t51.length co13) t51) := ⟨by rw [← hW_]; (with_reducible repeat (first | apply Zr | apply Zs | apply Kd.R_drew)); exact Rs (Qd HO43.out BK26.out (by decide))⟩
 have n2_ : Qg (w14.heap[gb25]? = some (.cells #[.slice none 0 0, .int .i64 0, .slice none 0 0] 30 (0, 0))) := ⟨by rw [← hW_]; exact Bf BK25.out NB25_26.out⟩
 have n3_ : Qg (w14.heap[gb26]? = some (.cells #[.slice Ao9 t38.length co9, .int .i64 t63, .slice Ao13 t51.length co13] 30 (0, 0))) := ⟨by rw [← hW_]; exact Bq BK26.out⟩
 have n4_ : Qg (IsS104 w w14 g598 t39 t53 t54) := ⟨by rw [← hW_]; exact I104x2 HI598.out NB36_25.out NB36_26.out⟩
 have n5_ : Qg (Qz w.heap.size w w14) := ⟨by rw [← hW_]; exact Bb3 HB.out (IsS104.ge HI598.out) GE25.out GE26.out⟩
 (try clear HO42)
 (try clear HO43)
 (try clear BK25)
 (try clear BK26)
 (try clear HI598)
 (try clear HB)
 clear hW_
 have HO42 := n0_
 have HO43 := n1_
 have BK25 := n2_
 have BK26 := n3_
 have HI598 := n4_
 have HB := n5_
 clear n0_ n1_ n2_ n3_ n4_ n5_
 replace HO42 := Dr HO42
 replace HO43 := Dr HO43
 replace BK25 := Db BK25
 replace BK26 := Db BK26
 replace HI598 := Qa (IsS104.drew HI598.out)
 replace HB := Qa (below_drew1 HB.out)
 refine start_ (n := 6) (S := fun w' => w'.cell? ⟨gb26, 0, none⟩ = some (.slice Ao9 t38.length co9) ∧ w'.cell? ⟨gb26, 1, none⟩ = some (.int .i64 t63) ∧ w'.cell? ⟨gb26, 2, none⟩ = some (.slice Ao13 t51.length co13)) (ds := []) #[false, false, false, false, false, false] (by kernel_rfl) rfl rfl (Ce3 BK26) (fun hHeld => ?_)
 generalize w14.drew = w15 at HO42 HO43 BK25 BK26 HI598 HB hHeld ⊢
 refine Pk 1 11 ?_
 refine take_ (i := 0) (N := some 10) (v := ?_) (a' := ?_) #[true, true, false, false, false, false] rfl rfl (by kernel_rfl) (fun _ _ _ h => h) (Or.inl ⟨by rfl, ?_⟩) hHeld ?_ ?_
 rotate_left
 ·rintro w' ⟨s0, s1, s2⟩
  go_simp; with_reducible rfl
 rotate_left
 ·simp only [Act.put, List.setIfInBounds_toArray, List.set_cons_zero, List.set_cons_succ, i64_w, i32_w]
  rfl
 refine one_ (i := 2) (N := some 12) #[true, true, true, false, false, false] rfl rfl (by kernel_rfl) (by decide) (fun K hK => ?_)
 refine goes_ Zq (by kernel_rfl) rfl #[.pointer (some ⟨g598, 0, none⟩), .int .i64 5] (by rfl) rfl rfl Zm ?_
 with_reducible refine (spec_l1Below.calls g598 t39 t53 t54 5 t62 t77 t78 w _ ?side1 ?side2 A4.out).mono ?_
 (case side1 => exact I104x2 HI598.out NB36_25.out NB36_26.out)
 (case side2 => exact Bb3 HB.out (IsS104.ge HI598.out) GE25.out GE26.out)
 rintro e w16 ⟨rfl, hi, hb, hk⟩
 refine ⟨_, rfl, ?_⟩
 replace BK25 := Kc hk BK25 NB25_36
 replace HO42 := Qa (Zi (Kd.R_keep (IsS104.apart (show IsS104 w _ g598 t39 t53 t54 from I104x2 HI598.out NB36_25.out NB36_26.out) (Br HO42.out) (by decide)) hk (fun _ h => h.2)) (fun _ h => h.1))
 replace HO43 := Qa (Zi (Kd.R_keep (IsS104.apart (show IsS104 w _ g598 t39 t53 t54 from I104x2 HI598.out NB36_25.out NB36_26.out) (Br HO43.out) (by decide)) hk (fun _ h => h.2)) (fun _ h => h.1))
 replace BK26 := Kc hk BK26 NB26_36
 replace HB := Qa (hb)
 replace HI598 := Qa (hi)
 clear hb hk hi
 refine hK.out _ _ (Ce3 BK26) (fun hHeld => ?_)
 clear hK K
 refine Nn 12 ?_
 refine Pk 3 13 ?_
 refine one_ (i := 4) (N := none) #[true, true, true, true, true, false] rfl rfl (by kernel_rfl) (by decide) (fun K hK => ?_)
 have hs17 : w16.cell? ⟨gb25, 0, none⟩ = some (.slice none 0 0) := (Qh BK25.out 0).trans rfl
 have hfs17 := Zp BK25.out 0
 have hns17_1 := NB26_25.out
 have hms17_1 := NB25_26.out
 have hs18 : w16.cell? ⟨gb25, 1, none⟩ = some (.int .i64 0) := (Qh BK25.out 1).trans rfl
 have hfs18 := Zp BK25.out 1
 have hns18_1 := NB26_25.out
 have hms18_1 := NB25_26.out
 have hs19 : w16.cell? ⟨gb25, 2, none⟩ = some (.slice none 0 0) := (Qh BK25.out 2).trans rfl
 have hfs19 := Zp BK25.out 2
 have hns19_1 := NB26_25.out
 have hms19_1 := NB25_26.out
 refine skip_ (w1 := ?_) (by rfl) rfl ?_ ?_
 rotate_left
 ·go_simp
  rfl
 refine hK.out _ _ ⟨((Qu (p := ⟨gb25, _, none⟩) NB26_25.out _).trans (((Qu (p := ⟨gb25, _, none⟩) NB26_25.out _).trans (((Qu (p := ⟨gb25, _, none⟩) NB26_25.out _).trans (hHeld.1)))))), ((Qu (p := ⟨gb25, _, none⟩) NB26_25.out _).trans (((Qu (p := ⟨gb25, _, none⟩) NB26_25.out _).trans (((Qu (p := ⟨gb25, _, none⟩) NB26_25.out _).trans (hHeld.2.1)))))), ((Qu (p := ⟨gb25, _, none⟩) NB26_25.out _).trans (((Qu (p := ⟨gb25, _, none⟩) NB26_25.out _).trans (((Qu (p := ⟨gb25, _, none⟩) NB26_25.out _).trans (hHeld.2.2))))))⟩ (fun hHeld => ?_)
 clear hK K
 refine Pk 5 3 ?_
 refine done_ (by kernel_rfl) ?_
 try go_wp2
 refine bodyPost_ret (results_ct rfl _ _ gb25 30 #[.slice Ao9 t38.length co9, .int .i64 t63, .slice Ao13 t51.length co13] (0, 0) _ rfl (Bq BK25.out) Ql rfl (by kernel_rfl)) rfl ?_
 exact ⟨_, _, Ze, Rs (Qd HO42.out BK25.out (by decide)), Rs (Qd HO43.out BK25.out (by decide)), Bb3 HB.out (IsS104.ge HI598.out) GE25.out GE26.out⟩
def impl_EdgesFrom.l0 : Nat → Int → List Int → List (S52) → Int → Int → Option (List Int)
 | 0, _, _, _, _, _ => none
 | k + 1, x1, x5, x10, x11, x12 => if x12 < x11 then (if 0 ≤ x12 then (if x12 < (x10.length : Int) then (if ((rd_T52 x10 x12).f0) = x1 then (if x5.length < 17592186044416 then (impl_EdgesFrom.l0 k x1 (x5 ++ [x12]) x10 x11 (Qf (x12 + 1))) else (none)) else (impl_EdgesFrom.l0 k x1 x5 x10 x11 (Qf (x12 + 1)))) else (none)) else (none)) else (some x5)
def impl_EdgesFrom.f (k : Nat) (l0_0 : List ByteArray) (a0_1 : Int) (l0_2 : List (S52)) (a1 : Int) : Option (List Int) := impl_EdgesFrom.l0 k a1 (([] : List Int)) l0_2 (l0_2.length : Int) 0
theorem impl_EdgesFrom.mono_l : ∀ k, (∀ y0 y1 y2 y3 y4, LeO (impl_EdgesFrom.l0 k y0 y1 y2 y3 y4) (impl_EdgesFrom.l0 (k + 1) y0 y1 y2 y3 y4))
 | 0 => fun _ _ _ _ _ r h => by simp [impl_EdgesFrom.l0] at h
 | k + 1 => by
  have ih0 := impl_EdgesFrom.mono_l k
  ·intro y0 y1 y2 y3 y4; unfold impl_EdgesFrom.l0; exact Lm1 ih0
theorem impl_EdgesFrom.mono : ∀ a0 a1 a2 a3 k, LeO (impl_EdgesFrom.f k a0 a1 a2 a3) (impl_EdgesFrom.f (k + 1) a0 a1 a2 a3) := by
 intro a0 a1 a2 a3 k
 have ih0 := impl_EdgesFrom.mono_l k
 unfold impl_EdgesFrom.f
 exact Lm1 ih0
theorem impl_EdgesFrom.calls (k : Nat) (A0_0 : Option Addr) (c0_0 : Nat) (l0_0 : List ByteArray) (a0_1 : Int) (A0_2 : Option Addr) (c0_2 : Nat) (l0_2 : List (S52)) (a1 : Int) (r : List Int) (w : World) (hr0_0 : Kd.C Qe w A0_0 l0_0.length l0_0) (hc0_0 : l0_0.length ≤ c0_0) (hr0_2 : Kd.C k52 w A0_2 l0_2.length l0_2) (hc0_2 : l0_2.length ≤ c0_2) (h : impl_EdgesFrom.f k l0_0 a0_1 l0_2 a1 = some r) :
  Calls Qo 22 #[.agg #[.slice A0_0 l0_0.length c0_0, .int .i64 a0_1, .slice A0_2 l0_2.length c0_2], .int .i64 a1] w fun e w' => ∃ v0_ : Value, e = .returned (v0_) ∧ Kd.R (Zw .i64) 3 w' w.heap.size (fun _ => True) v0_ r ∧ Qz w.heap.size w w' := by
 have hu30 := Ql
 have hu52 := Tryz.underlying52
 have HR0_0 := Qa hr0_0
 have HC0_0 := Qa hc0_0
 clear hr0_0 hc0_0
 have HR0_2 := Qa hr0_2
 have HC0_2 := Qa hc0_2
 clear hr0_2 hc0_2
 have HB := Qa (Qs w.heap.size w)
 have H : (impl_EdgesFrom.l0 k a1 (([] : List Int)) l0_2 (l0_2.length : Int) 0) = some r := h
 clear h
 obtain ⟨y47, hy47⟩ : ∃ y_ : List Int, y_ = (([] : List Int)) := ⟨_, rfl⟩
 replace H : (impl_EdgesFrom.l0 k a1 y47 l0_2 (l0_2.length : Int) 0) = some r := Zh hy47 H
 have Ny47 := Qa hy47
 clear hy47
 have H' := Qa H
 clear H
 go_enter Tryz.func22, Tryz.ntmps22
 go_wp2_with (first | ((with_reducible refine Qk (N := 2) rfl ?_); refine Bx (N := 2) (cs := #[.slice A0_0 l0_0.length c0_0, .int .i64 a0_1, .slice A0_2 l0_2.length c0_2]) (t := 30) ?_; intro gb29 hg w3 hbox hb; have BK29 := Qa (hbox); have GW29 := Gs (w := w) hg (Bb0 HB.out); have GE29 := GW29; replace HB := Sb (Bb0 HB.out) hb; clear hb hbox hg) | ((with_reducible refine Qk (N := 8) rfl ?_); refine Kd.R_lit (Zw .i64) _ 3 ?hg (N := 8) ?hd (xs := ([] : List Int)) (inner := []) (ok := fun _ => True) (okp := fun _ => True) ?hr ?hp (fun _ hk => hk) trivial (Qs _ _) (Nat.le_refl _) (by simp) ?_; (case hd => rfl); (case hg => rfl); (case hr => first | (go_simp; done) | (go_simp; rfl)); (case hp => exact (Reps.none _ _)); intro v86 w4 ho5 hb hg_ hnew_; clear hg_ hnew_; (first | rw [← Ny47.out] at ho5 | (simp only [Int.reduceToNat] at ho5; rw [← Ny47.out] at ho5)); have HO79 := Lw ho5 (Bb1 HB.out GE29.out); replace BK29 := Kb BK29 hb; replace HB := Sb (Bb1 HB.out GE29.out) hb; clear hb ho5; obtain ⟨q6_0, q6_1, q6_2, u6_0, u6_1, u6_2⟩ := Cf3 BK29))
 go_loopg [5, 12] k (fun kq v5 v12 w' => ∃ (x5_1 : List Int) (x12_1 : Int), v12 = .int .i64 x12_1 ∧ Qg (impl_EdgesFrom.l0 kq a1 x5_1 l0_2 (l0_2.length : Int) x12_1 = some r) ∧ Qg (kq ≤ k) ∧ Qg (Kd.R (Zw .i64) 3 w' w.heap.size (fun _ => True) v5 x5_1) ∧ Qg (w'.heap[gb29]? = some (.cells #[(.slice A0_0 l0_0.length c0_0), .int .i64 a0_1, (.slice A0_2 l0_2.length c0_2)] 30 (0, 0))) ∧ Qg (Qz w.heap.size w w'))
 case atStart => exact ⟨(y47), (0), Zf, H', ⟨Nat.le_refl _⟩, ⟨Br HO79.out⟩, ⟨Ba BK29.out⟩, ⟨Bb1 HB.out GE29.out⟩⟩
 case round =>
  clear H'; (try clear c2)
  (try clear p2)
  (try clear q6_0)
  (try clear q6_1)
  (try clear q6_2)
  (try clear u6_0)
  (try clear u6_1)
  (try clear u6_2)
  obtain ⟨x5_1, x12_1, rfl, HA, HK1, HO_5, BK29, HB⟩ := hrel; cases gk with
  | zero => exact absurd HA.out (by simp [impl_EdgesFrom.l0])
  | succ k1 =>
   have H := HA.out; clear HA; simp only [impl_EdgesFrom.l0] at H; by_cases c7 : x12_1 < (l0_2.length : Int)
   ·rw [if_pos c7] at H; replace c7 := decide_eq_true c7; by_cases c8 : 0 ≤ x12_1
    ·rw [if_pos c8] at H; replace c8 := decide_eq_true c8; by_cases c9 : x12_1 < (l0_2.length : Int)
     ·rw [if_pos c9] at H; replace c9 := decide_eq_true c9; by_cases c10 : ((rd_T52 l0_2 x12_1).f0) = a1
      ·rw [if_pos c10] at H; have c10b0 := beq_iff_eq.mpr c10; have c10b1 := bne_eq_false_iff_eq.mpr c10; clear c10; by_cases c11 : x5_1.length < 17592186044416
       ·rw [if_pos c11] at H; have LMc11 := Qa c11; clear c11; obtain ⟨y49, hy49⟩ : ∃ y_ : List Int, y_ = (x5_1 ++ [x12_1]) := ⟨_, rfl⟩; replace H : (impl_EdgesFrom.l0 k1 a1 y49 l0_2 (l0_2.length : Int) (Qf (x12_1 + 1))) = some r := Zh hy49 H; have Ny49 := Qa hy49; clear hy49; have H' := Qa H; clear H; have p28 : 0 ≤ (x12_1 : Int) := Da; have q28 : x12_1 < (l0_2.length : Int) := Da; obtain ⟨ad28, e28, hx28_0, hx28_1, hx28_2, hx28_3, hx28_4⟩ := at_T52 HR0_2.out x12_1 p28 q28; cases e28
        replace hx28_0 := Cx HB hx28_0; replace hx28_1 := Cx HB hx28_1; replace hx28_2 := Cx HB hx28_2; replace hx28_3 := Cx HB hx28_3; replace hx28_4 := Cx HB hx28_4; replace p28 := eq_true p28; replace q28 := eq_true q28; go_wp2_with (first | ((with_reducible refine Qk (N := 7) rfl ?_); refine Bx (N := 7) (cs := #[.int .i64 0, .int .i64 0, .int .i64 0, .string (⟨#[]⟩ : ByteArray), .string (⟨#[]⟩ : ByteArray)]) (t := 52) ?_; intro gb34 hg w12 hbox hb; replace HO_5 := Rb HO_5 hb; have BK34 := Qa (hbox); have GW34 := Gs (w := w) hg (Bb1 HB.out GE29.out); have GE34 := GW34; replace HB := Sb (Bb1 HB.out GE29.out) hb; have NB29_34 := Nl hg BK29; have NB34_29 := Ng hg BK29; replace BK29 := Kb BK29 hb; clear hb hbox hg; have hnb13 := NB34_29.out; have hnc13 := NB29_34.out; obtain ⟨q14_0, q14_1, q14_2, q14_3, q14_4, u14_0, u14_1, u14_2, u14_3, u14_4⟩ := Cf5 BK34) | ((with_reducible refine gate_builtin (b := .append) (xs := #[.tmp 21, .tmp 23]) rfl ?_); at_builtin; refine Kd.R_append (Zw .i64) (w0 := w) w.heap.size rfl (.tmp 21) (.tmp 23) 45 3 (.int .i64 0) 8 rfl Tryz.underlying45 info3 rfl (by decide) (by omega) u5 x5_1 x12_1 [.int .i64 x12_1] (fun _ => True) (fun _ => False) rfl Zg ?aP (fun _ hk => hk.elim) ?aF ?aO ?aB ?aS ?aL ?_; (case aP => exact rfl); (case aB => exact (Bb2 HB.out GE29.out GE34.out)); (case aF => exact (fun _ _ => trivial)); (case aO => exact (Rs (Qd HO_5.out BK34.out (by decide)))); (case aS => exact (Qw (Bb2 HB.out GE29.out GE34.out))); (case aL => have := LMc11.out; omega); intro v87 w15 ho hb hg hat; rw [← Ny49.out] at ho; replace BK29 := Qa (blk_grown (g := gb29) (o := .cells #[.slice A0_0 l0_0.length c0_0, .int .i64 a0_1, .slice (some ad28) l0_2.length c0_2] 30 (0, 0)) (Bf BK29.out NB29_34.out) hg (Kd.R_ne HO_5.out BK29.out (by decide))); replace BK34 := Qa (blk_grown (g := gb34) (o := .cells #[.int .i64 ((rd_T52 l0_2 x12_1).f0), .int .i64 ((rd_T52 l0_2 x12_1).f1), .int .i64 ((rd_T52 l0_2 x12_1).f2.f0), .string ((rd_T52 l0_2 x12_1).f2.f1), .string ((rd_T52 l0_2 x12_1).f2.f2)] 52 (0, 0)) (Bq BK34.out) hg (Kd.R_ne HO_5.out BK34.out (by decide))); replace HB := Qa (hb); have HO80 := Qa (ho); clear HO_5; clear ho hb hg hat)); go_roundg k1
        case measure => have := HK1.out; omega
        case rel => exact ⟨(y49), (Qf (x12_1 + 1)), Zf, H', ⟨by have := HK1.out; omega⟩, ⟨Br HO80.out⟩, ⟨Ba BK29.out⟩, ⟨Bb2 HB.out GE29.out GE34.out⟩⟩
       ·rw [if_neg c11] at H; exact absurd H (by simp)
      ·rw [if_neg c10] at H; have c10b0 := beq_eq_false_iff_ne.mpr c10; have c10b1 := bne_iff_ne.mpr c10; have H' := Qa H; clear H; have p28 : 0 ≤ (x12_1 : Int) := Da; have q28 : x12_1 < (l0_2.length : Int) := Da; obtain ⟨ad28, e28, hx28_0, hx28_1, hx28_2, hx28_3, hx28_4⟩ := at_T52 HR0_2.out x12_1 p28 q28; cases e28
       replace hx28_0 := Cx HB hx28_0; replace hx28_1 := Cx HB hx28_1; replace hx28_2 := Cx HB hx28_2; replace hx28_3 := Cx HB hx28_3; replace hx28_4 := Cx HB hx28_4; replace p28 := eq_true p28; replace q28 := eq_true q28; go_wp2_with (first | ((with_reducible refine Qk (N := 7) rfl ?_); refine Bx (N := 7) (cs := #[.int .i64 0, .int .i64 0, .int .i64 0, .string (⟨#[]⟩ : ByteArray), .string (⟨#[]⟩ : ByteArray)]) (t := 52) ?_; intro gb34 hg w16 hbox hb; replace HO_5 := Rb HO_5 hb; have BK34 := Qa (hbox); have GW34 := Gs (w := w) hg (Bb1 HB.out GE29.out); have GE34 := GW34; replace HB := Sb (Bb1 HB.out GE29.out) hb; have NB29_34 := Nl hg BK29; have NB34_29 := Ng hg BK29; replace BK29 := Kb BK29 hb; clear hb hbox hg; have hnb17 := NB34_29.out; have hnc17 := NB29_34.out; obtain ⟨q18_0, q18_1, q18_2, q18_3, q18_4, u18_0, u18_1, u18_2, u18_3, u18_4⟩ := Cf5 BK34)); go_roundg k1
       case measure => have := HK1.out; omega
       case rel => exact ⟨(x5_1), (Qf (x12_1 + 1)), Zf, H', ⟨by have := HK1.out; omega⟩, ⟨Rs (Qd HO_5.out BK34.out (by decide))⟩, ⟨Bf BK29.out NB29_34.out⟩, ⟨Bb2 HB.out GE29.out GE34.out⟩⟩
     ·rw [if_neg c9] at H; exact absurd H (by simp)
    ·rw [if_neg c8] at H; exact absurd H (by simp)
   ·rw [if_neg c7] at H; replace c7 := decide_eq_false c7; obtain rfl := Option.some.inj H; go_wp2; go_ret; exact ⟨_, Ze, Br HO_5.out, Bb1 HB.out GE29.out⟩
end Go.Proofs.YtndkkpjofddfjaaGreatDoor.PFnPrograms
