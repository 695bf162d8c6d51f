/- A part of the walk through the printed functions; no condition. -/
import Derived.Test.YtndkkpjofddfjaaGreatDoorXAuto
import Derived.Test.YtndkkpjofddfjaaGreatDoorPFnExactParseProgramx0
import Derived.Test.YtndkkpjofddfjaaGreatDoorPFnExactParseProgramx8
import Derived.Test.YtndkkpjofddfjaaGreatDoorPFnExactParseProgramx9
namespace Go.Proofs.YtndkkpjofddfjaaGreatDoor.PFnExactParseProgram
open Go.RowKit Go.Proofs.YtndkkpjofddfjaaGreatDoorW.PrintWords Go.Proofs.YtndkkpjofddfjaaGreatDoorW.PrintLast Go.Proofs.YtndkkpjofddfjaaGreatDoorW.PrintMore
attribute [local go_sem] max2_int min2_int max_two min_two max_three min_three max_four min_four
set_option maxHeartbeats 32000000
set_option maxRecDepth 100000
attribute [local irreducible] Go.World.setCell
set_option linter.unusedVariables false
set_option linter.unusedSimpArgs false
open Go.Proofs.YtndkkpjofddfjaaGreatDoorW.PrintWords.Aside0 renaming mk → Qa
open Go.Proofs.Tryz renaming prog → Qm, underlying50 → Qu
open Go.RowKit.Below renaming refl → Qq
def impl_IsProgram.f (k : Nat) (l0_0 : List ByteArray) (a0_1 : Int) (l0_2 : List (S52)) : Option (Bool) := (impl_AreVars.f k l0_0).bind fun t27 => (if t27 = true then ((impl_within.f a0_1 1 12).bind fun t28 => (if t28 = true then (if (l0_2.length : Int) > 24 then (some false) else ((impl_Edge_IsProgram_1_54.f k l0_2 l0_0 a0_1 l0_2).bind fun t29 => (some (!t29)))) else (some false))) else (some false))
theorem impl_IsProgram.mono : ∀ a0 a1 a2 k, LeO (impl_IsProgram.f k a0 a1 a2) (impl_IsProgram.f (k + 1) a0 a1 a2) := by
 intro a0 a1 a2 k
 unfold impl_IsProgram.f
 exact Lm2 impl_AreVars.mono impl_Edge_IsProgram_1_54.mono
theorem impl_IsProgram.calls (k : Nat) (A0_0 : Option Addr) (c0_0 : Nat) (l0_0 : List ByteArray) (a0_1 : Int) (A0_2 : Option Addr) (c0_2 : Nat) (l0_2 : List (S52)) (r : Bool) (w : World) (hr0_0 : Kd.C Kd.string w A0_0 l0_0.length l0_0) (hc0_0 : l0_0.length ≤ c0_0) (hr0_2 : Kd.C k52 w A0_2 l0_2.length l0_2) (hc0_2 : l0_2.length ≤ c0_2) (h : impl_IsProgram.f k l0_0 a0_1 l0_2 = some r) :
  Calls Qm 17 #[.agg #[.slice A0_0 l0_0.length c0_0, .int .i64 a0_1, .slice A0_2 l0_2.length c0_2]] w fun e w' => e = .returned (.bool r) ∧ Below w.heap.size w w' := by
 have hu30 := Tryz.underlying30
 have HR0_0 := Qa hr0_0
 have HC0_0 := Qa hc0_0
 clear hr0_0 hc0_0
 have HR0_2 := Qa hr0_2
 have HC0_2 := Qa hc0_2
 clear hr0_2 hc0_2
 have HB := Qa (Qq w.heap.size w)
 have H : ((impl_AreVars.f k l0_0).bind fun t27 => (if t27 = true then ((impl_within.f a0_1 1 12).bind fun t28 => (if t28 = true then (if (l0_2.length : Int) > 24 then (some false) else ((impl_Edge_IsProgram_1_54.f k l0_2 l0_0 a0_1 l0_2).bind fun t29 => (some (!t29)))) else (some false))) else (some false))) = some r := h
 clear h
 obtain ⟨t27, A2, H⟩ := Ob H
 (try dsimp only at H)
 by_cases c3 : t27 = true
 ·subst c3
  rw [if_pos rfl] at H; obtain ⟨t28, A4, H⟩ := Ob H; (try dsimp only at H)
  by_cases c5 : t28 = true
  ·subst c5; rw [if_pos rfl] at H; by_cases c6 : (l0_2.length : Int) > 24
   ·rw [if_pos c6] at H; have c6b0 := decide_eq_true c6; have c6b1 : decide (24 < l0_2.length) = true := decide_eq_true (by omega); clear c6; obtain rfl := Option.some.inj H; go_enter Tryz.func17, Tryz.ntmps17; go_wp2_with (first | ((with_reducible refine gate_dst (N := 1) rfl ?_); (try (refine gate_guard (by rfl) ?_; dsimp only)); refine Bx (N := 1) (cs := #[.slice A0_0 l0_0.length c0_0, .int .i64 a0_1, .slice A0_2 l0_2.length c0_2]) (t := 30) ?_; intro gb22 hg w7 hbox hb; have BK22 := Qa (hbox); have GW22 := Gs (w := w) hg (Bb0 HB.out); have GE22 := GW22; replace HB := Sb (Bb0 HB.out) hb; clear hb hbox hg; obtain ⟨q8_0, q8_1, q8_2, u8_0, u8_1, u8_2⟩ := Cf3 BK22) | ((with_reducible refine gate_callee (f := 52) rfl ?_); refine Gl 5 Tryz.func52 #[.slice A0_0 l0_0.length c0_0] ?_; (with_reducible refine (impl_AreVars.calls k _ _ l0_0 true _ ?side1 ?side2 A2.out).mono ?_); (case side1 => exact Bc (Kd.C_below HR0_0.out HB.out)); (case side2 => exact HC0_0.out); rintro e w' ⟨rfl, ⟨nd, rfl⟩⟩; refine ⟨_, rfl, ?_⟩) | (go_at_call 53; (with_reducible refine (impl_within.calls a0_1 1 12 true _ A4.out).mono ?_); rintro e w' ⟨rfl, ⟨nd, rfl⟩⟩)); go_ret; exact ⟨Ze, Bb1 HB.out GE22.out⟩
   ·rw [if_neg c6] at H; have c6b0 := decide_eq_false c6; have c6b1 : decide (24 < l0_2.length) = false := decide_eq_false (by omega); clear c6; obtain ⟨t29, A9, H⟩ := Ob H; (try dsimp only at H)
    obtain rfl := Option.some.inj H; go_enter Tryz.func17, Tryz.ntmps17; go_wp2_with (first | ((with_reducible refine gate_dst (N := 1) rfl ?_); (try (refine gate_guard (by rfl) ?_; dsimp only)); refine Bx (N := 1) (cs := #[.slice A0_0 l0_0.length c0_0, .int .i64 a0_1, .slice A0_2 l0_2.length c0_2]) (t := 30) ?_; intro gb22 hg w10 hbox hb; have BK22 := Qa (hbox); have GW22 := Gs (w := w) hg (Bb0 HB.out); have GE22 := GW22; replace HB := Sb (Bb0 HB.out) hb; clear hb hbox hg; obtain ⟨q11_0, q11_1, q11_2, u11_0, u11_1, u11_2⟩ := Cf3 BK22) | ((with_reducible refine gate_callee (f := 52) rfl ?_); refine Gl 5 Tryz.func52 #[.slice A0_0 l0_0.length c0_0] ?_; (with_reducible refine (impl_AreVars.calls k _ _ l0_0 true _ ?side1 ?side2 A2.out).mono ?_); (case side1 => exact Bc (Kd.C_below HR0_0.out HB.out)); (case side2 => exact HC0_0.out); rintro e w' ⟨rfl, ⟨nd, rfl⟩⟩; refine ⟨_, rfl, ?_⟩) | (go_at_call 53; (with_reducible refine (impl_within.calls a0_1 1 12 true _ A4.out).mono ?_); rintro e w' ⟨rfl, ⟨nd, rfl⟩⟩) | ((with_reducible refine gate_callee (f := 54) rfl ?_); refine Gl 22 Tryz.func54 #[.slice A0_2 l0_2.length c0_2, .func (.func 55) #[] #[.pointer (some ⟨gb22, 0, none⟩)]] ?_; (with_reducible refine (impl_Edge_IsProgram_1_54.calls k _ _ l0_2 gb22 A0_0 c0_0 l0_0 a0_1 A0_2 c0_2 l0_2 t29 _ ?side1 ?side2 ?side3 ?side4 ?side5 ?side6 ?side7 ?side8 ?side9 A9.out).mono ?_); (case side1 => exact Bc (Kd.C_below HR0_2.out (Bb1 HB.out GE22.out))); (case side2 => exact HC0_2.out); (case side3 => exact Bc (Kd.C_below HR0_0.out (Bb1 HB.out GE22.out))); (case side4 => exact HC0_0.out); (case side5 => exact Bc (Kd.C_below HR0_2.out (Bb1 HB.out GE22.out))); (case side6 => exact HC0_2.out); (case side7 => exact (blk_cell (g := gb22) (cs := #[.slice A0_0 l0_0.length c0_0, .int .i64 a0_1, .slice A0_2 l0_2.length c0_2]) (t := 30) (Ba BK22.out) 0).trans rfl); (case side8 => exact (blk_cell (g := gb22) (cs := #[.slice A0_0 l0_0.length c0_0, .int .i64 a0_1, .slice A0_2 l0_2.length c0_2]) (t := 30) (Ba BK22.out) 1).trans rfl); (case side9 => exact (blk_cell (g := gb22) (cs := #[.slice A0_0 l0_0.length c0_0, .int .i64 a0_1, .slice A0_2 l0_2.length c0_2]) (t := 30) (Ba BK22.out) 2).trans rfl); rintro e w12 ⟨rfl, hb⟩; refine ⟨_, rfl, ?_⟩; replace BK22 := Kb BK22 hb; replace HB := Sb (Bb1 HB.out GE22.out) hb; clear hb)); go_ret; exact ⟨Ze, Bb1 HB.out GE22.out⟩
  ·replace c5 := Bool.eq_false_iff.mpr c5; subst c5; rw [if_neg (show ¬ (false = true) by decide)] at H; obtain rfl := Option.some.inj H; go_enter Tryz.func17, Tryz.ntmps17; go_wp2_with (first | ((with_reducible refine gate_dst (N := 1) rfl ?_); (try (refine gate_guard (by rfl) ?_; dsimp only)); refine Bx (N := 1) (cs := #[.slice A0_0 l0_0.length c0_0, .int .i64 a0_1, .slice A0_2 l0_2.length c0_2]) (t := 30) ?_; intro gb22 hg w13 hbox hb; have BK22 := Qa (hbox); have GW22 := Gs (w := w) hg (Bb0 HB.out); have GE22 := GW22; replace HB := Sb (Bb0 HB.out) hb; clear hb hbox hg; obtain ⟨q14_0, q14_1, q14_2, u14_0, u14_1, u14_2⟩ := Cf3 BK22) | ((with_reducible refine gate_callee (f := 52) rfl ?_); refine Gl 5 Tryz.func52 #[.slice A0_0 l0_0.length c0_0] ?_; (with_reducible refine (impl_AreVars.calls k _ _ l0_0 true _ ?side1 ?side2 A2.out).mono ?_); (case side1 => exact Bc (Kd.C_below HR0_0.out HB.out)); (case side2 => exact HC0_0.out); rintro e w' ⟨rfl, ⟨nd, rfl⟩⟩; refine ⟨_, rfl, ?_⟩) | (go_at_call 53; (with_reducible refine (impl_within.calls a0_1 1 12 false _ A4.out).mono ?_); rintro e w' ⟨rfl, ⟨nd, rfl⟩⟩)); go_ret; exact ⟨Ze, Bb1 HB.out GE22.out⟩
 ·replace c3 := Bool.eq_false_iff.mpr c3
  subst c3; rw [if_neg (show ¬ (false = true) by decide)] at H; obtain rfl := Option.some.inj H; go_enter Tryz.func17, Tryz.ntmps17; go_wp2_with (first | ((with_reducible refine gate_dst (N := 1) rfl ?_); (try (refine gate_guard (by rfl) ?_; dsimp only)); refine Bx (N := 1) (cs := #[.slice A0_0 l0_0.length c0_0, .int .i64 a0_1, .slice A0_2 l0_2.length c0_2]) (t := 30) ?_; intro gb22 hg w15 hbox hb; have BK22 := Qa (hbox); have GW22 := Gs (w := w) hg (Bb0 HB.out); have GE22 := GW22; replace HB := Sb (Bb0 HB.out) hb; clear hb hbox hg; obtain ⟨q16_0, q16_1, q16_2, u16_0, u16_1, u16_2⟩ := Cf3 BK22) | ((with_reducible refine gate_callee (f := 52) rfl ?_); refine Gl 5 Tryz.func52 #[.slice A0_0 l0_0.length c0_0] ?_; (with_reducible refine (impl_AreVars.calls k _ _ l0_0 false _ ?side1 ?side2 A2.out).mono ?_); (case side1 => exact Bc (Kd.C_below HR0_0.out HB.out)); (case side2 => exact HC0_0.out); rintro e w' ⟨rfl, ⟨nd, rfl⟩⟩; refine ⟨_, rfl, ?_⟩)); go_ret; exact ⟨Ze, Bb1 HB.out GE22.out⟩
def strings_Join.f (l0 : List ByteArray) (a1 : ByteArray) : Option ByteArray := if l0.length ≤ 140737488355328 ∧ (Go.Lib.join (l0.map (·.data.toList)) a1.data.toList).length ≤ 140737488355328 then some ⟨(Go.Lib.join (l0.map (·.data.toList)) a1.data.toList).toArray⟩ else none
theorem strings_Join.calls (A0 : Option Addr) (c0 : Nat) (l0 : List ByteArray) (a1 : ByteArray) (r : ByteArray) (w : World) (hr0 : Kd.C Kd.string w A0 l0.length l0) (hc0 : l0.length ≤ c0) (h : strings_Join.f l0 a1 = some r) :
  Calls Qm 71 #[.slice A0 l0.length c0, .string a1] w fun e w' => e = .returned (.string r) ∧ Below w.heap.size w w' := by
 unfold strings_Join.f at h
 split at h
 case isFalse => cases h
 case isTrue hl =>
 obtain rfl := Option.some.inj h
 have hR := Kd.reads_of_C (enc := Value.string) (d := ByteArray.empty) (h1 := fun _ => rfl) hr0
 cases l0 with
 | nil =>
  refine (Go.Proofs.YtndkkpjofddfjaaGreatDoorShelf.strings_Join_none A0 c0 a1 w).mono ?_; rintro e w' ⟨rfl, rfl⟩; exact ⟨rfl, Qq _ _⟩
 | cons x xs =>
  obtain ⟨ad, e, hc⟩ := hR.2.2 (by simp); subst e; have h0 := hc 0 (by simp); have hsp : ad.spot = none := by
   unfold World.cell? at h0; split at h0
   ·split at h0
    ·cases h0
    ·rename_i hs; exact Option.not_isSome_iff_eq_none.mp hs
   ·cases h0
  obtain ⟨bk, o, sp⟩ := ad; dsimp only at hsp; subst hsp; refine (Go.Proofs.YtndkkpjofddfjaaGreatDoorShelf.strings_Join bk o c0 (x :: xs) a1 w (fun j y hj => ?_) (World.block_lt_of_cell? w _ h0) hl.1 hc0 hl.2).mono ?_
  ·have hj' : j < (x :: xs).length := by
    rcases Nat.lt_or_ge j (x :: xs).length with h' | h'
    ·exact h'
    ·rw [List.getElem?_eq_none h'] at hj; cases hj
   have := hc j hj'; have hadd : Addr.add ⟨bk, o, none⟩ j = ⟨bk, o + j, none⟩ := by
    unfold Addr.add; by_cases hz : j = 0
    ·subst hz; rfl
    ·rw [if_neg hz]
   rw [hadd] at this; rw [this]; rw [List.getElem?_eq_getElem hj'] at hj; rw [List.getD_eq_getElem?_getD, List.getElem?_eq_getElem hj']; have := Option.some.inj hj; rw [← this]; rfl
  ·rintro e w' ⟨rfl, hb⟩; exact ⟨rfl, hb⟩
def impl_Join.f (l0 : List ByteArray) (a1 : ByteArray) : Option (ByteArray) := (strings_Join.f l0 a1).bind fun t31 => (some t31)
theorem impl_Join.calls (A0 : Option Addr) (c0 : Nat) (l0 : List ByteArray) (a1 : ByteArray) (r : ByteArray) (w : World) (hr0 : Kd.C Kd.string w A0 l0.length l0) (hc0 : l0.length ≤ c0) (h : impl_Join.f l0 a1 = some r) :
  Calls Qm 34 #[.slice A0 l0.length c0, .string a1] w fun e w' => e = .returned (.string r) ∧ Below w.heap.size w w' := by
 have HR0 := Qa hr0
 have HC0 := Qa hc0
 clear hr0 hc0
 have HB := Qa (Qq w.heap.size w)
 have H : ((strings_Join.f l0 a1).bind fun t31 => (some t31)) = some r := h
 clear h
 obtain ⟨t31, A3, H⟩ := Ob H
 (try dsimp only at H)
 obtain rfl := Option.some.inj H
 go_enter Tryz.func34, Tryz.ntmps34
 go_wp2_with (first | ((with_reducible refine gate_callee (f := 71) rfl ?_); refine Gl 7 Tryz.func71 #[.slice A0 l0.length c0, .string a1] ?_; (with_reducible refine (strings_Join.calls _ _ l0 a1 t31 _ ?side1 ?side2 A3.out).mono ?_); (case side1 => exact Bc HR0.out); (case side2 => exact HC0.out); rintro e w4 ⟨rfl, hb⟩; refine ⟨_, rfl, ?_⟩; replace HB := Sb (Bb0 HB.out) hb; clear hb))
 go_ret
 exact ⟨Ze, Bb0 HB.out⟩
def strconv_Itoa.f (a0 : Int) : Option ByteArray := if -9223372036854775808 ≤ a0 ∧ a0 ≤ 9223372036854775807 then some ⟨(Go.Lib.itoa a0).toArray⟩ else none
theorem strconv_Itoa.calls (a0 : Int) (r : ByteArray) (w : World) (hw_LaidI : LaidI w) (h : strconv_Itoa.f a0 = some r) :
  Calls Qm 72 #[.int .i64 a0] w fun e w' => e = .returned (.string r) ∧ Below w.heap.size w w' := by
 unfold strconv_Itoa.f at h
 split at h
 case isFalse => cases h
 case isTrue hl =>
 obtain rfl := Option.some.inj h
 refine (Go.Proofs.YtndkkpjofddfjaaGreatDoorShelf.strconv_Itoa a0 hl.1 hl.2 w hw_LaidI).mono ?_
 rintro e w' ⟨rfl, k, os, rfl⟩
 exact ⟨rfl, Go.Lib.below_grow _ w (Nat.le_refl _) k os⟩
def impl_FormatInt.f (a0 : Int) : Option (ByteArray) := (strconv_Itoa.f a0).bind fun t32 => (some t32)
theorem impl_FormatInt.calls (a0 : Int) (r : ByteArray) (w : World) (hw_LaidI : LaidI w) (h : impl_FormatInt.f a0 = some r) :
  Calls Qm 35 #[.int .i64 a0] w fun e w' => e = .returned (.string r) ∧ Below w.heap.size w w' := by
 have W_LaidI := Qa hw_LaidI
 clear hw_LaidI
 have HB := Qa (Qq w.heap.size w)
 have H : ((strconv_Itoa.f a0).bind fun t32 => (some t32)) = some r := h
 clear h
 obtain ⟨t32, A2, H⟩ := Ob H
 (try dsimp only at H)
 obtain rfl := Option.some.inj H
 go_enter Tryz.func35, Tryz.ntmps35
 go_wp2_with (first | ((with_reducible refine gate_callee (f := 72) rfl ?_); refine Gl 4 Tryz.func72 #[.int .i64 a0] ?_; (with_reducible refine (strconv_Itoa.calls a0 t32 _ ?side1 A2.out).mono ?_); (case side1 => exact Wl0 W_LaidI.out HB.out); rintro e w3 ⟨rfl, hb⟩; refine ⟨_, rfl, ?_⟩; replace HB := Sb (Bb0 HB.out) hb; clear hb))
 go_ret
 exact ⟨Ze, Bb0 HB.out⟩
def impl_Stmt_hasNames_IsName.l0 : Nat → Int → List ByteArray → Int → Int → Option (Bool)
 | 0, _, _, _, _ => none
 | k + 1, x5, x15, x16, x17 => if x17 < x16 then (if 0 ≤ x17 then (if x17 < (x15.length : Int) then (if x17 < x5 then ((impl_IsName.f k (rdOf ByteArray.empty x15 x17)).bind fun t33 => (if t33 = true then (if x17 ≥ x5 then (if (rdOf ByteArray.empty x15 x17).toList = ([] : List UInt8) then (impl_Stmt_hasNames_IsName.l0 k x5 x15 x16 (wrap64 (x17 + 1))) else (some false)) else (impl_Stmt_hasNames_IsName.l0 k x5 x15 x16 (wrap64 (x17 + 1)))) else (some false))) else (if x17 ≥ x5 then (if (rdOf ByteArray.empty x15 x17).toList = ([] : List UInt8) then (impl_Stmt_hasNames_IsName.l0 k x5 x15 x16 (wrap64 (x17 + 1))) else (some false)) else (impl_Stmt_hasNames_IsName.l0 k x5 x15 x16 (wrap64 (x17 + 1))))) else (none)) else (none)) else (some (decide (x5 ≥ 0)))
def impl_Stmt_hasNames_IsName.f (k : Nat) (a0_0 : Int) (a0_1 : ByteArray) (a0_2 : ByteArray)  : Option (Bool) := (impl_NamesOf.f a0_0).bind fun t25 => ((some (([a0_1, a0_2] : List ByteArray) : List ByteArray)).bind fun y23 => (impl_Stmt_hasNames_IsName.l0 k t25 y23 (y23.length : Int) 0))
theorem impl_Stmt_hasNames_IsName.mono_l : ∀ k, (∀ y0 y1 y2 y3, LeO (impl_Stmt_hasNames_IsName.l0 k y0 y1 y2 y3) (impl_Stmt_hasNames_IsName.l0 (k + 1) y0 y1 y2 y3))
 | 0 => fun _ _ _ _ r h => by simp [impl_Stmt_hasNames_IsName.l0] at h
 | k + 1 => by
  have ih0 := impl_Stmt_hasNames_IsName.mono_l k
  ·intro y0 y1 y2 y3; unfold impl_Stmt_hasNames_IsName.l0; exact Lm2 ih0 impl_IsName.mono
theorem impl_Stmt_hasNames_IsName.mono : ∀ a0 a1 a2 k, LeO (impl_Stmt_hasNames_IsName.f k a0 a1 a2) (impl_Stmt_hasNames_IsName.f (k + 1) a0 a1 a2) := by
 intro a0 a1 a2 k
 have ih0 := impl_Stmt_hasNames_IsName.mono_l k
 unfold impl_Stmt_hasNames_IsName.f
 exact Lm2 ih0 impl_IsName.mono
theorem impl_Stmt_hasNames_IsName.calls (k : Nat) (a0_0 : Int) (a0_1 : ByteArray) (a0_2 : ByteArray)  (r : Bool) (w : World) (h : impl_Stmt_hasNames_IsName.f k a0_0 a0_1 a0_2 = some r) :
  Calls Qm 73 #[.agg #[.int .i64 a0_0, .string a0_1, .string a0_2], .func (.func 74) #[] #[]] w fun e w' => e = .returned (.bool r) ∧ Below w.heap.size w w' := by
 have hu50 := Qu
 have HB := Qa (Qq w.heap.size w)
 have H : ((impl_NamesOf.f a0_0).bind fun t25 => ((some (([a0_1, a0_2] : List ByteArray) : List ByteArray)).bind fun y23 => (impl_Stmt_hasNames_IsName.l0 k t25 y23 (y23.length : Int) 0))) = some r := h
 clear h
 obtain ⟨t25, A3, H⟩ := Ob H
 (try dsimp only at H)
 obtain ⟨y23, hy23⟩ : ∃ y_ : List ByteArray, y_ = (([a0_1, a0_2] : List ByteArray)) := ⟨_, rfl⟩
 replace H : (impl_Stmt_hasNames_IsName.l0 k t25 y23 (y23.length : Int) 0) = some r := Zh hy23 H
 have Ny23 := Qa hy23
 clear hy23
 have H' := Qa H
 clear H
 go_enter Tryz.func73, Tryz.ntmps73
 go_wp2_with (first | ((with_reducible refine gate_dst (N := 2) rfl ?_); refine Bx (N := 2) (cs := #[.int .i64 a0_0, .string a0_1, .string a0_2]) (t := 50) ?_; intro gb24 hg w4 hbox hb; have BK24 := Qa (hbox); have GW24 := Gs (w := w) hg (Bb0 HB.out); have GE24 := GW24; replace HB := Sb (Bb0 HB.out) hb; clear hb hbox hg; obtain ⟨q5_0, q5_1, q5_2, u5_0, u5_1, u5_2⟩ := Cf3 BK24) | ((with_reducible refine gate_callee (f := 103) rfl ?_); refine Gl 10 Tryz.func103 #[.int .i64 a0_0] ?_; (with_reducible refine (impl_NamesOf.calls a0_0 t25 _ A3.out).mono ?_); rintro e w6 ⟨rfl, hb⟩; refine ⟨_, rfl, ?_⟩; replace BK24 := Kb BK24 hb; replace HB := Sb (Bb1 HB.out GE24.out) hb; clear hb; obtain ⟨q7_0, q7_1, q7_2, u7_0, u7_1, u7_2⟩ := Cf3 BK24) | ((with_reducible refine gate_dst (N := 15) rfl ?_); refine Kd.R_lit Kd.string _ 9 ?hg (N := 15) ?hd (xs := ([a0_1, a0_2] : List ByteArray)) (inner := [.string a0_1, .string a0_2]) (ok := fun _ => True) (okp := fun _ => True) ?hr ?hp (fun _ hk => hk) trivial (Qq _ _) (Nat.le_refl _) (by simp) ?_; (case hd => rfl); (case hg => rfl); (case hr => first | (go_simp; done) | (go_simp; rfl)); (case hp => exact (Reps.one (show Kd.M Kd.string _ _ _ a0_1 [.string a0_1] from rfl) (Reps.one (show Kd.M Kd.string _ _ _ a0_2 [.string a0_2] from rfl) (Reps.none _ _)))); intro v35 w8 ho9 hb hg_ hnew_; clear hg_ hnew_; (first | rw [← Ny23.out] at ho9 | (simp only [Int.reduceToNat] at ho9; rw [← Ny23.out] at ho9)); have HO34 := Lw ho9 (Bb1 HB.out GE24.out); replace BK24 := Kb BK24 hb; replace HB := Sb (Bb1 HB.out GE24.out) hb; clear hb ho9; obtain ⟨Ao10, co10, eo10⟩ := Kd.R_slice HO34.out; subst eo10))
 go_loopg [17] k (fun kq v17 w' => ∃ (x17_1 : Int), v17 = .int .i64 x17_1 ∧ Aside0 (impl_Stmt_hasNames_IsName.l0 kq t25 y23 (y23.length : Int) x17_1 = some r) ∧ Aside0 (kq ≤ k) ∧ Aside0 (Kd.R Kd.string 9 w' w.heap.size (fun _ => True) (.slice Ao10 y23.length co10) y23) ∧ Aside0 (w'.heap[gb24]? = some (.cells #[.int .i64 a0_0, .string a0_1, .string a0_2] 50 (0, 0))) ∧ Aside0 (Below w.heap.size w w'))
 case atStart => exact ⟨(0), Zf, H', ⟨Nat.le_refl _⟩, ⟨Br HO34.out⟩, ⟨Ba BK24.out⟩, ⟨Bb1 HB.out GE24.out⟩⟩
 case round =>
  clear H'; (try clear c1)
  (try clear p2)
  (try clear c9)
  (try clear c10)
  (try clear q5_0)
  (try clear q5_1)
  (try clear q5_2)
  (try clear q7_0)
  (try clear q7_1)
  (try clear q7_2)
  (try clear u5_0)
  (try clear u5_1)
  (try clear u5_2)
  (try clear u7_0)
  (try clear u7_1)
  (try clear u7_2)
  obtain ⟨x17_1, rfl, HA, HK1, HO_15, BK24, HB⟩ := hrel; cases gk with
  | zero => exact absurd HA.out (by simp [impl_Stmt_hasNames_IsName.l0])
  | succ k1 =>
   have H := HA.out; clear HA; simp only [impl_Stmt_hasNames_IsName.l0] at H; by_cases c11 : x17_1 < (y23.length : Int)
   ·rw [if_pos c11] at H; replace c11 := decide_eq_true c11; by_cases c12 : 0 ≤ x17_1
    ·rw [if_pos c12] at H; replace c12 := decide_eq_true c12; by_cases c13 : x17_1 < (y23.length : Int)
     ·rw [if_pos c13] at H; replace c13 := decide_eq_true c13; by_cases c14 : x17_1 < t25
      ·rw [if_pos c14] at H; replace c14 := decide_eq_true c14; obtain ⟨t33, A15, H⟩ := Ob H; (try dsimp only at H)
       by_cases c16 : t33 = true
       ·subst c16; rw [if_pos rfl] at H; by_cases c17 : x17_1 ≥ t25
        ·rw [if_pos c17] at H; replace c17 := decide_eq_true c17; by_cases c18 : (rdOf ByteArray.empty y23 x17_1).toList = ([] : List UInt8)
         ·rw [if_pos c18] at H; have c18b0 := beq_iff_eq.mpr c18; have c18b1 := bne_eq_false_iff_eq.mpr c18; clear c18; have H' := Qa H; clear H; have p21 : 0 ≤ (x17_1 : Int) := Da; have q21 : x17_1 < (y23.length : Int) := Da; obtain ⟨ad21, e21, hx21_0⟩ := Kd.at_string (Kd.R_reads' HO_15.out).2.2 x17_1 p21 q21; cases e21
          replace p21 := eq_true p21; replace q21 := eq_true q21; go_wp2_with (first | (go_at_call 74; (with_reducible refine (impl_IsName.calls k1 (rdOf ByteArray.empty y23 x17_1) true _ A15.out).mono ?_); rintro e w' ⟨rfl, ⟨nd, rfl⟩⟩)); go_roundg k1
          case measure => have := HK1.out; omega
          case rel => exact ⟨(wrap64 (x17_1 + 1)), Zf, H', ⟨by have := HK1.out; omega⟩, ⟨Br HO_15.out⟩, ⟨Ba BK24.out⟩, ⟨Bb1 HB.out GE24.out⟩⟩
         ·rw [if_neg c18] at H; have c18b0 := beq_eq_false_iff_ne.mpr c18; have c18b1 := bne_iff_ne.mpr c18; obtain rfl := Option.some.inj H; have p21 : 0 ≤ (x17_1 : Int) := Da; have q21 : x17_1 < (y23.length : Int) := Da; obtain ⟨ad21, e21, hx21_0⟩ := Kd.at_string (Kd.R_reads' HO_15.out).2.2 x17_1 p21 q21; cases e21
          replace p21 := eq_true p21; replace q21 := eq_true q21; go_wp2_with (first | (go_at_call 74; (with_reducible refine (impl_IsName.calls k1 (rdOf ByteArray.empty y23 x17_1) true _ A15.out).mono ?_); rintro e w' ⟨rfl, ⟨nd, rfl⟩⟩)); go_ret; exact ⟨Ze, Bb1 HB.out GE24.out⟩
        ·rw [if_neg c17] at H; replace c17 := decide_eq_false c17; have H' := Qa H; clear H; have p21 : 0 ≤ (x17_1 : Int) := Da; have q21 : x17_1 < (y23.length : Int) := Da; obtain ⟨ad21, e21, hx21_0⟩ := Kd.at_string (Kd.R_reads' HO_15.out).2.2 x17_1 p21 q21; cases e21
         replace p21 := eq_true p21; replace q21 := eq_true q21; go_wp2_with (first | (go_at_call 74; (with_reducible refine (impl_IsName.calls k1 (rdOf ByteArray.empty y23 x17_1) true _ A15.out).mono ?_); rintro e w' ⟨rfl, ⟨nd, rfl⟩⟩)); go_roundg k1
         case measure => have := HK1.out; omega
         case rel => exact ⟨(wrap64 (x17_1 + 1)), Zf, H', ⟨by have := HK1.out; omega⟩, ⟨Br HO_15.out⟩, ⟨Ba BK24.out⟩, ⟨Bb1 HB.out GE24.out⟩⟩
       ·replace c16 := Bool.eq_false_iff.mpr c16; subst c16; rw [if_neg (show ¬ (false = true) by decide)] at H; obtain rfl := Option.some.inj H; have p21 : 0 ≤ (x17_1 : Int) := Da; have q21 : x17_1 < (y23.length : Int) := Da; obtain ⟨ad21, e21, hx21_0⟩ := Kd.at_string (Kd.R_reads' HO_15.out).2.2 x17_1 p21 q21; cases e21
        replace p21 := eq_true p21; replace q21 := eq_true q21; go_wp2_with (first | (go_at_call 74; (with_reducible refine (impl_IsName.calls k1 (rdOf ByteArray.empty y23 x17_1) false _ A15.out).mono ?_); rintro e w' ⟨rfl, ⟨nd, rfl⟩⟩)); go_ret; exact ⟨Ze, Bb1 HB.out GE24.out⟩
      ·rw [if_neg c14] at H; replace c14 := decide_eq_false c14; by_cases c19 : x17_1 ≥ t25
       ·rw [if_pos c19] at H; replace c19 := decide_eq_true c19; by_cases c20 : (rdOf ByteArray.empty y23 x17_1).toList = ([] : List UInt8)
        ·rw [if_pos c20] at H; have c20b0 := beq_iff_eq.mpr c20; have c20b1 := bne_eq_false_iff_eq.mpr c20; clear c20; have H' := Qa H; clear H; have p21 : 0 ≤ (x17_1 : Int) := Da; have q21 : x17_1 < (y23.length : Int) := Da; obtain ⟨ad21, e21, hx21_0⟩ := Kd.at_string (Kd.R_reads' HO_15.out).2.2 x17_1 p21 q21; cases e21
         replace p21 := eq_true p21; replace q21 := eq_true q21; go_wp2; go_roundg k1
         case measure => have := HK1.out; omega
         case rel => exact ⟨(wrap64 (x17_1 + 1)), Zf, H', ⟨by have := HK1.out; omega⟩, ⟨Br HO_15.out⟩, ⟨Ba BK24.out⟩, ⟨Bb1 HB.out GE24.out⟩⟩
        ·rw [if_neg c20] at H; have c20b0 := beq_eq_false_iff_ne.mpr c20; have c20b1 := bne_iff_ne.mpr c20; obtain rfl := Option.some.inj H; have p21 : 0 ≤ (x17_1 : Int) := Da; have q21 : x17_1 < (y23.length : Int) := Da; obtain ⟨ad21, e21, hx21_0⟩ := Kd.at_string (Kd.R_reads' HO_15.out).2.2 x17_1 p21 q21; cases e21
         replace p21 := eq_true p21; replace q21 := eq_true q21; go_wp2; go_ret; exact ⟨Ze, Bb1 HB.out GE24.out⟩
       ·rw [if_neg c19] at H; replace c19 := decide_eq_false c19; have H' := Qa H; clear H; have p21 : 0 ≤ (x17_1 : Int) := Da; have q21 : x17_1 < (y23.length : Int) := Da; obtain ⟨ad21, e21, hx21_0⟩ := Kd.at_string (Kd.R_reads' HO_15.out).2.2 x17_1 p21 q21; cases e21
        replace p21 := eq_true p21; replace q21 := eq_true q21; go_wp2; go_roundg k1
        case measure => have := HK1.out; omega
        case rel => exact ⟨(wrap64 (x17_1 + 1)), Zf, H', ⟨by have := HK1.out; omega⟩, ⟨Br HO_15.out⟩, ⟨Ba BK24.out⟩, ⟨Bb1 HB.out GE24.out⟩⟩
     ·rw [if_neg c13] at H; exact absurd H (by simp)
    ·rw [if_neg c12] at H; exact absurd H (by simp)
   ·rw [if_neg c11] at H; replace c11 := decide_eq_false c11; obtain rfl := Option.some.inj H; go_wp2; go_ret; exact ⟨Ze, Bb1 HB.out GE24.out⟩
def impl_StmtText.f (k : Nat) (a0 : Int) (a1 a2 : ByteArray) : Option ByteArray := (impl_Stmt_hasNames_IsName.f k a0 a1 a2).bind fun t => if t = true then (if 1 ≤ a0 ∧ a0 ≤ 12 ∧ a1.size ≤ 2 ∧ a2.size ≤ 2 then some ⟨(Go.Proofs.YtndkkpjofddfjaaGreatDoorRepl.repl a1.data.toList a2.data.toList (Go.Proofs.YtndkkpjofddfjaaGreatDoorRepl.formList.getD (a0 - 1).toNat ByteArray.empty).data.toList).toArray⟩ else none) else some ⟨#[]⟩
theorem impl_StmtText.mono : ∀ a0 a1 a2 k, LeO (impl_StmtText.f k a0 a1 a2) (impl_StmtText.f (k + 1) a0 a1 a2) := fun a0 a1 a2 k => LeO.bind (impl_Stmt_hasNames_IsName.mono a0 a1 a2 k) (fun _ => LeO.refl _)
theorem impl_StmtText.calls (k : Nat) (a0 : Int) (a1 a2 : ByteArray) (r : ByteArray) (w : World) (h : impl_StmtText.f k a0 a1 a2 = some r) :
  Calls Qm 36 #[.agg #[.int .i64 a0, .string a1, .string a2]] w fun e w' => e = .returned (.string r) ∧ Below w.heap.size w w' := by
 unfold impl_StmtText.f at h
 obtain ⟨t, ht, h⟩ := Option.bind_eq_some_iff.mp h
 have hnames := fun w => impl_Stmt_hasNames_IsName.calls k a0 a1 a2 t w ht
 clear ht
 cases t with
 | true =>
  rw [if_pos rfl] at h; split at h
  case isFalse => cases h
  case isTrue hc =>
  obtain rfl := Option.some.inj h; obtain ⟨n, rfl⟩ : ∃ n : Nat, a0 = (n : Int) + 1 := ⟨(a0 - 1).toNat, by omega⟩; have hn : n < 12 := by omega
  have e : Go.Proofs.YtndkkpjofddfjaaGreatDoorRepl.formList.getD ((n : Int) + 1 - 1).toNat ByteArray.empty = Go.Proofs.YtndkkpjofddfjaaGreatDoorRepl.formList[n]'hn := by
   rw [show ((n : Int) + 1 - 1).toNat = n by omega, List.getD_eq_getElem?_getD, List.getElem?_eq_getElem (show n < Go.Proofs.YtndkkpjofddfjaaGreatDoorRepl.formList.length from hn)]; rfl
  rw [e]; exact Go.Proofs.YtndkkpjofddfjaaGreatDoorRepl.text_rest n hn a1 a2 hc.2.2.1 hc.2.2.2 w hnames
 | false =>
  rw [if_neg (by decide)] at h; obtain rfl := Option.some.inj h; have hu26 := Qu; go_enter Tryz.func36, Tryz.ntmps36; go_wp2_with (first
   | ((with_reducible refine gate_dst (N := 1) rfl ?_); refine Bx (N := 1) (cs := #[.int .i64 a0, .string a1, .string a2]) (t := 50) ?_; intro gb hgb W1 hbox hb1; have HB1 := Qa hb1; have q0 : W1.cell? ⟨gb, 0, none⟩ = some (.int .i64 a0) := (blk_cell hbox 0).trans rfl; have q1 : W1.cell? ⟨gb, 1, none⟩ = some (.string a1) := (blk_cell hbox 1).trans rfl; have q2 : W1.cell? ⟨gb, 2, none⟩ = some (.string a2) := (blk_cell hbox 2).trans rfl; clear hb1 hbox hgb)
   | (go_at_call 73; refine (hnames _).mono ?_; rintro e W2 ⟨rfl, hb2⟩; have HB2 := Qa (below_step HB1.out hb2); clear hb2 HB1))
  go_wp2; go_ret; exact ⟨rfl, HB2.out⟩
end Go.Proofs.YtndkkpjofddfjaaGreatDoor.PFnExactParseProgram
