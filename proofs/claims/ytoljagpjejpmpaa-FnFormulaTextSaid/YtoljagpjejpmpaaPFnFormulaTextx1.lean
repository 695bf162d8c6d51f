/- A part of the walk through the printed functions; no condition. -/
import Derived.Test.YtoljagpjejpmpaaXAuto
import Derived.Test.YtoljagpjejpmpaaPFnFormulaTextx0
namespace Go.Proofs.Ytoljagpjejpmpaa.PFnFormulaText
open Go.RowKit Go.Proofs.YtoljagpjejpmpaaW.PrintWords Go.Proofs.YtoljagpjejpmpaaW.PrintLast Go.Proofs.YtoljagpjejpmpaaW.PrintMore
attribute [local go_sem] max2_int min2_int max_two min_two max_three min_three max_four min_four
set_option maxHeartbeats 32000000
set_option maxRecDepth 100000
attribute [local irreducible] Go.World.setCell
set_option linter.unusedVariables false
set_option linter.unusedSimpArgs false
open Go.Proofs.YtoljagpjejpmpaaW.PrintWords.Aside0 renaming mk → Qa
open Go.Proofs.Try renaming underlying32 → Qh, prog → Qi
open Go.Proofs.YtoljagpjejpmpaaW.PrintWords.Drawn0 renaming refl → Ql, step → Qm
open Go renaming World → Qn, Calls → Zj
def headS (a : Int) : List UInt8 := if a = 1 then [116, 114, 117, 101] else if a = 2 then [111, 110, 32] else if a = 3 then [102, 114, 111, 109, 32] else if a = 4 then [115, 104, 97, 114, 101, 100, 58] else if a = 5 then [110, 101, 120, 116, 58] else if a = 6 then [115, 97, 109, 101, 58] else if a = 7 then [112, 97, 116, 104, 58] else if a = 11 then [115, 111, 109, 101, 32] else if a = 12 then [97, 108, 108, 32] else []
def headOf.f (a : Int) : Option ByteArray := if 1 ≤ a ∧ a ≤ 12 then some ⟨(headS a).toArray⟩ else none
theorem wpList_insert_own {H : Type} {P : Program} (w : Qn) {ops : Array Oper} {rest : List Oper} {o : Oper} {a : Act} {Q : Exit → Act → Qn → Prop}
  (hg : o.guard = none) (m x v : Operand) (t : TypeId) (hop : o.op = Op.insert t m x v)
  (k e : TypeId) (K : Go.Maps.Keyed P k) (ht : P.underlying t = some (.map k e)) (R : Value → Option (DataW H × List MemPlace)) (b n : Nat) (D : DataW H)
  (hm : a.eval m = .map (some b)) (hown : w.ownsMap P k R b n D) (hn : n < maxLen) (key val : Value) (kl : Lit) (hx : a.eval x = key) (hv : a.eval v = val) (hkey : keyOf P k key = some kl)
  (d : DataW H) (ps : List MemPlace) (hval : R val = some (d, ps))
  (hK : ∀ w', w'.ownsMap P k R b (n + 1) (D.put kl d) → w.grownBy w' (some b) → wpList P ops Q rest (a.put o.dst undef) w') :
  wpList P ops Q (o :: rest) a w := by
 refine wpList_plain hg fun K' hK' => ?_
 obtain ⟨w', hrun, r1, r2⟩ := hown.update K ht hn hkey hval
 unfold Oper.wp
 simp [execOp, hop, hm, hx, hv, hrun, Result.andThen]
 exact hK' _ _ (hK w' r1 r2)
def HD : DataW Unit := (((((((((DataW.map []).put (.int .i64 1) (.lit (.string [116, 114, 117, 101]))).put (.int .i64 2) (.lit (.string [111, 110, 32]))).put (.int .i64 3) (.lit (.string [102, 114, 111, 109, 32]))).put (.int .i64 4) (.lit (.string [115, 104, 97, 114, 101, 100, 58]))).put (.int .i64 5) (.lit (.string [110, 101, 120, 116, 58]))).put (.int .i64 6) (.lit (.string [115, 97, 109, 101, 58]))).put (.int .i64 7) (.lit (.string [112, 97, 116, 104, 58]))).put (.int .i64 11) (.lit (.string [115, 111, 109, 101, 32]))).put (.int .i64 12) (.lit (.string [97, 108, 108, 32]))
theorem HD_at (a : Int) (h0 : 1 ≤ a) (h1 : a ≤ 12) : HD.atKey (.int .i64 a) (.lit (.string [])) = .lit (.string (headS a)) := by
 have : a = 1 ∨ a = 2 ∨ a = 3 ∨ a = 4 ∨ a = 5 ∨ a = 6 ∨ a = 7 ∨ a = 8 ∨ a = 9 ∨ a = 10 ∨ a = 11 ∨ a = 12 := by omega
 rcases this with rfl | rfl | rfl | rfl | rfl | rfl | rfl | rfl | rfl | rfl | rfl | rfl <;> rfl
theorem plain9 (v : Value) : plainElem (H := Unit) Qi 9 v = match v with | .string s => if s.size ≤ maxLen then some (.lit (.string s.data.toList), []) else none | _ => none := by
 unfold plainElem
 rw [Try.underlying9]
 cases v <;> rfl
theorem str_of {v : Value} {l : List UInt8} {ps : List MemPlace} (hv : plainElem (H := Unit) Qi 9 v = some (.lit (.string l), ps)) : v = .string ⟨l.toArray⟩ := by
 rw [plain9] at hv
 split at hv
 ·rename_i s
  split at hv
  ·have h1 := Option.some.inj hv; have h2 := (Prod.mk.inj h1).1; injection h2 with h2; injection h2 with h2; rw [← h2]
  ·cases hv
 ·cases hv
theorem heads_own (w : Qn) : Zj Qi 83 #[] w fun e w' => ∃ m, e = .returned (.map (some m)) ∧ (∀ a, 1 ≤ a → a ≤ 12 → (Instr.lookup 95 (.map (some m)) (.int .i64 a) false).run Qi w' = .ok (.string ⟨(headS a).toArray⟩) w') ∧ Below w.heap.size w w' ∧ w.heap.size ≤ m ∧ w'.ownsMap Qi 3 (plainElem Qi 9) m 9 HD := by
 have hmm := @run_makeMap Qi
 have K3 : Go.Maps.Keyed Qi 3 := Go.Maps.int_keyed Try.underlying3
 have hz : ∀ w : Qn, (zeroValue 9).run Qi w = .ok (.string ⟨#[]⟩) w := fun w => by kernel_rfl
 have h0 := World.ownsMap_made (H := Unit) w Qi 3 (plainElem Qi 9)
 have b0 : Below w.heap.size w (w.alloc (.map #[] 0)) := below_alloc (Below.refl _ _) _
 have hm : maxLen = 9223372036854775807 := rfl
 obtain ⟨w1, r1, h1, g1⟩ := h0.update K3 Try.underlying95 (by omega) (key := .int .i64 1) (val := .string ⟨#[116, 114, 117, 101]⟩) (Go.Maps.keyOf_int_mk Try.underlying3 (by decide)) (plainElem_string Try.underlying9 (by decide))
 have b1 := b0.grown g1 b0.size (fun k hk => by cases hk; exact Nat.le_refl _)
 obtain ⟨w2, r2, h2, g2⟩ := h1.update K3 Try.underlying95 (by omega) (key := .int .i64 2) (val := .string ⟨#[111, 110, 32]⟩) (Go.Maps.keyOf_int_mk Try.underlying3 (by decide)) (plainElem_string Try.underlying9 (by decide))
 have b2 := b1.grown g2 b1.size (fun k hk => by cases hk; exact Nat.le_refl _)
 obtain ⟨w3, r3, h3, g3⟩ := h2.update K3 Try.underlying95 (by omega) (key := .int .i64 3) (val := .string ⟨#[102, 114, 111, 109, 32]⟩) (Go.Maps.keyOf_int_mk Try.underlying3 (by decide)) (plainElem_string Try.underlying9 (by decide))
 have b3 := b2.grown g3 b2.size (fun k hk => by cases hk; exact Nat.le_refl _)
 obtain ⟨w4, r4, h4, g4⟩ := h3.update K3 Try.underlying95 (by omega) (key := .int .i64 4) (val := .string ⟨#[115, 104, 97, 114, 101, 100, 58]⟩) (Go.Maps.keyOf_int_mk Try.underlying3 (by decide)) (plainElem_string Try.underlying9 (by decide))
 have b4 := b3.grown g4 b3.size (fun k hk => by cases hk; exact Nat.le_refl _)
 obtain ⟨w5, r5, h5, g5⟩ := h4.update K3 Try.underlying95 (by omega) (key := .int .i64 5) (val := .string ⟨#[110, 101, 120, 116, 58]⟩) (Go.Maps.keyOf_int_mk Try.underlying3 (by decide)) (plainElem_string Try.underlying9 (by decide))
 have b5 := b4.grown g5 b4.size (fun k hk => by cases hk; exact Nat.le_refl _)
 obtain ⟨w6, r6, h6, g6⟩ := h5.update K3 Try.underlying95 (by omega) (key := .int .i64 6) (val := .string ⟨#[115, 97, 109, 101, 58]⟩) (Go.Maps.keyOf_int_mk Try.underlying3 (by decide)) (plainElem_string Try.underlying9 (by decide))
 have b6 := b5.grown g6 b5.size (fun k hk => by cases hk; exact Nat.le_refl _)
 obtain ⟨w7, r7, h7, g7⟩ := h6.update K3 Try.underlying95 (by omega) (key := .int .i64 7) (val := .string ⟨#[112, 97, 116, 104, 58]⟩) (Go.Maps.keyOf_int_mk Try.underlying3 (by decide)) (plainElem_string Try.underlying9 (by decide))
 have b7 := b6.grown g7 b6.size (fun k hk => by cases hk; exact Nat.le_refl _)
 obtain ⟨w8, r8, h8, g8⟩ := h7.update K3 Try.underlying95 (by omega) (key := .int .i64 11) (val := .string ⟨#[115, 111, 109, 101, 32]⟩) (Go.Maps.keyOf_int_mk Try.underlying3 (by decide)) (plainElem_string Try.underlying9 (by decide))
 have b8 := b7.grown g8 b7.size (fun k hk => by cases hk; exact Nat.le_refl _)
 obtain ⟨w9, r9, h9, g9⟩ := h8.update K3 Try.underlying95 (by omega) (key := .int .i64 12) (val := .string ⟨#[97, 108, 108, 32]⟩) (Go.Maps.keyOf_int_mk Try.underlying3 (by decide)) (plainElem_string Try.underlying9 (by decide))
 have b9 := b8.grown g9 b8.size (fun k hk => by cases hk; exact Nat.le_refl _)
 have hD : w9.ownsMap Qi 3 (plainElem Qi 9) w.heap.size 9 HD := h9
 have hlook : ∀ a, 1 ≤ a → a ≤ 12 → (Instr.lookup 95 (.map (some w.heap.size)) (.int .i64 a) false).run Qi w9 = .ok (.string ⟨(headS a).toArray⟩) w9 := fun a l0 l1 => by
  have hwf : (Lit.int .i64 a).wf = true := by
   have : a = 1 ∨ a = 2 ∨ a = 3 ∨ a = 4 ∨ a = 5 ∨ a = 6 ∨ a = 7 ∨ a = 8 ∨ a = 9 ∨ a = 10 ∨ a = 11 ∨ a = 12 := by omega
   rcases this with rfl | rfl | rfl | rfl | rfl | rfl | rfl | rfl | rfl | rfl | rfl | rfl <;> decide
  obtain ⟨v, ps, hrun, hv⟩ := hD.lookup K3 Try.underlying95 (hz w9) (plainElem_string Try.underlying9 (by decide)) (Go.Maps.keyOf_int_mk Try.underlying3 hwf); have e := HD_at a l0 l1; have e' : HD.atKey (.int .i64 a) (.lit (.string (⟨#[]⟩ : ByteArray).data.toList)) = .lit (.string (headS a)) := e; rw [e'] at hv; rw [hrun]; rw [str_of hv]
 have HO := Qa hD
 clear h0 h1 h2 h3 h4 h5 h6 h7 h8 h9 g1 g2 g3 g4 g5 g6 g7 g8 g9 b0 b1 b2 b3 b4 b5 b6 b7 b8 hD hz
 have HL := Qa hlook
 have HB := Qa b9
 clear hlook b9
 go_enter Try.func83, Try.ntmps83
 go_wp2
 go_ret
 exact ⟨_, rfl, HL.out, HB.out, Nat.le_refl _, HO.out⟩
theorem heads_calls (w : Qn) : Zj Qi 83 #[] w fun e w' => ∃ m, e = .returned (.map (some m)) ∧ (∀ a, 1 ≤ a → a ≤ 12 → (Instr.lookup 95 (.map (some m)) (.int .i64 a) false).run Qi w' = .ok (.string ⟨(headS a).toArray⟩) w') ∧ Below w.heap.size w w' :=
 (heads_own w).mono (fun e w' ⟨m, h1, h2, h3, _⟩ => ⟨m, h1, h2, h3⟩)
def pfxB (h s : ByteArray) : Bool := decide (h.size ≤ s.size) && ((s.extract 0 h.size).toList == h.toList)
def headB (a : Int) : ByteArray := ⟨(headS a).toArray⟩
def kindOf (s : ByteArray) : Int := if pfxB (headB 1) s = true then 1 else if pfxB (headB 2) s = true then 2 else if pfxB (headB 3) s = true then 3 else if pfxB (headB 4) s = true then 4 else if pfxB (headB 5) s = true then 5 else if pfxB (headB 6) s = true then 6 else if pfxB (headB 7) s = true then 7 else if pfxB (headB 11) s = true then 11 else if pfxB (headB 12) s = true then 12 else 0
def isHead (a : Int) : Prop := a = 1 ∨ a = 2 ∨ a = 3 ∨ a = 4 ∨ a = 5 ∨ a = 6 ∨ a = 7 ∨ a = 11 ∨ a = 12
theorem pfxB_take {a : Int} {s : ByteArray} (ha : isHead a) (h : pfxB (headB a) s = true) : s.toList.take 2 = (headS a).take 2 := by
 unfold pfxB at h
 simp only [Bool.and_eq_true, decide_eq_true_eq, beq_iff_eq] at h
 have e : (headB a).toList = headS a := by simp [headB, ByteArray.toList_eq]
 have e2 : (s.extract 0 (headB a).size).toList = s.toList.take (headB a).size := by simp [ByteArray.toList_eq, ByteArray.data_extract]
 rw [e, e2] at h
 have hl : 2 ≤ (headB a).size := by rcases ha with rfl | rfl | rfl | rfl | rfl | rfl | rfl | rfl | rfl <;> decide
 rw [← h.2, List.take_take, Nat.min_eq_left hl]
theorem head_inj {a b : Int} (ha : isHead a) (hb : isHead b) (h : (headS a).take 2 = (headS b).take 2) : a = b := by
 rcases ha with rfl | rfl | rfl | rfl | rfl | rfl | rfl | rfl | rfl <;> rcases hb with rfl | rfl | rfl | rfl | rfl | rfl | rfl | rfl | rfl <;> first | rfl | (exfalso; revert h; decide)
theorem kindOf_cases (s : ByteArray) : (kindOf s = 0 ∧ ∀ a, isHead a → pfxB (headB a) s = false) ∨ (isHead (kindOf s) ∧ pfxB (headB (kindOf s)) s = true) := by
 unfold kindOf
 split
 ·right; rename_i h; exact ⟨by simp [isHead], h⟩
 split
 ·right; rename_i h; exact ⟨by simp [isHead], h⟩
 split
 ·right; rename_i h; exact ⟨by simp [isHead], h⟩
 split
 ·right; rename_i h; exact ⟨by simp [isHead], h⟩
 split
 ·right; rename_i h; exact ⟨by simp [isHead], h⟩
 split
 ·right; rename_i h; exact ⟨by simp [isHead], h⟩
 split
 ·right; rename_i h; exact ⟨by simp [isHead], h⟩
 split
 ·right; rename_i h; exact ⟨by simp [isHead], h⟩
 split
 ·right; rename_i h; exact ⟨by simp [isHead], h⟩
 left
 refine ⟨rfl, fun a ha => ?_⟩
 rcases ha with rfl | rfl | rfl | rfl | rfl | rfl | rfl | rfl | rfl <;> (rw [Bool.eq_false_iff]; assumption)
theorem kindOf_pfx {a : Int} {s : ByteArray} (ha : isHead a) (h : pfxB (headB a) s = true) : kindOf s = a := by
 rcases kindOf_cases s with ⟨_, h0⟩ | ⟨h1, h2⟩
 ·rw [h0 a ha] at h; cases h
 ·exact head_inj h1 ha ((pfxB_take h1 h2).symm.trans (pfxB_take ha h))
def HDl : List (Lit × DataW Unit) := match HD with | .map es => es | _ => []
theorem HD_list : HD = .map HDl := by rfl
theorem HD_keys : HDl.map Prod.fst = [.int .i64 1, .int .i64 2, .int .i64 3, .int .i64 4, .int .i64 5, .int .i64 6, .int .i64 7, .int .i64 11, .int .i64 12] := by rfl
theorem HD_has {a : Int} (h : Go.Maps.has HD (.int .i64 a) = true) : isHead a := by
 rw [HD_list, Go.Maps.has_eq, List.any_eq_true] at h
 obtain ⟨p, hp, hk⟩ := h
 have hm : p.1 ∈ HDl.map Prod.fst := List.mem_map.2 ⟨p, hp, rfl⟩
 rw [Go.WideAt.sameKey_eq hk, HD_keys] at hm
 simp only [List.mem_cons, List.not_mem_nil, or_false, Lit.int.injEq, true_and] at hm
 exact hm
theorem HD_is {a : Int} (h : isHead a) : Go.Maps.has HD (.int .i64 a) = true := by
 rcases h with rfl | rfl | rfl | rfl | rfl | rfl | rfl | rfl | rfl <;> rfl
mutual
def spec_l10Left.l0 : Nat → Int → Int → Int → Int → Int → Int → List (S32) → Option (Int)
 | 0, _, _, _, _, _, _, _ => none
 | k + 1, x1, x5, x22, x23, x24, x25, x16 => if x5 < (x16.length : Int) then (if x1 ≥ 0 then (if 0 ≤ x5 then ((spec_l10Left.f k ((rd_T32 x16 x5).f0) ((rd_T32 x16 x5).f1) ((rd_T32 x16 x5).f2) ((rd_T32 x16 x5).f3) ((rd_T32 x16 x5).f4) x1).bind fun t20 => (spec_l10Left.l0 k t20 (wrap64 (x5 + 1)) x22 x23 x24 x25 x16)) else (none)) else (some x1)) else (some x1)
def spec_l10Left.f : Nat → Int → Int → Int → Int → List (S32) → Int → Option (Int)
 | 0, _, _, _, _, _, _ => none
 | k + 1, a0_0, a0_1, a0_2, a0_3, l0_4, a1 => spec_l10Left.l0 k (wrap64 (a1 - 1)) 0 a0_0 a0_1 a0_2 a0_3 l0_4
end
theorem spec_l10Left.mono_l : ∀ k, (∀ y0 y1 y2 y3 y4 y5, LeO (spec_l10Left.f k y0 y1 y2 y3 y4 y5) (spec_l10Left.f (k + 1) y0 y1 y2 y3 y4 y5)) ∧ (∀ y0 y1 y2 y3 y4 y5 y6, LeO (spec_l10Left.l0 k y0 y1 y2 y3 y4 y5 y6) (spec_l10Left.l0 (k + 1) y0 y1 y2 y3 y4 y5 y6))
 | 0 => ⟨fun _ _ _ _ _ _ r h => by simp [spec_l10Left.f] at h, fun _ _ _ _ _ _ _ r h => by simp [spec_l10Left.l0] at h⟩
 | k + 1 => by
  obtain ⟨ih0, ih1⟩ := spec_l10Left.mono_l k; refine ⟨?_, ?_⟩
  ·intro y0 y1 y2 y3 y4 y5; unfold spec_l10Left.f; exact Lm2 ih0 ih1
  ·intro y0 y1 y2 y3 y4 y5 y6; unfold spec_l10Left.l0; exact Lm2 ih0 ih1
theorem spec_l10Left.mono : ∀ a0 a1 a2 a3 a4 a5 k, LeO (spec_l10Left.f k a0 a1 a2 a3 a4 a5) (spec_l10Left.f (k + 1) a0 a1 a2 a3 a4 a5) := by
 intro a0 a1 a2 a3 a4 a5 k
 obtain ⟨ih0, ih1⟩ := spec_l10Left.mono_l k
 exact ih0 a0 a1 a2 a3 a4 a5
theorem spec_l10Left.calls (k : Nat) : ∀ (a0_0 : Int) (a0_1 : Int) (a0_2 : Int) (a0_3 : Int) (A0_4 : Option Addr) (c0_4 : Nat) (l0_4 : List (S32)) (a1 : Int) (r : Int) (w : Qn) (hr0_4 : Kd.C k32 w A0_4 l0_4.length l0_4) (hc0_4 : l0_4.length ≤ c0_4) (h : spec_l10Left.f k a0_0 a0_1 a0_2 a0_3 l0_4 a1 = some r),
  Zj Qi 74 #[.agg #[.int .i64 a0_0, .int .i64 a0_1, .int .i64 a0_2, .int .i64 a0_3, .slice A0_4 l0_4.length c0_4], .int .i64 a1] w fun e w' => e = .returned (.int .i64 r) ∧ Below w.heap.size w w' := by
 induction k using Nat.strongRecOn with
 | _ k ih =>
 intro a0_0 a0_1 a0_2 a0_3 A0_4 c0_4 l0_4 a1 r w hr0_4 hc0_4 h
 cases k with
 | zero => exact absurd h (by simp [spec_l10Left.f])
 | succ k =>
 simp only [spec_l10Left.f] at h
 have hu32 := Qh
 have HR0_4 := Qa hr0_4
 have HC0_4 := Qa hc0_4
 clear hr0_4 hc0_4
 have HB := Qa (Below.refl w.heap.size w)
 have H : (spec_l10Left.l0 k (wrap64 (a1 - 1)) 0 a0_0 a0_1 a0_2 a0_3 l0_4) = some r := h
 clear h
 have H' := Qa H
 clear H
 go_enter Try.func74, Try.ntmps74
 go_wp2_with (first | ((with_reducible refine gate_dst (N := 2) rfl ?_); refine Bx (N := 2) (cs := #[.int .i64 a0_0, .int .i64 a0_1, .int .i64 a0_2, .int .i64 a0_3, .slice A0_4 l0_4.length c0_4]) (t := 32) ?_; intro gb14 hg w3 hbox hb; have BK14 := Qa (hbox); have GW14 := Gs (w := w) hg (Bb0 HB.out); have GE14 := GW14; replace HB := Sb (Bb0 HB.out) hb; clear hb hbox hg))
 go_loopg [1, 5] k (fun kq v1 v5 w' => ∃ (x1_1 : Int) (x5_1 : Int), v1 = .int .i64 x1_1 ∧ v5 = .int .i64 x5_1 ∧ Aside0 (spec_l10Left.l0 kq x1_1 x5_1 a0_0 a0_1 a0_2 a0_3 l0_4 = some r) ∧ Aside0 (kq ≤ k) ∧ Aside0 (w'.heap[gb14]? = some (.cells #[.int .i64 a0_0, .int .i64 a0_1, .int .i64 a0_2, .int .i64 a0_3, (.slice A0_4 l0_4.length c0_4)] 32 (0, 0))) ∧ Aside0 (Below w.heap.size w w'))
 case atStart => exact ⟨(wrap64 (a1 - 1)), (0), Zf, Zf, H', ⟨Nat.le_refl _⟩, ⟨Ba BK14.out⟩, ⟨Bb1 HB.out GE14.out⟩⟩
 case round =>
  clear H'; (try clear p2)
  obtain ⟨x1_1, x5_1, rfl, rfl, HA, HK1, BK14, HB⟩ := hrel; cases gk with
  | zero => exact absurd HA.out (by simp [spec_l10Left.l0])
  | succ k1 =>
   have H := HA.out; clear HA; simp only [spec_l10Left.l0] at H; by_cases c4 : x5_1 < (l0_4.length : Int)
   ·rw [if_pos c4] at H; replace c4 := decide_eq_true c4; by_cases c5 : x1_1 ≥ 0
    ·rw [if_pos c5] at H; replace c5 := decide_eq_true c5; by_cases c6 : 0 ≤ x5_1
     ·rw [if_pos c6] at H; replace c6 := decide_eq_true c6; obtain ⟨t20, A7, H⟩ := Ob H; (try dsimp only at H)
      have H' := Qa H; clear H; obtain ⟨q8_0, q8_1, q8_2, q8_3, q8_4, u8_0, u8_1, u8_2, u8_3, u8_4⟩ := Cf5 BK14; have p12 : 0 ≤ (x5_1 : Int) := Da; have q12 : x5_1 < (l0_4.length : Int) := Da; obtain ⟨ad12, A12_4, c102_4, e12, hx12_0, hx12_1, hx12_2, hx12_3, hx12_4, hl102_4, hi102_4⟩ := at_T32 HR0_4.out x5_1 p12 q12; cases e12
      replace hx12_0 := Cx HB hx12_0; replace hx12_1 := Cx HB hx12_1; replace hx12_2 := Cx HB hx12_2; replace hx12_3 := Cx HB hx12_3; replace hx12_4 := Cx HB hx12_4; have HR12_4 := Qa hi102_4; have HC102_4 := Qa hl102_4; clear hi102_4 hl102_4; replace p12 := eq_true p12; replace q12 := eq_true q12; go_wp2_with (first | ((with_reducible refine gate_callee (f := 74) rfl ?_); refine Gl 25 Try.func74 #[.agg #[.int .i64 ((rd_T32 l0_4 x5_1).f0), .int .i64 ((rd_T32 l0_4 x5_1).f1), .int .i64 ((rd_T32 l0_4 x5_1).f2), .int .i64 ((rd_T32 l0_4 x5_1).f3), .slice A12_4 ((rd_T32 l0_4 x5_1).f4).length c102_4], .int .i64 x1_1] ?_; (with_reducible refine (ih k1 (by have := HK1.out; omega) ((rd_T32 l0_4 x5_1).f0) ((rd_T32 l0_4 x5_1).f1) ((rd_T32 l0_4 x5_1).f2) ((rd_T32 l0_4 x5_1).f3) _ _ ((rd_T32 l0_4 x5_1).f4) x1_1 t20 _ ?_ ?_ A7.out).mono ?_); exact Bc (Kd.C_below HR12_4.out HB.out); exact HC102_4.out; rintro e w9 ⟨rfl, hb⟩; refine ⟨_, rfl, ?_⟩; replace BK14 := Kb BK14 hb; replace HB := Sb (Bb1 HB.out GE14.out) hb; clear hb)); go_roundg k1
      case measure => have := HK1.out; omega
      case rel => exact ⟨(t20), (wrap64 (x5_1 + 1)), Zf, Zf, H', ⟨by have := HK1.out; omega⟩, ⟨Ba BK14.out⟩, ⟨Bb1 HB.out GE14.out⟩⟩
     ·rw [if_neg c6] at H; exact absurd H (by simp)
    ·rw [if_neg c5] at H; replace c5 := decide_eq_false c5; obtain rfl := Option.some.inj H; obtain ⟨q10_0, q10_1, q10_2, q10_3, q10_4, u10_0, u10_1, u10_2, u10_3, u10_4⟩ := Cf5 BK14; go_wp2; go_ret; exact ⟨Ze, Bb1 HB.out GE14.out⟩
   ·rw [if_neg c4] at H; replace c4 := decide_eq_false c4; obtain rfl := Option.some.inj H; obtain ⟨q11_0, q11_1, q11_2, q11_3, q11_4, u11_0, u11_1, u11_2, u11_3, u11_4⟩ := Cf5 BK14; go_wp2; go_ret; exact ⟨Ze, Bb1 HB.out GE14.out⟩
def spec_l1Max.f (a0 : Int) (a1 : Int) : Option (Int) := if a0 > a1 then (some a0) else (some a1)
theorem spec_l1Max.calls (a0 : Int) (a1 : Int) (r : Int) (w : Qn) (h : spec_l1Max.f a0 a1 = some r) :
  Zj Qi 108 #[.int .i64 a0, .int .i64 a1] w fun e w' => e = .returned (.int .i64 r) ∧ Drawn0 w w' := by
 have H : (if a0 > a1 then (some a0) else (some a1)) = some r := h
 clear h
 by_cases c3 : a0 > a1
 ·rw [if_pos c3] at H
  replace c3 := decide_eq_true c3; obtain rfl := Option.some.inj H; go_enter Try.func108, Try.ntmps108; go_wp2; go_ret; exact ⟨by first | rfl | (simp; done) | (simp [*]; done), by repeat (first | exact Ql _ | apply Qm)⟩
 ·rw [if_neg c3] at H
  replace c3 := decide_eq_false c3; obtain rfl := Option.some.inj H; go_enter Try.func108, Try.ntmps108; go_wp2; go_ret; exact ⟨by first | rfl | (simp; done) | (simp [*]; done), by repeat (first | exact Ql _ | apply Qm)⟩
mutual
def spec_DepthOf.l0 : Nat → Int → Int → Int → Int → Int → Int → List (S32) → Option (Int)
 | 0, _, _, _, _, _, _, _ => none
 | k + 1, x3, x4, x26, x27, x28, x29, x17 => if x4 < (x17.length : Int) then (if 0 ≤ x4 then ((spec_DepthOf.f k ((rd_T32 x17 x4).f0) ((rd_T32 x17 x4).f1) ((rd_T32 x17 x4).f2) ((rd_T32 x17 x4).f3) ((rd_T32 x17 x4).f4)).bind fun t18 => ((spec_l1Max.f x3 t18).bind fun t21 => (spec_DepthOf.l0 k t21 (wrap64 (x4 + 1)) x26 x27 x28 x29 x17))) else (none)) else (some (wrap64 (x3 + 1)))
def spec_DepthOf.f : Nat → Int → Int → Int → Int → List (S32) → Option (Int)
 | 0, _, _, _, _, _ => none
 | k + 1, a0_0, a0_1, a0_2, a0_3, l0_4 => spec_DepthOf.l0 k 0 0 a0_0 a0_1 a0_2 a0_3 l0_4
end
theorem spec_DepthOf.mono_l : ∀ k, (∀ y0 y1 y2 y3 y4, LeO (spec_DepthOf.f k y0 y1 y2 y3 y4) (spec_DepthOf.f (k + 1) y0 y1 y2 y3 y4)) ∧ (∀ y0 y1 y2 y3 y4 y5 y6, LeO (spec_DepthOf.l0 k y0 y1 y2 y3 y4 y5 y6) (spec_DepthOf.l0 (k + 1) y0 y1 y2 y3 y4 y5 y6))
 | 0 => ⟨fun _ _ _ _ _ r h => by simp [spec_DepthOf.f] at h, fun _ _ _ _ _ _ _ r h => by simp [spec_DepthOf.l0] at h⟩
 | k + 1 => by
  obtain ⟨ih0, ih1⟩ := spec_DepthOf.mono_l k; refine ⟨?_, ?_⟩
  ·intro y0 y1 y2 y3 y4; unfold spec_DepthOf.f; exact Lm2 ih0 ih1
  ·intro y0 y1 y2 y3 y4 y5 y6; unfold spec_DepthOf.l0; exact Lm2 ih0 ih1
theorem spec_DepthOf.mono : ∀ a0 a1 a2 a3 a4 k, LeO (spec_DepthOf.f k a0 a1 a2 a3 a4) (spec_DepthOf.f (k + 1) a0 a1 a2 a3 a4) := by
 intro a0 a1 a2 a3 a4 k
 obtain ⟨ih0, ih1⟩ := spec_DepthOf.mono_l k
 exact ih0 a0 a1 a2 a3 a4
theorem spec_DepthOf.calls (k : Nat) : ∀ (a0_0 : Int) (a0_1 : Int) (a0_2 : Int) (a0_3 : Int) (A0_4 : Option Addr) (c0_4 : Nat) (l0_4 : List (S32)) (r : Int) (w : Qn) (hr0_4 : Kd.C k32 w A0_4 l0_4.length l0_4) (hc0_4 : l0_4.length ≤ c0_4) (h : spec_DepthOf.f k a0_0 a0_1 a0_2 a0_3 l0_4 = some r),
  Zj Qi 75 #[.agg #[.int .i64 a0_0, .int .i64 a0_1, .int .i64 a0_2, .int .i64 a0_3, .slice A0_4 l0_4.length c0_4]] w fun e w' => e = .returned (.int .i64 r) ∧ Below w.heap.size w w' := by
 induction k using Nat.strongRecOn with
 | _ k ih =>
 intro a0_0 a0_1 a0_2 a0_3 A0_4 c0_4 l0_4 r w hr0_4 hc0_4 h
 cases k with
 | zero => exact absurd h (by simp [spec_DepthOf.f])
 | succ k =>
 simp only [spec_DepthOf.f] at h
 have hu32 := Qh
 have HR0_4 := Qa hr0_4
 have HC0_4 := Qa hc0_4
 clear hr0_4 hc0_4
 have HB := Qa (Below.refl w.heap.size w)
 have H : (spec_DepthOf.l0 k 0 0 a0_0 a0_1 a0_2 a0_3 l0_4) = some r := h
 clear h
 have H' := Qa H
 clear H
 go_enter Try.func75, Try.ntmps75
 go_wp2_with (first | ((with_reducible refine gate_dst (N := 1) rfl ?_); refine Bx (N := 1) (cs := #[.int .i64 a0_0, .int .i64 a0_1, .int .i64 a0_2, .int .i64 a0_3, .slice A0_4 l0_4.length c0_4]) (t := 32) ?_; intro gb15 hg w2 hbox hb; have BK15 := Qa (hbox); have GW15 := Gs (w := w) hg (Bb0 HB.out); have GE15 := GW15; replace HB := Sb (Bb0 HB.out) hb; clear hb hbox hg))
 go_loopg [3, 4] k (fun kq v3 v4 w' => ∃ (x3_1 : Int) (x4_1 : Int), v3 = .int .i64 x3_1 ∧ v4 = .int .i64 x4_1 ∧ Aside0 (spec_DepthOf.l0 kq x3_1 x4_1 a0_0 a0_1 a0_2 a0_3 l0_4 = some r) ∧ Aside0 (kq ≤ k) ∧ Aside0 (w'.heap[gb15]? = some (.cells #[.int .i64 a0_0, .int .i64 a0_1, .int .i64 a0_2, .int .i64 a0_3, (.slice A0_4 l0_4.length c0_4)] 32 (0, 0))) ∧ Aside0 (Below w.heap.size w w'))
 case atStart => exact ⟨(0), (0), Zf, Zf, H', ⟨Nat.le_refl _⟩, ⟨Ba BK15.out⟩, ⟨Bb1 HB.out GE15.out⟩⟩
 case round =>
  clear H'; (try clear p2)
  obtain ⟨x3_1, x4_1, rfl, rfl, HA, HK1, BK15, HB⟩ := hrel; cases gk with
  | zero => exact absurd HA.out (by simp [spec_DepthOf.l0])
  | succ k1 =>
   have H := HA.out; clear HA; simp only [spec_DepthOf.l0] at H; by_cases c3 : x4_1 < (l0_4.length : Int)
   ·rw [if_pos c3] at H; replace c3 := decide_eq_true c3; by_cases c4 : 0 ≤ x4_1
    ·rw [if_pos c4] at H; replace c4 := decide_eq_true c4; obtain ⟨t18, A5, H⟩ := Ob H; (try dsimp only at H)
     obtain ⟨t21, A6, H⟩ := Ob H; (try dsimp only at H)
     have H' := Qa H; clear H; obtain ⟨q7_0, q7_1, q7_2, q7_3, q7_4, u7_0, u7_1, u7_2, u7_3, u7_4⟩ := Cf5 BK15; have p13 : 0 ≤ (x4_1 : Int) := Da; have q13 : x4_1 < (l0_4.length : Int) := Da; obtain ⟨ad13, A13_4, c105_4, e13, hx13_0, hx13_1, hx13_2, hx13_3, hx13_4, hl105_4, hi105_4⟩ := at_T32 HR0_4.out x4_1 p13 q13; cases e13
     replace hx13_0 := Cx HB hx13_0; replace hx13_1 := Cx HB hx13_1; replace hx13_2 := Cx HB hx13_2; replace hx13_3 := Cx HB hx13_3; replace hx13_4 := Cx HB hx13_4; have HR13_4 := Qa hi105_4; have HC105_4 := Qa hl105_4; clear hi105_4 hl105_4; replace p13 := eq_true p13; replace q13 := eq_true q13; go_wp2_with (first | ((with_reducible refine gate_callee (f := 75) rfl ?_); refine Gl 18 Try.func75 #[.agg #[.int .i64 ((rd_T32 l0_4 x4_1).f0), .int .i64 ((rd_T32 l0_4 x4_1).f1), .int .i64 ((rd_T32 l0_4 x4_1).f2), .int .i64 ((rd_T32 l0_4 x4_1).f3), .slice A13_4 ((rd_T32 l0_4 x4_1).f4).length c105_4]] ?_; (with_reducible refine (ih k1 (by have := HK1.out; omega) ((rd_T32 l0_4 x4_1).f0) ((rd_T32 l0_4 x4_1).f1) ((rd_T32 l0_4 x4_1).f2) ((rd_T32 l0_4 x4_1).f3) _ _ ((rd_T32 l0_4 x4_1).f4) t18 _ ?_ ?_ A5.out).mono ?_); exact Bc (Kd.C_below HR13_4.out HB.out); exact HC105_4.out; rintro e w8 ⟨rfl, hb⟩; refine ⟨_, rfl, ?_⟩; replace BK15 := Kb BK15 hb; replace HB := Sb (Bb1 HB.out GE15.out) hb; clear hb) | ((with_reducible refine gate_callee (f := 108) rfl ?_); refine Gl 19 Try.func108 #[.int .i64 x3_1, .int .i64 t18] ?_; (with_reducible refine (spec_l1Max.calls x3_1 t18 t21 _ A6.out).mono ?_); rintro e w' ⟨rfl, ⟨nd, rfl⟩⟩; refine ⟨_, rfl, ?_⟩)); go_roundg k1
     case measure => have := HK1.out; omega
     case rel => exact ⟨(t21), (wrap64 (x4_1 + 1)), Zf, Zf, H', ⟨by have := HK1.out; omega⟩, ⟨Ba BK15.out⟩, ⟨Bb1 HB.out GE15.out⟩⟩
    ·rw [if_neg c4] at H; exact absurd H (by simp)
   ·rw [if_neg c3] at H; replace c3 := decide_eq_false c3; obtain rfl := Option.some.inj H; obtain ⟨q9_0, q9_1, q9_2, q9_3, q9_4, u9_0, u9_1, u9_2, u9_3, u9_4⟩ := Cf5 BK15; go_wp2; go_ret; exact ⟨Ze, Bb1 HB.out GE15.out⟩
def spec_l1In.f (a0 : Int) (a1 : Int) (a2 : Int) : Option (Bool) := if a0 ≥ a1 then (some (decide (a0 ≤ a2))) else (some false)
theorem spec_l1In.calls (a0 : Int) (a1 : Int) (a2 : Int) (r : Bool) (w : Qn) (h : spec_l1In.f a0 a1 a2 = some r) :
  Zj Qi 77 #[.int .i64 a0, .int .i64 a1, .int .i64 a2] w fun e w' => e = .returned (.bool r) ∧ Drawn0 w w' := by
 have H : (if a0 ≥ a1 then (some (decide (a0 ≤ a2))) else (some false)) = some r := h
 clear h
 by_cases c4 : a0 ≥ a1
 ·rw [if_pos c4] at H
  replace c4 := decide_eq_true c4; obtain rfl := Option.some.inj H; go_enter Try.func77, Try.ntmps77; go_wp2; go_ret; exact ⟨by first | rfl | (simp; done) | (simp [*]; done), by repeat (first | exact Ql _ | apply Qm)⟩
 ·rw [if_neg c4] at H
  replace c4 := decide_eq_false c4; obtain rfl := Option.some.inj H; go_enter Try.func77, Try.ntmps77; go_wp2; go_ret; exact ⟨by first | rfl | (simp; done) | (simp [*]; done), by repeat (first | exact Ql _ | apply Qm)⟩
def spec_ArityOf.j0 : Nat → Int → Bool → Option (Int)
 | 0, _, _ => none
 | k + 1, x0, x6 => if x6 = true then (some 1) else (if x0 = 9 then (some 2) else (if x0 = 10 then (some 2) else (some (-1))))
def spec_ArityOf.f (k : Nat) (a0 : Int) : Option (Int) := (spec_l1In.f a0 1 7).bind fun t19 => (if t19 = true then (some 0) else (if a0 = 8 then (spec_ArityOf.j0 k a0 true) else (if a0 = 11 then (spec_ArityOf.j0 k a0 true) else (spec_ArityOf.j0 k a0 (a0 == 12)))))
theorem spec_ArityOf.mono_l : ∀ k, (∀ y0 y1, LeO (spec_ArityOf.j0 k y0 y1) (spec_ArityOf.j0 (k + 1) y0 y1))
 | 0 => fun _ _ r h => by simp [spec_ArityOf.j0] at h
 | k + 1 => by
  have ih0 := spec_ArityOf.mono_l k
  ·intro y0 y1; unfold spec_ArityOf.j0; exact Lm1 ih0
theorem spec_ArityOf.mono : ∀ a0 k, LeO (spec_ArityOf.f k a0) (spec_ArityOf.f (k + 1) a0) := by
 intro a0 k
 have ih0 := spec_ArityOf.mono_l k
 unfold spec_ArityOf.f
 exact Lm1 ih0
theorem spec_ArityOf.calls (k : Nat) (a0 : Int) (r : Int) (w : Qn) (h : spec_ArityOf.f k a0 = some r) :
  Zj Qi 41 #[.int .i64 a0] w fun e w' => e = .returned (.int .i64 r) ∧ Drawn0 w w' := by
 have H : ((spec_l1In.f a0 1 7).bind fun t19 => (if t19 = true then (some 0) else (if a0 = 8 then (spec_ArityOf.j0 k a0 true) else (if a0 = 11 then (spec_ArityOf.j0 k a0 true) else (spec_ArityOf.j0 k a0 (a0 == 12)))))) = some r := h
 clear h
 obtain ⟨t19, A2, H⟩ := Ob H
 (try dsimp only at H)
 by_cases c3 : t19 = true
 ·subst c3
  rw [if_pos rfl] at H; obtain rfl := Option.some.inj H; go_enter Try.func41, Try.ntmps41; go_wp2_with (first | ((with_reducible refine gate_callee (f := 77) rfl ?_); refine Gl 5 Try.func77 #[.int .i64 a0, .int .i64 1, .int .i64 7] ?_; (with_reducible refine (spec_l1In.calls a0 1 7 true _ A2.out).mono ?_); rintro e w' ⟨rfl, ⟨nd, rfl⟩⟩; refine ⟨_, rfl, ?_⟩)); go_ret; exact ⟨by first | rfl | (simp; done) | (simp [*]; done), by repeat (first | exact Ql _ | apply Qm)⟩
 ·replace c3 := Bool.eq_false_iff.mpr c3
  subst c3; rw [if_neg (show ¬ (false = true) by decide)] at H; have HC4 := Qa H; clear H; go_enter Try.func41, Try.ntmps41; go_upto_region 3 with (first | ((with_reducible refine gate_callee (f := 77) rfl ?_); refine Gl 5 Try.func77 #[.int .i64 a0, .int .i64 1, .int .i64 7] ?_; (with_reducible refine (spec_l1In.calls a0 1 7 false _ A2.out).mono ?_); rintro e w' ⟨rfl, ⟨nd, rfl⟩⟩; refine ⟨_, rfl, ?_⟩))
  (try simp only [Act.put, List.setIfInBounds_toArray, List.set_cons_zero, List.set_cons_succ])
  go_cut [6] (fun v6 wc => ∃ (kq : Nat) (x6_3 : Bool), v6 = .bool x6_3 ∧ Aside0 (spec_ArityOf.j0 kq a0 x6_3 = some r) ∧ Aside0 (kq ≤ k) ∧ Drawn0 w wc)
  case first =>
   have H := HC4.out; clear HC4; by_cases c5 : a0 = 8
   ·rw [if_pos c5] at H; have c5b0 := beq_iff_eq.mpr c5; have c5b1 := bne_eq_false_iff_eq.mpr c5; clear c5; (first | rw [c5b0] | (simp only [i64_w, i32_w]; rw [c5b0]) | skip)
    have H' := Qa H; clear H; go_wp2; go_meet
    case rel => exact ⟨_, (true), Zf, H', ⟨by first | omega | exact Nat.le_refl _⟩, by repeat (first | exact Ql _ | apply Qm)⟩
   ·rw [if_neg c5] at H; have c5b0 := beq_eq_false_iff_ne.mpr c5; have c5b1 := bne_iff_ne.mpr c5; (first | rw [c5b0] | (simp only [i64_w, i32_w]; rw [c5b0]) | skip)
    by_cases c6 : a0 = 11
    ·rw [if_pos c6] at H; have c6b0 := beq_iff_eq.mpr c6; have c6b1 := bne_eq_false_iff_eq.mpr c6; clear c6; have H' := Qa H; clear H; go_wp2; go_meet
     case rel => exact ⟨_, (true), Zf, H', ⟨by first | omega | exact Nat.le_refl _⟩, by repeat (first | exact Ql _ | apply Qm)⟩
    ·rw [if_neg c6] at H; have c6b0 := beq_eq_false_iff_ne.mpr c6; have c6b1 := bne_iff_ne.mpr c6; have H' := Qa H; clear H; go_wp2; go_meet
     case rel => exact ⟨_, ((a0 == 12)), Zf, H', ⟨by first | omega | exact Nat.le_refl _⟩, by repeat (first | exact Ql _ | apply Qm)⟩
  case rest =>
   clear HC4; (try clear p2)
   (try clear c3)
   (try clear c4)
   (try clear c5)
   (try clear c5b0)
   (try clear c5b1)
   (try clear c6)
   (try clear c6b0)
   (try clear c6b1)
   obtain ⟨kq, x6_3, rfl, HA, HJ3, ⟨mc3, rfl⟩⟩ := hcut; cases kq with
   | zero => exact absurd HA.out (by simp [spec_ArityOf.j0])
   | succ kj3 =>
    have H := HA.out; clear HA; simp only [spec_ArityOf.j0] at H; by_cases c7 : x6_3 = true
    ·subst c7; rw [if_pos rfl] at H; obtain rfl := Option.some.inj H; go_wp2; go_ret; exact ⟨by first | rfl | (simp; done) | (simp [*]; done), by repeat (first | exact Ql _ | apply Qm)⟩
    ·replace c7 := Bool.eq_false_iff.mpr c7; subst c7; rw [if_neg (show ¬ (false = true) by decide)] at H; by_cases c8 : a0 = 9
     ·rw [if_pos c8] at H; have c8b0 := beq_iff_eq.mpr c8; have c8b1 := bne_eq_false_iff_eq.mpr c8; clear c8; obtain rfl := Option.some.inj H; go_wp2; go_ret; exact ⟨by first | rfl | (simp; done) | (simp [*]; done), by repeat (first | exact Ql _ | apply Qm)⟩
     ·rw [if_neg c8] at H; have c8b0 := beq_eq_false_iff_ne.mpr c8; have c8b1 := bne_iff_ne.mpr c8; by_cases c9 : a0 = 10
      ·rw [if_pos c9] at H; have c9b0 := beq_iff_eq.mpr c9; have c9b1 := bne_eq_false_iff_eq.mpr c9; clear c9; obtain rfl := Option.some.inj H; go_wp2; go_ret; exact ⟨by first | rfl | (simp; done) | (simp [*]; done), by repeat (first | exact Ql _ | apply Qm)⟩
      ·rw [if_neg c9] at H; have c9b0 := beq_eq_false_iff_ne.mpr c9; have c9b1 := bne_iff_ne.mpr c9; obtain rfl := Option.some.inj H; go_wp2; go_ret; exact ⟨by first | rfl | (simp; done) | (simp [*]; done), by repeat (first | exact Ql _ | apply Qm)⟩
def spec_l10Uses.j0 : Nat → Int → Bool → Option (Int)
 | 0, _, _ => none
 | k + 1, x3, x4 => if x4 = true then (some 1) else (if x3 = 5 then (some 2) else (if x3 = 6 then (some 2) else (if x3 = 7 then (some 2) else (some 0))))
def spec_l10Uses.f (k : Nat) (a0 : Int) : Option (Int) := if a0 = 2 then (spec_l10Uses.j0 k a0 (a0 == 2)) else (if a0 = 3 then (spec_l10Uses.j0 k a0 (a0 == 3)) else (if a0 = 4 then (spec_l10Uses.j0 k a0 (a0 == 4)) else (if a0 = 11 then (spec_l10Uses.j0 k a0 (a0 == 11)) else (spec_l10Uses.j0 k a0 (a0 == 12)))))
theorem spec_l10Uses.mono_l : ∀ k, (∀ y0 y1, LeO (spec_l10Uses.j0 k y0 y1) (spec_l10Uses.j0 (k + 1) y0 y1))
 | 0 => fun _ _ r h => by simp [spec_l10Uses.j0] at h
 | k + 1 => by
  have ih0 := spec_l10Uses.mono_l k
  ·intro y0 y1; unfold spec_l10Uses.j0; exact Lm1 ih0
theorem spec_l10Uses.mono : ∀ a0 k, LeO (spec_l10Uses.f k a0) (spec_l10Uses.f (k + 1) a0) := by
 intro a0 k
 have ih0 := spec_l10Uses.mono_l k
 unfold spec_l10Uses.f
 exact Lm1 ih0
theorem spec_l10Uses.calls (k : Nat) (a0 : Int) (r : Int) (w : Qn) (h : spec_l10Uses.f k a0 = some r) :
  Zj Qi 98 #[.int .i64 a0] w fun e w' => e = .returned (.int .i64 r) ∧ Drawn0 w w' := by
 have H : (if a0 = 2 then (spec_l10Uses.j0 k a0 (a0 == 2)) else (if a0 = 3 then (spec_l10Uses.j0 k a0 (a0 == 3)) else (if a0 = 4 then (spec_l10Uses.j0 k a0 (a0 == 4)) else (if a0 = 11 then (spec_l10Uses.j0 k a0 (a0 == 11)) else (spec_l10Uses.j0 k a0 (a0 == 12)))))) = some r := h
 clear h
 have HC2 := Qa H
 clear H
 go_enter Try.func98, Try.ntmps98
 go_upto_if 4 with (fail)
 go_cut [4] (fun v4 wc => ∃ (kq : Nat) (x4_1 : Bool), v4 = .bool x4_1 ∧ Aside0 (spec_l10Uses.j0 kq a0 x4_1 = some r) ∧ Aside0 (kq ≤ k) ∧ Drawn0 w wc)
 case first =>
  have H := HC2.out; clear HC2; by_cases c3 : a0 = 2
  ·rw [if_pos c3] at H; have c3b0 := beq_iff_eq.mpr c3; have c3b1 := bne_eq_false_iff_eq.mpr c3; clear c3; (first | rw [c3b0] | (simp only [i64_w, i32_w]; rw [c3b0]) | skip)
   have H' := Qa H; clear H; go_wp2; go_meet
   case rel => exact ⟨_, ((a0 == 2)), Zf, H', ⟨by first | omega | exact Nat.le_refl _⟩, by repeat (first | exact Ql _ | apply Qm)⟩
  ·rw [if_neg c3] at H; have c3b0 := beq_eq_false_iff_ne.mpr c3; have c3b1 := bne_iff_ne.mpr c3; (first | rw [c3b0] | (simp only [i64_w, i32_w]; rw [c3b0]) | skip)
   by_cases c4 : a0 = 3
   ·rw [if_pos c4] at H; have c4b0 := beq_iff_eq.mpr c4; have c4b1 := bne_eq_false_iff_eq.mpr c4; clear c4; have H' := Qa H; clear H; go_wp2; go_meet
    case rel => exact ⟨_, ((a0 == 3)), Zf, H', ⟨by first | omega | exact Nat.le_refl _⟩, by repeat (first | exact Ql _ | apply Qm)⟩
   ·rw [if_neg c4] at H; have c4b0 := beq_eq_false_iff_ne.mpr c4; have c4b1 := bne_iff_ne.mpr c4; by_cases c5 : a0 = 4
    ·rw [if_pos c5] at H; have c5b0 := beq_iff_eq.mpr c5; have c5b1 := bne_eq_false_iff_eq.mpr c5; clear c5; have H' := Qa H; clear H; go_wp2; go_meet
     case rel => exact ⟨_, ((a0 == 4)), Zf, H', ⟨by first | omega | exact Nat.le_refl _⟩, by repeat (first | exact Ql _ | apply Qm)⟩
    ·rw [if_neg c5] at H; have c5b0 := beq_eq_false_iff_ne.mpr c5; have c5b1 := bne_iff_ne.mpr c5; by_cases c6 : a0 = 11
     ·rw [if_pos c6] at H; have c6b0 := beq_iff_eq.mpr c6; have c6b1 := bne_eq_false_iff_eq.mpr c6; clear c6; have H' := Qa H; clear H; go_wp2; go_meet
      case rel => exact ⟨_, ((a0 == 11)), Zf, H', ⟨by first | omega | exact Nat.le_refl _⟩, by repeat (first | exact Ql _ | apply Qm)⟩
     ·rw [if_neg c6] at H; have c6b0 := beq_eq_false_iff_ne.mpr c6; have c6b1 := bne_iff_ne.mpr c6; have H' := Qa H; clear H; go_wp2; go_meet
      case rel => exact ⟨_, ((a0 == 12)), Zf, H', ⟨by first | omega | exact Nat.le_refl _⟩, by repeat (first | exact Ql _ | apply Qm)⟩
 case rest =>
  clear HC2; (try clear p2)
  (try clear c3)
  (try clear c3b0)
  (try clear c3b1)
  (try clear c4)
  (try clear c4b0)
  (try clear c4b1)
  (try clear c5)
  (try clear c5b0)
  (try clear c5b1)
  (try clear c6)
  (try clear c6b0)
  (try clear c6b1)
  obtain ⟨kq, x4_1, rfl, HA, HJ1, ⟨mc1, rfl⟩⟩ := hcut; cases kq with
  | zero => exact absurd HA.out (by simp [spec_l10Uses.j0])
  | succ kj1 =>
   have H := HA.out; clear HA; simp only [spec_l10Uses.j0] at H; by_cases c7 : x4_1 = true
   ·subst c7; rw [if_pos rfl] at H; obtain rfl := Option.some.inj H; go_wp2; go_ret; exact ⟨by first | rfl | (simp; done) | (simp [*]; done), by repeat (first | exact Ql _ | apply Qm)⟩
   ·replace c7 := Bool.eq_false_iff.mpr c7; subst c7; rw [if_neg (show ¬ (false = true) by decide)] at H; by_cases c8 : a0 = 5
    ·rw [if_pos c8] at H; have c8b0 := beq_iff_eq.mpr c8; have c8b1 := bne_eq_false_iff_eq.mpr c8; clear c8; obtain rfl := Option.some.inj H; go_wp2; go_ret; exact ⟨by first | rfl | (simp; done) | (simp [*]; done), by repeat (first | exact Ql _ | apply Qm)⟩
    ·rw [if_neg c8] at H; have c8b0 := beq_eq_false_iff_ne.mpr c8; have c8b1 := bne_iff_ne.mpr c8; by_cases c9 : a0 = 6
     ·rw [if_pos c9] at H; have c9b0 := beq_iff_eq.mpr c9; have c9b1 := bne_eq_false_iff_eq.mpr c9; clear c9; obtain rfl := Option.some.inj H; go_wp2; go_ret; exact ⟨by first | rfl | (simp; done) | (simp [*]; done), by repeat (first | exact Ql _ | apply Qm)⟩
     ·rw [if_neg c9] at H; have c9b0 := beq_eq_false_iff_ne.mpr c9; have c9b1 := bne_iff_ne.mpr c9; by_cases c10 : a0 = 7
      ·rw [if_pos c10] at H; have c10b0 := beq_iff_eq.mpr c10; have c10b1 := bne_eq_false_iff_eq.mpr c10; clear c10; obtain rfl := Option.some.inj H; go_wp2; go_ret; exact ⟨by first | rfl | (simp; done) | (simp [*]; done), by repeat (first | exact Ql _ | apply Qm)⟩
      ·rw [if_neg c10] at H; have c10b0 := beq_eq_false_iff_ne.mpr c10; have c10b1 := bne_iff_ne.mpr c10; obtain rfl := Option.some.inj H; go_wp2; go_ret; exact ⟨by first | rfl | (simp; done) | (simp [*]; done), by repeat (first | exact Ql _ | apply Qm)⟩
end Go.Proofs.Ytoljagpjejpmpaa.PFnFormulaText
