/- A part of the walk through the printed functions; no condition. -/
import Derived.Test.YtoljagpjejpmpaaXAuto
import Derived.Test.YtoljagpjejpmpaaPFnExactParseFormulax0
namespace Go.Proofs.Ytoljagpjejpmpaa.PFnExactParseFormula
open Go.RowKit Go.Proofs.YtoljagpjejpmpaaW.PrintWords Go.Proofs.YtoljagpjejpmpaaW.PrintLast Go.Proofs.YtoljagpjejpmpaaW.PrintMore
attribute [local go_sem] max2_int min2_int max_two min_two max_three min_three max_four min_four
set_option maxHeartbeats 32000000
set_option maxRecDepth 100000
attribute [local irreducible] Go.World.setCell
set_option linter.unusedVariables false
set_option linter.unusedSimpArgs false
open Go.Proofs.YtoljagpjejpmpaaW.PrintWords.Aside0 renaming mk → Qa
open Go.RowKit renaming wrap64 → Qg, Below → Qq
open Go.Proofs.YtoljagpjejpmpaaW.PrintWords.Drawn0 renaming refl → Qi, step → Qj
open Go.Proofs.Try renaming prog → Qk
def headS (a : Int) : List UInt8 := if a = 1 then [116, 114, 117, 101] else if a = 2 then [111, 110, 32] else if a = 3 then [102, 114, 111, 109, 32] else if a = 4 then [115, 104, 97, 114, 101, 100, 58] else if a = 5 then [110, 101, 120, 116, 58] else if a = 6 then [115, 97, 109, 101, 58] else if a = 7 then [112, 97, 116, 104, 58] else if a = 11 then [115, 111, 109, 101, 32] else if a = 12 then [97, 108, 108, 32] else []
def headOf.f (a : Int) : Option ByteArray := if 1 ≤ a ∧ a ≤ 12 then some ⟨(headS a).toArray⟩ else none
theorem wpList_insert_own {H : Type} {P : Program} (w : World) {ops : Array Oper} {rest : List Oper} {o : Oper} {a : Act} {Q : Exit → Act → World → Prop}
  (hg : o.guard = none) (m x v : Operand) (t : TypeId) (hop : o.op = Op.insert t m x v)
  (k e : TypeId) (K : Go.Maps.Keyed P k) (ht : P.underlying t = some (.map k e)) (R : Value → Option (DataW H × List MemPlace)) (b n : Nat) (D : DataW H)
  (hm : a.eval m = .map (some b)) (hown : w.ownsMap P k R b n D) (hn : n < maxLen) (key val : Value) (kl : Lit) (hx : a.eval x = key) (hv : a.eval v = val) (hkey : keyOf P k key = some kl)
  (d : DataW H) (ps : List MemPlace) (hval : R val = some (d, ps))
  (hK : ∀ w', w'.ownsMap P k R b (n + 1) (D.put kl d) → w.grownBy w' (some b) → wpList P ops Q rest (a.put o.dst undef) w') :
  wpList P ops Q (o :: rest) a w := by
 refine wpList_plain hg fun K' hK' => ?_
 obtain ⟨w', hrun, r1, r2⟩ := hown.update K ht hn hkey hval
 unfold Oper.wp
 simp [execOp, hop, hm, hx, hv, hrun, Result.andThen]
 exact hK' _ _ (hK w' r1 r2)
def HD : DataW Unit := (((((((((DataW.map []).put (.int .i64 1) (.lit (.string [116, 114, 117, 101]))).put (.int .i64 2) (.lit (.string [111, 110, 32]))).put (.int .i64 3) (.lit (.string [102, 114, 111, 109, 32]))).put (.int .i64 4) (.lit (.string [115, 104, 97, 114, 101, 100, 58]))).put (.int .i64 5) (.lit (.string [110, 101, 120, 116, 58]))).put (.int .i64 6) (.lit (.string [115, 97, 109, 101, 58]))).put (.int .i64 7) (.lit (.string [112, 97, 116, 104, 58]))).put (.int .i64 11) (.lit (.string [115, 111, 109, 101, 32]))).put (.int .i64 12) (.lit (.string [97, 108, 108, 32]))
theorem HD_at (a : Int) (h0 : 1 ≤ a) (h1 : a ≤ 12) : HD.atKey (.int .i64 a) (.lit (.string [])) = .lit (.string (headS a)) := by
 have : a = 1 ∨ a = 2 ∨ a = 3 ∨ a = 4 ∨ a = 5 ∨ a = 6 ∨ a = 7 ∨ a = 8 ∨ a = 9 ∨ a = 10 ∨ a = 11 ∨ a = 12 := by omega
 rcases this with rfl | rfl | rfl | rfl | rfl | rfl | rfl | rfl | rfl | rfl | rfl | rfl <;> rfl
theorem plain9 (v : Value) : plainElem (H := Unit) Qk 9 v = match v with | .string s => if s.size ≤ maxLen then some (.lit (.string s.data.toList), []) else none | _ => none := by
 unfold plainElem
 rw [Try.underlying9]
 cases v <;> rfl
theorem str_of {v : Value} {l : List UInt8} {ps : List MemPlace} (hv : plainElem (H := Unit) Qk 9 v = some (.lit (.string l), ps)) : v = .string ⟨l.toArray⟩ := by
 rw [plain9] at hv
 split at hv
 ·rename_i s
  split at hv
  ·have h1 := Option.some.inj hv; have h2 := (Prod.mk.inj h1).1; injection h2 with h2; injection h2 with h2; rw [← h2]
  ·cases hv
 ·cases hv
theorem heads_own (w : World) : Calls Qk 83 #[] w fun e w' => ∃ m, e = .returned (.map (some m)) ∧ (∀ a, 1 ≤ a → a ≤ 12 → (Instr.lookup 95 (.map (some m)) (.int .i64 a) false).run Qk w' = .ok (.string ⟨(headS a).toArray⟩) w') ∧ Qq w.heap.size w w' ∧ w.heap.size ≤ m ∧ w'.ownsMap Qk 3 (plainElem Qk 9) m 9 HD := by
 have hmm := @run_makeMap Qk
 have K3 : Go.Maps.Keyed Qk 3 := Go.Maps.int_keyed Try.underlying3
 have hz : ∀ w : World, (zeroValue 9).run Qk w = .ok (.string ⟨#[]⟩) w := fun w => by kernel_rfl
 have h0 := World.ownsMap_made (H := Unit) w Qk 3 (plainElem Qk 9)
 have b0 : Qq w.heap.size w (w.alloc (.map #[] 0)) := below_alloc (Below.refl _ _) _
 have hm : maxLen = 9223372036854775807 := rfl
 obtain ⟨w1, r1, h1, g1⟩ := h0.update K3 Try.underlying95 (by omega) (key := .int .i64 1) (val := .string ⟨#[116, 114, 117, 101]⟩) (Go.Maps.keyOf_int_mk Try.underlying3 (by decide)) (plainElem_string Try.underlying9 (by decide))
 have b1 := b0.grown g1 b0.size (fun k hk => by cases hk; exact Nat.le_refl _)
 obtain ⟨w2, r2, h2, g2⟩ := h1.update K3 Try.underlying95 (by omega) (key := .int .i64 2) (val := .string ⟨#[111, 110, 32]⟩) (Go.Maps.keyOf_int_mk Try.underlying3 (by decide)) (plainElem_string Try.underlying9 (by decide))
 have b2 := b1.grown g2 b1.size (fun k hk => by cases hk; exact Nat.le_refl _)
 obtain ⟨w3, r3, h3, g3⟩ := h2.update K3 Try.underlying95 (by omega) (key := .int .i64 3) (val := .string ⟨#[102, 114, 111, 109, 32]⟩) (Go.Maps.keyOf_int_mk Try.underlying3 (by decide)) (plainElem_string Try.underlying9 (by decide))
 have b3 := b2.grown g3 b2.size (fun k hk => by cases hk; exact Nat.le_refl _)
 obtain ⟨w4, r4, h4, g4⟩ := h3.update K3 Try.underlying95 (by omega) (key := .int .i64 4) (val := .string ⟨#[115, 104, 97, 114, 101, 100, 58]⟩) (Go.Maps.keyOf_int_mk Try.underlying3 (by decide)) (plainElem_string Try.underlying9 (by decide))
 have b4 := b3.grown g4 b3.size (fun k hk => by cases hk; exact Nat.le_refl _)
 obtain ⟨w5, r5, h5, g5⟩ := h4.update K3 Try.underlying95 (by omega) (key := .int .i64 5) (val := .string ⟨#[110, 101, 120, 116, 58]⟩) (Go.Maps.keyOf_int_mk Try.underlying3 (by decide)) (plainElem_string Try.underlying9 (by decide))
 have b5 := b4.grown g5 b4.size (fun k hk => by cases hk; exact Nat.le_refl _)
 obtain ⟨w6, r6, h6, g6⟩ := h5.update K3 Try.underlying95 (by omega) (key := .int .i64 6) (val := .string ⟨#[115, 97, 109, 101, 58]⟩) (Go.Maps.keyOf_int_mk Try.underlying3 (by decide)) (plainElem_string Try.underlying9 (by decide))
 have b6 := b5.grown g6 b5.size (fun k hk => by cases hk; exact Nat.le_refl _)
 obtain ⟨w7, r7, h7, g7⟩ := h6.update K3 Try.underlying95 (by omega) (key := .int .i64 7) (val := .string ⟨#[112, 97, 116, 104, 58]⟩) (Go.Maps.keyOf_int_mk Try.underlying3 (by decide)) (plainElem_string Try.underlying9 (by decide))
 have b7 := b6.grown g7 b6.size (fun k hk => by cases hk; exact Nat.le_refl _)
 obtain ⟨w8, r8, h8, g8⟩ := h7.update K3 Try.underlying95 (by omega) (key := .int .i64 11) (val := .string ⟨#[115, 111, 109, 101, 32]⟩) (Go.Maps.keyOf_int_mk Try.underlying3 (by decide)) (plainElem_string Try.underlying9 (by decide))
 have b8 := b7.grown g8 b7.size (fun k hk => by cases hk; exact Nat.le_refl _)
 obtain ⟨w9, r9, h9, g9⟩ := h8.update K3 Try.underlying95 (by omega) (key := .int .i64 12) (val := .string ⟨#[97, 108, 108, 32]⟩) (Go.Maps.keyOf_int_mk Try.underlying3 (by decide)) (plainElem_string Try.underlying9 (by decide))
 have b9 := b8.grown g9 b8.size (fun k hk => by cases hk; exact Nat.le_refl _)
 have hD : w9.ownsMap Qk 3 (plainElem Qk 9) w.heap.size 9 HD := h9
 have hlook : ∀ a, 1 ≤ a → a ≤ 12 → (Instr.lookup 95 (.map (some w.heap.size)) (.int .i64 a) false).run Qk w9 = .ok (.string ⟨(headS a).toArray⟩) w9 := fun a l0 l1 => by
  have hwf : (Lit.int .i64 a).wf = true := by
   have : a = 1 ∨ a = 2 ∨ a = 3 ∨ a = 4 ∨ a = 5 ∨ a = 6 ∨ a = 7 ∨ a = 8 ∨ a = 9 ∨ a = 10 ∨ a = 11 ∨ a = 12 := by omega
   rcases this with rfl | rfl | rfl | rfl | rfl | rfl | rfl | rfl | rfl | rfl | rfl | rfl <;> decide
  obtain ⟨v, ps, hrun, hv⟩ := hD.lookup K3 Try.underlying95 (hz w9) (plainElem_string Try.underlying9 (by decide)) (Go.Maps.keyOf_int_mk Try.underlying3 hwf); have e := HD_at a l0 l1; have e' : HD.atKey (.int .i64 a) (.lit (.string (⟨#[]⟩ : ByteArray).data.toList)) = .lit (.string (headS a)) := e; rw [e'] at hv; rw [hrun]; rw [str_of hv]
 have HO := Qa hD
 clear h0 h1 h2 h3 h4 h5 h6 h7 h8 h9 g1 g2 g3 g4 g5 g6 g7 g8 g9 b0 b1 b2 b3 b4 b5 b6 b7 b8 hD hz
 have HL := Qa hlook
 have HB := Qa b9
 clear hlook b9
 go_enter Try.func83, Try.ntmps83
 go_wp2
 go_ret
 exact ⟨_, rfl, HL.out, HB.out, Nat.le_refl _, HO.out⟩
theorem heads_calls (w : World) : Calls Qk 83 #[] w fun e w' => ∃ m, e = .returned (.map (some m)) ∧ (∀ a, 1 ≤ a → a ≤ 12 → (Instr.lookup 95 (.map (some m)) (.int .i64 a) false).run Qk w' = .ok (.string ⟨(headS a).toArray⟩) w') ∧ Qq w.heap.size w w' :=
 (heads_own w).mono (fun e w' ⟨m, h1, h2, h3, _⟩ => ⟨m, h1, h2, h3⟩)
def pfxB (h s : ByteArray) : Bool := decide (h.size ≤ s.size) && ((s.extract 0 h.size).toList == h.toList)
def headB (a : Int) : ByteArray := ⟨(headS a).toArray⟩
def kindOf (s : ByteArray) : Int := if pfxB (headB 1) s = true then 1 else if pfxB (headB 2) s = true then 2 else if pfxB (headB 3) s = true then 3 else if pfxB (headB 4) s = true then 4 else if pfxB (headB 5) s = true then 5 else if pfxB (headB 6) s = true then 6 else if pfxB (headB 7) s = true then 7 else if pfxB (headB 11) s = true then 11 else if pfxB (headB 12) s = true then 12 else 0
def isHead (a : Int) : Prop := a = 1 ∨ a = 2 ∨ a = 3 ∨ a = 4 ∨ a = 5 ∨ a = 6 ∨ a = 7 ∨ a = 11 ∨ a = 12
theorem pfxB_take {a : Int} {s : ByteArray} (ha : isHead a) (h : pfxB (headB a) s = true) : s.toList.take 2 = (headS a).take 2 := by
 unfold pfxB at h
 simp only [Bool.and_eq_true, decide_eq_true_eq, beq_iff_eq] at h
 have e : (headB a).toList = headS a := by simp [headB, ByteArray.toList_eq]
 have e2 : (s.extract 0 (headB a).size).toList = s.toList.take (headB a).size := by simp [ByteArray.toList_eq, ByteArray.data_extract]
 rw [e, e2] at h
 have hl : 2 ≤ (headB a).size := by rcases ha with rfl | rfl | rfl | rfl | rfl | rfl | rfl | rfl | rfl <;> decide
 rw [← h.2, List.take_take, Nat.min_eq_left hl]
theorem head_inj {a b : Int} (ha : isHead a) (hb : isHead b) (h : (headS a).take 2 = (headS b).take 2) : a = b := by
 rcases ha with rfl | rfl | rfl | rfl | rfl | rfl | rfl | rfl | rfl <;> rcases hb with rfl | rfl | rfl | rfl | rfl | rfl | rfl | rfl | rfl <;> first | rfl | (exfalso; revert h; decide)
theorem kindOf_cases (s : ByteArray) : (kindOf s = 0 ∧ ∀ a, isHead a → pfxB (headB a) s = false) ∨ (isHead (kindOf s) ∧ pfxB (headB (kindOf s)) s = true) := by
 unfold kindOf
 split
 ·right; rename_i h; exact ⟨by simp [isHead], h⟩
 split
 ·right; rename_i h; exact ⟨by simp [isHead], h⟩
 split
 ·right; rename_i h; exact ⟨by simp [isHead], h⟩
 split
 ·right; rename_i h; exact ⟨by simp [isHead], h⟩
 split
 ·right; rename_i h; exact ⟨by simp [isHead], h⟩
 split
 ·right; rename_i h; exact ⟨by simp [isHead], h⟩
 split
 ·right; rename_i h; exact ⟨by simp [isHead], h⟩
 split
 ·right; rename_i h; exact ⟨by simp [isHead], h⟩
 split
 ·right; rename_i h; exact ⟨by simp [isHead], h⟩
 left
 refine ⟨rfl, fun a ha => ?_⟩
 rcases ha with rfl | rfl | rfl | rfl | rfl | rfl | rfl | rfl | rfl <;> (rw [Bool.eq_false_iff]; assumption)
theorem kindOf_pfx {a : Int} {s : ByteArray} (ha : isHead a) (h : pfxB (headB a) s = true) : kindOf s = a := by
 rcases kindOf_cases s with ⟨_, h0⟩ | ⟨h1, h2⟩
 ·rw [h0 a ha] at h; cases h
 ·exact head_inj h1 ha ((pfxB_take h1 h2).symm.trans (pfxB_take ha h))
def HDl : List (Lit × DataW Unit) := match HD with | .map es => es | _ => []
theorem HD_list : HD = .map HDl := by rfl
theorem HD_keys : HDl.map Prod.fst = [.int .i64 1, .int .i64 2, .int .i64 3, .int .i64 4, .int .i64 5, .int .i64 6, .int .i64 7, .int .i64 11, .int .i64 12] := by rfl
theorem HD_has {a : Int} (h : Go.Maps.has HD (.int .i64 a) = true) : isHead a := by
 rw [HD_list, Go.Maps.has_eq, List.any_eq_true] at h
 obtain ⟨p, hp, hk⟩ := h
 have hm : p.1 ∈ HDl.map Prod.fst := List.mem_map.2 ⟨p, hp, rfl⟩
 rw [Go.WideAt.sameKey_eq hk, HD_keys] at hm
 simp only [List.mem_cons, List.not_mem_nil, or_false, Lit.int.injEq, true_and] at hm
 exact hm
theorem HD_is {a : Int} (h : isHead a) : Go.Maps.has HD (.int .i64 a) = true := by
 rcases h with rfl | rfl | rfl | rfl | rfl | rfl | rfl | rfl | rfl <;> rfl
def laws_szStringS.l0 : Nat → List ByteArray → Int → Int → Option (Int)
 | 0, _, _, _ => none
 | k + 1, x0, x1, x5 => if x5 < (x0.length : Int) then (if 0 ≤ x5 then (if (Qg (x1 - ((rdOf ByteArray.empty x0 x5).size : Int))) < 0 then (some (-1)) else (laws_szStringS.l0 k x0 (Qg (x1 - ((rdOf ByteArray.empty x0 x5).size : Int))) (Qg (x5 + 1)))) else (none)) else (some x1)
def laws_szStringS.f (k : Nat) (l0 : List ByteArray) (a1 : Int) : Option (Int) := if (Qg (a1 - (l0.length : Int))) < 0 then (some (-1)) else (laws_szStringS.l0 k l0 (Qg (a1 - (l0.length : Int))) 0)
theorem laws_szStringS.mono_l : ∀ k, (∀ y0 y1 y2, LeO (laws_szStringS.l0 k y0 y1 y2) (laws_szStringS.l0 (k + 1) y0 y1 y2))
 | 0 => fun _ _ _ r h => by simp [laws_szStringS.l0] at h
 | k + 1 => by
  have ih0 := laws_szStringS.mono_l k
  ·intro y0 y1 y2; unfold laws_szStringS.l0; exact Lm1 ih0
theorem laws_szStringS.mono : ∀ a0 a1 k, LeO (laws_szStringS.f k a0 a1) (laws_szStringS.f (k + 1) a0 a1) := by
 intro a0 a1 k
 have ih0 := laws_szStringS.mono_l k
 unfold laws_szStringS.f
 exact Lm1 ih0
theorem laws_szStringS.calls (k : Nat) (A0 : Option Addr) (c0 : Nat) (l0 : List ByteArray) (a1 : Int) (r : Int) (w : World) (hr0 : Kd.C Kd.string w A0 l0.length l0) (hc0 : l0.length ≤ c0) (h : laws_szStringS.f k l0 a1 = some r) :
  Calls Qk 8 #[.slice A0 l0.length c0, .int .i64 a1] w fun e w' => e = .returned (.int .i64 r) ∧ Drawn0 w w' := by
 have HR0 := Qa hr0
 have HC0 := Qa hc0
 clear hr0 hc0
 have H : (if (Qg (a1 - (l0.length : Int))) < 0 then (some (-1)) else (laws_szStringS.l0 k l0 (Qg (a1 - (l0.length : Int))) 0)) = some r := h
 clear h
 by_cases c3 : (Qg (a1 - (l0.length : Int))) < 0
 ·rw [if_pos c3] at H
  replace c3 := decide_eq_true c3; obtain rfl := Option.some.inj H; go_enter Try.func8, Try.ntmps8; go_wp2; go_ret; exact ⟨by first | rfl | (simp; done) | (simp [*]; done), by repeat (first | exact Qi _ | apply Qj)⟩
 ·rw [if_neg c3] at H
  replace c3 := decide_eq_false c3; have H' := Qa H; clear H; go_enter Try.func8, Try.ntmps8; go_wp2; go_loopg [1, 5] k (fun kq v1 v5 w' => ∃ (x1_1 : Int) (x5_1 : Int), v1 = .int .i64 x1_1 ∧ v5 = .int .i64 x5_1 ∧ Aside0 (laws_szStringS.l0 kq l0 x1_1 x5_1 = some r) ∧ Aside0 (kq ≤ k) ∧ Drawn0 w w')
  case atStart => exact ⟨(Qg (a1 - (l0.length : Int))), (0), Zf, Zf, H', ⟨Nat.le_refl _⟩, by repeat (first | exact Qi _ | apply Qj)⟩
  case round =>
   clear H'; (try clear p2)
   (try clear c3)
   (try clear c3)
   obtain ⟨x1_1, x5_1, rfl, rfl, HA, HK1, ⟨m1, rfl⟩⟩ := hrel; cases gk with
   | zero => exact absurd HA.out (by simp [laws_szStringS.l0])
   | succ k1 =>
    have H := HA.out; clear HA; simp only [laws_szStringS.l0] at H; by_cases c4 : x5_1 < (l0.length : Int)
    ·rw [if_pos c4] at H; replace c4 := decide_eq_true c4; by_cases c5 : 0 ≤ x5_1
     ·rw [if_pos c5] at H; replace c5 := decide_eq_true c5; by_cases c6 : (Qg (x1_1 - ((rdOf ByteArray.empty l0 x5_1).size : Int))) < 0
      ·rw [if_pos c6] at H; replace c6 := decide_eq_true c6; obtain rfl := Option.some.inj H; have p12 : 0 ≤ (x5_1 : Int) := Da; have q12 : x5_1 < (l0.length : Int) := Da; obtain ⟨ad12, e12, hx12_0⟩ := Kd.at_string HR0.out x5_1 p12 q12; cases e12
       replace p12 := eq_true p12; replace q12 := eq_true q12; go_wp2; go_ret; exact ⟨by first | rfl | (simp; done) | (simp [*]; done), by repeat (first | exact Qi _ | apply Qj)⟩
      ·rw [if_neg c6] at H; replace c6 := decide_eq_false c6; have H' := Qa H; clear H; have p12 : 0 ≤ (x5_1 : Int) := Da; have q12 : x5_1 < (l0.length : Int) := Da; obtain ⟨ad12, e12, hx12_0⟩ := Kd.at_string HR0.out x5_1 p12 q12; cases e12
       replace p12 := eq_true p12; replace q12 := eq_true q12; go_wp2; go_roundg k1
       case measure => have := HK1.out; omega
       case rel => exact ⟨(Qg (x1_1 - ((rdOf ByteArray.empty l0 x5_1).size : Int))), (Qg (x5_1 + 1)), Zf, Zf, H', ⟨by have := HK1.out; omega⟩, by repeat (first | exact Qi _ | apply Qj)⟩
     ·rw [if_neg c5] at H; exact absurd H (by simp)
    ·rw [if_neg c4] at H; replace c4 := decide_eq_false c4; obtain rfl := Option.some.inj H; go_wp2; go_ret; exact ⟨by first | rfl | (simp; done) | (simp [*]; done), by repeat (first | exact Qi _ | apply Qj)⟩
def laws_toStringS.l0 : Nat → List ByteArray → List ByteArray → Int → Option (List ByteArray)
 | 0, _, _, _ => none
 | k + 1, x0, x3, x4 => if x4 < (x0.length : Int) then (if 0 ≤ x4 then (if x4 < (x3.length : Int) then (laws_toStringS.l0 k x0 (x3.set (x4 : Int).toNat (rdOf ByteArray.empty x0 x4)) (Qg (x4 + 1))) else (none)) else (none)) else (some x3)
def laws_toStringS.f (k : Nat) (l0 : List ByteArray) : Option (List ByteArray) := if 0 ≤ (l0.length : Int) then (if ((l0.length : Int) : Int).toNat ≤ 17592186044416 then (laws_toStringS.l0 k l0 (List.replicate ((l0.length : Int) : Int).toNat (⟨#[]⟩ : ByteArray)) 0) else (none)) else (none)
theorem laws_toStringS.mono_l : ∀ k, (∀ y0 y1 y2, LeO (laws_toStringS.l0 k y0 y1 y2) (laws_toStringS.l0 (k + 1) y0 y1 y2))
 | 0 => fun _ _ _ r h => by simp [laws_toStringS.l0] at h
 | k + 1 => by
  have ih0 := laws_toStringS.mono_l k
  ·intro y0 y1 y2; unfold laws_toStringS.l0; exact Lm1 ih0
theorem laws_toStringS.mono : ∀ a0 k, LeO (laws_toStringS.f k a0) (laws_toStringS.f (k + 1) a0) := by
 intro a0 k
 have ih0 := laws_toStringS.mono_l k
 unfold laws_toStringS.f
 exact Lm1 ih0
theorem laws_toStringS.calls (k : Nat) (A0 : Option Addr) (c0 : Nat) (l0 : List ByteArray) (r : List ByteArray) (w : World) (hr0 : Kd.C Kd.string w A0 l0.length l0) (hc0 : l0.length ≤ c0) (h : laws_toStringS.f k l0 = some r) :
  Calls Qk 11 #[.slice A0 l0.length c0] w fun e w' => ∃ v0_ : Value, e = .returned (v0_) ∧ Kd.R Kd.string 9 w' w.heap.size (fun _ => True) v0_ r ∧ Qq w.heap.size w w' := by
 have HR0 := Qa hr0
 have HC0 := Qa hc0
 clear hr0 hc0
 have HB := Qa (Below.refl w.heap.size w)
 have H : (if 0 ≤ (l0.length : Int) then (if ((l0.length : Int) : Int).toNat ≤ 17592186044416 then (laws_toStringS.l0 k l0 (List.replicate ((l0.length : Int) : Int).toNat (⟨#[]⟩ : ByteArray)) 0) else (none)) else (none)) = some r := h
 clear h
 by_cases c2 : 0 ≤ (l0.length : Int)
 ·rw [if_pos c2] at H
  have c2b0 := eq_true c2; have c2b1 := decide_eq_true c2; clear c2; by_cases c3 : ((l0.length : Int) : Int).toNat ≤ 17592186044416
  ·rw [if_pos c3] at H; have c3b0 := eq_true c3; have c3b1 := decide_eq_true c3; clear c3; obtain ⟨y16, hy16⟩ : ∃ y_ : List ByteArray, y_ = (List.replicate ((l0.length : Int) : Int).toNat (⟨#[]⟩ : ByteArray)) := ⟨_, rfl⟩; replace H : (laws_toStringS.l0 k l0 y16 0) = some r := Zh hy16 H; have Ny16 := Qa hy16; clear hy16; have H' := Qa H; clear H; go_enter Try.func11, Try.ntmps11; go_wp2_with (first | ((with_reducible refine gate_dst (N := 7) rfl ?_); refine Kd.R_make Kd.string _ 9 rfl (N := 7) rfl 22 _ _ rfl (l0.length : Int) rfl rfl Try.underlying22 (.string ⟨#[]⟩) 16 info9 rfl (by decide) (by omega) (⟨#[]⟩ : ByteArray) (ok := fun _ => True) (okp := fun _ => True) rfl (fun _ hk => hk) trivial (Da) (Nat.le_trans (Nat.mul_le_mul_right _ (Da : (l0.length : Int).toNat ≤ 17592186044416)) (by omega)) (Below.refl _ _) (Nat.le_refl _) ?_; intro v18 w4 ho5 hb hg_ hnew_; clear hg_ hnew_; (first | rw [← Ny16.out] at ho5 | (simp only [Int.reduceToNat] at ho5; rw [← Ny16.out] at ho5)); have HO19 := Lw ho5 (Bb0 HB.out); replace HB := Sb (Bb0 HB.out) hb; clear hb ho5)); go_loopg [4] k (fun kq v4 w' => ∃ (x3_1 : List ByteArray) (x4_1 : Int), v4 = .int .i64 x4_1 ∧ Aside0 (laws_toStringS.l0 kq l0 x3_1 x4_1 = some r) ∧ Aside0 (kq ≤ k) ∧ Aside0 (Kd.R Kd.string 9 w' w.heap.size (fun _ => True) v18 x3_1) ∧ Aside0 (Qq w.heap.size w w'))
   case atStart => exact ⟨(y16), (0), Zf, H', ⟨Nat.le_refl _⟩, ⟨Br HO19.out⟩, ⟨Bb0 HB.out⟩⟩
   case round =>
    clear H'; (try clear c1)
    (try clear c2)
    (try clear c2b0)
    (try clear c2b1)
    (try clear p2)
    (try clear c3)
    (try clear c3b0)
    (try clear c3b1)
    obtain ⟨x3_1, x4_1, rfl, HA, HK1, HO_3, HB⟩ := hrel; cases gk with
    | zero => exact absurd HA.out (by simp [laws_toStringS.l0])
    | succ k1 =>
     have H := HA.out; clear HA; simp only [laws_toStringS.l0] at H; by_cases c6 : x4_1 < (l0.length : Int)
     ·rw [if_pos c6] at H; replace c6 := decide_eq_true c6; by_cases c7 : 0 ≤ x4_1
      ·rw [if_pos c7] at H; replace c7 := decide_eq_true c7; by_cases c8 : x4_1 < (x3_1.length : Int)
       ·rw [if_pos c8] at H; replace c8 := decide_eq_true c8; obtain ⟨y17, hy17⟩ : ∃ y_ : List ByteArray, y_ = (x3_1.set (x4_1 : Int).toNat (rdOf ByteArray.empty l0 x4_1)) := ⟨_, rfl⟩; replace H : (laws_toStringS.l0 k1 l0 y17 (Qg (x4_1 + 1))) = some r := Zh hy17 H; have Ny17 := Qa hy17; clear hy17; have H' := Qa H; clear H; have p15 : 0 ≤ (x4_1 : Int) := Da; have q15 : x4_1 < (l0.length : Int) := Da; obtain ⟨ad15, e15, hx15_0⟩ := Kd.at_string HR0.out x4_1 p15 q15; cases e15
        replace hx15_0 := Cx HB hx15_0; replace p15 := eq_true p15; replace q15 := eq_true q15; have p9 : 0 ≤ (x4_1 : Int) := Da; have q9 : (x4_1 : Int) < ((x3_1.length : Int) : Int) := Da; obtain ⟨go9, co9, eo9, gb9, gl9, cl9, HG9⟩ := Kd.R_form HO_3.out (by omega); (first | cases eo9 | (injection eo9 with ea_ en_ ec_; (first | subst ea_ | (injection ea_ with ea_; subst ea_)); subst ec_; clear en_))
        have GB9 := Qa gb9; have GG9 := Qa HG9; clear gb9 gl9 HG9; obtain ⟨hx9_0, hf9_0⟩ := Kd.R_celln (⟨#[]⟩ : ByteArray) HO_3.out (x4_1 : Int) p9 q9; replace p9 := eq_true p9; replace q9 := eq_true q9; have HP10 := Kd.R_putg HO_3.out (x4_1 : Int) (rdOf ByteArray.empty l0 x4_1); go_wp2_with (first | ((with_reducible refine gate_store (t := 9) (p := 20) rfl ?_); refine store_event (t := 9) (p := 20) (v := ?vo_w11) (w1 := (wr.setCell ⟨go9, (x4_1 : Int).toNat, none⟩ (.string (rdOf ByteArray.empty l0 x4_1)))) ?hg ?ho ?hn ?hr ?_; (case ho => rfl); (case hg => rfl); (case hn => rfl); (case hr => first | (go_simp; done) | (go_simp; rfl)); intro w11 hw; have hg : wr.grownBy w11 (some go9) := (by rw [hw]; exact HP10.2); have hp_ : Kd.R Kd.string 9 w11 w.heap.size (fun _ => True) (.slice (some ⟨go9, 0, none⟩) x3_1.length co9) y17 := (by rw [hw, Ny17.out]; exact HP10.1); clear HP10; replace HO_3 := Qa (hp_); replace HB := Qa ((by rw [hw]; exact below_set (HB.out) GB9.out : Qq w.heap.size w w11)); clear hg hw hp_)); go_roundg k1
        case measure => have := HK1.out; omega
        case rel => exact ⟨(y17), (Qg (x4_1 + 1)), Zf, H', ⟨by have := HK1.out; omega⟩, ⟨Br HO_3.out⟩, ⟨Bb0 HB.out⟩⟩
       ·rw [if_neg c8] at H; exact absurd H (by simp)
      ·rw [if_neg c7] at H; exact absurd H (by simp)
     ·rw [if_neg c6] at H; replace c6 := decide_eq_false c6; obtain rfl := Option.some.inj H; go_wp2; go_ret; exact ⟨_, Ze, Br HO_3.out, Bb0 HB.out⟩
  ·rw [if_neg c3] at H; exact absurd H (by simp)
 ·rw [if_neg c2] at H
  exact absurd H (by simp)
def laws_eqStringS.l0 : Nat → List ByteArray → List ByteArray → Int → Option (Bool)
 | 0, _, _, _ => none
 | k + 1, x0, x1, x5 => if x5 < (x0.length : Int) then (if 0 ≤ x5 then (if x5 < (x1.length : Int) then (if (rdOf ByteArray.empty x0 x5).toList = (rdOf ByteArray.empty x1 x5).toList then (laws_eqStringS.l0 k x0 x1 (Qg (x5 + 1))) else (some false)) else (none)) else (none)) else (some true)
def laws_eqStringS.f (k : Nat) (l0 : List ByteArray) (l1 : List ByteArray) : Option (Bool) := if (l0.length : Int) = (l1.length : Int) then (laws_eqStringS.l0 k l0 l1 0) else (some false)
theorem laws_eqStringS.mono_l : ∀ k, (∀ y0 y1 y2, LeO (laws_eqStringS.l0 k y0 y1 y2) (laws_eqStringS.l0 (k + 1) y0 y1 y2))
 | 0 => fun _ _ _ r h => by simp [laws_eqStringS.l0] at h
 | k + 1 => by
  have ih0 := laws_eqStringS.mono_l k
  ·intro y0 y1 y2; unfold laws_eqStringS.l0; exact Lm1 ih0
theorem laws_eqStringS.mono : ∀ a0 a1 k, LeO (laws_eqStringS.f k a0 a1) (laws_eqStringS.f (k + 1) a0 a1) := by
 intro a0 a1 k
 have ih0 := laws_eqStringS.mono_l k
 unfold laws_eqStringS.f
 exact Lm1 ih0
theorem laws_eqStringS.calls (k : Nat) (A0 : Option Addr) (c0 : Nat) (l0 : List ByteArray) (A1 : Option Addr) (c1 : Nat) (l1 : List ByteArray) (r : Bool) (w : World) (hr0 : Kd.C Kd.string w A0 l0.length l0) (hc0 : l0.length ≤ c0) (hr1 : Kd.C Kd.string w A1 l1.length l1) (hc1 : l1.length ≤ c1) (h : laws_eqStringS.f k l0 l1 = some r) :
  Calls Qk 14 #[.slice A0 l0.length c0, .slice A1 l1.length c1] w fun e w' => e = .returned (.bool r) ∧ Drawn0 w w' := by
 have HR0 := Qa hr0
 have HC0 := Qa hc0
 clear hr0 hc0
 have HR1 := Qa hr1
 have HC1 := Qa hc1
 clear hr1 hc1
 have H : (if (l0.length : Int) = (l1.length : Int) then (laws_eqStringS.l0 k l0 l1 0) else (some false)) = some r := h
 clear h
 by_cases c3 : (l0.length : Int) = (l1.length : Int)
 ·rw [if_pos c3] at H
  have c3b0 := beq_iff_eq.mpr c3; have c3b1 := bne_eq_false_iff_eq.mpr c3; have c3b2 : (l0.length == l1.length) = true := by first | simpa using c3 | (simp at c3 ⊢; omega)
  clear c3; have H' := Qa H; clear H; go_enter Try.func14, Try.ntmps14; go_wp2; repeat (go_quiet (fail); try go_wp2)
  go_loopg [5] k (fun kq v5 w' => ∃ (x5_1 : Int), v5 = .int .i64 x5_1 ∧ Aside0 (laws_eqStringS.l0 kq l0 l1 x5_1 = some r) ∧ Aside0 (kq ≤ k) ∧ Drawn0 w w')
  case atStart => exact ⟨(0), Zf, H', ⟨Nat.le_refl _⟩, by repeat (first | exact Qi _ | apply Qj)⟩
  case round =>
   clear H'; (try clear c1)
   (try clear p2)
   (try clear c3)
   (try clear c3b0)
   (try clear c3b1)
   (try clear c3b2)
   obtain ⟨x5_1, rfl, HA, HK1, ⟨m1, rfl⟩⟩ := hrel; cases gk with
   | zero => exact absurd HA.out (by simp [laws_eqStringS.l0])
   | succ k1 =>
    have H := HA.out; clear HA; simp only [laws_eqStringS.l0] at H; by_cases c4 : x5_1 < (l0.length : Int)
    ·rw [if_pos c4] at H; replace c4 := decide_eq_true c4; by_cases c5 : 0 ≤ x5_1
     ·rw [if_pos c5] at H; replace c5 := decide_eq_true c5; by_cases c6 : x5_1 < (l1.length : Int)
      ·rw [if_pos c6] at H; replace c6 := decide_eq_true c6; by_cases c7 : (rdOf ByteArray.empty l0 x5_1).toList = (rdOf ByteArray.empty l1 x5_1).toList
       ·rw [if_pos c7] at H; have c7b0 := beq_iff_eq.mpr c7; have c7b1 := bne_eq_false_iff_eq.mpr c7; clear c7; have H' := Qa H; clear H; have p13 : 0 ≤ (x5_1 : Int) := Da; have q13 : x5_1 < (l0.length : Int) := Da; obtain ⟨ad13, e13, hx13_0⟩ := Kd.at_string HR0.out x5_1 p13 q13; cases e13
        replace p13 := eq_true p13; replace q13 := eq_true q13; have p14 : 0 ≤ (x5_1 : Int) := Da; have q14 : x5_1 < (l1.length : Int) := Da; obtain ⟨ad14, e14, hx14_0⟩ := Kd.at_string HR1.out x5_1 p14 q14; cases e14
        replace p14 := eq_true p14; replace q14 := eq_true q14; go_wp2; repeat (go_quiet (fail); try go_wp2)
        go_roundg k1
        case measure => have := HK1.out; omega
        case rel => exact ⟨(Qg (x5_1 + 1)), Zf, H', ⟨by have := HK1.out; omega⟩, by repeat (first | exact Qi _ | apply Qj)⟩
       ·rw [if_neg c7] at H; have c7b0 := beq_eq_false_iff_ne.mpr c7; have c7b1 := bne_iff_ne.mpr c7; obtain rfl := Option.some.inj H; have p13 : 0 ≤ (x5_1 : Int) := Da; have q13 : x5_1 < (l0.length : Int) := Da; obtain ⟨ad13, e13, hx13_0⟩ := Kd.at_string HR0.out x5_1 p13 q13; cases e13
        replace p13 := eq_true p13; replace q13 := eq_true q13; have p14 : 0 ≤ (x5_1 : Int) := Da; have q14 : x5_1 < (l1.length : Int) := Da; obtain ⟨ad14, e14, hx14_0⟩ := Kd.at_string HR1.out x5_1 p14 q14; cases e14
        replace p14 := eq_true p14; replace q14 := eq_true q14; go_wp2; repeat (go_quiet (fail); try go_wp2)
        go_ret; exact ⟨by first | rfl | (simp; done) | (simp [*]; done), by repeat (first | exact Qi _ | apply Qj)⟩
      ·rw [if_neg c6] at H; exact absurd H (by simp)
     ·rw [if_neg c5] at H; exact absurd H (by simp)
    ·rw [if_neg c4] at H; replace c4 := decide_eq_false c4; obtain rfl := Option.some.inj H; go_wp2; repeat (go_quiet (fail); try go_wp2)
     go_ret; exact ⟨by first | rfl | (simp; done) | (simp [*]; done), by repeat (first | exact Qi _ | apply Qj)⟩
 ·rw [if_neg c3] at H
  have c3b0 := beq_eq_false_iff_ne.mpr c3; have c3b1 := bne_iff_ne.mpr c3; have c3b2 : (l0.length == l1.length) = false := by first | simpa using c3 | (simp at c3 ⊢; omega)
  obtain rfl := Option.some.inj H; go_enter Try.func14, Try.ntmps14; go_wp2; repeat (go_quiet (fail); try go_wp2)
  go_ret; exact ⟨by first | rfl | (simp; done) | (simp [*]; done), by repeat (first | exact Qi _ | apply Qj)⟩
end Go.Proofs.Ytoljagpjejpmpaa.PFnExactParseFormula
