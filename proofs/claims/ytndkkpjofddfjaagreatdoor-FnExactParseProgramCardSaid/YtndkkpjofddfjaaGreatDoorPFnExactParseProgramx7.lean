/- A part of the walk through the printed functions; no condition. -/
import Derived.Test.YtndkkpjofddfjaaGreatDoorXAuto
import Derived.Test.YtndkkpjofddfjaaGreatDoorPFnExactParseProgramx0
import Derived.Test.YtndkkpjofddfjaaGreatDoorPFnExactParseProgramx4
import Derived.Test.YtndkkpjofddfjaaGreatDoorPFnExactParseProgramx6
namespace Go.Proofs.YtndkkpjofddfjaaGreatDoor.PFnExactParseProgram
open Go.RowKit Go.Proofs.YtndkkpjofddfjaaGreatDoorW.PrintWords Go.Proofs.YtndkkpjofddfjaaGreatDoorW.PrintLast Go.Proofs.YtndkkpjofddfjaaGreatDoorW.PrintMore
attribute [local go_sem] max2_int min2_int max_two min_two max_three min_three max_four min_four
set_option maxHeartbeats 32000000
set_option maxRecDepth 100000
attribute [local irreducible] Go.World.setCell
set_option linter.unusedVariables false
set_option linter.unusedSimpArgs false
open Go.Proofs.YtndkkpjofddfjaaGreatDoorW.PrintWords.Aside0 renaming mk → Qa
open Go.RowKit renaming wrap64 → Qb, Below → Qv
open Go.Proofs.YtndkkpjofddfjaaGreatDoorW.PrintWords.Kd renaming R_reads' → Qc, string → Qf, at_string → Qg, R_types → Qh, own_blk → Qj, R_ne → Qp, R_slice → Qr, R_below → Qw
open Go.Proofs.YtndkkpjofddfjaaGreatDoorW.PrintWords renaming Aside0 → Qe, add_block → Qs, below_drew1 → Qy
open Go.World renaming block_lt_of_cell? → Qi
mutual
def spec_ParseStmt.j1 : Nat → ByteArray → List ByteArray → Option (Int × ByteArray × ByteArray × Bool)
 | 0, _, _ => none
 | k + 1, x0, x5 => spec_ParseStmt.l1 k x0 x5 0
def spec_ParseStmt.l1 : Nat → ByteArray → List ByteArray → Int → Option (Int × ByteArray × ByteArray × Bool)
 | 0, _, _, _ => none
 | k + 1, x0, x5, x7 => if x7 < (x5.length : Int) then (spec_ParseStmt.l2 k x0 x5 x7 0) else (some (0, (⟨#[]⟩ : ByteArray), (⟨#[]⟩ : ByteArray), false))
def spec_ParseStmt.l2 : Nat → ByteArray → List ByteArray → Int → Int → Option (Int × ByteArray × ByteArray × Bool)
 | 0, _, _, _, _ => none
 | k + 1, x0, x5, x7, x8 => if x8 < (x5.length : Int) then (spec_ParseStmt.l3 k x0 x5 x7 x8 1) else (spec_ParseStmt.l1 k x0 x5 (Qb (x7 + 1)))
def spec_ParseStmt.l3 : Nat → ByteArray → List ByteArray → Int → Int → Int → Option (Int × ByteArray × ByteArray × Bool)
 | 0, _, _, _, _, _ => none
 | k + 1, x0, x5, x7, x8, x9 => if x9 ≤ 12 then (if 0 ≤ x7 then (if x7 < (x5.length : Int) then (if 0 ≤ x8 then (if x8 < (x5.length : Int) then (if x0.toList = ([] : List UInt8) then (spec_ParseStmt.l3 k x0 x5 x7 x8 (Qb (x9 + 1))) else ((spec_StmtText.f k x9 (rdOf ByteArray.empty x5 x7) (rdOf ByteArray.empty x5 x8)).bind fun t63 => (if t63.toList = x0.toList then (some (x9, rdOf ByteArray.empty x5 x7, rdOf ByteArray.empty x5 x8, true)) else (spec_ParseStmt.l3 k x0 x5 x7 x8 (Qb (x9 + 1)))))) else (none)) else (none)) else (none)) else (none)) else (spec_ParseStmt.l2 k x0 x5 x7 (Qb (x8 + 1)))
def spec_ParseStmt.l0 : Nat → ByteArray → List ByteArray → List ByteArray → Int → Option (Int × ByteArray × ByteArray × Bool)
 | 0, _, _, _, _ => none
 | k + 1, x0, x4, x5, x6 => if x6 < (x4.length : Int) then (if x6 < 3 then (if 0 ≤ x6 then (if x5.length < 8796093022208 then (spec_ParseStmt.l0 k x0 x4 (x5 ++ [rdOf ByteArray.empty x4 x6]) (Qb (x6 + 1))) else (none)) else (none)) else (spec_ParseStmt.j1 k x0 x5)) else (spec_ParseStmt.j1 k x0 x5)
end
def spec_ParseStmt.f (k : Nat) (a0 : ByteArray) : Option (Int × ByteArray × ByteArray × Bool) := (spec_l5Words.f k a0).bind fun t57 => (spec_ParseStmt.l0 k a0 t57 (([(⟨#[]⟩ : ByteArray), (⟨#[]⟩ : ByteArray)] : List ByteArray)) 0)
theorem spec_ParseStmt.mono_l : ∀ k, (∀ y0 y1, LeO (spec_ParseStmt.j1 k y0 y1) (spec_ParseStmt.j1 (k + 1) y0 y1)) ∧ (∀ y0 y1 y2, LeO (spec_ParseStmt.l1 k y0 y1 y2) (spec_ParseStmt.l1 (k + 1) y0 y1 y2)) ∧ (∀ y0 y1 y2 y3, LeO (spec_ParseStmt.l2 k y0 y1 y2 y3) (spec_ParseStmt.l2 (k + 1) y0 y1 y2 y3)) ∧ (∀ y0 y1 y2 y3 y4, LeO (spec_ParseStmt.l3 k y0 y1 y2 y3 y4) (spec_ParseStmt.l3 (k + 1) y0 y1 y2 y3 y4)) ∧ (∀ y0 y1 y2 y3, LeO (spec_ParseStmt.l0 k y0 y1 y2 y3) (spec_ParseStmt.l0 (k + 1) y0 y1 y2 y3))
 | 0 => ⟨fun _ _ r h => by simp [spec_ParseStmt.j1] at h, fun _ _ _ r h => by simp [spec_ParseStmt.l1] at h, fun _ _ _ _ r h => by simp [spec_ParseStmt.l2] at h, fun _ _ _ _ _ r h => by simp [spec_ParseStmt.l3] at h, fun _ _ _ _ r h => by simp [spec_ParseStmt.l0] at h⟩
 | k + 1 => by
  obtain ⟨ih0, ih1, ih2, ih3, ih4⟩ := spec_ParseStmt.mono_l k; refine ⟨?_, ?_, ?_, ?_, ?_⟩
  ·intro y0 y1; unfold spec_ParseStmt.j1; exact Lm7 ih0 ih1 ih2 ih3 ih4 spec_StmtText.mono spec_l5Words.mono
  ·intro y0 y1 y2; unfold spec_ParseStmt.l1; exact Lm7 ih0 ih1 ih2 ih3 ih4 spec_StmtText.mono spec_l5Words.mono
  ·intro y0 y1 y2 y3; unfold spec_ParseStmt.l2; exact Lm7 ih0 ih1 ih2 ih3 ih4 spec_StmtText.mono spec_l5Words.mono
  ·intro y0 y1 y2 y3 y4; unfold spec_ParseStmt.l3; exact Lm7 ih0 ih1 ih2 ih3 ih4 spec_StmtText.mono spec_l5Words.mono
  ·intro y0 y1 y2 y3; unfold spec_ParseStmt.l0; exact Lm7 ih0 ih1 ih2 ih3 ih4 spec_StmtText.mono spec_l5Words.mono
theorem spec_ParseStmt.mono : ∀ a0 k, LeO (spec_ParseStmt.f k a0) (spec_ParseStmt.f (k + 1) a0) := by
 intro a0 k
 obtain ⟨ih0, ih1, ih2, ih3, ih4⟩ := spec_ParseStmt.mono_l k
 unfold spec_ParseStmt.f
 exact Lm7 ih0 ih1 ih2 ih3 ih4 spec_StmtText.mono spec_l5Words.mono
def spec_ParseStmt.T16 : Bool × List (List Nat × List Nat) := (true, [([], []), ([], []), ([], []), ([1, 2], [1, 2]), ([3], [3]), ([], []), ([], []), ([5, 6], [5, 6]), ([7], [7]), ([0, 4, 8], [0, 4, 8]), ([], []), ([10, 9, 0, 1, 2, 3, 4, 5, 6, 7, 8, 9, 10], [9, 10])])
def spec_ParseStmt.B16 : List Nat := [0, 0, 0, 6, 14, 0, 0, 96, 224, 511, 0, 2047]
theorem spec_ParseStmt.tab16 : rtab .any (opsOf Tryz.f80 16) = spec_ParseStmt.T16 := by kernel_rfl
theorem spec_ParseStmt.bits16 : waitsOk spec_ParseStmt.T16.2 spec_ParseStmt.B16 = true := by kernel_rfl
theorem spec_ParseStmt.calls (k : Nat) (a0 : ByteArray) (r1 : Int) (r2 : ByteArray) (r3 : ByteArray) (r4 : Bool) (w : World) (h : spec_ParseStmt.f k a0 = some (r1, r2, r3, r4)) :
  Calls Tryz.prog 80 #[.string a0] w fun e w' => e = .returned (.tuple #[.agg #[.int .i64 r1, .string r2, .string r3], .bool r4]) ∧ Qv w.heap.size w w' := by
 have hu50 := Tryz.underlying50
 have HB := Qa (Below.refl w.heap.size w)
 have H : ((spec_l5Words.f k a0).bind fun t57 => (spec_ParseStmt.l0 k a0 t57 (([(⟨#[]⟩ : ByteArray), (⟨#[]⟩ : ByteArray)] : List ByteArray)) 0)) = some (r1, r2, r3, r4) := h
 clear h
 obtain ⟨t57, A2, H⟩ := Ob H
 (try dsimp only at H)
 obtain ⟨y61, hy61⟩ : ∃ y_ : List ByteArray, y_ = (([(⟨#[]⟩ : ByteArray), (⟨#[]⟩ : ByteArray)] : List ByteArray)) := ⟨_, rfl⟩
 replace H : (spec_ParseStmt.l0 k a0 t57 y61 0) = some (r1, r2, r3, r4) := Zh hy61 H
 have Ny61 := Qa hy61
 clear hy61
 have HC3 := Qa H
 clear H
 go_enter Tryz.func80, Tryz.ntmps80
 go_upto_block 0 with (first | ((with_reducible refine gate_dst (N := 2) rfl ?_); refine Bx (N := 2) (cs := #[.int .i64 0, .string (⟨#[]⟩ : ByteArray), .string (⟨#[]⟩ : ByteArray)]) (t := 50) ?_; intro gb53 hg w4 hbox hb; have BK53 := Qa (hbox); have GW53 := Gs (w := w) hg (Bb0 HB.out); have GE53 := GW53; replace HB := Sb (Bb0 HB.out) hb; clear hb hbox hg) | ((with_reducible refine gate_callee (f := 107) rfl ?_); refine Gl 12 Tryz.func107 #[.string a0] ?_; (with_reducible refine (spec_l5Words.calls k a0 t57 _ A2.out).mono ?_); rintro e w5 ⟨v66, rfl, ho0, hb⟩; refine ⟨_, rfl, ?_⟩; have HO65 := Lw ho0 (Bb1 HB.out GE53.out); replace BK53 := Kb BK53 hb; replace HB := Sb (Bb1 HB.out GE53.out) hb; clear hb; (try clear ho0)) | ((with_reducible refine gate_dst (N := 13) rfl ?_); refine Kd.R_lit Qf _ 9 ?hg (N := 13) ?hd (xs := ([(⟨#[]⟩ : ByteArray), (⟨#[]⟩ : ByteArray)] : List ByteArray)) (inner := [.string (⟨#[]⟩ : ByteArray), .string (⟨#[]⟩ : ByteArray)]) (ok := fun _ => True) (okp := fun _ => True) ?hr ?hp (fun _ hk => hk) trivial (Below.refl _ _) (Nat.le_refl _) (by simp) ?_; (case hd => rfl); (case hg => rfl); (case hr => first | (go_simp; done) | (go_simp; rfl)); (case hp => exact (Reps.one (show Kd.M Qf _ _ _ (⟨#[]⟩ : ByteArray) [.string (⟨#[]⟩ : ByteArray)] from rfl) (Reps.one (show Kd.M Qf _ _ _ (⟨#[]⟩ : ByteArray) [.string (⟨#[]⟩ : ByteArray)] from rfl) (Reps.none _ _)))); intro v69 w6 ho7 hb hg_ hnew_; clear hg_ hnew_; (first | rw [← Ny61.out] at ho7 | (simp only [Int.reduceToNat] at ho7; rw [← Ny61.out] at ho7)); have HO67 := Lw (Kd.R_new' ho7 (Kd.R_lt (Br HO65.out))) (Bb1 HB.out GE53.out); replace HO65 := Ke HO65 hb ho7; replace BK53 := Kb BK53 hb; replace HB := Sb (Bb1 HB.out GE53.out) hb; clear hb ho7))
 (try simp only [Act.put, List.setIfInBounds_toArray, List.set_cons_zero, List.set_cons_succ])
 go_cut [5] (fun v5 wc => ∃ (kq : Nat) (x5_2 : List ByteArray), Qe (spec_ParseStmt.j1 kq a0 x5_2 = some (r1, r2, r3, r4)) ∧ Qe (kq ≤ k) ∧ Qe (Kd.R Qf 9 wc w.heap.size (fun _ => True) v5 x5_2) ∧ Qe (wc.heap[gb53]? = some (.cells #[.int .i64 0, .string (⟨#[]⟩ : ByteArray), .string (⟨#[]⟩ : ByteArray)] 50 (0, 0))) ∧ Qe (Qv w.heap.size w wc))
 case first =>
  have H := HC3.out; clear HC3; have H' := Qa H; clear H; go_wp2; go_loopg [5, 6] k (fun kq v5 v6 w' => ∃ (x5_1 : List ByteArray) (x6_1 : Int), v6 = .int .i64 x6_1 ∧ Qe (spec_ParseStmt.l0 kq a0 t57 x5_1 x6_1 = some (r1, r2, r3, r4)) ∧ Qe (kq ≤ k) ∧ Qe (Kd.R Qf 9 w' w.heap.size (fun k_ => some k_ ≠ (v5 : Value).ownBlock) v66 t57) ∧ Qe (Kd.R Qf 9 w' w.heap.size (fun k_ => some k_ ≠ (v66 : Value).ownBlock) v5 x5_1) ∧ Qe (w'.heap[gb53]? = some (.cells #[.int .i64 0, .string (⟨#[]⟩ : ByteArray), .string (⟨#[]⟩ : ByteArray)] 50 (0, 0))) ∧ Qe (Qv w.heap.size w w'))
  case atStart => exact ⟨(y61), (0), Zf, H', ⟨Nat.le_refl _⟩, ⟨Rs HO65.out⟩, ⟨Rs HO67.out⟩, ⟨Ba BK53.out⟩, ⟨Bb1 HB.out GE53.out⟩⟩
  case round =>
   clear H'; (try clear c1)
   (try clear p2)
   obtain ⟨x5_1, x6_1, rfl, HA, HK1, HO_4, HO_5, BK53, HB⟩ := hrel; cases gk with
   | zero => exact absurd HA.out (by simp [spec_ParseStmt.l0])
   | succ k1 =>
    have H := HA.out; clear HA; simp only [spec_ParseStmt.l0] at H; by_cases c8 : x6_1 < (t57.length : Int)
    ·rw [if_pos c8] at H; replace c8 := decide_eq_true c8; (first | rw [c8] | (simp only [i64_w, i32_w]; rw [c8]) | skip)
     by_cases c9 : x6_1 < 3
     ·rw [if_pos c9] at H; replace c9 := decide_eq_true c9; by_cases c10 : 0 ≤ x6_1
      ·rw [if_pos c10] at H; replace c10 := decide_eq_true c10; by_cases c11 : x5_1.length < 8796093022208
       ·rw [if_pos c11] at H; have LMc11 := Qa c11; clear c11; obtain ⟨y62, hy62⟩ : ∃ y_ : List ByteArray, y_ = (x5_1 ++ [rdOf ByteArray.empty t57 x6_1]) := ⟨_, rfl⟩; replace H : (spec_ParseStmt.l0 k1 a0 t57 y62 (Qb (x6_1 + 1))) = some (r1, r2, r3, r4) := Zh hy62 H; have Ny62 := Qa hy62; clear hy62; have H' := Qa H; clear H; obtain ⟨Ao12, co12, eo12⟩ := Qr HO_4.out; subst eo12; have p56 : 0 ≤ (x6_1 : Int) := Da; have q56 : x6_1 < (t57.length : Int) := Da; obtain ⟨ad56, e56, hx56_0⟩ := Qg (Qc HO_4.out).2.2 x6_1 p56 q56; cases e56
        replace p56 := eq_true p56; replace q56 := eq_true q56; go_wp2_with (first | ((with_reducible refine gate_builtin (b := .append) (xs := #[.tmp 24, .tmp 29]) rfl ?_); at_builtin; refine Kd.R_append Qf (w0 := w) w.heap.size rfl (.tmp 24) (.tmp 29) 22 9 (.string ⟨#[]⟩) 16 rfl Tryz.underlying22 info9 rfl (by decide) (by omega) u5 x5_1 (rdOf ByteArray.empty t57 x6_1) [.string (rdOf ByteArray.empty t57 x6_1)] (fun k_ => some k_ ≠ (.slice (some ad56) t57.length co12 : Value).ownBlock) (fun _ => False) rfl rfl ?aP (fun _ hk => hk.elim) ?aF ?aO ?aB ?aS ?aL ?_; (case aP => exact rfl); (case aB => exact (Bb1 HB.out GE53.out)); (case aF => exact (fun k_ hk => Kd.fresh' (Kd.R_lt (Br HO_4.out)) k_ hk)); (case aO => exact (Br HO_5.out)); (case aS => exact (below_size (Bb1 HB.out GE53.out))); (case aL => have := LMc11.out; omega); intro v70 w13 ho hb hg hat; rw [← Ny62.out] at ho; replace HO_4 := Qa (Kd.R_after (ok := (fun _ => True)) (by (with_reducible repeat (first | apply Kd.R_alloc | apply Kd.R_drewN | apply Kd.R_drew)); exact Kd.R_mono HO_4.out (fun _ hk => ⟨trivial, hk⟩)) hg hat); replace BK53 := Kg BK53 hg HO_5; replace HB := Qa (hb); have HO68 := Qa (ho); clear HO_5; clear ho hb hg hat)); go_roundg k1
        case measure => have := HK1.out; omega
        case rel => exact ⟨(y62), (Qb (x6_1 + 1)), Zf, H', ⟨by have := HK1.out; omega⟩, ⟨Rs HO_4.out⟩, ⟨Br HO68.out⟩, ⟨Ba BK53.out⟩, ⟨Bb1 HB.out GE53.out⟩⟩
       ·rw [if_neg c11] at H; exact absurd H (by simp)
      ·rw [if_neg c10] at H; exact absurd H (by simp)
     ·rw [if_neg c9] at H; replace c9 := decide_eq_false c9; have H' := Qa H; clear H; obtain ⟨Ao14, co14, eo14⟩ := Qr HO_4.out; subst eo14; go_wp2; go_meet
      case rel => exact ⟨_, (x5_1), H', ⟨by have := HK1.out; first | omega | exact Nat.le_refl _⟩, ⟨Rs HO_5.out⟩, ⟨Ba BK53.out⟩, ⟨Bb1 HB.out GE53.out⟩⟩
    ·rw [if_neg c8] at H; replace c8 := decide_eq_false c8; (first | rw [c8] | (simp only [i64_w, i32_w]; rw [c8]) | skip)
     have H' := Qa H; clear H; obtain ⟨Ao15, co15, eo15⟩ := Qr HO_4.out; subst eo15; go_wp2; go_meet
     case rel => exact ⟨_, (x5_1), H', ⟨by have := HK1.out; first | omega | exact Nat.le_refl _⟩, ⟨Rs HO_5.out⟩, ⟨Ba BK53.out⟩, ⟨Bb1 HB.out GE53.out⟩⟩
 case rest =>
  clear HC3; (try clear c1)
  (try clear p1)
  (try clear q1)
  (try clear hx1)
  (try clear p2)
  (try clear p6)
  (try clear c8)
  (try clear c8)
  (try clear c9)
  (try clear c9)
  (try clear c10)
  (try clear c10)
  (try clear c11)
  (try clear hx56_0)
  (try clear p56)
  (try clear p2)
  (try clear q56)
  obtain ⟨kq, x5_2, HA, HJ2, HO_5, BK53, HB⟩ := hcut; cases kq with
  | zero => exact absurd HA.out (by simp [spec_ParseStmt.j1])
  | succ kj2 =>
   have H := HA.out; clear HA; simp only [spec_ParseStmt.j1] at H; have H' := Qa H; clear H; go_wp2; go_loopg [7] kj2 (fun kq v7 w' => ∃ (x7_2 : Int) (x58_2 : Int) (x59_2 : ByteArray) (x60_2 : ByteArray), v7 = .int .i64 x7_2 ∧ Qe (spec_ParseStmt.l1 kq a0 x5_2 x7_2 = some (r1, r2, r3, r4)) ∧ Qe (kq ≤ kj2) ∧ Qe (Kd.R Qf 9 w' w.heap.size (fun _ => True) u5 x5_2) ∧ Qe (w'.heap[gb53]? = some (.cells #[.int .i64 x58_2, .string x59_2, .string x60_2] 50 (0, 0))) ∧ Qe (Qv w.heap.size w w'))
   case atStart => exact ⟨(0), (0), ((⟨#[]⟩ : ByteArray)), ((⟨#[]⟩ : ByteArray)), Zf, H', ⟨Nat.le_refl _⟩, ⟨Br HO_5.out⟩, ⟨Ba BK53.out⟩, ⟨Bb1 HB.out GE53.out⟩⟩
   case round =>
    clear H'; (try clear c1)
    (try clear p1)
    (try clear q1)
    (try clear hx1)
    (try clear p2)
    (try clear p6)
    (try clear c8)
    (try clear c8)
    (try clear c9)
    (try clear c9)
    (try clear c10)
    (try clear c10)
    (try clear c11)
    (try clear hx56_0)
    (try clear p1)
    (try clear p56)
    (try clear p2)
    (try clear p6)
    (try clear q1)
    (try clear q56)
    obtain ⟨x7_2, x58_2, x59_2, x60_2, rfl, HA, HK2, HO_5, BK53, HB⟩ := hrel; cases gk with
    | zero => exact absurd HA.out (by simp [spec_ParseStmt.l1])
    | succ k2 =>
     have H := HA.out; clear HA; simp only [spec_ParseStmt.l1] at H; by_cases c16 : x7_2 < (x5_2.length : Int)
     ·rw [if_pos c16] at H; replace c16 := decide_eq_true c16; have H' := Qa H; clear H; obtain ⟨Ao17, co17, eo17⟩ := Qr HO_5.out; subst eo17; go_wp2; go_loopg [8] k2 (fun kq v8 w' => ∃ (x8_3 : Int) (x58_3 : Int) (x59_3 : ByteArray) (x60_3 : ByteArray), v8 = .int .i64 x8_3 ∧ Qe (spec_ParseStmt.l2 kq a0 x5_2 x7_2 x8_3 = some (r1, r2, r3, r4)) ∧ Qe (kq ≤ k2) ∧ Qe (Kd.R Qf 9 w' w.heap.size (fun _ => True) (.slice Ao17 x5_2.length co17) x5_2) ∧ Qe (w'.heap[gb53]? = some (.cells #[.int .i64 x58_3, .string x59_3, .string x60_3] 50 (0, 0))) ∧ Qe (Qv w.heap.size w w'))
      case atStart => exact ⟨(0), (x58_2), (x59_2), (x60_2), Zf, H', ⟨Nat.le_refl _⟩, ⟨Br HO_5.out⟩, ⟨Ba BK53.out⟩, ⟨Bb1 HB.out GE53.out⟩⟩
      case round =>
       clear H'; (try clear c1)
       (try clear p1)
       (try clear q1)
       (try clear hx1)
       (try clear p2)
       (try clear p6)
       (try clear c8)
       (try clear c8)
       (try clear c9)
       (try clear c9)
       (try clear c10)
       (try clear c10)
       (try clear c11)
       (try clear c16)
       (try clear c16)
       (try clear hx56_0)
       (try clear p1)
       (try clear p56)
       (try clear p2)
       (try clear p6)
       (try clear q1)
       (try clear q56)
       obtain ⟨x8_3, x58_3, x59_3, x60_3, rfl, HA, HK3, HO_5, BK53, HB⟩ := hrel; cases gk with
       | zero => exact absurd HA.out (by simp [spec_ParseStmt.l2])
       | succ k3 =>
        have H := HA.out; clear HA; simp only [spec_ParseStmt.l2] at H; by_cases c18 : x8_3 < (x5_2.length : Int)
        ·rw [if_pos c18] at H; replace c18 := decide_eq_true c18; have H' := Qa H; clear H; go_wp2; go_loopg [9] k3 (fun kq v9 w' => ∃ (x9_4 : Int) (x58_4 : Int) (x59_4 : ByteArray) (x60_4 : ByteArray), v9 = .int .i64 x9_4 ∧ Qe (spec_ParseStmt.l3 kq a0 x5_2 x7_2 x8_3 x9_4 = some (r1, r2, r3, r4)) ∧ Qe (kq ≤ k3) ∧ Qe (Kd.R Qf 9 w' w.heap.size (fun _ => True) (.slice Ao17 x5_2.length co17) x5_2) ∧ Qe (w'.heap[gb53]? = some (.cells #[.int .i64 x58_4, .string x59_4, .string x60_4] 50 (0, 0))) ∧ Qe (Qv w.heap.size w w'))
         case atStart => exact ⟨(1), (x58_3), (x59_3), (x60_3), Zf, H', ⟨Nat.le_refl _⟩, ⟨Br HO_5.out⟩, ⟨Ba BK53.out⟩, ⟨Bb1 HB.out GE53.out⟩⟩
         case round =>
          clear H'; (try clear c1)
          (try clear p1)
          (try clear q1)
          (try clear hx1)
          (try clear p2)
          (try clear p6)
          (try clear c8)
          (try clear c8)
          (try clear c9)
          (try clear c9)
          (try clear c10)
          (try clear c10)
          (try clear c11)
          (try clear c16)
          (try clear c16)
          (try clear c18)
          (try clear c18)
          (try clear hx56_0)
          (try clear p1)
          (try clear p56)
          (try clear p2)
          (try clear p6)
          (try clear q1)
          (try clear q56)
          obtain ⟨x9_4, x58_4, x59_4, x60_4, rfl, HA, HK4, HO_5, BK53, HB⟩ := hrel; cases gk with
          | zero => exact absurd HA.out (by simp [spec_ParseStmt.l3])
          | succ k4 =>
           have H := HA.out; clear HA; simp only [spec_ParseStmt.l3] at H; by_cases c19 : x9_4 ≤ 12
           ·rw [if_pos c19] at H; replace c19 := decide_eq_true c19; by_cases c20 : 0 ≤ x7_2
            ·rw [if_pos c20] at H; replace c20 := decide_eq_true c20; by_cases c21 : x7_2 < (x5_2.length : Int)
             ·rw [if_pos c21] at H; replace c21 := decide_eq_true c21; by_cases c22 : 0 ≤ x8_3
              ·rw [if_pos c22] at H; replace c22 := decide_eq_true c22; by_cases c23 : x8_3 < (x5_2.length : Int)
               ·rw [if_pos c23] at H; replace c23 := decide_eq_true c23; by_cases c24 : a0.toList = ([] : List UInt8)
                ·rw [if_pos c24] at H; have c24b0 := beq_iff_eq.mpr c24; have c24b1 := bne_eq_false_iff_eq.mpr c24; clear c24; have H' := Qa H; clear H; try go_wp2
                 replace HO_5 := Dr HO_5; replace BK53 := Db BK53; replace HB := Qa (Qy HB.out); have p54 : 0 ≤ (x7_2 : Int) := Da; have q54 : x7_2 < (x5_2.length : Int) := Da; obtain ⟨ad54, e54, hx54_0⟩ := Qg (Qc HO_5.out).2.2 x7_2 p54 q54; cases e54
                 replace p54 := eq_true p54; replace q54 := eq_true q54; have p55 : 0 ≤ (x8_3 : Int) := Da; have q55 : x8_3 < (x5_2.length : Int) := Da; obtain ⟨ad55, e55, hx55_0⟩ := Qg (Qc HO_5.out).2.2 x8_3 p55 q55; obtain rfl : ad54 = ad55 := (by injection e55); replace p55 := eq_true p55; replace q55 := eq_true q55; refine start_ (n := 12) (S := fun w' => w'.cell? (ad54.add (x7_2).toNat) = some (.string (rdOf ByteArray.empty x5_2 x7_2)) ∧ w'.cell? (ad54.add (x8_3).toNat) = some (.string (rdOf ByteArray.empty x5_2 x8_3))) (ds := []) #[false, false, false, false, false, false, false, false, false, false, false, false] (by kernel_rfl) rfl rfl ⟨hx54_0, hx55_0⟩ (fun hHeld => ?_); refine with_tabW spec_ParseStmt.tab16 spec_ParseStmt.bits16 (fun HT_ HW_ => ?_); generalize wr.drew = w25 at HO_5 BK53 HB hx54_0 hx55_0 hHeld ⊢; refine Pt 0 47 HT_ ?_; refine Pt 1 48 HT_ ?_; refine Pt 2 49 HT_ ?_; refine Pt 3 50 HT_ ?_; refine Pt 5 52 HT_ ?_; refine Pt 6 53 HT_ ?_; refine Pt 7 54 HT_ ?_; refine Tu2 4 51 HT_ HW_ hHeld ?_; refine Tu2 8 55 HT_ HW_ hHeld ?_; refine Pt 9 56 HT_ ?_; refine Ot 10 10 HT_ (fun K hK => ?_); refine box_step ?hg (N := 10) ?hd (cs := #[.int .i64 0, .string (⟨#[]⟩ : ByteArray), .string (⟨#[]⟩ : ByteArray)]) (t := 50) ?hr ?_; (case hd => rfl); (case hg => rfl); (case hr => first | (go_simp; done) | (go_simp; rfl)); intro gb52 hg w26 hbox hb; have HS0_ := (hb.cell (Qi _ _ (hHeld.1))).trans (hHeld.1); have HS1_ := (hb.cell (Qi _ _ (hHeld.2))).trans (hHeld.2); replace HO_5 := Rb HO_5 hb; have BK52 := Qa (hbox); have GW52 := Gs (w := w) hg (Bb1 HB.out GE53.out); have GE52 := GW52; replace HB := Sb (Bb1 HB.out GE53.out) hb; have NB53_52 := Nl hg BK53; have NB52_53 := Ng hg BK53; replace BK53 := Kb BK53 hb; clear hb hbox hg; refine hK.out _ _ ⟨HS0_, HS1_⟩ (fun hHeld => ?_); clear hK K; refine Nn 10 ?_; refine one_ (i := 11) (N := none) #[true, true, true, true, true, true, true, true, true, true, true, true] rfl rfl (one_of HT_.out (by kernel_rfl)) (by decide) (fun K hK => ?_); have hs27 : w26.cell? ⟨gb52, 0, none⟩ = some (.int .i64 0) := (blk_cell BK52.out 0).trans rfl; have hfs27 := blk_frozen BK52.out 0; have hns27_0 := NB53_52.out; have hms27_0 := NB52_53.out; have hs28 : w26.cell? ⟨gb52, 1, none⟩ = some (.string (⟨#[]⟩ : ByteArray)) := (blk_cell BK52.out 1).trans rfl; have hfs28 := blk_frozen BK52.out 1; have hns28_0 := NB53_52.out; have hms28_0 := NB52_53.out; have hs29 : w26.cell? ⟨gb52, 2, none⟩ = some (.string (⟨#[]⟩ : ByteArray)) := (blk_cell BK52.out 2).trans rfl; have hfs29 := blk_frozen BK52.out 2; have hns29_0 := NB53_52.out; have hms29_0 := NB52_53.out; refine skip_ (w1 := ?_) (by rfl) rfl ?_ ?_; rotate_left
                 ·go_simp; rfl
                 refine hK.out _ _ ⟨((cell_far (p := ⟨gb52, _, none⟩) (by first | exact Qj (Qp HO_5.out BK52.out (by decide)) | (rw [Qs]; exact Qj (Qp HO_5.out BK52.out (by decide))) | (show (Addr.add _ _).block ≠ _; rw [Qs]; exact Qj (Qp HO_5.out BK52.out (by decide))) | (dsimp only; exact Qj (Qp HO_5.out BK52.out (by decide)))) _).trans (((cell_far (p := ⟨gb52, _, none⟩) (by first | exact Qj (Qp HO_5.out BK52.out (by decide)) | (rw [Qs]; exact Qj (Qp HO_5.out BK52.out (by decide))) | (show (Addr.add _ _).block ≠ _; rw [Qs]; exact Qj (Qp HO_5.out BK52.out (by decide))) | (dsimp only; exact Qj (Qp HO_5.out BK52.out (by decide)))) _).trans (((cell_far (p := ⟨gb52, _, none⟩) (by first | exact Qj (Qp HO_5.out BK52.out (by decide)) | (rw [Qs]; exact Qj (Qp HO_5.out BK52.out (by decide))) | (show (Addr.add _ _).block ≠ _; rw [Qs]; exact Qj (Qp HO_5.out BK52.out (by decide))) | (dsimp only; exact Qj (Qp HO_5.out BK52.out (by decide)))) _).trans (hHeld.1)))))), ((cell_far (p := ⟨gb52, _, none⟩) (by first | exact Qj (Qp HO_5.out BK52.out (by decide)) | (rw [Qs]; exact Qj (Qp HO_5.out BK52.out (by decide))) | (show (Addr.add _ _).block ≠ _; rw [Qs]; exact Qj (Qp HO_5.out BK52.out (by decide))) | (dsimp only; exact Qj (Qp HO_5.out BK52.out (by decide)))) _).trans (((cell_far (p := ⟨gb52, _, none⟩) (by first | exact Qj (Qp HO_5.out BK52.out (by decide)) | (rw [Qs]; exact Qj (Qp HO_5.out BK52.out (by decide))) | (show (Addr.add _ _).block ≠ _; rw [Qs]; exact Qj (Qp HO_5.out BK52.out (by decide))) | (dsimp only; exact Qj (Qp HO_5.out BK52.out (by decide)))) _).trans (((cell_far (p := ⟨gb52, _, none⟩) (by first | exact Qj (Qp HO_5.out BK52.out (by decide)) | (rw [Qs]; exact Qj (Qp HO_5.out BK52.out (by decide))) | (show (Addr.add _ _).block ≠ _; rw [Qs]; exact Qj (Qp HO_5.out BK52.out (by decide))) | (dsimp only; exact Qj (Qp HO_5.out BK52.out (by decide)))) _).trans (hHeld.2))))))⟩ (fun hHeld => ?_); clear hK K; refine done_ (done_of HT_.out (by kernel_rfl)) ?_; try go_wp2
                 go_roundg k4
                 case measure => have := HJ2.out; have := HK2.out; have := HK3.out; have := HK4.out; omega
                 case rel => exact ⟨(Qb (x9_4 + 1)), (x58_4), (x59_4), (x60_4), Zf, H', ⟨by have := HJ2.out; have := HK2.out; have := HK3.out; have := HK4.out; omega⟩, ⟨Rs (Qh HO_5.out BK52.out (by decide))⟩, ⟨Bf BK53.out NB53_52.out⟩, ⟨Bb2 HB.out GE53.out GE52.out⟩⟩
                ·rw [if_neg c24] at H; have c24b0 := beq_eq_false_iff_ne.mpr c24; have c24b1 := bne_iff_ne.mpr c24; obtain ⟨t63, A30, H⟩ := Ob H; (try dsimp only at H)
                 by_cases c31 : t63.toList = a0.toList
                 ·rw [if_pos c31] at H; have c31b0 := beq_iff_eq.mpr c31; have c31b1 := bne_eq_false_iff_eq.mpr c31; clear c31; simp only [Option.some.injEq, Prod.mk.injEq] at H; obtain ⟨rfl, rfl, rfl, rfl⟩ := H; try go_wp2
                  replace HO_5 := Dr HO_5; replace BK53 := Db BK53; replace HB := Qa (Qy HB.out); have p54 : 0 ≤ (x7_2 : Int) := Da; have q54 : x7_2 < (x5_2.length : Int) := Da; obtain ⟨ad54, e54, hx54_0⟩ := Qg (Qc HO_5.out).2.2 x7_2 p54 q54; cases e54
                  replace p54 := eq_true p54; replace q54 := eq_true q54; have p55 : 0 ≤ (x8_3 : Int) := Da; have q55 : x8_3 < (x5_2.length : Int) := Da; obtain ⟨ad55, e55, hx55_0⟩ := Qg (Qc HO_5.out).2.2 x8_3 p55 q55; obtain rfl : ad54 = ad55 := (by injection e55); replace p55 := eq_true p55; replace q55 := eq_true q55; refine start_ (n := 12) (S := fun w' => w'.cell? (ad54.add (x7_2).toNat) = some (.string (rdOf ByteArray.empty x5_2 x7_2)) ∧ w'.cell? (ad54.add (x8_3).toNat) = some (.string (rdOf ByteArray.empty x5_2 x8_3))) (ds := []) #[false, false, false, false, false, false, false, false, false, false, false, false] (by kernel_rfl) rfl rfl ⟨hx54_0, hx55_0⟩ (fun hHeld => ?_); refine with_tabW spec_ParseStmt.tab16 spec_ParseStmt.bits16 (fun HT_ HW_ => ?_); generalize wr.drew = w32 at HO_5 BK53 HB hx54_0 hx55_0 hHeld ⊢; refine Pt 0 47 HT_ ?_; refine Pt 1 48 HT_ ?_; refine Pt 2 49 HT_ ?_; refine Pt 3 50 HT_ ?_; refine Pt 5 52 HT_ ?_; refine Pt 6 53 HT_ ?_; refine Pt 7 54 HT_ ?_; refine Tu2 4 51 HT_ HW_ hHeld ?_; refine Tu2 8 55 HT_ HW_ hHeld ?_; refine Pt 9 56 HT_ ?_; refine Ot 10 10 HT_ (fun K hK => ?_); refine box_step ?hg (N := 10) ?hd (cs := #[.int .i64 0, .string (⟨#[]⟩ : ByteArray), .string (⟨#[]⟩ : ByteArray)]) (t := 50) ?hr ?_; (case hd => rfl); (case hg => rfl); (case hr => first | (go_simp; done) | (go_simp; rfl)); intro gb52 hg w33 hbox hb; have HS0_ := (hb.cell (Qi _ _ (hHeld.1))).trans (hHeld.1); have HS1_ := (hb.cell (Qi _ _ (hHeld.2))).trans (hHeld.2); replace HO_5 := Rb HO_5 hb; have BK52 := Qa (hbox); have GW52 := Gs (w := w) hg (Bb1 HB.out GE53.out); have GE52 := GW52; replace HB := Sb (Bb1 HB.out GE53.out) hb; have NB53_52 := Nl hg BK53; have NB52_53 := Ng hg BK53; replace BK53 := Kb BK53 hb; clear hb hbox hg; refine hK.out _ _ ⟨HS0_, HS1_⟩ (fun hHeld => ?_); clear hK K; refine Nn 10 ?_; refine one_ (i := 11) (N := none) #[true, true, true, true, true, true, true, true, true, true, true, true] rfl rfl (one_of HT_.out (by kernel_rfl)) (by decide) (fun K hK => ?_); have hs34 : w33.cell? ⟨gb52, 0, none⟩ = some (.int .i64 0) := (blk_cell BK52.out 0).trans rfl; have hfs34 := blk_frozen BK52.out 0; have hns34_0 := NB53_52.out; have hms34_0 := NB52_53.out; have hs35 : w33.cell? ⟨gb52, 1, none⟩ = some (.string (⟨#[]⟩ : ByteArray)) := (blk_cell BK52.out 1).trans rfl; have hfs35 := blk_frozen BK52.out 1; have hns35_0 := NB53_52.out; have hms35_0 := NB52_53.out; have hs36 : w33.cell? ⟨gb52, 2, none⟩ = some (.string (⟨#[]⟩ : ByteArray)) := (blk_cell BK52.out 2).trans rfl; have hfs36 := blk_frozen BK52.out 2; have hns36_0 := NB53_52.out; have hms36_0 := NB52_53.out; refine skip_ (w1 := ?_) (by rfl) rfl ?_ ?_; rotate_left
                  ·go_simp; rfl
                  refine hK.out _ _ ⟨((cell_far (p := ⟨gb52, _, none⟩) (by first | exact Qj (Qp HO_5.out BK52.out (by decide)) | (rw [Qs]; exact Qj (Qp HO_5.out BK52.out (by decide))) | (show (Addr.add _ _).block ≠ _; rw [Qs]; exact Qj (Qp HO_5.out BK52.out (by decide))) | (dsimp only; exact Qj (Qp HO_5.out BK52.out (by decide)))) _).trans (((cell_far (p := ⟨gb52, _, none⟩) (by first | exact Qj (Qp HO_5.out BK52.out (by decide)) | (rw [Qs]; exact Qj (Qp HO_5.out BK52.out (by decide))) | (show (Addr.add _ _).block ≠ _; rw [Qs]; exact Qj (Qp HO_5.out BK52.out (by decide))) | (dsimp only; exact Qj (Qp HO_5.out BK52.out (by decide)))) _).trans (((cell_far (p := ⟨gb52, _, none⟩) (by first | exact Qj (Qp HO_5.out BK52.out (by decide)) | (rw [Qs]; exact Qj (Qp HO_5.out BK52.out (by decide))) | (show (Addr.add _ _).block ≠ _; rw [Qs]; exact Qj (Qp HO_5.out BK52.out (by decide))) | (dsimp only; exact Qj (Qp HO_5.out BK52.out (by decide)))) _).trans (hHeld.1)))))), ((cell_far (p := ⟨gb52, _, none⟩) (by first | exact Qj (Qp HO_5.out BK52.out (by decide)) | (rw [Qs]; exact Qj (Qp HO_5.out BK52.out (by decide))) | (show (Addr.add _ _).block ≠ _; rw [Qs]; exact Qj (Qp HO_5.out BK52.out (by decide))) | (dsimp only; exact Qj (Qp HO_5.out BK52.out (by decide)))) _).trans (((cell_far (p := ⟨gb52, _, none⟩) (by first | exact Qj (Qp HO_5.out BK52.out (by decide)) | (rw [Qs]; exact Qj (Qp HO_5.out BK52.out (by decide))) | (show (Addr.add _ _).block ≠ _; rw [Qs]; exact Qj (Qp HO_5.out BK52.out (by decide))) | (dsimp only; exact Qj (Qp HO_5.out BK52.out (by decide)))) _).trans (((cell_far (p := ⟨gb52, _, none⟩) (by first | exact Qj (Qp HO_5.out BK52.out (by decide)) | (rw [Qs]; exact Qj (Qp HO_5.out BK52.out (by decide))) | (show (Addr.add _ _).block ≠ _; rw [Qs]; exact Qj (Qp HO_5.out BK52.out (by decide))) | (dsimp only; exact Qj (Qp HO_5.out BK52.out (by decide)))) _).trans (hHeld.2))))))⟩ (fun hHeld => ?_); clear hK K; refine done_ (done_of HT_.out (by kernel_rfl)) ?_; have hnb37 := NB52_53.out; have hnc37 := NB53_52.out; obtain ⟨q38_0, q38_1, q38_2, u38_0, u38_1, u38_2⟩ := Cf3 BK52; try go_wp2_with (first | (go_at_call 31; (with_reducible refine (spec_StmtText.calls k4 x9_4 (rdOf ByteArray.empty x5_2 x7_2) (rdOf ByteArray.empty x5_2 x8_3) t63 _ A30.out).mono ?_); rintro e w39 ⟨rfl, hb⟩; replace HO_5 := Qa (Qw (Rv (Qh HO_5.out BK52.out (by decide))) hb); replace BK53 := Kf BK53 NB53_52.out hb; replace BK52 := Kx0 (.cells #[.int .i64 x9_4, .string (rdOf ByteArray.empty x5_2 x7_2), .string (rdOf ByteArray.empty x5_2 x8_3)] 50 (0, 0)) BK52 hb; replace HB := Sb (Bb2 HB.out GE53.out GE52.out) hb; clear hb; obtain ⟨q40_0, q40_1, q40_2, u40_0, u40_1, u40_2⟩ := Cf3 BK52; obtain ⟨q41_0, q41_1, q41_2, u41_0, u41_1, u41_2⟩ := Cf3 BK53))
                  refine bodyPost_ret (results_ct rfl _ _ gb53 50 #[.int .i64 x9_4, .string (rdOf ByteArray.empty x5_2 x7_2), .string (rdOf ByteArray.empty x5_2 x8_3)] (0, 0) _ rfl (Bq BK53.out) Tryz.underlying50 rfl (by kernel_rfl)) rfl ?_; exact ⟨Ze, Bb2 HB.out GE53.out GE52.out⟩
                 ·rw [if_neg c31] at H; have c31b0 := beq_eq_false_iff_ne.mpr c31; have c31b1 := bne_iff_ne.mpr c31; have H' := Qa H; clear H; try go_wp2
                  replace HO_5 := Dr HO_5; replace BK53 := Db BK53; replace HB := Qa (Qy HB.out); have p54 : 0 ≤ (x7_2 : Int) := Da; have q54 : x7_2 < (x5_2.length : Int) := Da; obtain ⟨ad54, e54, hx54_0⟩ := Qg (Qc HO_5.out).2.2 x7_2 p54 q54; cases e54
                  replace p54 := eq_true p54; replace q54 := eq_true q54; have p55 : 0 ≤ (x8_3 : Int) := Da; have q55 : x8_3 < (x5_2.length : Int) := Da; obtain ⟨ad55, e55, hx55_0⟩ := Qg (Qc HO_5.out).2.2 x8_3 p55 q55; obtain rfl : ad54 = ad55 := (by injection e55); replace p55 := eq_true p55; replace q55 := eq_true q55; refine start_ (n := 12) (S := fun w' => w'.cell? (ad54.add (x7_2).toNat) = some (.string (rdOf ByteArray.empty x5_2 x7_2)) ∧ w'.cell? (ad54.add (x8_3).toNat) = some (.string (rdOf ByteArray.empty x5_2 x8_3))) (ds := []) #[false, false, false, false, false, false, false, false, false, false, false, false] (by kernel_rfl) rfl rfl ⟨hx54_0, hx55_0⟩ (fun hHeld => ?_); refine with_tabW spec_ParseStmt.tab16 spec_ParseStmt.bits16 (fun HT_ HW_ => ?_); generalize wr.drew = w42 at HO_5 BK53 HB hx54_0 hx55_0 hHeld ⊢; refine Pt 0 47 HT_ ?_; refine Pt 1 48 HT_ ?_; refine Pt 2 49 HT_ ?_; refine Pt 3 50 HT_ ?_; refine Pt 5 52 HT_ ?_; refine Pt 6 53 HT_ ?_; refine Pt 7 54 HT_ ?_; refine Tu2 4 51 HT_ HW_ hHeld ?_; refine Tu2 8 55 HT_ HW_ hHeld ?_; refine Pt 9 56 HT_ ?_; refine Ot 10 10 HT_ (fun K hK => ?_); refine box_step ?hg (N := 10) ?hd (cs := #[.int .i64 0, .string (⟨#[]⟩ : ByteArray), .string (⟨#[]⟩ : ByteArray)]) (t := 50) ?hr ?_; (case hd => rfl); (case hg => rfl); (case hr => first | (go_simp; done) | (go_simp; rfl)); intro gb52 hg w43 hbox hb; have HS0_ := (hb.cell (Qi _ _ (hHeld.1))).trans (hHeld.1); have HS1_ := (hb.cell (Qi _ _ (hHeld.2))).trans (hHeld.2); replace HO_5 := Rb HO_5 hb; have BK52 := Qa (hbox); have GW52 := Gs (w := w) hg (Bb1 HB.out GE53.out); have GE52 := GW52; replace HB := Sb (Bb1 HB.out GE53.out) hb; have NB53_52 := Nl hg BK53; have NB52_53 := Ng hg BK53; replace BK53 := Kb BK53 hb; clear hb hbox hg; refine hK.out _ _ ⟨HS0_, HS1_⟩ (fun hHeld => ?_); clear hK K; refine Nn 10 ?_; refine one_ (i := 11) (N := none) #[true, true, true, true, true, true, true, true, true, true, true, true] rfl rfl (one_of HT_.out (by kernel_rfl)) (by decide) (fun K hK => ?_); have hs44 : w43.cell? ⟨gb52, 0, none⟩ = some (.int .i64 0) := (blk_cell BK52.out 0).trans rfl; have hfs44 := blk_frozen BK52.out 0; have hns44_0 := NB53_52.out; have hms44_0 := NB52_53.out; have hs45 : w43.cell? ⟨gb52, 1, none⟩ = some (.string (⟨#[]⟩ : ByteArray)) := (blk_cell BK52.out 1).trans rfl; have hfs45 := blk_frozen BK52.out 1; have hns45_0 := NB53_52.out; have hms45_0 := NB52_53.out; have hs46 : w43.cell? ⟨gb52, 2, none⟩ = some (.string (⟨#[]⟩ : ByteArray)) := (blk_cell BK52.out 2).trans rfl; have hfs46 := blk_frozen BK52.out 2; have hns46_0 := NB53_52.out; have hms46_0 := NB52_53.out; refine skip_ (w1 := ?_) (by rfl) rfl ?_ ?_; rotate_left
                  ·go_simp; rfl
                  refine hK.out _ _ ⟨((cell_far (p := ⟨gb52, _, none⟩) (by first | exact Qj (Qp HO_5.out BK52.out (by decide)) | (rw [Qs]; exact Qj (Qp HO_5.out BK52.out (by decide))) | (show (Addr.add _ _).block ≠ _; rw [Qs]; exact Qj (Qp HO_5.out BK52.out (by decide))) | (dsimp only; exact Qj (Qp HO_5.out BK52.out (by decide)))) _).trans (((cell_far (p := ⟨gb52, _, none⟩) (by first | exact Qj (Qp HO_5.out BK52.out (by decide)) | (rw [Qs]; exact Qj (Qp HO_5.out BK52.out (by decide))) | (show (Addr.add _ _).block ≠ _; rw [Qs]; exact Qj (Qp HO_5.out BK52.out (by decide))) | (dsimp only; exact Qj (Qp HO_5.out BK52.out (by decide)))) _).trans (((cell_far (p := ⟨gb52, _, none⟩) (by first | exact Qj (Qp HO_5.out BK52.out (by decide)) | (rw [Qs]; exact Qj (Qp HO_5.out BK52.out (by decide))) | (show (Addr.add _ _).block ≠ _; rw [Qs]; exact Qj (Qp HO_5.out BK52.out (by decide))) | (dsimp only; exact Qj (Qp HO_5.out BK52.out (by decide)))) _).trans (hHeld.1)))))), ((cell_far (p := ⟨gb52, _, none⟩) (by first | exact Qj (Qp HO_5.out BK52.out (by decide)) | (rw [Qs]; exact Qj (Qp HO_5.out BK52.out (by decide))) | (show (Addr.add _ _).block ≠ _; rw [Qs]; exact Qj (Qp HO_5.out BK52.out (by decide))) | (dsimp only; exact Qj (Qp HO_5.out BK52.out (by decide)))) _).trans (((cell_far (p := ⟨gb52, _, none⟩) (by first | exact Qj (Qp HO_5.out BK52.out (by decide)) | (rw [Qs]; exact Qj (Qp HO_5.out BK52.out (by decide))) | (show (Addr.add _ _).block ≠ _; rw [Qs]; exact Qj (Qp HO_5.out BK52.out (by decide))) | (dsimp only; exact Qj (Qp HO_5.out BK52.out (by decide)))) _).trans (((cell_far (p := ⟨gb52, _, none⟩) (by first | exact Qj (Qp HO_5.out BK52.out (by decide)) | (rw [Qs]; exact Qj (Qp HO_5.out BK52.out (by decide))) | (show (Addr.add _ _).block ≠ _; rw [Qs]; exact Qj (Qp HO_5.out BK52.out (by decide))) | (dsimp only; exact Qj (Qp HO_5.out BK52.out (by decide)))) _).trans (hHeld.2))))))⟩ (fun hHeld => ?_); clear hK K; refine done_ (done_of HT_.out (by kernel_rfl)) ?_; have hnb47 := NB52_53.out; have hnc47 := NB53_52.out; obtain ⟨q48_0, q48_1, q48_2, u48_0, u48_1, u48_2⟩ := Cf3 BK52; try go_wp2_with (first | (go_at_call 31; (with_reducible refine (spec_StmtText.calls k4 x9_4 (rdOf ByteArray.empty x5_2 x7_2) (rdOf ByteArray.empty x5_2 x8_3) t63 _ A30.out).mono ?_); rintro e w49 ⟨rfl, hb⟩; replace HO_5 := Qa (Qw (Rv (Qh HO_5.out BK52.out (by decide))) hb); replace BK53 := Kf BK53 NB53_52.out hb; replace BK52 := Kx0 (.cells #[.int .i64 x9_4, .string (rdOf ByteArray.empty x5_2 x7_2), .string (rdOf ByteArray.empty x5_2 x8_3)] 50 (0, 0)) BK52 hb; replace HB := Sb (Bb2 HB.out GE53.out GE52.out) hb; clear hb))
                  go_roundg k4
                  case measure => have := HJ2.out; have := HK2.out; have := HK3.out; have := HK4.out; omega
                  case rel => exact ⟨(Qb (x9_4 + 1)), (x58_4), (x59_4), (x60_4), Zf, H', ⟨by have := HJ2.out; have := HK2.out; have := HK3.out; have := HK4.out; omega⟩, ⟨Br HO_5.out⟩, ⟨Ba BK53.out⟩, ⟨Bb2 HB.out GE53.out GE52.out⟩⟩
               ·rw [if_neg c23] at H; exact absurd H (by simp)
              ·rw [if_neg c22] at H; exact absurd H (by simp)
             ·rw [if_neg c21] at H; exact absurd H (by simp)
            ·rw [if_neg c20] at H; exact absurd H (by simp)
           ·rw [if_neg c19] at H; replace c19 := decide_eq_false c19; have H' := Qa H; clear H; go_wp2; go_roundg k4
            case measure => have := HJ2.out; have := HK2.out; have := HK3.out; have := HK4.out; omega
            case rel => exact ⟨(Qb (x8_3 + 1)), (x58_4), (x59_4), (x60_4), Zf, H', ⟨by have := HJ2.out; have := HK2.out; have := HK3.out; have := HK4.out; omega⟩, ⟨Br HO_5.out⟩, ⟨Ba BK53.out⟩, ⟨Bb1 HB.out GE53.out⟩⟩
        ·rw [if_neg c18] at H; replace c18 := decide_eq_false c18; have H' := Qa H; clear H; go_wp2; go_roundg k3
         case measure => have := HJ2.out; have := HK2.out; have := HK3.out; omega
         case rel => exact ⟨(Qb (x7_2 + 1)), (x58_3), (x59_3), (x60_3), Zf, H', ⟨by have := HJ2.out; have := HK2.out; have := HK3.out; omega⟩, ⟨Br HO_5.out⟩, ⟨Ba BK53.out⟩, ⟨Bb1 HB.out GE53.out⟩⟩
     ·rw [if_neg c16] at H; replace c16 := decide_eq_false c16; simp only [Option.some.injEq, Prod.mk.injEq] at H; obtain ⟨rfl, rfl, rfl, rfl⟩ := H; obtain ⟨Ao50, co50, eo50⟩ := Qr HO_5.out; subst eo50; obtain ⟨q51_0, q51_1, q51_2, u51_0, u51_1, u51_2⟩ := Cf3 BK53; go_wp2; refine bodyPost_ret (results_ct rfl _ _ gb53 50 #[.int .i64 0, .string (⟨#[]⟩ : ByteArray), .string (⟨#[]⟩ : ByteArray)] (0, 0) _ rfl (Bq BK53.out) Tryz.underlying50 rfl (by kernel_rfl)) rfl ?_; exact ⟨Ze, Bb1 HB.out GE53.out⟩
end Go.Proofs.YtndkkpjofddfjaaGreatDoor.PFnExactParseProgram
