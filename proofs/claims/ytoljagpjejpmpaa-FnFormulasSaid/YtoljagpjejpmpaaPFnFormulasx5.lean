-- Laid by wip/tools/xprint.py (a program of this session over the kit's print). Not trusted: Lean checks it.
import Derived.Test.YtoljagpjejpmpaaXAuto
import Derived.Test.YtoljagpjejpmpaaPFnFormulasx0
import Derived.Test.YtoljagpjejpmpaaPFnFormulasx1
import Derived.Test.YtoljagpjejpmpaaPFnFormulasx4
namespace Go.Proofs.Ytoljagpjejpmpaa.PFnFormulas
open Go.RowKit Go.Proofs.YtoljagpjejpmpaaW.PrintWords Go.Proofs.YtoljagpjejpmpaaW.PrintLast Go.Proofs.YtoljagpjejpmpaaW.PrintMore
open Go.Proofs.YtoljagpjejpmpaaW.PrintWords.Aside0 renaming mk → Qa
open Go.Proofs.YtoljagpjejpmpaaW.PrintWords renaming blk_cell → Qb, blk_frozen → Qc, blk_alloc → Qf, blk_drewN → Qg, blk_drew → Qh, below_set → Ql, pw_below_drewN → Qp, blk_put → Qr, below_drew1 → Qu, below_alloc → Za, keep_drewN → Zd, keep_alloc → Ze, gate_callee → Zf, keep_drew → Zh, keep_far → Zk, Aside0 → Zn, KeepBut → Xx
open List renaming setIfInBounds_toArray → Qe, set_cons_zero → Qj, set_cons_succ → Qk, map_toArray → Qm, length_drop → Qn, length_take → Qo, map_cons → Qt, map_nil → Zb
open Option renaming bind_eq_some_iff → Qi
open Go.RowKit renaming wrap64 → Qq
open Bool renaming eq_iff_iff → Qx
open Go.Proofs.YtoljagpjejpmpaaW.PrintWords.KeepBut renaming set_ → Qz, blk → Zr
open Go.Act renaming put → Zg
open Go.Proofs.YtoljagpjejpmpaaW.PrintWords.LeO renaming bind → Zl, none → Zm
open Nat renaming ne_of_lt → Zp, le_refl → Zv, ne_of_gt → Zy
open Go.Proofs.Try renaming underlying32 → Zt
open Option.some renaming injEq → Xj
attribute [local go_sem] max2_int min2_int max_two min_two max_three min_three max_four min_four
set_option linter.unusedVariables false
set_option linter.unusedSimpArgs false
mutual
def spec_l10Draw.j0 : Nat → Int → Bool → List Int → Int → Int → Option (Int × Int × Int × Int × (List (S32)) × Int × Int)
 | 0, _, _, _, _, _ => none
 | k + 1, x1, x15, x1000, x1001, x1002 => if x15 = true then ((spec_l1Below.f x1000 x1001 x1002 7).bind fun bt203 => ((spec_l10Uses.f k (Qq (1 + bt203.1))).bind fun t207 => (if t207 > 0 then ((spec_l1Below.f x1000 bt203.2.1 bt203.2.2 2).bind fun bt208 => (spec_l10Draw.j1 k t207 x1000 bt208.2.1 bt208.2.2 (Qq (1 + bt203.1)) 0 bt208.1 0)) else (spec_l10Draw.j1 k t207 x1000 bt203.2.1 bt203.2.2 (Qq (1 + bt203.1)) 0 0 0)))) else ((spec_l1Below.f x1000 x1001 x1002 5).bind fun bt226 => (if (Qq (8 + bt226.1)) = 11 then (spec_l10Draw.j2 k x1 true x1000 bt226.2.1 bt226.2.2 (Qq (8 + bt226.1)) 0 0 0) else (spec_l10Draw.j2 k x1 ((Qq (8 + bt226.1)) == 12) x1000 bt226.2.1 bt226.2.2 (Qq (8 + bt226.1)) 0 0 0)))
def spec_l10Draw.j1 : Nat → Int → List Int → Int → Int → Int → Int → Int → Int → Option (Int × Int × Int × Int × (List (S32)) × Int × Int)
 | 0, _, _, _, _, _, _, _, _ => none
 | k + 1, x6, x1000, x1001, x1002, x207000, x207001, x207002, x207003 => if x6 > 1 then ((spec_l1Below.f x1000 x1001 x1002 3).bind fun bt211 => (if x207000 = 2 then ((spec_l1Below.f x1000 bt211.2.1 bt211.2.2 3).bind fun bt214 => (some (x207000, bt214.1, x207002, bt211.1, ([] : List (S32)), bt214.2.1, bt214.2.2))) else (if x207000 = 3 then ((spec_l1Below.f x1000 bt211.2.1 bt211.2.2 3).bind fun bt217 => (some (x207000, bt217.1, x207002, bt211.1, ([] : List (S32)), bt217.2.1, bt217.2.2))) else (some (x207000, x207001, x207002, bt211.1, ([] : List (S32)), bt211.2.1, bt211.2.2))))) else (if x207000 = 2 then ((spec_l1Below.f x1000 x1001 x1002 3).bind fun bt220 => (some (x207000, bt220.1, x207002, x207003, ([] : List (S32)), bt220.2.1, bt220.2.2))) else (if x207000 = 3 then ((spec_l1Below.f x1000 x1001 x1002 3).bind fun bt223 => (some (x207000, bt223.1, x207002, x207003, ([] : List (S32)), bt223.2.1, bt223.2.2))) else (some (x207000, x207001, x207002, x207003, ([] : List (S32)), x1001, x1002))))
def spec_l10Draw.j2 : Nat → Int → Bool → List Int → Int → Int → Int → Int → Int → Int → Option (Int × Int × Int × Int × (List (S32)) × Int × Int)
 | 0, _, _, _, _, _, _, _, _, _ => none
 | k + 1, x1, x56, x1000, x1001, x1002, x230000, x230001, x230002, x230003 => if x56 = true then ((spec_l1Below.f x1000 x1001 x1002 3).bind fun bt230 => (spec_l10Draw.j3 k x1 x1000 bt230.2.1 bt230.2.2 x230000 x230001 bt230.1 x230003)) else (spec_l10Draw.j3 k x1 x1000 x1001 x1002 x230000 x230001 x230002 x230003)
def spec_l10Draw.j3 : Nat → Int → List Int → Int → Int → Int → Int → Int → Int → Option (Int × Int × Int × Int × (List (S32)) × Int × Int)
 | 0, _, _, _, _, _, _, _, _ => none
 | k + 1, x1, x1000, x1001, x1002, x230000, x230001, x230002, x230003 => (spec_ArityOf.f k x230000).bind fun t233 => (spec_l10Draw.l0 k x1 t233 0 x1000 x1001 x1002 x230000 x230001 x230002 x230003 ([] : List (S32)))
def spec_l10Draw.l0 : Nat → Int → Int → Int → List Int → Int → Int → Int → Int → Int → Int → List (S32) → Option (Int × Int × Int × Int × (List (S32)) × Int × Int)
 | 0, _, _, _, _, _, _, _, _, _, _, _ => none
 | k + 1, x1, x8, x9, x1000, x1001, x1002, x230000, x230001, x230002, x230003, x230004 => if x9 < x8 then ((spec_l10Draw.f k x1000 x1001 x1002 (Qq (x1 - 1))).bind fun bt234 => (if x230004.length < 2513169434916 then (spec_l10Draw.l0 k x1 x8 (Qq (x9 + 1)) x1000 bt234.2.2.2.2.2.1 bt234.2.2.2.2.2.2 x230000 x230001 x230002 x230003 (x230004 ++ [(⟨bt234.1, bt234.2.1, bt234.2.2.1, bt234.2.2.2.1, bt234.2.2.2.2.1⟩ : S32)])) else (none))) else (some (x230000, x230001, x230002, x230003, x230004, x1001, x1002))
def spec_l10Draw.f : Nat → List Int → Int → Int → Int → Option (Int × Int × Int × Int × (List (S32)) × Int × Int)
 | 0, _, _, _, _ => none
 | k + 1, s0_0, s0_1, s0_2, a1 => if a1 < 2 then (spec_l10Draw.j0 k a1 true s0_0 s0_1 s0_2) else ((spec_l1Once.f s0_0 s0_1 s0_2 4).bind fun bt200 => (spec_l10Draw.j0 k a1 bt200.1 s0_0 bt200.2.1 bt200.2.2))
end
theorem spec_l10Draw.mono_l : ∀ k, (∀ y0 y1 y2 y3, LeO (spec_l10Draw.f k y0 y1 y2 y3) (spec_l10Draw.f (k + 1) y0 y1 y2 y3)) ∧ (∀ y0 y1 y2 y3 y4, LeO (spec_l10Draw.j0 k y0 y1 y2 y3 y4) (spec_l10Draw.j0 (k + 1) y0 y1 y2 y3 y4)) ∧ (∀ y0 y1 y2 y3 y4 y5 y6 y7, LeO (spec_l10Draw.j1 k y0 y1 y2 y3 y4 y5 y6 y7) (spec_l10Draw.j1 (k + 1) y0 y1 y2 y3 y4 y5 y6 y7)) ∧ (∀ y0 y1 y2 y3 y4 y5 y6 y7 y8, LeO (spec_l10Draw.j2 k y0 y1 y2 y3 y4 y5 y6 y7 y8) (spec_l10Draw.j2 (k + 1) y0 y1 y2 y3 y4 y5 y6 y7 y8)) ∧ (∀ y0 y1 y2 y3 y4 y5 y6 y7, LeO (spec_l10Draw.j3 k y0 y1 y2 y3 y4 y5 y6 y7) (spec_l10Draw.j3 (k + 1) y0 y1 y2 y3 y4 y5 y6 y7)) ∧ (∀ y0 y1 y2 y3 y4 y5 y6 y7 y8 y9 y10, LeO (spec_l10Draw.l0 k y0 y1 y2 y3 y4 y5 y6 y7 y8 y9 y10) (spec_l10Draw.l0 (k + 1) y0 y1 y2 y3 y4 y5 y6 y7 y8 y9 y10))
 | 0 => ⟨fun _ _ _ _ r h => by simp [spec_l10Draw.f] at h, fun _ _ _ _ _ r h => by simp [spec_l10Draw.j0] at h, fun _ _ _ _ _ _ _ _ r h => by simp [spec_l10Draw.j1] at h, fun _ _ _ _ _ _ _ _ _ r h => by simp [spec_l10Draw.j2] at h, fun _ _ _ _ _ _ _ _ r h => by simp [spec_l10Draw.j3] at h, fun _ _ _ _ _ _ _ _ _ _ _ r h => by simp [spec_l10Draw.l0] at h⟩
 | k + 1 => by
  obtain ⟨ih0, ih1, ih2, ih3, ih4, ih5⟩ := spec_l10Draw.mono_l k
  refine ⟨?_, ?_, ?_, ?_, ?_, ?_⟩
  ·intro y0 y1 y2 y3
   unfold spec_l10Draw.f
   repeat' first
   | (with_reducible exact ih0 _ _ _ _)
   | (with_reducible exact ih1 _ _ _ _ _)
   | (with_reducible exact ih2 _ _ _ _ _ _ _ _)
   | (with_reducible exact ih3 _ _ _ _ _ _ _ _ _)
   | (with_reducible exact ih4 _ _ _ _ _ _ _ _)
   | (with_reducible exact ih5 _ _ _ _ _ _ _ _ _ _ _)
   | (with_reducible exact spec_ArityOf.mono _ _)
   | (with_reducible exact spec_l10Uses.mono _ _)
   | (with_reducible exact LeO.refl _)
   | (with_reducible exact Zm _)
   | (with_reducible refine LeO.ite ?_ ?_)
   | (with_reducible refine Zl ?_ (fun _ => ?_))
   | exact ih0 _ _ _ _
   | exact ih1 _ _ _ _ _
   | exact ih2 _ _ _ _ _ _ _ _
   | exact ih3 _ _ _ _ _ _ _ _ _
   | exact ih4 _ _ _ _ _ _ _ _
   | exact ih5 _ _ _ _ _ _ _ _ _ _ _
   | exact spec_ArityOf.mono _ _
   | exact spec_l10Uses.mono _ _
   | exact Zm _
   | refine LeO.ite ?_ ?_
   | refine Zl ?_ (fun _ => ?_)
  ·intro y0 y1 y2 y3 y4
   unfold spec_l10Draw.j0
   repeat' first
   | (with_reducible exact ih0 _ _ _ _)
   | (with_reducible exact ih1 _ _ _ _ _)
   | (with_reducible exact ih2 _ _ _ _ _ _ _ _)
   | (with_reducible exact ih3 _ _ _ _ _ _ _ _ _)
   | (with_reducible exact ih4 _ _ _ _ _ _ _ _)
   | (with_reducible exact ih5 _ _ _ _ _ _ _ _ _ _ _)
   | (with_reducible exact spec_ArityOf.mono _ _)
   | (with_reducible exact spec_l10Uses.mono _ _)
   | (with_reducible exact LeO.refl _)
   | (with_reducible exact Zm _)
   | (with_reducible refine LeO.ite ?_ ?_)
   | (with_reducible refine Zl ?_ (fun _ => ?_))
   | exact ih0 _ _ _ _
   | exact ih1 _ _ _ _ _
   | exact ih2 _ _ _ _ _ _ _ _
   | exact ih3 _ _ _ _ _ _ _ _ _
   | exact ih4 _ _ _ _ _ _ _ _
   | exact ih5 _ _ _ _ _ _ _ _ _ _ _
   | exact spec_ArityOf.mono _ _
   | exact spec_l10Uses.mono _ _
   | exact Zm _
   | refine LeO.ite ?_ ?_
   | refine Zl ?_ (fun _ => ?_)
  ·intro y0 y1 y2 y3 y4 y5 y6 y7
   unfold spec_l10Draw.j1
   repeat' first
   | (with_reducible exact ih0 _ _ _ _)
   | (with_reducible exact ih1 _ _ _ _ _)
   | (with_reducible exact ih2 _ _ _ _ _ _ _ _)
   | (with_reducible exact ih3 _ _ _ _ _ _ _ _ _)
   | (with_reducible exact ih4 _ _ _ _ _ _ _ _)
   | (with_reducible exact ih5 _ _ _ _ _ _ _ _ _ _ _)
   | (with_reducible exact spec_ArityOf.mono _ _)
   | (with_reducible exact spec_l10Uses.mono _ _)
   | (with_reducible exact LeO.refl _)
   | (with_reducible exact Zm _)
   | (with_reducible refine LeO.ite ?_ ?_)
   | (with_reducible refine Zl ?_ (fun _ => ?_))
   | exact ih0 _ _ _ _
   | exact ih1 _ _ _ _ _
   | exact ih2 _ _ _ _ _ _ _ _
   | exact ih3 _ _ _ _ _ _ _ _ _
   | exact ih4 _ _ _ _ _ _ _ _
   | exact ih5 _ _ _ _ _ _ _ _ _ _ _
   | exact spec_ArityOf.mono _ _
   | exact spec_l10Uses.mono _ _
   | exact Zm _
   | refine LeO.ite ?_ ?_
   | refine Zl ?_ (fun _ => ?_)
  ·intro y0 y1 y2 y3 y4 y5 y6 y7 y8
   unfold spec_l10Draw.j2
   repeat' first
   | (with_reducible exact ih0 _ _ _ _)
   | (with_reducible exact ih1 _ _ _ _ _)
   | (with_reducible exact ih2 _ _ _ _ _ _ _ _)
   | (with_reducible exact ih3 _ _ _ _ _ _ _ _ _)
   | (with_reducible exact ih4 _ _ _ _ _ _ _ _)
   | (with_reducible exact ih5 _ _ _ _ _ _ _ _ _ _ _)
   | (with_reducible exact spec_ArityOf.mono _ _)
   | (with_reducible exact spec_l10Uses.mono _ _)
   | (with_reducible exact LeO.refl _)
   | (with_reducible exact Zm _)
   | (with_reducible refine LeO.ite ?_ ?_)
   | (with_reducible refine Zl ?_ (fun _ => ?_))
   | exact ih0 _ _ _ _
   | exact ih1 _ _ _ _ _
   | exact ih2 _ _ _ _ _ _ _ _
   | exact ih3 _ _ _ _ _ _ _ _ _
   | exact ih4 _ _ _ _ _ _ _ _
   | exact ih5 _ _ _ _ _ _ _ _ _ _ _
   | exact spec_ArityOf.mono _ _
   | exact spec_l10Uses.mono _ _
   | exact Zm _
   | refine LeO.ite ?_ ?_
   | refine Zl ?_ (fun _ => ?_)
  ·intro y0 y1 y2 y3 y4 y5 y6 y7
   unfold spec_l10Draw.j3
   repeat' first
   | (with_reducible exact ih0 _ _ _ _)
   | (with_reducible exact ih1 _ _ _ _ _)
   | (with_reducible exact ih2 _ _ _ _ _ _ _ _)
   | (with_reducible exact ih3 _ _ _ _ _ _ _ _ _)
   | (with_reducible exact ih4 _ _ _ _ _ _ _ _)
   | (with_reducible exact ih5 _ _ _ _ _ _ _ _ _ _ _)
   | (with_reducible exact spec_ArityOf.mono _ _)
   | (with_reducible exact spec_l10Uses.mono _ _)
   | (with_reducible exact LeO.refl _)
   | (with_reducible exact Zm _)
   | (with_reducible refine LeO.ite ?_ ?_)
   | (with_reducible refine Zl ?_ (fun _ => ?_))
   | exact ih0 _ _ _ _
   | exact ih1 _ _ _ _ _
   | exact ih2 _ _ _ _ _ _ _ _
   | exact ih3 _ _ _ _ _ _ _ _ _
   | exact ih4 _ _ _ _ _ _ _ _
   | exact ih5 _ _ _ _ _ _ _ _ _ _ _
   | exact spec_ArityOf.mono _ _
   | exact spec_l10Uses.mono _ _
   | exact Zm _
   | refine LeO.ite ?_ ?_
   | refine Zl ?_ (fun _ => ?_)
  ·intro y0 y1 y2 y3 y4 y5 y6 y7 y8 y9 y10
   unfold spec_l10Draw.l0
   repeat' first
   | (with_reducible exact ih0 _ _ _ _)
   | (with_reducible exact ih1 _ _ _ _ _)
   | (with_reducible exact ih2 _ _ _ _ _ _ _ _)
   | (with_reducible exact ih3 _ _ _ _ _ _ _ _ _)
   | (with_reducible exact ih4 _ _ _ _ _ _ _ _)
   | (with_reducible exact ih5 _ _ _ _ _ _ _ _ _ _ _)
   | (with_reducible exact spec_ArityOf.mono _ _)
   | (with_reducible exact spec_l10Uses.mono _ _)
   | (with_reducible exact LeO.refl _)
   | (with_reducible exact Zm _)
   | (with_reducible refine LeO.ite ?_ ?_)
   | (with_reducible refine Zl ?_ (fun _ => ?_))
   | exact ih0 _ _ _ _
   | exact ih1 _ _ _ _ _
   | exact ih2 _ _ _ _ _ _ _ _
   | exact ih3 _ _ _ _ _ _ _ _ _
   | exact ih4 _ _ _ _ _ _ _ _
   | exact ih5 _ _ _ _ _ _ _ _ _ _ _
   | exact spec_ArityOf.mono _ _
   | exact spec_l10Uses.mono _ _
   | exact Zm _
   | refine LeO.ite ?_ ?_
   | refine Zl ?_ (fun _ => ?_)
theorem spec_l10Draw.mono : ∀ a0 a1 a2 a3 k, LeO (spec_l10Draw.f k a0 a1 a2 a3) (spec_l10Draw.f (k + 1) a0 a1 a2 a3) := by
 intro a0 a1 a2 a3 k
 obtain ⟨ih0, ih1, ih2, ih3, ih4, ih5⟩ := spec_l10Draw.mono_l k
 exact ih0 a0 a1 a2 a3
def spec_l10Draw.T18 : Bool × List (List Nat × List Nat) := (true, [([], []), ([0], [0]), ([], []), ([], []), ([3], [3]), ([2, 4], [2, 4]), ([5], [5]), ([1, 6, 5], [1, 6]), ([0, 1, 2, 3, 4, 5, 6, 7], []), ([8, 7, 7, 0, 1, 2, 3, 4, 5, 6, 7], [7, 8])])
def spec_l10Draw.B18 : List Nat := [0, 1, 0, 0, 8, 28, 60, 127, 255, 511]
theorem spec_l10Draw.tab18 : rtab .any (opsOf Try.f85 18) = spec_l10Draw.T18 := by kernel_rfl
theorem spec_l10Draw.bits18 : waitsOk spec_l10Draw.T18.2 spec_l10Draw.B18 = true := by kernel_rfl
set_option maxHeartbeats 8000000 in
set_option maxRecDepth 100000 in
theorem spec_l10Draw.calls (k : Nat) : ∀ (g : Nat) (s0_0 : List Int) (s0_1 : Int) (s0_2 : Int) (a1 : Int) (r1 : Int) (r2 : Int) (r3 : Int) (r4 : Int) (r5 : List (S32)) (r6 : Int) (r7 : Int) (w0 w : World) (hI : IsS99 w0 w g s0_0 s0_1 s0_2) (hB : Below w0.heap.size w0 w) (h : spec_l10Draw.f k s0_0 s0_1 s0_2 a1 = some (r1, r2, r3, r4, r5, r6, r7)),
  Calls Try.prog 85 #[.pointer (some ⟨g, 0, none⟩), .int .i64 a1] w fun e w' => ∃ v4_ : Value, e = .returned (.agg #[.int .i64 r1, .int .i64 r2, .int .i64 r3, .int .i64 r4, v4_]) ∧ Kd.R k32 32 w' w.heap.size (fun _ => True) v4_ r5 ∧ IsS99 w0 w' g s0_0 r6 r7 ∧ Below w0.heap.size w0 w' ∧ Xx w w' g none := by
 induction k using Nat.strongRecOn with
 | _ k ih =>
 intro g s0_0 s0_1 s0_2 a1 r1 r2 r3 r4 r5 r6 r7 w0 w hI hB h
 cases k with
 | zero => exact absurd h (by simp [spec_l10Draw.f])
 | succ k =>
 simp only [spec_l10Draw.f] at h
 have hu32 := Zt
 have HI0 := Qa hI
 have HK := Qa (KeepBut.refl w g none)
 have HL := Qa hB.size
 clear hI
 have HW0 := Qa hB.size
 have HB := Qa hB
 clear hB
 have H : (if a1 < 2 then (spec_l10Draw.j0 k a1 true s0_0 s0_1 s0_2) else ((spec_l1Once.f s0_0 s0_1 s0_2 4).bind fun bt200 => (spec_l10Draw.j0 k a1 bt200.1 s0_0 bt200.2.1 bt200.2.2))) = some (r1, r2, r3, r4, r5, r6, r7) := h
 clear h
 have HC3 := Qa H
 clear H
 go_enter Try.func85, Try.ntmps85
 go_upto_region 1 with (first | ((with_reducible refine gate_dst (N := 4) rfl ?_); refine box_event ?hg (N := 4) ?hd (cs := #[.int .i64 0, .int .i64 0, .int .i64 0, .int .i64 0, .slice none 0 0]) (t := 32) ?hr ?_; (case hd => rfl); (case hg => rfl); (case hr => first | (go_simp; done) | (go_simp; rfl)); intro gb199 hg w4 hbox hb; replace HB := Qa (below_step (Bb1 HB.out (IsS99.ge HI0.out)) hb); have BK199 := Qa (hbox); have GW199 := Qa ((by rw [hg]; exact (keep_size (w := w) (g := g) (row := none) (by repeat (first | (with_reducible first | exact HK.out | apply Qz | apply Zd | apply Zh | apply Ze) | exact HK.out))) : w.heap.size ≤ gb199)); have GE199 := Qa ((Nat.le_trans HW0.out (by rw [hg]; exact (keep_size (w := w) (g := g) (row := none) (by repeat (first | (with_reducible first | exact HK.out | apply Qz | apply Zd | apply Zh | apply Ze) | exact HK.out))) : w.heap.size ≤ gb199) : w0.heap.size ≤ gb199)); replace HK := Qa (Xx.trans (by repeat (first | (with_reducible first | exact HK.out | apply Qz | apply Zd | apply Zh | apply Ze) | exact HK.out)) (KeepBut.of_below hb g none) (.inl rfl)); have NB0_199 := Qa ((by rw [hg]; exact Zp (IsS99.lt (show IsS99 w0 _ g s0_0 s0_1 s0_2 from by repeat (first | (with_reducible first | exact HI0.out | apply IsS99.alloc | apply IsS99.drewN | apply IsS99.drew | apply IsS99.set_1 | apply IsS99.set_2) | exact HI0.out))) : g ≠ gb199)); have NB199_0 := Qa ((by rw [hg]; exact Zy (IsS99.lt (show IsS99 w0 _ g s0_0 s0_1 s0_2 from by repeat (first | (with_reducible first | exact HI0.out | apply IsS99.alloc | apply IsS99.drewN | apply IsS99.drew | apply IsS99.set_1 | apply IsS99.set_2) | exact HI0.out))) : gb199 ≠ g)); replace HI0 := Qa (IsS99.below (by repeat (first | (with_reducible first | exact HI0.out | apply IsS99.alloc | apply IsS99.drewN | apply IsS99.drew | apply IsS99.set_1 | apply IsS99.set_2) | exact HI0.out)) hb); clear hb hbox hg))
 (try simp only [Zg, Qe, Qj, Qk])
 go_cut [15] (fun v15 wc => ∃ (kq : Nat) (x15_2 : Bool) (x1001_2 : Int) (x1002_2 : Int), v15 = .bool x15_2 ∧ Zn (spec_l10Draw.j0 kq a1 x15_2 s0_0 x1001_2 x1002_2 = some (r1, r2, r3, r4, r5, r6, r7)) ∧ Zn (kq ≤ k) ∧ Zn (wc.heap[gb199]? = some (.cells #[.int .i64 0, .int .i64 0, .int .i64 0, .int .i64 0, (.slice none 0 0)] 32 (0, 0))) ∧ Zn (IsS99 w0 wc g s0_0 x1001_2 x1002_2) ∧ Zn (Xx w wc g none) ∧ Zn (Below w0.heap.size w0 wc))
 case first =>
  have H := HC3.out
  clear HC3
  by_cases c5 : a1 < 2
  ·rw [if_pos c5] at H
   have c5b0 : decide (a1 < 2) = true := decide_eq_true c5
   clear c5
   (first | rw [c5b0] | (simp only [i64_w, i32_w]; rw [c5b0]) | skip)
   have H' := Qa H
   clear H
   go_wp2
   go_meet
   case rel => exact ⟨_, (true), (s0_1), (s0_2), (by first | rfl | (simp; done) | (simp [*]; done) | (simp; rw [Qx]; simp; done)), H', ⟨by first | omega | exact Zv _⟩, ⟨Ba BK199.out⟩, ⟨by repeat (first | (with_reducible first | exact HI0.out | apply IsS99.alloc | apply IsS99.drewN | apply IsS99.drew | apply IsS99.set_1 | apply IsS99.set_2 | refine IsS99.far ?_ NB0_199.out _) | exact HI0.out)⟩, ⟨by repeat (first | (with_reducible first | exact HK.out | apply Qz | apply Zd | apply Zh | apply Ze | refine Zk ?_ GW199.out _) | exact HK.out)⟩, ⟨Bb2 HB.out (IsS99.ge HI0.out) GE199.out⟩⟩
  ·rw [if_neg c5] at H
   have c5b0 : decide (a1 < 2) = false := decide_eq_false c5
   clear c5
   (first | rw [c5b0] | (simp only [i64_w, i32_w]; rw [c5b0]) | skip)
   replace H := Qi.mp H
   obtain ⟨⟨t200, t201, t202⟩, A60, H⟩ := H
   replace H : (spec_l10Draw.j0 k a1 t200 s0_0 t201 t202) = some (r1, r2, r3, r4, r5, r6, r7) := H
   have A6 := Qa A60
   clear A60
   have H' := Qa H
   clear H
   go_wp2_with (first | (go_at_call 69; (with_reducible refine (spec_l1Once.calls g s0_0 s0_1 s0_2 4 t200 t201 t202 w0 _ ?side1 ?side2 A6.out).mono ?_); (case side1 => repeat (first | (with_reducible first | exact HI0.out | apply IsS99.alloc | apply IsS99.drewN | apply IsS99.drew | apply IsS99.set_1 | apply IsS99.set_2 | refine IsS99.far ?_ NB0_199.out _) | exact HI0.out)); (case side2 => repeat (first | (with_reducible first | exact HB.out | apply Za | apply Qp | apply Qu | refine Ql ?_ (IsS99.ge HI0.out) | refine Ql ?_ GE199.out) | exact HB.out)); rintro e w7 ⟨rfl, hi, hb, hk⟩; replace BK199 := Qa (Zr hk (g' := gb199) (o := .cells #[.int .i64 0, .int .i64 0, .int .i64 0, .int .i64 0, .slice none 0 0] 32 (0, 0)) (Ba BK199.out) NB199_0.out (by simp)); replace HK := Qa (Xx.trans (by repeat (first | (with_reducible first | exact HK.out | apply Qz | apply Zd | apply Zh | apply Ze | refine Zk ?_ GW199.out _) | exact HK.out)) hk (.inl rfl)); replace HB := Qa (hb); replace HI0 := Qa (hi); (try clear hb); (try clear hb2); (try clear hk); (try clear hi)))
   go_meet
   case rel => exact ⟨_, (t200), (t201), (t202), (by first | rfl | (simp; done) | (simp [*]; done) | (simp; rw [Qx]; simp; done)), H', ⟨by first | omega | exact Zv _⟩, ⟨Ba BK199.out⟩, ⟨by repeat (first | (with_reducible first | exact HI0.out | apply IsS99.alloc | apply IsS99.drewN | apply IsS99.drew | apply IsS99.set_1 | apply IsS99.set_2 | refine IsS99.far ?_ NB0_199.out _) | exact HI0.out)⟩, ⟨by repeat (first | (with_reducible first | exact HK.out | apply Qz | apply Zd | apply Zh | apply Ze | refine Zk ?_ GW199.out _) | exact HK.out)⟩, ⟨Bb2 HB.out (IsS99.ge HI0.out) GE199.out⟩⟩
 case rest =>
  clear HC3
  try clear p2
  try clear c5
  try clear c5b0
  obtain ⟨kq, x15_2, x1001_2, x1002_2, rfl, HA, HJ2, BK199, HI0, HK, HB⟩ := hcut
  cases kq with
  | zero => exact absurd HA.out (by simp [spec_l10Draw.j0])
  | succ kj2 =>
   have H := HA.out
   clear HA
   simp only [spec_l10Draw.j0] at H
   by_cases c8 : x15_2 = true
   ·subst c8
    have H1 : ((spec_l1Below.f s0_0 x1001_2 x1002_2 7).bind fun bt203 => ((spec_l10Uses.f kj2 (Qq (1 + bt203.1))).bind fun t207 => (if t207 > 0 then ((spec_l1Below.f s0_0 bt203.2.1 bt203.2.2 2).bind fun bt208 => (spec_l10Draw.j1 kj2 t207 s0_0 bt208.2.1 bt208.2.2 (Qq (1 + bt203.1)) 0 bt208.1 0)) else (spec_l10Draw.j1 kj2 t207 s0_0 bt203.2.1 bt203.2.2 (Qq (1 + bt203.1)) 0 0 0)))) = some (r1, r2, r3, r4, r5, r6, r7) := by rw [if_pos rfl] at H; exact H
    clear H
    have H := H1
    clear H1
    replace H := Qi.mp H
    obtain ⟨⟨t203, t204, t205⟩, A90, H⟩ := H
    replace H : ((spec_l10Uses.f kj2 (Qq (1 + t203))).bind fun t207 => (if t207 > 0 then ((spec_l1Below.f s0_0 t204 t205 2).bind fun bt208 => (spec_l10Draw.j1 kj2 t207 s0_0 bt208.2.1 bt208.2.2 (Qq (1 + t203)) 0 bt208.1 0)) else (spec_l10Draw.j1 kj2 t207 s0_0 t204 t205 (Qq (1 + t203)) 0 0 0))) = some (r1, r2, r3, r4, r5, r6, r7) := H
    have A9 := Qa A90
    clear A90
    replace H := Qi.mp H
    obtain ⟨t207, A100, H⟩ := H
    replace H : (if t207 > 0 then ((spec_l1Below.f s0_0 t204 t205 2).bind fun bt208 => (spec_l10Draw.j1 kj2 t207 s0_0 bt208.2.1 bt208.2.2 (Qq (1 + t203)) 0 bt208.1 0)) else (spec_l10Draw.j1 kj2 t207 s0_0 t204 t205 (Qq (1 + t203)) 0 0 0)) = some (r1, r2, r3, r4, r5, r6, r7) := H
    have A10 := Qa A100
    clear A100
    have HC11 := Qa H
    clear H
    go_upto_if 24 with (first | ((with_reducible refine Zf (f := 70) rfl ?_); refine goesL_ (some 17) rfl rfl Try.func70 (by kernel_rfl) rfl #[.pointer (some ⟨g, 0, none⟩), .int .i64 7] rfl (by (try simp only [Qm, Qt, Zb]); first | done | rfl | (simp only [Qn, Qo]; rfl)) ?_; (with_reducible refine (spec_l1Below.calls g s0_0 x1001_2 x1002_2 7 t203 t204 t205 w0 _ ?side1 ?side2 A9.out).mono ?_); (case side1 => repeat (first | (with_reducible first | exact HI0.out | apply IsS99.alloc | apply IsS99.drewN | apply IsS99.drew | apply IsS99.set_1 | apply IsS99.set_2 | refine IsS99.far ?_ NB0_199.out _) | exact HI0.out)); (case side2 => repeat (first | (with_reducible first | exact HB.out | apply Za | apply Qp | apply Qu | refine Ql ?_ (IsS99.ge HI0.out) | refine Ql ?_ GE199.out) | exact HB.out)); rintro e w12 ⟨rfl, hi, hb, hk⟩; refine ⟨_, rfl, ?_⟩; replace BK199 := Qa (Zr hk (g' := gb199) (o := .cells #[.int .i64 0, .int .i64 0, .int .i64 0, .int .i64 0, .slice none 0 0] 32 (0, 0)) (Ba BK199.out) NB199_0.out (by simp)); replace HK := Qa (Xx.trans (by repeat (first | (with_reducible first | exact HK.out | apply Qz | apply Zd | apply Zh | apply Ze | refine Zk ?_ GW199.out _) | exact HK.out)) hk (.inl rfl)); replace HB := Qa (hb); replace HI0 := Qa (hi); (try clear hb); (try clear hb2); (try clear hk); (try clear hi)) | ((with_reducible refine gate_dst (N := 5) rfl ?_); refine box_event ?hg (N := 5) ?hd (cs := #[.int .i64 0, .int .i64 0, .int .i64 0, .int .i64 0, .slice none 0 0]) (t := 32) ?hr ?_; (case hd => rfl); (case hg => rfl); (case hr => first | (go_simp; done) | (go_simp; rfl)); intro gb206 hg w13 hbox hb; replace HB := Qa (below_step (Bb2 HB.out (IsS99.ge HI0.out) GE199.out) hb); have BK206 := Qa (hbox); have GW206 := Qa ((by rw [hg]; exact (keep_size (w := w) (g := g) (row := none) (by repeat (first | (with_reducible first | exact HK.out | apply Qz | apply Zd | apply Zh | apply Ze | refine Zk ?_ GW199.out _) | exact HK.out))) : w.heap.size ≤ gb206)); have GE206 := Qa ((Nat.le_trans HW0.out (by rw [hg]; exact (keep_size (w := w) (g := g) (row := none) (by repeat (first | (with_reducible first | exact HK.out | apply Qz | apply Zd | apply Zh | apply Ze | refine Zk ?_ GW199.out _) | exact HK.out))) : w.heap.size ≤ gb206) : w0.heap.size ≤ gb206)); replace HK := Qa (Xx.trans (by repeat (first | (with_reducible first | exact HK.out | apply Qz | apply Zd | apply Zh | apply Ze | refine Zk ?_ GW199.out _) | exact HK.out)) (KeepBut.of_below hb g none) (.inl rfl)); have NB199_206 := Qa ((by rw [hg]; exact Zp (blk_lt (g := gb199) (o := .cells #[.int .i64 0, .int .i64 0, .int .i64 0, .int .i64 0, .slice none 0 0] 32 (0, 0)) (Ba BK199.out)) : gb199 ≠ gb206)); have NB206_199 := Qa ((by rw [hg]; exact Zy (blk_lt (g := gb199) (o := .cells #[.int .i64 0, .int .i64 0, .int .i64 0, .int .i64 0, .slice none 0 0] 32 (0, 0)) (Ba BK199.out)) : gb206 ≠ gb199)); replace BK199 := Qa (blk_below (g := gb199) (o := .cells #[.int .i64 0, .int .i64 0, .int .i64 0, .int .i64 0, .slice none 0 0] 32 (0, 0)) (Ba BK199.out) hb); have NB0_206 := Qa ((by rw [hg]; exact Zp (IsS99.lt (show IsS99 w0 _ g s0_0 t204 t205 from by repeat (first | (with_reducible first | exact HI0.out | apply IsS99.alloc | apply IsS99.drewN | apply IsS99.drew | apply IsS99.set_1 | apply IsS99.set_2 | refine IsS99.far ?_ NB0_199.out _) | exact HI0.out))) : g ≠ gb206)); have NB206_0 := Qa ((by rw [hg]; exact Zy (IsS99.lt (show IsS99 w0 _ g s0_0 t204 t205 from by repeat (first | (with_reducible first | exact HI0.out | apply IsS99.alloc | apply IsS99.drewN | apply IsS99.drew | apply IsS99.set_1 | apply IsS99.set_2 | refine IsS99.far ?_ NB0_199.out _) | exact HI0.out))) : gb206 ≠ g)); replace HI0 := Qa (IsS99.below (by repeat (first | (with_reducible first | exact HI0.out | apply IsS99.alloc | apply IsS99.drewN | apply IsS99.drew | apply IsS99.set_1 | apply IsS99.set_2 | refine IsS99.far ?_ NB0_199.out _) | exact HI0.out)) hb); clear hb hbox hg; have hnb14 := NB206_199.out; have hnc14 := NB199_206.out; have hnb15 := NB206_0.out; have hnc15 := NB0_206.out; have q16_0 : w13.cell? ⟨gb206, 0, none⟩ = some (.int .i64 0) := (Qb BK206.out 0).trans rfl; have q16_1 : w13.cell? ⟨gb206, 1, none⟩ = some (.int .i64 0) := (Qb BK206.out 1).trans rfl; have q16_2 : w13.cell? ⟨gb206, 2, none⟩ = some (.int .i64 0) := (Qb BK206.out 2).trans rfl; have q16_3 : w13.cell? ⟨gb206, 3, none⟩ = some (.int .i64 0) := (Qb BK206.out 3).trans rfl; have q16_4 : w13.cell? ⟨gb206, 4, none⟩ = some (.slice none 0 0) := (Qb BK206.out 4).trans rfl; have u16_0 := Qc BK206.out 0; have u16_1 := Qc BK206.out 1; have u16_2 := Qc BK206.out 2; have u16_3 := Qc BK206.out 3; have u16_4 := Qc BK206.out 4) | ((with_reducible refine Zf (f := 98) rfl ?_); refine goesL_ (some 22) rfl rfl Try.func98 (by kernel_rfl) rfl #[.int .i64 (Qq (1 + t203))] rfl (by (try simp only [Qm, Qt, Zb]); first | done | rfl | (simp only [Qn, Qo]; rfl)) ?_; (with_reducible refine (spec_l10Uses.calls kj2 (Qq (1 + t203)) t207 _ A10.out).mono ?_); rintro e w' ⟨rfl, ⟨nd, rfl⟩⟩; refine ⟨_, rfl, ?_⟩))
    (try simp only [Zg, Qe, Qj, Qk])
    go_cut [] (fun wc => ∃ (kq : Nat) (x1001_10 : Int) (x1002_10 : Int) (x207002_10 : Int), Zn (spec_l10Draw.j1 kq t207 s0_0 x1001_10 x1002_10 (Qq (1 + t203)) 0 x207002_10 0 = some (r1, r2, r3, r4, r5, r6, r7)) ∧ Zn (kq ≤ kj2) ∧ Zn (wc.heap[gb199]? = some (.cells #[.int .i64 0, .int .i64 0, .int .i64 0, .int .i64 0, (.slice none 0 0)] 32 (0, 0))) ∧ Zn (wc.heap[gb206]? = some (.cells #[.int .i64 (Qq (1 + t203)), .int .i64 0, .int .i64 x207002_10, .int .i64 0, (.slice none 0 0)] 32 (0, 0))) ∧ Zn (IsS99 w0 wc g s0_0 x1001_10 x1002_10) ∧ Zn (Xx w wc g none) ∧ Zn (Below w0.heap.size w0 wc))
    case first =>
     have H := HC11.out
     clear HC11
     by_cases c17 : t207 > 0
     ·rw [if_pos c17] at H
      have c17b0 : decide (0 < t207) = true := decide_eq_true c17
      clear c17
      (first | rw [c17b0] | (simp only [i64_w, i32_w]; rw [c17b0]) | skip)
      replace H := Qi.mp H
      obtain ⟨⟨t208, t209, t210⟩, A180, H⟩ := H
      replace H : (spec_l10Draw.j1 kj2 t207 s0_0 t209 t210 (Qq (1 + t203)) 0 t208 0) = some (r1, r2, r3, r4, r5, r6, r7) := H
      have A18 := Qa A180
      clear A180
      have H' := Qa H
      clear H
      go_wp2_with (first | ((with_reducible refine Zf (f := 70) rfl ?_); refine goesL_ (some 26) rfl rfl Try.func70 (by kernel_rfl) rfl #[.pointer (some ⟨g, 0, none⟩), .int .i64 2] rfl (by (try simp only [Qm, Qt, Zb]); first | done | rfl | (simp only [Qn, Qo]; rfl)) ?_; (with_reducible refine (spec_l1Below.calls g s0_0 t204 t205 2 t208 t209 t210 w0 _ ?side1 ?side2 A18.out).mono ?_); (case side1 => repeat (first | (with_reducible first | exact HI0.out | apply IsS99.alloc | apply IsS99.drewN | apply IsS99.drew | apply IsS99.set_1 | apply IsS99.set_2 | refine IsS99.far ?_ NB0_199.out _ | refine IsS99.far ?_ NB0_206.out _) | exact HI0.out)); (case side2 => repeat (first | (with_reducible first | exact HB.out | apply Za | apply Qp | apply Qu | refine Ql ?_ (IsS99.ge HI0.out) | refine Ql ?_ GE199.out | refine Ql ?_ GE206.out) | exact HB.out)); rintro e w19 ⟨rfl, hi, hb, hk⟩; refine ⟨_, rfl, ?_⟩; replace BK199 := Qa (Zr hk (g' := gb199) (o := .cells #[.int .i64 0, .int .i64 0, .int .i64 0, .int .i64 0, .slice none 0 0] 32 (0, 0)) (by (iterate 5 ((with_reducible repeat (first | refine Qg ?_ _ | refine Qh ?_ | refine Qf ?_ _)); refine blk_far ?_ NB199_206.out _)); (with_reducible repeat (first | refine Qg ?_ _ | refine Qh ?_ | refine Qf ?_ _)); exact BK199.out) NB199_0.out (by simp)); replace BK206 := Qa (Zr hk (g' := gb206) (o := .cells #[.int .i64 (Qq (1 + t203)), .int .i64 0, .int .i64 0, .int .i64 0, .slice none 0 0] 32 (0, 0)) (by (with_reducible repeat (first | refine Qg ?_ _ | refine Qh ?_ | refine Qf ?_ _)); refine Qr (cs := #[.int .i64 (Qq (1 + t203)), .int .i64 0, .int .i64 0, .int .i64 0, .slice none 0 0]) ?_ 4 _ rfl; (with_reducible repeat (first | refine Qg ?_ _ | refine Qh ?_ | refine Qf ?_ _)); refine Qr (cs := #[.int .i64 (Qq (1 + t203)), .int .i64 0, .int .i64 0, .int .i64 0, .slice none 0 0]) ?_ 3 _ rfl; (with_reducible repeat (first | refine Qg ?_ _ | refine Qh ?_ | refine Qf ?_ _)); refine Qr (cs := #[.int .i64 (Qq (1 + t203)), .int .i64 0, .int .i64 0, .int .i64 0, .slice none 0 0]) ?_ 2 _ rfl; (with_reducible repeat (first | refine Qg ?_ _ | refine Qh ?_ | refine Qf ?_ _)); refine Qr (cs := #[.int .i64 (Qq (1 + t203)), .int .i64 0, .int .i64 0, .int .i64 0, .slice none 0 0]) ?_ 1 _ rfl; (with_reducible repeat (first | refine Qg ?_ _ | refine Qh ?_ | refine Qf ?_ _)); refine Qr (cs := #[.int .i64 0, .int .i64 0, .int .i64 0, .int .i64 0, .slice none 0 0]) ?_ 0 _ rfl; (with_reducible repeat (first | refine Qg ?_ _ | refine Qh ?_ | refine Qf ?_ _)); exact BK206.out) NB206_0.out (by simp)); replace HK := Qa (Xx.trans (by repeat (first | (with_reducible first | exact HK.out | apply Qz | apply Zd | apply Zh | apply Ze | refine Zk ?_ GW199.out _ | refine Zk ?_ GW206.out _) | exact HK.out)) hk (.inl rfl)); replace HB := Qa (hb); replace HI0 := Qa (hi); (try clear hb); (try clear hb2); (try clear hk); (try clear hi); have hnb20 := NB206_199.out; have hnc20 := NB199_206.out; have hnb21 := NB206_0.out; have hnc21 := NB0_206.out; have q22_0 : w19.cell? ⟨gb206, 0, none⟩ = some (.int .i64 (Qq (1 + t203))) := (Qb BK206.out 0).trans rfl; have q22_1 : w19.cell? ⟨gb206, 1, none⟩ = some (.int .i64 0) := (Qb BK206.out 1).trans rfl; have q22_2 : w19.cell? ⟨gb206, 2, none⟩ = some (.int .i64 0) := (Qb BK206.out 2).trans rfl; have q22_3 : w19.cell? ⟨gb206, 3, none⟩ = some (.int .i64 0) := (Qb BK206.out 3).trans rfl; have q22_4 : w19.cell? ⟨gb206, 4, none⟩ = some (.slice none 0 0) := (Qb BK206.out 4).trans rfl; have u22_0 := Qc BK206.out 0; have u22_1 := Qc BK206.out 1; have u22_2 := Qc BK206.out 2; have u22_3 := Qc BK206.out 3; have u22_4 := Qc BK206.out 4))
      go_meet
      case rel => exact ⟨_, (t209), (t210), (t208), H', ⟨by have := HJ2.out; first | omega | exact Zv _⟩, ⟨by (with_reducible repeat (first | refine Qg ?_ _ | refine Qh ?_ | refine Qf ?_ _)); refine blk_far ?_ NB199_206.out _; (with_reducible repeat (first | refine Qg ?_ _ | refine Qh ?_ | refine Qf ?_ _)); exact BK199.out⟩, ⟨by (with_reducible repeat (first | refine Qg ?_ _ | refine Qh ?_ | refine Qf ?_ _)); refine Qr (cs := #[.int .i64 (Qq (1 + t203)), .int .i64 0, .int .i64 0, .int .i64 0, .slice none 0 0]) ?_ 2 _ rfl; (with_reducible repeat (first | refine Qg ?_ _ | refine Qh ?_ | refine Qf ?_ _)); exact BK206.out⟩, ⟨by repeat (first | (with_reducible first | exact HI0.out | apply IsS99.alloc | apply IsS99.drewN | apply IsS99.drew | apply IsS99.set_1 | apply IsS99.set_2 | refine IsS99.far ?_ NB0_199.out _ | refine IsS99.far ?_ NB0_206.out _) | exact HI0.out)⟩, ⟨by repeat (first | (with_reducible first | exact HK.out | apply Qz | apply Zd | apply Zh | apply Ze | refine Zk ?_ GW199.out _ | refine Zk ?_ GW206.out _) | exact HK.out)⟩, ⟨Bb3 HB.out (IsS99.ge HI0.out) GE199.out GE206.out⟩⟩
     ·rw [if_neg c17] at H
      have c17b0 : decide (0 < t207) = false := decide_eq_false c17
      clear c17
      (first | rw [c17b0] | (simp only [i64_w, i32_w]; rw [c17b0]) | skip)
      have H' := Qa H
      clear H
      go_wp2
      go_meet
      case rel => exact ⟨_, (t204), (t205), (0), H', ⟨by have := HJ2.out; first | omega | exact Zv _⟩, ⟨by (iterate 5 ((with_reducible repeat (first | refine Qg ?_ _ | refine Qh ?_ | refine Qf ?_ _)); refine blk_far ?_ NB199_206.out _)); (with_reducible repeat (first | refine Qg ?_ _ | refine Qh ?_ | refine Qf ?_ _)); exact BK199.out⟩, ⟨by (with_reducible repeat (first | refine Qg ?_ _ | refine Qh ?_ | refine Qf ?_ _)); refine Qr (cs := #[.int .i64 (Qq (1 + t203)), .int .i64 0, .int .i64 0, .int .i64 0, .slice none 0 0]) ?_ 4 _ rfl; (with_reducible repeat (first | refine Qg ?_ _ | refine Qh ?_ | refine Qf ?_ _)); refine Qr (cs := #[.int .i64 (Qq (1 + t203)), .int .i64 0, .int .i64 0, .int .i64 0, .slice none 0 0]) ?_ 3 _ rfl; (with_reducible repeat (first | refine Qg ?_ _ | refine Qh ?_ | refine Qf ?_ _)); refine Qr (cs := #[.int .i64 (Qq (1 + t203)), .int .i64 0, .int .i64 0, .int .i64 0, .slice none 0 0]) ?_ 2 _ rfl; (with_reducible repeat (first | refine Qg ?_ _ | refine Qh ?_ | refine Qf ?_ _)); refine Qr (cs := #[.int .i64 (Qq (1 + t203)), .int .i64 0, .int .i64 0, .int .i64 0, .slice none 0 0]) ?_ 1 _ rfl; (with_reducible repeat (first | refine Qg ?_ _ | refine Qh ?_ | refine Qf ?_ _)); refine Qr (cs := #[.int .i64 0, .int .i64 0, .int .i64 0, .int .i64 0, .slice none 0 0]) ?_ 0 _ rfl; (with_reducible repeat (first | refine Qg ?_ _ | refine Qh ?_ | refine Qf ?_ _)); exact BK206.out⟩, ⟨by repeat (first | (with_reducible first | exact HI0.out | apply IsS99.alloc | apply IsS99.drewN | apply IsS99.drew | apply IsS99.set_1 | apply IsS99.set_2 | refine IsS99.far ?_ NB0_199.out _ | refine IsS99.far ?_ NB0_206.out _) | exact HI0.out)⟩, ⟨by repeat (first | (with_reducible first | exact HK.out | apply Qz | apply Zd | apply Zh | apply Ze | refine Zk ?_ GW199.out _ | refine Zk ?_ GW206.out _) | exact HK.out)⟩, ⟨Bb3 HB.out (IsS99.ge HI0.out) GE199.out GE206.out⟩⟩
    case rest =>
     clear HC11
     try clear c1
     try clear c2
     try clear p2
     try clear c5
     try clear c5b0
     try clear p6
     try clear c7
     try clear c8
     try clear c9
     try clear c14
     try clear c15
     try clear c17
     try clear c17b0
     try clear c20
     try clear c21
     try clear q16_0
     try clear q16_1
     try clear q16_2
     try clear q16_3
     try clear q16_4
     try clear q22_0
     try clear q22_1
     try clear q22_2
     try clear q22_3
     try clear q22_4
     try clear u16_0
     try clear u16_1
     try clear u16_2
     try clear u16_3
     try clear u16_4
     try clear u22_0
     try clear u22_1
     try clear u22_2
     try clear u22_3
     try clear u22_4
     try clear p2
     obtain ⟨kq, x1001_10, x1002_10, x207002_10, HA, HJ10, BK199, BK206, HI0, HK, HB⟩ := hcut
     cases kq with
     | zero => exact absurd HA.out (by simp [spec_l10Draw.j1])
     | succ kj10 =>
      have H := HA.out
      clear HA
      simp only [spec_l10Draw.j1] at H
      by_cases c23 : t207 > 1
      ·rw [if_pos c23] at H
       have c23b0 : decide (1 < t207) = true := decide_eq_true c23
       clear c23
       replace H := Qi.mp H
       obtain ⟨⟨t211, t212, t213⟩, A240, H⟩ := H
       replace H : (if (Qq (1 + t203)) = 2 then ((spec_l1Below.f s0_0 t212 t213 3).bind fun bt214 => (some ((Qq (1 + t203)), bt214.1, x207002_10, t211, ([] : List (S32)), bt214.2.1, bt214.2.2))) else (if (Qq (1 + t203)) = 3 then ((spec_l1Below.f s0_0 t212 t213 3).bind fun bt217 => (some ((Qq (1 + t203)), bt217.1, x207002_10, t211, ([] : List (S32)), bt217.2.1, bt217.2.2))) else (some ((Qq (1 + t203)), 0, x207002_10, t211, ([] : List (S32)), t212, t213)))) = some (r1, r2, r3, r4, r5, r6, r7) := H
       have A24 := Qa A240
       clear A240
       by_cases c25 : (Qq (1 + t203)) = 2
       ·rw [if_pos c25] at H
        have c25b0 : ((Qq (1 + t203)) == 2) = true := beq_iff_eq.mpr c25
        have c25b1 : ((Qq (1 + t203)) != 2) = false := bne_eq_false_iff_eq.mpr c25
        clear c25
        replace H := Qi.mp H
        obtain ⟨⟨t214, t215, t216⟩, A260, H⟩ := H
        replace H : (some ((Qq (1 + t203)), t214, x207002_10, t211, ([] : List (S32)), t215, t216)) = some (r1, r2, r3, r4, r5, r6, r7) := H
        have A26 := Qa A260
        clear A260
        simp only [Xj, Prod.mk.injEq] at H
        obtain ⟨rfl, rfl, rfl, rfl, rfl, rfl, rfl⟩ := H
        go_wp2_with (first | ((with_reducible refine Zf (f := 70) rfl ?_); refine goesL_ (some 31) rfl rfl Try.func70 (by kernel_rfl) rfl #[.pointer (some ⟨g, 0, none⟩), .int .i64 3] rfl (by (try simp only [Qm, Qt, Zb]); first | done | rfl | (simp only [Qn, Qo]; rfl)) ?_; (with_reducible refine (spec_l1Below.calls g s0_0 x1001_10 x1002_10 3 t211 t212 t213 w0 _ ?side1 ?side2 A24.out).mono ?_); (case side1 => repeat (first | (with_reducible first | exact HI0.out | apply IsS99.alloc | apply IsS99.drewN | apply IsS99.drew | apply IsS99.set_1 | apply IsS99.set_2 | refine IsS99.far ?_ NB0_199.out _ | refine IsS99.far ?_ NB0_206.out _) | exact HI0.out)); (case side2 => repeat (first | (with_reducible first | exact HB.out | apply Za | apply Qp | apply Qu | refine Ql ?_ (IsS99.ge HI0.out) | refine Ql ?_ GE199.out | refine Ql ?_ GE206.out) | exact HB.out)); rintro e w27 ⟨rfl, hi, hb, hk⟩; refine ⟨_, rfl, ?_⟩; replace BK199 := Qa (Zr hk (g' := gb199) (o := .cells #[.int .i64 0, .int .i64 0, .int .i64 0, .int .i64 0, .slice none 0 0] 32 (0, 0)) (Ba BK199.out) NB199_0.out (by simp)); replace BK206 := Qa (Zr hk (g' := gb206) (o := .cells #[.int .i64 (Qq (1 + t203)), .int .i64 0, .int .i64 x207002_10, .int .i64 0, .slice none 0 0] 32 (0, 0)) (Ba BK206.out) NB206_0.out (by simp)); replace HK := Qa (Xx.trans (by repeat (first | (with_reducible first | exact HK.out | apply Qz | apply Zd | apply Zh | apply Ze | refine Zk ?_ GW199.out _ | refine Zk ?_ GW206.out _) | exact HK.out)) hk (.inl rfl)); replace HB := Qa (hb); replace HI0 := Qa (hi); (try clear hb); (try clear hb2); (try clear hk); (try clear hi); have hnb28 := NB206_199.out; have hnc28 := NB199_206.out; have hnb29 := NB206_0.out; have hnc29 := NB0_206.out; have q30_0 : w27.cell? ⟨gb206, 0, none⟩ = some (.int .i64 (Qq (1 + t203))) := (Qb BK206.out 0).trans rfl; have q30_1 : w27.cell? ⟨gb206, 1, none⟩ = some (.int .i64 0) := (Qb BK206.out 1).trans rfl; have q30_2 : w27.cell? ⟨gb206, 2, none⟩ = some (.int .i64 x207002_10) := (Qb BK206.out 2).trans rfl; have q30_3 : w27.cell? ⟨gb206, 3, none⟩ = some (.int .i64 0) := (Qb BK206.out 3).trans rfl; have q30_4 : w27.cell? ⟨gb206, 4, none⟩ = some (.slice none 0 0) := (Qb BK206.out 4).trans rfl; have u30_0 := Qc BK206.out 0; have u30_1 := Qc BK206.out 1; have u30_2 := Qc BK206.out 2; have u30_3 := Qc BK206.out 3; have u30_4 := Qc BK206.out 4) | ((with_reducible refine Zf (f := 70) rfl ?_); refine goesL_ (some 42) rfl rfl Try.func70 (by kernel_rfl) rfl #[.pointer (some ⟨g, 0, none⟩), .int .i64 3] rfl (by (try simp only [Qm, Qt, Zb]); first | done | rfl | (simp only [Qn, Qo]; rfl)) ?_; (with_reducible refine (spec_l1Below.calls g s0_0 t212 t213 3 t214 t215 t216 w0 _ ?side1 ?side2 A26.out).mono ?_); (case side1 => repeat (first | (with_reducible first | exact HI0.out | apply IsS99.alloc | apply IsS99.drewN | apply IsS99.drew | apply IsS99.set_1 | apply IsS99.set_2 | refine IsS99.far ?_ NB0_199.out _ | refine IsS99.far ?_ NB0_206.out _) | exact HI0.out)); (case side2 => repeat (first | (with_reducible first | exact HB.out | apply Za | apply Qp | apply Qu | refine Ql ?_ (IsS99.ge HI0.out) | refine Ql ?_ GE199.out | refine Ql ?_ GE206.out) | exact HB.out)); rintro e w31 ⟨rfl, hi, hb, hk⟩; refine ⟨_, rfl, ?_⟩; replace BK199 := Qa (Zr hk (g' := gb199) (o := .cells #[.int .i64 0, .int .i64 0, .int .i64 0, .int .i64 0, .slice none 0 0] 32 (0, 0)) (by (with_reducible repeat (first | refine Qg ?_ _ | refine Qh ?_ | refine Qf ?_ _)); refine blk_far ?_ NB199_206.out _; (with_reducible repeat (first | refine Qg ?_ _ | refine Qh ?_ | refine Qf ?_ _)); exact BK199.out) NB199_0.out (by simp)); replace BK206 := Qa (Zr hk (g' := gb206) (o := .cells #[.int .i64 (Qq (1 + t203)), .int .i64 0, .int .i64 x207002_10, .int .i64 t211, .slice none 0 0] 32 (0, 0)) (by (with_reducible repeat (first | refine Qg ?_ _ | refine Qh ?_ | refine Qf ?_ _)); refine Qr (cs := #[.int .i64 (Qq (1 + t203)), .int .i64 0, .int .i64 x207002_10, .int .i64 0, .slice none 0 0]) ?_ 3 _ rfl; (with_reducible repeat (first | refine Qg ?_ _ | refine Qh ?_ | refine Qf ?_ _)); exact BK206.out) NB206_0.out (by simp)); replace HK := Qa (Xx.trans (by repeat (first | (with_reducible first | exact HK.out | apply Qz | apply Zd | apply Zh | apply Ze | refine Zk ?_ GW199.out _ | refine Zk ?_ GW206.out _) | exact HK.out)) hk (.inl rfl)); replace HB := Qa (hb); replace HI0 := Qa (hi); (try clear hb); (try clear hb2); (try clear hk); (try clear hi); have q32_0 : w31.cell? ⟨gb206, 0, none⟩ = some (.int .i64 (Qq (1 + t203))) := (Qb BK206.out 0).trans rfl; have q32_1 : w31.cell? ⟨gb206, 1, none⟩ = some (.int .i64 0) := (Qb BK206.out 1).trans rfl; have q32_2 : w31.cell? ⟨gb206, 2, none⟩ = some (.int .i64 x207002_10) := (Qb BK206.out 2).trans rfl; have q32_3 : w31.cell? ⟨gb206, 3, none⟩ = some (.int .i64 t211) := (Qb BK206.out 3).trans rfl; have q32_4 : w31.cell? ⟨gb206, 4, none⟩ = some (.slice none 0 0) := (Qb BK206.out 4).trans rfl; have u32_0 := Qc BK206.out 0; have u32_1 := Qc BK206.out 1; have u32_2 := Qc BK206.out 2; have u32_3 := Qc BK206.out 3; have u32_4 := Qc BK206.out 4; have hnb33 := NB199_0.out; have hnc33 := NB0_199.out; have q34_0 : w31.cell? ⟨gb199, 0, none⟩ = some (.int .i64 0) := (Qb BK199.out 0).trans rfl; have q34_1 : w31.cell? ⟨gb199, 1, none⟩ = some (.int .i64 0) := (Qb BK199.out 1).trans rfl; have q34_2 : w31.cell? ⟨gb199, 2, none⟩ = some (.int .i64 0) := (Qb BK199.out 2).trans rfl; have q34_3 : w31.cell? ⟨gb199, 3, none⟩ = some (.int .i64 0) := (Qb BK199.out 3).trans rfl; have q34_4 : w31.cell? ⟨gb199, 4, none⟩ = some (.slice none 0 0) := (Qb BK199.out 4).trans rfl; have u34_0 := Qc BK199.out 0; have u34_1 := Qc BK199.out 1; have u34_2 := Qc BK199.out 2; have u34_3 := Qc BK199.out 3; have u34_4 := Qc BK199.out 4))
        refine bodyPost_ret (results_cell_row rfl _ _ gb199 32 #[.int .i64 (Qq (1 + t203)), .int .i64 t214, .int .i64 x207002_10, .int .i64 t211, .slice none 0 0] (0, 0) _ rfl (by (with_reducible repeat (first | refine Qg ?_ _ | refine Qh ?_ | refine Qf ?_ _)); refine Qr (cs := #[.int .i64 (Qq (1 + t203)), .int .i64 t214, .int .i64 x207002_10, .int .i64 t211, .slice none 0 0]) ?_ 4 _ rfl; (with_reducible repeat (first | refine Qg ?_ _ | refine Qh ?_ | refine Qf ?_ _)); refine Qr (cs := #[.int .i64 (Qq (1 + t203)), .int .i64 t214, .int .i64 x207002_10, .int .i64 0, .slice none 0 0]) ?_ 3 _ rfl; (with_reducible repeat (first | refine Qg ?_ _ | refine Qh ?_ | refine Qf ?_ _)); refine Qr (cs := #[.int .i64 (Qq (1 + t203)), .int .i64 t214, .int .i64 0, .int .i64 0, .slice none 0 0]) ?_ 2 _ rfl; (with_reducible repeat (first | refine Qg ?_ _ | refine Qh ?_ | refine Qf ?_ _)); refine Qr (cs := #[.int .i64 (Qq (1 + t203)), .int .i64 0, .int .i64 0, .int .i64 0, .slice none 0 0]) ?_ 1 _ rfl; (with_reducible repeat (first | refine Qg ?_ _ | refine Qh ?_ | refine Qf ?_ _)); refine Qr (cs := #[.int .i64 0, .int .i64 0, .int .i64 0, .int .i64 0, .slice none 0 0]) ?_ 0 _ rfl; (with_reducible repeat (first | refine Qg ?_ _ | refine Qh ?_ | refine Qf ?_ _)); refine blk_far ?_ NB199_206.out _; (with_reducible repeat (first | refine Qg ?_ _ | refine Qh ?_ | refine Qf ?_ _)); exact BK199.out) Zt rfl (by kernel_rfl)) rfl ?_
        exact ⟨_, by first | rfl | (simp [errW_none, errW_some] <;> rfl) | (simp [*, errW_none, errW_some] <;> rfl), by first | exact Kd.R_nil _ _ _ _ _ | exact Kd.N_nil _ _ _ _ _ | exact Kd.V_nil _ _ _ _ _ | exact Kd.Q_nil _ _ _ _ _ | exact Kd.S_nil _ _ _ _ _, by repeat (first | (with_reducible first | exact HI0.out | apply IsS99.alloc | apply IsS99.drewN | apply IsS99.drew | apply IsS99.set_1 | apply IsS99.set_2 | refine IsS99.far ?_ NB0_199.out _ | refine IsS99.far ?_ NB0_206.out _) | exact HI0.out), by repeat (first | (with_reducible first | exact HB.out | apply Za | apply Qp | apply Qu | refine Ql ?_ (IsS99.ge HI0.out) | refine Ql ?_ GE199.out | refine Ql ?_ GE206.out) | exact HB.out), by repeat (first | (with_reducible first | exact HK.out | apply Qz | apply Zd | apply Zh | apply Ze | refine Zk ?_ GW199.out _ | refine Zk ?_ GW206.out _) | exact HK.out)⟩
       ·rw [if_neg c25] at H
        have c25b0 : ((Qq (1 + t203)) == 2) = false := beq_eq_false_iff_ne.mpr c25
        have c25b1 : ((Qq (1 + t203)) != 2) = true := bne_iff_ne.mpr c25
        by_cases c35 : (Qq (1 + t203)) = 3
        ·rw [if_pos c35] at H
         have c35b0 : ((Qq (1 + t203)) == 3) = true := beq_iff_eq.mpr c35
         have c35b1 : ((Qq (1 + t203)) != 3) = false := bne_eq_false_iff_eq.mpr c35
         clear c35
         replace H := Qi.mp H
         obtain ⟨⟨t217, t218, t219⟩, A360, H⟩ := H
         replace H : (some ((Qq (1 + t203)), t217, x207002_10, t211, ([] : List (S32)), t218, t219)) = some (r1, r2, r3, r4, r5, r6, r7) := H
         have A36 := Qa A360
         clear A360
         simp only [Xj, Prod.mk.injEq] at H
         obtain ⟨rfl, rfl, rfl, rfl, rfl, rfl, rfl⟩ := H
         go_wp2_with (first | ((with_reducible refine Zf (f := 70) rfl ?_); refine goesL_ (some 31) rfl rfl Try.func70 (by kernel_rfl) rfl #[.pointer (some ⟨g, 0, none⟩), .int .i64 3] rfl (by (try simp only [Qm, Qt, Zb]); first | done | rfl | (simp only [Qn, Qo]; rfl)) ?_; (with_reducible refine (spec_l1Below.calls g s0_0 x1001_10 x1002_10 3 t211 t212 t213 w0 _ ?side1 ?side2 A24.out).mono ?_); (case side1 => repeat (first | (with_reducible first | exact HI0.out | apply IsS99.alloc | apply IsS99.drewN | apply IsS99.drew | apply IsS99.set_1 | apply IsS99.set_2 | refine IsS99.far ?_ NB0_199.out _ | refine IsS99.far ?_ NB0_206.out _) | exact HI0.out)); (case side2 => repeat (first | (with_reducible first | exact HB.out | apply Za | apply Qp | apply Qu | refine Ql ?_ (IsS99.ge HI0.out) | refine Ql ?_ GE199.out | refine Ql ?_ GE206.out) | exact HB.out)); rintro e w37 ⟨rfl, hi, hb, hk⟩; refine ⟨_, rfl, ?_⟩; replace BK199 := Qa (Zr hk (g' := gb199) (o := .cells #[.int .i64 0, .int .i64 0, .int .i64 0, .int .i64 0, .slice none 0 0] 32 (0, 0)) (Ba BK199.out) NB199_0.out (by simp)); replace BK206 := Qa (Zr hk (g' := gb206) (o := .cells #[.int .i64 (Qq (1 + t203)), .int .i64 0, .int .i64 x207002_10, .int .i64 0, .slice none 0 0] 32 (0, 0)) (Ba BK206.out) NB206_0.out (by simp)); replace HK := Qa (Xx.trans (by repeat (first | (with_reducible first | exact HK.out | apply Qz | apply Zd | apply Zh | apply Ze | refine Zk ?_ GW199.out _ | refine Zk ?_ GW206.out _) | exact HK.out)) hk (.inl rfl)); replace HB := Qa (hb); replace HI0 := Qa (hi); (try clear hb); (try clear hb2); (try clear hk); (try clear hi); have hnb38 := NB206_199.out; have hnc38 := NB199_206.out; have hnb39 := NB206_0.out; have hnc39 := NB0_206.out; have q40_0 : w37.cell? ⟨gb206, 0, none⟩ = some (.int .i64 (Qq (1 + t203))) := (Qb BK206.out 0).trans rfl; have q40_1 : w37.cell? ⟨gb206, 1, none⟩ = some (.int .i64 0) := (Qb BK206.out 1).trans rfl; have q40_2 : w37.cell? ⟨gb206, 2, none⟩ = some (.int .i64 x207002_10) := (Qb BK206.out 2).trans rfl; have q40_3 : w37.cell? ⟨gb206, 3, none⟩ = some (.int .i64 0) := (Qb BK206.out 3).trans rfl; have q40_4 : w37.cell? ⟨gb206, 4, none⟩ = some (.slice none 0 0) := (Qb BK206.out 4).trans rfl; have u40_0 := Qc BK206.out 0; have u40_1 := Qc BK206.out 1; have u40_2 := Qc BK206.out 2; have u40_3 := Qc BK206.out 3; have u40_4 := Qc BK206.out 4) | ((with_reducible refine Zf (f := 70) rfl ?_); refine goesL_ (some 42) rfl rfl Try.func70 (by kernel_rfl) rfl #[.pointer (some ⟨g, 0, none⟩), .int .i64 3] rfl (by (try simp only [Qm, Qt, Zb]); first | done | rfl | (simp only [Qn, Qo]; rfl)) ?_; (with_reducible refine (spec_l1Below.calls g s0_0 t212 t213 3 t217 t218 t219 w0 _ ?side1 ?side2 A36.out).mono ?_); (case side1 => repeat (first | (with_reducible first | exact HI0.out | apply IsS99.alloc | apply IsS99.drewN | apply IsS99.drew | apply IsS99.set_1 | apply IsS99.set_2 | refine IsS99.far ?_ NB0_199.out _ | refine IsS99.far ?_ NB0_206.out _) | exact HI0.out)); (case side2 => repeat (first | (with_reducible first | exact HB.out | apply Za | apply Qp | apply Qu | refine Ql ?_ (IsS99.ge HI0.out) | refine Ql ?_ GE199.out | refine Ql ?_ GE206.out) | exact HB.out)); rintro e w41 ⟨rfl, hi, hb, hk⟩; refine ⟨_, rfl, ?_⟩; replace BK199 := Qa (Zr hk (g' := gb199) (o := .cells #[.int .i64 0, .int .i64 0, .int .i64 0, .int .i64 0, .slice none 0 0] 32 (0, 0)) (by (with_reducible repeat (first | refine Qg ?_ _ | refine Qh ?_ | refine Qf ?_ _)); refine blk_far ?_ NB199_206.out _; (with_reducible repeat (first | refine Qg ?_ _ | refine Qh ?_ | refine Qf ?_ _)); exact BK199.out) NB199_0.out (by simp)); replace BK206 := Qa (Zr hk (g' := gb206) (o := .cells #[.int .i64 (Qq (1 + t203)), .int .i64 0, .int .i64 x207002_10, .int .i64 t211, .slice none 0 0] 32 (0, 0)) (by (with_reducible repeat (first | refine Qg ?_ _ | refine Qh ?_ | refine Qf ?_ _)); refine Qr (cs := #[.int .i64 (Qq (1 + t203)), .int .i64 0, .int .i64 x207002_10, .int .i64 0, .slice none 0 0]) ?_ 3 _ rfl; (with_reducible repeat (first | refine Qg ?_ _ | refine Qh ?_ | refine Qf ?_ _)); exact BK206.out) NB206_0.out (by simp)); replace HK := Qa (Xx.trans (by repeat (first | (with_reducible first | exact HK.out | apply Qz | apply Zd | apply Zh | apply Ze | refine Zk ?_ GW199.out _ | refine Zk ?_ GW206.out _) | exact HK.out)) hk (.inl rfl)); replace HB := Qa (hb); replace HI0 := Qa (hi); (try clear hb); (try clear hb2); (try clear hk); (try clear hi); have q42_0 : w41.cell? ⟨gb206, 0, none⟩ = some (.int .i64 (Qq (1 + t203))) := (Qb BK206.out 0).trans rfl; have q42_1 : w41.cell? ⟨gb206, 1, none⟩ = some (.int .i64 0) := (Qb BK206.out 1).trans rfl; have q42_2 : w41.cell? ⟨gb206, 2, none⟩ = some (.int .i64 x207002_10) := (Qb BK206.out 2).trans rfl; have q42_3 : w41.cell? ⟨gb206, 3, none⟩ = some (.int .i64 t211) := (Qb BK206.out 3).trans rfl; have q42_4 : w41.cell? ⟨gb206, 4, none⟩ = some (.slice none 0 0) := (Qb BK206.out 4).trans rfl; have u42_0 := Qc BK206.out 0; have u42_1 := Qc BK206.out 1; have u42_2 := Qc BK206.out 2; have u42_3 := Qc BK206.out 3; have u42_4 := Qc BK206.out 4; have hnb43 := NB199_0.out; have hnc43 := NB0_199.out; have q44_0 : w41.cell? ⟨gb199, 0, none⟩ = some (.int .i64 0) := (Qb BK199.out 0).trans rfl; have q44_1 : w41.cell? ⟨gb199, 1, none⟩ = some (.int .i64 0) := (Qb BK199.out 1).trans rfl; have q44_2 : w41.cell? ⟨gb199, 2, none⟩ = some (.int .i64 0) := (Qb BK199.out 2).trans rfl; have q44_3 : w41.cell? ⟨gb199, 3, none⟩ = some (.int .i64 0) := (Qb BK199.out 3).trans rfl; have q44_4 : w41.cell? ⟨gb199, 4, none⟩ = some (.slice none 0 0) := (Qb BK199.out 4).trans rfl; have u44_0 := Qc BK199.out 0; have u44_1 := Qc BK199.out 1; have u44_2 := Qc BK199.out 2; have u44_3 := Qc BK199.out 3; have u44_4 := Qc BK199.out 4))
         refine bodyPost_ret (results_cell_row rfl _ _ gb199 32 #[.int .i64 (Qq (1 + t203)), .int .i64 t217, .int .i64 x207002_10, .int .i64 t211, .slice none 0 0] (0, 0) _ rfl (by (with_reducible repeat (first | refine Qg ?_ _ | refine Qh ?_ | refine Qf ?_ _)); refine Qr (cs := #[.int .i64 (Qq (1 + t203)), .int .i64 t217, .int .i64 x207002_10, .int .i64 t211, .slice none 0 0]) ?_ 4 _ rfl; (with_reducible repeat (first | refine Qg ?_ _ | refine Qh ?_ | refine Qf ?_ _)); refine Qr (cs := #[.int .i64 (Qq (1 + t203)), .int .i64 t217, .int .i64 x207002_10, .int .i64 0, .slice none 0 0]) ?_ 3 _ rfl; (with_reducible repeat (first | refine Qg ?_ _ | refine Qh ?_ | refine Qf ?_ _)); refine Qr (cs := #[.int .i64 (Qq (1 + t203)), .int .i64 t217, .int .i64 0, .int .i64 0, .slice none 0 0]) ?_ 2 _ rfl; (with_reducible repeat (first | refine Qg ?_ _ | refine Qh ?_ | refine Qf ?_ _)); refine Qr (cs := #[.int .i64 (Qq (1 + t203)), .int .i64 0, .int .i64 0, .int .i64 0, .slice none 0 0]) ?_ 1 _ rfl; (with_reducible repeat (first | refine Qg ?_ _ | refine Qh ?_ | refine Qf ?_ _)); refine Qr (cs := #[.int .i64 0, .int .i64 0, .int .i64 0, .int .i64 0, .slice none 0 0]) ?_ 0 _ rfl; (with_reducible repeat (first | refine Qg ?_ _ | refine Qh ?_ | refine Qf ?_ _)); refine blk_far ?_ NB199_206.out _; (with_reducible repeat (first | refine Qg ?_ _ | refine Qh ?_ | refine Qf ?_ _)); exact BK199.out) Zt rfl (by kernel_rfl)) rfl ?_
         exact ⟨_, by first | rfl | (simp [errW_none, errW_some] <;> rfl) | (simp [*, errW_none, errW_some] <;> rfl), by first | exact Kd.R_nil _ _ _ _ _ | exact Kd.N_nil _ _ _ _ _ | exact Kd.V_nil _ _ _ _ _ | exact Kd.Q_nil _ _ _ _ _ | exact Kd.S_nil _ _ _ _ _, by repeat (first | (with_reducible first | exact HI0.out | apply IsS99.alloc | apply IsS99.drewN | apply IsS99.drew | apply IsS99.set_1 | apply IsS99.set_2 | refine IsS99.far ?_ NB0_199.out _ | refine IsS99.far ?_ NB0_206.out _) | exact HI0.out), by repeat (first | (with_reducible first | exact HB.out | apply Za | apply Qp | apply Qu | refine Ql ?_ (IsS99.ge HI0.out) | refine Ql ?_ GE199.out | refine Ql ?_ GE206.out) | exact HB.out), by repeat (first | (with_reducible first | exact HK.out | apply Qz | apply Zd | apply Zh | apply Ze | refine Zk ?_ GW199.out _ | refine Zk ?_ GW206.out _) | exact HK.out)⟩
        ·rw [if_neg c35] at H
         have c35b0 : ((Qq (1 + t203)) == 3) = false := beq_eq_false_iff_ne.mpr c35
         have c35b1 : ((Qq (1 + t203)) != 3) = true := bne_iff_ne.mpr c35
         simp only [Xj, Prod.mk.injEq] at H
         obtain ⟨rfl, rfl, rfl, rfl, rfl, rfl, rfl⟩ := H
         go_wp2_with (first | ((with_reducible refine Zf (f := 70) rfl ?_); refine goesL_ (some 31) rfl rfl Try.func70 (by kernel_rfl) rfl #[.pointer (some ⟨g, 0, none⟩), .int .i64 3] rfl (by (try simp only [Qm, Qt, Zb]); first | done | rfl | (simp only [Qn, Qo]; rfl)) ?_; (with_reducible refine (spec_l1Below.calls g s0_0 x1001_10 x1002_10 3 t211 t212 t213 w0 _ ?side1 ?side2 A24.out).mono ?_); (case side1 => repeat (first | (with_reducible first | exact HI0.out | apply IsS99.alloc | apply IsS99.drewN | apply IsS99.drew | apply IsS99.set_1 | apply IsS99.set_2 | refine IsS99.far ?_ NB0_199.out _ | refine IsS99.far ?_ NB0_206.out _) | exact HI0.out)); (case side2 => repeat (first | (with_reducible first | exact HB.out | apply Za | apply Qp | apply Qu | refine Ql ?_ (IsS99.ge HI0.out) | refine Ql ?_ GE199.out | refine Ql ?_ GE206.out) | exact HB.out)); rintro e w45 ⟨rfl, hi, hb, hk⟩; refine ⟨_, rfl, ?_⟩; replace BK199 := Qa (Zr hk (g' := gb199) (o := .cells #[.int .i64 0, .int .i64 0, .int .i64 0, .int .i64 0, .slice none 0 0] 32 (0, 0)) (Ba BK199.out) NB199_0.out (by simp)); replace BK206 := Qa (Zr hk (g' := gb206) (o := .cells #[.int .i64 (Qq (1 + t203)), .int .i64 0, .int .i64 x207002_10, .int .i64 0, .slice none 0 0] 32 (0, 0)) (Ba BK206.out) NB206_0.out (by simp)); replace HK := Qa (Xx.trans (by repeat (first | (with_reducible first | exact HK.out | apply Qz | apply Zd | apply Zh | apply Ze | refine Zk ?_ GW199.out _ | refine Zk ?_ GW206.out _) | exact HK.out)) hk (.inl rfl)); replace HB := Qa (hb); replace HI0 := Qa (hi); (try clear hb); (try clear hb2); (try clear hk); (try clear hi); have hnb46 := NB206_199.out; have hnc46 := NB199_206.out; have hnb47 := NB206_0.out; have hnc47 := NB0_206.out; have q48_0 : w45.cell? ⟨gb206, 0, none⟩ = some (.int .i64 (Qq (1 + t203))) := (Qb BK206.out 0).trans rfl; have q48_1 : w45.cell? ⟨gb206, 1, none⟩ = some (.int .i64 0) := (Qb BK206.out 1).trans rfl; have q48_2 : w45.cell? ⟨gb206, 2, none⟩ = some (.int .i64 x207002_10) := (Qb BK206.out 2).trans rfl; have q48_3 : w45.cell? ⟨gb206, 3, none⟩ = some (.int .i64 0) := (Qb BK206.out 3).trans rfl; have q48_4 : w45.cell? ⟨gb206, 4, none⟩ = some (.slice none 0 0) := (Qb BK206.out 4).trans rfl; have u48_0 := Qc BK206.out 0; have u48_1 := Qc BK206.out 1; have u48_2 := Qc BK206.out 2; have u48_3 := Qc BK206.out 3; have u48_4 := Qc BK206.out 4; have hnb49 := NB199_0.out; have hnc49 := NB0_199.out; have q50_0 : w45.cell? ⟨gb199, 0, none⟩ = some (.int .i64 0) := (Qb BK199.out 0).trans rfl; have q50_1 : w45.cell? ⟨gb199, 1, none⟩ = some (.int .i64 0) := (Qb BK199.out 1).trans rfl; have q50_2 : w45.cell? ⟨gb199, 2, none⟩ = some (.int .i64 0) := (Qb BK199.out 2).trans rfl; have q50_3 : w45.cell? ⟨gb199, 3, none⟩ = some (.int .i64 0) := (Qb BK199.out 3).trans rfl; have q50_4 : w45.cell? ⟨gb199, 4, none⟩ = some (.slice none 0 0) := (Qb BK199.out 4).trans rfl; have u50_0 := Qc BK199.out 0; have u50_1 := Qc BK199.out 1; have u50_2 := Qc BK199.out 2; have u50_3 := Qc BK199.out 3; have u50_4 := Qc BK199.out 4))
         refine bodyPost_ret (results_cell_row rfl _ _ gb199 32 #[.int .i64 (Qq (1 + t203)), .int .i64 0, .int .i64 x207002_10, .int .i64 t211, .slice none 0 0] (0, 0) _ rfl (by (with_reducible repeat (first | refine Qg ?_ _ | refine Qh ?_ | refine Qf ?_ _)); refine Qr (cs := #[.int .i64 (Qq (1 + t203)), .int .i64 0, .int .i64 x207002_10, .int .i64 t211, .slice none 0 0]) ?_ 4 _ rfl; (with_reducible repeat (first | refine Qg ?_ _ | refine Qh ?_ | refine Qf ?_ _)); refine Qr (cs := #[.int .i64 (Qq (1 + t203)), .int .i64 0, .int .i64 x207002_10, .int .i64 0, .slice none 0 0]) ?_ 3 _ rfl; (with_reducible repeat (first | refine Qg ?_ _ | refine Qh ?_ | refine Qf ?_ _)); refine Qr (cs := #[.int .i64 (Qq (1 + t203)), .int .i64 0, .int .i64 0, .int .i64 0, .slice none 0 0]) ?_ 2 _ rfl; (with_reducible repeat (first | refine Qg ?_ _ | refine Qh ?_ | refine Qf ?_ _)); refine Qr (cs := #[.int .i64 (Qq (1 + t203)), .int .i64 0, .int .i64 0, .int .i64 0, .slice none 0 0]) ?_ 1 _ rfl; (with_reducible repeat (first | refine Qg ?_ _ | refine Qh ?_ | refine Qf ?_ _)); refine Qr (cs := #[.int .i64 0, .int .i64 0, .int .i64 0, .int .i64 0, .slice none 0 0]) ?_ 0 _ rfl; (with_reducible repeat (first | refine Qg ?_ _ | refine Qh ?_ | refine Qf ?_ _)); refine blk_far ?_ NB199_206.out _; (with_reducible repeat (first | refine Qg ?_ _ | refine Qh ?_ | refine Qf ?_ _)); exact BK199.out) Zt rfl (by kernel_rfl)) rfl ?_
         exact ⟨_, by first | rfl | (simp [errW_none, errW_some] <;> rfl) | (simp [*, errW_none, errW_some] <;> rfl), by first | exact Kd.R_nil _ _ _ _ _ | exact Kd.N_nil _ _ _ _ _ | exact Kd.V_nil _ _ _ _ _ | exact Kd.Q_nil _ _ _ _ _ | exact Kd.S_nil _ _ _ _ _, by repeat (first | (with_reducible first | exact HI0.out | apply IsS99.alloc | apply IsS99.drewN | apply IsS99.drew | apply IsS99.set_1 | apply IsS99.set_2 | refine IsS99.far ?_ NB0_199.out _ | refine IsS99.far ?_ NB0_206.out _) | exact HI0.out), by repeat (first | (with_reducible first | exact HB.out | apply Za | apply Qp | apply Qu | refine Ql ?_ (IsS99.ge HI0.out) | refine Ql ?_ GE199.out | refine Ql ?_ GE206.out) | exact HB.out), by repeat (first | (with_reducible first | exact HK.out | apply Qz | apply Zd | apply Zh | apply Ze | refine Zk ?_ GW199.out _ | refine Zk ?_ GW206.out _) | exact HK.out)⟩
      ·rw [if_neg c23] at H
       have c23b0 : decide (1 < t207) = false := decide_eq_false c23
       clear c23
       by_cases c51 : (Qq (1 + t203)) = 2
       ·rw [if_pos c51] at H
        have c51b0 : ((Qq (1 + t203)) == 2) = true := beq_iff_eq.mpr c51
        have c51b1 : ((Qq (1 + t203)) != 2) = false := bne_eq_false_iff_eq.mpr c51
        clear c51
        replace H := Qi.mp H
        obtain ⟨⟨t220, t221, t222⟩, A520, H⟩ := H
        replace H : (some ((Qq (1 + t203)), t220, x207002_10, 0, ([] : List (S32)), t221, t222)) = some (r1, r2, r3, r4, r5, r6, r7) := H
        have A52 := Qa A520
        clear A520
        simp only [Xj, Prod.mk.injEq] at H
        obtain ⟨rfl, rfl, rfl, rfl, rfl, rfl, rfl⟩ := H
        have hnb53 := NB206_199.out
        have hnc53 := NB199_206.out
        have hnb54 := NB206_0.out
        have hnc54 := NB0_206.out
        have q55_0 : wc.cell? ⟨gb206, 0, none⟩ = some (.int .i64 (Qq (1 + t203))) := (Qb BK206.out 0).trans rfl
        have q55_1 : wc.cell? ⟨gb206, 1, none⟩ = some (.int .i64 0) := (Qb BK206.out 1).trans rfl
        have q55_2 : wc.cell? ⟨gb206, 2, none⟩ = some (.int .i64 x207002_10) := (Qb BK206.out 2).trans rfl
        have q55_3 : wc.cell? ⟨gb206, 3, none⟩ = some (.int .i64 0) := (Qb BK206.out 3).trans rfl
        have q55_4 : wc.cell? ⟨gb206, 4, none⟩ = some (.slice none 0 0) := (Qb BK206.out 4).trans rfl
        have u55_0 := Qc BK206.out 0
        have u55_1 := Qc BK206.out 1
        have u55_2 := Qc BK206.out 2
        have u55_3 := Qc BK206.out 3
        have u55_4 := Qc BK206.out 4
        go_wp2_with (first | ((with_reducible refine Zf (f := 70) rfl ?_); refine goesL_ (some 42) rfl rfl Try.func70 (by kernel_rfl) rfl #[.pointer (some ⟨g, 0, none⟩), .int .i64 3] rfl (by (try simp only [Qm, Qt, Zb]); first | done | rfl | (simp only [Qn, Qo]; rfl)) ?_; (with_reducible refine (spec_l1Below.calls g s0_0 x1001_10 x1002_10 3 t220 t221 t222 w0 _ ?side1 ?side2 A52.out).mono ?_); (case side1 => repeat (first | (with_reducible first | exact HI0.out | apply IsS99.alloc | apply IsS99.drewN | apply IsS99.drew | apply IsS99.set_1 | apply IsS99.set_2 | refine IsS99.far ?_ NB0_199.out _ | refine IsS99.far ?_ NB0_206.out _) | exact HI0.out)); (case side2 => repeat (first | (with_reducible first | exact HB.out | apply Za | apply Qp | apply Qu | refine Ql ?_ (IsS99.ge HI0.out) | refine Ql ?_ GE199.out | refine Ql ?_ GE206.out) | exact HB.out)); rintro e w56 ⟨rfl, hi, hb, hk⟩; refine ⟨_, rfl, ?_⟩; replace BK199 := Qa (Zr hk (g' := gb199) (o := .cells #[.int .i64 0, .int .i64 0, .int .i64 0, .int .i64 0, .slice none 0 0] 32 (0, 0)) (Ba BK199.out) NB199_0.out (by simp)); replace BK206 := Qa (Zr hk (g' := gb206) (o := .cells #[.int .i64 (Qq (1 + t203)), .int .i64 0, .int .i64 x207002_10, .int .i64 0, .slice none 0 0] 32 (0, 0)) (Ba BK206.out) NB206_0.out (by simp)); replace HK := Qa (Xx.trans (by repeat (first | (with_reducible first | exact HK.out | apply Qz | apply Zd | apply Zh | apply Ze | refine Zk ?_ GW199.out _ | refine Zk ?_ GW206.out _) | exact HK.out)) hk (.inl rfl)); replace HB := Qa (hb); replace HI0 := Qa (hi); (try clear hb); (try clear hb2); (try clear hk); (try clear hi); have q57_0 : w56.cell? ⟨gb206, 0, none⟩ = some (.int .i64 (Qq (1 + t203))) := (Qb BK206.out 0).trans rfl; have q57_1 : w56.cell? ⟨gb206, 1, none⟩ = some (.int .i64 0) := (Qb BK206.out 1).trans rfl; have q57_2 : w56.cell? ⟨gb206, 2, none⟩ = some (.int .i64 x207002_10) := (Qb BK206.out 2).trans rfl; have q57_3 : w56.cell? ⟨gb206, 3, none⟩ = some (.int .i64 0) := (Qb BK206.out 3).trans rfl; have q57_4 : w56.cell? ⟨gb206, 4, none⟩ = some (.slice none 0 0) := (Qb BK206.out 4).trans rfl; have u57_0 := Qc BK206.out 0; have u57_1 := Qc BK206.out 1; have u57_2 := Qc BK206.out 2; have u57_3 := Qc BK206.out 3; have u57_4 := Qc BK206.out 4; have hnb58 := NB199_0.out; have hnc58 := NB0_199.out; have q59_0 : w56.cell? ⟨gb199, 0, none⟩ = some (.int .i64 0) := (Qb BK199.out 0).trans rfl; have q59_1 : w56.cell? ⟨gb199, 1, none⟩ = some (.int .i64 0) := (Qb BK199.out 1).trans rfl; have q59_2 : w56.cell? ⟨gb199, 2, none⟩ = some (.int .i64 0) := (Qb BK199.out 2).trans rfl; have q59_3 : w56.cell? ⟨gb199, 3, none⟩ = some (.int .i64 0) := (Qb BK199.out 3).trans rfl; have q59_4 : w56.cell? ⟨gb199, 4, none⟩ = some (.slice none 0 0) := (Qb BK199.out 4).trans rfl; have u59_0 := Qc BK199.out 0; have u59_1 := Qc BK199.out 1; have u59_2 := Qc BK199.out 2; have u59_3 := Qc BK199.out 3; have u59_4 := Qc BK199.out 4))
        refine bodyPost_ret (results_cell_row rfl _ _ gb199 32 #[.int .i64 (Qq (1 + t203)), .int .i64 t220, .int .i64 x207002_10, .int .i64 0, .slice none 0 0] (0, 0) _ rfl (by (with_reducible repeat (first | refine Qg ?_ _ | refine Qh ?_ | refine Qf ?_ _)); refine Qr (cs := #[.int .i64 (Qq (1 + t203)), .int .i64 t220, .int .i64 x207002_10, .int .i64 0, .slice none 0 0]) ?_ 4 _ rfl; (with_reducible repeat (first | refine Qg ?_ _ | refine Qh ?_ | refine Qf ?_ _)); refine Qr (cs := #[.int .i64 (Qq (1 + t203)), .int .i64 t220, .int .i64 x207002_10, .int .i64 0, .slice none 0 0]) ?_ 3 _ rfl; (with_reducible repeat (first | refine Qg ?_ _ | refine Qh ?_ | refine Qf ?_ _)); refine Qr (cs := #[.int .i64 (Qq (1 + t203)), .int .i64 t220, .int .i64 0, .int .i64 0, .slice none 0 0]) ?_ 2 _ rfl; (with_reducible repeat (first | refine Qg ?_ _ | refine Qh ?_ | refine Qf ?_ _)); refine Qr (cs := #[.int .i64 (Qq (1 + t203)), .int .i64 0, .int .i64 0, .int .i64 0, .slice none 0 0]) ?_ 1 _ rfl; (with_reducible repeat (first | refine Qg ?_ _ | refine Qh ?_ | refine Qf ?_ _)); refine Qr (cs := #[.int .i64 0, .int .i64 0, .int .i64 0, .int .i64 0, .slice none 0 0]) ?_ 0 _ rfl; (with_reducible repeat (first | refine Qg ?_ _ | refine Qh ?_ | refine Qf ?_ _)); refine blk_far ?_ NB199_206.out _; (with_reducible repeat (first | refine Qg ?_ _ | refine Qh ?_ | refine Qf ?_ _)); exact BK199.out) Zt rfl (by kernel_rfl)) rfl ?_
        exact ⟨_, by first | rfl | (simp [errW_none, errW_some] <;> rfl) | (simp [*, errW_none, errW_some] <;> rfl), by first | exact Kd.R_nil _ _ _ _ _ | exact Kd.N_nil _ _ _ _ _ | exact Kd.V_nil _ _ _ _ _ | exact Kd.Q_nil _ _ _ _ _ | exact Kd.S_nil _ _ _ _ _, by repeat (first | (with_reducible first | exact HI0.out | apply IsS99.alloc | apply IsS99.drewN | apply IsS99.drew | apply IsS99.set_1 | apply IsS99.set_2 | refine IsS99.far ?_ NB0_199.out _ | refine IsS99.far ?_ NB0_206.out _) | exact HI0.out), by repeat (first | (with_reducible first | exact HB.out | apply Za | apply Qp | apply Qu | refine Ql ?_ (IsS99.ge HI0.out) | refine Ql ?_ GE199.out | refine Ql ?_ GE206.out) | exact HB.out), by repeat (first | (with_reducible first | exact HK.out | apply Qz | apply Zd | apply Zh | apply Ze | refine Zk ?_ GW199.out _ | refine Zk ?_ GW206.out _) | exact HK.out)⟩
       ·rw [if_neg c51] at H
        have c51b0 : ((Qq (1 + t203)) == 2) = false := beq_eq_false_iff_ne.mpr c51
        have c51b1 : ((Qq (1 + t203)) != 2) = true := bne_iff_ne.mpr c51
        by_cases c60 : (Qq (1 + t203)) = 3
        ·rw [if_pos c60] at H
         have c60b0 : ((Qq (1 + t203)) == 3) = true := beq_iff_eq.mpr c60
         have c60b1 : ((Qq (1 + t203)) != 3) = false := bne_eq_false_iff_eq.mpr c60
         clear c60
         replace H := Qi.mp H
         obtain ⟨⟨t223, t224, t225⟩, A610, H⟩ := H
         replace H : (some ((Qq (1 + t203)), t223, x207002_10, 0, ([] : List (S32)), t224, t225)) = some (r1, r2, r3, r4, r5, r6, r7) := H
         have A61 := Qa A610
         clear A610
         simp only [Xj, Prod.mk.injEq] at H
         obtain ⟨rfl, rfl, rfl, rfl, rfl, rfl, rfl⟩ := H
         have hnb62 := NB206_199.out
         have hnc62 := NB199_206.out
         have hnb63 := NB206_0.out
         have hnc63 := NB0_206.out
         have q64_0 : wc.cell? ⟨gb206, 0, none⟩ = some (.int .i64 (Qq (1 + t203))) := (Qb BK206.out 0).trans rfl
         have q64_1 : wc.cell? ⟨gb206, 1, none⟩ = some (.int .i64 0) := (Qb BK206.out 1).trans rfl
         have q64_2 : wc.cell? ⟨gb206, 2, none⟩ = some (.int .i64 x207002_10) := (Qb BK206.out 2).trans rfl
         have q64_3 : wc.cell? ⟨gb206, 3, none⟩ = some (.int .i64 0) := (Qb BK206.out 3).trans rfl
         have q64_4 : wc.cell? ⟨gb206, 4, none⟩ = some (.slice none 0 0) := (Qb BK206.out 4).trans rfl
         have u64_0 := Qc BK206.out 0
         have u64_1 := Qc BK206.out 1
         have u64_2 := Qc BK206.out 2
         have u64_3 := Qc BK206.out 3
         have u64_4 := Qc BK206.out 4
         go_wp2_with (first | ((with_reducible refine Zf (f := 70) rfl ?_); refine goesL_ (some 42) rfl rfl Try.func70 (by kernel_rfl) rfl #[.pointer (some ⟨g, 0, none⟩), .int .i64 3] rfl (by (try simp only [Qm, Qt, Zb]); first | done | rfl | (simp only [Qn, Qo]; rfl)) ?_; (with_reducible refine (spec_l1Below.calls g s0_0 x1001_10 x1002_10 3 t223 t224 t225 w0 _ ?side1 ?side2 A61.out).mono ?_); (case side1 => repeat (first | (with_reducible first | exact HI0.out | apply IsS99.alloc | apply IsS99.drewN | apply IsS99.drew | apply IsS99.set_1 | apply IsS99.set_2 | refine IsS99.far ?_ NB0_199.out _ | refine IsS99.far ?_ NB0_206.out _) | exact HI0.out)); (case side2 => repeat (first | (with_reducible first | exact HB.out | apply Za | apply Qp | apply Qu | refine Ql ?_ (IsS99.ge HI0.out) | refine Ql ?_ GE199.out | refine Ql ?_ GE206.out) | exact HB.out)); rintro e w65 ⟨rfl, hi, hb, hk⟩; refine ⟨_, rfl, ?_⟩; replace BK199 := Qa (Zr hk (g' := gb199) (o := .cells #[.int .i64 0, .int .i64 0, .int .i64 0, .int .i64 0, .slice none 0 0] 32 (0, 0)) (Ba BK199.out) NB199_0.out (by simp)); replace BK206 := Qa (Zr hk (g' := gb206) (o := .cells #[.int .i64 (Qq (1 + t203)), .int .i64 0, .int .i64 x207002_10, .int .i64 0, .slice none 0 0] 32 (0, 0)) (Ba BK206.out) NB206_0.out (by simp)); replace HK := Qa (Xx.trans (by repeat (first | (with_reducible first | exact HK.out | apply Qz | apply Zd | apply Zh | apply Ze | refine Zk ?_ GW199.out _ | refine Zk ?_ GW206.out _) | exact HK.out)) hk (.inl rfl)); replace HB := Qa (hb); replace HI0 := Qa (hi); (try clear hb); (try clear hb2); (try clear hk); (try clear hi); have q66_0 : w65.cell? ⟨gb206, 0, none⟩ = some (.int .i64 (Qq (1 + t203))) := (Qb BK206.out 0).trans rfl; have q66_1 : w65.cell? ⟨gb206, 1, none⟩ = some (.int .i64 0) := (Qb BK206.out 1).trans rfl; have q66_2 : w65.cell? ⟨gb206, 2, none⟩ = some (.int .i64 x207002_10) := (Qb BK206.out 2).trans rfl; have q66_3 : w65.cell? ⟨gb206, 3, none⟩ = some (.int .i64 0) := (Qb BK206.out 3).trans rfl; have q66_4 : w65.cell? ⟨gb206, 4, none⟩ = some (.slice none 0 0) := (Qb BK206.out 4).trans rfl; have u66_0 := Qc BK206.out 0; have u66_1 := Qc BK206.out 1; have u66_2 := Qc BK206.out 2; have u66_3 := Qc BK206.out 3; have u66_4 := Qc BK206.out 4; have hnb67 := NB199_0.out; have hnc67 := NB0_199.out; have q68_0 : w65.cell? ⟨gb199, 0, none⟩ = some (.int .i64 0) := (Qb BK199.out 0).trans rfl; have q68_1 : w65.cell? ⟨gb199, 1, none⟩ = some (.int .i64 0) := (Qb BK199.out 1).trans rfl; have q68_2 : w65.cell? ⟨gb199, 2, none⟩ = some (.int .i64 0) := (Qb BK199.out 2).trans rfl; have q68_3 : w65.cell? ⟨gb199, 3, none⟩ = some (.int .i64 0) := (Qb BK199.out 3).trans rfl; have q68_4 : w65.cell? ⟨gb199, 4, none⟩ = some (.slice none 0 0) := (Qb BK199.out 4).trans rfl; have u68_0 := Qc BK199.out 0; have u68_1 := Qc BK199.out 1; have u68_2 := Qc BK199.out 2; have u68_3 := Qc BK199.out 3; have u68_4 := Qc BK199.out 4))
         refine bodyPost_ret (results_cell_row rfl _ _ gb199 32 #[.int .i64 (Qq (1 + t203)), .int .i64 t223, .int .i64 x207002_10, .int .i64 0, .slice none 0 0] (0, 0) _ rfl (by (with_reducible repeat (first | refine Qg ?_ _ | refine Qh ?_ | refine Qf ?_ _)); refine Qr (cs := #[.int .i64 (Qq (1 + t203)), .int .i64 t223, .int .i64 x207002_10, .int .i64 0, .slice none 0 0]) ?_ 4 _ rfl; (with_reducible repeat (first | refine Qg ?_ _ | refine Qh ?_ | refine Qf ?_ _)); refine Qr (cs := #[.int .i64 (Qq (1 + t203)), .int .i64 t223, .int .i64 x207002_10, .int .i64 0, .slice none 0 0]) ?_ 3 _ rfl; (with_reducible repeat (first | refine Qg ?_ _ | refine Qh ?_ | refine Qf ?_ _)); refine Qr (cs := #[.int .i64 (Qq (1 + t203)), .int .i64 t223, .int .i64 0, .int .i64 0, .slice none 0 0]) ?_ 2 _ rfl; (with_reducible repeat (first | refine Qg ?_ _ | refine Qh ?_ | refine Qf ?_ _)); refine Qr (cs := #[.int .i64 (Qq (1 + t203)), .int .i64 0, .int .i64 0, .int .i64 0, .slice none 0 0]) ?_ 1 _ rfl; (with_reducible repeat (first | refine Qg ?_ _ | refine Qh ?_ | refine Qf ?_ _)); refine Qr (cs := #[.int .i64 0, .int .i64 0, .int .i64 0, .int .i64 0, .slice none 0 0]) ?_ 0 _ rfl; (with_reducible repeat (first | refine Qg ?_ _ | refine Qh ?_ | refine Qf ?_ _)); refine blk_far ?_ NB199_206.out _; (with_reducible repeat (first | refine Qg ?_ _ | refine Qh ?_ | refine Qf ?_ _)); exact BK199.out) Zt rfl (by kernel_rfl)) rfl ?_
         exact ⟨_, by first | rfl | (simp [errW_none, errW_some] <;> rfl) | (simp [*, errW_none, errW_some] <;> rfl), by first | exact Kd.R_nil _ _ _ _ _ | exact Kd.N_nil _ _ _ _ _ | exact Kd.V_nil _ _ _ _ _ | exact Kd.Q_nil _ _ _ _ _ | exact Kd.S_nil _ _ _ _ _, by repeat (first | (with_reducible first | exact HI0.out | apply IsS99.alloc | apply IsS99.drewN | apply IsS99.drew | apply IsS99.set_1 | apply IsS99.set_2 | refine IsS99.far ?_ NB0_199.out _ | refine IsS99.far ?_ NB0_206.out _) | exact HI0.out), by repeat (first | (with_reducible first | exact HB.out | apply Za | apply Qp | apply Qu | refine Ql ?_ (IsS99.ge HI0.out) | refine Ql ?_ GE199.out | refine Ql ?_ GE206.out) | exact HB.out), by repeat (first | (with_reducible first | exact HK.out | apply Qz | apply Zd | apply Zh | apply Ze | refine Zk ?_ GW199.out _ | refine Zk ?_ GW206.out _) | exact HK.out)⟩
        ·rw [if_neg c60] at H
         have c60b0 : ((Qq (1 + t203)) == 3) = false := beq_eq_false_iff_ne.mpr c60
         have c60b1 : ((Qq (1 + t203)) != 3) = true := bne_iff_ne.mpr c60
         simp only [Xj, Prod.mk.injEq] at H
         obtain ⟨rfl, rfl, rfl, rfl, rfl, rfl, rfl⟩ := H
         have hnb69 := NB206_199.out
         have hnc69 := NB199_206.out
         have hnb70 := NB206_0.out
         have hnc70 := NB0_206.out
         have q71_0 : wc.cell? ⟨gb206, 0, none⟩ = some (.int .i64 (Qq (1 + t203))) := (Qb BK206.out 0).trans rfl
         have q71_1 : wc.cell? ⟨gb206, 1, none⟩ = some (.int .i64 0) := (Qb BK206.out 1).trans rfl
         have q71_2 : wc.cell? ⟨gb206, 2, none⟩ = some (.int .i64 x207002_10) := (Qb BK206.out 2).trans rfl
         have q71_3 : wc.cell? ⟨gb206, 3, none⟩ = some (.int .i64 0) := (Qb BK206.out 3).trans rfl
         have q71_4 : wc.cell? ⟨gb206, 4, none⟩ = some (.slice none 0 0) := (Qb BK206.out 4).trans rfl
         have u71_0 := Qc BK206.out 0
         have u71_1 := Qc BK206.out 1
         have u71_2 := Qc BK206.out 2
         have u71_3 := Qc BK206.out 3
         have u71_4 := Qc BK206.out 4
         have hnb72 := NB199_0.out
         have hnc72 := NB0_199.out
         have q73_0 : wc.cell? ⟨gb199, 0, none⟩ = some (.int .i64 0) := (Qb BK199.out 0).trans rfl
         have q73_1 : wc.cell? ⟨gb199, 1, none⟩ = some (.int .i64 0) := (Qb BK199.out 1).trans rfl
         have q73_2 : wc.cell? ⟨gb199, 2, none⟩ = some (.int .i64 0) := (Qb BK199.out 2).trans rfl
         have q73_3 : wc.cell? ⟨gb199, 3, none⟩ = some (.int .i64 0) := (Qb BK199.out 3).trans rfl
         have q73_4 : wc.cell? ⟨gb199, 4, none⟩ = some (.slice none 0 0) := (Qb BK199.out 4).trans rfl
         have u73_0 := Qc BK199.out 0
         have u73_1 := Qc BK199.out 1
         have u73_2 := Qc BK199.out 2
         have u73_3 := Qc BK199.out 3
         have u73_4 := Qc BK199.out 4
         go_wp2
         refine bodyPost_ret (results_cell_row rfl _ _ gb199 32 #[.int .i64 (Qq (1 + t203)), .int .i64 0, .int .i64 x207002_10, .int .i64 0, .slice none 0 0] (0, 0) _ rfl (by (with_reducible repeat (first | refine Qg ?_ _ | refine Qh ?_ | refine Qf ?_ _)); refine Qr (cs := #[.int .i64 (Qq (1 + t203)), .int .i64 0, .int .i64 x207002_10, .int .i64 0, .slice none 0 0]) ?_ 4 _ rfl; (with_reducible repeat (first | refine Qg ?_ _ | refine Qh ?_ | refine Qf ?_ _)); refine Qr (cs := #[.int .i64 (Qq (1 + t203)), .int .i64 0, .int .i64 x207002_10, .int .i64 0, .slice none 0 0]) ?_ 3 _ rfl; (with_reducible repeat (first | refine Qg ?_ _ | refine Qh ?_ | refine Qf ?_ _)); refine Qr (cs := #[.int .i64 (Qq (1 + t203)), .int .i64 0, .int .i64 0, .int .i64 0, .slice none 0 0]) ?_ 2 _ rfl; (with_reducible repeat (first | refine Qg ?_ _ | refine Qh ?_ | refine Qf ?_ _)); refine Qr (cs := #[.int .i64 (Qq (1 + t203)), .int .i64 0, .int .i64 0, .int .i64 0, .slice none 0 0]) ?_ 1 _ rfl; (with_reducible repeat (first | refine Qg ?_ _ | refine Qh ?_ | refine Qf ?_ _)); refine Qr (cs := #[.int .i64 0, .int .i64 0, .int .i64 0, .int .i64 0, .slice none 0 0]) ?_ 0 _ rfl; (with_reducible repeat (first | refine Qg ?_ _ | refine Qh ?_ | refine Qf ?_ _)); exact BK199.out) Zt rfl (by kernel_rfl)) rfl ?_
         exact ⟨_, by first | rfl | (simp [errW_none, errW_some] <;> rfl) | (simp [*, errW_none, errW_some] <;> rfl), by first | exact Kd.R_nil _ _ _ _ _ | exact Kd.N_nil _ _ _ _ _ | exact Kd.V_nil _ _ _ _ _ | exact Kd.Q_nil _ _ _ _ _ | exact Kd.S_nil _ _ _ _ _, by repeat (first | (with_reducible first | exact HI0.out | apply IsS99.alloc | apply IsS99.drewN | apply IsS99.drew | apply IsS99.set_1 | apply IsS99.set_2 | refine IsS99.far ?_ NB0_199.out _ | refine IsS99.far ?_ NB0_206.out _) | exact HI0.out), by repeat (first | (with_reducible first | exact HB.out | apply Za | apply Qp | apply Qu | refine Ql ?_ (IsS99.ge HI0.out) | refine Ql ?_ GE199.out | refine Ql ?_ GE206.out) | exact HB.out), by repeat (first | (with_reducible first | exact HK.out | apply Qz | apply Zd | apply Zh | apply Ze | refine Zk ?_ GW199.out _ | refine Zk ?_ GW206.out _) | exact HK.out)⟩
   ·replace c8 := Bool.eq_false_iff.mpr c8
    subst c8
    have H1 : ((spec_l1Below.f s0_0 x1001_2 x1002_2 5).bind fun bt226 => (if (Qq (8 + bt226.1)) = 11 then (spec_l10Draw.j2 kj2 a1 true s0_0 bt226.2.1 bt226.2.2 (Qq (8 + bt226.1)) 0 0 0) else (spec_l10Draw.j2 kj2 a1 ((Qq (8 + bt226.1)) == 12) s0_0 bt226.2.1 bt226.2.2 (Qq (8 + bt226.1)) 0 0 0))) = some (r1, r2, r3, r4, r5, r6, r7) := by rw [if_neg (show ¬ (false = true) by decide)] at H; exact H
    clear H
    have H := H1
    clear H1
    replace H := Qi.mp H
    obtain ⟨⟨t226, t227, t228⟩, A740, H⟩ := H
    replace H : (if (Qq (8 + t226)) = 11 then (spec_l10Draw.j2 kj2 a1 true s0_0 t227 t228 (Qq (8 + t226)) 0 0 0) else (spec_l10Draw.j2 kj2 a1 ((Qq (8 + t226)) == 12) s0_0 t227 t228 (Qq (8 + t226)) 0 0 0)) = some (r1, r2, r3, r4, r5, r6, r7) := H
    have A74 := Qa A740
    clear A740
    have HC75 := Qa H
    clear H
    go_upto_region 12 with (first | ((with_reducible refine Zf (f := 70) rfl ?_); refine goesL_ (some 46) rfl rfl Try.func70 (by kernel_rfl) rfl #[.pointer (some ⟨g, 0, none⟩), .int .i64 5] rfl (by (try simp only [Qm, Qt, Zb]); first | done | rfl | (simp only [Qn, Qo]; rfl)) ?_; (with_reducible refine (spec_l1Below.calls g s0_0 x1001_2 x1002_2 5 t226 t227 t228 w0 _ ?side1 ?side2 A74.out).mono ?_); (case side1 => repeat (first | (with_reducible first | exact HI0.out | apply IsS99.alloc | apply IsS99.drewN | apply IsS99.drew | apply IsS99.set_1 | apply IsS99.set_2 | refine IsS99.far ?_ NB0_199.out _) | exact HI0.out)); (case side2 => repeat (first | (with_reducible first | exact HB.out | apply Za | apply Qp | apply Qu | refine Ql ?_ (IsS99.ge HI0.out) | refine Ql ?_ GE199.out) | exact HB.out)); rintro e w76 ⟨rfl, hi, hb, hk⟩; refine ⟨_, rfl, ?_⟩; replace BK199 := Qa (Zr hk (g' := gb199) (o := .cells #[.int .i64 0, .int .i64 0, .int .i64 0, .int .i64 0, .slice none 0 0] 32 (0, 0)) (Ba BK199.out) NB199_0.out (by simp)); replace HK := Qa (Xx.trans (by repeat (first | (with_reducible first | exact HK.out | apply Qz | apply Zd | apply Zh | apply Ze | refine Zk ?_ GW199.out _) | exact HK.out)) hk (.inl rfl)); replace HB := Qa (hb); replace HI0 := Qa (hi); (try clear hb); (try clear hb2); (try clear hk); (try clear hi)) | ((with_reducible refine gate_dst (N := 7) rfl ?_); refine box_event ?hg (N := 7) ?hd (cs := #[.int .i64 0, .int .i64 0, .int .i64 0, .int .i64 0, .slice none 0 0]) (t := 32) ?hr ?_; (case hd => rfl); (case hg => rfl); (case hr => first | (go_simp; done) | (go_simp; rfl)); intro gb229 hg w77 hbox hb; replace HB := Qa (below_step (Bb2 HB.out (IsS99.ge HI0.out) GE199.out) hb); have BK229 := Qa (hbox); have GW229 := Qa ((by rw [hg]; exact (keep_size (w := w) (g := g) (row := none) (by repeat (first | (with_reducible first | exact HK.out | apply Qz | apply Zd | apply Zh | apply Ze | refine Zk ?_ GW199.out _) | exact HK.out))) : w.heap.size ≤ gb229)); have GE229 := Qa ((Nat.le_trans HW0.out (by rw [hg]; exact (keep_size (w := w) (g := g) (row := none) (by repeat (first | (with_reducible first | exact HK.out | apply Qz | apply Zd | apply Zh | apply Ze | refine Zk ?_ GW199.out _) | exact HK.out))) : w.heap.size ≤ gb229) : w0.heap.size ≤ gb229)); replace HK := Qa (Xx.trans (by repeat (first | (with_reducible first | exact HK.out | apply Qz | apply Zd | apply Zh | apply Ze | refine Zk ?_ GW199.out _) | exact HK.out)) (KeepBut.of_below hb g none) (.inl rfl)); have NB199_229 := Qa ((by rw [hg]; exact Zp (blk_lt (g := gb199) (o := .cells #[.int .i64 0, .int .i64 0, .int .i64 0, .int .i64 0, .slice none 0 0] 32 (0, 0)) (Ba BK199.out)) : gb199 ≠ gb229)); have NB229_199 := Qa ((by rw [hg]; exact Zy (blk_lt (g := gb199) (o := .cells #[.int .i64 0, .int .i64 0, .int .i64 0, .int .i64 0, .slice none 0 0] 32 (0, 0)) (Ba BK199.out)) : gb229 ≠ gb199)); replace BK199 := Qa (blk_below (g := gb199) (o := .cells #[.int .i64 0, .int .i64 0, .int .i64 0, .int .i64 0, .slice none 0 0] 32 (0, 0)) (Ba BK199.out) hb); have NB0_229 := Qa ((by rw [hg]; exact Zp (IsS99.lt (show IsS99 w0 _ g s0_0 t227 t228 from by repeat (first | (with_reducible first | exact HI0.out | apply IsS99.alloc | apply IsS99.drewN | apply IsS99.drew | apply IsS99.set_1 | apply IsS99.set_2 | refine IsS99.far ?_ NB0_199.out _) | exact HI0.out))) : g ≠ gb229)); have NB229_0 := Qa ((by rw [hg]; exact Zy (IsS99.lt (show IsS99 w0 _ g s0_0 t227 t228 from by repeat (first | (with_reducible first | exact HI0.out | apply IsS99.alloc | apply IsS99.drewN | apply IsS99.drew | apply IsS99.set_1 | apply IsS99.set_2 | refine IsS99.far ?_ NB0_199.out _) | exact HI0.out))) : gb229 ≠ g)); replace HI0 := Qa (IsS99.below (by repeat (first | (with_reducible first | exact HI0.out | apply IsS99.alloc | apply IsS99.drewN | apply IsS99.drew | apply IsS99.set_1 | apply IsS99.set_2 | refine IsS99.far ?_ NB0_199.out _) | exact HI0.out)) hb); clear hb hbox hg; have hnb78 := NB229_199.out; have hnc78 := NB199_229.out; have hnb79 := NB229_0.out; have hnc79 := NB0_229.out; have q80_0 : w77.cell? ⟨gb229, 0, none⟩ = some (.int .i64 0) := (Qb BK229.out 0).trans rfl; have q80_1 : w77.cell? ⟨gb229, 1, none⟩ = some (.int .i64 0) := (Qb BK229.out 1).trans rfl; have q80_2 : w77.cell? ⟨gb229, 2, none⟩ = some (.int .i64 0) := (Qb BK229.out 2).trans rfl; have q80_3 : w77.cell? ⟨gb229, 3, none⟩ = some (.int .i64 0) := (Qb BK229.out 3).trans rfl; have q80_4 : w77.cell? ⟨gb229, 4, none⟩ = some (.slice none 0 0) := (Qb BK229.out 4).trans rfl; have u80_0 := Qc BK229.out 0; have u80_1 := Qc BK229.out 1; have u80_2 := Qc BK229.out 2; have u80_3 := Qc BK229.out 3; have u80_4 := Qc BK229.out 4))
    (try simp only [Zg, Qe, Qj, Qk])
    go_cut [56] (fun v56 wc => ∃ (kq : Nat) (x56_74 : Bool), v56 = .bool x56_74 ∧ Zn (spec_l10Draw.j2 kq a1 x56_74 s0_0 t227 t228 (Qq (8 + t226)) 0 0 0 = some (r1, r2, r3, r4, r5, r6, r7)) ∧ Zn (kq ≤ kj2) ∧ Zn (wc.heap[gb199]? = some (.cells #[.int .i64 0, .int .i64 0, .int .i64 0, .int .i64 0, (.slice none 0 0)] 32 (0, 0))) ∧ Zn (wc.heap[gb229]? = some (.cells #[.int .i64 (Qq (8 + t226)), .int .i64 0, .int .i64 0, .int .i64 0, (.slice none 0 0)] 32 (0, 0))) ∧ Zn (IsS99 w0 wc g s0_0 t227 t228) ∧ Zn (Xx w wc g none) ∧ Zn (Below w0.heap.size w0 wc))
    case first =>
     have H := HC75.out
     clear HC75
     by_cases c81 : (Qq (8 + t226)) = 11
     ·rw [if_pos c81] at H
      have c81b0 : ((Qq (8 + t226)) == 11) = true := beq_iff_eq.mpr c81
      have c81b1 : ((Qq (8 + t226)) != 11) = false := bne_eq_false_iff_eq.mpr c81
      clear c81
      (first | rw [c81b0] | (simp only [i64_w, i32_w]; rw [c81b0]) | skip)
      have H' := Qa H
      clear H
      have hnb82 := NB229_199.out
      have hnc82 := NB199_229.out
      have hnb83 := NB229_0.out
      have hnc83 := NB0_229.out
      have q84_0 : w77.cell? ⟨gb229, 0, none⟩ = some (.int .i64 0) := (Qb BK229.out 0).trans rfl
      have q84_1 : w77.cell? ⟨gb229, 1, none⟩ = some (.int .i64 0) := (Qb BK229.out 1).trans rfl
      have q84_2 : w77.cell? ⟨gb229, 2, none⟩ = some (.int .i64 0) := (Qb BK229.out 2).trans rfl
      have q84_3 : w77.cell? ⟨gb229, 3, none⟩ = some (.int .i64 0) := (Qb BK229.out 3).trans rfl
      have q84_4 : w77.cell? ⟨gb229, 4, none⟩ = some (.slice none 0 0) := (Qb BK229.out 4).trans rfl
      have u84_0 := Qc BK229.out 0
      have u84_1 := Qc BK229.out 1
      have u84_2 := Qc BK229.out 2
      have u84_3 := Qc BK229.out 3
      have u84_4 := Qc BK229.out 4
      go_wp2
      go_meet
      case rel => exact ⟨_, (true), (by first | rfl | (simp; done) | (simp [*]; done) | (simp; rw [Qx]; simp; done)), H', ⟨by have := HJ2.out; first | omega | exact Zv _⟩, ⟨by (iterate 5 ((with_reducible repeat (first | refine Qg ?_ _ | refine Qh ?_ | refine Qf ?_ _)); refine blk_far ?_ NB199_229.out _)); (with_reducible repeat (first | refine Qg ?_ _ | refine Qh ?_ | refine Qf ?_ _)); exact BK199.out⟩, ⟨by (with_reducible repeat (first | refine Qg ?_ _ | refine Qh ?_ | refine Qf ?_ _)); refine Qr (cs := #[.int .i64 (Qq (8 + t226)), .int .i64 0, .int .i64 0, .int .i64 0, .slice none 0 0]) ?_ 4 _ rfl; (with_reducible repeat (first | refine Qg ?_ _ | refine Qh ?_ | refine Qf ?_ _)); refine Qr (cs := #[.int .i64 (Qq (8 + t226)), .int .i64 0, .int .i64 0, .int .i64 0, .slice none 0 0]) ?_ 3 _ rfl; (with_reducible repeat (first | refine Qg ?_ _ | refine Qh ?_ | refine Qf ?_ _)); refine Qr (cs := #[.int .i64 (Qq (8 + t226)), .int .i64 0, .int .i64 0, .int .i64 0, .slice none 0 0]) ?_ 2 _ rfl; (with_reducible repeat (first | refine Qg ?_ _ | refine Qh ?_ | refine Qf ?_ _)); refine Qr (cs := #[.int .i64 (Qq (8 + t226)), .int .i64 0, .int .i64 0, .int .i64 0, .slice none 0 0]) ?_ 1 _ rfl; (with_reducible repeat (first | refine Qg ?_ _ | refine Qh ?_ | refine Qf ?_ _)); refine Qr (cs := #[.int .i64 0, .int .i64 0, .int .i64 0, .int .i64 0, .slice none 0 0]) ?_ 0 _ rfl; (with_reducible repeat (first | refine Qg ?_ _ | refine Qh ?_ | refine Qf ?_ _)); exact BK229.out⟩, ⟨by repeat (first | (with_reducible first | exact HI0.out | apply IsS99.alloc | apply IsS99.drewN | apply IsS99.drew | apply IsS99.set_1 | apply IsS99.set_2 | refine IsS99.far ?_ NB0_199.out _ | refine IsS99.far ?_ NB0_229.out _) | exact HI0.out)⟩, ⟨by repeat (first | (with_reducible first | exact HK.out | apply Qz | apply Zd | apply Zh | apply Ze | refine Zk ?_ GW199.out _ | refine Zk ?_ GW229.out _) | exact HK.out)⟩, ⟨Bb3 HB.out (IsS99.ge HI0.out) GE199.out GE229.out⟩⟩
     ·rw [if_neg c81] at H
      have c81b0 : ((Qq (8 + t226)) == 11) = false := beq_eq_false_iff_ne.mpr c81
      have c81b1 : ((Qq (8 + t226)) != 11) = true := bne_iff_ne.mpr c81
      (first | rw [c81b0] | (simp only [i64_w, i32_w]; rw [c81b0]) | skip)
      have H' := Qa H
      clear H
      have hnb85 := NB229_199.out
      have hnc85 := NB199_229.out
      have hnb86 := NB229_0.out
      have hnc86 := NB0_229.out
      have q87_0 : w77.cell? ⟨gb229, 0, none⟩ = some (.int .i64 0) := (Qb BK229.out 0).trans rfl
      have q87_1 : w77.cell? ⟨gb229, 1, none⟩ = some (.int .i64 0) := (Qb BK229.out 1).trans rfl
      have q87_2 : w77.cell? ⟨gb229, 2, none⟩ = some (.int .i64 0) := (Qb BK229.out 2).trans rfl
      have q87_3 : w77.cell? ⟨gb229, 3, none⟩ = some (.int .i64 0) := (Qb BK229.out 3).trans rfl
      have q87_4 : w77.cell? ⟨gb229, 4, none⟩ = some (.slice none 0 0) := (Qb BK229.out 4).trans rfl
      have u87_0 := Qc BK229.out 0
      have u87_1 := Qc BK229.out 1
      have u87_2 := Qc BK229.out 2
      have u87_3 := Qc BK229.out 3
      have u87_4 := Qc BK229.out 4
      go_wp2
      go_meet
      case rel => exact ⟨_, (((Qq (8 + t226)) == 12)), (by first | rfl | (simp; done) | (simp [*]; done) | (simp; rw [Qx]; simp; done)), H', ⟨by have := HJ2.out; first | omega | exact Zv _⟩, ⟨by (iterate 5 ((with_reducible repeat (first | refine Qg ?_ _ | refine Qh ?_ | refine Qf ?_ _)); refine blk_far ?_ NB199_229.out _)); (with_reducible repeat (first | refine Qg ?_ _ | refine Qh ?_ | refine Qf ?_ _)); exact BK199.out⟩, ⟨by (with_reducible repeat (first | refine Qg ?_ _ | refine Qh ?_ | refine Qf ?_ _)); refine Qr (cs := #[.int .i64 (Qq (8 + t226)), .int .i64 0, .int .i64 0, .int .i64 0, .slice none 0 0]) ?_ 4 _ rfl; (with_reducible repeat (first | refine Qg ?_ _ | refine Qh ?_ | refine Qf ?_ _)); refine Qr (cs := #[.int .i64 (Qq (8 + t226)), .int .i64 0, .int .i64 0, .int .i64 0, .slice none 0 0]) ?_ 3 _ rfl; (with_reducible repeat (first | refine Qg ?_ _ | refine Qh ?_ | refine Qf ?_ _)); refine Qr (cs := #[.int .i64 (Qq (8 + t226)), .int .i64 0, .int .i64 0, .int .i64 0, .slice none 0 0]) ?_ 2 _ rfl; (with_reducible repeat (first | refine Qg ?_ _ | refine Qh ?_ | refine Qf ?_ _)); refine Qr (cs := #[.int .i64 (Qq (8 + t226)), .int .i64 0, .int .i64 0, .int .i64 0, .slice none 0 0]) ?_ 1 _ rfl; (with_reducible repeat (first | refine Qg ?_ _ | refine Qh ?_ | refine Qf ?_ _)); refine Qr (cs := #[.int .i64 0, .int .i64 0, .int .i64 0, .int .i64 0, .slice none 0 0]) ?_ 0 _ rfl; (with_reducible repeat (first | refine Qg ?_ _ | refine Qh ?_ | refine Qf ?_ _)); exact BK229.out⟩, ⟨by repeat (first | (with_reducible first | exact HI0.out | apply IsS99.alloc | apply IsS99.drewN | apply IsS99.drew | apply IsS99.set_1 | apply IsS99.set_2 | refine IsS99.far ?_ NB0_199.out _ | refine IsS99.far ?_ NB0_229.out _) | exact HI0.out)⟩, ⟨by repeat (first | (with_reducible first | exact HK.out | apply Qz | apply Zd | apply Zh | apply Ze | refine Zk ?_ GW199.out _ | refine Zk ?_ GW229.out _) | exact HK.out)⟩, ⟨Bb3 HB.out (IsS99.ge HI0.out) GE199.out GE229.out⟩⟩
    case rest =>
     clear HC75
     try clear c1
     try clear c2
     try clear p2
     try clear c3
     try clear c4
     try clear c5
     try clear c5b0
     try clear c6
     try clear p6
     try clear c7
     try clear c8
     try clear c9
     try clear c14
     try clear c15
     try clear c17
     try clear c17b0
     try clear c20
     try clear c21
     try clear c23
     try clear c23b0
     try clear c25
     try clear c25b0
     try clear c25b1
     try clear c28
     try clear c29
     try clear c33
     try clear c35
     try clear c35b0
     try clear c35b1
     try clear c38
     try clear c39
     try clear c43
     try clear c46
     try clear c47
     try clear c49
     try clear c51
     try clear c51b0
     try clear c51b1
     try clear c53
     try clear c54
     try clear c58
     try clear c60
     try clear c60b0
     try clear c60b1
     try clear c62
     try clear c63
     try clear p64
     try clear c67
     try clear c69
     try clear c70
     try clear c72
     try clear c78
     try clear c79
     try clear c81
     try clear c81b0
     try clear c81b1
     try clear c82
     try clear c83
     try clear c85
     try clear c86
     try clear q16_0
     try clear q16_1
     try clear q16_2
     try clear q16_3
     try clear q16_4
     try clear q22_0
     try clear q22_1
     try clear q22_2
     try clear q22_3
     try clear q22_4
     try clear q30_0
     try clear q30_1
     try clear q30_2
     try clear q30_3
     try clear q30_4
     try clear q32_0
     try clear q32_1
     try clear q32_2
     try clear q32_3
     try clear q32_4
     try clear q34_0
     try clear q34_1
     try clear q34_2
     try clear q34_3
     try clear q34_4
     try clear q40_0
     try clear q40_1
     try clear q40_2
     try clear q40_3
     try clear q40_4
     try clear q42_0
     try clear q42_1
     try clear q42_2
     try clear q42_3
     try clear q42_4
     try clear q44_0
     try clear q44_1
     try clear q44_2
     try clear q44_3
     try clear q44_4
     try clear q48_0
     try clear q48_1
     try clear q48_2
     try clear q48_3
     try clear q48_4
     try clear q50_0
     try clear q50_1
     try clear q50_2
     try clear q50_3
     try clear q50_4
     try clear q55_0
     try clear q55_1
     try clear q55_2
     try clear q55_3
     try clear q55_4
     try clear q57_0
     try clear q57_1
     try clear q57_2
     try clear q57_3
     try clear q57_4
     try clear q59_0
     try clear q59_1
     try clear q59_2
     try clear q59_3
     try clear q59_4
     try clear q64_0
     try clear q64_1
     try clear q64_2
     try clear q64_3
     try clear q64_4
     try clear q66_0
     try clear q66_1
     try clear q66_2
     try clear q66_3
     try clear q66_4
     try clear q68_0
     try clear q68_1
     try clear q68_2
     try clear q68_3
     try clear q68_4
     try clear q71_0
     try clear q71_1
     try clear q71_2
     try clear q71_3
     try clear q71_4
     try clear q73_0
     try clear q73_1
     try clear q73_2
     try clear q73_3
     try clear q73_4
     try clear q80_0
     try clear q80_1
     try clear q80_2
     try clear q80_3
     try clear q80_4
     try clear q84_0
     try clear q84_1
     try clear q84_2
     try clear q84_3
     try clear q84_4
     try clear q87_0
     try clear q87_1
     try clear q87_2
     try clear q87_3
     try clear q87_4
     try clear u16_0
     try clear u16_1
     try clear u16_2
     try clear u16_3
     try clear u16_4
     try clear u22_0
     try clear u22_1
     try clear u22_2
     try clear u22_3
     try clear u22_4
     try clear u30_0
     try clear u30_1
     try clear u30_2
     try clear u30_3
     try clear u30_4
     try clear u32_0
     try clear u32_1
     try clear u32_2
     try clear u32_3
     try clear u32_4
     try clear u34_0
     try clear u34_1
     try clear u34_2
     try clear u34_3
     try clear u34_4
     try clear u40_0
     try clear u40_1
     try clear u40_2
     try clear u40_3
     try clear u40_4
     try clear u42_0
     try clear u42_1
     try clear u42_2
     try clear u42_3
     try clear u42_4
     try clear u44_0
     try clear u44_1
     try clear u44_2
     try clear u44_3
     try clear u44_4
     try clear u48_0
     try clear u48_1
     try clear u48_2
     try clear u48_3
     try clear u48_4
     try clear u50_0
     try clear u50_1
     try clear u50_2
     try clear u50_3
     try clear u50_4
     try clear u55_0
     try clear u55_1
     try clear u55_2
     try clear u55_3
     try clear u55_4
     try clear u57_0
     try clear u57_1
     try clear u57_2
     try clear u57_3
     try clear u57_4
     try clear u59_0
     try clear u59_1
     try clear u59_2
     try clear u59_3
     try clear u59_4
     try clear u64_0
     try clear u64_1
     try clear u64_2
     try clear u64_3
     try clear u64_4
     try clear u66_0
     try clear u66_1
     try clear u66_2
     try clear u66_3
     try clear u66_4
     try clear u68_0
     try clear u68_1
     try clear u68_2
     try clear u68_3
     try clear u68_4
     try clear u71_0
     try clear u71_1
     try clear u71_2
     try clear u71_3
     try clear u71_4
     try clear u73_0
     try clear u73_1
     try clear u73_2
     try clear u73_3
     try clear u73_4
     try clear u80_0
     try clear u80_1
     try clear u80_2
     try clear u80_3
     try clear u80_4
     try clear u84_0
     try clear u84_1
     try clear u84_2
     try clear u84_3
     try clear u84_4
     try clear u87_0
     try clear u87_1
     try clear u87_2
     try clear u87_3
     try clear u87_4
     try clear p2
     try clear p6
     obtain ⟨kq, x56_74, rfl, HA, HJ74, BK199, BK229, HI0, HK, HB⟩ := hcut
     cases kq with
     | zero => exact absurd HA.out (by simp [spec_l10Draw.j2])
     | succ kj74 =>
      have H := HA.out
      clear HA
      simp only [spec_l10Draw.j2] at H
      have HC88 := Qa H
      clear H
      go_upto_if 56 with (fail)
      go_cut [] (fun wc => ∃ (kq : Nat) (x1001_87 : Int) (x1002_87 : Int) (x230002_87 : Int), Zn (spec_l10Draw.j3 kq a1 s0_0 x1001_87 x1002_87 (Qq (8 + t226)) 0 x230002_87 0 = some (r1, r2, r3, r4, r5, r6, r7)) ∧ Zn (kq ≤ kj74) ∧ Zn (wc.heap[gb199]? = some (.cells #[.int .i64 0, .int .i64 0, .int .i64 0, .int .i64 0, (.slice none 0 0)] 32 (0, 0))) ∧ Zn (wc.heap[gb229]? = some (.cells #[.int .i64 (Qq (8 + t226)), .int .i64 0, .int .i64 x230002_87, .int .i64 0, (.slice none 0 0)] 32 (0, 0))) ∧ Zn (IsS99 w0 wc g s0_0 x1001_87 x1002_87) ∧ Zn (Xx w wc g none) ∧ Zn (Below w0.heap.size w0 wc))
      case first =>
       have H := HC88.out
       clear HC88
       by_cases c89 : x56_74 = true
       ·subst c89
        have H1 : ((spec_l1Below.f s0_0 t227 t228 3).bind fun bt230 => (spec_l10Draw.j3 kj74 a1 s0_0 bt230.2.1 bt230.2.2 (Qq (8 + t226)) 0 bt230.1 0)) = some (r1, r2, r3, r4, r5, r6, r7) := by rw [if_pos rfl] at H; exact H
        clear H
        have H := H1
        clear H1
        replace H := Qi.mp H
        obtain ⟨⟨t230, t231, t232⟩, A900, H⟩ := H
        replace H : (spec_l10Draw.j3 kj74 a1 s0_0 t231 t232 (Qq (8 + t226)) 0 t230 0) = some (r1, r2, r3, r4, r5, r6, r7) := H
        have A90 := Qa A900
        clear A900
        have H' := Qa H
        clear H
        go_wp2_with (first | ((with_reducible refine Zf (f := 70) rfl ?_); refine goesL_ (some 58) rfl rfl Try.func70 (by kernel_rfl) rfl #[.pointer (some ⟨g, 0, none⟩), .int .i64 3] rfl (by (try simp only [Qm, Qt, Zb]); first | done | rfl | (simp only [Qn, Qo]; rfl)) ?_; (with_reducible refine (spec_l1Below.calls g s0_0 t227 t228 3 t230 t231 t232 w0 _ ?side1 ?side2 A90.out).mono ?_); (case side1 => repeat (first | (with_reducible first | exact HI0.out | apply IsS99.alloc | apply IsS99.drewN | apply IsS99.drew | apply IsS99.set_1 | apply IsS99.set_2 | refine IsS99.far ?_ NB0_199.out _ | refine IsS99.far ?_ NB0_229.out _) | exact HI0.out)); (case side2 => repeat (first | (with_reducible first | exact HB.out | apply Za | apply Qp | apply Qu | refine Ql ?_ (IsS99.ge HI0.out) | refine Ql ?_ GE199.out | refine Ql ?_ GE229.out) | exact HB.out)); rintro e w91 ⟨rfl, hi, hb, hk⟩; refine ⟨_, rfl, ?_⟩; replace BK199 := Qa (Zr hk (g' := gb199) (o := .cells #[.int .i64 0, .int .i64 0, .int .i64 0, .int .i64 0, .slice none 0 0] 32 (0, 0)) (Ba BK199.out) NB199_0.out (by simp)); replace BK229 := Qa (Zr hk (g' := gb229) (o := .cells #[.int .i64 (Qq (8 + t226)), .int .i64 0, .int .i64 0, .int .i64 0, .slice none 0 0] 32 (0, 0)) (Ba BK229.out) NB229_0.out (by simp)); replace HK := Qa (Xx.trans (by repeat (first | (with_reducible first | exact HK.out | apply Qz | apply Zd | apply Zh | apply Ze | refine Zk ?_ GW199.out _ | refine Zk ?_ GW229.out _) | exact HK.out)) hk (.inl rfl)); replace HB := Qa (hb); replace HI0 := Qa (hi); (try clear hb); (try clear hb2); (try clear hk); (try clear hi); have hnb92 := NB229_199.out; have hnc92 := NB199_229.out; have hnb93 := NB229_0.out; have hnc93 := NB0_229.out; have q94_0 : w91.cell? ⟨gb229, 0, none⟩ = some (.int .i64 (Qq (8 + t226))) := (Qb BK229.out 0).trans rfl; have q94_1 : w91.cell? ⟨gb229, 1, none⟩ = some (.int .i64 0) := (Qb BK229.out 1).trans rfl; have q94_2 : w91.cell? ⟨gb229, 2, none⟩ = some (.int .i64 0) := (Qb BK229.out 2).trans rfl; have q94_3 : w91.cell? ⟨gb229, 3, none⟩ = some (.int .i64 0) := (Qb BK229.out 3).trans rfl; have q94_4 : w91.cell? ⟨gb229, 4, none⟩ = some (.slice none 0 0) := (Qb BK229.out 4).trans rfl; have u94_0 := Qc BK229.out 0; have u94_1 := Qc BK229.out 1; have u94_2 := Qc BK229.out 2; have u94_3 := Qc BK229.out 3; have u94_4 := Qc BK229.out 4))
        go_meet
        case rel => exact ⟨_, (t231), (t232), (t230), H', ⟨by have := HJ2.out; have := HJ74.out; first | omega | exact Zv _⟩, ⟨by (with_reducible repeat (first | refine Qg ?_ _ | refine Qh ?_ | refine Qf ?_ _)); refine blk_far ?_ NB199_229.out _; (with_reducible repeat (first | refine Qg ?_ _ | refine Qh ?_ | refine Qf ?_ _)); exact BK199.out⟩, ⟨by (with_reducible repeat (first | refine Qg ?_ _ | refine Qh ?_ | refine Qf ?_ _)); refine Qr (cs := #[.int .i64 (Qq (8 + t226)), .int .i64 0, .int .i64 0, .int .i64 0, .slice none 0 0]) ?_ 2 _ rfl; (with_reducible repeat (first | refine Qg ?_ _ | refine Qh ?_ | refine Qf ?_ _)); exact BK229.out⟩, ⟨by repeat (first | (with_reducible first | exact HI0.out | apply IsS99.alloc | apply IsS99.drewN | apply IsS99.drew | apply IsS99.set_1 | apply IsS99.set_2 | refine IsS99.far ?_ NB0_199.out _ | refine IsS99.far ?_ NB0_229.out _) | exact HI0.out)⟩, ⟨by repeat (first | (with_reducible first | exact HK.out | apply Qz | apply Zd | apply Zh | apply Ze | refine Zk ?_ GW199.out _ | refine Zk ?_ GW229.out _) | exact HK.out)⟩, ⟨Bb3 HB.out (IsS99.ge HI0.out) GE199.out GE229.out⟩⟩
       ·replace c89 := Bool.eq_false_iff.mpr c89
        subst c89
        have H1 : (spec_l10Draw.j3 kj74 a1 s0_0 t227 t228 (Qq (8 + t226)) 0 0 0) = some (r1, r2, r3, r4, r5, r6, r7) := by rw [if_neg (show ¬ (false = true) by decide)] at H; exact H
        clear H
        have H := H1
        clear H1
        have H' := Qa H
        clear H
        go_wp2
        go_meet
        case rel => exact ⟨_, (t227), (t228), (0), H', ⟨by have := HJ2.out; have := HJ74.out; first | omega | exact Zv _⟩, ⟨Ba BK199.out⟩, ⟨Ba BK229.out⟩, ⟨by repeat (first | (with_reducible first | exact HI0.out | apply IsS99.alloc | apply IsS99.drewN | apply IsS99.drew | apply IsS99.set_1 | apply IsS99.set_2 | refine IsS99.far ?_ NB0_199.out _ | refine IsS99.far ?_ NB0_229.out _) | exact HI0.out)⟩, ⟨by repeat (first | (with_reducible first | exact HK.out | apply Qz | apply Zd | apply Zh | apply Ze | refine Zk ?_ GW199.out _ | refine Zk ?_ GW229.out _) | exact HK.out)⟩, ⟨Bb3 HB.out (IsS99.ge HI0.out) GE199.out GE229.out⟩⟩
      case rest =>
       clear HC88
       try clear c1
       try clear c2
       try clear p2
       try clear c3
       try clear c4
       try clear c5
       try clear c5b0
       try clear c6
       try clear p6
       try clear c7
       try clear c8
       try clear c9
       try clear c14
       try clear c15
       try clear c17
       try clear c17b0
       try clear c20
       try clear c21
       try clear c23
       try clear c23b0
       try clear c25
       try clear c25b0
       try clear c25b1
       try clear c28
       try clear c29
       try clear c33
       try clear c35
       try clear c35b0
       try clear c35b1
       try clear c38
       try clear c39
       try clear c43
       try clear c46
       try clear c47
       try clear c49
       try clear c51
       try clear c51b0
       try clear c51b1
       try clear c53
       try clear c54
       try clear c58
       try clear c60
       try clear c60b0
       try clear c60b1
       try clear c62
       try clear c63
       try clear p64
       try clear c67
       try clear c69
       try clear c70
       try clear c72
       try clear c78
       try clear c79
       try clear c81
       try clear c81b0
       try clear c81b1
       try clear c82
       try clear c83
       try clear c85
       try clear c86
       try clear c89
       try clear c92
       try clear c93
       try clear q16_0
       try clear q16_1
       try clear q16_2
       try clear q16_3
       try clear q16_4
       try clear q22_0
       try clear q22_1
       try clear q22_2
       try clear q22_3
       try clear q22_4
       try clear q30_0
       try clear q30_1
       try clear q30_2
       try clear q30_3
       try clear q30_4
       try clear q32_0
       try clear q32_1
       try clear q32_2
       try clear q32_3
       try clear q32_4
       try clear q34_0
       try clear q34_1
       try clear q34_2
       try clear q34_3
       try clear q34_4
       try clear q40_0
       try clear q40_1
       try clear q40_2
       try clear q40_3
       try clear q40_4
       try clear q42_0
       try clear q42_1
       try clear q42_2
       try clear q42_3
       try clear q42_4
       try clear q44_0
       try clear q44_1
       try clear q44_2
       try clear q44_3
       try clear q44_4
       try clear q48_0
       try clear q48_1
       try clear q48_2
       try clear q48_3
       try clear q48_4
       try clear q50_0
       try clear q50_1
       try clear q50_2
       try clear q50_3
       try clear q50_4
       try clear q55_0
       try clear q55_1
       try clear q55_2
       try clear q55_3
       try clear q55_4
       try clear q57_0
       try clear q57_1
       try clear q57_2
       try clear q57_3
       try clear q57_4
       try clear q59_0
       try clear q59_1
       try clear q59_2
       try clear q59_3
       try clear q59_4
       try clear q64_0
       try clear q64_1
       try clear q64_2
       try clear q64_3
       try clear q64_4
       try clear q66_0
       try clear q66_1
       try clear q66_2
       try clear q66_3
       try clear q66_4
       try clear q68_0
       try clear q68_1
       try clear q68_2
       try clear q68_3
       try clear q68_4
       try clear q71_0
       try clear q71_1
       try clear q71_2
       try clear q71_3
       try clear q71_4
       try clear q73_0
       try clear q73_1
       try clear q73_2
       try clear q73_3
       try clear q73_4
       try clear q80_0
       try clear q80_1
       try clear q80_2
       try clear q80_3
       try clear q80_4
       try clear q84_0
       try clear q84_1
       try clear q84_2
       try clear q84_3
       try clear q84_4
       try clear q87_0
       try clear q87_1
       try clear q87_2
       try clear q87_3
       try clear q87_4
       try clear q94_0
       try clear q94_1
       try clear q94_2
       try clear q94_3
       try clear q94_4
       try clear u16_0
       try clear u16_1
       try clear u16_2
       try clear u16_3
       try clear u16_4
       try clear u22_0
       try clear u22_1
       try clear u22_2
       try clear u22_3
       try clear u22_4
       try clear u30_0
       try clear u30_1
       try clear u30_2
       try clear u30_3
       try clear u30_4
       try clear u32_0
       try clear u32_1
       try clear u32_2
       try clear u32_3
       try clear u32_4
       try clear u34_0
       try clear u34_1
       try clear u34_2
       try clear u34_3
       try clear u34_4
       try clear u40_0
       try clear u40_1
       try clear u40_2
       try clear u40_3
       try clear u40_4
       try clear u42_0
       try clear u42_1
       try clear u42_2
       try clear u42_3
       try clear u42_4
       try clear u44_0
       try clear u44_1
       try clear u44_2
       try clear u44_3
       try clear u44_4
       try clear u48_0
       try clear u48_1
       try clear u48_2
       try clear u48_3
       try clear u48_4
       try clear u50_0
       try clear u50_1
       try clear u50_2
       try clear u50_3
       try clear u50_4
       try clear u55_0
       try clear u55_1
       try clear u55_2
       try clear u55_3
       try clear u55_4
       try clear u57_0
       try clear u57_1
       try clear u57_2
       try clear u57_3
       try clear u57_4
       try clear u59_0
       try clear u59_1
       try clear u59_2
       try clear u59_3
       try clear u59_4
       try clear u64_0
       try clear u64_1
       try clear u64_2
       try clear u64_3
       try clear u64_4
       try clear u66_0
       try clear u66_1
       try clear u66_2
       try clear u66_3
       try clear u66_4
       try clear u68_0
       try clear u68_1
       try clear u68_2
       try clear u68_3
       try clear u68_4
       try clear u71_0
       try clear u71_1
       try clear u71_2
       try clear u71_3
       try clear u71_4
       try clear u73_0
       try clear u73_1
       try clear u73_2
       try clear u73_3
       try clear u73_4
       try clear u80_0
       try clear u80_1
       try clear u80_2
       try clear u80_3
       try clear u80_4
       try clear u84_0
       try clear u84_1
       try clear u84_2
       try clear u84_3
       try clear u84_4
       try clear u87_0
       try clear u87_1
       try clear u87_2
       try clear u87_3
       try clear u87_4
       try clear u94_0
       try clear u94_1
       try clear u94_2
       try clear u94_3
       try clear u94_4
       try clear p2
       try clear p6
       try clear p64
       obtain ⟨kq, x1001_87, x1002_87, x230002_87, HA, HJ87, BK199, BK229, HI0, HK, HB⟩ := hcut
       cases kq with
       | zero => exact absurd HA.out (by simp [spec_l10Draw.j3])
       | succ kj87 =>
        have H := HA.out
        clear HA
        simp only [spec_l10Draw.j3] at H
        replace H := Qi.mp H
        obtain ⟨t233, A950, H⟩ := H
        replace H : (spec_l10Draw.l0 kj87 a1 t233 0 s0_0 x1001_87 x1002_87 (Qq (8 + t226)) 0 x230002_87 0 ([] : List (S32))) = some (r1, r2, r3, r4, r5, r6, r7) := H
        have A95 := Qa A950
        clear A950
        have H' := Qa H
        clear H
        have hnb96 := NB229_199.out
        have hnc96 := NB199_229.out
        have hnb97 := NB229_0.out
        have hnc97 := NB0_229.out
        have q98_0 : wc.cell? ⟨gb229, 0, none⟩ = some (.int .i64 (Qq (8 + t226))) := (Qb BK229.out 0).trans rfl
        have q98_1 : wc.cell? ⟨gb229, 1, none⟩ = some (.int .i64 0) := (Qb BK229.out 1).trans rfl
        have q98_2 : wc.cell? ⟨gb229, 2, none⟩ = some (.int .i64 x230002_87) := (Qb BK229.out 2).trans rfl
        have q98_3 : wc.cell? ⟨gb229, 3, none⟩ = some (.int .i64 0) := (Qb BK229.out 3).trans rfl
        have q98_4 : wc.cell? ⟨gb229, 4, none⟩ = some (.slice none 0 0) := (Qb BK229.out 4).trans rfl
        have u98_0 := Qc BK229.out 0
        have u98_1 := Qc BK229.out 1
        have u98_2 := Qc BK229.out 2
        have u98_3 := Qc BK229.out 3
        have u98_4 := Qc BK229.out 4
        go_wp2_with (first | ((with_reducible refine Zf (f := 41) rfl ?_); refine goesL_ (some 62) rfl rfl Try.func41 (by kernel_rfl) rfl #[.int .i64 (Qq (8 + t226))] rfl (by (try simp only [Qm, Qt, Zb]); first | done | rfl | (simp only [Qn, Qo]; rfl)) ?_; (with_reducible refine (spec_ArityOf.calls kj87 (Qq (8 + t226)) t233 _ A95.out).mono ?_); rintro e w' ⟨rfl, ⟨nd, rfl⟩⟩; refine ⟨_, rfl, ?_⟩))
        go_loopg [9] kj87 (fun kq v9 w' => ∃ (x9_4 : Int) (x1001_4 : Int) (x1002_4 : Int) (x230004_4 : List (S32)) (u230004 : Value), v9 = .int .i64 x9_4 ∧ Zn (spec_l10Draw.l0 kq a1 t233 x9_4 s0_0 x1001_4 x1002_4 (Qq (8 + t226)) 0 x230002_87 0 x230004_4 = some (r1, r2, r3, r4, r5, r6, r7)) ∧ Zn (kq ≤ kj87) ∧ Zn (Kd.R k32 32 w' w.heap.size (fun k_ => k_ ≠ gb199 ∧ k_ ≠ gb229) u230004 x230004_4) ∧ Zn (w'.heap[gb199]? = some (.cells #[.int .i64 0, .int .i64 0, .int .i64 0, .int .i64 0, (.slice none 0 0)] 32 (0, 0))) ∧ Zn (w'.heap[gb229]? = some (.cells #[.int .i64 (Qq (8 + t226)), .int .i64 0, .int .i64 x230002_87, .int .i64 0, u230004] 32 (0, 0))) ∧ Zn (IsS99 w0 w' g s0_0 x1001_4 x1002_4) ∧ Zn (Xx w w' g none) ∧ Zn (Below w0.heap.size w0 w'))
        case atStart => exact ⟨(0), (x1001_87), (x1002_87), (([] : List (S32))), (.slice none 0 0), (by first | rfl | (simp; done) | (simp [*]; done) | (simp; rw [Qx]; simp; done)), H', ⟨Nat.le_refl _⟩, ⟨by first | exact Kd.R_nil _ _ _ _ _ | exact Kd.N_nil _ _ _ _ _ | exact Kd.V_nil _ _ _ _ _ | exact Kd.Q_nil _ _ _ _ _ | exact Kd.S_nil _ _ _ _ _⟩, ⟨Ba BK199.out⟩, ⟨Ba BK229.out⟩, ⟨by repeat (first | (with_reducible first | exact HI0.out | apply IsS99.alloc | apply IsS99.drewN | apply IsS99.drew | apply IsS99.set_1 | apply IsS99.set_2 | refine IsS99.far ?_ NB0_199.out _ | refine IsS99.far ?_ NB0_229.out _) | exact HI0.out)⟩, ⟨by repeat (first | (with_reducible first | exact HK.out | apply Qz | apply Zd | apply Zh | apply Ze | refine Zk ?_ GW199.out _ | refine Zk ?_ GW229.out _) | exact HK.out)⟩, ⟨Bb3 HB.out (IsS99.ge HI0.out) GE199.out GE229.out⟩⟩
        case round =>
         clear H'
         try clear c1
         try clear c2
         try clear p2
         try clear c3
         try clear c4
         try clear c5
         try clear c5b0
         try clear c6
         try clear p6
         try clear c7
         try clear c8
         try clear c9
         try clear c14
         try clear c15
         try clear c17
         try clear c17b0
         try clear c20
         try clear c21
         try clear c23
         try clear c23b0
         try clear c25
         try clear c25b0
         try clear c25b1
         try clear c28
         try clear c29
         try clear c33
         try clear c35
         try clear c35b0
         try clear c35b1
         try clear c38
         try clear c39
         try clear c41
         try clear c43
         try clear c46
         try clear c47
         try clear c49
         try clear c51
         try clear c51b0
         try clear c51b1
         try clear c53
         try clear c54
         try clear c58
         try clear c60
         try clear c60b0
         try clear c60b1
         try clear c62
         try clear c63
         try clear p64
         try clear c67
         try clear c69
         try clear c70
         try clear c72
         try clear c78
         try clear c79
         try clear c81
         try clear c81b0
         try clear c81b1
         try clear c82
         try clear c83
         try clear c85
         try clear c86
         try clear c89
         try clear c92
         try clear c93
         try clear c96
         try clear c97
         try clear q16_0
         try clear q16_1
         try clear q16_2
         try clear q16_3
         try clear q16_4
         try clear q22_0
         try clear q22_1
         try clear q22_2
         try clear q22_3
         try clear q22_4
         try clear q30_0
         try clear q30_1
         try clear q30_2
         try clear q30_3
         try clear q30_4
         try clear q32_0
         try clear q32_1
         try clear q32_2
         try clear q32_3
         try clear q32_4
         try clear q34_0
         try clear q34_1
         try clear q34_2
         try clear q34_3
         try clear q34_4
         try clear q40_0
         try clear q40_1
         try clear q40_2
         try clear q40_3
         try clear q40_4
         try clear q42_0
         try clear q42_1
         try clear q42_2
         try clear q42_3
         try clear q42_4
         try clear q44_0
         try clear q44_1
         try clear q44_2
         try clear q44_3
         try clear q44_4
         try clear q48_0
         try clear q48_1
         try clear q48_2
         try clear q48_3
         try clear q48_4
         try clear q50_0
         try clear q50_1
         try clear q50_2
         try clear q50_3
         try clear q50_4
         try clear q55_0
         try clear q55_1
         try clear q55_2
         try clear q55_3
         try clear q55_4
         try clear q57_0
         try clear q57_1
         try clear q57_2
         try clear q57_3
         try clear q57_4
         try clear q59_0
         try clear q59_1
         try clear q59_2
         try clear q59_3
         try clear q59_4
         try clear q64_0
         try clear q64_1
         try clear q64_2
         try clear q64_3
         try clear q64_4
         try clear q66_0
         try clear q66_1
         try clear q66_2
         try clear q66_3
         try clear q66_4
         try clear q68_0
         try clear q68_1
         try clear q68_2
         try clear q68_3
         try clear q68_4
         try clear q71_0
         try clear q71_1
         try clear q71_2
         try clear q71_3
         try clear q71_4
         try clear q73_0
         try clear q73_1
         try clear q73_2
         try clear q73_3
         try clear q73_4
         try clear q80_0
         try clear q80_1
         try clear q80_2
         try clear q80_3
         try clear q80_4
         try clear q84_0
         try clear q84_1
         try clear q84_2
         try clear q84_3
         try clear q84_4
         try clear q87_0
         try clear q87_1
         try clear q87_2
         try clear q87_3
         try clear q87_4
         try clear q94_0
         try clear q94_1
         try clear q94_2
         try clear q94_3
         try clear q94_4
         try clear q98_0
         try clear q98_1
         try clear q98_2
         try clear q98_3
         try clear q98_4
         try clear u16_0
         try clear u16_1
         try clear u16_2
         try clear u16_3
         try clear u16_4
         try clear u22_0
         try clear u22_1
         try clear u22_2
         try clear u22_3
         try clear u22_4
         try clear u30_0
         try clear u30_1
         try clear u30_2
         try clear u30_3
         try clear u30_4
         try clear u32_0
         try clear u32_1
         try clear u32_2
         try clear u32_3
         try clear u32_4
         try clear u34_0
         try clear u34_1
         try clear u34_2
         try clear u34_3
         try clear u34_4
         try clear u40_0
         try clear u40_1
         try clear u40_2
         try clear u40_3
         try clear u40_4
         try clear u42_0
         try clear u42_1
         try clear u42_2
         try clear u42_3
         try clear u42_4
         try clear u44_0
         try clear u44_1
         try clear u44_2
         try clear u44_3
         try clear u44_4
         try clear u48_0
         try clear u48_1
         try clear u48_2
         try clear u48_3
         try clear u48_4
         try clear u50_0
         try clear u50_1
         try clear u50_2
         try clear u50_3
         try clear u50_4
         try clear u55_0
         try clear u55_1
         try clear u55_2
         try clear u55_3
         try clear u55_4
         try clear u57_0
         try clear u57_1
         try clear u57_2
         try clear u57_3
         try clear u57_4
         try clear u59_0
         try clear u59_1
         try clear u59_2
         try clear u59_3
         try clear u59_4
         try clear u64_0
         try clear u64_1
         try clear u64_2
         try clear u64_3
         try clear u64_4
         try clear u66_0
         try clear u66_1
         try clear u66_2
         try clear u66_3
         try clear u66_4
         try clear u68_0
         try clear u68_1
         try clear u68_2
         try clear u68_3
         try clear u68_4
         try clear u71_0
         try clear u71_1
         try clear u71_2
         try clear u71_3
         try clear u71_4
         try clear u73_0
         try clear u73_1
         try clear u73_2
         try clear u73_3
         try clear u73_4
         try clear u80_0
         try clear u80_1
         try clear u80_2
         try clear u80_3
         try clear u80_4
         try clear u84_0
         try clear u84_1
         try clear u84_2
         try clear u84_3
         try clear u84_4
         try clear u87_0
         try clear u87_1
         try clear u87_2
         try clear u87_3
         try clear u87_4
         try clear u94_0
         try clear u94_1
         try clear u94_2
         try clear u94_3
         try clear u94_4
         try clear u98_0
         try clear u98_1
         try clear u98_2
         try clear u98_3
         try clear u98_4
         try clear p2
         try clear p6
         try clear p64
         obtain ⟨x9_4, x1001_4, x1002_4, x230004_4, u230004, rfl, HA, HK4, HO_230004, BK199, BK229, HI0, HK, HB⟩ := hrel
         cases gk with
         | zero => exact absurd HA.out (by simp [spec_l10Draw.l0])
         | succ k4 =>
          have H := HA.out
          clear HA
          simp only [spec_l10Draw.l0] at H
          by_cases c99 : x9_4 < t233
          ·rw [if_pos c99] at H
           have c99b0 : decide (x9_4 < t233) = true := decide_eq_true c99
           clear c99
           replace H := Qi.mp H
           obtain ⟨⟨t234, t235, t236, t237, t238, t241, t242⟩, A1000, H⟩ := H
           replace H : (if x230004_4.length < 2513169434916 then (spec_l10Draw.l0 k4 a1 t233 (Qq (x9_4 + 1)) s0_0 t241 t242 (Qq (8 + t226)) 0 x230002_87 0 (x230004_4 ++ [(⟨t234, t235, t236, t237, t238⟩ : S32)])) else (none)) = some (r1, r2, r3, r4, r5, r6, r7) := H
           have A100 := Qa A1000
           clear A1000
           by_cases c101 : x230004_4.length < 2513169434916
           ·rw [if_pos c101] at H
            have LMc101 := Qa c101
            clear c101
            obtain ⟨y243, hy243⟩ : ∃ y_ : List (S32), y_ = (x230004_4 ++ [(⟨t234, t235, t236, t237, t238⟩ : S32)]) := ⟨_, rfl⟩
            replace H : (spec_l10Draw.l0 k4 a1 t233 (Qq (x9_4 + 1)) s0_0 t241 t242 (Qq (8 + t226)) 0 x230002_87 0 y243) = some (r1, r2, r3, r4, r5, r6, r7) := by first | (rw [hy243]; with_reducible exact H) | (have H2_ := (Option.bind_some _ _).symm.trans H; rw [hy243]; with_reducible exact H2_) | (have H2_ := (Option.bind_some _ _).symm.trans H; with_reducible exact H2_) | with_reducible exact H | (rw [hy243]; exact H) | exact H
            have Ny243 := Qa hy243
            clear hy243
            have H' := Qa H
            clear H
            try go_wp2
            replace HO_230004 := Qa (Kd.R_drew HO_230004.out)
            replace BK199 := Qa (Qh BK199.out)
            replace BK229 := Qa (Qh BK229.out)
            replace HI0 := Qa (IsS99.drew HI0.out)
            replace HK := Qa (Zh HK.out)
            replace HB := Qa (Qu HB.out)
            refine start_ (n := 10) (S := fun w' => w'.cell? ⟨gb229, 0, none⟩ = some (.int .i64 (Qq (8 + t226))) ∧ w'.cell? ⟨gb229, 1, none⟩ = some (.int .i64 0) ∧ w'.cell? ⟨gb229, 2, none⟩ = some (.int .i64 x230002_87) ∧ w'.cell? ⟨gb229, 3, none⟩ = some (.int .i64 0) ∧ w'.cell? ⟨gb229, 4, none⟩ = some (u230004)) (ds := [9]) #[false, false, false, false, false, false, false, false, false, false] (by kernel_rfl) rfl rfl ⟨(Qb BK229.out 0).trans rfl, (Qb BK229.out 1).trans rfl, (Qb BK229.out 2).trans rfl, (Qb BK229.out 3).trans rfl, (Qb BK229.out 4).trans rfl⟩ (fun hHeld => ?_); refine with_tabW spec_l10Draw.tab18 spec_l10Draw.bits18 (fun HT_ HW_ => ?_)
            generalize wr.drew = w102 at HO_230004 BK199 BK229 HI0 HK HB hHeld ⊢
            refine pure_ (i := 0) (N := some 68) (v := ?_) (a' := ?_) #[true, false, false, false, false, false, false, false, false, false] rfl rfl (any_of HT_.out (by kernel_rfl)) (fun _ _ _ h => h) (Or.inl ⟨by rfl, ?_⟩) ?_ ?_
            rotate_left
            ·intro w'
             go_simp
             with_reducible rfl
            rotate_left
            ·simp only [Zg, Qe, Qj, Qk, i64_w, i32_w]
             rfl
            refine pure_ (i := 2) (N := some 70) (v := ?_) (a' := ?_) #[true, false, true, false, false, false, false, false, false, false] rfl rfl (any_of HT_.out (by kernel_rfl)) (fun _ _ _ h => h) (Or.inl ⟨by rfl, ?_⟩) ?_ ?_
            rotate_left
            ·intro w'
             go_simp
             with_reducible rfl
            rotate_left
            ·simp only [Zg, Qe, Qj, Qk, i64_w, i32_w]
             rfl
            refine pure_ (i := 3) (N := some 71) (v := ?_) (a' := ?_) #[true, false, true, true, false, false, false, false, false, false] rfl rfl (any_of HT_.out (by kernel_rfl)) (fun _ _ _ h => h) (Or.inl ⟨by rfl, ?_⟩) ?_ ?_
            rotate_left
            ·intro w'
             go_simp
             with_reducible rfl
            rotate_left
            ·simp only [Zg, Qe, Qj, Qk, i64_w, i32_w]
             rfl
            refine pure_ (i := 4) (N := some 72) (v := ?_) (a' := ?_) #[true, false, true, true, true, false, false, false, false, false] rfl rfl (any_of HT_.out (by kernel_rfl)) (fun _ _ _ h => h) (Or.inl ⟨by rfl, ?_⟩) ?_ ?_
            rotate_left
            ·intro w'
             go_simp
             with_reducible rfl
            rotate_left
            ·simp only [Zg, Qe, Qj, Qk, i64_w, i32_w]
             rfl
            refine take_ (i := 1) (N := some 69) (v := ?_) (a' := ?_) #[true, true, true, true, true, false, false, false, false, false] rfl rfl (take_ofW HT_.out HW_.out (by kernel_rfl)) (fun _ _ _ h => h) (Or.inl ⟨by rfl, ?_⟩) hHeld ?_ ?_
            rotate_left
            ·rintro w' ⟨s0, s1, s2, s3, s4⟩
             go_simp
             with_reducible rfl
            rotate_left
            ·simp only [Zg, Qe, Qj, Qk, i64_w, i32_w]
             rfl
            refine one_ (i := 5) (N := some 73) #[true, true, true, true, true, true, false, false, false, false] rfl rfl (one_of HT_.out (by kernel_rfl)) (by decide) (fun K hK => ?_)
            refine goes_ Try.func85 (by kernel_rfl) rfl #[.pointer (some ⟨g, 0, none⟩), .int .i64 (Qq (a1 - 1))] (by rfl) rfl rfl (by (try simp only [Qm, Qt, Zb]); first | done | rfl | (simp only [Qn, Qo]; rfl)) ?_
            with_reducible refine (ih k4 (by have := HJ2.out; have := HJ74.out; have := HJ87.out; have := HK4.out; omega) g s0_0 x1001_4 x1002_4 (Qq (a1 - 1)) t234 t235 t236 t237 t238 t241 t242 w0 _ ?side1 ?side2 A100.out).mono ?_
            (case side1 => repeat (first | (with_reducible first | exact HI0.out | apply IsS99.alloc | apply IsS99.drewN | apply IsS99.drew | apply IsS99.set_1 | apply IsS99.set_2 | refine IsS99.far ?_ NB0_199.out _ | refine IsS99.far ?_ NB0_229.out _) | exact HI0.out))
            (case side2 => repeat (first | (with_reducible first | exact HB.out | apply Za | apply Qp | apply Qu | refine Ql ?_ (IsS99.ge HI0.out) | refine Ql ?_ GE199.out | refine Ql ?_ GE229.out) | exact HB.out))
            rintro e w103 ⟨v239, rfl, ho0, hi, hb, hk⟩
            refine ⟨_, rfl, ?_⟩
            have HO240 := Qa (Kd.R_lower (Kd.R_newB (Kd.R_newB (Kd.R_new' ho0 (Kd.R_lt (Br HO_230004.out))) (g := gb199) (o := .cells #[.int .i64 0, .int .i64 0, .int .i64 0, .int .i64 0, .slice none 0 0] 32 (0, 0)) (Ba BK199.out)) (g := gb229) (o := .cells #[.int .i64 (Qq (8 + t226)), .int .i64 0, .int .i64 x230002_87, .int .i64 0, u230004] 32 (0, 0)) (Ba BK229.out)) (keep_size (w := w) (g := g) (row := none) (by repeat (first | (with_reducible first | exact HK.out | apply Qz | apply Zd | apply Zh | apply Ze | refine Zk ?_ GW199.out _ | refine Zk ?_ GW229.out _) | exact HK.out))))
            replace HO_230004 := Qa (Kd.R_mono (Kd.R_told (Kd.R_oldK (IsS99.apart (show IsS99 w0 _ g s0_0 x1001_4 x1002_4 from by repeat (first | (with_reducible first | exact HI0.out | apply IsS99.alloc | apply IsS99.drewN | apply IsS99.drew | apply IsS99.set_1 | apply IsS99.set_2 | refine IsS99.far ?_ NB0_199.out _ | refine IsS99.far ?_ NB0_229.out _) | exact HI0.out)) (Br HO_230004.out) (by decide)) hk) (Kd.R_base ho0)) (fun _ h_ => h_.1))
            replace BK199 := Qa (Zr hk (g' := gb199) (o := .cells #[.int .i64 0, .int .i64 0, .int .i64 0, .int .i64 0, .slice none 0 0] 32 (0, 0)) (Ba BK199.out) NB199_0.out (by simp))
            replace BK229 := Qa (Zr hk (g' := gb229) (o := .cells #[.int .i64 (Qq (8 + t226)), .int .i64 0, .int .i64 x230002_87, .int .i64 0, u230004] 32 (0, 0)) (Ba BK229.out) NB229_0.out (by simp))
            replace HK := Qa (Xx.trans (by repeat (first | (with_reducible first | exact HK.out | apply Qz | apply Zd | apply Zh | apply Ze | refine Zk ?_ GW199.out _ | refine Zk ?_ GW229.out _) | exact HK.out)) hk (.inl rfl))
            replace HB := Qa (hb)
            replace HI0 := Qa (hi)
            (try clear hb)
            (try clear hb2)
            (try clear hk)
            (try clear hi)
            (try clear ho0)
            obtain ⟨Ao105, co105, eo105⟩ := Kd.R_slice HO240.out
            (first | subst eo105 | (injection eo105 with f1_ f2_ f3_; have f4_ := f1_.symm; have f5_ := f3_.symm; clear f1_ f2_ f3_; subst f4_; subst f5_))
            refine hK.out _ _ ⟨(Qb BK229.out 0).trans rfl, (Qb BK229.out 1).trans rfl, (Qb BK229.out 2).trans rfl, (Qb BK229.out 3).trans rfl, (Qb BK229.out 4).trans rfl⟩ (fun hHeld => ?_)
            clear hK K
            refine norm_ (a' := ?_) ?_ ?_
            rotate_left
            ·show Zg _ (some 73) _ = _
             simp only [Zg, Qe, Qj, Qk, i64_w, i32_w]
             rfl
            refine one_ (i := 6) (N := some 74) #[true, true, true, true, true, true, true, false, false, false] rfl rfl (one_of HT_.out (by kernel_rfl)) (by decide) (fun K hK => ?_)
            refine value_ (w1 := ?_) (v := ?_) (by rfl) rfl ?_ ?_
            rotate_left 2
            ·go_simp
             constructor
             ·rfl
             ·rfl
            refine hK.out _ _ ⟨(Qb (Qf BK229.out _) 0).trans rfl, (Qb (Qf BK229.out _) 1).trans rfl, (Qb (Qf BK229.out _) 2).trans rfl, (Qb (Qf BK229.out _) 3).trans rfl, (Qb (Qf BK229.out _) 4).trans rfl⟩ (fun hHeld => ?_)
            clear hK K
            refine norm_ (a' := ?_) ?_ ?_
            rotate_left
            ·show Zg _ (some 74) _ = _
             simp only [Zg, Qe, Qj, Qk, i64_w, i32_w]
             rfl
            refine one_ (i := 7) (N := some 75) #[true, true, true, true, true, true, true, true, false, false] rfl rfl (one_of HT_.out (by kernel_rfl)) (by decide) (fun K hK => ?_)
            refine Kd.R_append_step k32 w.heap.size (by rfl) (.tmp 69) (.tmp 74) 30 32 (.agg #[(.int .i64 0), (.int .i64 0), (.int .i64 0), (.int .i64 0), (.slice none 0 0)]) 56 rfl Try.underlying30 info32 rfl (by decide) (by omega) u230004 x230004_4 (⟨t234, t235, t236, t237, t238⟩ : S32) [.int .i64 t234, .int .i64 t235, .int .i64 t236, .int .i64 t237, .slice Ao105 t238.length co105] (fun k_ => k_ ≠ gb199 ∧ k_ ≠ gb229) (fun k_ => ((fun k_ => k_ ≠ gb199 ∧ k_ ≠ gb229)) k_ ∧ some k_ ≠ (u230004 : Value).ownBlock) rfl rfl ?aP (fun _ hk => hk) ?aF ?aO (Below.refl _ _) ?aS ?aL ?_
            (case aP => exact k32_mkM _ _ _ (⟨t234, t235, t236, t237, t238⟩ : S32) (Kd.R_mono (HO240.out) (fun k_ hk => ⟨⟨hk.1.2, hk.2⟩, hk.1.1.2⟩)))
            (case aF => exact (fun k_ hk => ⟨Kd.freshB (g := gb199) (o := .cells #[.int .i64 0, .int .i64 0, .int .i64 0, .int .i64 0, .slice none 0 0] 32 (0, 0)) (Ba BK199.out) k_ hk, Kd.freshB (g := gb229) (o := .cells #[.int .i64 (Qq (8 + t226)), .int .i64 0, .int .i64 x230002_87, .int .i64 0, u230004] 32 (0, 0)) (Ba BK229.out) k_ hk⟩))
            (case aO => exact (by (with_reducible repeat (first | apply Kd.R_alloc | apply Kd.R_drewN | apply Kd.R_drew)); exact Kd.R_mono HO_230004.out (fun _ hk => ⟨hk.1.1, hk.1.2⟩)))
            (case aS => exact (keep_size (w := w) (g := g) (row := none) (by repeat (first | (with_reducible first | exact HK.out | apply Qz | apply Zd | apply Zh | apply Ze | refine Zk ?_ GW199.out _ | refine Zk ?_ GW229.out _) | exact HK.out))))
            (case aL => have := LMc101.out; omega)
            intro v244 w104 ho hb hg hat
            rw [← Ny243.out] at ho
            replace BK199 := Qa (blk_grown (g := gb199) (o := .cells #[.int .i64 0, .int .i64 0, .int .i64 0, .int .i64 0, .slice none 0 0] 32 (0, 0)) (Ba BK199.out) hg (Kd.R_away HO_230004.out (fun _ hk => hk.1.1)))
            replace BK229 := Qa (blk_grown (g := gb229) (o := .cells #[.int .i64 (Qq (8 + t226)), .int .i64 0, .int .i64 x230002_87, .int .i64 0, u230004] 32 (0, 0)) (Ba BK229.out) hg (Kd.R_away HO_230004.out (fun _ hk => hk.1.2)))
            replace HB := Qa (below_weaken (Bb3 HB.out (IsS99.ge HI0.out) GE199.out GE229.out) HL.out hb)
            replace HI0 := Qa (IsS99.grown (by repeat (first | (with_reducible first | exact HI0.out | apply IsS99.alloc | apply IsS99.drewN | apply IsS99.drew | apply IsS99.set_1 | apply IsS99.set_2 | refine IsS99.far ?_ NB0_199.out _ | refine IsS99.far ?_ NB0_229.out _) | exact HI0.out)) hg (IsS99.own_ne HI0.out HO_230004.out (by decide)))
            replace HK := Qa (Xx.trans (by repeat (first | (with_reducible first | exact HK.out | apply Qz | apply Zd | apply Zh | apply Ze | refine Zk ?_ GW199.out _ | refine Zk ?_ GW229.out _) | exact HK.out)) (KeepBut.of_grown hg g) (Kd.R_base2 HO_230004.out))
            have HO245 := Qa (ho)
            clear HO_230004 HO240 ho hb hg hat
            obtain ⟨Ao106, co106, eo106⟩ := Kd.R_slice HO245.out
            (first | subst eo106 | (injection eo106 with f1_ f2_ f3_; have f4_ := f1_.symm; have f5_ := f3_.symm; clear f1_ f2_ f3_; subst f4_; subst f5_))
            refine hK.out _ _ ⟨(Qb BK229.out 0).trans rfl, (Qb BK229.out 1).trans rfl, (Qb BK229.out 2).trans rfl, (Qb BK229.out 3).trans rfl, (Qb BK229.out 4).trans rfl⟩ (fun hHeld => ?_)
            clear hK K
            refine norm_ (a' := ?_) ?_ ?_
            rotate_left
            ·show Zg _ (some 75) _ = _
             simp only [Zg, Qe, Qj, Qk, i64_w, i32_w]
             rfl
            refine pure_ (i := 8) (N := some 76) (v := ?_) (a' := ?_) #[true, true, true, true, true, true, true, true, true, false] rfl rfl (any_of HT_.out (by kernel_rfl)) (fun _ _ _ h => h) (Or.inl ⟨by rfl, ?_⟩) ?_ ?_
            rotate_left
            ·intro w'
             go_simp
             with_reducible rfl
            rotate_left
            ·simp only [Zg, Qe, Qj, Qk, i64_w, i32_w]
             rfl
            refine last_ (i := 9) (N := none) #[true, true, true, true, true, true, true, true, true, true] rfl rfl (one_of HT_.out (by kernel_rfl)) (by decide) (fun K hK => ?_)
            have hs107 : w104.cell? ⟨gb229, 4, none⟩ = some (u230004) := (Qb BK229.out 4).trans rfl
            have hfs107 := Qc BK229.out 4
            have hns107_0 := NB199_229.out
            have hms107_0 := NB229_199.out
            refine skip_ (w1 := ?_) (by rfl) rfl ?_ ?_
            rotate_left
            ·go_simp
             rfl
            refine hK.out _ _ ?_
            clear hK K
            refine done_ (done_of HT_.out (by kernel_rfl)) ?_
            try go_wp2
            go_roundg k4
            case measure => have := HJ2.out; have := HJ74.out; have := HJ87.out; have := HK4.out; omega
            case rel => exact ⟨(Qq (x9_4 + 1)), (t241), (t242), (y243), (.slice Ao106 y243.length co106), (by first | rfl | (simp; done) | (simp [*]; done) | (simp; rw [Qx]; simp; done)), H', ⟨by have := HJ2.out; have := HJ74.out; have := HJ87.out; have := HK4.out; omega⟩, ⟨by (with_reducible repeat (first | apply Kd.R_alloc | apply Kd.R_drewN | apply Kd.R_drew)); exact Kd.R_mono (Kd.R_far (p := ⟨gb229, 4, none⟩) (Kd.R_mono HO245.out (fun k_ hk => (⟨hk, hk.2⟩ : _ ∧ k_ ≠ gb229))) (fun _ hk => hk.2) (.slice Ao106 y243.length co106)) (fun _ hk => ⟨hk.1.1, hk.1.2⟩)⟩, ⟨by (with_reducible repeat (first | refine Qg ?_ _ | refine Qh ?_ | refine Qf ?_ _)); refine blk_far ?_ NB199_229.out _; (with_reducible repeat (first | refine Qg ?_ _ | refine Qh ?_ | refine Qf ?_ _)); exact BK199.out⟩, ⟨by (with_reducible repeat (first | refine Qg ?_ _ | refine Qh ?_ | refine Qf ?_ _)); refine Qr (cs := #[.int .i64 (Qq (8 + t226)), .int .i64 0, .int .i64 x230002_87, .int .i64 0, u230004]) ?_ 4 _ rfl; (with_reducible repeat (first | refine Qg ?_ _ | refine Qh ?_ | refine Qf ?_ _)); exact BK229.out⟩, ⟨by repeat (first | (with_reducible first | exact HI0.out | apply IsS99.alloc | apply IsS99.drewN | apply IsS99.drew | apply IsS99.set_1 | apply IsS99.set_2 | refine IsS99.far ?_ NB0_199.out _ | refine IsS99.far ?_ NB0_229.out _) | exact HI0.out)⟩, ⟨by repeat (first | (with_reducible first | exact HK.out | apply Qz | apply Zd | apply Zh | apply Ze | refine Zk ?_ GW199.out _ | refine Zk ?_ GW229.out _) | exact HK.out)⟩, ⟨Bb3 HB.out (IsS99.ge HI0.out) GE199.out GE229.out⟩⟩
           ·rw [if_neg c101] at H
            exact absurd H (by simp)
          ·rw [if_neg c99] at H
           have c99b0 : decide (x9_4 < t233) = false := decide_eq_false c99
           clear c99
           simp only [Xj, Prod.mk.injEq] at H
           obtain ⟨rfl, rfl, rfl, rfl, rfl, rfl, rfl⟩ := H
           have hnb108 := NB229_199.out
           have hnc108 := NB199_229.out
           have hnb109 := NB229_0.out
           have hnc109 := NB0_229.out
           have q110_0 : wr.cell? ⟨gb229, 0, none⟩ = some (.int .i64 (Qq (8 + t226))) := (Qb BK229.out 0).trans rfl
           have q110_1 : wr.cell? ⟨gb229, 1, none⟩ = some (.int .i64 0) := (Qb BK229.out 1).trans rfl
           have q110_2 : wr.cell? ⟨gb229, 2, none⟩ = some (.int .i64 x230002_87) := (Qb BK229.out 2).trans rfl
           have q110_3 : wr.cell? ⟨gb229, 3, none⟩ = some (.int .i64 0) := (Qb BK229.out 3).trans rfl
           have q110_4 : wr.cell? ⟨gb229, 4, none⟩ = some (u230004) := (Qb BK229.out 4).trans rfl
           have u110_0 := Qc BK229.out 0
           have u110_1 := Qc BK229.out 1
           have u110_2 := Qc BK229.out 2
           have u110_3 := Qc BK229.out 3
           have u110_4 := Qc BK229.out 4
           have hnb111 := NB199_0.out
           have hnc111 := NB0_199.out
           have q112_0 : wr.cell? ⟨gb199, 0, none⟩ = some (.int .i64 0) := (Qb BK199.out 0).trans rfl
           have q112_1 : wr.cell? ⟨gb199, 1, none⟩ = some (.int .i64 0) := (Qb BK199.out 1).trans rfl
           have q112_2 : wr.cell? ⟨gb199, 2, none⟩ = some (.int .i64 0) := (Qb BK199.out 2).trans rfl
           have q112_3 : wr.cell? ⟨gb199, 3, none⟩ = some (.int .i64 0) := (Qb BK199.out 3).trans rfl
           have q112_4 : wr.cell? ⟨gb199, 4, none⟩ = some (.slice none 0 0) := (Qb BK199.out 4).trans rfl
           have u112_0 := Qc BK199.out 0
           have u112_1 := Qc BK199.out 1
           have u112_2 := Qc BK199.out 2
           have u112_3 := Qc BK199.out 3
           have u112_4 := Qc BK199.out 4
           obtain ⟨Ao113, co113, eo113⟩ := Kd.R_slice HO_230004.out
           subst eo113
           go_wp2
           refine bodyPost_ret (results_cell_row rfl _ _ gb199 32 #[.int .i64 (Qq (8 + t226)), .int .i64 0, .int .i64 x230002_87, .int .i64 0, .slice Ao113 x230004_4.length co113] (0, 0) _ rfl (by (with_reducible repeat (first | refine Qg ?_ _ | refine Qh ?_ | refine Qf ?_ _)); refine Qr (cs := #[.int .i64 (Qq (8 + t226)), .int .i64 0, .int .i64 x230002_87, .int .i64 0, .slice none 0 0]) ?_ 4 _ rfl; (with_reducible repeat (first | refine Qg ?_ _ | refine Qh ?_ | refine Qf ?_ _)); refine Qr (cs := #[.int .i64 (Qq (8 + t226)), .int .i64 0, .int .i64 x230002_87, .int .i64 0, .slice none 0 0]) ?_ 3 _ rfl; (with_reducible repeat (first | refine Qg ?_ _ | refine Qh ?_ | refine Qf ?_ _)); refine Qr (cs := #[.int .i64 (Qq (8 + t226)), .int .i64 0, .int .i64 0, .int .i64 0, .slice none 0 0]) ?_ 2 _ rfl; (with_reducible repeat (first | refine Qg ?_ _ | refine Qh ?_ | refine Qf ?_ _)); refine Qr (cs := #[.int .i64 (Qq (8 + t226)), .int .i64 0, .int .i64 0, .int .i64 0, .slice none 0 0]) ?_ 1 _ rfl; (with_reducible repeat (first | refine Qg ?_ _ | refine Qh ?_ | refine Qf ?_ _)); refine Qr (cs := #[.int .i64 0, .int .i64 0, .int .i64 0, .int .i64 0, .slice none 0 0]) ?_ 0 _ rfl; (with_reducible repeat (first | refine Qg ?_ _ | refine Qh ?_ | refine Qf ?_ _)); exact BK199.out) Zt rfl (by kernel_rfl)) rfl ?_
           exact ⟨_, by first | rfl | (simp [errW_none, errW_some] <;> rfl) | (simp [*, errW_none, errW_some] <;> rfl), by (with_reducible repeat (first | apply Kd.R_alloc | apply Kd.R_drewN | apply Kd.R_drew)); exact Kd.R_mono (Kd.R_far (p := ⟨gb199, 4, none⟩) (Kd.R_far (p := ⟨gb199, 3, none⟩) (Kd.R_far (p := ⟨gb199, 2, none⟩) (Kd.R_far (p := ⟨gb199, 1, none⟩) (Kd.R_far (p := ⟨gb199, 0, none⟩) (Kd.R_mono HO_230004.out (fun k_ hk => (⟨hk, hk.1⟩ : _ ∧ k_ ≠ gb199))) (fun _ hk => hk.2) (.int .i64 (Qq (8 + t226)))) (fun _ hk => hk.2) (.int .i64 0)) (fun _ hk => hk.2) (.int .i64 x230002_87)) (fun _ hk => hk.2) (.int .i64 0)) (fun _ hk => hk.2) (.slice Ao113 x230004_4.length co113)) (fun _ hk => trivial), by repeat (first | (with_reducible first | exact HI0.out | apply IsS99.alloc | apply IsS99.drewN | apply IsS99.drew | apply IsS99.set_1 | apply IsS99.set_2 | refine IsS99.far ?_ NB0_199.out _ | refine IsS99.far ?_ NB0_229.out _) | exact HI0.out), by repeat (first | (with_reducible first | exact HB.out | apply Za | apply Qp | apply Qu | refine Ql ?_ (IsS99.ge HI0.out) | refine Ql ?_ GE199.out | refine Ql ?_ GE229.out) | exact HB.out), by repeat (first | (with_reducible first | exact HK.out | apply Qz | apply Zd | apply Zh | apply Ze | refine Zk ?_ GW199.out _ | refine Zk ?_ GW229.out _) | exact HK.out)⟩
end Go.Proofs.Ytoljagpjejpmpaa.PFnFormulas
