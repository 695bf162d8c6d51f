-- Laid by wip/tools/xprint.py (a program of this session over the kit's print). Not trusted: Lean checks it.
import Derived.Test.YtndkkpjofddfjaaGreatDoorXAuto
import Derived.Test.YtndkkpjofddfjaaGreatDoorPFnExactProgramTextx0
import Derived.Test.YtndkkpjofddfjaaGreatDoorPFnExactProgramTextx6
namespace Go.Proofs.YtndkkpjofddfjaaGreatDoor.PFnExactProgramText
open Go.RowKit Go.Proofs.YtndkkpjofddfjaaGreatDoorW.PrintWords Go.Proofs.YtndkkpjofddfjaaGreatDoorW.PrintLast Go.Proofs.YtndkkpjofddfjaaGreatDoorW.PrintMore
attribute [local go_sem] max2_int min2_int max_two min_two max_three min_three max_four min_four
set_option linter.unusedVariables false
set_option linter.unusedSimpArgs false
def impl_IsStmt.f (k : Nat) (l0 : List ByteArray) (a1_0 : Int) (a1_1 : ByteArray) (a1_2 : ByteArray) : Option (Bool) := (impl_AreVars.f k l0).bind fun t220 => (if t220 = true then ((impl_Stmt_hasNames_IsStmt_1.f k a1_0 a1_1 a1_2 l0).bind fun t221 => (some t221)) else (some false))
theorem impl_IsStmt.mono : ∀ a0 a1 a2 a3 k, LeO (impl_IsStmt.f k a0 a1 a2 a3) (impl_IsStmt.f (k + 1) a0 a1 a2 a3) := by
 intro a0 a1 a2 a3 k
 unfold impl_IsStmt.f
 repeat' first
   | (with_reducible exact impl_AreVars.mono _ _)
   | (with_reducible exact impl_Stmt_hasNames_IsStmt_1.mono _ _ _ _ _)
   | (with_reducible exact LeO.refl _)
   | (with_reducible exact LeO.none _)
   | (with_reducible refine LeO.ite ?_ ?_)
   | (with_reducible refine LeO.bind ?_ (fun _ => ?_))
   | exact impl_AreVars.mono _ _
   | exact impl_Stmt_hasNames_IsStmt_1.mono _ _ _ _ _
   | exact LeO.none _
   | refine LeO.ite ?_ ?_
   | refine LeO.bind ?_ (fun _ => ?_)
set_option maxHeartbeats 8000000 in
set_option maxRecDepth 100000 in
theorem impl_IsStmt.calls (k : Nat) (A0 : Option Addr) (c0 : Nat) (l0 : List ByteArray) (a1_0 : Int) (a1_1 : ByteArray) (a1_2 : ByteArray) (r : Bool) (w : World) (hr0 : Kd.C Kd.string w A0 l0.length l0) (hc0 : l0.length ≤ c0) (h : impl_IsStmt.f k l0 a1_0 a1_1 a1_2 = some r) :
  Calls Tryz.prog 56 #[.slice A0 l0.length c0, .agg #[.int .i64 a1_0, .string a1_1, .string a1_2]] w fun e w' => e = .returned (.bool r) ∧ Below w.heap.size w w' := by
 have hu50 := Tryz.underlying50
 have HR0 := Aside0.mk hr0
 have HC0 := Aside0.mk hc0
 clear hr0 hc0
 have HB := Aside0.mk (Below.refl w.heap.size w)
 have H : ((impl_AreVars.f k l0).bind fun t220 => (if t220 = true then ((impl_Stmt_hasNames_IsStmt_1.f k a1_0 a1_1 a1_2 l0).bind fun t221 => (some t221)) else (some false))) = some r := h
 clear h
 replace H := Option.bind_eq_some_iff.mp H
 obtain ⟨t220, A30, H⟩ := H
 replace H : (if t220 = true then ((impl_Stmt_hasNames_IsStmt_1.f k a1_0 a1_1 a1_2 l0).bind fun t221 => (some t221)) else (some false)) = some r := H
 have A3 := Aside0.mk A30
 clear A30
 by_cases c4 : t220 = true
 ·subst c4
  have H1 : ((impl_Stmt_hasNames_IsStmt_1.f k a1_0 a1_1 a1_2 l0).bind fun t221 => (some t221)) = some r := by rw [if_pos rfl] at H; exact H
  clear H
  have H := H1
  clear H1
  replace H := Option.bind_eq_some_iff.mp H
  obtain ⟨t221, A50, H⟩ := H
  replace H : (some t221) = some r := H
  have A5 := Aside0.mk A50
  clear A50
  obtain rfl := Option.some.inj H
  go_enter Tryz.func56, Tryz.ntmps56
  go_wp2_with (first | ((with_reducible refine gate_dst (N := 2) rfl ?_); refine box_event ?hg (N := 2) ?hd (cs := #[.slice A0 l0.length c0]) (t := 22) ?hr ?_; (case hd => rfl); (case hg => rfl); (case hr => first | (go_simp; done) | (go_simp; rfl)); intro gb218 hg w6 hbox hb; have BK218 := Aside0.mk (hbox); have GW218 := Aside0.mk ((by rw [hg]; exact (below_size (Bb0 HB.out)) : w.heap.size ≤ gb218)); have GE218 := Aside0.mk ((by rw [hg]; exact (below_size (Bb0 HB.out)) : w.heap.size ≤ gb218)); replace HB := Aside0.mk (below_step (Bb0 HB.out) hb); clear hb hbox hg) | ((with_reducible refine gate_dst (N := 3) rfl ?_); refine box_event ?hg (N := 3) ?hd (cs := #[.int .i64 a1_0, .string a1_1, .string a1_2]) (t := 50) ?hr ?_; (case hd => rfl); (case hg => rfl); (case hr => first | (go_simp; done) | (go_simp; rfl)); intro gb219 hg w7 hbox hb; have BK219 := Aside0.mk (hbox); have GW219 := Aside0.mk ((by rw [hg]; exact (below_size (Bb1 HB.out GE218.out)) : w.heap.size ≤ gb219)); have GE219 := Aside0.mk ((by rw [hg]; exact (below_size (Bb1 HB.out GE218.out)) : w.heap.size ≤ gb219)); replace HB := Aside0.mk (below_step (Bb1 HB.out GE218.out) hb); have NB218_219 := Aside0.mk ((by rw [hg]; exact Nat.ne_of_lt (blk_lt (g := gb218) (o := .cells #[.slice A0 l0.length c0] 22 (0, 0)) (Ba BK218.out)) : gb218 ≠ gb219)); have NB219_218 := Aside0.mk ((by rw [hg]; exact Nat.ne_of_gt (blk_lt (g := gb218) (o := .cells #[.slice A0 l0.length c0] 22 (0, 0)) (Ba BK218.out)) : gb219 ≠ gb218)); replace BK218 := Aside0.mk (blk_below (g := gb218) (o := .cells #[.slice A0 l0.length c0] 22 (0, 0)) (Ba BK218.out) hb); clear hb hbox hg; have hnb8 := NB218_219.out; have hnc8 := NB219_218.out; have q9_0 : w7.cell? ⟨gb218, 0, none⟩ = some (.slice A0 l0.length c0) := (blk_cell BK218.out 0).trans rfl; have u9_0 := blk_frozen BK218.out 0) | ((with_reducible refine gate_callee (f := 52) rfl ?_); refine goesL_ (some 6) rfl rfl Tryz.func52 (by kernel_rfl) rfl #[.slice A0 l0.length c0] rfl (by (try simp only [List.map_toArray, List.map_cons, List.map_nil]); first | done | rfl | (simp only [List.length_drop, List.length_take]; rfl)) ?_; (with_reducible refine (impl_AreVars.calls k _ _ l0 true _ ?side1 ?side2 A3.out).mono ?_); (case side1 => repeat (first | exact (Kd.C_below HR0.out HB.out) | (with_reducible refine Kd.C_alloc ?_ _) | (with_reducible refine Kd.C_drewN ?_ _) | (with_reducible refine Kd.C_drew ?_))); (case side2 => exact HC0.out); rintro e w' ⟨rfl, ⟨nd, rfl⟩⟩; refine ⟨_, rfl, ?_⟩; have q10_0 : w7.cell? ⟨gb219, 0, none⟩ = some (.int .i64 a1_0) := (blk_cell BK219.out 0).trans rfl; have q10_1 : w7.cell? ⟨gb219, 1, none⟩ = some (.string a1_1) := (blk_cell BK219.out 1).trans rfl; have q10_2 : w7.cell? ⟨gb219, 2, none⟩ = some (.string a1_2) := (blk_cell BK219.out 2).trans rfl; have u10_0 := blk_frozen BK219.out 0; have u10_1 := blk_frozen BK219.out 1; have u10_2 := blk_frozen BK219.out 2) | (go_at_call 73; (with_reducible refine (impl_Stmt_hasNames_IsStmt_1.calls k a1_0 a1_1 a1_2 gb218 A0 c0 l0 t221 _ ?side1 ?side2 ?side3 A5.out).mono ?_); (case side1 => repeat (first | exact (Kd.C_below HR0.out (Bb2 HB.out GE218.out GE219.out)) | (with_reducible refine Kd.C_alloc ?_ _) | (with_reducible refine Kd.C_drewN ?_ _) | (with_reducible refine Kd.C_drew ?_))); (case side2 => exact HC0.out); (case side3 => exact (blk_cell (g := gb218) (cs := #[.slice A0 l0.length c0]) (t := 22) (Ba BK218.out) 0).trans rfl); rintro e w11 ⟨rfl, hb⟩; replace BK218 := Aside0.mk (blk_below (g := gb218) (o := .cells #[.slice A0 l0.length c0] 22 (0, 0)) (Ba BK218.out) hb); replace BK219 := Aside0.mk (blk_below (g := gb219) (o := .cells #[.int .i64 a1_0, .string a1_1, .string a1_2] 50 (0, 0)) (Ba BK219.out) hb); replace HB := Aside0.mk (below_step (Bb2 HB.out GE218.out GE219.out) hb); (try clear hb); (try clear hb2); (try clear hk); (try clear hi)))
  go_ret
  exact ⟨by first | rfl | (simp [errW_none, errW_some] <;> rfl) | (simp [*, errW_none, errW_some] <;> rfl), by repeat (first | (with_reducible first | exact HB.out | apply below_alloc | apply pw_below_drewN | apply below_drew1 | refine below_set ?_ GE218.out | refine below_set ?_ GE219.out) | exact HB.out)⟩
 ·replace c4 := Bool.eq_false_iff.mpr c4
  subst c4
  have H1 : (some false) = some r := by rw [if_neg (show ¬ (false = true) by decide)] at H; exact H
  clear H
  have H := H1
  clear H1
  obtain rfl := Option.some.inj H
  go_enter Tryz.func56, Tryz.ntmps56
  go_wp2_with (first | ((with_reducible refine gate_dst (N := 2) rfl ?_); refine box_event ?hg (N := 2) ?hd (cs := #[.slice A0 l0.length c0]) (t := 22) ?hr ?_; (case hd => rfl); (case hg => rfl); (case hr => first | (go_simp; done) | (go_simp; rfl)); intro gb218 hg w12 hbox hb; have BK218 := Aside0.mk (hbox); have GW218 := Aside0.mk ((by rw [hg]; exact (below_size (Bb0 HB.out)) : w.heap.size ≤ gb218)); have GE218 := Aside0.mk ((by rw [hg]; exact (below_size (Bb0 HB.out)) : w.heap.size ≤ gb218)); replace HB := Aside0.mk (below_step (Bb0 HB.out) hb); clear hb hbox hg) | ((with_reducible refine gate_dst (N := 3) rfl ?_); refine box_event ?hg (N := 3) ?hd (cs := #[.int .i64 a1_0, .string a1_1, .string a1_2]) (t := 50) ?hr ?_; (case hd => rfl); (case hg => rfl); (case hr => first | (go_simp; done) | (go_simp; rfl)); intro gb219 hg w13 hbox hb; have BK219 := Aside0.mk (hbox); have GW219 := Aside0.mk ((by rw [hg]; exact (below_size (Bb1 HB.out GE218.out)) : w.heap.size ≤ gb219)); have GE219 := Aside0.mk ((by rw [hg]; exact (below_size (Bb1 HB.out GE218.out)) : w.heap.size ≤ gb219)); replace HB := Aside0.mk (below_step (Bb1 HB.out GE218.out) hb); have NB218_219 := Aside0.mk ((by rw [hg]; exact Nat.ne_of_lt (blk_lt (g := gb218) (o := .cells #[.slice A0 l0.length c0] 22 (0, 0)) (Ba BK218.out)) : gb218 ≠ gb219)); have NB219_218 := Aside0.mk ((by rw [hg]; exact Nat.ne_of_gt (blk_lt (g := gb218) (o := .cells #[.slice A0 l0.length c0] 22 (0, 0)) (Ba BK218.out)) : gb219 ≠ gb218)); replace BK218 := Aside0.mk (blk_below (g := gb218) (o := .cells #[.slice A0 l0.length c0] 22 (0, 0)) (Ba BK218.out) hb); clear hb hbox hg; have hnb14 := NB218_219.out; have hnc14 := NB219_218.out; have q15_0 : w13.cell? ⟨gb218, 0, none⟩ = some (.slice A0 l0.length c0) := (blk_cell BK218.out 0).trans rfl; have u15_0 := blk_frozen BK218.out 0) | ((with_reducible refine gate_callee (f := 52) rfl ?_); refine goesL_ (some 6) rfl rfl Tryz.func52 (by kernel_rfl) rfl #[.slice A0 l0.length c0] rfl (by (try simp only [List.map_toArray, List.map_cons, List.map_nil]); first | done | rfl | (simp only [List.length_drop, List.length_take]; rfl)) ?_; (with_reducible refine (impl_AreVars.calls k _ _ l0 false _ ?side1 ?side2 A3.out).mono ?_); (case side1 => repeat (first | exact (Kd.C_below HR0.out HB.out) | (with_reducible refine Kd.C_alloc ?_ _) | (with_reducible refine Kd.C_drewN ?_ _) | (with_reducible refine Kd.C_drew ?_))); (case side2 => exact HC0.out); rintro e w' ⟨rfl, ⟨nd, rfl⟩⟩; refine ⟨_, rfl, ?_⟩))
  go_ret
  exact ⟨by first | rfl | (simp [errW_none, errW_some] <;> rfl) | (simp [*, errW_none, errW_some] <;> rfl), by repeat (first | (with_reducible first | exact HB.out | apply below_alloc | apply pw_below_drewN | apply below_drew1 | refine below_set ?_ GE218.out | refine below_set ?_ GE219.out) | exact HB.out)⟩
def impl_IsProgram_1_captured.f (k : Nat) (a0_0 : Int) (a0_1 : Int) (a0_2 : Int) (a0_3 : ByteArray) (a0_4 : ByteArray) (l1_0 : List ByteArray) (a1_1 : Int) (l1_2 : List (S52)) : Option (Bool) := (impl_within.f a0_0 0 (wrap64 (a1_1 - 1))).bind fun t223 => (if t223 = true then ((impl_within.f a0_1 0 (wrap64 (a1_1 - 1))).bind fun t224 => (if t224 = true then ((impl_IsStmt.f k l1_0 a0_2 a0_3 a0_4).bind fun t225 => (some (!t225))) else (some true))) else (some true))
theorem impl_IsProgram_1_captured.mono : ∀ a0 a1 a2 a3 a4 a5 a6 a7 k, LeO (impl_IsProgram_1_captured.f k a0 a1 a2 a3 a4 a5 a6 a7) (impl_IsProgram_1_captured.f (k + 1) a0 a1 a2 a3 a4 a5 a6 a7) := by
 intro a0 a1 a2 a3 a4 a5 a6 a7 k
 unfold impl_IsProgram_1_captured.f
 repeat' first
   | (with_reducible exact impl_IsStmt.mono _ _ _ _ _)
   | (with_reducible exact LeO.refl _)
   | (with_reducible exact LeO.none _)
   | (with_reducible refine LeO.ite ?_ ?_)
   | (with_reducible refine LeO.bind ?_ (fun _ => ?_))
   | exact impl_IsStmt.mono _ _ _ _ _
   | exact LeO.none _
   | refine LeO.ite ?_ ?_
   | refine LeO.bind ?_ (fun _ => ?_)
set_option maxHeartbeats 8000000 in
set_option maxRecDepth 100000 in
theorem impl_IsProgram_1_captured.calls (k : Nat) (a0_0 : Int) (a0_1 : Int) (a0_2 : Int) (a0_3 : ByteArray) (a0_4 : ByteArray) (g1_0 : Nat) (A1_0 : Option Addr) (c1_0 : Nat) (l1_0 : List ByteArray) (a1_1 : Int) (A1_2 : Option Addr) (c1_2 : Nat) (l1_2 : List (S52)) (r : Bool) (w : World) (hr1_0 : Kd.C Kd.string w A1_0 l1_0.length l1_0) (hc1_0 : l1_0.length ≤ c1_0) (hr1_2 : Kd.C k52 w A1_2 l1_2.length l1_2) (hc1_2 : l1_2.length ≤ c1_2) (hq1_0 : w.cell? ⟨g1_0, 0, none⟩ = some (.slice A1_0 l1_0.length c1_0)) (hq1_1 : w.cell? ⟨g1_0, 1, none⟩ = some (.int .i64 a1_1)) (hq1_2 : w.cell? ⟨g1_0, 2, none⟩ = some (.slice A1_2 l1_2.length c1_2)) (h : impl_IsProgram_1_captured.f k a0_0 a0_1 a0_2 a0_3 a0_4 l1_0 a1_1 l1_2 = some r) :
  Calls Tryz.prog 55 #[.agg #[.int .i64 a0_0, .int .i64 a0_1, .int .i64 a0_2, .string a0_3, .string a0_4], .pointer (some ⟨g1_0, 0, none⟩)] w fun e w' => e = .returned (.bool r) ∧ Below w.heap.size w w' := by
 have hu52 := Tryz.underlying52
 have hu50 := Tryz.underlying50
 have HR1_0 := Aside0.mk hr1_0
 have HC1_0 := Aside0.mk hc1_0
 clear hr1_0 hc1_0
 have HR1_2 := Aside0.mk hr1_2
 have HC1_2 := Aside0.mk hc1_2
 clear hr1_2 hc1_2
 have CAP1_0 := Aside0.mk hq1_0
 clear hq1_0
 have CAP1_1 := Aside0.mk hq1_1
 clear hq1_1
 have CAP1_2 := Aside0.mk hq1_2
 clear hq1_2
 have HB := Aside0.mk (Below.refl w.heap.size w)
 have H : ((impl_within.f a0_0 0 (wrap64 (a1_1 - 1))).bind fun t223 => (if t223 = true then ((impl_within.f a0_1 0 (wrap64 (a1_1 - 1))).bind fun t224 => (if t224 = true then ((impl_IsStmt.f k l1_0 a0_2 a0_3 a0_4).bind fun t225 => (some (!t225))) else (some true))) else (some true))) = some r := h
 clear h
 replace H := Option.bind_eq_some_iff.mp H
 obtain ⟨t223, A30, H⟩ := H
 replace H : (if t223 = true then ((impl_within.f a0_1 0 (wrap64 (a1_1 - 1))).bind fun t224 => (if t224 = true then ((impl_IsStmt.f k l1_0 a0_2 a0_3 a0_4).bind fun t225 => (some (!t225))) else (some true))) else (some true)) = some r := H
 have A3 := Aside0.mk A30
 clear A30
 by_cases c4 : t223 = true
 ·subst c4
  have H1 : ((impl_within.f a0_1 0 (wrap64 (a1_1 - 1))).bind fun t224 => (if t224 = true then ((impl_IsStmt.f k l1_0 a0_2 a0_3 a0_4).bind fun t225 => (some (!t225))) else (some true))) = some r := by rw [if_pos rfl] at H; exact H
  clear H
  have H := H1
  clear H1
  replace H := Option.bind_eq_some_iff.mp H
  obtain ⟨t224, A50, H⟩ := H
  replace H : (if t224 = true then ((impl_IsStmt.f k l1_0 a0_2 a0_3 a0_4).bind fun t225 => (some (!t225))) else (some true)) = some r := H
  have A5 := Aside0.mk A50
  clear A50
  by_cases c6 : t224 = true
  ·subst c6
   have H1 : ((impl_IsStmt.f k l1_0 a0_2 a0_3 a0_4).bind fun t225 => (some (!t225))) = some r := by rw [if_pos rfl] at H; exact H
   clear H
   have H := H1
   clear H1
   replace H := Option.bind_eq_some_iff.mp H
   obtain ⟨t225, A70, H⟩ := H
   replace H : (some (!t225)) = some r := H
   have A7 := Aside0.mk A70
   clear A70
   obtain rfl := Option.some.inj H
   go_enter Tryz.func55, Tryz.ntmps55
   go_wp2_with (first | ((with_reducible refine gate_dst (N := 2) rfl ?_); refine box_event ?hg (N := 2) ?hd (cs := #[.int .i64 a0_0, .int .i64 a0_1, .int .i64 a0_2, .string a0_3, .string a0_4]) (t := 52) ?hr ?_; (case hd => rfl); (case hg => rfl); (case hr => first | (go_simp; done) | (go_simp; rfl)); intro gb222 hg w8 hbox hb; have BK222 := Aside0.mk (hbox); have GW222 := Aside0.mk ((by rw [hg]; exact (below_size (Bb0 HB.out)) : w.heap.size ≤ gb222)); have GE222 := Aside0.mk ((by rw [hg]; exact (below_size (Bb0 HB.out)) : w.heap.size ≤ gb222)); replace HB := Aside0.mk (below_step (Bb0 HB.out) hb); clear hb hbox hg; have q9_0 : w8.cell? ⟨gb222, 0, none⟩ = some (.int .i64 a0_0) := (blk_cell BK222.out 0).trans rfl; have q9_1 : w8.cell? ⟨gb222, 1, none⟩ = some (.int .i64 a0_1) := (blk_cell BK222.out 1).trans rfl; have q9_2 : w8.cell? ⟨gb222, 2, none⟩ = some (.int .i64 a0_2) := (blk_cell BK222.out 2).trans rfl; have q9_3 : w8.cell? ⟨gb222, 3, none⟩ = some (.string a0_3) := (blk_cell BK222.out 3).trans rfl; have q9_4 : w8.cell? ⟨gb222, 4, none⟩ = some (.string a0_4) := (blk_cell BK222.out 4).trans rfl; have u9_0 := blk_frozen BK222.out 0; have u9_1 := blk_frozen BK222.out 1; have u9_2 := blk_frozen BK222.out 2; have u9_3 := blk_frozen BK222.out 3; have u9_4 := blk_frozen BK222.out 4; have hcpz10_0 : w8.cell? ⟨g1_0, 0, none⟩ = some (.slice A1_0 l1_0.length c1_0) := (by first | exact CAP1_0.out | exact (HB.out.cell (World.block_lt_of_cell? w _ CAP1_0.out)).trans CAP1_0.out); have hcpz10_1 : w8.cell? ⟨g1_0, 1, none⟩ = some (.int .i64 a1_1) := (by first | exact CAP1_1.out | exact (HB.out.cell (World.block_lt_of_cell? w _ CAP1_1.out)).trans CAP1_1.out); have hcpz10_2 : w8.cell? ⟨g1_0, 2, none⟩ = some (.slice A1_2 l1_2.length c1_2) := (by first | exact CAP1_2.out | exact (HB.out.cell (World.block_lt_of_cell? w _ CAP1_2.out)).trans CAP1_2.out)) | ((with_reducible refine gate_callee (f := 53) rfl ?_); refine goesL_ (some 9) rfl rfl Tryz.func53 (by kernel_rfl) rfl #[.int .i64 a0_0, .int .i64 0, .int .i64 (wrap64 (a1_1 - 1))] rfl (by (try simp only [List.map_toArray, List.map_cons, List.map_nil]); first | done | rfl | (simp only [List.length_drop, List.length_take]; rfl)) ?_; (with_reducible refine (impl_within.calls a0_0 0 (wrap64 (a1_1 - 1)) true _ A3.out).mono ?_); rintro e w' ⟨rfl, ⟨nd, rfl⟩⟩; refine ⟨_, rfl, ?_⟩) | (go_at_call 53; (with_reducible refine (impl_within.calls a0_1 0 (wrap64 (a1_1 - 1)) true _ A5.out).mono ?_); rintro e w' ⟨rfl, ⟨nd, rfl⟩⟩) | (go_at_call 56; (with_reducible refine (impl_IsStmt.calls k _ _ l1_0 a0_2 a0_3 a0_4 t225 _ ?side1 ?side2 A7.out).mono ?_); (case side1 => repeat (first | exact (Kd.C_below HR1_0.out (Bb1 HB.out GE222.out)) | (with_reducible refine Kd.C_alloc ?_ _) | (with_reducible refine Kd.C_drewN ?_ _) | (with_reducible refine Kd.C_drew ?_))); (case side2 => exact HC1_0.out); rintro e w11 ⟨rfl, hb⟩; replace BK222 := Aside0.mk (blk_below (g := gb222) (o := .cells #[.int .i64 a0_0, .int .i64 a0_1, .int .i64 a0_2, .string a0_3, .string a0_4] 52 (0, 0)) (Ba BK222.out) hb); replace HB := Aside0.mk (below_step (Bb1 HB.out GE222.out) hb); (try clear hb); (try clear hb2); (try clear hk); (try clear hi)))
   go_ret
   exact ⟨by first | rfl | (simp [errW_none, errW_some] <;> rfl) | (simp [*, errW_none, errW_some] <;> rfl), by repeat (first | (with_reducible first | exact HB.out | apply below_alloc | apply pw_below_drewN | apply below_drew1 | refine below_set ?_ GE222.out) | exact HB.out)⟩
  ·replace c6 := Bool.eq_false_iff.mpr c6
   subst c6
   have H1 : (some true) = some r := by rw [if_neg (show ¬ (false = true) by decide)] at H; exact H
   clear H
   have H := H1
   clear H1
   obtain rfl := Option.some.inj H
   go_enter Tryz.func55, Tryz.ntmps55
   go_wp2_with (first | ((with_reducible refine gate_dst (N := 2) rfl ?_); refine box_event ?hg (N := 2) ?hd (cs := #[.int .i64 a0_0, .int .i64 a0_1, .int .i64 a0_2, .string a0_3, .string a0_4]) (t := 52) ?hr ?_; (case hd => rfl); (case hg => rfl); (case hr => first | (go_simp; done) | (go_simp; rfl)); intro gb222 hg w12 hbox hb; have BK222 := Aside0.mk (hbox); have GW222 := Aside0.mk ((by rw [hg]; exact (below_size (Bb0 HB.out)) : w.heap.size ≤ gb222)); have GE222 := Aside0.mk ((by rw [hg]; exact (below_size (Bb0 HB.out)) : w.heap.size ≤ gb222)); replace HB := Aside0.mk (below_step (Bb0 HB.out) hb); clear hb hbox hg; have q13_0 : w12.cell? ⟨gb222, 0, none⟩ = some (.int .i64 a0_0) := (blk_cell BK222.out 0).trans rfl; have q13_1 : w12.cell? ⟨gb222, 1, none⟩ = some (.int .i64 a0_1) := (blk_cell BK222.out 1).trans rfl; have q13_2 : w12.cell? ⟨gb222, 2, none⟩ = some (.int .i64 a0_2) := (blk_cell BK222.out 2).trans rfl; have q13_3 : w12.cell? ⟨gb222, 3, none⟩ = some (.string a0_3) := (blk_cell BK222.out 3).trans rfl; have q13_4 : w12.cell? ⟨gb222, 4, none⟩ = some (.string a0_4) := (blk_cell BK222.out 4).trans rfl; have u13_0 := blk_frozen BK222.out 0; have u13_1 := blk_frozen BK222.out 1; have u13_2 := blk_frozen BK222.out 2; have u13_3 := blk_frozen BK222.out 3; have u13_4 := blk_frozen BK222.out 4; have hcpz14_0 : w12.cell? ⟨g1_0, 0, none⟩ = some (.slice A1_0 l1_0.length c1_0) := (by first | exact CAP1_0.out | exact (HB.out.cell (World.block_lt_of_cell? w _ CAP1_0.out)).trans CAP1_0.out); have hcpz14_1 : w12.cell? ⟨g1_0, 1, none⟩ = some (.int .i64 a1_1) := (by first | exact CAP1_1.out | exact (HB.out.cell (World.block_lt_of_cell? w _ CAP1_1.out)).trans CAP1_1.out); have hcpz14_2 : w12.cell? ⟨g1_0, 2, none⟩ = some (.slice A1_2 l1_2.length c1_2) := (by first | exact CAP1_2.out | exact (HB.out.cell (World.block_lt_of_cell? w _ CAP1_2.out)).trans CAP1_2.out)) | ((with_reducible refine gate_callee (f := 53) rfl ?_); refine goesL_ (some 9) rfl rfl Tryz.func53 (by kernel_rfl) rfl #[.int .i64 a0_0, .int .i64 0, .int .i64 (wrap64 (a1_1 - 1))] rfl (by (try simp only [List.map_toArray, List.map_cons, List.map_nil]); first | done | rfl | (simp only [List.length_drop, List.length_take]; rfl)) ?_; (with_reducible refine (impl_within.calls a0_0 0 (wrap64 (a1_1 - 1)) true _ A3.out).mono ?_); rintro e w' ⟨rfl, ⟨nd, rfl⟩⟩; refine ⟨_, rfl, ?_⟩) | (go_at_call 53; (with_reducible refine (impl_within.calls a0_1 0 (wrap64 (a1_1 - 1)) false _ A5.out).mono ?_); rintro e w' ⟨rfl, ⟨nd, rfl⟩⟩))
   go_ret
   exact ⟨by first | rfl | (simp [errW_none, errW_some] <;> rfl) | (simp [*, errW_none, errW_some] <;> rfl), by repeat (first | (with_reducible first | exact HB.out | apply below_alloc | apply pw_below_drewN | apply below_drew1 | refine below_set ?_ GE222.out) | exact HB.out)⟩
 ·replace c4 := Bool.eq_false_iff.mpr c4
  subst c4
  have H1 : (some true) = some r := by rw [if_neg (show ¬ (false = true) by decide)] at H; exact H
  clear H
  have H := H1
  clear H1
  obtain rfl := Option.some.inj H
  go_enter Tryz.func55, Tryz.ntmps55
  go_wp2_with (first | ((with_reducible refine gate_dst (N := 2) rfl ?_); refine box_event ?hg (N := 2) ?hd (cs := #[.int .i64 a0_0, .int .i64 a0_1, .int .i64 a0_2, .string a0_3, .string a0_4]) (t := 52) ?hr ?_; (case hd => rfl); (case hg => rfl); (case hr => first | (go_simp; done) | (go_simp; rfl)); intro gb222 hg w15 hbox hb; have BK222 := Aside0.mk (hbox); have GW222 := Aside0.mk ((by rw [hg]; exact (below_size (Bb0 HB.out)) : w.heap.size ≤ gb222)); have GE222 := Aside0.mk ((by rw [hg]; exact (below_size (Bb0 HB.out)) : w.heap.size ≤ gb222)); replace HB := Aside0.mk (below_step (Bb0 HB.out) hb); clear hb hbox hg; have q16_0 : w15.cell? ⟨gb222, 0, none⟩ = some (.int .i64 a0_0) := (blk_cell BK222.out 0).trans rfl; have q16_1 : w15.cell? ⟨gb222, 1, none⟩ = some (.int .i64 a0_1) := (blk_cell BK222.out 1).trans rfl; have q16_2 : w15.cell? ⟨gb222, 2, none⟩ = some (.int .i64 a0_2) := (blk_cell BK222.out 2).trans rfl; have q16_3 : w15.cell? ⟨gb222, 3, none⟩ = some (.string a0_3) := (blk_cell BK222.out 3).trans rfl; have q16_4 : w15.cell? ⟨gb222, 4, none⟩ = some (.string a0_4) := (blk_cell BK222.out 4).trans rfl; have u16_0 := blk_frozen BK222.out 0; have u16_1 := blk_frozen BK222.out 1; have u16_2 := blk_frozen BK222.out 2; have u16_3 := blk_frozen BK222.out 3; have u16_4 := blk_frozen BK222.out 4; have hcpz17_0 : w15.cell? ⟨g1_0, 0, none⟩ = some (.slice A1_0 l1_0.length c1_0) := (by first | exact CAP1_0.out | exact (HB.out.cell (World.block_lt_of_cell? w _ CAP1_0.out)).trans CAP1_0.out); have hcpz17_1 : w15.cell? ⟨g1_0, 1, none⟩ = some (.int .i64 a1_1) := (by first | exact CAP1_1.out | exact (HB.out.cell (World.block_lt_of_cell? w _ CAP1_1.out)).trans CAP1_1.out); have hcpz17_2 : w15.cell? ⟨g1_0, 2, none⟩ = some (.slice A1_2 l1_2.length c1_2) := (by first | exact CAP1_2.out | exact (HB.out.cell (World.block_lt_of_cell? w _ CAP1_2.out)).trans CAP1_2.out)) | ((with_reducible refine gate_callee (f := 53) rfl ?_); refine goesL_ (some 9) rfl rfl Tryz.func53 (by kernel_rfl) rfl #[.int .i64 a0_0, .int .i64 0, .int .i64 (wrap64 (a1_1 - 1))] rfl (by (try simp only [List.map_toArray, List.map_cons, List.map_nil]); first | done | rfl | (simp only [List.length_drop, List.length_take]; rfl)) ?_; (with_reducible refine (impl_within.calls a0_0 0 (wrap64 (a1_1 - 1)) false _ A3.out).mono ?_); rintro e w' ⟨rfl, ⟨nd, rfl⟩⟩; refine ⟨_, rfl, ?_⟩))
  go_ret
  exact ⟨by first | rfl | (simp [errW_none, errW_some] <;> rfl) | (simp [*, errW_none, errW_some] <;> rfl), by repeat (first | (with_reducible first | exact HB.out | apply below_alloc | apply pw_below_drewN | apply below_drew1 | refine below_set ?_ GE222.out) | exact HB.out)⟩
def impl_Edge_IsProgram_1_88.l0 : Nat → List (S52) → Int → Int → List ByteArray → Int → List (S52) → Option (Int)
 | 0, _, _, _, _, _, _ => none
 | k + 1, x0, x7, x8, x2000, x2001, x2002 => if x8 < x7 then (if 0 ≤ x8 then (if x8 < (x0.length : Int) then ((impl_IsProgram_1_captured.f k ((rd_T52 x0 x8).f0) ((rd_T52 x0 x8).f1) ((rd_T52 x0 x8).f2.f0) ((rd_T52 x0 x8).f2.f1) ((rd_T52 x0 x8).f2.f2) x2000 x2001 x2002).bind fun t227 => (if t227 = true then (some x8) else (impl_Edge_IsProgram_1_88.l0 k x0 x7 (wrap64 (x8 + 1)) x2000 x2001 x2002))) else (none)) else (none)) else (some (-1))
def impl_Edge_IsProgram_1_88.f (k : Nat) (l0 : List (S52)) (l1_0 : List ByteArray) (a1_1 : Int) (l1_2 : List (S52)) : Option (Int) := impl_Edge_IsProgram_1_88.l0 k l0 (l0.length : Int) 0 l1_0 a1_1 l1_2
theorem impl_Edge_IsProgram_1_88.mono_l : ∀ k, (∀ y0 y1 y2 y3 y4 y5, LeO (impl_Edge_IsProgram_1_88.l0 k y0 y1 y2 y3 y4 y5) (impl_Edge_IsProgram_1_88.l0 (k + 1) y0 y1 y2 y3 y4 y5))
 | 0 => fun _ _ _ _ _ _ r h => by simp [impl_Edge_IsProgram_1_88.l0] at h
 | k + 1 => by
  have ih0 := impl_Edge_IsProgram_1_88.mono_l k
  ·intro y0 y1 y2 y3 y4 y5
   unfold impl_Edge_IsProgram_1_88.l0
   repeat' first
   | (with_reducible exact ih0 _ _ _ _ _ _)
   | (with_reducible exact impl_IsProgram_1_captured.mono _ _ _ _ _ _ _ _ _)
   | (with_reducible exact LeO.refl _)
   | (with_reducible exact LeO.none _)
   | (with_reducible refine LeO.ite ?_ ?_)
   | (with_reducible refine LeO.bind ?_ (fun _ => ?_))
   | exact ih0 _ _ _ _ _ _
   | exact impl_IsProgram_1_captured.mono _ _ _ _ _ _ _ _ _
   | exact LeO.none _
   | refine LeO.ite ?_ ?_
   | refine LeO.bind ?_ (fun _ => ?_)
theorem impl_Edge_IsProgram_1_88.mono : ∀ a0 a1 a2 a3 k, LeO (impl_Edge_IsProgram_1_88.f k a0 a1 a2 a3) (impl_Edge_IsProgram_1_88.f (k + 1) a0 a1 a2 a3) := by
 intro a0 a1 a2 a3 k
 have ih0 := impl_Edge_IsProgram_1_88.mono_l k
 unfold impl_Edge_IsProgram_1_88.f
 repeat' first
   | (with_reducible exact ih0 _ _ _ _ _ _)
   | (with_reducible exact impl_IsProgram_1_captured.mono _ _ _ _ _ _ _ _ _)
   | (with_reducible exact LeO.refl _)
   | (with_reducible exact LeO.none _)
   | (with_reducible refine LeO.ite ?_ ?_)
   | (with_reducible refine LeO.bind ?_ (fun _ => ?_))
   | exact ih0 _ _ _ _ _ _
   | exact impl_IsProgram_1_captured.mono _ _ _ _ _ _ _ _ _
   | exact LeO.none _
   | refine LeO.ite ?_ ?_
   | refine LeO.bind ?_ (fun _ => ?_)
set_option maxHeartbeats 8000000 in
set_option maxRecDepth 100000 in
theorem impl_Edge_IsProgram_1_88.calls (k : Nat) (A0 : Option Addr) (c0 : Nat) (l0 : List (S52)) (g1_0 : Nat) (A1_0 : Option Addr) (c1_0 : Nat) (l1_0 : List ByteArray) (a1_1 : Int) (A1_2 : Option Addr) (c1_2 : Nat) (l1_2 : List (S52)) (r : Int) (w : World) (hr0 : Kd.C k52 w A0 l0.length l0) (hc0 : l0.length ≤ c0) (hr1_0 : Kd.C Kd.string w A1_0 l1_0.length l1_0) (hc1_0 : l1_0.length ≤ c1_0) (hr1_2 : Kd.C k52 w A1_2 l1_2.length l1_2) (hc1_2 : l1_2.length ≤ c1_2) (hq1_0 : w.cell? ⟨g1_0, 0, none⟩ = some (.slice A1_0 l1_0.length c1_0)) (hq1_1 : w.cell? ⟨g1_0, 1, none⟩ = some (.int .i64 a1_1)) (hq1_2 : w.cell? ⟨g1_0, 2, none⟩ = some (.slice A1_2 l1_2.length c1_2)) (h : impl_Edge_IsProgram_1_88.f k l0 l1_0 a1_1 l1_2 = some r) :
  Calls Tryz.prog 88 #[.slice A0 l0.length c0, .func (.func 55) #[] #[.pointer (some ⟨g1_0, 0, none⟩)]] w fun e w' => e = .returned (.int .i64 r) ∧ Below w.heap.size w w' := by
 have hu52 := Tryz.underlying52
 have HR0 := Aside0.mk hr0
 have HC0 := Aside0.mk hc0
 clear hr0 hc0
 have HR1_0 := Aside0.mk hr1_0
 have HC1_0 := Aside0.mk hc1_0
 clear hr1_0 hc1_0
 have HR1_2 := Aside0.mk hr1_2
 have HC1_2 := Aside0.mk hc1_2
 clear hr1_2 hc1_2
 have CAP1_0 := Aside0.mk hq1_0
 clear hq1_0
 have CAP1_1 := Aside0.mk hq1_1
 clear hq1_1
 have CAP1_2 := Aside0.mk hq1_2
 clear hq1_2
 have HB := Aside0.mk (Below.refl w.heap.size w)
 have H : (impl_Edge_IsProgram_1_88.l0 k l0 (l0.length : Int) 0 l1_0 a1_1 l1_2) = some r := h
 clear h
 have H' := Aside0.mk H
 clear H
 go_enter Tryz.func88, Tryz.ntmps88
 go_wp2
 go_loopg [8] k (fun kq v8 w' => ∃ (x8_1 : Int), v8 = .int .i64 x8_1 ∧ Aside0 (impl_Edge_IsProgram_1_88.l0 kq l0 (l0.length : Int) x8_1 l1_0 a1_1 l1_2 = some r) ∧ Aside0 (kq ≤ k) ∧ Aside0 (Below w.heap.size w w'))
 case atStart => exact ⟨(0), (by first | rfl | (simp; done) | (simp [*]; done) | (simp; rw [Bool.eq_iff_iff]; simp; done)), H', ⟨Nat.le_refl _⟩, ⟨Bb0 HB.out⟩⟩
 case round =>
  clear H'
  try clear c1
  try clear q1
  try clear p2
  obtain ⟨x8_1, rfl, HA, HK1, HB⟩ := hrel
  cases gk with
  | zero => exact absurd HA.out (by simp [impl_Edge_IsProgram_1_88.l0])
  | succ k1 =>
   have H := HA.out
   clear HA
   simp only [impl_Edge_IsProgram_1_88.l0] at H
   by_cases c3 : x8_1 < (l0.length : Int)
   ·rw [if_pos c3] at H
    have c3b0 : decide (x8_1 < (l0.length : Int)) = true := decide_eq_true c3
    clear c3
    by_cases c4 : 0 ≤ x8_1
    ·rw [if_pos c4] at H
     have c4b0 : decide (0 ≤ x8_1) = true := decide_eq_true c4
     clear c4
     by_cases c5 : x8_1 < (l0.length : Int)
     ·rw [if_pos c5] at H
      have c5b0 : decide (x8_1 < (l0.length : Int)) = true := decide_eq_true c5
      clear c5
      replace H := Option.bind_eq_some_iff.mp H
      obtain ⟨t227, A60, H⟩ := H
      replace H : (if t227 = true then (some x8_1) else (impl_Edge_IsProgram_1_88.l0 k1 l0 (l0.length : Int) (wrap64 (x8_1 + 1)) l1_0 a1_1 l1_2)) = some r := H
      have A6 := Aside0.mk A60
      clear A60
      by_cases c7 : t227 = true
      ·subst c7
       have H1 : (some x8_1) = some r := by rw [if_pos rfl] at H; exact H
       clear H
       have H := H1
       clear H1
       obtain rfl := Option.some.inj H
       have p226 : 0 ≤ (x8_1 : Int) := of_decide_eq_true (by first | (with_reducible assumption) | assumption)
       have q226 : x8_1 < (l0.length : Int) := of_decide_eq_true (by first | (with_reducible assumption) | assumption)
       obtain ⟨ad226, e226, hx226_0, hx226_1, hx226_2, hx226_3, hx226_4⟩ := at_T52 HR0.out x8_1 p226 q226
       cases e226
       replace hx226_0 := (HB.out.cell (World.block_lt_of_cell? w _ hx226_0)).trans hx226_0
       replace hx226_1 := (HB.out.cell (World.block_lt_of_cell? w _ hx226_1)).trans hx226_1
       replace hx226_2 := (HB.out.cell (World.block_lt_of_cell? w _ hx226_2)).trans hx226_2
       replace hx226_3 := (HB.out.cell (World.block_lt_of_cell? w _ hx226_3)).trans hx226_3
       replace hx226_4 := (HB.out.cell (World.block_lt_of_cell? w _ hx226_4)).trans hx226_4
       replace p226 := eq_true p226
       replace q226 := eq_true q226
       go_wp2_with (first | (go_at_call 55; (with_reducible refine (impl_IsProgram_1_captured.calls k1 ((rd_T52 l0 x8_1).f0) ((rd_T52 l0 x8_1).f1) ((rd_T52 l0 x8_1).f2.f0) ((rd_T52 l0 x8_1).f2.f1) ((rd_T52 l0 x8_1).f2.f2) g1_0 A1_0 c1_0 l1_0 a1_1 A1_2 c1_2 l1_2 true _ ?side1 ?side2 ?side3 ?side4 ?side5 ?side6 ?side7 A6.out).mono ?_); (case side1 => repeat (first | exact (Kd.C_below HR1_0.out HB.out) | (with_reducible refine Kd.C_alloc ?_ _) | (with_reducible refine Kd.C_drewN ?_ _) | (with_reducible refine Kd.C_drew ?_))); (case side2 => exact HC1_0.out); (case side3 => repeat (first | exact (Kd.C_below HR1_2.out HB.out) | (with_reducible refine Kd.C_alloc ?_ _) | (with_reducible refine Kd.C_drewN ?_ _) | (with_reducible refine Kd.C_drew ?_))); (case side4 => exact HC1_2.out); (case side5 => first | exact CAP1_0.out | exact (HB.out.cell (World.block_lt_of_cell? w _ CAP1_0.out)).trans CAP1_0.out); (case side6 => first | exact CAP1_1.out | exact (HB.out.cell (World.block_lt_of_cell? w _ CAP1_1.out)).trans CAP1_1.out); (case side7 => first | exact CAP1_2.out | exact (HB.out.cell (World.block_lt_of_cell? w _ CAP1_2.out)).trans CAP1_2.out); rintro e w8 ⟨rfl, hb⟩; replace HB := Aside0.mk (below_step (Bb0 HB.out) hb); (try clear hb); (try clear hb2); (try clear hk); (try clear hi)))
       go_ret
       exact ⟨by first | rfl | (simp [errW_none, errW_some] <;> rfl) | (simp [*, errW_none, errW_some] <;> rfl), by repeat (first | (with_reducible first | exact HB.out | apply below_alloc | apply pw_below_drewN | apply below_drew1) | exact HB.out)⟩
      ·replace c7 := Bool.eq_false_iff.mpr c7
       subst c7
       have H1 : (impl_Edge_IsProgram_1_88.l0 k1 l0 (l0.length : Int) (wrap64 (x8_1 + 1)) l1_0 a1_1 l1_2) = some r := by rw [if_neg (show ¬ (false = true) by decide)] at H; exact H
       clear H
       have H := H1
       clear H1
       have H' := Aside0.mk H
       clear H
       have p226 : 0 ≤ (x8_1 : Int) := of_decide_eq_true (by first | (with_reducible assumption) | assumption)
       have q226 : x8_1 < (l0.length : Int) := of_decide_eq_true (by first | (with_reducible assumption) | assumption)
       obtain ⟨ad226, e226, hx226_0, hx226_1, hx226_2, hx226_3, hx226_4⟩ := at_T52 HR0.out x8_1 p226 q226
       cases e226
       replace hx226_0 := (HB.out.cell (World.block_lt_of_cell? w _ hx226_0)).trans hx226_0
       replace hx226_1 := (HB.out.cell (World.block_lt_of_cell? w _ hx226_1)).trans hx226_1
       replace hx226_2 := (HB.out.cell (World.block_lt_of_cell? w _ hx226_2)).trans hx226_2
       replace hx226_3 := (HB.out.cell (World.block_lt_of_cell? w _ hx226_3)).trans hx226_3
       replace hx226_4 := (HB.out.cell (World.block_lt_of_cell? w _ hx226_4)).trans hx226_4
       replace p226 := eq_true p226
       replace q226 := eq_true q226
       go_wp2_with (first | (go_at_call 55; (with_reducible refine (impl_IsProgram_1_captured.calls k1 ((rd_T52 l0 x8_1).f0) ((rd_T52 l0 x8_1).f1) ((rd_T52 l0 x8_1).f2.f0) ((rd_T52 l0 x8_1).f2.f1) ((rd_T52 l0 x8_1).f2.f2) g1_0 A1_0 c1_0 l1_0 a1_1 A1_2 c1_2 l1_2 false _ ?side1 ?side2 ?side3 ?side4 ?side5 ?side6 ?side7 A6.out).mono ?_); (case side1 => repeat (first | exact (Kd.C_below HR1_0.out HB.out) | (with_reducible refine Kd.C_alloc ?_ _) | (with_reducible refine Kd.C_drewN ?_ _) | (with_reducible refine Kd.C_drew ?_))); (case side2 => exact HC1_0.out); (case side3 => repeat (first | exact (Kd.C_below HR1_2.out HB.out) | (with_reducible refine Kd.C_alloc ?_ _) | (with_reducible refine Kd.C_drewN ?_ _) | (with_reducible refine Kd.C_drew ?_))); (case side4 => exact HC1_2.out); (case side5 => first | exact CAP1_0.out | exact (HB.out.cell (World.block_lt_of_cell? w _ CAP1_0.out)).trans CAP1_0.out); (case side6 => first | exact CAP1_1.out | exact (HB.out.cell (World.block_lt_of_cell? w _ CAP1_1.out)).trans CAP1_1.out); (case side7 => first | exact CAP1_2.out | exact (HB.out.cell (World.block_lt_of_cell? w _ CAP1_2.out)).trans CAP1_2.out); rintro e w9 ⟨rfl, hb⟩; replace HB := Aside0.mk (below_step (Bb0 HB.out) hb); (try clear hb); (try clear hb2); (try clear hk); (try clear hi)))
       go_roundg k1
       case measure => have := HK1.out; omega
       case rel => exact ⟨(wrap64 (x8_1 + 1)), (by first | rfl | (simp; done) | (simp [*]; done) | (simp; rw [Bool.eq_iff_iff]; simp; done)), H', ⟨by have := HK1.out; omega⟩, ⟨Bb0 HB.out⟩⟩
     ·rw [if_neg c5] at H
      exact absurd H (by simp)
    ·rw [if_neg c4] at H
     exact absurd H (by simp)
   ·rw [if_neg c3] at H
    have c3b0 : decide (x8_1 < (l0.length : Int)) = false := decide_eq_false c3
    clear c3
    obtain rfl := Option.some.inj H
    go_wp2
    go_ret
    exact ⟨by first | rfl | (simp [errW_none, errW_some] <;> rfl) | (simp [*, errW_none, errW_some] <;> rfl), by repeat (first | (with_reducible first | exact HB.out | apply below_alloc | apply pw_below_drewN | apply below_drew1) | exact HB.out)⟩
def impl_Edge_IsProgram_1_54.f (k : Nat) (l0 : List (S52)) (l1_0 : List ByteArray) (a1_1 : Int) (l1_2 : List (S52)) : Option (Bool) := (impl_Edge_IsProgram_1_88.f k l0 l1_0 a1_1 l1_2).bind fun t228 => (some (decide (t228 ≥ 0)))
theorem impl_Edge_IsProgram_1_54.mono : ∀ a0 a1 a2 a3 k, LeO (impl_Edge_IsProgram_1_54.f k a0 a1 a2 a3) (impl_Edge_IsProgram_1_54.f (k + 1) a0 a1 a2 a3) := by
 intro a0 a1 a2 a3 k
 unfold impl_Edge_IsProgram_1_54.f
 repeat' first
   | (with_reducible exact impl_Edge_IsProgram_1_88.mono _ _ _ _ _)
   | (with_reducible exact LeO.refl _)
   | (with_reducible exact LeO.none _)
   | (with_reducible refine LeO.ite ?_ ?_)
   | (with_reducible refine LeO.bind ?_ (fun _ => ?_))
   | exact impl_Edge_IsProgram_1_88.mono _ _ _ _ _
   | exact LeO.none _
   | refine LeO.ite ?_ ?_
   | refine LeO.bind ?_ (fun _ => ?_)
set_option maxHeartbeats 8000000 in
set_option maxRecDepth 100000 in
theorem impl_Edge_IsProgram_1_54.calls (k : Nat) (A0 : Option Addr) (c0 : Nat) (l0 : List (S52)) (g1_0 : Nat) (A1_0 : Option Addr) (c1_0 : Nat) (l1_0 : List ByteArray) (a1_1 : Int) (A1_2 : Option Addr) (c1_2 : Nat) (l1_2 : List (S52)) (r : Bool) (w : World) (hr0 : Kd.C k52 w A0 l0.length l0) (hc0 : l0.length ≤ c0) (hr1_0 : Kd.C Kd.string w A1_0 l1_0.length l1_0) (hc1_0 : l1_0.length ≤ c1_0) (hr1_2 : Kd.C k52 w A1_2 l1_2.length l1_2) (hc1_2 : l1_2.length ≤ c1_2) (hq1_0 : w.cell? ⟨g1_0, 0, none⟩ = some (.slice A1_0 l1_0.length c1_0)) (hq1_1 : w.cell? ⟨g1_0, 1, none⟩ = some (.int .i64 a1_1)) (hq1_2 : w.cell? ⟨g1_0, 2, none⟩ = some (.slice A1_2 l1_2.length c1_2)) (h : impl_Edge_IsProgram_1_54.f k l0 l1_0 a1_1 l1_2 = some r) :
  Calls Tryz.prog 54 #[.slice A0 l0.length c0, .func (.func 55) #[] #[.pointer (some ⟨g1_0, 0, none⟩)]] w fun e w' => e = .returned (.bool r) ∧ Below w.heap.size w w' := by
 have HR0 := Aside0.mk hr0
 have HC0 := Aside0.mk hc0
 clear hr0 hc0
 have HR1_0 := Aside0.mk hr1_0
 have HC1_0 := Aside0.mk hc1_0
 clear hr1_0 hc1_0
 have HR1_2 := Aside0.mk hr1_2
 have HC1_2 := Aside0.mk hc1_2
 clear hr1_2 hc1_2
 have CAP1_0 := Aside0.mk hq1_0
 clear hq1_0
 have CAP1_1 := Aside0.mk hq1_1
 clear hq1_1
 have CAP1_2 := Aside0.mk hq1_2
 clear hq1_2
 have HB := Aside0.mk (Below.refl w.heap.size w)
 have H : ((impl_Edge_IsProgram_1_88.f k l0 l1_0 a1_1 l1_2).bind fun t228 => (some (decide (t228 ≥ 0)))) = some r := h
 clear h
 replace H := Option.bind_eq_some_iff.mp H
 obtain ⟨t228, A30, H⟩ := H
 replace H : (some (decide (t228 ≥ 0))) = some r := H
 have A3 := Aside0.mk A30
 clear A30
 obtain rfl := Option.some.inj H
 go_enter Tryz.func54, Tryz.ntmps54
 go_wp2_with (first | ((with_reducible refine gate_callee (f := 88) rfl ?_); refine goesL_ (some 7) rfl rfl Tryz.func88 (by kernel_rfl) rfl #[.slice A0 l0.length c0, .func (.func 55) #[] #[.pointer (some ⟨g1_0, 0, none⟩)]] rfl (by (try simp only [List.map_toArray, List.map_cons, List.map_nil]); first | done | rfl | (simp only [List.length_drop, List.length_take]; rfl)) ?_; (with_reducible refine (impl_Edge_IsProgram_1_88.calls k _ _ l0 g1_0 A1_0 c1_0 l1_0 a1_1 A1_2 c1_2 l1_2 t228 _ ?side1 ?side2 ?side3 ?side4 ?side5 ?side6 ?side7 ?side8 ?side9 A3.out).mono ?_); (case side1 => repeat (first | exact HR0.out | (with_reducible refine Kd.C_alloc ?_ _) | (with_reducible refine Kd.C_drewN ?_ _) | (with_reducible refine Kd.C_drew ?_))); (case side2 => exact HC0.out); (case side3 => repeat (first | exact HR1_0.out | (with_reducible refine Kd.C_alloc ?_ _) | (with_reducible refine Kd.C_drewN ?_ _) | (with_reducible refine Kd.C_drew ?_))); (case side4 => exact HC1_0.out); (case side5 => repeat (first | exact HR1_2.out | (with_reducible refine Kd.C_alloc ?_ _) | (with_reducible refine Kd.C_drewN ?_ _) | (with_reducible refine Kd.C_drew ?_))); (case side6 => exact HC1_2.out); (case side7 => first | exact CAP1_0.out | exact (HB.out.cell (World.block_lt_of_cell? w _ CAP1_0.out)).trans CAP1_0.out); (case side8 => first | exact CAP1_1.out | exact (HB.out.cell (World.block_lt_of_cell? w _ CAP1_1.out)).trans CAP1_1.out); (case side9 => first | exact CAP1_2.out | exact (HB.out.cell (World.block_lt_of_cell? w _ CAP1_2.out)).trans CAP1_2.out); rintro e w4 ⟨rfl, hb⟩; refine ⟨_, rfl, ?_⟩; replace HB := Aside0.mk (below_step (Bb0 HB.out) hb); (try clear hb); (try clear hb2); (try clear hk); (try clear hi)))
 go_ret
 exact ⟨by first | rfl | (simp [errW_none, errW_some] <;> rfl) | (simp [*, errW_none, errW_some] <;> rfl), by repeat (first | (with_reducible first | exact HB.out | apply below_alloc | apply pw_below_drewN | apply below_drew1) | exact HB.out)⟩
def impl_IsProgram.f (k : Nat) (l0_0 : List ByteArray) (a0_1 : Int) (l0_2 : List (S52)) : Option (Bool) := (impl_AreVars.f k l0_0).bind fun t230 => (if t230 = true then ((impl_within.f a0_1 1 12).bind fun t231 => (if t231 = true then (if (l0_2.length : Int) > 24 then (some false) else ((impl_Edge_IsProgram_1_54.f k l0_2 l0_0 a0_1 l0_2).bind fun t232 => (some (!t232)))) else (some false))) else (some false))
theorem impl_IsProgram.mono : ∀ a0 a1 a2 k, LeO (impl_IsProgram.f k a0 a1 a2) (impl_IsProgram.f (k + 1) a0 a1 a2) := by
 intro a0 a1 a2 k
 unfold impl_IsProgram.f
 repeat' first
   | (with_reducible exact impl_AreVars.mono _ _)
   | (with_reducible exact impl_Edge_IsProgram_1_54.mono _ _ _ _ _)
   | (with_reducible exact LeO.refl _)
   | (with_reducible exact LeO.none _)
   | (with_reducible refine LeO.ite ?_ ?_)
   | (with_reducible refine LeO.bind ?_ (fun _ => ?_))
   | exact impl_AreVars.mono _ _
   | exact impl_Edge_IsProgram_1_54.mono _ _ _ _ _
   | exact LeO.none _
   | refine LeO.ite ?_ ?_
   | refine LeO.bind ?_ (fun _ => ?_)
set_option maxHeartbeats 8000000 in
set_option maxRecDepth 100000 in
theorem impl_IsProgram.calls (k : Nat) (A0_0 : Option Addr) (c0_0 : Nat) (l0_0 : List ByteArray) (a0_1 : Int) (A0_2 : Option Addr) (c0_2 : Nat) (l0_2 : List (S52)) (r : Bool) (w : World) (hr0_0 : Kd.C Kd.string w A0_0 l0_0.length l0_0) (hc0_0 : l0_0.length ≤ c0_0) (hr0_2 : Kd.C k52 w A0_2 l0_2.length l0_2) (hc0_2 : l0_2.length ≤ c0_2) (h : impl_IsProgram.f k l0_0 a0_1 l0_2 = some r) :
  Calls Tryz.prog 17 #[.agg #[.slice A0_0 l0_0.length c0_0, .int .i64 a0_1, .slice A0_2 l0_2.length c0_2]] w fun e w' => e = .returned (.bool r) ∧ Below w.heap.size w w' := by
 have hu30 := Tryz.underlying30
 have HR0_0 := Aside0.mk hr0_0
 have HC0_0 := Aside0.mk hc0_0
 clear hr0_0 hc0_0
 have HR0_2 := Aside0.mk hr0_2
 have HC0_2 := Aside0.mk hc0_2
 clear hr0_2 hc0_2
 have HB := Aside0.mk (Below.refl w.heap.size w)
 have H : ((impl_AreVars.f k l0_0).bind fun t230 => (if t230 = true then ((impl_within.f a0_1 1 12).bind fun t231 => (if t231 = true then (if (l0_2.length : Int) > 24 then (some false) else ((impl_Edge_IsProgram_1_54.f k l0_2 l0_0 a0_1 l0_2).bind fun t232 => (some (!t232)))) else (some false))) else (some false))) = some r := h
 clear h
 replace H := Option.bind_eq_some_iff.mp H
 obtain ⟨t230, A20, H⟩ := H
 replace H : (if t230 = true then ((impl_within.f a0_1 1 12).bind fun t231 => (if t231 = true then (if (l0_2.length : Int) > 24 then (some false) else ((impl_Edge_IsProgram_1_54.f k l0_2 l0_0 a0_1 l0_2).bind fun t232 => (some (!t232)))) else (some false))) else (some false)) = some r := H
 have A2 := Aside0.mk A20
 clear A20
 by_cases c3 : t230 = true
 ·subst c3
  have H1 : ((impl_within.f a0_1 1 12).bind fun t231 => (if t231 = true then (if (l0_2.length : Int) > 24 then (some false) else ((impl_Edge_IsProgram_1_54.f k l0_2 l0_0 a0_1 l0_2).bind fun t232 => (some (!t232)))) else (some false))) = some r := by rw [if_pos rfl] at H; exact H
  clear H
  have H := H1
  clear H1
  replace H := Option.bind_eq_some_iff.mp H
  obtain ⟨t231, A40, H⟩ := H
  replace H : (if t231 = true then (if (l0_2.length : Int) > 24 then (some false) else ((impl_Edge_IsProgram_1_54.f k l0_2 l0_0 a0_1 l0_2).bind fun t232 => (some (!t232)))) else (some false)) = some r := H
  have A4 := Aside0.mk A40
  clear A40
  by_cases c5 : t231 = true
  ·subst c5
   have H1 : (if (l0_2.length : Int) > 24 then (some false) else ((impl_Edge_IsProgram_1_54.f k l0_2 l0_0 a0_1 l0_2).bind fun t232 => (some (!t232)))) = some r := by rw [if_pos rfl] at H; exact H
   clear H
   have H := H1
   clear H1
   by_cases c6 : (l0_2.length : Int) > 24
   ·rw [if_pos c6] at H
    have c6b0 : decide (24 < (l0_2.length : Int)) = true := decide_eq_true c6
    have c6b1 : decide (24 < l0_2.length) = true := decide_eq_true (by omega)
    clear c6
    obtain rfl := Option.some.inj H
    go_enter Tryz.func17, Tryz.ntmps17
    go_wp2_with (first | ((with_reducible refine gate_dst (N := 1) rfl ?_); (try (refine gate_guard (by rfl) ?_; dsimp only)); refine box_event ?hg (N := 1) ?hd (cs := #[.slice A0_0 l0_0.length c0_0, .int .i64 a0_1, .slice A0_2 l0_2.length c0_2]) (t := 30) ?hr ?_; (case hd => rfl); (case hg => rfl); (case hr => first | (go_simp; done) | (go_simp; rfl)); intro gb229 hg w7 hbox hb; have BK229 := Aside0.mk (hbox); have GW229 := Aside0.mk ((by rw [hg]; exact (below_size (Bb0 HB.out)) : w.heap.size ≤ gb229)); have GE229 := Aside0.mk ((by rw [hg]; exact (below_size (Bb0 HB.out)) : w.heap.size ≤ gb229)); replace HB := Aside0.mk (below_step (Bb0 HB.out) hb); clear hb hbox hg; have q8_0 : w7.cell? ⟨gb229, 0, none⟩ = some (.slice A0_0 l0_0.length c0_0) := (blk_cell BK229.out 0).trans rfl; have q8_1 : w7.cell? ⟨gb229, 1, none⟩ = some (.int .i64 a0_1) := (blk_cell BK229.out 1).trans rfl; have q8_2 : w7.cell? ⟨gb229, 2, none⟩ = some (.slice A0_2 l0_2.length c0_2) := (blk_cell BK229.out 2).trans rfl; have u8_0 := blk_frozen BK229.out 0; have u8_1 := blk_frozen BK229.out 1; have u8_2 := blk_frozen BK229.out 2) | ((with_reducible refine gate_callee (f := 52) rfl ?_); refine goesL_ (some 5) rfl rfl Tryz.func52 (by kernel_rfl) rfl #[.slice A0_0 l0_0.length c0_0] rfl (by (try simp only [List.map_toArray, List.map_cons, List.map_nil]); first | done | rfl | (simp only [List.length_drop, List.length_take]; rfl)) ?_; (with_reducible refine (impl_AreVars.calls k _ _ l0_0 true _ ?side1 ?side2 A2.out).mono ?_); (case side1 => repeat (first | exact (Kd.C_below HR0_0.out HB.out) | (with_reducible refine Kd.C_alloc ?_ _) | (with_reducible refine Kd.C_drewN ?_ _) | (with_reducible refine Kd.C_drew ?_))); (case side2 => exact HC0_0.out); rintro e w' ⟨rfl, ⟨nd, rfl⟩⟩; refine ⟨_, rfl, ?_⟩) | (go_at_call 53; (with_reducible refine (impl_within.calls a0_1 1 12 true _ A4.out).mono ?_); rintro e w' ⟨rfl, ⟨nd, rfl⟩⟩))
    go_ret
    exact ⟨by first | rfl | (simp [errW_none, errW_some] <;> rfl) | (simp [*, errW_none, errW_some] <;> rfl), by repeat (first | (with_reducible first | exact HB.out | apply below_alloc | apply pw_below_drewN | apply below_drew1 | refine below_set ?_ GE229.out) | exact HB.out)⟩
   ·rw [if_neg c6] at H
    have c6b0 : decide (24 < (l0_2.length : Int)) = false := decide_eq_false c6
    have c6b1 : decide (24 < l0_2.length) = false := decide_eq_false (by omega)
    clear c6
    replace H := Option.bind_eq_some_iff.mp H
    obtain ⟨t232, A90, H⟩ := H
    replace H : (some (!t232)) = some r := H
    have A9 := Aside0.mk A90
    clear A90
    obtain rfl := Option.some.inj H
    go_enter Tryz.func17, Tryz.ntmps17
    go_wp2_with (first | ((with_reducible refine gate_dst (N := 1) rfl ?_); (try (refine gate_guard (by rfl) ?_; dsimp only)); refine box_event ?hg (N := 1) ?hd (cs := #[.slice A0_0 l0_0.length c0_0, .int .i64 a0_1, .slice A0_2 l0_2.length c0_2]) (t := 30) ?hr ?_; (case hd => rfl); (case hg => rfl); (case hr => first | (go_simp; done) | (go_simp; rfl)); intro gb229 hg w10 hbox hb; have BK229 := Aside0.mk (hbox); have GW229 := Aside0.mk ((by rw [hg]; exact (below_size (Bb0 HB.out)) : w.heap.size ≤ gb229)); have GE229 := Aside0.mk ((by rw [hg]; exact (below_size (Bb0 HB.out)) : w.heap.size ≤ gb229)); replace HB := Aside0.mk (below_step (Bb0 HB.out) hb); clear hb hbox hg; have q11_0 : w10.cell? ⟨gb229, 0, none⟩ = some (.slice A0_0 l0_0.length c0_0) := (blk_cell BK229.out 0).trans rfl; have q11_1 : w10.cell? ⟨gb229, 1, none⟩ = some (.int .i64 a0_1) := (blk_cell BK229.out 1).trans rfl; have q11_2 : w10.cell? ⟨gb229, 2, none⟩ = some (.slice A0_2 l0_2.length c0_2) := (blk_cell BK229.out 2).trans rfl; have u11_0 := blk_frozen BK229.out 0; have u11_1 := blk_frozen BK229.out 1; have u11_2 := blk_frozen BK229.out 2) | ((with_reducible refine gate_callee (f := 52) rfl ?_); refine goesL_ (some 5) rfl rfl Tryz.func52 (by kernel_rfl) rfl #[.slice A0_0 l0_0.length c0_0] rfl (by (try simp only [List.map_toArray, List.map_cons, List.map_nil]); first | done | rfl | (simp only [List.length_drop, List.length_take]; rfl)) ?_; (with_reducible refine (impl_AreVars.calls k _ _ l0_0 true _ ?side1 ?side2 A2.out).mono ?_); (case side1 => repeat (first | exact (Kd.C_below HR0_0.out HB.out) | (with_reducible refine Kd.C_alloc ?_ _) | (with_reducible refine Kd.C_drewN ?_ _) | (with_reducible refine Kd.C_drew ?_))); (case side2 => exact HC0_0.out); rintro e w' ⟨rfl, ⟨nd, rfl⟩⟩; refine ⟨_, rfl, ?_⟩) | (go_at_call 53; (with_reducible refine (impl_within.calls a0_1 1 12 true _ A4.out).mono ?_); rintro e w' ⟨rfl, ⟨nd, rfl⟩⟩) | ((with_reducible refine gate_callee (f := 54) rfl ?_); refine goesL_ (some 22) rfl rfl Tryz.func54 (by kernel_rfl) rfl #[.slice A0_2 l0_2.length c0_2, .func (.func 55) #[] #[.pointer (some ⟨gb229, 0, none⟩)]] rfl (by (try simp only [List.map_toArray, List.map_cons, List.map_nil]); first | done | rfl | (simp only [List.length_drop, List.length_take]; rfl)) ?_; (with_reducible refine (impl_Edge_IsProgram_1_54.calls k _ _ l0_2 gb229 A0_0 c0_0 l0_0 a0_1 A0_2 c0_2 l0_2 t232 _ ?side1 ?side2 ?side3 ?side4 ?side5 ?side6 ?side7 ?side8 ?side9 A9.out).mono ?_); (case side1 => repeat (first | exact (Kd.C_below HR0_2.out (Bb1 HB.out GE229.out)) | (with_reducible refine Kd.C_alloc ?_ _) | (with_reducible refine Kd.C_drewN ?_ _) | (with_reducible refine Kd.C_drew ?_))); (case side2 => exact HC0_2.out); (case side3 => repeat (first | exact (Kd.C_below HR0_0.out (Bb1 HB.out GE229.out)) | (with_reducible refine Kd.C_alloc ?_ _) | (with_reducible refine Kd.C_drewN ?_ _) | (with_reducible refine Kd.C_drew ?_))); (case side4 => exact HC0_0.out); (case side5 => repeat (first | exact (Kd.C_below HR0_2.out (Bb1 HB.out GE229.out)) | (with_reducible refine Kd.C_alloc ?_ _) | (with_reducible refine Kd.C_drewN ?_ _) | (with_reducible refine Kd.C_drew ?_))); (case side6 => exact HC0_2.out); (case side7 => exact (blk_cell (g := gb229) (cs := #[.slice A0_0 l0_0.length c0_0, .int .i64 a0_1, .slice A0_2 l0_2.length c0_2]) (t := 30) (Ba BK229.out) 0).trans rfl); (case side8 => exact (blk_cell (g := gb229) (cs := #[.slice A0_0 l0_0.length c0_0, .int .i64 a0_1, .slice A0_2 l0_2.length c0_2]) (t := 30) (Ba BK229.out) 1).trans rfl); (case side9 => exact (blk_cell (g := gb229) (cs := #[.slice A0_0 l0_0.length c0_0, .int .i64 a0_1, .slice A0_2 l0_2.length c0_2]) (t := 30) (Ba BK229.out) 2).trans rfl); rintro e w12 ⟨rfl, hb⟩; refine ⟨_, rfl, ?_⟩; replace BK229 := Aside0.mk (blk_below (g := gb229) (o := .cells #[.slice A0_0 l0_0.length c0_0, .int .i64 a0_1, .slice A0_2 l0_2.length c0_2] 30 (0, 0)) (Ba BK229.out) hb); replace HB := Aside0.mk (below_step (Bb1 HB.out GE229.out) hb); (try clear hb); (try clear hb2); (try clear hk); (try clear hi)))
    go_ret
    exact ⟨by first | rfl | (simp [errW_none, errW_some] <;> rfl) | (simp [*, errW_none, errW_some] <;> rfl), by repeat (first | (with_reducible first | exact HB.out | apply below_alloc | apply pw_below_drewN | apply below_drew1 | refine below_set ?_ GE229.out) | exact HB.out)⟩
  ·replace c5 := Bool.eq_false_iff.mpr c5
   subst c5
   have H1 : (some false) = some r := by rw [if_neg (show ¬ (false = true) by decide)] at H; exact H
   clear H
   have H := H1
   clear H1
   obtain rfl := Option.some.inj H
   go_enter Tryz.func17, Tryz.ntmps17
   go_wp2_with (first | ((with_reducible refine gate_dst (N := 1) rfl ?_); (try (refine gate_guard (by rfl) ?_; dsimp only)); refine box_event ?hg (N := 1) ?hd (cs := #[.slice A0_0 l0_0.length c0_0, .int .i64 a0_1, .slice A0_2 l0_2.length c0_2]) (t := 30) ?hr ?_; (case hd => rfl); (case hg => rfl); (case hr => first | (go_simp; done) | (go_simp; rfl)); intro gb229 hg w13 hbox hb; have BK229 := Aside0.mk (hbox); have GW229 := Aside0.mk ((by rw [hg]; exact (below_size (Bb0 HB.out)) : w.heap.size ≤ gb229)); have GE229 := Aside0.mk ((by rw [hg]; exact (below_size (Bb0 HB.out)) : w.heap.size ≤ gb229)); replace HB := Aside0.mk (below_step (Bb0 HB.out) hb); clear hb hbox hg; have q14_0 : w13.cell? ⟨gb229, 0, none⟩ = some (.slice A0_0 l0_0.length c0_0) := (blk_cell BK229.out 0).trans rfl; have q14_1 : w13.cell? ⟨gb229, 1, none⟩ = some (.int .i64 a0_1) := (blk_cell BK229.out 1).trans rfl; have q14_2 : w13.cell? ⟨gb229, 2, none⟩ = some (.slice A0_2 l0_2.length c0_2) := (blk_cell BK229.out 2).trans rfl; have u14_0 := blk_frozen BK229.out 0; have u14_1 := blk_frozen BK229.out 1; have u14_2 := blk_frozen BK229.out 2) | ((with_reducible refine gate_callee (f := 52) rfl ?_); refine goesL_ (some 5) rfl rfl Tryz.func52 (by kernel_rfl) rfl #[.slice A0_0 l0_0.length c0_0] rfl (by (try simp only [List.map_toArray, List.map_cons, List.map_nil]); first | done | rfl | (simp only [List.length_drop, List.length_take]; rfl)) ?_; (with_reducible refine (impl_AreVars.calls k _ _ l0_0 true _ ?side1 ?side2 A2.out).mono ?_); (case side1 => repeat (first | exact (Kd.C_below HR0_0.out HB.out) | (with_reducible refine Kd.C_alloc ?_ _) | (with_reducible refine Kd.C_drewN ?_ _) | (with_reducible refine Kd.C_drew ?_))); (case side2 => exact HC0_0.out); rintro e w' ⟨rfl, ⟨nd, rfl⟩⟩; refine ⟨_, rfl, ?_⟩) | (go_at_call 53; (with_reducible refine (impl_within.calls a0_1 1 12 false _ A4.out).mono ?_); rintro e w' ⟨rfl, ⟨nd, rfl⟩⟩))
   go_ret
   exact ⟨by first | rfl | (simp [errW_none, errW_some] <;> rfl) | (simp [*, errW_none, errW_some] <;> rfl), by repeat (first | (with_reducible first | exact HB.out | apply below_alloc | apply pw_below_drewN | apply below_drew1 | refine below_set ?_ GE229.out) | exact HB.out)⟩
 ·replace c3 := Bool.eq_false_iff.mpr c3
  subst c3
  have H1 : (some false) = some r := by rw [if_neg (show ¬ (false = true) by decide)] at H; exact H
  clear H
  have H := H1
  clear H1
  obtain rfl := Option.some.inj H
  go_enter Tryz.func17, Tryz.ntmps17
  go_wp2_with (first | ((with_reducible refine gate_dst (N := 1) rfl ?_); (try (refine gate_guard (by rfl) ?_; dsimp only)); refine box_event ?hg (N := 1) ?hd (cs := #[.slice A0_0 l0_0.length c0_0, .int .i64 a0_1, .slice A0_2 l0_2.length c0_2]) (t := 30) ?hr ?_; (case hd => rfl); (case hg => rfl); (case hr => first | (go_simp; done) | (go_simp; rfl)); intro gb229 hg w15 hbox hb; have BK229 := Aside0.mk (hbox); have GW229 := Aside0.mk ((by rw [hg]; exact (below_size (Bb0 HB.out)) : w.heap.size ≤ gb229)); have GE229 := Aside0.mk ((by rw [hg]; exact (below_size (Bb0 HB.out)) : w.heap.size ≤ gb229)); replace HB := Aside0.mk (below_step (Bb0 HB.out) hb); clear hb hbox hg; have q16_0 : w15.cell? ⟨gb229, 0, none⟩ = some (.slice A0_0 l0_0.length c0_0) := (blk_cell BK229.out 0).trans rfl; have q16_1 : w15.cell? ⟨gb229, 1, none⟩ = some (.int .i64 a0_1) := (blk_cell BK229.out 1).trans rfl; have q16_2 : w15.cell? ⟨gb229, 2, none⟩ = some (.slice A0_2 l0_2.length c0_2) := (blk_cell BK229.out 2).trans rfl; have u16_0 := blk_frozen BK229.out 0; have u16_1 := blk_frozen BK229.out 1; have u16_2 := blk_frozen BK229.out 2) | ((with_reducible refine gate_callee (f := 52) rfl ?_); refine goesL_ (some 5) rfl rfl Tryz.func52 (by kernel_rfl) rfl #[.slice A0_0 l0_0.length c0_0] rfl (by (try simp only [List.map_toArray, List.map_cons, List.map_nil]); first | done | rfl | (simp only [List.length_drop, List.length_take]; rfl)) ?_; (with_reducible refine (impl_AreVars.calls k _ _ l0_0 false _ ?side1 ?side2 A2.out).mono ?_); (case side1 => repeat (first | exact (Kd.C_below HR0_0.out HB.out) | (with_reducible refine Kd.C_alloc ?_ _) | (with_reducible refine Kd.C_drewN ?_ _) | (with_reducible refine Kd.C_drew ?_))); (case side2 => exact HC0_0.out); rintro e w' ⟨rfl, ⟨nd, rfl⟩⟩; refine ⟨_, rfl, ?_⟩))
  go_ret
  exact ⟨by first | rfl | (simp [errW_none, errW_some] <;> rfl) | (simp [*, errW_none, errW_some] <;> rfl), by repeat (first | (with_reducible first | exact HB.out | apply below_alloc | apply pw_below_drewN | apply below_drew1 | refine below_set ?_ GE229.out) | exact HB.out)⟩
def strings_Join.f (l0 : List ByteArray) (a1 : ByteArray) : Option ByteArray := if l0.length ≤ 140737488355328 ∧ (Go.Lib.join (l0.map (·.data.toList)) a1.data.toList).length ≤ 140737488355328 then some ⟨(Go.Lib.join (l0.map (·.data.toList)) a1.data.toList).toArray⟩ else none
theorem strings_Join.calls (A0 : Option Addr) (c0 : Nat) (l0 : List ByteArray) (a1 : ByteArray) (r : ByteArray) (w : World) (hr0 : Kd.C Kd.string w A0 l0.length l0) (hc0 : l0.length ≤ c0) (h : strings_Join.f l0 a1 = some r) :
  Calls Tryz.prog 71 #[.slice A0 l0.length c0, .string a1] w fun e w' => e = .returned (.string r) ∧ Below w.heap.size w w' := by
 unfold strings_Join.f at h
 split at h
 case isFalse => cases h
 case isTrue hl =>
 obtain rfl := Option.some.inj h
 have hR := Kd.reads_of_C (enc := Value.string) (d := ByteArray.empty) (h1 := fun _ => rfl) hr0
 cases l0 with
 | nil =>
  refine (Go.Proofs.YtndkkpjofddfjaaGreatDoorShelf.strings_Join_none A0 c0 a1 w).mono ?_
  rintro e w' ⟨rfl, rfl⟩
  exact ⟨rfl, Below.refl _ _⟩
 | cons x xs =>
  obtain ⟨ad, e, hc⟩ := hR.2.2 (by simp)
  subst e
  have h0 := hc 0 (by simp)
  have hsp : ad.spot = none := by
   unfold World.cell? at h0
   split at h0
   ·split at h0
    ·cases h0
    ·rename_i hs; exact Option.not_isSome_iff_eq_none.mp hs
   ·cases h0
  obtain ⟨bk, o, sp⟩ := ad
  dsimp only at hsp
  subst hsp
  refine (Go.Proofs.YtndkkpjofddfjaaGreatDoorShelf.strings_Join bk o c0 (x :: xs) a1 w (fun j y hj => ?_) (World.block_lt_of_cell? w _ h0) hl.1 hc0 hl.2).mono ?_
  ·have hj' : j < (x :: xs).length := by
    rcases Nat.lt_or_ge j (x :: xs).length with h' | h'
    ·exact h'
    ·rw [List.getElem?_eq_none h'] at hj; cases hj
   have := hc j hj'
   have hadd : Addr.add ⟨bk, o, none⟩ j = ⟨bk, o + j, none⟩ := by
    unfold Addr.add
    by_cases hz : j = 0
    ·subst hz; rfl
    ·rw [if_neg hz]
   rw [hadd] at this
   rw [this]
   rw [List.getElem?_eq_getElem hj'] at hj
   rw [List.getD_eq_getElem?_getD, List.getElem?_eq_getElem hj']
   have := Option.some.inj hj
   rw [← this]
   rfl
  ·rintro e w' ⟨rfl, hb⟩
   exact ⟨rfl, hb⟩
def impl_Join.f (l0 : List ByteArray) (a1 : ByteArray) : Option (ByteArray) := (strings_Join.f l0 a1).bind fun t233 => (some t233)
set_option maxHeartbeats 8000000 in
set_option maxRecDepth 100000 in
theorem impl_Join.calls (A0 : Option Addr) (c0 : Nat) (l0 : List ByteArray) (a1 : ByteArray) (r : ByteArray) (w : World) (hr0 : Kd.C Kd.string w A0 l0.length l0) (hc0 : l0.length ≤ c0) (h : impl_Join.f l0 a1 = some r) :
  Calls Tryz.prog 34 #[.slice A0 l0.length c0, .string a1] w fun e w' => e = .returned (.string r) ∧ Below w.heap.size w w' := by
 have HR0 := Aside0.mk hr0
 have HC0 := Aside0.mk hc0
 clear hr0 hc0
 have HB := Aside0.mk (Below.refl w.heap.size w)
 have H : ((strings_Join.f l0 a1).bind fun t233 => (some t233)) = some r := h
 clear h
 replace H := Option.bind_eq_some_iff.mp H
 obtain ⟨t233, A30, H⟩ := H
 replace H : (some t233) = some r := H
 have A3 := Aside0.mk A30
 clear A30
 obtain rfl := Option.some.inj H
 go_enter Tryz.func34, Tryz.ntmps34
 go_wp2_with (first | ((with_reducible refine gate_callee (f := 71) rfl ?_); refine goesL_ (some 7) rfl rfl Tryz.func71 (by kernel_rfl) rfl #[.slice A0 l0.length c0, .string a1] rfl (by (try simp only [List.map_toArray, List.map_cons, List.map_nil]); first | done | rfl | (simp only [List.length_drop, List.length_take]; rfl)) ?_; (with_reducible refine (strings_Join.calls _ _ l0 a1 t233 _ ?side1 ?side2 A3.out).mono ?_); (case side1 => repeat (first | exact HR0.out | (with_reducible refine Kd.C_alloc ?_ _) | (with_reducible refine Kd.C_drewN ?_ _) | (with_reducible refine Kd.C_drew ?_))); (case side2 => exact HC0.out); rintro e w4 ⟨rfl, hb⟩; refine ⟨_, rfl, ?_⟩; replace HB := Aside0.mk (below_step (Bb0 HB.out) hb); (try clear hb); (try clear hb2); (try clear hk); (try clear hi)))
 go_ret
 exact ⟨by first | rfl | (simp [errW_none, errW_some] <;> rfl) | (simp [*, errW_none, errW_some] <;> rfl), by repeat (first | (with_reducible first | exact HB.out | apply below_alloc | apply pw_below_drewN | apply below_drew1) | exact HB.out)⟩
def strconv_Itoa.f (a0 : Int) : Option ByteArray := if -9223372036854775808 ≤ a0 ∧ a0 ≤ 9223372036854775807 then some ⟨(Go.Lib.itoa a0).toArray⟩ else none
theorem strconv_Itoa.calls (a0 : Int) (r : ByteArray) (w : World) (hw_LaidI : LaidI w) (h : strconv_Itoa.f a0 = some r) :
  Calls Tryz.prog 72 #[.int .i64 a0] w fun e w' => e = .returned (.string r) ∧ Below w.heap.size w w' := by
 unfold strconv_Itoa.f at h
 split at h
 case isFalse => cases h
 case isTrue hl =>
 obtain rfl := Option.some.inj h
 refine (Go.Proofs.YtndkkpjofddfjaaGreatDoorShelf.strconv_Itoa a0 hl.1 hl.2 w hw_LaidI).mono ?_
 rintro e w' ⟨rfl, k, os, rfl⟩
 exact ⟨rfl, Go.Lib.below_grow _ w (Nat.le_refl _) k os⟩
def impl_FormatInt.f (a0 : Int) : Option (ByteArray) := (strconv_Itoa.f a0).bind fun t234 => (some t234)
set_option maxHeartbeats 8000000 in
set_option maxRecDepth 100000 in
theorem impl_FormatInt.calls (a0 : Int) (r : ByteArray) (w : World) (hw_LaidI : LaidI w) (h : impl_FormatInt.f a0 = some r) :
  Calls Tryz.prog 35 #[.int .i64 a0] w fun e w' => e = .returned (.string r) ∧ Below w.heap.size w w' := by
 have W_LaidI := Aside0.mk hw_LaidI
 clear hw_LaidI
 have HB := Aside0.mk (Below.refl w.heap.size w)
 have H : ((strconv_Itoa.f a0).bind fun t234 => (some t234)) = some r := h
 clear h
 replace H := Option.bind_eq_some_iff.mp H
 obtain ⟨t234, A20, H⟩ := H
 replace H : (some t234) = some r := H
 have A2 := Aside0.mk A20
 clear A20
 obtain rfl := Option.some.inj H
 go_enter Tryz.func35, Tryz.ntmps35
 go_wp2_with (first | ((with_reducible refine gate_callee (f := 72) rfl ?_); refine goesL_ (some 4) rfl rfl Tryz.func72 (by kernel_rfl) rfl #[.int .i64 a0] rfl (by (try simp only [List.map_toArray, List.map_cons, List.map_nil]); first | done | rfl | (simp only [List.length_drop, List.length_take]; rfl)) ?_; (with_reducible refine (strconv_Itoa.calls a0 t234 _ ?side1 A2.out).mono ?_); (case side1 => first | exact W_LaidI.out | exact W_LaidI.out.drewN _ | exact W_LaidI.out.below (Bb0 HB.out) | exact (W_LaidI.out.below (Bb0 HB.out)).drewN _); rintro e w3 ⟨rfl, hb⟩; refine ⟨_, rfl, ?_⟩; replace HB := Aside0.mk (below_step (Bb0 HB.out) hb); (try clear hb); (try clear hb2); (try clear hk); (try clear hi)))
 go_ret
 exact ⟨by first | rfl | (simp [errW_none, errW_some] <;> rfl) | (simp [*, errW_none, errW_some] <;> rfl), by repeat (first | (with_reducible first | exact HB.out | apply below_alloc | apply pw_below_drewN | apply below_drew1) | exact HB.out)⟩
def impl_Stmt_hasNames_IsName.l0 : Nat → Int → List ByteArray → Int → Int → Option (Bool)
 | 0, _, _, _, _ => none
 | k + 1, x5, x15, x16, x17 => if x17 < x16 then (if 0 ≤ x17 then (if x17 < (x15.length : Int) then (if x17 < x5 then ((impl_IsName.f k (rdOf ByteArray.empty x15 x17)).bind fun t241 => (if t241 = true then (if x17 ≥ x5 then (if (rdOf ByteArray.empty x15 x17).toList = ([] : List UInt8) then (impl_Stmt_hasNames_IsName.l0 k x5 x15 x16 (wrap64 (x17 + 1))) else (some false)) else (impl_Stmt_hasNames_IsName.l0 k x5 x15 x16 (wrap64 (x17 + 1)))) else (some false))) else (if x17 ≥ x5 then (if (rdOf ByteArray.empty x15 x17).toList = ([] : List UInt8) then (impl_Stmt_hasNames_IsName.l0 k x5 x15 x16 (wrap64 (x17 + 1))) else (some false)) else (impl_Stmt_hasNames_IsName.l0 k x5 x15 x16 (wrap64 (x17 + 1))))) else (none)) else (none)) else (some (decide (x5 ≥ 0)))
def impl_Stmt_hasNames_IsName.f (k : Nat) (a0_0 : Int) (a0_1 : ByteArray) (a0_2 : ByteArray)  : Option (Bool) := (impl_NamesOf.f a0_0).bind fun t236 => ((some (([a0_1, a0_2] : List ByteArray) : List ByteArray)).bind fun y237 => (impl_Stmt_hasNames_IsName.l0 k t236 y237 (y237.length : Int) 0))
theorem impl_Stmt_hasNames_IsName.mono_l : ∀ k, (∀ y0 y1 y2 y3, LeO (impl_Stmt_hasNames_IsName.l0 k y0 y1 y2 y3) (impl_Stmt_hasNames_IsName.l0 (k + 1) y0 y1 y2 y3))
 | 0 => fun _ _ _ _ r h => by simp [impl_Stmt_hasNames_IsName.l0] at h
 | k + 1 => by
  have ih0 := impl_Stmt_hasNames_IsName.mono_l k
  ·intro y0 y1 y2 y3
   unfold impl_Stmt_hasNames_IsName.l0
   repeat' first
   | (with_reducible exact ih0 _ _ _ _)
   | (with_reducible exact impl_IsName.mono _ _)
   | (with_reducible exact LeO.refl _)
   | (with_reducible exact LeO.none _)
   | (with_reducible refine LeO.ite ?_ ?_)
   | (with_reducible refine LeO.bind ?_ (fun _ => ?_))
   | exact ih0 _ _ _ _
   | exact impl_IsName.mono _ _
   | exact LeO.none _
   | refine LeO.ite ?_ ?_
   | refine LeO.bind ?_ (fun _ => ?_)
theorem impl_Stmt_hasNames_IsName.mono : ∀ a0 a1 a2 k, LeO (impl_Stmt_hasNames_IsName.f k a0 a1 a2) (impl_Stmt_hasNames_IsName.f (k + 1) a0 a1 a2) := by
 intro a0 a1 a2 k
 have ih0 := impl_Stmt_hasNames_IsName.mono_l k
 unfold impl_Stmt_hasNames_IsName.f
 repeat' first
   | (with_reducible exact ih0 _ _ _ _)
   | (with_reducible exact impl_IsName.mono _ _)
   | (with_reducible exact LeO.refl _)
   | (with_reducible exact LeO.none _)
   | (with_reducible refine LeO.ite ?_ ?_)
   | (with_reducible refine LeO.bind ?_ (fun _ => ?_))
   | exact ih0 _ _ _ _
   | exact impl_IsName.mono _ _
   | exact LeO.none _
   | refine LeO.ite ?_ ?_
   | refine LeO.bind ?_ (fun _ => ?_)
set_option maxHeartbeats 8000000 in
set_option maxRecDepth 100000 in
theorem impl_Stmt_hasNames_IsName.calls (k : Nat) (a0_0 : Int) (a0_1 : ByteArray) (a0_2 : ByteArray)  (r : Bool) (w : World) (h : impl_Stmt_hasNames_IsName.f k a0_0 a0_1 a0_2 = some r) :
  Calls Tryz.prog 73 #[.agg #[.int .i64 a0_0, .string a0_1, .string a0_2], .func (.func 74) #[] #[]] w fun e w' => e = .returned (.bool r) ∧ Below w.heap.size w w' := by
 have hu50 := Tryz.underlying50
 have HB := Aside0.mk (Below.refl w.heap.size w)
 have H : ((impl_NamesOf.f a0_0).bind fun t236 => ((some (([a0_1, a0_2] : List ByteArray) : List ByteArray)).bind fun y237 => (impl_Stmt_hasNames_IsName.l0 k t236 y237 (y237.length : Int) 0))) = some r := h
 clear h
 replace H := Option.bind_eq_some_iff.mp H
 obtain ⟨t236, A30, H⟩ := H
 replace H : ((some (([a0_1, a0_2] : List ByteArray) : List ByteArray)).bind fun y237 => (impl_Stmt_hasNames_IsName.l0 k t236 y237 (y237.length : Int) 0)) = some r := H
 have A3 := Aside0.mk A30
 clear A30
 obtain ⟨y237, hy237⟩ : ∃ y_ : List ByteArray, y_ = (([a0_1, a0_2] : List ByteArray)) := ⟨_, rfl⟩
 replace H : (impl_Stmt_hasNames_IsName.l0 k t236 y237 (y237.length : Int) 0) = some r := by first | (rw [hy237]; with_reducible exact H) | (have H2_ := (Option.bind_some _ _).symm.trans H; rw [hy237]; with_reducible exact H2_) | (have H2_ := (Option.bind_some _ _).symm.trans H; with_reducible exact H2_) | with_reducible exact H | (rw [hy237]; exact H) | exact H
 have Ny237 := Aside0.mk hy237
 clear hy237
 have H' := Aside0.mk H
 clear H
 go_enter Tryz.func73, Tryz.ntmps73
 go_wp2_with (first | ((with_reducible refine gate_dst (N := 2) rfl ?_); refine box_event ?hg (N := 2) ?hd (cs := #[.int .i64 a0_0, .string a0_1, .string a0_2]) (t := 50) ?hr ?_; (case hd => rfl); (case hg => rfl); (case hr => first | (go_simp; done) | (go_simp; rfl)); intro gb235 hg w4 hbox hb; have BK235 := Aside0.mk (hbox); have GW235 := Aside0.mk ((by rw [hg]; exact (below_size (Bb0 HB.out)) : w.heap.size ≤ gb235)); have GE235 := Aside0.mk ((by rw [hg]; exact (below_size (Bb0 HB.out)) : w.heap.size ≤ gb235)); replace HB := Aside0.mk (below_step (Bb0 HB.out) hb); clear hb hbox hg; have q5_0 : w4.cell? ⟨gb235, 0, none⟩ = some (.int .i64 a0_0) := (blk_cell BK235.out 0).trans rfl; have q5_1 : w4.cell? ⟨gb235, 1, none⟩ = some (.string a0_1) := (blk_cell BK235.out 1).trans rfl; have q5_2 : w4.cell? ⟨gb235, 2, none⟩ = some (.string a0_2) := (blk_cell BK235.out 2).trans rfl; have u5_0 := blk_frozen BK235.out 0; have u5_1 := blk_frozen BK235.out 1; have u5_2 := blk_frozen BK235.out 2) | ((with_reducible refine gate_callee (f := 103) rfl ?_); refine goesL_ (some 10) rfl rfl Tryz.func103 (by kernel_rfl) rfl #[.int .i64 a0_0] rfl (by (try simp only [List.map_toArray, List.map_cons, List.map_nil]); first | done | rfl | (simp only [List.length_drop, List.length_take]; rfl)) ?_; (with_reducible refine (impl_NamesOf.calls a0_0 t236 _ A3.out).mono ?_); rintro e w6 ⟨rfl, hb⟩; refine ⟨_, rfl, ?_⟩; replace BK235 := Aside0.mk (blk_below (g := gb235) (o := .cells #[.int .i64 a0_0, .string a0_1, .string a0_2] 50 (0, 0)) (Ba BK235.out) hb); replace HB := Aside0.mk (below_step (Bb1 HB.out GE235.out) hb); (try clear hb); (try clear hb2); (try clear hk); (try clear hi); have q7_0 : w6.cell? ⟨gb235, 0, none⟩ = some (.int .i64 a0_0) := (blk_cell BK235.out 0).trans rfl; have q7_1 : w6.cell? ⟨gb235, 1, none⟩ = some (.string a0_1) := (blk_cell BK235.out 1).trans rfl; have q7_2 : w6.cell? ⟨gb235, 2, none⟩ = some (.string a0_2) := (blk_cell BK235.out 2).trans rfl; have u7_0 := blk_frozen BK235.out 0; have u7_1 := blk_frozen BK235.out 1; have u7_2 := blk_frozen BK235.out 2) | ((with_reducible refine gate_dst (N := 15) rfl ?_); refine Kd.R_lit Kd.string _ 9 ?hg (N := 15) ?hd (xs := ([a0_1, a0_2] : List ByteArray)) (inner := [.string a0_1, .string a0_2]) (ok := fun _ => True) (okp := fun _ => True) ?hr ?hp (fun _ hk => hk) trivial (Below.refl _ _) (Nat.le_refl _) (by simp) ?_; (case hd => rfl); (case hg => rfl); (case hr => first | (go_simp; done) | (go_simp; rfl)); (case hp => exact (Reps.one (show Kd.M Kd.string _ _ _ a0_1 [.string a0_1] from rfl) (Reps.one (show Kd.M Kd.string _ _ _ a0_2 [.string a0_2] from rfl) (Reps.none _ _)))); intro v238 w8 ho9 hb hg_ hnew_; clear hg_ hnew_; (first | rw [← Ny237.out] at ho9 | (simp only [Int.reduceToNat] at ho9; rw [← Ny237.out] at ho9)); have HO239 := Aside0.mk (Kd.R_lower ho9 (below_size (Bb1 HB.out GE235.out))); replace BK235 := Aside0.mk (blk_below (g := gb235) (o := .cells #[.int .i64 a0_0, .string a0_1, .string a0_2] 50 (0, 0)) (Ba BK235.out) hb); replace HB := Aside0.mk (below_step (Bb1 HB.out GE235.out) hb); clear hb ho9; obtain ⟨Ao10, co10, eo10⟩ := Kd.R_slice HO239.out; subst eo10))
 go_loopg [17] k (fun kq v17 w' => ∃ (x17_1 : Int), v17 = .int .i64 x17_1 ∧ Aside0 (impl_Stmt_hasNames_IsName.l0 kq t236 y237 (y237.length : Int) x17_1 = some r) ∧ Aside0 (kq ≤ k) ∧ Aside0 (Kd.R Kd.string 9 w' w.heap.size (fun _ => True) (.slice Ao10 y237.length co10) y237) ∧ Aside0 (w'.heap[gb235]? = some (.cells #[.int .i64 a0_0, .string a0_1, .string a0_2] 50 (0, 0))) ∧ Aside0 (Below w.heap.size w w'))
 case atStart => exact ⟨(0), (by first | rfl | (simp; done) | (simp [*]; done) | (simp; rw [Bool.eq_iff_iff]; simp; done)), H', ⟨Nat.le_refl _⟩, ⟨by (with_reducible repeat (first | apply Kd.R_alloc | apply Kd.R_drewN | apply Kd.R_drew)); exact HO239.out⟩, ⟨Ba BK235.out⟩, ⟨Bb1 HB.out GE235.out⟩⟩
 case round =>
  clear H'
  try clear c1
  try clear p2
  try clear c9
  try clear c10
  try clear q5_0
  try clear q5_1
  try clear q5_2
  try clear q7_0
  try clear q7_1
  try clear q7_2
  try clear u5_0
  try clear u5_1
  try clear u5_2
  try clear u7_0
  try clear u7_1
  try clear u7_2
  obtain ⟨x17_1, rfl, HA, HK1, HO_15, BK235, HB⟩ := hrel
  cases gk with
  | zero => exact absurd HA.out (by simp [impl_Stmt_hasNames_IsName.l0])
  | succ k1 =>
   have H := HA.out
   clear HA
   simp only [impl_Stmt_hasNames_IsName.l0] at H
   by_cases c11 : x17_1 < (y237.length : Int)
   ·rw [if_pos c11] at H
    have c11b0 : decide (x17_1 < (y237.length : Int)) = true := decide_eq_true c11
    clear c11
    by_cases c12 : 0 ≤ x17_1
    ·rw [if_pos c12] at H
     have c12b0 : decide (0 ≤ x17_1) = true := decide_eq_true c12
     clear c12
     by_cases c13 : x17_1 < (y237.length : Int)
     ·rw [if_pos c13] at H
      have c13b0 : decide (x17_1 < (y237.length : Int)) = true := decide_eq_true c13
      clear c13
      by_cases c14 : x17_1 < t236
      ·rw [if_pos c14] at H
       have c14b0 : decide (x17_1 < t236) = true := decide_eq_true c14
       clear c14
       replace H := Option.bind_eq_some_iff.mp H
       obtain ⟨t241, A150, H⟩ := H
       replace H : (if t241 = true then (if x17_1 ≥ t236 then (if (rdOf ByteArray.empty y237 x17_1).toList = ([] : List UInt8) then (impl_Stmt_hasNames_IsName.l0 k1 t236 y237 (y237.length : Int) (wrap64 (x17_1 + 1))) else (some false)) else (impl_Stmt_hasNames_IsName.l0 k1 t236 y237 (y237.length : Int) (wrap64 (x17_1 + 1)))) else (some false)) = some r := H
       have A15 := Aside0.mk A150
       clear A150
       by_cases c16 : t241 = true
       ·subst c16
        have H1 : (if x17_1 ≥ t236 then (if (rdOf ByteArray.empty y237 x17_1).toList = ([] : List UInt8) then (impl_Stmt_hasNames_IsName.l0 k1 t236 y237 (y237.length : Int) (wrap64 (x17_1 + 1))) else (some false)) else (impl_Stmt_hasNames_IsName.l0 k1 t236 y237 (y237.length : Int) (wrap64 (x17_1 + 1)))) = some r := by rw [if_pos rfl] at H; exact H
        clear H
        have H := H1
        clear H1
        by_cases c17 : x17_1 ≥ t236
        ·rw [if_pos c17] at H
         have c17b0 : decide (t236 ≤ x17_1) = true := decide_eq_true c17
         clear c17
         by_cases c18 : (rdOf ByteArray.empty y237 x17_1).toList = ([] : List UInt8)
         ·rw [if_pos c18] at H
          have c18b0 : ((rdOf ByteArray.empty y237 x17_1).toList == ([] : List UInt8)) = true := beq_iff_eq.mpr c18
          have c18b1 : ((rdOf ByteArray.empty y237 x17_1).toList != ([] : List UInt8)) = false := bne_eq_false_iff_eq.mpr c18
          clear c18
          have H' := Aside0.mk H
          clear H
          have p240 : 0 ≤ (x17_1 : Int) := of_decide_eq_true (by first | (with_reducible assumption) | assumption)
          have q240 : x17_1 < (y237.length : Int) := of_decide_eq_true (by first | (with_reducible assumption) | assumption)
          obtain ⟨ad240, e240, hx240_0⟩ := Kd.at_string (Kd.R_reads' HO_15.out).2.2 x17_1 p240 q240
          cases e240
          replace p240 := eq_true p240
          replace q240 := eq_true q240
          go_wp2_with (first | (go_at_call 74; (with_reducible refine (impl_IsName.calls k1 (rdOf ByteArray.empty y237 x17_1) true _ A15.out).mono ?_); rintro e w' ⟨rfl, ⟨nd, rfl⟩⟩))
          go_roundg k1
          case measure => have := HK1.out; omega
          case rel => exact ⟨(wrap64 (x17_1 + 1)), (by first | rfl | (simp; done) | (simp [*]; done) | (simp; rw [Bool.eq_iff_iff]; simp; done)), H', ⟨by have := HK1.out; omega⟩, ⟨by (with_reducible repeat (first | apply Kd.R_alloc | apply Kd.R_drewN | apply Kd.R_drew)); exact HO_15.out⟩, ⟨Ba BK235.out⟩, ⟨Bb1 HB.out GE235.out⟩⟩
         ·rw [if_neg c18] at H
          have c18b0 : ((rdOf ByteArray.empty y237 x17_1).toList == ([] : List UInt8)) = false := beq_eq_false_iff_ne.mpr c18
          have c18b1 : ((rdOf ByteArray.empty y237 x17_1).toList != ([] : List UInt8)) = true := bne_iff_ne.mpr c18
          obtain rfl := Option.some.inj H
          have p240 : 0 ≤ (x17_1 : Int) := of_decide_eq_true (by first | (with_reducible assumption) | assumption)
          have q240 : x17_1 < (y237.length : Int) := of_decide_eq_true (by first | (with_reducible assumption) | assumption)
          obtain ⟨ad240, e240, hx240_0⟩ := Kd.at_string (Kd.R_reads' HO_15.out).2.2 x17_1 p240 q240
          cases e240
          replace p240 := eq_true p240
          replace q240 := eq_true q240
          go_wp2_with (first | (go_at_call 74; (with_reducible refine (impl_IsName.calls k1 (rdOf ByteArray.empty y237 x17_1) true _ A15.out).mono ?_); rintro e w' ⟨rfl, ⟨nd, rfl⟩⟩))
          go_ret
          exact ⟨by first | rfl | (simp [errW_none, errW_some] <;> rfl) | (simp [*, errW_none, errW_some] <;> rfl), by repeat (first | (with_reducible first | exact HB.out | apply below_alloc | apply pw_below_drewN | apply below_drew1 | refine below_set ?_ GE235.out) | exact HB.out)⟩
        ·rw [if_neg c17] at H
         have c17b0 : decide (t236 ≤ x17_1) = false := decide_eq_false c17
         clear c17
         have H' := Aside0.mk H
         clear H
         have p240 : 0 ≤ (x17_1 : Int) := of_decide_eq_true (by first | (with_reducible assumption) | assumption)
         have q240 : x17_1 < (y237.length : Int) := of_decide_eq_true (by first | (with_reducible assumption) | assumption)
         obtain ⟨ad240, e240, hx240_0⟩ := Kd.at_string (Kd.R_reads' HO_15.out).2.2 x17_1 p240 q240
         cases e240
         replace p240 := eq_true p240
         replace q240 := eq_true q240
         go_wp2_with (first | (go_at_call 74; (with_reducible refine (impl_IsName.calls k1 (rdOf ByteArray.empty y237 x17_1) true _ A15.out).mono ?_); rintro e w' ⟨rfl, ⟨nd, rfl⟩⟩))
         go_roundg k1
         case measure => have := HK1.out; omega
         case rel => exact ⟨(wrap64 (x17_1 + 1)), (by first | rfl | (simp; done) | (simp [*]; done) | (simp; rw [Bool.eq_iff_iff]; simp; done)), H', ⟨by have := HK1.out; omega⟩, ⟨by (with_reducible repeat (first | apply Kd.R_alloc | apply Kd.R_drewN | apply Kd.R_drew)); exact HO_15.out⟩, ⟨Ba BK235.out⟩, ⟨Bb1 HB.out GE235.out⟩⟩
       ·replace c16 := Bool.eq_false_iff.mpr c16
        subst c16
        have H1 : (some false) = some r := by rw [if_neg (show ¬ (false = true) by decide)] at H; exact H
        clear H
        have H := H1
        clear H1
        obtain rfl := Option.some.inj H
        have p240 : 0 ≤ (x17_1 : Int) := of_decide_eq_true (by first | (with_reducible assumption) | assumption)
        have q240 : x17_1 < (y237.length : Int) := of_decide_eq_true (by first | (with_reducible assumption) | assumption)
        obtain ⟨ad240, e240, hx240_0⟩ := Kd.at_string (Kd.R_reads' HO_15.out).2.2 x17_1 p240 q240
        cases e240
        replace p240 := eq_true p240
        replace q240 := eq_true q240
        go_wp2_with (first | (go_at_call 74; (with_reducible refine (impl_IsName.calls k1 (rdOf ByteArray.empty y237 x17_1) false _ A15.out).mono ?_); rintro e w' ⟨rfl, ⟨nd, rfl⟩⟩))
        go_ret
        exact ⟨by first | rfl | (simp [errW_none, errW_some] <;> rfl) | (simp [*, errW_none, errW_some] <;> rfl), by repeat (first | (with_reducible first | exact HB.out | apply below_alloc | apply pw_below_drewN | apply below_drew1 | refine below_set ?_ GE235.out) | exact HB.out)⟩
      ·rw [if_neg c14] at H
       have c14b0 : decide (x17_1 < t236) = false := decide_eq_false c14
       clear c14
       by_cases c19 : x17_1 ≥ t236
       ·rw [if_pos c19] at H
        have c19b0 : decide (t236 ≤ x17_1) = true := decide_eq_true c19
        clear c19
        by_cases c20 : (rdOf ByteArray.empty y237 x17_1).toList = ([] : List UInt8)
        ·rw [if_pos c20] at H
         have c20b0 : ((rdOf ByteArray.empty y237 x17_1).toList == ([] : List UInt8)) = true := beq_iff_eq.mpr c20
         have c20b1 : ((rdOf ByteArray.empty y237 x17_1).toList != ([] : List UInt8)) = false := bne_eq_false_iff_eq.mpr c20
         clear c20
         have H' := Aside0.mk H
         clear H
         have p240 : 0 ≤ (x17_1 : Int) := of_decide_eq_true (by first | (with_reducible assumption) | assumption)
         have q240 : x17_1 < (y237.length : Int) := of_decide_eq_true (by first | (with_reducible assumption) | assumption)
         obtain ⟨ad240, e240, hx240_0⟩ := Kd.at_string (Kd.R_reads' HO_15.out).2.2 x17_1 p240 q240
         cases e240
         replace p240 := eq_true p240
         replace q240 := eq_true q240
         go_wp2
         go_roundg k1
         case measure => have := HK1.out; omega
         case rel => exact ⟨(wrap64 (x17_1 + 1)), (by first | rfl | (simp; done) | (simp [*]; done) | (simp; rw [Bool.eq_iff_iff]; simp; done)), H', ⟨by have := HK1.out; omega⟩, ⟨by (with_reducible repeat (first | apply Kd.R_alloc | apply Kd.R_drewN | apply Kd.R_drew)); exact HO_15.out⟩, ⟨Ba BK235.out⟩, ⟨Bb1 HB.out GE235.out⟩⟩
        ·rw [if_neg c20] at H
         have c20b0 : ((rdOf ByteArray.empty y237 x17_1).toList == ([] : List UInt8)) = false := beq_eq_false_iff_ne.mpr c20
         have c20b1 : ((rdOf ByteArray.empty y237 x17_1).toList != ([] : List UInt8)) = true := bne_iff_ne.mpr c20
         obtain rfl := Option.some.inj H
         have p240 : 0 ≤ (x17_1 : Int) := of_decide_eq_true (by first | (with_reducible assumption) | assumption)
         have q240 : x17_1 < (y237.length : Int) := of_decide_eq_true (by first | (with_reducible assumption) | assumption)
         obtain ⟨ad240, e240, hx240_0⟩ := Kd.at_string (Kd.R_reads' HO_15.out).2.2 x17_1 p240 q240
         cases e240
         replace p240 := eq_true p240
         replace q240 := eq_true q240
         go_wp2
         go_ret
         exact ⟨by first | rfl | (simp [errW_none, errW_some] <;> rfl) | (simp [*, errW_none, errW_some] <;> rfl), by repeat (first | (with_reducible first | exact HB.out | apply below_alloc | apply pw_below_drewN | apply below_drew1 | refine below_set ?_ GE235.out) | exact HB.out)⟩
       ·rw [if_neg c19] at H
        have c19b0 : decide (t236 ≤ x17_1) = false := decide_eq_false c19
        clear c19
        have H' := Aside0.mk H
        clear H
        have p240 : 0 ≤ (x17_1 : Int) := of_decide_eq_true (by first | (with_reducible assumption) | assumption)
        have q240 : x17_1 < (y237.length : Int) := of_decide_eq_true (by first | (with_reducible assumption) | assumption)
        obtain ⟨ad240, e240, hx240_0⟩ := Kd.at_string (Kd.R_reads' HO_15.out).2.2 x17_1 p240 q240
        cases e240
        replace p240 := eq_true p240
        replace q240 := eq_true q240
        go_wp2
        go_roundg k1
        case measure => have := HK1.out; omega
        case rel => exact ⟨(wrap64 (x17_1 + 1)), (by first | rfl | (simp; done) | (simp [*]; done) | (simp; rw [Bool.eq_iff_iff]; simp; done)), H', ⟨by have := HK1.out; omega⟩, ⟨by (with_reducible repeat (first | apply Kd.R_alloc | apply Kd.R_drewN | apply Kd.R_drew)); exact HO_15.out⟩, ⟨Ba BK235.out⟩, ⟨Bb1 HB.out GE235.out⟩⟩
     ·rw [if_neg c13] at H
      exact absurd H (by simp)
    ·rw [if_neg c12] at H
     exact absurd H (by simp)
   ·rw [if_neg c11] at H
    have c11b0 : decide (x17_1 < (y237.length : Int)) = false := decide_eq_false c11
    clear c11
    obtain rfl := Option.some.inj H
    go_wp2
    go_ret
    exact ⟨by first | rfl | (simp [errW_none, errW_some] <;> rfl) | (simp [*, errW_none, errW_some] <;> rfl), by repeat (first | (with_reducible first | exact HB.out | apply below_alloc | apply pw_below_drewN | apply below_drew1 | refine below_set ?_ GE235.out) | exact HB.out)⟩
def impl_StmtText.f (k : Nat) (a0 : Int) (a1 a2 : ByteArray) : Option ByteArray := (impl_Stmt_hasNames_IsName.f k a0 a1 a2).bind fun t => if t = true then (if 1 ≤ a0 ∧ a0 ≤ 12 ∧ a1.size ≤ 2 ∧ a2.size ≤ 2 then some ⟨(Go.Proofs.YtndkkpjofddfjaaGreatDoorRepl.repl a1.data.toList a2.data.toList (Go.Proofs.YtndkkpjofddfjaaGreatDoorRepl.formList.getD (a0 - 1).toNat ByteArray.empty).data.toList).toArray⟩ else none) else some ⟨#[]⟩
theorem impl_StmtText.mono : ∀ a0 a1 a2 k, LeO (impl_StmtText.f k a0 a1 a2) (impl_StmtText.f (k + 1) a0 a1 a2) := fun a0 a1 a2 k => LeO.bind (impl_Stmt_hasNames_IsName.mono a0 a1 a2 k) (fun _ => LeO.refl _)
set_option maxHeartbeats 4000000 in
set_option maxRecDepth 100000 in
theorem impl_StmtText.calls (k : Nat) (a0 : Int) (a1 a2 : ByteArray) (r : ByteArray) (w : World) (h : impl_StmtText.f k a0 a1 a2 = some r) :
  Calls Tryz.prog 36 #[.agg #[.int .i64 a0, .string a1, .string a2]] w fun e w' => e = .returned (.string r) ∧ Below w.heap.size w w' := by
 unfold impl_StmtText.f at h
 obtain ⟨t, ht, h⟩ := Option.bind_eq_some_iff.mp h
 have hnames := fun w => impl_Stmt_hasNames_IsName.calls k a0 a1 a2 t w ht
 clear ht
 cases t with
 | true =>
  rw [if_pos rfl] at h
  split at h
  case isFalse => cases h
  case isTrue hc =>
  obtain rfl := Option.some.inj h
  obtain ⟨n, rfl⟩ : ∃ n : Nat, a0 = (n : Int) + 1 := ⟨(a0 - 1).toNat, by omega⟩
  have hn : n < 12 := by omega
  have e : Go.Proofs.YtndkkpjofddfjaaGreatDoorRepl.formList.getD ((n : Int) + 1 - 1).toNat ByteArray.empty = Go.Proofs.YtndkkpjofddfjaaGreatDoorRepl.formList[n]'hn := by
   rw [show ((n : Int) + 1 - 1).toNat = n by omega, List.getD_eq_getElem?_getD, List.getElem?_eq_getElem (show n < Go.Proofs.YtndkkpjofddfjaaGreatDoorRepl.formList.length from hn)]
   rfl
  rw [e]
  exact Go.Proofs.YtndkkpjofddfjaaGreatDoorRepl.text_rest n hn a1 a2 hc.2.2.1 hc.2.2.2 w hnames
 | false =>
  rw [if_neg (by decide)] at h
  obtain rfl := Option.some.inj h
  have hu26 := Tryz.underlying50
  go_enter Tryz.func36, Tryz.ntmps36
  go_wp2_with (first
   | ((with_reducible refine gate_dst (N := 1) rfl ?_); refine box_event ?hg (N := 1) ?hd (cs := #[.int .i64 a0, .string a1, .string a2]) (t := 50) ?hr ?_; (case hd => rfl); (case hg => rfl); (case hr => first | (go_simp; done) | (go_simp; rfl)); intro gb hgb W1 hbox hb1; have HB1 := Aside0.mk hb1; have q0 : W1.cell? ⟨gb, 0, none⟩ = some (.int .i64 a0) := (blk_cell hbox 0).trans rfl; have q1 : W1.cell? ⟨gb, 1, none⟩ = some (.string a1) := (blk_cell hbox 1).trans rfl; have q2 : W1.cell? ⟨gb, 2, none⟩ = some (.string a2) := (blk_cell hbox 2).trans rfl; clear hb1 hbox hgb)
   | (go_at_call 73; refine (hnames _).mono ?_; rintro e W2 ⟨rfl, hb2⟩; have HB2 := Aside0.mk (below_step HB1.out hb2); clear hb2 HB1))
  go_wp2
  go_ret
  exact ⟨rfl, HB2.out⟩
end Go.Proofs.YtndkkpjofddfjaaGreatDoor.PFnExactProgramText
