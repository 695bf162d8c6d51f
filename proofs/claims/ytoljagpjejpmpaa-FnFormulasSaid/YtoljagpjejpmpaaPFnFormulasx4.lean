-- Laid by wip/tools/xprint.py (a program of this session over the kit's print). Not trusted: Lean checks it.
import Derived.Test.YtoljagpjejpmpaaXAuto
import Derived.Test.YtoljagpjejpmpaaPFnFormulasx0
import Derived.Test.YtoljagpjejpmpaaPFnFormulasx1
namespace Go.Proofs.Ytoljagpjejpmpaa.PFnFormulas
open Go.RowKit Go.Proofs.YtoljagpjejpmpaaW.PrintWords Go.Proofs.YtoljagpjejpmpaaW.PrintLast Go.Proofs.YtoljagpjejpmpaaW.PrintMore
open Go.Proofs.YtoljagpjejpmpaaW.PrintWords.Aside0 renaming mk → Qa
open Option renaming bind_eq_some_iff → Qi
open Go.Proofs.YtoljagpjejpmpaaW.PrintWords renaming below_set → Ql, pw_below_drewN → Qp, below_drew1 → Qu, below_alloc → Za, keep_drewN → Zd, keep_alloc → Ze, gate_callee → Zf, keep_drew → Zh
open List renaming map_toArray → Qm, length_drop → Qn, length_take → Qo, map_cons → Qt, map_nil → Zb
open Go.RowKit renaming wrap64 → Qq
open Option.some renaming inj → Qs, injEq → Xj
open Bool renaming eq_iff_iff → Qx
open Go.Proofs.YtoljagpjejpmpaaW.PrintWords.KeepBut renaming set_ → Qz
open Go.Proofs.YtoljagpjejpmpaaW.PrintWords.Drawn0 renaming refl → Xf, step → Xg
open Go renaming World → Xs
attribute [local go_sem] max2_int min2_int max_two min_two max_three min_three max_four min_four
set_option linter.unusedVariables false
set_option linter.unusedSimpArgs false
def IsS99 (w0 W : Xs) (g : Nat) (f0 : List Int) (f1 : Int) (f2 : Int) : Prop := ∃ A0 c0, W.heap[g]? = some (.cells #[.slice A0 f0.length c0, .int .i64 f1, .int .i64 f2] 99 (0, 0)) ∧ w0.heap.size ≤ g ∧ Kd.C (Kd.int .u8) w0 A0 f0.length f0
theorem IsS99.grown {w0 W : Xs} {g : Nat} {f0 : List Int} {f1 : Int} {f2 : Int} {W1 : Xs} {row : Option Nat} (h : IsS99 w0 W g f0 f1 f2) (hw : W.grownBy W1 row) (hne : some g ≠ row) : IsS99 w0 W1 g f0 f1 f2 := by
 obtain ⟨A0, c0, hb, hg, hr0⟩ := h
 exact ⟨A0, c0, blk_grown hb hw hne, hg, hr0⟩
theorem IsS99.own_neN {w0 W : Xs} {g : Nat} {f0 : List Int} {f1 : Int} {f2 : Int} {α : Type} {d : Kd α} {e : Nat} {base : Nat} {ok : Nat → Prop} {v : Value} {xs : List α} (h : IsS99 w0 W g f0 f1 f2) (ho : Kd.N d e W base ok v xs) (ht : e ≠ 99) : some g ≠ v.ownBlock := by
 obtain ⟨A0, c0, hb, hg, hr0⟩ := h
 exact Kd.N_ne ho hb ht
theorem IsS99.fresh {w0 W : Xs} {g : Nat} {f0 : List Int} {f1 : Int} {f2 : Int} (h : IsS99 w0 W g f0 f1 f2) : ∀ k, W.heap.size ≤ k → k ≠ g := by
 obtain ⟨A0, c0, hb, hg, hr0⟩ := h
 exact Kd.freshB hb
theorem IsS99.kept {w0 W : Xs} {g : Nat} {f0 : List Int} {f1 : Int} {f2 : Int} {W1 : Xs} {S : Nat → Prop} (h : IsS99 w0 W g f0 f1 f2) (hk : Kept W W1 S) (hne : ¬ S g) : IsS99 w0 W1 g f0 f1 f2 := by
 obtain ⟨A0, c0, hb, hg, hr0⟩ := h
 exact ⟨A0, c0, blk_kept hb hk hne, hg, hr0⟩
theorem IsS99.below {w0 W : Xs} {g : Nat} {f0 : List Int} {f1 : Int} {f2 : Int} {W1 : Xs} (h : IsS99 w0 W g f0 f1 f2) (hw : Below W.heap.size W W1) : IsS99 w0 W1 g f0 f1 f2 := h.grown (grown_of_below hw none) (by simp)
theorem IsS99.alloc {w0 W : Xs} {g : Nat} {f0 : List Int} {f1 : Int} {f2 : Int} (h : IsS99 w0 W g f0 f1 f2) (o : Obj) : IsS99 w0 (W.alloc o) g f0 f1 f2 := h.below (Za (Below.refl _ _) o)
theorem IsS99.drewN {w0 W : Xs} {g : Nat} {f0 : List Int} {f1 : Int} {f2 : Int} (h : IsS99 w0 W g f0 f1 f2) (m : Nat) : IsS99 w0 (W.drewN m) g f0 f1 f2 := h
theorem IsS99.drew {w0 W : Xs} {g : Nat} {f0 : List Int} {f1 : Int} {f2 : Int} (h : IsS99 w0 W g f0 f1 f2) : IsS99 w0 W.drew g f0 f1 f2 := h
theorem IsS99.at_ {w0 W : Xs} {g : Nat} {f0 : List Int} {f1 : Int} {f2 : Int} {w' : Xs} {m : Nat} (hq : W.drewN m = w') (h : IsS99 w0 W g f0 f1 f2) : IsS99 w0 w' g f0 f1 f2 := by subst hq; exact IsS99.drewN h m
theorem IsS99.apart {w0 W : Xs} {g : Nat} {f0 : List Int} {f1 : Int} {f2 : Int} {α : Type} {d : Kd α} {e : Nat} {base : Nat} {ok : Nat → Prop} {v : Value} {xs : List α} (h : IsS99 w0 W g f0 f1 f2) (ho : d.R e W base ok v xs) (ht : ∀ q, q ∈ e :: d.E → q ≠ 99) : d.R e W base (fun k => ok k ∧ k ≠ g) v xs := by
 obtain ⟨A0, c0, hb, hg, hr0⟩ := h
 exact Kd.R_types ho hb ht
theorem IsS99.own_ne {w0 W : Xs} {g : Nat} {f0 : List Int} {f1 : Int} {f2 : Int} {α : Type} {d : Kd α} {e : Nat} {base : Nat} {ok : Nat → Prop} {v : Value} {xs : List α} (h : IsS99 w0 W g f0 f1 f2) (ho : d.R e W base ok v xs) (ht : e ≠ 99) : some g ≠ v.ownBlock := by
 obtain ⟨A0, c0, hb, hg, hr0⟩ := h
 exact Kd.R_ne ho hb ht
theorem IsS99.apartQ {w0 W : Xs} {g : Nat} {f0 : List Int} {f1 : Int} {f2 : Int} {α : Type} {d : Kd α} {e : Nat} {base : Nat} {ok : Nat → Prop} {v : Value} {xs : List α} (h : IsS99 w0 W g f0 f1 f2) (ho : d.Q e W base ok v xs) (ht : ∀ q, q ∈ e :: d.E → q ≠ 99) : d.Q e W base (fun k => ok k ∧ k ≠ g) v xs := by
 obtain ⟨A0, c0, hb, hg, hr0⟩ := h
 exact Kd.Q_types ho hb ht
theorem IsS99.own_neQ {w0 W : Xs} {g : Nat} {f0 : List Int} {f1 : Int} {f2 : Int} {α : Type} {d : Kd α} {e : Nat} {base : Nat} {ok : Nat → Prop} {v : Value} {xs : List α} (h : IsS99 w0 W g f0 f1 f2) (ho : d.Q e W base ok v xs) (ht : e ≠ 99) : some g ≠ v.ownBlock := by
 obtain ⟨A0, c0, hb, hg, hr0⟩ := h
 exact Kd.Q_ne ho hb ht
theorem IsS99.apartS {w0 W : Xs} {g : Nat} {f0 : List Int} {f1 : Int} {f2 : Int} {α : Type} {d : Kd α} {e : Nat} {base : Nat} {ok : Nat → Prop} {v : Value} {xs : List α} (h : IsS99 w0 W g f0 f1 f2) (ho : d.S e W base ok v xs) (ht : ∀ q, q ∈ e :: d.E → q ≠ 99) : d.S e W base (fun k => ok k ∧ k ≠ g) v xs := by
 obtain ⟨A0, c0, hb, hg, hr0⟩ := h
 exact Kd.S_types ho hb ht
theorem IsS99.own_neS {w0 W : Xs} {g : Nat} {f0 : List Int} {f1 : Int} {f2 : Int} {α : Type} {d : Kd α} {e : Nat} {base : Nat} {ok : Nat → Prop} {v : Value} {xs : List α} (h : IsS99 w0 W g f0 f1 f2) (ho : d.S e W base ok v xs) (ht : e ≠ 99) : some g ≠ v.ownBlock := by
 obtain ⟨A0, c0, hb, hg, hr0⟩ := h
 exact Kd.S_ne ho hb ht
theorem IsS99.lt {w0 W : Xs} {g : Nat} {f0 : List Int} {f1 : Int} {f2 : Int} (h : IsS99 w0 W g f0 f1 f2) : g < W.heap.size := by
 obtain ⟨A0, c0, hb, hg, hr0⟩ := h
 exact blk_lt hb
theorem IsS99.ge {w0 W : Xs} {g : Nat} {f0 : List Int} {f1 : Int} {f2 : Int} (h : IsS99 w0 W g f0 f1 f2) : w0.heap.size ≤ g := by
 obtain ⟨A0, c0, hb, hg, hr0⟩ := h
 exact hg
theorem IsS99.ne_blk {w0 W : Xs} {g : Nat} {f0 : List Int} {f1 : Int} {f2 : Int} {a : Nat} {cs : Array Value} {t : TypeId} {fr : Nat × Nat} (h : IsS99 w0 W g f0 f1 f2) (hb2 : W.heap[a]? = some (.cells cs t fr)) (ht : t ≠ 99) : g ≠ a := by
 obtain ⟨A0, c0, hb, hg, hr0⟩ := h
 rintro rfl
 rw [hb] at hb2
 injection hb2 with hb2
 injection hb2 with _ ht2
 exact ht ht2.symm
theorem IsS99.far {w0 W : Xs} {g : Nat} {f0 : List Int} {f1 : Int} {f2 : Int} {p : Addr} (h : IsS99 w0 W g f0 f1 f2) (hne : g ≠ p.block) (u : Value) : IsS99 w0 (W.setCell p u) g f0 f1 f2 := by
 obtain ⟨A0, c0, hb, hg, hr0⟩ := h
 exact ⟨A0, c0, blk_far hb hne u, hg, hr0⟩
theorem cellS99_0 {W : Xs} {g : Nat} {A0 : Option Addr} {c0 : Nat} {f0 : List Int} {f1 : Int} {f2 : Int} (h : W.heap[g]? = some (.cells #[.slice A0 f0.length c0, .int .i64 f1, .int .i64 f2] 99 (0, 0))) : W.cell? ⟨g, 0, none⟩ = some (.slice A0 f0.length c0) := (blk_cell h 0).trans rfl
theorem cellS99_1 {W : Xs} {g : Nat} {A0 : Option Addr} {c0 : Nat} {f0 : List Int} {f1 : Int} {f2 : Int} (h : W.heap[g]? = some (.cells #[.slice A0 f0.length c0, .int .i64 f1, .int .i64 f2] 99 (0, 0))) : W.cell? ⟨g, 1, none⟩ = some (.int .i64 f1) := (blk_cell h 1).trans rfl
theorem IsS99.set_1 {w0 W : Xs} {g : Nat} {f0 : List Int} {f1 : Int} {f2 : Int} (h : IsS99 w0 W g f0 f1 f2) (x : Int) : IsS99 w0 (W.setCell ⟨g, 1, none⟩ (.int .i64 x)) g f0 x f2 := by
 obtain ⟨A0, c0, hb, hg, hr0⟩ := h
 exact ⟨A0, c0, by simpa using blk_set hb 1 (.int .i64 x), hg, hr0⟩
theorem cellS99_2 {W : Xs} {g : Nat} {A0 : Option Addr} {c0 : Nat} {f0 : List Int} {f1 : Int} {f2 : Int} (h : W.heap[g]? = some (.cells #[.slice A0 f0.length c0, .int .i64 f1, .int .i64 f2] 99 (0, 0))) : W.cell? ⟨g, 2, none⟩ = some (.int .i64 f2) := (blk_cell h 2).trans rfl
theorem IsS99.set_2 {w0 W : Xs} {g : Nat} {f0 : List Int} {f1 : Int} {f2 : Int} (h : IsS99 w0 W g f0 f1 f2) (x : Int) : IsS99 w0 (W.setCell ⟨g, 2, none⟩ (.int .i64 x)) g f0 f1 x := by
 obtain ⟨A0, c0, hb, hg, hr0⟩ := h
 exact ⟨A0, c0, by simpa using blk_set hb 2 (.int .i64 x), hg, hr0⟩
theorem IsS99.new (w0 W : Xs) (A0 : Option Addr) (c0 : Nat) (f0 : List Int) (f1 : Int) (f2 : Int) (hB : Below w0.heap.size w0 W) (hr0 : Kd.C (Kd.int .u8) w0 A0 f0.length f0) : IsS99 w0 (W.alloc (.cells #[.slice A0 f0.length c0, .int .i64 f1, .int .i64 f2] 99)) W.heap.size f0 f1 f2 := ⟨A0, c0, by simpa using heap_alloc_new W _, hB.size, hr0⟩
def spec_l1Byte.f (s0_0 : List Int) (s0_1 : Int) (s0_2 : Int) : Option (Int × Int × Int) := if s0_1 < (s0_0.length : Int) then (if 0 ≤ s0_1 then (some (Go.bits .and .i64 (Qq ((Go.bits .and .i64 (Go.bits .xor .i64 ((Qq ((Qq (s0_2 * 6364136223846793005)) + 1442695040888963407)) / 8589934592) ((Qq ((Qq (s0_2 * 6364136223846793005)) + 1442695040888963407)) / 35184372088832)) 255) + (Qq (rd s0_0 s0_1)))) 255, Qq (s0_1 + 1), Qq ((Qq (s0_2 * 6364136223846793005)) + 1442695040888963407))) else (none)) else (some (Go.bits .and .i64 (Go.bits .xor .i64 ((Qq ((Qq (s0_2 * 6364136223846793005)) + 1442695040888963407)) / 8589934592) ((Qq ((Qq (s0_2 * 6364136223846793005)) + 1442695040888963407)) / 35184372088832)) 255, s0_1, Qq ((Qq (s0_2 * 6364136223846793005)) + 1442695040888963407)))
set_option maxHeartbeats 8000000 in
set_option maxRecDepth 100000 in
theorem spec_l1Byte.calls (g : Nat) (s0_0 : List Int) (s0_1 : Int) (s0_2 : Int) (r1 : Int) (r2 : Int) (r3 : Int) (w0 w : Xs) (hI : IsS99 w0 w g s0_0 s0_1 s0_2) (hB : Below w0.heap.size w0 w) (h : spec_l1Byte.f s0_0 s0_1 s0_2 = some (r1, r2, r3)) :
  Calls Try.prog 103 #[.pointer (some ⟨g, 0, none⟩)] w fun e w' => e = .returned (.int .i64 r1) ∧ IsS99 w0 w' g s0_0 r2 r3 ∧ Below w0.heap.size w0 w' ∧ KeepBut w w' g none := by
 have HI0 := Qa hI
 have HK := Qa (KeepBut.refl w g none)
 have HL := Qa hB.size
 clear hI
 have HW0 := Qa hB.size
 have HB := Qa hB
 clear hB
 have H : (if s0_1 < (s0_0.length : Int) then (if 0 ≤ s0_1 then (some (Go.bits .and .i64 (Qq ((Go.bits .and .i64 (Go.bits .xor .i64 ((Qq ((Qq (s0_2 * 6364136223846793005)) + 1442695040888963407)) / 8589934592) ((Qq ((Qq (s0_2 * 6364136223846793005)) + 1442695040888963407)) / 35184372088832)) 255) + (Qq (rd s0_0 s0_1)))) 255, Qq (s0_1 + 1), Qq ((Qq (s0_2 * 6364136223846793005)) + 1442695040888963407))) else (none)) else (some (Go.bits .and .i64 (Go.bits .xor .i64 ((Qq ((Qq (s0_2 * 6364136223846793005)) + 1442695040888963407)) / 8589934592) ((Qq ((Qq (s0_2 * 6364136223846793005)) + 1442695040888963407)) / 35184372088832)) 255, s0_1, Qq ((Qq (s0_2 * 6364136223846793005)) + 1442695040888963407)))) = some (r1, r2, r3) := h
 clear h
 by_cases c2 : s0_1 < (s0_0.length : Int)
 ·rw [if_pos c2] at H
  have c2b0 : decide (s0_1 < (s0_0.length : Int)) = true := decide_eq_true c2
  clear c2
  by_cases c3 : 0 ≤ s0_1
  ·rw [if_pos c3] at H
   have c3b0 : decide (0 ≤ s0_1) = true := decide_eq_true c3
   clear c3
   simp only [Xj, Prod.mk.injEq] at H
   obtain ⟨rfl, rfl, rfl⟩ := H
   obtain ⟨ASz4_0, cSz4_0, HGz4, hgz4, HSz4_0⟩ := HI0.out
   have q4_0 := cellS99_0 HGz4
   have q4_1 := cellS99_1 HGz4
   have q4_2 := cellS99_2 HGz4
   have u4_1 := blk_frozen HGz4 1
   have u4_2 := blk_frozen HGz4 2
   clear HGz4 hgz4
   have p175 : 0 ≤ (s0_1 : Int) := of_decide_eq_true (by first | (with_reducible assumption) | assumption)
   have q175 : s0_1 < (s0_0.length : Int) := of_decide_eq_true (by first | (with_reducible assumption) | assumption)
   obtain ⟨ad175, e175, hx175_0⟩ := Kd.at_int HSz4_0 s0_1 p175 q175
   cases e175
   have hn175_0 : ad175.block ≠ g := Nat.ne_of_lt (Nat.lt_of_lt_of_le (by have := World.block_lt_of_cell? _ _ hx175_0; first | rwa [add_block] at this | exact this) (IsS99.ge HI0.out))
   replace hx175_0 := pw_cell_below HB.out hx175_0
   replace hx175_0 := (cell_far (p := ⟨g, 2, none⟩) (by first | (rw [add_block]; exact hn175_0) | (show (Addr.add _ _).block ≠ _; rw [add_block]; exact hn175_0) | exact hn175_0) (.int .i64 (Qq ((Qq (s0_2 * 6364136223846793005)) + 1442695040888963407)))).trans hx175_0
   (try have hy175_0 := fun (n_ : Nat) => (show (((w.drewN n_).setCell ⟨g, 2, none⟩ (.int .i64 (Qq ((Qq (s0_2 * 6364136223846793005)) + 1442695040888963407))))).cell? _ = some _ from hx175_0))
   clear hn175_0
   replace p175 := eq_true p175
   replace q175 := eq_true q175
   go_enter Try.func103, Try.ntmps103
   go_wp2
   repeat (go_quiet (fail); try go_wp2)
   go_ret
   exact ⟨by first | rfl | (simp [errW_none, errW_some] <;> rfl) | (simp [*, errW_none, errW_some] <;> rfl), by repeat (first | (with_reducible first | exact HI0.out | apply IsS99.alloc | apply IsS99.drewN | apply IsS99.drew | apply IsS99.set_1 | apply IsS99.set_2) | exact HI0.out), by repeat (first | (with_reducible first | exact HB.out | apply Za | apply Qp | apply Qu | refine Ql ?_ (IsS99.ge HI0.out)) | exact HB.out), by repeat (first | (with_reducible first | exact HK.out | apply Qz | apply Zd | apply Zh | apply Ze) | exact HK.out)⟩
  ·rw [if_neg c3] at H
   exact absurd H (by simp)
 ·rw [if_neg c2] at H
  have c2b0 : decide (s0_1 < (s0_0.length : Int)) = false := decide_eq_false c2
  clear c2
  simp only [Xj, Prod.mk.injEq] at H
  obtain ⟨rfl, rfl, rfl⟩ := H
  obtain ⟨ASz5_0, cSz5_0, HGz5, hgz5, HSz5_0⟩ := HI0.out
  have q5_0 := cellS99_0 HGz5
  have q5_1 := cellS99_1 HGz5
  have q5_2 := cellS99_2 HGz5
  have u5_1 := blk_frozen HGz5 1
  have u5_2 := blk_frozen HGz5 2
  clear HGz5 hgz5
  go_enter Try.func103, Try.ntmps103
  go_wp2
  repeat (go_quiet (fail); try go_wp2)
  go_ret
  exact ⟨by first | rfl | (simp [errW_none, errW_some] <;> rfl) | (simp [*, errW_none, errW_some] <;> rfl), by repeat (first | (with_reducible first | exact HI0.out | apply IsS99.alloc | apply IsS99.drewN | apply IsS99.drew | apply IsS99.set_1 | apply IsS99.set_2) | exact HI0.out), by repeat (first | (with_reducible first | exact HB.out | apply Za | apply Qp | apply Qu | refine Ql ?_ (IsS99.ge HI0.out)) | exact HB.out), by repeat (first | (with_reducible first | exact HK.out | apply Qz | apply Zd | apply Zh | apply Ze) | exact HK.out)⟩
def spec_l1Below.f (s0_0 : List Int) (s0_1 : Int) (s0_2 : Int) (a1 : Int) : Option (Int × Int × Int) := if a1 ≤ 0 then (some (0, s0_1, s0_2)) else (if a1 ≤ 256 then ((spec_l1Byte.f s0_0 s0_1 s0_2).bind fun bt176 => (if a1 = 0 then (none) else (some (Int.tmod bt176.1 a1, bt176.2.1, bt176.2.2)))) else ((spec_l1Byte.f s0_0 s0_1 s0_2).bind fun bt179 => ((spec_l1Byte.f s0_0 bt179.2.1 bt179.2.2).bind fun bt182 => ((spec_l1Byte.f s0_0 bt182.2.1 bt182.2.2).bind fun bt185 => ((spec_l1Byte.f s0_0 bt185.2.1 bt185.2.2).bind fun bt188 => (if a1 = 0 then (none) else (some (Int.tmod (Qq ((Qq ((Qq ((Qq (bt179.1 * 16777216)) + (Qq (bt182.1 * 65536)))) + (Qq (bt185.1 * 256)))) + bt188.1)) a1, bt188.2.1, bt188.2.2))))))))
set_option maxHeartbeats 8000000 in
set_option maxRecDepth 100000 in
theorem spec_l1Below.calls (g : Nat) (s0_0 : List Int) (s0_1 : Int) (s0_2 : Int) (a1 : Int) (r1 : Int) (r2 : Int) (r3 : Int) (w0 w : Xs) (hI : IsS99 w0 w g s0_0 s0_1 s0_2) (hB : Below w0.heap.size w0 w) (h : spec_l1Below.f s0_0 s0_1 s0_2 a1 = some (r1, r2, r3)) :
  Calls Try.prog 70 #[.pointer (some ⟨g, 0, none⟩), .int .i64 a1] w fun e w' => e = .returned (.int .i64 r1) ∧ IsS99 w0 w' g s0_0 r2 r3 ∧ Below w0.heap.size w0 w' ∧ KeepBut w w' g none := by
 have HI0 := Qa hI
 have HK := Qa (KeepBut.refl w g none)
 have HL := Qa hB.size
 clear hI
 have HW0 := Qa hB.size
 have HB := Qa hB
 clear hB
 have H : (if a1 ≤ 0 then (some (0, s0_1, s0_2)) else (if a1 ≤ 256 then ((spec_l1Byte.f s0_0 s0_1 s0_2).bind fun bt176 => (if a1 = 0 then (none) else (some (Int.tmod bt176.1 a1, bt176.2.1, bt176.2.2)))) else ((spec_l1Byte.f s0_0 s0_1 s0_2).bind fun bt179 => ((spec_l1Byte.f s0_0 bt179.2.1 bt179.2.2).bind fun bt182 => ((spec_l1Byte.f s0_0 bt182.2.1 bt182.2.2).bind fun bt185 => ((spec_l1Byte.f s0_0 bt185.2.1 bt185.2.2).bind fun bt188 => (if a1 = 0 then (none) else (some (Int.tmod (Qq ((Qq ((Qq ((Qq (bt179.1 * 16777216)) + (Qq (bt182.1 * 65536)))) + (Qq (bt185.1 * 256)))) + bt188.1)) a1, bt188.2.1, bt188.2.2))))))))) = some (r1, r2, r3) := h
 clear h
 by_cases c3 : a1 ≤ 0
 ·rw [if_pos c3] at H
  have c3b0 : decide (a1 ≤ 0) = true := decide_eq_true c3
  clear c3
  simp only [Xj, Prod.mk.injEq] at H
  obtain ⟨rfl, rfl, rfl⟩ := H
  go_enter Try.func70, Try.ntmps70
  go_wp2
  go_ret
  exact ⟨by first | rfl | (simp [errW_none, errW_some] <;> rfl) | (simp [*, errW_none, errW_some] <;> rfl), by repeat (first | (with_reducible first | exact HI0.out | apply IsS99.alloc | apply IsS99.drewN | apply IsS99.drew | apply IsS99.set_1 | apply IsS99.set_2) | exact HI0.out), by repeat (first | (with_reducible first | exact HB.out | apply Za | apply Qp | apply Qu | refine Ql ?_ (IsS99.ge HI0.out)) | exact HB.out), by repeat (first | (with_reducible first | exact HK.out | apply Qz | apply Zd | apply Zh | apply Ze) | exact HK.out)⟩
 ·rw [if_neg c3] at H
  have c3b0 : decide (a1 ≤ 0) = false := decide_eq_false c3
  clear c3
  by_cases c4 : a1 ≤ 256
  ·rw [if_pos c4] at H
   have c4b0 : decide (a1 ≤ 256) = true := decide_eq_true c4
   clear c4
   replace H := Qi.mp H
   obtain ⟨⟨t176, t177, t178⟩, A50, H⟩ := H
   replace H : (if a1 = 0 then (none) else (some (Int.tmod t176 a1, t177, t178))) = some (r1, r2, r3) := H
   have A5 := Qa A50
   clear A50
   by_cases c6 : a1 = 0
   ·rw [if_pos c6] at H
    exact absurd H (by simp)
   ·rw [if_neg c6] at H
    have c6b0 : (a1 == 0) = false := beq_eq_false_iff_ne.mpr c6
    have c6b1 : (a1 != 0) = true := bne_iff_ne.mpr c6
    simp only [Xj, Prod.mk.injEq] at H
    obtain ⟨rfl, rfl, rfl⟩ := H
    go_enter Try.func70, Try.ntmps70
    go_wp2_with (first | ((with_reducible refine Zf (f := 103) rfl ?_); refine goesL_ (some 14) rfl rfl Try.func103 (by kernel_rfl) rfl #[.pointer (some ⟨g, 0, none⟩)] rfl (by (try simp only [Qm, Qt, Zb]); first | done | rfl | (simp only [Qn, Qo]; rfl)) ?_; (with_reducible refine (spec_l1Byte.calls g s0_0 s0_1 s0_2 t176 t177 t178 w0 _ ?side1 ?side2 A5.out).mono ?_); (case side1 => repeat (first | (with_reducible first | exact HI0.out | apply IsS99.alloc | apply IsS99.drewN | apply IsS99.drew | apply IsS99.set_1 | apply IsS99.set_2) | exact HI0.out)); (case side2 => repeat (first | (with_reducible first | exact HB.out | apply Za | apply Qp | apply Qu | refine Ql ?_ (IsS99.ge HI0.out)) | exact HB.out)); rintro e w7 ⟨rfl, hi, hb, hk⟩; refine ⟨_, rfl, ?_⟩; replace HK := Qa (KeepBut.trans (by repeat (first | (with_reducible first | exact HK.out | apply Qz | apply Zd | apply Zh | apply Ze) | exact HK.out)) hk (.inl rfl)); replace HB := Qa (hb); replace HI0 := Qa (hi); (try clear hb); (try clear hb2); (try clear hk); (try clear hi)))
    go_ret
    exact ⟨by first | rfl | (simp [errW_none, errW_some] <;> rfl) | (simp [*, errW_none, errW_some] <;> rfl), by repeat (first | (with_reducible first | exact HI0.out | apply IsS99.alloc | apply IsS99.drewN | apply IsS99.drew | apply IsS99.set_1 | apply IsS99.set_2) | exact HI0.out), by repeat (first | (with_reducible first | exact HB.out | apply Za | apply Qp | apply Qu | refine Ql ?_ (IsS99.ge HI0.out)) | exact HB.out), by repeat (first | (with_reducible first | exact HK.out | apply Qz | apply Zd | apply Zh | apply Ze) | exact HK.out)⟩
  ·rw [if_neg c4] at H
   have c4b0 : decide (a1 ≤ 256) = false := decide_eq_false c4
   clear c4
   replace H := Qi.mp H
   obtain ⟨⟨t179, t180, t181⟩, A80, H⟩ := H
   replace H : ((spec_l1Byte.f s0_0 t180 t181).bind fun bt182 => ((spec_l1Byte.f s0_0 bt182.2.1 bt182.2.2).bind fun bt185 => ((spec_l1Byte.f s0_0 bt185.2.1 bt185.2.2).bind fun bt188 => (if a1 = 0 then (none) else (some (Int.tmod (Qq ((Qq ((Qq ((Qq (t179 * 16777216)) + (Qq (bt182.1 * 65536)))) + (Qq (bt185.1 * 256)))) + bt188.1)) a1, bt188.2.1, bt188.2.2)))))) = some (r1, r2, r3) := H
   have A8 := Qa A80
   clear A80
   replace H := Qi.mp H
   obtain ⟨⟨t182, t183, t184⟩, A90, H⟩ := H
   replace H : ((spec_l1Byte.f s0_0 t183 t184).bind fun bt185 => ((spec_l1Byte.f s0_0 bt185.2.1 bt185.2.2).bind fun bt188 => (if a1 = 0 then (none) else (some (Int.tmod (Qq ((Qq ((Qq ((Qq (t179 * 16777216)) + (Qq (t182 * 65536)))) + (Qq (bt185.1 * 256)))) + bt188.1)) a1, bt188.2.1, bt188.2.2))))) = some (r1, r2, r3) := H
   have A9 := Qa A90
   clear A90
   replace H := Qi.mp H
   obtain ⟨⟨t185, t186, t187⟩, A100, H⟩ := H
   replace H : ((spec_l1Byte.f s0_0 t186 t187).bind fun bt188 => (if a1 = 0 then (none) else (some (Int.tmod (Qq ((Qq ((Qq ((Qq (t179 * 16777216)) + (Qq (t182 * 65536)))) + (Qq (t185 * 256)))) + bt188.1)) a1, bt188.2.1, bt188.2.2)))) = some (r1, r2, r3) := H
   have A10 := Qa A100
   clear A100
   replace H := Qi.mp H
   obtain ⟨⟨t188, t189, t190⟩, A110, H⟩ := H
   replace H : (if a1 = 0 then (none) else (some (Int.tmod (Qq ((Qq ((Qq ((Qq (t179 * 16777216)) + (Qq (t182 * 65536)))) + (Qq (t185 * 256)))) + t188)) a1, t189, t190))) = some (r1, r2, r3) := H
   have A11 := Qa A110
   clear A110
   by_cases c12 : a1 = 0
   ·rw [if_pos c12] at H
    exact absurd H (by simp)
   ·rw [if_neg c12] at H
    have c12b0 : (a1 == 0) = false := beq_eq_false_iff_ne.mpr c12
    have c12b1 : (a1 != 0) = true := bne_iff_ne.mpr c12
    simp only [Xj, Prod.mk.injEq] at H
    obtain ⟨rfl, rfl, rfl⟩ := H
    go_enter Try.func70, Try.ntmps70
    go_wp2_with (first | ((with_reducible refine Zf (f := 103) rfl ?_); refine goesL_ (some 18) rfl rfl Try.func103 (by kernel_rfl) rfl #[.pointer (some ⟨g, 0, none⟩)] rfl (by (try simp only [Qm, Qt, Zb]); first | done | rfl | (simp only [Qn, Qo]; rfl)) ?_; (with_reducible refine (spec_l1Byte.calls g s0_0 s0_1 s0_2 t179 t180 t181 w0 _ ?side1 ?side2 A8.out).mono ?_); (case side1 => repeat (first | (with_reducible first | exact HI0.out | apply IsS99.alloc | apply IsS99.drewN | apply IsS99.drew | apply IsS99.set_1 | apply IsS99.set_2) | exact HI0.out)); (case side2 => repeat (first | (with_reducible first | exact HB.out | apply Za | apply Qp | apply Qu | refine Ql ?_ (IsS99.ge HI0.out)) | exact HB.out)); rintro e w13 ⟨rfl, hi, hb, hk⟩; refine ⟨_, rfl, ?_⟩; replace HK := Qa (KeepBut.trans (by repeat (first | (with_reducible first | exact HK.out | apply Qz | apply Zd | apply Zh | apply Ze) | exact HK.out)) hk (.inl rfl)); replace HB := Qa (hb); replace HI0 := Qa (hi); (try clear hb); (try clear hb2); (try clear hk); (try clear hi)) | ((with_reducible refine Zf (f := 103) rfl ?_); refine goesL_ (some 20) rfl rfl Try.func103 (by kernel_rfl) rfl #[.pointer (some ⟨g, 0, none⟩)] rfl (by (try simp only [Qm, Qt, Zb]); first | done | rfl | (simp only [Qn, Qo]; rfl)) ?_; (with_reducible refine (spec_l1Byte.calls g s0_0 t180 t181 t182 t183 t184 w0 _ ?side1 ?side2 A9.out).mono ?_); (case side1 => repeat (first | (with_reducible first | exact HI0.out | apply IsS99.alloc | apply IsS99.drewN | apply IsS99.drew | apply IsS99.set_1 | apply IsS99.set_2) | exact HI0.out)); (case side2 => repeat (first | (with_reducible first | exact HB.out | apply Za | apply Qp | apply Qu | refine Ql ?_ (IsS99.ge HI0.out)) | exact HB.out)); rintro e w14 ⟨rfl, hi, hb, hk⟩; refine ⟨_, rfl, ?_⟩; replace HK := Qa (KeepBut.trans (by repeat (first | (with_reducible first | exact HK.out | apply Qz | apply Zd | apply Zh | apply Ze) | exact HK.out)) hk (.inl rfl)); replace HB := Qa (hb); replace HI0 := Qa (hi); (try clear hb); (try clear hb2); (try clear hk); (try clear hi)) | ((with_reducible refine Zf (f := 103) rfl ?_); refine goesL_ (some 22) rfl rfl Try.func103 (by kernel_rfl) rfl #[.pointer (some ⟨g, 0, none⟩)] rfl (by (try simp only [Qm, Qt, Zb]); first | done | rfl | (simp only [Qn, Qo]; rfl)) ?_; (with_reducible refine (spec_l1Byte.calls g s0_0 t183 t184 t185 t186 t187 w0 _ ?side1 ?side2 A10.out).mono ?_); (case side1 => repeat (first | (with_reducible first | exact HI0.out | apply IsS99.alloc | apply IsS99.drewN | apply IsS99.drew | apply IsS99.set_1 | apply IsS99.set_2) | exact HI0.out)); (case side2 => repeat (first | (with_reducible first | exact HB.out | apply Za | apply Qp | apply Qu | refine Ql ?_ (IsS99.ge HI0.out)) | exact HB.out)); rintro e w15 ⟨rfl, hi, hb, hk⟩; refine ⟨_, rfl, ?_⟩; replace HK := Qa (KeepBut.trans (by repeat (first | (with_reducible first | exact HK.out | apply Qz | apply Zd | apply Zh | apply Ze) | exact HK.out)) hk (.inl rfl)); replace HB := Qa (hb); replace HI0 := Qa (hi); (try clear hb); (try clear hb2); (try clear hk); (try clear hi)) | ((with_reducible refine Zf (f := 103) rfl ?_); refine goesL_ (some 24) rfl rfl Try.func103 (by kernel_rfl) rfl #[.pointer (some ⟨g, 0, none⟩)] rfl (by (try simp only [Qm, Qt, Zb]); first | done | rfl | (simp only [Qn, Qo]; rfl)) ?_; (with_reducible refine (spec_l1Byte.calls g s0_0 t186 t187 t188 t189 t190 w0 _ ?side1 ?side2 A11.out).mono ?_); (case side1 => repeat (first | (with_reducible first | exact HI0.out | apply IsS99.alloc | apply IsS99.drewN | apply IsS99.drew | apply IsS99.set_1 | apply IsS99.set_2) | exact HI0.out)); (case side2 => repeat (first | (with_reducible first | exact HB.out | apply Za | apply Qp | apply Qu | refine Ql ?_ (IsS99.ge HI0.out)) | exact HB.out)); rintro e w16 ⟨rfl, hi, hb, hk⟩; refine ⟨_, rfl, ?_⟩; replace HK := Qa (KeepBut.trans (by repeat (first | (with_reducible first | exact HK.out | apply Qz | apply Zd | apply Zh | apply Ze) | exact HK.out)) hk (.inl rfl)); replace HB := Qa (hb); replace HI0 := Qa (hi); (try clear hb); (try clear hb2); (try clear hk); (try clear hi)))
    go_ret
    exact ⟨by first | rfl | (simp [errW_none, errW_some] <;> rfl) | (simp [*, errW_none, errW_some] <;> rfl), by repeat (first | (with_reducible first | exact HI0.out | apply IsS99.alloc | apply IsS99.drewN | apply IsS99.drew | apply IsS99.set_1 | apply IsS99.set_2) | exact HI0.out), by repeat (first | (with_reducible first | exact HB.out | apply Za | apply Qp | apply Qu | refine Ql ?_ (IsS99.ge HI0.out)) | exact HB.out), by repeat (first | (with_reducible first | exact HK.out | apply Qz | apply Zd | apply Zh | apply Ze) | exact HK.out)⟩
def spec_l1PickInt.f (s0_0 : List Int) (s0_1 : Int) (s0_2 : Int) (l1 : List Int) : Option (Int × Int × Int) := (spec_l1Below.f s0_0 s0_1 s0_2 (l1.length : Int)).bind fun bt191 => (if 0 ≤ bt191.1 then (if bt191.1 < (l1.length : Int) then (some (rd l1 bt191.1, bt191.2.1, bt191.2.2)) else (none)) else (none))
set_option maxHeartbeats 8000000 in
set_option maxRecDepth 100000 in
theorem spec_l1PickInt.calls (g : Nat) (s0_0 : List Int) (s0_1 : Int) (s0_2 : Int) (A1 : Option Addr) (c1 : Nat) (l1 : List Int) (r1 : Int) (r2 : Int) (r3 : Int) (w0 w : Xs) (hI : IsS99 w0 w g s0_0 s0_1 s0_2) (hB : Below w0.heap.size w0 w) (hr1 : Kd.C (Kd.int .i64) w A1 l1.length l1) (hc1 : l1.length ≤ c1) (hf1 : ∀ ad, A1 = some ad → 0 < l1.length → ad.block ≠ g) (h : spec_l1PickInt.f s0_0 s0_1 s0_2 l1 = some (r1, r2, r3)) :
  Calls Try.prog 71 #[.pointer (some ⟨g, 0, none⟩), .slice A1 l1.length c1] w fun e w' => e = .returned (.int .i64 r1) ∧ IsS99 w0 w' g s0_0 r2 r3 ∧ Below w0.heap.size w0 w' ∧ KeepBut w w' g none := by
 have HR1 := Qa hr1
 have HC1 := Qa hc1
 clear hr1 hc1
 have HI0 := Qa hI
 have HK := Qa (KeepBut.refl w g none)
 have HL := Qa hB.size
 clear hI
 have HW0 := Qa hB.size
 have HB := Qa hB
 clear hB
 have H : ((spec_l1Below.f s0_0 s0_1 s0_2 (l1.length : Int)).bind fun bt191 => (if 0 ≤ bt191.1 then (if bt191.1 < (l1.length : Int) then (some (rd l1 bt191.1, bt191.2.1, bt191.2.2)) else (none)) else (none))) = some (r1, r2, r3) := h
 clear h
 replace H := Qi.mp H
 obtain ⟨⟨t191, t192, t193⟩, A30, H⟩ := H
 replace H : (if 0 ≤ t191 then (if t191 < (l1.length : Int) then (some (rd l1 t191, t192, t193)) else (none)) else (none)) = some (r1, r2, r3) := H
 have A3 := Qa A30
 clear A30
 by_cases c4 : 0 ≤ t191
 ·rw [if_pos c4] at H
  have c4b0 : decide (0 ≤ t191) = true := decide_eq_true c4
  clear c4
  by_cases c5 : t191 < (l1.length : Int)
  ·rw [if_pos c5] at H
   have c5b0 : decide (t191 < (l1.length : Int)) = true := decide_eq_true c5
   clear c5
   simp only [Xj, Prod.mk.injEq] at H
   obtain ⟨rfl, rfl, rfl⟩ := H
   go_enter Try.func71, Try.ntmps71
   go_wp2_with (first | ((with_reducible refine Zf (f := 70) rfl ?_); refine goesL_ (some 9) rfl rfl Try.func70 (by kernel_rfl) rfl #[.pointer (some ⟨g, 0, none⟩), .int .i64 (l1.length : Int)] rfl (by (try simp only [Qm, Qt, Zb]); first | done | rfl | (simp only [Qn, Qo]; rfl)) ?_; (with_reducible refine (spec_l1Below.calls g s0_0 s0_1 s0_2 (l1.length : Int) t191 t192 t193 w0 _ ?side1 ?side2 A3.out).mono ?_); (case side1 => repeat (first | (with_reducible first | exact HI0.out | apply IsS99.alloc | apply IsS99.drewN | apply IsS99.drew | apply IsS99.set_1 | apply IsS99.set_2) | exact HI0.out)); (case side2 => repeat (first | (with_reducible first | exact HB.out | apply Za | apply Qp | apply Qu | refine Ql ?_ (IsS99.ge HI0.out)) | exact HB.out)); rintro e w6 ⟨rfl, hi, hb, hk⟩; refine ⟨_, rfl, ?_⟩; replace HK := Qa (KeepBut.trans (by repeat (first | (with_reducible first | exact HK.out | apply Qz | apply Zd | apply Zh | apply Ze) | exact HK.out)) hk (.inl rfl)); replace HB := Qa (hb); replace HI0 := Qa (hi); (try clear hb); (try clear hb2); (try clear hk); (try clear hi); have p194 : 0 ≤ (t191 : Int) := of_decide_eq_true (by first | (with_reducible assumption) | assumption); have q194 : t191 < (l1.length : Int) := of_decide_eq_true (by first | (with_reducible assumption) | assumption); obtain ⟨ad194, e194, hx194_0⟩ := Kd.at_int HR1.out t191 p194 q194; cases e194; replace hx194_0 := keep_cell HK.out hx194_0 (by first | (rw [add_block]; exact hf1 _ rfl (by omega)) | exact hf1 _ rfl (by omega) | exact hf1 ad194 rfl (by omega)); replace p194 := eq_true p194; replace q194 := eq_true q194))
   go_ret
   exact ⟨by first | rfl | (simp [errW_none, errW_some] <;> rfl) | (simp [*, errW_none, errW_some] <;> rfl), by repeat (first | (with_reducible first | exact HI0.out | apply IsS99.alloc | apply IsS99.drewN | apply IsS99.drew | apply IsS99.set_1 | apply IsS99.set_2) | exact HI0.out), by repeat (first | (with_reducible first | exact HB.out | apply Za | apply Qp | apply Qu | refine Ql ?_ (IsS99.ge HI0.out)) | exact HB.out), by repeat (first | (with_reducible first | exact HK.out | apply Qz | apply Zd | apply Zh | apply Ze) | exact HK.out)⟩
  ·rw [if_neg c5] at H
   exact absurd H (by simp)
 ·rw [if_neg c4] at H
  exact absurd H (by simp)
def spec_ArityOf.j0 : Nat → Int → Bool → Option (Int)
 | 0, _, _ => none
 | k + 1, x0, x6 => if x6 = true then (some 1) else (if x0 = 9 then (some 2) else (if x0 = 10 then (some 2) else (some (-1))))
def spec_ArityOf.f (k : Nat) (a0 : Int) : Option (Int) := (spec_l1In.f a0 1 7).bind fun t195 => (if t195 = true then (some 0) else (if a0 = 8 then (spec_ArityOf.j0 k a0 true) else (if a0 = 11 then (spec_ArityOf.j0 k a0 true) else (spec_ArityOf.j0 k a0 (a0 == 12)))))
theorem spec_ArityOf.mono_l : ∀ k, (∀ y0 y1, LeO (spec_ArityOf.j0 k y0 y1) (spec_ArityOf.j0 (k + 1) y0 y1))
 | 0 => fun _ _ r h => by simp [spec_ArityOf.j0] at h
 | k + 1 => by
  have ih0 := spec_ArityOf.mono_l k
  ·intro y0 y1
   unfold spec_ArityOf.j0
   repeat' first
   | (with_reducible exact ih0 _ _)
   | (with_reducible exact LeO.refl _)
   | (with_reducible exact LeO.none _)
   | (with_reducible refine LeO.ite ?_ ?_)
   | (with_reducible refine LeO.bind ?_ (fun _ => ?_))
   | exact ih0 _ _
   | exact LeO.none _
   | refine LeO.ite ?_ ?_
   | refine LeO.bind ?_ (fun _ => ?_)
theorem spec_ArityOf.mono : ∀ a0 k, LeO (spec_ArityOf.f k a0) (spec_ArityOf.f (k + 1) a0) := by
 intro a0 k
 have ih0 := spec_ArityOf.mono_l k
 unfold spec_ArityOf.f
 repeat' first
   | (with_reducible exact ih0 _ _)
   | (with_reducible exact LeO.refl _)
   | (with_reducible exact LeO.none _)
   | (with_reducible refine LeO.ite ?_ ?_)
   | (with_reducible refine LeO.bind ?_ (fun _ => ?_))
   | exact ih0 _ _
   | exact LeO.none _
   | refine LeO.ite ?_ ?_
   | refine LeO.bind ?_ (fun _ => ?_)
set_option maxHeartbeats 8000000 in
set_option maxRecDepth 100000 in
theorem spec_ArityOf.calls (k : Nat) (a0 : Int) (r : Int) (w : Xs) (h : spec_ArityOf.f k a0 = some r) :
  Calls Try.prog 41 #[.int .i64 a0] w fun e w' => e = .returned (.int .i64 r) ∧ Drawn0 w w' := by
 have H : ((spec_l1In.f a0 1 7).bind fun t195 => (if t195 = true then (some 0) else (if a0 = 8 then (spec_ArityOf.j0 k a0 true) else (if a0 = 11 then (spec_ArityOf.j0 k a0 true) else (spec_ArityOf.j0 k a0 (a0 == 12)))))) = some r := h
 clear h
 replace H := Qi.mp H
 obtain ⟨t195, A20, H⟩ := H
 replace H : (if t195 = true then (some 0) else (if a0 = 8 then (spec_ArityOf.j0 k a0 true) else (if a0 = 11 then (spec_ArityOf.j0 k a0 true) else (spec_ArityOf.j0 k a0 (a0 == 12))))) = some r := H
 have A2 := Qa A20
 clear A20
 by_cases c3 : t195 = true
 ·subst c3
  have H1 : (some 0) = some r := by rw [if_pos rfl] at H; exact H
  clear H
  have H := H1
  clear H1
  obtain rfl := Qs H
  go_enter Try.func41, Try.ntmps41
  go_wp2_with (first | ((with_reducible refine Zf (f := 77) rfl ?_); refine goesL_ (some 5) rfl rfl Try.func77 (by kernel_rfl) rfl #[.int .i64 a0, .int .i64 1, .int .i64 7] rfl (by (try simp only [Qm, Qt, Zb]); first | done | rfl | (simp only [Qn, Qo]; rfl)) ?_; (with_reducible refine (spec_l1In.calls a0 1 7 true _ A2.out).mono ?_); rintro e w' ⟨rfl, ⟨nd, rfl⟩⟩; refine ⟨_, rfl, ?_⟩))
  go_ret
  exact ⟨by first | rfl | (simp; done) | (simp [*]; done), by repeat (first | exact Xf _ | apply Xg)⟩
 ·replace c3 := Bool.eq_false_iff.mpr c3
  subst c3
  have H1 : (if a0 = 8 then (spec_ArityOf.j0 k a0 true) else (if a0 = 11 then (spec_ArityOf.j0 k a0 true) else (spec_ArityOf.j0 k a0 (a0 == 12)))) = some r := by rw [if_neg (show ¬ (false = true) by decide)] at H; exact H
  clear H
  have H := H1
  clear H1
  have HC4 := Qa H
  clear H
  go_enter Try.func41, Try.ntmps41
  go_upto_region 3 with (first | ((with_reducible refine Zf (f := 77) rfl ?_); refine goesL_ (some 5) rfl rfl Try.func77 (by kernel_rfl) rfl #[.int .i64 a0, .int .i64 1, .int .i64 7] rfl (by (try simp only [Qm, Qt, Zb]); first | done | rfl | (simp only [Qn, Qo]; rfl)) ?_; (with_reducible refine (spec_l1In.calls a0 1 7 false _ A2.out).mono ?_); rintro e w' ⟨rfl, ⟨nd, rfl⟩⟩; refine ⟨_, rfl, ?_⟩))
  (try simp only [Act.put, List.setIfInBounds_toArray, List.set_cons_zero, List.set_cons_succ])
  go_cut [6] (fun v6 wc => ∃ (kq : Nat) (x6_3 : Bool), v6 = .bool x6_3 ∧ Aside0 (spec_ArityOf.j0 kq a0 x6_3 = some r) ∧ Aside0 (kq ≤ k) ∧ Drawn0 w wc)
  case first =>
   have H := HC4.out
   clear HC4
   by_cases c5 : a0 = 8
   ·rw [if_pos c5] at H
    have c5b0 : (a0 == 8) = true := beq_iff_eq.mpr c5
    have c5b1 : (a0 != 8) = false := bne_eq_false_iff_eq.mpr c5
    clear c5
    (first | rw [c5b0] | (simp only [i64_w, i32_w]; rw [c5b0]) | skip)
    have H' := Qa H
    clear H
    go_wp2
    go_meet
    case rel => exact ⟨_, (true), (by first | rfl | (simp; done) | (simp [*]; done) | (simp; rw [Qx]; simp; done)), H', ⟨by first | omega | exact Nat.le_refl _⟩, by repeat (first | exact Xf _ | apply Xg)⟩
   ·rw [if_neg c5] at H
    have c5b0 : (a0 == 8) = false := beq_eq_false_iff_ne.mpr c5
    have c5b1 : (a0 != 8) = true := bne_iff_ne.mpr c5
    (first | rw [c5b0] | (simp only [i64_w, i32_w]; rw [c5b0]) | skip)
    by_cases c6 : a0 = 11
    ·rw [if_pos c6] at H
     have c6b0 : (a0 == 11) = true := beq_iff_eq.mpr c6
     have c6b1 : (a0 != 11) = false := bne_eq_false_iff_eq.mpr c6
     clear c6
     have H' := Qa H
     clear H
     go_wp2
     go_meet
     case rel => exact ⟨_, (true), (by first | rfl | (simp; done) | (simp [*]; done) | (simp; rw [Qx]; simp; done)), H', ⟨by first | omega | exact Nat.le_refl _⟩, by repeat (first | exact Xf _ | apply Xg)⟩
    ·rw [if_neg c6] at H
     have c6b0 : (a0 == 11) = false := beq_eq_false_iff_ne.mpr c6
     have c6b1 : (a0 != 11) = true := bne_iff_ne.mpr c6
     have H' := Qa H
     clear H
     go_wp2
     go_meet
     case rel => exact ⟨_, ((a0 == 12)), (by first | rfl | (simp; done) | (simp [*]; done) | (simp; rw [Qx]; simp; done)), H', ⟨by first | omega | exact Nat.le_refl _⟩, by repeat (first | exact Xf _ | apply Xg)⟩
  case rest =>
   clear HC4
   try clear p2
   try clear c3
   try clear c4
   try clear c5
   try clear c5b0
   try clear c5b1
   try clear c6
   try clear c6b0
   try clear c6b1
   obtain ⟨kq, x6_3, rfl, HA, HJ3, ⟨mc3, rfl⟩⟩ := hcut
   cases kq with
   | zero => exact absurd HA.out (by simp [spec_ArityOf.j0])
   | succ kj3 =>
    have H := HA.out
    clear HA
    simp only [spec_ArityOf.j0] at H
    by_cases c7 : x6_3 = true
    ·subst c7
     have H1 : (some 1) = some r := by rw [if_pos rfl] at H; exact H
     clear H
     have H := H1
     clear H1
     obtain rfl := Qs H
     go_wp2
     go_ret
     exact ⟨by first | rfl | (simp; done) | (simp [*]; done), by repeat (first | exact Xf _ | apply Xg)⟩
    ·replace c7 := Bool.eq_false_iff.mpr c7
     subst c7
     have H1 : (if a0 = 9 then (some 2) else (if a0 = 10 then (some 2) else (some (-1)))) = some r := by rw [if_neg (show ¬ (false = true) by decide)] at H; exact H
     clear H
     have H := H1
     clear H1
     by_cases c8 : a0 = 9
     ·rw [if_pos c8] at H
      have c8b0 : (a0 == 9) = true := beq_iff_eq.mpr c8
      have c8b1 : (a0 != 9) = false := bne_eq_false_iff_eq.mpr c8
      clear c8
      obtain rfl := Qs H
      go_wp2
      go_ret
      exact ⟨by first | rfl | (simp; done) | (simp [*]; done), by repeat (first | exact Xf _ | apply Xg)⟩
     ·rw [if_neg c8] at H
      have c8b0 : (a0 == 9) = false := beq_eq_false_iff_ne.mpr c8
      have c8b1 : (a0 != 9) = true := bne_iff_ne.mpr c8
      by_cases c9 : a0 = 10
      ·rw [if_pos c9] at H
       have c9b0 : (a0 == 10) = true := beq_iff_eq.mpr c9
       have c9b1 : (a0 != 10) = false := bne_eq_false_iff_eq.mpr c9
       clear c9
       obtain rfl := Qs H
       go_wp2
       go_ret
       exact ⟨by first | rfl | (simp; done) | (simp [*]; done), by repeat (first | exact Xf _ | apply Xg)⟩
      ·rw [if_neg c9] at H
       have c9b0 : (a0 == 10) = false := beq_eq_false_iff_ne.mpr c9
       have c9b1 : (a0 != 10) = true := bne_iff_ne.mpr c9
       obtain rfl := Qs H
       go_wp2
       go_ret
       exact ⟨by first | rfl | (simp; done) | (simp [*]; done), by repeat (first | exact Xf _ | apply Xg)⟩
def spec_l1Once.f (s0_0 : List Int) (s0_1 : Int) (s0_2 : Int) (a1 : Int) : Option (Bool × Int × Int) := (spec_l1Below.f s0_0 s0_1 s0_2 a1).bind fun bt196 => (some ((bt196.1 == 0), bt196.2.1, bt196.2.2))
set_option maxHeartbeats 8000000 in
set_option maxRecDepth 100000 in
theorem spec_l1Once.calls (g : Nat) (s0_0 : List Int) (s0_1 : Int) (s0_2 : Int) (a1 : Int) (r1 : Bool) (r2 : Int) (r3 : Int) (w0 w : Xs) (hI : IsS99 w0 w g s0_0 s0_1 s0_2) (hB : Below w0.heap.size w0 w) (h : spec_l1Once.f s0_0 s0_1 s0_2 a1 = some (r1, r2, r3)) :
  Calls Try.prog 69 #[.pointer (some ⟨g, 0, none⟩), .int .i64 a1] w fun e w' => e = .returned (.bool r1) ∧ IsS99 w0 w' g s0_0 r2 r3 ∧ Below w0.heap.size w0 w' ∧ KeepBut w w' g none := by
 have HI0 := Qa hI
 have HK := Qa (KeepBut.refl w g none)
 have HL := Qa hB.size
 clear hI
 have HW0 := Qa hB.size
 have HB := Qa hB
 clear hB
 have H : ((spec_l1Below.f s0_0 s0_1 s0_2 a1).bind fun bt196 => (some ((bt196.1 == 0), bt196.2.1, bt196.2.2))) = some (r1, r2, r3) := h
 clear h
 replace H := Qi.mp H
 obtain ⟨⟨t196, t197, t198⟩, A30, H⟩ := H
 replace H : (some ((t196 == 0), t197, t198)) = some (r1, r2, r3) := H
 have A3 := Qa A30
 clear A30
 simp only [Xj, Prod.mk.injEq] at H
 obtain ⟨rfl, rfl, rfl⟩ := H
 go_enter Try.func69, Try.ntmps69
 go_wp2_with (first | ((with_reducible refine Zf (f := 70) rfl ?_); refine goesL_ (some 7) rfl rfl Try.func70 (by kernel_rfl) rfl #[.pointer (some ⟨g, 0, none⟩), .int .i64 a1] rfl (by (try simp only [Qm, Qt, Zb]); first | done | rfl | (simp only [Qn, Qo]; rfl)) ?_; (with_reducible refine (spec_l1Below.calls g s0_0 s0_1 s0_2 a1 t196 t197 t198 w0 _ ?side1 ?side2 A3.out).mono ?_); (case side1 => repeat (first | (with_reducible first | exact HI0.out | apply IsS99.alloc | apply IsS99.drewN | apply IsS99.drew | apply IsS99.set_1 | apply IsS99.set_2) | exact HI0.out)); (case side2 => repeat (first | (with_reducible first | exact HB.out | apply Za | apply Qp | apply Qu | refine Ql ?_ (IsS99.ge HI0.out)) | exact HB.out)); rintro e w4 ⟨rfl, hi, hb, hk⟩; refine ⟨_, rfl, ?_⟩; replace HK := Qa (KeepBut.trans (by repeat (first | (with_reducible first | exact HK.out | apply Qz | apply Zd | apply Zh | apply Ze) | exact HK.out)) hk (.inl rfl)); replace HB := Qa (hb); replace HI0 := Qa (hi); (try clear hb); (try clear hb2); (try clear hk); (try clear hi)))
 go_ret
 exact ⟨by first | rfl | (simp [errW_none, errW_some] <;> rfl) | (simp [*, errW_none, errW_some] <;> rfl), by repeat (first | (with_reducible first | exact HI0.out | apply IsS99.alloc | apply IsS99.drewN | apply IsS99.drew | apply IsS99.set_1 | apply IsS99.set_2) | exact HI0.out), by repeat (first | (with_reducible first | exact HB.out | apply Za | apply Qp | apply Qu | refine Ql ?_ (IsS99.ge HI0.out)) | exact HB.out), by repeat (first | (with_reducible first | exact HK.out | apply Qz | apply Zd | apply Zh | apply Ze) | exact HK.out)⟩
end Go.Proofs.Ytoljagpjejpmpaa.PFnFormulas
