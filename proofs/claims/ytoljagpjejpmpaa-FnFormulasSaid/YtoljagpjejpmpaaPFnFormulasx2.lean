-- Laid by wip/tools/xprint.py (a program of this session over the kit's print). Not trusted: Lean checks it.
import Derived.Test.YtoljagpjejpmpaaXAuto
import Derived.Test.YtoljagpjejpmpaaPFnFormulasx0
import Derived.Test.YtoljagpjejpmpaaPFnFormulasx1
namespace Go.Proofs.Ytoljagpjejpmpaa.PFnFormulas
open Go.RowKit Go.Proofs.YtoljagpjejpmpaaW.PrintWords Go.Proofs.YtoljagpjejpmpaaW.PrintLast Go.Proofs.YtoljagpjejpmpaaW.PrintMore
open Go.Proofs.YtoljagpjejpmpaaW.PrintWords.Aside0 renaming mk → Qa
open Go.Proofs.YtoljagpjejpmpaaW.PrintWords renaming blk_cell → Qb, below_size → Qv, Aside0 → Zn
open Go.World renaming block_lt_of_cell? → Qd
open List renaming setIfInBounds_toArray → Qe, set_cons_zero → Qj, set_cons_succ → Qk
open Option renaming bind_eq_some_iff → Qi
open Option.some renaming inj → Qs
open Go.Act renaming put → Zg
open Nat renaming le_refl → Zv
open Go renaming World → Xs
open Go.Proofs.YtoljagpjejpmpaaW.PrintWords.Kd renaming int → Xu
open Go.RowKit.Below renaming refl → Xv
attribute [local go_sem] max2_int min2_int max_two min_two max_three min_three max_four min_four
set_option linter.unusedVariables false
set_option linter.unusedSimpArgs false
def spec_l10Free.one (k : Nat) (n u : Int) (bound : List Int) (out : List Bool) (least : Int) : Option (List Bool) :=
  if least < n ∧ 0 ≤ u ∧ u ≤ 3 then (spec_l7Has.f k bound u).bind fun b => some (if b = true then out else out.set u.toNat true) else some out
def spec_l10Free.f : Nat → Int → Int → Int → Int → List (S32) → List Int → List Bool → Option (List Bool)
  | 0, _, _, _, _, _, _, _ => none
  | k + 1, a0, a1, a2, a3, l4, bound, out =>
    if out.length = 4 ∧ bound.length < 17592186044415 ∧ l4.length < 9223372036854775807 then
      (if a0 = 11 ∨ a0 = 12 then l4.foldlM (fun o x => spec_l10Free.f k x.f0 x.f1 x.f2 x.f3 x.f4 (bound ++ [a2]) o) out
       else (spec_l10Uses.f k a0).bind fun n => (spec_l10Free.one k n a2 bound out 0).bind fun o1 => (spec_l10Free.one k n a3 bound o1 1).bind fun o2 => l4.foldlM (fun o x => spec_l10Free.f k x.f0 x.f1 x.f2 x.f3 x.f4 bound o) o2)
    else none
theorem spec_l10Free.one_mono (k : Nat) (n u : Int) (bound : List Int) (out : List Bool) (least : Int) : LeO (spec_l10Free.one k n u bound out least) (spec_l10Free.one (k + 1) n u bound out least) := by
  unfold spec_l10Free.one
  exact LeO.ite (LeO.bind (spec_l7Has.mono _ _ _) (fun _ => LeO.refl _)) (LeO.refl _)
theorem fold_leo {α β : Type} {f g : β → α → Option β} (h : ∀ b a, LeO (f b a) (g b a)) : ∀ (l : List α) (b : β), LeO (l.foldlM f b) (l.foldlM g b)
  | [], b => LeO.refl _
  | a :: l, b => by
    simp only [List.foldlM_cons]
    exact LeO.bind (h b a) (fun b' => fold_leo h l b')
theorem spec_l10Free.mono : ∀ a0 a1 a2 a3 a4 a5 a6 k, LeO (spec_l10Free.f k a0 a1 a2 a3 a4 a5 a6) (spec_l10Free.f (k + 1) a0 a1 a2 a3 a4 a5 a6) := by
  intro a0 a1 a2 a3 a4 a5 a6 k
  induction k generalizing a0 a1 a2 a3 a4 a5 a6 with
  | zero => intro r h; simp [spec_l10Free.f] at h
  | succ k ih =>
    rw [spec_l10Free.f, spec_l10Free.f]
    refine LeO.ite (LeO.ite (fold_leo (fun b x => ih _ _ _ _ _ _ _) _ _) (LeO.bind (spec_l10Uses.mono _ _) (fun n => LeO.bind (spec_l10Free.one_mono _ _ _ _ _ _) (fun o1 => LeO.bind (spec_l10Free.one_mono _ _ _ _ _ _) (fun o2 => fold_leo (fun b x => ih _ _ _ _ _ _ _) _ _))))) (LeO.none _)
theorem rd_at32 (xs : List S32) (i : Nat) (h : i < xs.length) : rd_T32 xs (i : Int) = xs[i] := by
  unfold rd_T32
  simp [List.getD, List.getElem?_eq_getElem h]
theorem l1In_at (a : Int) (b : Bool) (h : (decide (0 ≤ a) && decide (a ≤ 3)) = b) : spec_l1In.f a 0 3 = some b := by
  unfold spec_l1In.f
  subst h
  by_cases c : 0 ≤ a
  · rw [if_pos c, decide_eq_true c]; simp
  · rw [if_neg c, decide_eq_false c]; simp
def OutAt (g cap : Nat) (o : List Bool) (W : Xs) : Prop := o.length = 4 ∧ ∃ cur : Array Value, W.heap[g]? = some (.cells cur 4 (0, 0)) ∧ cur.size = cap ∧ cur.toList.take 4 = o.map Value.bool
theorem OutAt.below {g cap : Nat} {o : List Bool} {W W' : Xs} (h : OutAt g cap o W) (hb : Below W.heap.size W W') : OutAt g cap o W' := by
  obtain ⟨h1, cur, h2, h3, h4⟩ := h
  exact ⟨h1, cur, blk_below h2 hb, h3, h4⟩
theorem OutAt.cell {g cap : Nat} {o : List Bool} {W : Xs} (h : OutAt g cap o W) (u : Nat) (hu : u < 4) : W.cell? ⟨g, u, none⟩ = some (.bool (o[u]'(by rw [h.1]; exact hu))) ∧ W.frozen? ⟨g, u, none⟩ = false := by
  obtain ⟨h1, cur, h2, h3, h4⟩ := h
  refine ⟨?_, by simp [World.frozen?, h2]⟩
  have e : (cur.toList.take 4)[u]? = (o.map Value.bool)[u]? := by rw [h4]
  rw [List.getElem?_take_of_lt hu, Array.getElem?_toList] at e
  simp only [World.cell?, h2]
  simp only [Option.isSome_none, Bool.false_eq_true, if_false]
  rw [e, List.getElem?_map, List.getElem?_eq_getElem (by omega)]
  rfl
theorem OutAt.set {g cap : Nat} {o : List Bool} {W : Xs} (h : OutAt g cap o W) (hcap : 4 ≤ cap) (u : Nat) (hu : u < 4) : OutAt g cap (o.set u true) (W.setCell ⟨g, u, none⟩ (.bool true)) := by
  obtain ⟨h1, cur, h2, h3, h4⟩ := h
  refine ⟨by simp [h1], cur.setIfInBounds u (.bool true), ?_, by simp [h3], ?_⟩
  · have hlt : g < W.heap.size := (Array.getElem?_eq_some_iff.1 h2).1
    simp only [World.setCell, Array.getElem?_modify, h2]
    simp
  · rw [Array.toList_setIfInBounds, List.take_set, h4, List.map_set]
theorem outAt_R {g cap base : Nat} {o : List Bool} {W : Xs} (h : OutAt g cap o W) (hg : base ≤ g) (hcap : 4 ≤ cap) (hcm : cap ≤ maxLen) : Kd.R Kd.bool 4 W base (fun k_ => k_ = g) (.slice (some ⟨g, 0, none⟩) 4 cap) o := by
  obtain ⟨h1, cur, h2, h3, h4⟩ := h
  refine Kd.R_of_own (enc := Value.bool) (h1 := fun _ => rfl) ⟨by simp [encs], .inr ⟨g, cap, cur, by rw [h1], hg, h2, by omega, hcm, by omega, by rw [h1]; exact h4⟩⟩ (fun k hk => ?_)
  simp only [Value.ownBlock, Option.some.injEq] at hk
  exact hk.symm
theorem R_outAt {g cap base : Nat} {ok : Nat → Prop} {o : List Bool} {W : Xs} (h : Kd.R Kd.bool 4 W base ok (.slice (some ⟨g, 0, none⟩) 4 cap) o) (ho : o.length = 4) : OutAt g cap o W := by
  have h := Kd.own_of_R (enc := Value.bool) (h1 := fun _ => rfl) h
  rcases h.2 with ⟨h1, _⟩ | ⟨g', cap', cur, e, a, b, c, d, e1, f⟩
  · cases h1
  · injection e with e1' e2 e3
    injection e1' with e4
    injection e4 with e5
    subst e5 e3
    exact ⟨ho, cur, b, by omega, by rw [ho] at f; exact f⟩
structure LSt (w0 w : Xs) (g cap gb : Nat) (cs : Array Value) (o : List Bool) (W : Xs) : Prop where
  out : OutAt g cap o W
  bel : Below w0.heap.size w0 W
  kept : Kept w W (fun k_ => k_ = g)
  box : W.heap[gb]? = some (.cells cs 32 (0, 0))
theorem LSt.below {w0 w W W' : Xs} {g cap gb : Nat} {cs : Array Value} {o : List Bool} (h : LSt w0 w g cap gb cs o W) (hb : Below W.heap.size W W') : LSt w0 w g cap gb cs o W' :=
  ⟨h.out.below hb, below_step h.bel hb, h.kept.below hb, blk_below h.box hb⟩
theorem LSt.drewN {w0 w W : Xs} {g cap gb : Nat} {cs : Array Value} {o : List Bool} (h : LSt w0 w g cap gb cs o W) (n : Nat) : LSt w0 w g cap gb cs o (W.drewN n) := h.below (pw_below_drewN (Xv _ _) n)
theorem LSt.drawn {w0 w W W' : Xs} {g cap gb : Nat} {cs : Array Value} {o : List Bool} (h : LSt w0 w g cap gb cs o W) (hd : Drawn0 W W') : LSt w0 w g cap gb cs o W' := by
  obtain ⟨n, rfl⟩ := hd
  exact h.drewN n
theorem LSt.set {w0 w W : Xs} {g cap gb : Nat} {cs : Array Value} {o : List Bool} (h : LSt w0 w g cap gb cs o W) (hcap : 4 ≤ cap) (hg : w0.heap.size ≤ g) (hne : gb ≠ g) (u : Nat) (hu : u < 4) : LSt w0 w g cap gb cs (o.set u true) (W.setCell ⟨g, u, none⟩ (.bool true)) :=
  ⟨h.out.set hcap u hu, below_set h.bel hg, h.kept.setCell (Or.inl rfl) _, (Below.heap_setCell W _ _ gb hne).trans h.box⟩
def spec_l10Free.T2 : Bool × List (List Nat × List Nat) := (true, [([], []), ([], []), ([0, 1], [0, 1]), ([], []), ([3], [3]), ([4], [4]), ([2, 5, 2], [2, 5]), ([6, 6, 0, 1, 2, 3, 4, 5, 6], [1, 6])])
def spec_l10Free.B2 : List Nat := [0, 0, 3, 0, 8, 24, 63, 127]
theorem spec_l10Free.tab2 : rtab .any (opsOf Try.f59 2) = spec_l10Free.T2 := by kernel_rfl
theorem spec_l10Free.bits2 : waitsOk spec_l10Free.T2.2 spec_l10Free.B2 = true := by kernel_rfl
set_option maxHeartbeats 8000000 in
set_option maxRecDepth 100000 in
theorem spec_l10Free.walk (k : Nat) : ∀ (a0 a1 a2 a3 : Int) (A4 : Option Addr) (c4 : Nat) (l4 : List (S32)) (A1 : Option Addr) (c1 : Nat) (l1 : List Int) (g cap : Nat) (l2 r : List Bool) (w0 w : Xs) (hB : Below w0.heap.size w0 w) (hr : Kd.C k32 w0 A4 l4.length l4) (hc : l4.length ≤ c4) (hbd : ∀ W_, Kept w W_ (fun k_ => k_ = g) → Kd.C (Xu .i64) W_ A1 l1.length l1) (hc1 : l1.length ≤ c1) (hg : w0.heap.size ≤ g) (hcap : 4 ≤ cap) (hcm : cap ≤ maxLen) (ho : OutAt g cap l2 w) (h : spec_l10Free.f k a0 a1 a2 a3 l4 l1 l2 = some r),
    Calls Try.prog 59 #[.agg #[.int .i64 a0, .int .i64 a1, .int .i64 a2, .int .i64 a3, .slice A4 l4.length c4], .slice A1 l1.length c1, .slice (some ⟨g, 0, none⟩) 4 cap] w fun e w' => e = .returned (.tuple #[]) ∧ OutAt g cap r w' ∧ Below w0.heap.size w0 w' ∧ Kept w w' (fun k_ => k_ = g) := by
  induction k using Nat.strongRecOn with
  | _ k ih =>
  intro a0 a1 a2 a3 A4 c4 l4 A1 c1 l1 g cap l2 r w0 w hB hr hc hbd hc1 hg hcap hcm ho h
  cases k with
  | zero => exact absurd h (by simp [spec_l10Free.f])
  | succ k =>
  simp only [spec_l10Free.f] at h
  have hu32 := Try.underlying32
  have hlt : g < w.heap.size := by
    obtain ⟨_, cur, h2, _⟩ := ho
    exact (Array.getElem?_eq_some_iff.1 h2).1
  split at h
  case isFalse => cases h
  case isTrue hl =>
  obtain ⟨hl2, hl1, hl4⟩ := hl
  have H := Qa h
  have HO := Qa ho
  have HBD := Qa hbd
  clear h hbd
  have db0 : (a0 == 11) = decide (a0 = 11) := by simp [BEq.beq]
  go_enter Try.func59, Try.ntmps59
  go_upto_region 1 with (first
      | ((with_reducible refine gate_dst (N := 3) rfl ?_); refine box_event ?hg (N := 3) ?hd (cs := #[.int .i64 a0, .int .i64 a1, .int .i64 a2, .int .i64 a3, .slice A4 l4.length c4]) (t := 32) ?hr ?_; (case hd => rfl); (case hg => rfl); (case hr => first | (go_simp; done) | (go_simp; rfl)); intro gb hgb W1 hbox hb1; have ST : Zn (LSt w0 w g cap gb #[.int .i64 a0, .int .i64 a1, .int .i64 a2, .int .i64 a3, .slice A4 l4.length c4] l2 W1) := ⟨⟨ho.below hb1, below_step hB hb1, Kept.of_below hb1 _, hbox⟩⟩; have GB : Zn (gb ≠ g ∧ w.heap.size ≤ gb) := ⟨⟨by omega, by omega⟩⟩; have q0 : W1.cell? ⟨gb, 0, none⟩ = some (.int .i64 a0) := (Qb hbox 0).trans rfl; clear hbox hb1 hgb))
  (try simp only [Zg, Qe, Qj, Qk])
  go_cut [15] (fun v15 wc => ∃ b : Bool, v15 = .bool b ∧ Zn (b = decide (a0 = 11 ∨ a0 = 12)) ∧ Zn (LSt w0 w g cap gb #[.int .i64 a0, .int .i64 a1, .int .i64 a2, .int .i64 a3, .slice A4 l4.length c4] l2 wc))
  case first =>
    by_cases e11 : a0 = 11
    · have d0 : (a0 == 11) = true := by simpa using e11
      go_wp2
      go_meet
      case rel => exact ⟨true, rfl, ⟨by simp [e11]⟩, ⟨by repeat (first | exact ST.out | refine LSt.drewN ?_ _)⟩⟩
    · have d0 : (a0 == 11) = false := by simpa using e11
      go_wp2
      go_meet
      case rel => exact ⟨a0 == 12, rfl, ⟨by simp [e11]; rfl⟩, ⟨by repeat (first | exact ST.out | refine LSt.drewN ?_ _)⟩⟩
  case rest =>
  clear q0 ST
  obtain ⟨b15, rfl, Hb15, ST⟩ := hcut
  go_upto_if 15 with (fail)
  go_cut [1] (fun v1 wc => ∃ (A1' : Option Addr) (c1' : Nat) (bd : List Int) (o2 : List Bool), v1 = .slice A1' bd.length c1' ∧ Zn (bd.length ≤ c1') ∧ Zn (∀ W_, Kept wc W_ (fun k_ => k_ = g) → Kd.C (Xu .i64) W_ A1' bd.length bd) ∧ Zn (l4.foldlM (fun o x => spec_l10Free.f k x.f0 x.f1 x.f2 x.f3 x.f4 bd o) o2 = some r) ∧ Zn (LSt w0 w g cap gb #[.int .i64 a0, .int .i64 a1, .int .i64 a2, .int .i64 a3, .slice A4 l4.length c4] o2 wc))
  case first =>
    have h := H.out
    by_cases hbin : a0 = 11 ∨ a0 = 12
    · rw [if_pos hbin] at h
      obtain rfl : b15 = true := by rw [Hb15.out]; exact decide_eq_true hbin
      obtain ⟨P2_, hP2⟩ : ∃ P : Nat → Prop, P = fun k_ => k_ = g := ⟨_, rfl⟩
      obtain ⟨u9000_, hu9⟩ : ∃ v : Value, v = .slice (some ⟨g, 0, none⟩) 4 cap := ⟨_, rfl⟩
      have H2 := Qa h
      clear h H
      have HO_2 : Zn (Kd.R Kd.bool 4 wc w0.heap.size (fun k_ => (P2_ k_ ∨ w.heap.size ≤ k_)) u9000_ l2) := ⟨by rw [hP2, hu9]; exact Kd.R_mono (outAt_R ST.out.out hg hcap hcm) (fun _ hk => .inl hk)⟩
      have BK139 := Qa ST.out.box
      have HK : Zn (Kept w wc (fun k_ => P2_ k_)) := ⟨by rw [hP2]; exact ST.out.kept⟩
      have HB := Qa ST.out.bel
      have GW139 := Qa GB.out.2
      have GE139 : Zn (w0.heap.size ≤ gb) := ⟨Nat.le_trans hB.size GB.out.2⟩
      have HR1 : Zn (∀ W_, Kept w W_ (fun k_ => P2_ k_) → Kd.C (Xu .i64) W_ A1 l1.length l1) := ⟨by rw [hP2]; exact HBD.out⟩
      have HC1 := Qa hc1
      obtain ⟨y140, hy140⟩ : ∃ y_ : List Int, y_ = (([] : List Int)) := ⟨_, rfl⟩
      have Ny140 := Qa hy140
      have LMc10 : Zn (y140.length + l1.length < 17592186044416) := ⟨by rw [hy140]; simp; omega⟩
      clear hy140
      obtain ⟨y143, hy143⟩ : ∃ y_ : List Int, y_ = (y140 ++ l1) := ⟨_, rfl⟩
      have Ny143 := Qa hy143
      obtain ⟨y146, hy146⟩ : ∃ y_ : List Int, y_ = (([a2] : List Int)) := ⟨_, rfl⟩
      have Ny146 := Qa hy146
      have LMc11 : Zn (y143.length + y146.length < 17592186044416) := ⟨by rw [hy143, hy146, Ny140.out]; simp; omega⟩
      clear hy143 hy146
      obtain ⟨y149, hy149⟩ : ∃ y_ : List Int, y_ = (y143 ++ y146) := ⟨_, rfl⟩
      have Ny149 := Qa hy149
      clear hy149 ST hl1
      try go_wp2
      replace HO_2 := Qa (Kd.R_drew HO_2.out)
      replace BK139 := Qa (blk_drew BK139.out)
      replace HK := Qa (Kept.drew HK.out)
      replace HB := Qa (below_drew1 HB.out)
      refine start_ (n := 8) (S := fun w' => w'.cell? ⟨gb, 0, none⟩ = some (.int .i64 a0) ∧ w'.cell? ⟨gb, 1, none⟩ = some (.int .i64 a1) ∧ w'.cell? ⟨gb, 2, none⟩ = some (.int .i64 a2) ∧ w'.cell? ⟨gb, 3, none⟩ = some (.int .i64 a3) ∧ w'.cell? ⟨gb, 4, none⟩ = some (.slice A4 l4.length c4)) (ds := []) #[false, false, false, false, false, false, false, false] (by kernel_rfl) rfl rfl ⟨(Qb BK139.out 0).trans rfl, (Qb BK139.out 1).trans rfl, (Qb BK139.out 2).trans rfl, (Qb BK139.out 3).trans rfl, (Qb BK139.out 4).trans rfl⟩ (fun hHeld => ?_); refine with_tabW spec_l10Free.tab2 spec_l10Free.bits2 (fun HT_ HW_ => ?_)
      generalize wc.drew = w12 at HO_2 BK139 HK HB hHeld ⊢
      refine pure_ (i := 1) (N := some 17) (v := ?_) (a' := ?_) #[false, true, false, false, false, false, false, false] rfl rfl (any_of HT_.out (by kernel_rfl)) (fun _ _ _ h => h) (Or.inl ⟨by rfl, ?_⟩) ?_ ?_
      rotate_left
      · intro w'
        go_simp
        with_reducible rfl
      rotate_left
      · simp only [Zg, Qe, Qj, Qk, i64_w, i32_w]
        rfl
      refine pure_ (i := 3) (N := some 19) (v := ?_) (a' := ?_) #[false, true, false, true, false, false, false, false] rfl rfl (any_of HT_.out (by kernel_rfl)) (fun _ _ _ h => h) (Or.inl ⟨by rfl, ?_⟩) ?_ ?_
      rotate_left
      · intro w'
        go_simp
        with_reducible rfl
      rotate_left
      · simp only [Zg, Qe, Qj, Qk, i64_w, i32_w]
        rfl
      refine take_ (i := 4) (N := some 20) (v := ?_) (a' := ?_) #[false, true, false, true, true, false, false, false] rfl rfl (take_ofW HT_.out HW_.out (by kernel_rfl)) (fun _ _ _ h => h) (Or.inl ⟨by rfl, ?_⟩) hHeld ?_ ?_
      rotate_left
      · rintro w' ⟨s0, s1, s2, s3, s4⟩
        go_simp
        with_reducible rfl
      rotate_left
      · simp only [Zg, Qe, Qj, Qk, i64_w, i32_w]
        rfl
      refine join_ (σ := Value × Value × Value) 2 #[true, true, true, true, true, true, false, false] (fun s_ => [(16, s_.1), (18, s_.2.1), (21, s_.2.2)]) (fun s_ w' => (w'.cell? ⟨gb, 0, none⟩ = some (.int .i64 a0) ∧ w'.cell? ⟨gb, 1, none⟩ = some (.int .i64 a1) ∧ w'.cell? ⟨gb, 2, none⟩ = some (.int .i64 a2) ∧ w'.cell? ⟨gb, 3, none⟩ = some (.int .i64 a3) ∧ w'.cell? ⟨gb, 4, none⟩ = some (.slice A4 l4.length c4)) ∧ (Kd.R (Xu .i64) 3 w' w0.heap.size (fun k_ => (P2_ k_ ∨ w.heap.size ≤ k_) ∧ some k_ ≠ (s_.2.2 : Value).ownBlock) s_.2.1 y143) ∧ (Kd.R (Xu .i64) 3 w' w0.heap.size (fun k_ => (P2_ k_ ∨ w.heap.size ≤ k_) ∧ some k_ ≠ (s_.2.1 : Value).ownBlock) s_.2.2 y146) ∧ (Kd.R Kd.bool 4 w' w0.heap.size (fun k_ => (P2_ k_ ∨ w.heap.size ≤ k_)) u9000_ l2) ∧ (w'.heap[gb]? = some (.cells #[.int .i64 a0, .int .i64 a1, .int .i64 a2, .int .i64 a3, .slice A4 l4.length c4] 32 (0, 0))) ∧ (Kept w w' (fun k_ => P2_ k_)) ∧ (Below w0.heap.size w0 w')) ?_ ?_
      rotate_left
      · intro hCont
        refine two_ (i := 0) (j := 5) (Ni := some 16) (Nj := some 21) #[true, true, false, true, true, false, false, false] #[false, true, false, true, true, true, false, false] rfl rfl rfl rfl (two_of HT_.out (by kernel_rfl)) (by decide) (by decide) (fun K hK => ?_) (fun K hK => ?_)
        · skip
          refine Kd.R_lit_step (Xu .i64) _ 3 ?hg (N := 16) ?hd (xs := ([] : List Int)) (inner := []) (ok := fun _ => True) (okp := fun _ => True) ?hr ?hp (fun _ hk => hk) trivial (Xv _ _) (Zv _) (by simp) ?_; (case hd => rfl); (case hg => rfl); (case hr => first | (go_simp; done) | (go_simp; rfl)); (case hp => exact (Reps.none _ _))
          intro v141 w13 ho14 hb hg_ hnew_
          clear hg_ hnew_
          (first | rw [← Ny140.out] at ho14 | (simp only [Int.reduceToNat] at ho14; rw [← Ny140.out] at ho14))
          replace HO_2 := Qa (Kd.R_below (Br HO_2.out) hb)
          have HO142 := Qa (Kd.R_lower (Kd.R_newM (M := fun k_ => (P2_ k_ ∨ w.heap.size ≤ k_)) ho14 (by first | exact HK.out.1 | exact (show Kept w _ (fun k_ => P2_ k_) from by repeat (first | (with_reducible first | exact HK.out | apply Kept.alloc | apply Kept.drewN | apply Kept.drew | refine Kept.setCell ?_ (.inr GW139.out) _) | exact HK.out)).1) (fun k_ h_ => .inr h_)) (Qv (Bb1 HB.out GE139.out)))
          replace BK139 := Qa (blk_below (g := gb) (o := .cells #[.int .i64 a0, .int .i64 a1, .int .i64 a2, .int .i64 a3, .slice A4 l4.length c4] 32 (0, 0)) (Ba BK139.out) hb)
          replace HK := Qa (Kept.below (S := (fun k_ => P2_ k_)) (by repeat (first | (with_reducible first | exact HK.out | apply Kept.alloc | apply Kept.drewN | apply Kept.drew | refine Kept.setCell ?_ (.inr GW139.out) _) | exact HK.out)) hb)
          replace HB := Qa (below_step (Bb1 HB.out GE139.out) hb)
          clear hb ho14
          refine hK.out _ _ ⟨(Qb BK139.out 0).trans rfl, (Qb BK139.out 1).trans rfl, (Qb BK139.out 2).trans rfl, (Qb BK139.out 3).trans rfl, (Qb BK139.out 4).trans rfl⟩ (fun hHeld => ?_)
          clear hK K
          refine norm_ (a' := ?_) ?_ ?_
          rotate_left
          · show Zg _ (some 16) _ = _
            simp only [Zg, Qe, Qj, Qk, i64_w, i32_w]
            rfl
          refine two_ (i := 2) (j := 5) (Ni := some 18) (Nj := some 21) #[true, true, true, true, true, false, false, false] #[true, true, false, true, true, true, false, false] rfl rfl rfl rfl (two_of HT_.out (by kernel_rfl)) (by decide) (by decide) (fun K hK => ?_) (fun K hK => ?_)
          · skip
            refine Kd.R_append_rows_step (Xu .i64) (w0 := w0) w0.heap.size (by rfl) (.tmp 16) (.tmp 17) 47 3 (.int .i64 0) 8 rfl Try.underlying47 info3 rfl (by decide) (by omega) v141 y140 l1 _ _ _ (fun k_ => (P2_ k_ ∨ w.heap.size ≤ k_)) (fun _ => False) rfl rfl ?aO ?aR (fun _ _ h => h) (fun _ h => h.elim) ?aF ?aB ?aS ?aL ?_
            (case aR => exact Kd.C_kept_now HR1.out (by repeat (first | (with_reducible first | exact HK.out | apply Kept.alloc | apply Kept.drewN | apply Kept.drew | refine Kept.setCell ?_ (.inr GW139.out) _) | exact HK.out)))
            (case aB => exact (Bb1 HB.out GE139.out))
            (case aF => exact (fun k_ hk => (.inr (Nat.le_trans (by first | exact HK.out.1 | exact (show Kept w _ (fun k_ => P2_ k_) from by repeat (first | (with_reducible first | exact HK.out | apply Kept.alloc | apply Kept.drewN | apply Kept.drew | refine Kept.setCell ?_ (.inr GW139.out) _) | exact HK.out)).1) hk))))
            (case aO => exact (by (with_reducible repeat (first | apply Kd.R_alloc | apply Kd.R_drewN | apply Kd.R_drew)); exact Kd.R_mono HO142.out (fun _ hk => hk.1)))
            (case aS => exact (Qv (Bb1 HB.out GE139.out)))
            (case aL => have := LMc10.out; omega)
            intro v144 w15 ho hb hg hat
            rw [← Ny143.out] at ho
            replace HO_2 := Qa (Kd.R_over' (Br HO_2.out) (Kd.R_typed (Br HO142.out)) (by decide) hg)
            replace BK139 := Qa (blk_grown (g := gb) (o := .cells #[.int .i64 a0, .int .i64 a1, .int .i64 a2, .int .i64 a3, .slice A4 l4.length c4] 32 (0, 0)) (Ba BK139.out) hg (Kd.R_ne HO142.out BK139.out (by decide)))
            replace HB := Qa (hb)
            replace HK := Qa (Kept.of_grown (S := (fun k_ => P2_ k_)) hg (by repeat (first | (with_reducible first | exact HK.out | apply Kept.alloc | apply Kept.drewN | apply Kept.drew | refine Kept.setCell ?_ (.inr GW139.out) _) | exact HK.out)) (fun k_ e_ => (HO142.out.1 k_ e_).1))
            have HO145 := Qa (ho)
            clear HO142 ho hb hg hat
            refine hK.out _ _ ⟨(Qb BK139.out 0).trans rfl, (Qb BK139.out 1).trans rfl, (Qb BK139.out 2).trans rfl, (Qb BK139.out 3).trans rfl, (Qb BK139.out 4).trans rfl⟩ (fun hHeld => ?_)
            clear hK K
            refine norm_ (a' := ?_) ?_ ?_
            rotate_left
            · show Zg _ (some 18) _ = _
              simp only [Zg, Qe, Qj, Qk, i64_w, i32_w]
              rfl
            refine one_ (i := 5) (N := some 21) #[true, true, true, true, true, true, false, false] rfl rfl (one_of HT_.out (by kernel_rfl)) (by decide) (fun K hK => ?_)
            refine Kd.R_lit_step (Xu .i64) _ 3 ?hg (N := 21) ?hd (xs := ([a2] : List Int)) (inner := [.int .i64 a2]) (ok := fun _ => True) (okp := fun _ => True) ?hr ?hp (fun _ hk => hk) trivial (Xv _ _) (Zv _) (by simp) ?_; (case hd => rfl); (case hg => rfl); (case hr => first | (go_simp; done) | (go_simp; rfl)); (case hp => exact (Reps.one (show Kd.M (Xu .i64) _ _ _ a2 [.int .i64 a2] from rfl) (Reps.none _ _)))
            intro v147 w16 ho17 hb hg_ hnew_
            clear hg_ hnew_
            (first | rw [← Ny146.out] at ho17 | (simp only [Int.reduceToNat] at ho17; rw [← Ny146.out] at ho17))
            replace HO_2 := Qa (Kd.R_below (Br HO_2.out) hb)
            have HO148 := Qa (Kd.R_lower (Kd.R_new' (Kd.R_newM (M := fun k_ => (P2_ k_ ∨ w.heap.size ≤ k_)) ho17 (by first | exact HK.out.1 | exact (show Kept w _ (fun k_ => P2_ k_) from by repeat (first | (with_reducible first | exact HK.out | apply Kept.alloc | apply Kept.drewN | apply Kept.drew | refine Kept.setCell ?_ (.inr GW139.out) _) | exact HK.out)).1) (fun k_ h_ => .inr h_)) (Kd.R_lt (Br HO145.out))) (Qv (Bb1 HB.out GE139.out)))
            replace HO145 := Qa (Kd.R_elder' (Br HO145.out) (Kd.R_base ho17) hb)
            replace BK139 := Qa (blk_below (g := gb) (o := .cells #[.int .i64 a0, .int .i64 a1, .int .i64 a2, .int .i64 a3, .slice A4 l4.length c4] 32 (0, 0)) (Ba BK139.out) hb)
            replace HK := Qa (Kept.below (S := (fun k_ => P2_ k_)) (by repeat (first | (with_reducible first | exact HK.out | apply Kept.alloc | apply Kept.drewN | apply Kept.drew | refine Kept.setCell ?_ (.inr GW139.out) _) | exact HK.out)) hb)
            replace HB := Qa (below_step (Bb1 HB.out GE139.out) hb)
            clear hb ho17
            refine hK.out _ _ ⟨(Qb BK139.out 0).trans rfl, (Qb BK139.out 1).trans rfl, (Qb BK139.out 2).trans rfl, (Qb BK139.out 3).trans rfl, (Qb BK139.out 4).trans rfl⟩ (fun hHeld => ?_)
            clear hK K
            refine norm_ (a' := ?_) ?_ ?_
            rotate_left
            · show Zg _ (some 21) _ = _
              simp only [Zg, Qe, Qj, Qk, i64_w, i32_w]
              rfl
            exact norm_ (by simp only [putAll, Zg, Qe, Qj, Qk]) (hCont (v141, v144, v147) _ ⟨hHeld, (Br HO145.out), (by (with_reducible repeat (first | apply Kd.R_alloc | apply Kd.R_drewN | apply Kd.R_drew)); exact Kd.R_mono HO148.out (fun _ hk => ⟨hk.1.1, hk.2⟩)), (Br HO_2.out), (Ba BK139.out), (by repeat (first | (with_reducible first | exact HK.out | apply Kept.alloc | apply Kept.drewN | apply Kept.drew | refine Kept.setCell ?_ (.inr GW139.out) _) | exact HK.out)), (Bb1 HB.out GE139.out)⟩)
          · skip
            refine Kd.R_lit_step (Xu .i64) _ 3 ?hg (N := 21) ?hd (xs := ([a2] : List Int)) (inner := [.int .i64 a2]) (ok := fun _ => True) (okp := fun _ => True) ?hr ?hp (fun _ hk => hk) trivial (Xv _ _) (Zv _) (by simp) ?_; (case hd => rfl); (case hg => rfl); (case hr => first | (go_simp; done) | (go_simp; rfl)); (case hp => exact (Reps.one (show Kd.M (Xu .i64) _ _ _ a2 [.int .i64 a2] from rfl) (Reps.none _ _)))
            intro v147 w15 ho16 hb hg_ hnew_
            clear hg_ hnew_
            (first | rw [← Ny146.out] at ho16 | (simp only [Int.reduceToNat] at ho16; rw [← Ny146.out] at ho16))
            replace HO_2 := Qa (Kd.R_below (Br HO_2.out) hb)
            have HO148 := Qa (Kd.R_lower (Kd.R_new' (Kd.R_newM (M := fun k_ => (P2_ k_ ∨ w.heap.size ≤ k_)) ho16 (by first | exact HK.out.1 | exact (show Kept w _ (fun k_ => P2_ k_) from by repeat (first | (with_reducible first | exact HK.out | apply Kept.alloc | apply Kept.drewN | apply Kept.drew | refine Kept.setCell ?_ (.inr GW139.out) _) | exact HK.out)).1) (fun k_ h_ => .inr h_)) (Kd.R_lt (Br HO142.out))) (Qv (Bb1 HB.out GE139.out)))
            replace HO142 := Qa (Kd.R_elder' (Br HO142.out) (Kd.R_base ho16) hb)
            replace BK139 := Qa (blk_below (g := gb) (o := .cells #[.int .i64 a0, .int .i64 a1, .int .i64 a2, .int .i64 a3, .slice A4 l4.length c4] 32 (0, 0)) (Ba BK139.out) hb)
            replace HK := Qa (Kept.below (S := (fun k_ => P2_ k_)) (by repeat (first | (with_reducible first | exact HK.out | apply Kept.alloc | apply Kept.drewN | apply Kept.drew | refine Kept.setCell ?_ (.inr GW139.out) _) | exact HK.out)) hb)
            replace HB := Qa (below_step (Bb1 HB.out GE139.out) hb)
            clear hb ho16
            refine hK.out _ _ ⟨(Qb BK139.out 0).trans rfl, (Qb BK139.out 1).trans rfl, (Qb BK139.out 2).trans rfl, (Qb BK139.out 3).trans rfl, (Qb BK139.out 4).trans rfl⟩ (fun hHeld => ?_)
            clear hK K
            refine norm_ (a' := ?_) ?_ ?_
            rotate_left
            · show Zg _ (some 21) _ = _
              simp only [Zg, Qe, Qj, Qk, i64_w, i32_w]
              rfl
            refine one_ (i := 2) (N := some 18) #[true, true, true, true, true, true, false, false] rfl rfl (one_of HT_.out (by kernel_rfl)) (by decide) (fun K hK => ?_)
            refine Kd.R_append_rows_step (Xu .i64) (w0 := w0) w0.heap.size (by rfl) (.tmp 16) (.tmp 17) 47 3 (.int .i64 0) 8 rfl Try.underlying47 info3 rfl (by decide) (by omega) v141 y140 l1 _ _ _ (fun k_ => (P2_ k_ ∨ w.heap.size ≤ k_) ∧ some k_ ≠ (v147 : Value).ownBlock) (fun _ => False) rfl rfl ?aO ?aR (fun _ _ h => h) (fun _ h => h.elim) ?aF ?aB ?aS ?aL ?_
            (case aR => exact Kd.C_kept_now HR1.out (by repeat (first | (with_reducible first | exact HK.out | apply Kept.alloc | apply Kept.drewN | apply Kept.drew | refine Kept.setCell ?_ (.inr GW139.out) _) | exact HK.out)))
            (case aB => exact (Bb1 HB.out GE139.out))
            (case aF => exact (fun k_ hk => ⟨(.inr (Nat.le_trans (by first | exact HK.out.1 | exact (show Kept w _ (fun k_ => P2_ k_) from by repeat (first | (with_reducible first | exact HK.out | apply Kept.alloc | apply Kept.drewN | apply Kept.drew | refine Kept.setCell ?_ (.inr GW139.out) _) | exact HK.out)).1) hk)), Kd.fresh' (Kd.R_lt (Br HO148.out)) k_ hk⟩))
            (case aO => exact (by (with_reducible repeat (first | apply Kd.R_alloc | apply Kd.R_drewN | apply Kd.R_drew)); exact Kd.R_mono HO142.out (fun _ hk => ⟨hk.1.1, hk.2⟩)))
            (case aS => exact (Qv (Bb1 HB.out GE139.out)))
            (case aL => have := LMc10.out; omega)
            intro v144 w17 ho hb hg hat
            rw [← Ny143.out] at ho
            replace HO_2 := Qa (Kd.R_over' (Br HO_2.out) (Kd.R_typed (Br HO142.out)) (by decide) hg)
            replace BK139 := Qa (blk_grown (g := gb) (o := .cells #[.int .i64 a0, .int .i64 a1, .int .i64 a2, .int .i64 a3, .slice A4 l4.length c4] 32 (0, 0)) (Ba BK139.out) hg (Kd.R_ne HO142.out BK139.out (by decide)))
            replace HO148 := Qa (Kd.R_after (ok := (fun k_ => (P2_ k_ ∨ w.heap.size ≤ k_))) (by (with_reducible repeat (first | apply Kd.R_alloc | apply Kd.R_drewN | apply Kd.R_drew)); exact Kd.R_mono HO148.out (fun _ hk => ⟨hk.1.1, hk.2⟩)) hg hat)
            replace HB := Qa (hb)
            replace HK := Qa (Kept.of_grown (S := (fun k_ => P2_ k_)) hg (by repeat (first | (with_reducible first | exact HK.out | apply Kept.alloc | apply Kept.drewN | apply Kept.drew | refine Kept.setCell ?_ (.inr GW139.out) _) | exact HK.out)) (fun k_ e_ => (HO142.out.1 k_ e_).1.1))
            have HO145 := Qa (ho)
            clear HO142 ho hb hg hat
            refine hK.out _ _ ⟨(Qb BK139.out 0).trans rfl, (Qb BK139.out 1).trans rfl, (Qb BK139.out 2).trans rfl, (Qb BK139.out 3).trans rfl, (Qb BK139.out 4).trans rfl⟩ (fun hHeld => ?_)
            clear hK K
            refine norm_ (a' := ?_) ?_ ?_
            rotate_left
            · show Zg _ (some 18) _ = _
              simp only [Zg, Qe, Qj, Qk, i64_w, i32_w]
              rfl
            exact norm_ (by simp only [putAll, Zg, Qe, Qj, Qk]) (hCont (v141, v144, v147) _ ⟨hHeld, (Br HO145.out), (Br HO148.out), (Br HO_2.out), (Ba BK139.out), (by repeat (first | (with_reducible first | exact HK.out | apply Kept.alloc | apply Kept.drewN | apply Kept.drew | refine Kept.setCell ?_ (.inr GW139.out) _) | exact HK.out)), (Bb1 HB.out GE139.out)⟩)
        · skip
          refine Kd.R_lit_step (Xu .i64) _ 3 ?hg (N := 21) ?hd (xs := ([a2] : List Int)) (inner := [.int .i64 a2]) (ok := fun _ => True) (okp := fun _ => True) ?hr ?hp (fun _ hk => hk) trivial (Xv _ _) (Zv _) (by simp) ?_; (case hd => rfl); (case hg => rfl); (case hr => first | (go_simp; done) | (go_simp; rfl)); (case hp => exact (Reps.one (show Kd.M (Xu .i64) _ _ _ a2 [.int .i64 a2] from rfl) (Reps.none _ _)))
          intro v147 w13 ho14 hb hg_ hnew_
          clear hg_ hnew_
          (first | rw [← Ny146.out] at ho14 | (simp only [Int.reduceToNat] at ho14; rw [← Ny146.out] at ho14))
          replace HO_2 := Qa (Kd.R_below (Br HO_2.out) hb)
          have HO148 := Qa (Kd.R_lower (Kd.R_newM (M := fun k_ => (P2_ k_ ∨ w.heap.size ≤ k_)) ho14 (by first | exact HK.out.1 | exact (show Kept w _ (fun k_ => P2_ k_) from by repeat (first | (with_reducible first | exact HK.out | apply Kept.alloc | apply Kept.drewN | apply Kept.drew | refine Kept.setCell ?_ (.inr GW139.out) _) | exact HK.out)).1) (fun k_ h_ => .inr h_)) (Qv (Bb1 HB.out GE139.out)))
          replace BK139 := Qa (blk_below (g := gb) (o := .cells #[.int .i64 a0, .int .i64 a1, .int .i64 a2, .int .i64 a3, .slice A4 l4.length c4] 32 (0, 0)) (Ba BK139.out) hb)
          replace HK := Qa (Kept.below (S := (fun k_ => P2_ k_)) (by repeat (first | (with_reducible first | exact HK.out | apply Kept.alloc | apply Kept.drewN | apply Kept.drew | refine Kept.setCell ?_ (.inr GW139.out) _) | exact HK.out)) hb)
          replace HB := Qa (below_step (Bb1 HB.out GE139.out) hb)
          clear hb ho14
          refine hK.out _ _ ⟨(Qb BK139.out 0).trans rfl, (Qb BK139.out 1).trans rfl, (Qb BK139.out 2).trans rfl, (Qb BK139.out 3).trans rfl, (Qb BK139.out 4).trans rfl⟩ (fun hHeld => ?_)
          clear hK K
          refine norm_ (a' := ?_) ?_ ?_
          rotate_left
          · show Zg _ (some 21) _ = _
            simp only [Zg, Qe, Qj, Qk, i64_w, i32_w]
            rfl
          refine one_ (i := 0) (N := some 16) #[true, true, false, true, true, true, false, false] rfl rfl (one_of HT_.out (by kernel_rfl)) (by decide) (fun K hK => ?_)
          refine Kd.R_lit_step (Xu .i64) _ 3 ?hg (N := 16) ?hd (xs := ([] : List Int)) (inner := []) (ok := fun _ => True) (okp := fun _ => True) ?hr ?hp (fun _ hk => hk) trivial (Xv _ _) (Zv _) (by simp) ?_; (case hd => rfl); (case hg => rfl); (case hr => first | (go_simp; done) | (go_simp; rfl)); (case hp => exact (Reps.none _ _))
          intro v141 w15 ho16 hb hg_ hnew_
          clear hg_ hnew_
          (first | rw [← Ny140.out] at ho16 | (simp only [Int.reduceToNat] at ho16; rw [← Ny140.out] at ho16))
          replace HO_2 := Qa (Kd.R_below (Br HO_2.out) hb)
          have HO142 := Qa (Kd.R_lower (Kd.R_new' (Kd.R_newM (M := fun k_ => (P2_ k_ ∨ w.heap.size ≤ k_)) ho16 (by first | exact HK.out.1 | exact (show Kept w _ (fun k_ => P2_ k_) from by repeat (first | (with_reducible first | exact HK.out | apply Kept.alloc | apply Kept.drewN | apply Kept.drew | refine Kept.setCell ?_ (.inr GW139.out) _) | exact HK.out)).1) (fun k_ h_ => .inr h_)) (Kd.R_lt (Br HO148.out))) (Qv (Bb1 HB.out GE139.out)))
          replace HO148 := Qa (Kd.R_elder' (Br HO148.out) (Kd.R_base ho16) hb)
          replace BK139 := Qa (blk_below (g := gb) (o := .cells #[.int .i64 a0, .int .i64 a1, .int .i64 a2, .int .i64 a3, .slice A4 l4.length c4] 32 (0, 0)) (Ba BK139.out) hb)
          replace HK := Qa (Kept.below (S := (fun k_ => P2_ k_)) (by repeat (first | (with_reducible first | exact HK.out | apply Kept.alloc | apply Kept.drewN | apply Kept.drew | refine Kept.setCell ?_ (.inr GW139.out) _) | exact HK.out)) hb)
          replace HB := Qa (below_step (Bb1 HB.out GE139.out) hb)
          clear hb ho16
          refine hK.out _ _ ⟨(Qb BK139.out 0).trans rfl, (Qb BK139.out 1).trans rfl, (Qb BK139.out 2).trans rfl, (Qb BK139.out 3).trans rfl, (Qb BK139.out 4).trans rfl⟩ (fun hHeld => ?_)
          clear hK K
          refine norm_ (a' := ?_) ?_ ?_
          rotate_left
          · show Zg _ (some 16) _ = _
            simp only [Zg, Qe, Qj, Qk, i64_w, i32_w]
            rfl
          refine one_ (i := 2) (N := some 18) #[true, true, true, true, true, true, false, false] rfl rfl (one_of HT_.out (by kernel_rfl)) (by decide) (fun K hK => ?_)
          refine Kd.R_append_rows_step (Xu .i64) (w0 := w0) w0.heap.size (by rfl) (.tmp 16) (.tmp 17) 47 3 (.int .i64 0) 8 rfl Try.underlying47 info3 rfl (by decide) (by omega) v141 y140 l1 _ _ _ (fun k_ => (P2_ k_ ∨ w.heap.size ≤ k_) ∧ some k_ ≠ (v147 : Value).ownBlock) (fun _ => False) rfl rfl ?aO ?aR (fun _ _ h => h) (fun _ h => h.elim) ?aF ?aB ?aS ?aL ?_
          (case aR => exact Kd.C_kept_now HR1.out (by repeat (first | (with_reducible first | exact HK.out | apply Kept.alloc | apply Kept.drewN | apply Kept.drew | refine Kept.setCell ?_ (.inr GW139.out) _) | exact HK.out)))
          (case aB => exact (Bb1 HB.out GE139.out))
          (case aF => exact (fun k_ hk => ⟨(.inr (Nat.le_trans (by first | exact HK.out.1 | exact (show Kept w _ (fun k_ => P2_ k_) from by repeat (first | (with_reducible first | exact HK.out | apply Kept.alloc | apply Kept.drewN | apply Kept.drew | refine Kept.setCell ?_ (.inr GW139.out) _) | exact HK.out)).1) hk)), Kd.fresh' (Kd.R_lt (Br HO148.out)) k_ hk⟩))
          (case aO => exact (by (with_reducible repeat (first | apply Kd.R_alloc | apply Kd.R_drewN | apply Kd.R_drew)); exact Kd.R_mono HO142.out (fun _ hk => ⟨hk.1.1, hk.2⟩)))
          (case aS => exact (Qv (Bb1 HB.out GE139.out)))
          (case aL => have := LMc10.out; omega)
          intro v144 w17 ho hb hg hat
          rw [← Ny143.out] at ho
          replace HO_2 := Qa (Kd.R_over' (Br HO_2.out) (Kd.R_typed (Br HO142.out)) (by decide) hg)
          replace BK139 := Qa (blk_grown (g := gb) (o := .cells #[.int .i64 a0, .int .i64 a1, .int .i64 a2, .int .i64 a3, .slice A4 l4.length c4] 32 (0, 0)) (Ba BK139.out) hg (Kd.R_ne HO142.out BK139.out (by decide)))
          replace HO148 := Qa (Kd.R_after (ok := (fun k_ => (P2_ k_ ∨ w.heap.size ≤ k_))) (by (with_reducible repeat (first | apply Kd.R_alloc | apply Kd.R_drewN | apply Kd.R_drew)); exact Kd.R_mono HO148.out (fun _ hk => ⟨hk.1.1, hk.2⟩)) hg hat)
          replace HB := Qa (hb)
          replace HK := Qa (Kept.of_grown (S := (fun k_ => P2_ k_)) hg (by repeat (first | (with_reducible first | exact HK.out | apply Kept.alloc | apply Kept.drewN | apply Kept.drew | refine Kept.setCell ?_ (.inr GW139.out) _) | exact HK.out)) (fun k_ e_ => (HO142.out.1 k_ e_).1.1))
          have HO145 := Qa (ho)
          clear HO142 ho hb hg hat
          refine hK.out _ _ ⟨(Qb BK139.out 0).trans rfl, (Qb BK139.out 1).trans rfl, (Qb BK139.out 2).trans rfl, (Qb BK139.out 3).trans rfl, (Qb BK139.out 4).trans rfl⟩ (fun hHeld => ?_)
          clear hK K
          refine norm_ (a' := ?_) ?_ ?_
          rotate_left
          · show Zg _ (some 18) _ = _
            simp only [Zg, Qe, Qj, Qk, i64_w, i32_w]
            rfl
          exact norm_ (by simp only [putAll, Zg, Qe, Qj, Qk]) (hCont (v141, v144, v147) _ ⟨hHeld, (Br HO145.out), (Br HO148.out), (Br HO_2.out), (Ba BK139.out), (by repeat (first | (with_reducible first | exact HK.out | apply Kept.alloc | apply Kept.drewN | apply Kept.drew | refine Kept.setCell ?_ (.inr GW139.out) _) | exact HK.out)), (Bb1 HB.out GE139.out)⟩)
      rintro ⟨v141, v144, v147⟩ w18 ⟨hS_, h0_, h1_, h2_, h3_, h4_, h5_⟩
      have n0_ : Zn (Kd.R (Xu .i64) 3 w18 w0.heap.size (fun k_ => (P2_ k_ ∨ w.heap.size ≤ k_) ∧ some k_ ≠ (v147 : Value).ownBlock) v144 y143) := ⟨h0_⟩
      have n1_ : Zn (Kd.R (Xu .i64) 3 w18 w0.heap.size (fun k_ => (P2_ k_ ∨ w.heap.size ≤ k_) ∧ some k_ ≠ (v144 : Value).ownBlock) v147 y146) := ⟨h1_⟩
      have n2_ : Zn (Kd.R Kd.bool 4 w18 w0.heap.size (fun k_ => (P2_ k_ ∨ w.heap.size ≤ k_)) u9000_ l2) := ⟨h2_⟩
      have n3_ : Zn (w18.heap[gb]? = some (.cells #[.int .i64 a0, .int .i64 a1, .int .i64 a2, .int .i64 a3, .slice A4 l4.length c4] 32 (0, 0))) := ⟨h3_⟩
      have n4_ : Zn (Kept w w18 (fun k_ => P2_ k_)) := ⟨h4_⟩
      have n5_ : Zn (Below w0.heap.size w0 w18) := ⟨h5_⟩
      clear HO_2 BK139 HK HB h0_ h1_ h2_ h3_ h4_ h5_
      have HO145 := n0_
      have HO148 := n1_
      have HO_2 := n2_
      have BK139 := n3_
      have HK := n4_
      have HB := n5_
      clear n0_ n1_ n2_ n3_ n4_ n5_
      have hHeld : w18.cell? ⟨gb, 0, none⟩ = some (.int .i64 a0) ∧ w18.cell? ⟨gb, 1, none⟩ = some (.int .i64 a1) ∧ w18.cell? ⟨gb, 2, none⟩ = some (.int .i64 a2) ∧ w18.cell? ⟨gb, 3, none⟩ = some (.int .i64 a3) ∧ w18.cell? ⟨gb, 4, none⟩ = some (.slice A4 l4.length c4) := hS_
      obtain ⟨Ao20, co20, eo20⟩ := Kd.R_slice HO148.out
      (first | subst eo20 | (injection eo20 with f1_ f2_ f3_; have f4_ := f1_.symm; have f5_ := f3_.symm; clear f1_ f2_ f3_; subst f4_; subst f5_))
      refine norm_ (a' := ?_) ?_ ?_
      rotate_left
      · simp only [putAll, Zg, Qe, Qj, Qk]
        rfl
      refine one_ (i := 6) (N := some 22) #[true, true, true, true, true, true, true, false] rfl rfl (one_of HT_.out (by kernel_rfl)) (by decide) (fun K hK => ?_)
      refine Kd.R_append_rows_step (Xu .i64) (w0 := w0) w0.heap.size (by rfl) (.tmp 18) (.tmp 21) 47 3 (.int .i64 0) 8 rfl Try.underlying47 info3 rfl (by decide) (by omega) v144 y143 y146 _ _ _ (fun k_ => (P2_ k_ ∨ w.heap.size ≤ k_) ∧ some k_ ≠ (.slice Ao20 y146.length co20 : Value).ownBlock) (fun _ => False) rfl rfl ?aO ?aR (fun _ _ h => h) (fun _ h => h.elim) ?aF ?aB ?aS ?aL ?_
      (case aR => repeat (first | exact (Kd.R_reads' HO148.out).2.2 | (with_reducible refine Kd.C_alloc ?_ _) | (with_reducible refine Kd.C_drewN ?_ _) | (with_reducible refine Kd.C_drew ?_)))
      (case aB => exact (Bb1 HB.out GE139.out))
      (case aF => exact (fun k_ hk => ⟨(.inr (Nat.le_trans (by first | exact HK.out.1 | exact (show Kept w _ (fun k_ => P2_ k_) from by repeat (first | (with_reducible first | exact HK.out | apply Kept.alloc | apply Kept.drewN | apply Kept.drew | refine Kept.setCell ?_ (.inr GW139.out) _) | exact HK.out)).1) hk)), Kd.fresh' (Kd.R_lt (Br HO148.out)) k_ hk⟩))
      (case aO => exact (Br HO145.out))
      (case aS => exact (Qv (Bb1 HB.out GE139.out)))
      (case aL => have := LMc11.out; omega)
      intro v150 w19 ho hb hg hat
      rw [← Ny149.out] at ho
      replace HO_2 := Qa (Kd.R_over' (Br HO_2.out) (Kd.R_typed (Br HO145.out)) (by decide) hg)
      replace BK139 := Qa (blk_grown (g := gb) (o := .cells #[.int .i64 a0, .int .i64 a1, .int .i64 a2, .int .i64 a3, .slice A4 l4.length c4] 32 (0, 0)) (Ba BK139.out) hg (Kd.R_ne HO145.out BK139.out (by decide)))
      replace HO148 := Qa (Kd.R_after (ok := (fun k_ => (P2_ k_ ∨ w.heap.size ≤ k_))) (Br HO148.out) hg hat)
      replace HB := Qa (hb)
      replace HK := Qa (Kept.of_grown (S := (fun k_ => P2_ k_)) hg (by repeat (first | (with_reducible first | exact HK.out | apply Kept.alloc | apply Kept.drewN | apply Kept.drew | refine Kept.setCell ?_ (.inr GW139.out) _) | exact HK.out)) (fun k_ e_ => (HO145.out.1 k_ e_).1))
      have HO151 := Qa (ho)
      clear HO145 ho hb hg hat
      refine hK.out _ _ ⟨(Qb BK139.out 0).trans rfl, (Qb BK139.out 1).trans rfl, (Qb BK139.out 2).trans rfl, (Qb BK139.out 3).trans rfl, (Qb BK139.out 4).trans rfl⟩ (fun hHeld => ?_)
      clear hK K
      refine norm_ (a' := ?_) ?_ ?_
      rotate_left
      · show Zg _ (some 22) _ = _
        simp only [Zg, Qe, Qj, Qk, i64_w, i32_w]
        rfl
      refine pure_ (i := 7) (N := some 1) (v := ?_) (a' := ?_) #[true, true, true, true, true, true, true, true] rfl rfl (any_of HT_.out (by kernel_rfl)) (fun _ _ _ h => h) (Or.inl ⟨by rfl, ?_⟩) ?_ ?_
      rotate_left
      · intro w'
        go_simp
        with_reducible rfl
      rotate_left
      · simp only [Zg, Qe, Qj, Qk, i64_w, i32_w]
        rfl
      refine done_ (done_of HT_.out (by kernel_rfl)) ?_
      try go_wp2
      have OA := R_outAt (show Kd.R Kd.bool 4 _ w0.heap.size (fun k_ => (P2_ k_ ∨ w.heap.size ≤ k_)) (.slice (some ⟨g, 0, none⟩) 4 cap) l2 from hu9 ▸ HO_2.out) hl2
      obtain ⟨Ab, cb, eb⟩ := Kd.R_slice HO151.out
      subst eb
      have hrd := Kd.R_reads' HO151.out
      have hky : y149 = l1 ++ [a2] := by rw [Ny149.out, Ny143.out, Ny146.out, Ny140.out]; rfl
      obtain ⟨_, cur, hcur, _, _⟩ := id OA
      have hCK := Kd.C_kept_own (S := fun k_ => k_ = g) (Kd.R_types HO151.out hcur (by decide)) (fun k hk => hk.2)
      have hKP := HK.out
      rw [hP2] at hKP
      go_meet
      case rel => exact ⟨Ab, cb, y149, l2, rfl, ⟨hrd.2.1⟩, ⟨hCK⟩, ⟨by rw [hky]; exact H2.out⟩, ⟨⟨OA, HB.out, hKP, BK139.out⟩⟩⟩
    · rw [if_neg hbin] at h
      obtain rfl : b15 = false := by rw [Hb15.out]; exact decide_eq_false hbin
      obtain ⟨n, hn, h⟩ := Qi.mp h
      obtain ⟨o1, ho1, h⟩ := Qi.mp h
      obtain ⟨o2, ho2, h⟩ := Qi.mp h
      have H2 := Qa h
      have HO1 := Qa ho1
      have HO2 := Qa ho2
      clear h H ho1 ho2
      have HN := Qa hn
      clear hn
      have q0 : World.cell? _ ⟨gb, 0, none⟩ = some (.int .i64 a0) := (Qb ST.out.box 0).trans rfl
      go_upto_region 4 with (first
        | (go_at_call 98; refine (spec_l10Uses.calls k a0 n _ HN.out).mono ?_; rintro e W2 ⟨rfl, hdr⟩; have ST2 := Qa (ST.out.drawn hdr); clear ST hdr; have ST := ST2; clear ST2; have qa : W2.cell? ⟨gb, 2, none⟩ = some (.int .i64 a2) := (Qb ST.out.box 2).trans rfl))
      (try simp only [Zg, Qe, Qj, Qk])
      go_cut [39] (fun v39 wc => ∃ t1 : Bool, v39 = .bool t1 ∧ Zn ((t1 = true → 0 ≤ a2 ∧ a2 ≤ 3) ∧ o1 = if t1 = true then l2.set a2.toNat true else l2) ∧ Zn (LSt w0 w g cap gb #[.int .i64 a0, .int .i64 a1, .int .i64 a2, .int .i64 a3, .slice A4 l4.length c4] l2 wc))
      case first =>
        have qa : World.cell? _ ⟨gb, 2, none⟩ = some (.int .i64 a2) := (Qb ST.out.box 2).trans rfl
        have hone := HO1.out
        unfold spec_l10Free.one at hone
        by_cases cn : 0 < n
        · have cnb : decide (0 < n) = true := decide_eq_true cn
          by_cases cr : 0 ≤ a2 ∧ a2 ≤ 3
          · rw [if_pos ⟨cn, cr.1, cr.2⟩] at hone
            obtain ⟨b, hb_, hone⟩ := Qi.mp hone
            obtain rfl := Qs hone
            have hin : spec_l1In.f a2 0 3 = some true := l1In_at a2 true (by simp [cr.1, cr.2])
            have HB_ := Qa hb_
            clear hb_ hone
            go_wp2_with (first
              | (go_at_call 77; refine (spec_l1In.calls a2 0 3 true _ hin).mono ?_; rintro e W2 ⟨rfl, hdr⟩; have ST2 := Qa (ST.out.drawn hdr); clear ST hdr; have ST := ST2; clear ST2; have qa : W2.cell? ⟨gb, 2, none⟩ = some (.int .i64 a2) := (Qb ST.out.box 2).trans rfl)
              | (go_at_call 99; refine (spec_l7Has.calls k A1 c1 l1 a2 b _ ?s1 hc1 HB_.out).mono ?_; (case s1 => exact HBD.out _ ST.out.kept); rintro e W3 ⟨rfl, hb3⟩; have ST2 := Qa (ST.out.below hb3); clear ST hb3; have ST := ST2; clear ST2))
            go_meet
            case rel => exact ⟨!b, rfl, ⟨⟨fun _ => cr, by cases b <;> rfl⟩⟩, ⟨by repeat (first | exact ST.out | refine LSt.drewN ?_ _)⟩⟩
          · rw [if_neg (fun hh => cr hh.2)] at hone
            obtain rfl := Qs hone
            have hin : spec_l1In.f a2 0 3 = some false := l1In_at a2 false (by simp; omega)
            go_wp2_with (first
              | (go_at_call 77; refine (spec_l1In.calls a2 0 3 false _ hin).mono ?_; rintro e W2 ⟨rfl, hdr⟩; have ST2 := Qa (ST.out.drawn hdr); clear ST hdr; have ST := ST2; clear ST2; have qa : W2.cell? ⟨gb, 2, none⟩ = some (.int .i64 a2) := (Qb ST.out.box 2).trans rfl))
            go_meet
            case rel => exact ⟨false, rfl, ⟨⟨(fun h => by cases h), rfl⟩⟩, ⟨by repeat (first | exact ST.out | refine LSt.drewN ?_ _)⟩⟩
        · have cnb : decide (0 < n) = false := decide_eq_false cn
          rw [if_neg (fun hh => cn hh.1)] at hone
          obtain rfl := Qs hone
          go_wp2
          go_meet
          case rel => exact ⟨false, rfl, ⟨⟨(fun h => by cases h), rfl⟩⟩, ⟨by repeat (first | exact ST.out | refine LSt.drewN ?_ _)⟩⟩
      case rest =>
      clear ST HO1
      obtain ⟨t1, rfl, HT, ST⟩ := hcut
      go_upto_if 39 with (fail)
      go_cut [] (fun wc => Zn (LSt w0 w g cap gb #[.int .i64 a0, .int .i64 a1, .int .i64 a2, .int .i64 a3, .slice A4 l4.length c4] o1 wc))
      case first =>
        have qa : World.cell? _ ⟨gb, 2, none⟩ = some (.int .i64 a2) := (Qb ST.out.box 2).trans rfl
        obtain ⟨ht1, ht2⟩ := HT.out
        cases t1 with
        | true =>
          obtain ⟨u0, u1⟩ := ht1 rfl
          obtain ⟨u, hu⟩ : ∃ u : Nat, a2 = (u : Int) := ⟨a2.toNat, by omega⟩
          rw [if_pos rfl, hu, Int.toNat_natCast] at ht2
          have hu4 : u < 4 := by omega
          obtain ⟨hcl, hfz⟩ := ST.out.out.cell u hu4
          have STN := ST.out.set hcap hg GB.out.1 u hu4
          rw [← ht2] at STN
          have STN := Qa STN
          rw [hu] at qa
          have p1 : (0 ≤ (u : Int)) = True := eq_true (by omega)
          have p2 : ((u : Int) < 4) = True := eq_true (by omega)
          clear ht1 ht2 u0 u1 hu HT
          go_wp2
          go_meet
          case rel => exact ⟨by repeat (first | exact STN.out | refine LSt.drewN ?_ _)⟩
        | false =>
          rw [if_neg (by decide)] at ht2
          rw [← ht2] at ST
          go_wp2
          go_meet
          case rel => exact ⟨by repeat (first | exact ST.out | refine LSt.drewN ?_ _)⟩
      case rest =>
      clear ST HT
      have ST := hcut
      clear hcut
      go_upto_region 6 with (fail)
      (try simp only [Zg, Qe, Qj, Qk])
      go_cut [57] (fun v57 wc => ∃ t1 : Bool, v57 = .bool t1 ∧ Zn ((t1 = true → 0 ≤ a3 ∧ a3 ≤ 3) ∧ o2 = if t1 = true then o1.set a3.toNat true else o1) ∧ Zn (LSt w0 w g cap gb #[.int .i64 a0, .int .i64 a1, .int .i64 a2, .int .i64 a3, .slice A4 l4.length c4] o1 wc))
      case first =>
        have qa : World.cell? _ ⟨gb, 3, none⟩ = some (.int .i64 a3) := (Qb ST.out.box 3).trans rfl
        have hone := HO2.out
        unfold spec_l10Free.one at hone
        by_cases cn : 1 < n
        · have cnb : decide (1 < n) = true := decide_eq_true cn
          by_cases cr : 0 ≤ a3 ∧ a3 ≤ 3
          · rw [if_pos ⟨cn, cr.1, cr.2⟩] at hone
            obtain ⟨b, hb_, hone⟩ := Qi.mp hone
            obtain rfl := Qs hone
            have hin : spec_l1In.f a3 0 3 = some true := l1In_at a3 true (by simp [cr.1, cr.2])
            have HB_ := Qa hb_
            clear hb_ hone
            go_wp2_with (first
              | (go_at_call 77; refine (spec_l1In.calls a3 0 3 true _ hin).mono ?_; rintro e W2 ⟨rfl, hdr⟩; have ST2 := Qa (ST.out.drawn hdr); clear ST hdr; have ST := ST2; clear ST2; have qa : W2.cell? ⟨gb, 3, none⟩ = some (.int .i64 a3) := (Qb ST.out.box 3).trans rfl)
              | (go_at_call 99; refine (spec_l7Has.calls k A1 c1 l1 a3 b _ ?s1 hc1 HB_.out).mono ?_; (case s1 => exact HBD.out _ ST.out.kept); rintro e W3 ⟨rfl, hb3⟩; have ST2 := Qa (ST.out.below hb3); clear ST hb3; have ST := ST2; clear ST2))
            go_meet
            case rel => exact ⟨!b, rfl, ⟨⟨fun _ => cr, by cases b <;> rfl⟩⟩, ⟨by repeat (first | exact ST.out | refine LSt.drewN ?_ _)⟩⟩
          · rw [if_neg (fun hh => cr hh.2)] at hone
            obtain rfl := Qs hone
            have hin : spec_l1In.f a3 0 3 = some false := l1In_at a3 false (by simp; omega)
            go_wp2_with (first
              | (go_at_call 77; refine (spec_l1In.calls a3 0 3 false _ hin).mono ?_; rintro e W2 ⟨rfl, hdr⟩; have ST2 := Qa (ST.out.drawn hdr); clear ST hdr; have ST := ST2; clear ST2; have qa : W2.cell? ⟨gb, 3, none⟩ = some (.int .i64 a3) := (Qb ST.out.box 3).trans rfl))
            go_meet
            case rel => exact ⟨false, rfl, ⟨⟨(fun h => by cases h), rfl⟩⟩, ⟨by repeat (first | exact ST.out | refine LSt.drewN ?_ _)⟩⟩
        · have cnb : decide (1 < n) = false := decide_eq_false cn
          rw [if_neg (fun hh => cn hh.1)] at hone
          obtain rfl := Qs hone
          go_wp2
          go_meet
          case rel => exact ⟨false, rfl, ⟨⟨(fun h => by cases h), rfl⟩⟩, ⟨by repeat (first | exact ST.out | refine LSt.drewN ?_ _)⟩⟩
      case rest =>
      clear ST HO2
      obtain ⟨t1, rfl, HT, ST⟩ := hcut
      go_upto_if 57 with (fail)
      go_cut [] (fun wc => Zn (LSt w0 w g cap gb #[.int .i64 a0, .int .i64 a1, .int .i64 a2, .int .i64 a3, .slice A4 l4.length c4] o2 wc))
      case first =>
        have qa : World.cell? _ ⟨gb, 3, none⟩ = some (.int .i64 a3) := (Qb ST.out.box 3).trans rfl
        obtain ⟨ht1, ht2⟩ := HT.out
        cases t1 with
        | true =>
          obtain ⟨u0, u1⟩ := ht1 rfl
          obtain ⟨u, hu⟩ : ∃ u : Nat, a3 = (u : Int) := ⟨a3.toNat, by omega⟩
          rw [if_pos rfl, hu, Int.toNat_natCast] at ht2
          have hu4 : u < 4 := by omega
          obtain ⟨hcl, hfz⟩ := ST.out.out.cell u hu4
          have STN := ST.out.set hcap hg GB.out.1 u hu4
          rw [← ht2] at STN
          have STN := Qa STN
          rw [hu] at qa
          have p1 : (0 ≤ (u : Int)) = True := eq_true (by omega)
          have p2 : ((u : Int) < 4) = True := eq_true (by omega)
          clear ht1 ht2 u0 u1 hu HT
          go_wp2
          go_meet
          case rel => exact ⟨by repeat (first | exact STN.out | refine LSt.drewN ?_ _)⟩
        | false =>
          rw [if_neg (by decide)] at ht2
          rw [← ht2] at ST
          go_wp2
          go_meet
          case rel => exact ⟨by repeat (first | exact ST.out | refine LSt.drewN ?_ _)⟩
      case rest =>
      clear ST HT
      have ST := hcut
      clear hcut
      go_wp2
      go_meet
      case rel => exact ⟨A1, c1, l1, o2, rfl, ⟨hc1⟩, ⟨Kd.C_kept_step HBD.out ST.out.kept⟩, H2, ⟨by repeat (first | exact ST.out | refine LSt.drewN ?_ _)⟩⟩
  case rest =>
    clear H HO
    obtain ⟨A1', c1', bd, o2, rfl, Hc1', HBD', H, ST⟩ := hcut
    go_wp2
    go_loopg [7] l4.length (fun kq v7 w' => ∃ (i : Nat) (o : List Bool), v7 = .int .i64 (i : Int) ∧ i ≤ l4.length ∧ l4.length - i ≤ kq ∧ Zn ((l4.drop i).foldlM (fun o x => spec_l10Free.f k x.f0 x.f1 x.f2 x.f3 x.f4 bd o) o = some r) ∧ Zn (∀ W_, Kept w' W_ (fun k_ => k_ = g) → Kd.C (Xu .i64) W_ A1' bd.length bd) ∧ Zn (LSt w0 w g cap gb #[.int .i64 a0, .int .i64 a1, .int .i64 a2, .int .i64 a3, .slice A4 l4.length c4] o w'))
    case atStart => exact ⟨0, o2, rfl, by omega, by omega, ⟨by rw [List.drop_zero]; exact H.out⟩, HBD', ⟨by repeat (first | exact ST.out | refine LSt.drewN ?_ _)⟩⟩
    case round =>
      clear H ST HBD'
      obtain ⟨i, o, rfl, hi, hgk, H, HBD, ST⟩ := hrel
      have q4 : wr.cell? ⟨gb, 4, none⟩ = some (.slice A4 l4.length c4) := (Qb ST.out.box 4).trans rfl
      by_cases hlt' : i < l4.length
      · have hltz : (i : Int) < (l4.length : Int) := by omega
        have h := H.out
        rw [List.drop_eq_getElem_cons hlt', List.foldlM_cons] at h
        obtain ⟨o', ho', h⟩ := Qi.mp h
        have H' := Qa h
        have HO' := Qa ho'
        clear h ho' H
        obtain ⟨ad, A', c', e_, hx0, hx1, hx2, hx3, hx4, hl_, hi_⟩ := at_T32 hr (i : Int) (by omega) hltz
        cases e_
        have erd : rd_T32 l4 (i : Int) = l4[i] := rd_at32 l4 i hlt'
        rw [erd] at hx0 hx1 hx2 hx3 hx4 hl_ hi_
        rw [Int.toNat_natCast] at hx0 hx1 hx2 hx3 hx4
        have HB := Qa ST.out.bel
        replace hx0 := (HB.out.cell (Qd w0 _ hx0)).trans hx0
        replace hx1 := (HB.out.cell (Qd w0 _ hx1)).trans hx1
        replace hx2 := (HB.out.cell (Qd w0 _ hx2)).trans hx2
        replace hx3 := (HB.out.cell (Qd w0 _ hx3)).trans hx3
        replace hx4 := (HB.out.cell (Qd w0 _ hx4)).trans hx4
        generalize l4[i] = x at *
        have c0b : decide ((i : Int) < (l4.length : Int)) = true := decide_eq_true hltz
        have p1 : (0 ≤ (i : Int)) = True := eq_true (by omega)
        have p2 : ((i : Int) < (l4.length : Int)) = True := eq_true hltz
        have UP : Zn (wrap64 ((i : Int) + 1) = ((i + 1 : Nat) : Int)) := ⟨by unfold wrap64; omega⟩
        go_wp2_with (first
          | (go_at_call 59; refine (ih k (Nat.lt_succ_self k) x.f0 x.f1 x.f2 x.f3 A' c' x.f4 A1' c1' bd g cap o o' w0 _ ?s1 hi_ hl_ ?s2 Hc1'.out hg hcap hcm ?s3 HO'.out).mono ?_; (case s1 => exact ST.out.bel); (case s2 => exact HBD.out); (case s3 => exact ST.out.out); rintro e W2 ⟨rfl, ho2, hb2, hk2⟩; have ST2 : Zn (LSt w0 w g cap gb _ o' W2) := ⟨⟨ho2, hb2, ST.out.kept.then_ hk2 (fun _ h2 => .inl h2), blk_kept ST.out.box hk2 GB.out.1⟩⟩; have HBD2 := Qa (Kd.C_kept_step HBD.out hk2); clear ST HBD ho2 hb2 hk2; have ST := ST2; have HBD := HBD2; clear ST2 HBD2))
        go_roundg (l4.length - (i + 1))
        case measure => omega
        case rel => exact ⟨i + 1, o', by first | exact congrArg _ UP.out | (simp only [i64_w]; exact congrArg _ UP.out) | (simp; done), by omega, by omega, H', HBD, ⟨by repeat (first | exact ST.out | refine LSt.drewN ?_ _)⟩⟩
      · have hltz : ¬ (i : Int) < (l4.length : Int) := by omega
        have c0b : decide ((i : Int) < (l4.length : Int)) = false := decide_eq_false hltz
        have h := H.out
        rw [List.drop_eq_nil_of_le (by omega), List.foldlM_nil] at h
        obtain rfl := Qs h
        go_wp2
        first | go_end0 | ((try simp only [Exit.inBlock, Exit.then]); refine bodyPost_ret (results_none rfl _ _ _) rfl ?_)
        exact ⟨rfl, ST.out.out, ST.out.bel, ST.out.kept⟩
theorem spec_l10Free.calls (k : Nat) (a0_0 : Int) (a0_1 : Int) (a0_2 : Int) (a0_3 : Int) (A0_4 : Option Addr) (c0_4 : Nat) (l0_4 : List (S32)) (A1 : Option Addr) (c1 : Nat) (l1 : List Int) (P2_ : Nat → Prop) (u9000_ : Value) (l2 : List Bool) (r : List Bool) (w0 w : Xs) (hB : Below w0.heap.size w0 w) (hr0_4 : Kd.C k32 w0 A0_4 l0_4.length l0_4) (hc0_4 : l0_4.length ≤ c0_4) (hr1 : ∀ W_, Kept w W_ (fun k_ => P2_ k_) → Kd.C (Xu .i64) W_ A1 l1.length l1) (hc1 : l1.length ≤ c1) (ho2 : Kd.R Kd.bool 4 w w0.heap.size P2_ u9000_ l2) (h : spec_l10Free.f k a0_0 a0_1 a0_2 a0_3 l0_4 l1 l2 = some r) :
    Calls Try.prog 59 #[.agg #[.int .i64 a0_0, .int .i64 a0_1, .int .i64 a0_2, .int .i64 a0_3, .slice A0_4 l0_4.length c0_4], .slice A1 l1.length c1, u9000_] w fun e w' => e = .returned (.tuple #[]) ∧ Kd.R Kd.bool 4 w' w0.heap.size (fun k_ => (P2_ k_ ∨ w.heap.size ≤ k_)) u9000_ r ∧ Below w0.heap.size w0 w' ∧ Kept w w' (fun k_ => P2_ k_) := by
  have hl2 : l2.length = 4 := by
    cases k with
    | zero => exact absurd h (by simp [spec_l10Free.f])
    | succ k =>
      simp only [spec_l10Free.f] at h
      split at h
      case isFalse => cases h
      case isTrue hl => exact hl.1
  have ho := Kd.own_of_R (enc := Value.bool) (h1 := fun _ => rfl) ho2
  rcases ho.2 with ⟨_, h0⟩ | ⟨g, cap, cur, rfl, a, b, c, d, e1, f⟩
  · omega
  · have hP : P2_ g := ho2.1 g rfl
    have OA : OutAt g cap l2 w := ⟨hl2, cur, b, by omega, by rw [hl2] at f; exact f⟩
    rw [hl2]
    refine (spec_l10Free.walk k a0_0 a0_1 a0_2 a0_3 A0_4 c0_4 l0_4 A1 c1 l1 g cap l2 r w0 w hB hr0_4 hc0_4 (fun W_ hk => hr1 W_ (hk.mono (fun k e => by rw [e]; exact hP))) hc1 a (by omega) d OA h).mono ?_
    rintro e w' ⟨rfl, o1, o2, o3⟩
    exact ⟨rfl, Kd.R_mono (outAt_R o1 a (by omega) d) (fun k e => Or.inl (by rw [e]; exact hP)), o2, o3.mono (fun k e => by rw [e]; exact hP)⟩
end Go.Proofs.Ytoljagpjejpmpaa.PFnFormulas
