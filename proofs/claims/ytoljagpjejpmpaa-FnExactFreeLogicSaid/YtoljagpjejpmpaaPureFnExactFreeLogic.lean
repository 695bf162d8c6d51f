/-
  The pure statement of laws.FnExactFreeLogic: what the printed functions compute makes the law answer true, for every argument of its kinds (no further condition).
-/
import Derived.Test.YtoljagpjejpmpaaPFnExactFreeLogicx7
import Derived.Test.YtoljagpjejpmpaaXPure
namespace Go.Proofs.Ytoljagpjejpmpaa.Pure.LFnExactFreeLogic
open Go.RowKit Go.Proofs.Ytoljagpjejpmpaa.PFnExactFreeLogic Go.Proofs.YtoljagpjejpmpaaW.PrintWords Go.Proofs.YtoljagpjejpmpaaW.PrintLast Go.Proofs.YtoljagpjejpmpaaX
set_option linter.unusedVariables false
set_option linter.unusedSimpArgs false

theorem rdF (l : List S25) (i : Nat) : rd_T25 l (i : Int) = l.getD i z25 := by unfold rd_T25; rw [Int.toNat_natCast]
theorem rdG (l : List S32) (i : Nat) : rd_T32 l (i : Int) = l.getD i z32 := by unfold rd_T32; rw [Int.toNat_natCast]

theorem etaG (y : S32) : (⟨y.f0, y.f1, y.f2, y.f3, y.f4⟩ : S32) = y := by cases y; rfl

/-- all lists inside are short, so many levels deep -/
def LF : Nat → S25 → Prop
  | 0, _ => False
  | n + 1, x => x.f4.length ≤ 1048576 ∧ ∀ y ∈ x.f4, LF n y
def LG : Nat → S32 → Prop
  | 0, _ => False
  | n + 1, x => x.f4.length ≤ 1048576 ∧ ∀ y ∈ x.f4, LG n y

theorem ev_szFormula : ∀ (n : Nat) (x : S25), B25n n x → ∀ a : Int, 0 ≤ a → a ≤ 1048576 →
    ∃ r, Ev (fun k => laws_szFormula.f k x.f0 x.f1 x.f2 x.f3 x.f4 a) r ∧ (r < 0 ∨ (0 ≤ r ∧ r ≤ a ∧ LF n x)) := by
  intro n
  induction n with
  | zero => intro x h; exact h.elim
  | succ n ih =>
    intro x hx a h0 h1
    have hm : maxLen = 9223372036854775807 := rfl
    have hl : x.f4.length ≤ maxLen ∧ ∀ y ∈ x.f4, B25n n y := hx.2.2.2.2
    have hw : wrap64 (a - (x.f4.length : Int)) = a - x.f4.length := w64 (by omega) (by omega)
    have key : ∃ r, Ev (fun k => laws_szFormulaS.f k x.f4 a) r ∧ (r < 0 ∨ (0 ≤ r ∧ r ≤ a ∧ LF (n + 1) x)) := by
      by_cases c : a - (x.f4.length : Int) < 0
      · exact ⟨-1, Ev.last ⟨0, fun k _ => by simp only [laws_szFormulaS.f]; rw [hw, if_pos c]⟩, Or.inl (by omega)⟩
      · obtain ⟨r, hr, he⟩ := loop_ev (σ := Int) x.f4.length (fun k s i => laws_szFormulaS.l0 k x.f4 s i) (fun i s => 0 ≤ s ∧ s ≤ a ∧ ∀ j, j < i → LF n (x.f4.getD j z25))
          (fun r => r < 0 ∨ (0 ≤ r ∧ r ≤ a ∧ LF (n + 1) x))
          (fun i s hi ⟨s0, s1, hj⟩ => by
            obtain ⟨r, ⟨K, hK⟩, hr⟩ := ih (x.f4.getD i z25) (hl.2 _ (getD_mem _ _ _ hi)) s s0 (by omega)
            rcases hr with hr | ⟨g0, g1, g2⟩
            · refine Or.inr ⟨-1, Or.inl (by omega), K, fun k hk => ?_⟩
              have e := hK k hk
              dsimp only at e
              simp only [laws_szFormulaS.l0]
              rw [if_pos (by omega), if_pos (by omega), rdF, e]
              simp only [Option.bind_some]
              rw [if_pos hr]
            · refine Or.inl ⟨r, ⟨g0, by omega, fun j hj' => ?_⟩, K, fun k hk => ?_⟩
              · by_cases ej : j = i
                · subst ej; exact g2
                · exact hj j (by omega)
              · have e := hK k hk
                dsimp only at e
                simp only [laws_szFormulaS.l0]
                rw [if_pos (by omega), if_pos (by omega), rdF, e]
                simp only [Option.bind_some]
                rw [if_neg (by omega), up64 (by omega)])
          (fun s ⟨s0, s1, hj⟩ => ⟨s, Or.inr ⟨s0, s1, by omega, fun y hy => by
            obtain ⟨j, hj1, rfl⟩ := List.getElem_of_mem hy
            have := hj j hj1
            rwa [get_rep _ _ _ hj1] at this⟩, 0, fun k _ => by simp only [laws_szFormulaS.l0]; rw [if_neg (by omega)]⟩)
          x.f4.length 0 (a - x.f4.length) (by omega) (by omega) ⟨by omega, by omega, fun j hj => by omega⟩
        refine ⟨r, Ev.next (f := fun k => laws_szFormulaS.l0 k x.f4 (a - x.f4.length) 0) ⟨0, fun k _ => by simp only [laws_szFormulaS.f]; rw [hw, if_neg c]⟩ he, hr⟩
    obtain ⟨r, ⟨K, hK⟩, hr⟩ := key
    rcases hr with hr | hr
    · refine ⟨-1, Ev.last ⟨K, fun k hk => ?_⟩, Or.inl (by omega)⟩
      have e := hK k hk
      dsimp only at e
      simp only [laws_szFormula.f]
      rw [e]
      simp only [Option.bind_some]
      rw [if_pos hr]
    · refine ⟨r, Ev.last ⟨K, fun k hk => ?_⟩, Or.inr hr⟩
      have e := hK k hk
      dsimp only at e
      simp only [laws_szFormula.f]
      rw [e]
      simp only [Option.bind_some]
      rw [if_neg (by omega)]

instance : Inhabited S32 := ⟨z32⟩

theorem ev_toFormula : ∀ (n : Nat) (x : S25), LF n x → ∃ y : S32, LG n y ∧ Ev (fun k => laws_toFormula.f k x.f0 x.f1 x.f2 x.f3 x.f4) (y.f0, y.f1, y.f2, y.f3, y.f4) := by
  intro n
  induction n with
  | zero => intro x h; exact h.elim
  | succ n ih =>
    intro x hx
    obtain ⟨g, hg⟩ := chosen (α := S32) (p := fun i y => LG n y ∧ Ev (fun k => laws_toFormula.f k (x.f4.getD i z25).f0 (x.f4.getD i z25).f1 (x.f4.getD i z25).f2 (x.f4.getD i z25).f3 (x.f4.getD i z25).f4) (y.f0, y.f1, y.f2, y.f3, y.f4)) (n := x.f4.length) (fun i hi => ih _ (hx.2 _ (getD_mem _ _ _ hi)))
    obtain ⟨K, hc⟩ := copy_loop x.f4.length (by have := hx.1; omega) g z32 (fun k ys i => laws_toFormulaS.l0 k x.f4 ys i)
      (fun i ys hi hl => by
        obtain ⟨K, hK⟩ := (hg i hi).2
        refine ⟨K, fun k hk => ?_⟩
        have e := hK k hk
        dsimp only at e
        simp only [laws_toFormulaS.l0]
        rw [if_pos (by omega), if_pos (by omega), rdF, e]
        simp only [Option.bind_some]
        rw [if_pos (by omega), Int.toNat_natCast, etaG])
      (fun ys hl => ⟨0, fun k _ => by simp only [laws_toFormulaS.l0]; rw [if_neg (by omega)]⟩)
    refine ⟨⟨x.f0, x.f1, x.f2, x.f3, (List.range x.f4.length).map g⟩, ⟨by simpa using hx.1, fun y hy => ?_⟩, Ev.next (f := fun k => (laws_toFormulaS.f k x.f4).bind fun t => some (x.f0, x.f1, x.f2, x.f3, t)) ⟨0, fun k _ => by simp only [laws_toFormula.f]⟩ (Ev.last ⟨K, fun k hk => ?_⟩)⟩
    · obtain ⟨i, hi, rfl⟩ := List.mem_map.mp hy
      exact (hg i (List.mem_range.mp hi)).1
    · have e := hc k hk
      dsimp only at e ⊢
      simp only [laws_toFormulaS.f]
      rw [if_pos (by omega), if_pos (by have := hx.1; rw [Int.toNat_natCast]; omega), Int.toNat_natCast, e]
      rfl

theorem ev_eqFormula : ∀ (n : Nat) (x : S32), LG n x → Ev (fun k => laws_eqFormula.f k x.f0 x.f1 x.f2 x.f3 x.f4 x.f0 x.f1 x.f2 x.f3 x.f4) true := by
  intro n
  induction n with
  | zero => intro x h; exact h.elim
  | succ n ih =>
    intro x hx
    have hc := all_true x.f4.length (by have := hx.1; omega) (fun k i => laws_eqFormulaS.l0 k x.f4 x.f4 i) true
      (fun i hi => by
        obtain ⟨K, hK⟩ := ih (x.f4.getD i z32) (hx.2 _ (getD_mem _ _ _ hi))
        refine ⟨K, fun k hk => ?_⟩
        have e := hK k hk
        dsimp only at e
        simp only [laws_eqFormulaS.l0]
        rw [if_pos (by omega), if_pos (by omega), if_pos (by omega), rdG, e]
        simp only [Option.bind_some, if_true])
      ⟨0, fun k _ => by simp only [laws_eqFormulaS.l0]; rw [if_neg (by omega)]⟩
    obtain ⟨K, hK⟩ : Ev (fun k => laws_eqFormulaS.f k x.f4 x.f4) true := Ev.next (f := fun k => laws_eqFormulaS.l0 k x.f4 x.f4 0) ⟨0, fun k _ => by simp only [laws_eqFormulaS.f, if_true]⟩ hc
    refine Ev.last ⟨K, fun k hk => ?_⟩
    have e := hK k hk
    dsimp only at e
    simp only [laws_eqFormula.f, if_true]
    rw [e]
    rfl


theorem ev_eqIntS (l : List Int) (h : l.length ≤ 9223372036854775807) : Ev (fun k => laws_eqIntS.f k l l) true := by
  have hc := all_true l.length h (fun k i => laws_eqIntS.l0 k l l i) true
    (fun i hi => ⟨0, fun k _ => by simp only [laws_eqIntS.l0]; rw [if_pos (by omega), if_pos (by omega), if_pos (by omega)]; simp only [if_true]⟩)
    ⟨0, fun k _ => by simp only [laws_eqIntS.l0]; rw [if_neg (by omega)]⟩
  refine Ev.congr (fun k => ?_) hc
  unfold laws_eqIntS.f
  rw [if_pos rfl]


theorem ev_markIntS (l : List Int) (h : l.length ≤ 4611686018427387904) : Ev (fun k => laws_markIntS.f k l 1) ((1 + l.length : Int), marks l.length) := by
  have hc := loop_is (σ := List Int × Int) l.length (fun k s i => laws_markIntS.l0 k s.1 s.2 i) (fun i s => s.1.length = l.length ∧ s.2 = 1 + i ∧ ∀ j, j < i → s.1[j]? = some (1 + j : Int)) ((1 + l.length : Int), marks l.length)
    (fun i s hi ⟨hl, hs, hy⟩ => Or.inl ⟨(s.1.set i s.2, s.2 + 1), ⟨by simp [hl], by simp only [hs]; omega, fun j hj => by
      by_cases e : j = i
      · subst e; rw [List.getElem?_set_self (by omega), hs]
      · rw [List.getElem?_set_ne (by omega)]; exact hy j (by omega)⟩, 0, fun k _ => by
      simp only [laws_markIntS.l0]; rw [if_pos (by omega), if_pos (by omega), Int.toNat_natCast, up64 (by omega), w64 (by omega) (by omega)]⟩)
    (fun s ⟨hl, hs, hy⟩ => ⟨0, fun k _ => by
      simp only [laws_markIntS.l0]; rw [if_neg (by omega), hs]
      have e : s.1 = marks l.length := by
        apply List.ext_getElem?
        intro j
        by_cases hj : j < l.length
        · rw [hy j hj]; simp [marks, hj]
        · rw [List.getElem?_eq_none (by omega), List.getElem?_eq_none (by rw [marks_length]; omega)]
      rw [e]⟩)
    (l, 1) ⟨rfl, by omega, fun j hj => by omega⟩
  exact Ev.congr (fun k => by unfold laws_markIntS.f; rfl) hc


theorem ev_heldIntS (n : Nat) (h : n ≤ 4611686018427387904) : Ev (fun k => laws_heldIntS.f k (marks n) 1) (1 + n : Int) := by
  have hc := loop_is (σ := Int) n (fun k s i => laws_heldIntS.l0 k (marks n) s i) (fun i s => s = 1 + i) (1 + n : Int)
    (fun i s hi hs => Or.inl ⟨s + 1, by omega, 0, fun k _ => by
      simp only [laws_heldIntS.l0]; rw [if_pos (by rw [marks_length]; omega), if_pos (by omega), marks_at _ _ hi, if_pos hs.symm, up64 (by omega), w64 (by omega) (by omega)]⟩)
    (fun s hs => ⟨0, fun k _ => by simp only [laws_heldIntS.l0]; rw [if_neg (by rw [marks_length]; omega), hs]⟩) 1 (by omega)
  exact Ev.congr (fun k => by unfold laws_heldIntS.f; rfl) hc


/-! ### canonical lists -/
theorem comp_up (d : Array Int) (hs : ∀ i j, i ≤ j → j < d.size → d[i]! ≤ d[j]!) : ∀ m, m ≤ d.size → (Go.Lib.compactUpTo d m).Pairwise (· < ·) ∧ ∀ x, x ∈ Go.Lib.compactUpTo d m ↔ ∃ j, j < m ∧ d[j]! = x := by
  intro m
  induction m with
  | zero =>
    intro _
    refine ⟨by simp [Go.Lib.compactUpTo], fun x => ?_⟩
    simp [Go.Lib.compactUpTo]
  | succ m ih =>
    intro hm
    obtain ⟨h1, h2⟩ := ih (by omega)
    rw [Go.Lib.compactUpTo_succ]
    cases hk : Go.Lib.keeps d m with
    | true =>
      rw [if_pos rfl]
      have hk' : m = 0 ∨ d[m]! ≠ d[m - 1]! := by simpa [Go.Lib.keeps] using hk
      refine ⟨List.pairwise_append.mpr ⟨h1, by simp, fun x hx y hy => ?_⟩, fun x => ?_⟩
      · obtain rfl := List.mem_singleton.mp hy
        obtain ⟨j, hj, rfl⟩ := (h2 x).mp hx
        rcases hk' with rfl | hk'
        · omega
        · have a := hs j (m - 1) (by omega) (by omega)
          have b := hs (m - 1) m (by omega) (by omega)
          omega
      · rw [List.mem_append, List.mem_singleton, h2]
        constructor
        · rintro (⟨j, hj, e⟩ | e)
          · exact ⟨j, by omega, e⟩
          · exact ⟨m, by omega, e.symm⟩
        · rintro ⟨j, hj, e⟩
          by_cases c : j = m
          · subst c; exact Or.inr e.symm
          · exact Or.inl ⟨j, by omega, e⟩
    | false =>
      have hk' : ¬ (m = 0 ∨ d[m]! ≠ d[m - 1]!) := by simpa [Go.Lib.keeps] using hk
      rw [if_neg (by decide), List.append_nil]
      refine ⟨h1, fun x => ?_⟩
      rw [h2]
      constructor
      · rintro ⟨j, hj, e⟩; exact ⟨j, by omega, e⟩
      · rintro ⟨j, hj, e⟩
        by_cases c : j = m
        · subst c
          refine ⟨j - 1, by omega, ?_⟩
          rw [← e]
          by_cases c2 : d[j]! = d[j - 1]!
          · exact c2.symm
          · exact absurd (Or.inr c2) hk'
        · exact ⟨j, by omega, e⟩

theorem sorted_ext : ∀ (l m : List Int), l.Pairwise (· < ·) → m.Pairwise (· < ·) → (∀ x, x ∈ l ↔ x ∈ m) → l = m
  | [], [], _, _, _ => rfl
  | [], b :: m, _, _, h => absurd ((h b).mpr (List.mem_cons_self ..)) (by simp)
  | a :: l, [], _, _, h => absurd ((h a).mp (List.mem_cons_self ..)) (by simp)
  | a :: l, b :: m, hl, hm, h => by
    obtain ⟨hl1, hl2⟩ := List.pairwise_cons.mp hl
    obtain ⟨hm1, hm2⟩ := List.pairwise_cons.mp hm
    have e : a = b := by
      rcases List.mem_cons.mp ((h a).mp (List.mem_cons_self ..)) with e | e
      · exact e
      · rcases List.mem_cons.mp ((h b).mpr (List.mem_cons_self ..)) with e' | e'
        · exact e'.symm
        · have := hm1 a e
          have := hl1 b e'
          omega
    subst e
    refine congrArg _ (sorted_ext l m hl2 hm2 (fun x => ⟨fun hx => ?_, fun hx => ?_⟩))
    · rcases List.mem_cons.mp ((h x).mp (List.mem_cons_of_mem _ hx)) with e | e
      · have := hl1 x hx; omega
      · exact e
    · rcases List.mem_cons.mp ((h x).mpr (List.mem_cons_of_mem _ hx)) with e | e
      · have := hm1 x hx; omega
      · exact e

theorem canon (l : List Int) (P : Int → Bool) (h : ∀ u, 0 ≤ u → u ≤ 3 → (u ∈ l ↔ P u = true)) (hr : ∀ u ∈ l, 0 ≤ u ∧ u ≤ 3) : Go.Lib.compact (l.mergeSort fun x y => decide (x ≤ y)) = ([0, 1, 2, 3] : List Int).filter P := by
  have hsort : (l.mergeSort fun x y => decide (x ≤ y)).Pairwise (fun x y => decide (x ≤ y) = true) := List.pairwise_mergeSort (fun a b c h1 h2 => by simp only [decide_eq_true_eq] at h1 h2 ⊢; omega) (fun a b => by simp only [Bool.or_eq_true, decide_eq_true_eq]; omega) l
  have hmem : ∀ x, x ∈ (l.mergeSort fun x y => decide (x ≤ y)) ↔ x ∈ l := fun x => List.mem_mergeSort
  generalize (l.mergeSort fun x y => decide (x ≤ y)) = zs at hsort hmem ⊢
  have hs : ∀ i j, i ≤ j → j < zs.toArray.size → zs.toArray[i]! ≤ zs.toArray[j]! := fun i j hij hj => by
    have hj' : j < zs.length := by simpa using hj
    by_cases e : i = j
    · subst e; exact Int.le_refl _
    · have := (List.pairwise_iff_getElem.mp hsort) i j (by omega) hj' (by omega)
      simp only [decide_eq_true_eq] at this
      rw [getElem!_pos zs.toArray i (by simp; omega), getElem!_pos zs.toArray j hj]
      simpa using this
  obtain ⟨c1, c2⟩ := comp_up zs.toArray hs zs.length (by simp)
  refine sorted_ext _ _ c1 (List.Pairwise.filter _ (by decide)) (fun x => ?_)
  show x ∈ Go.Lib.compactUpTo zs.toArray zs.length ↔ _
  rw [c2, List.mem_filter]
  have e : (∃ j, j < zs.length ∧ zs.toArray[j]! = x) ↔ x ∈ zs := by
    rw [List.mem_iff_getElem]
    constructor
    · rintro ⟨j, hj, e⟩
      rw [getElem!_pos zs.toArray j (by simpa using hj)] at e
      exact ⟨j, hj, by simpa using e⟩
    · rintro ⟨j, hj, e⟩
      refine ⟨j, hj, ?_⟩
      rw [getElem!_pos zs.toArray j (by simpa using hj)]
      simpa using e
  rw [e, hmem]
  constructor
  · intro hx
    obtain ⟨a, b⟩ := hr x hx
    refine ⟨?_, (h x a b).mp hx⟩
    have : x = 0 ∨ x = 1 ∨ x = 2 ∨ x = 3 := by omega
    rcases this with rfl | rfl | rfl | rfl <;> simp
  · rintro ⟨hx, hp⟩
    have : 0 ≤ x ∧ x ≤ 3 := by
      simp only [List.mem_cons, List.not_mem_nil, or_false] at hx
      omega
    exact (h x this.1 this.2).mpr hp

/-! ### the free variables of a tree -/
def FV : Nat → S32 → Int → Bool
  | 0, _, _ => false
  | n + 1, y, u => if y.f0 = 11 ∨ y.f0 = 12 then (y.f4.any fun z => FV n z u) && !(u == y.f2) else (y.f4.any fun z => FV n z u) || (decide (2 ≤ y.f0 ∧ y.f0 ≤ 7) && (u == y.f2)) || (decide (5 ≤ y.f0 ∧ y.f0 ≤ 7) && (u == y.f3))
def CL (n : Nat) (y : S32) : List Int := ([0, 1, 2, 3] : List Int).filter (FV n y)

theorem CL_len (n : Nat) (y : S32) : (CL n y).length ≤ 4 := List.length_filter_le (FV n y) ([0, 1, 2, 3] : List Int)
theorem CL_mem (n : Nat) (y : S32) (u : Int) : u ∈ CL n y ↔ (0 ≤ u ∧ u ≤ 3) ∧ FV n y u = true := by
  unfold CL
  rw [List.mem_filter]
  constructor
  · rintro ⟨hx, hp⟩
    simp only [List.mem_cons, List.not_mem_nil, or_false] at hx
    exact ⟨by omega, hp⟩
  · rintro ⟨hx, hp⟩
    have : u = 0 ∨ u = 1 ∨ u = 2 ∨ u = 3 := by omega
    exact ⟨by rcases this with rfl | rfl | rfl | rfl <;> simp, hp⟩

theorem bi_eq (a : Int) : impl_isBinder.f a = some (decide (a = 11 ∨ a = 12)) := by
  unfold impl_isBinder.f
  by_cases c : a = 11
  · rw [if_pos c]; simp [c]
  · rw [if_neg c]; simp [c]; rfl
theorem wi_eq (a b c : Int) : impl_within.f a b c = some (decide (b ≤ a ∧ a ≤ c)) := by
  unfold impl_within.f
  by_cases h1 : b ≤ a <;> by_cases h2 : a ≤ c <;> simp [h1, h2]
theorem uU_eq (a : Int) (h : ¬ (a = 11 ∨ a = 12)) : impl_usesU.f a = some (decide (2 ≤ a ∧ a ≤ 7)) := by
  unfold impl_usesU.f
  rw [wi_eq, bi_eq]
  simp only [Option.bind_some]
  by_cases c : 2 ≤ a ∧ a ≤ 7
  · rw [if_pos (decide_eq_true c), decide_eq_true c]
  · rw [if_neg (by simpa using c), decide_eq_false c, decide_eq_false h]
theorem uV_eq (a : Int) : impl_usesV.f a = some (decide (5 ≤ a ∧ a ≤ 7)) := by
  unfold impl_usesV.f
  rw [wi_eq]
  rfl

theorem any_get (l : List S32) (p : S32 → Bool) : (l.any p) = true ↔ ∃ j, j < l.length ∧ p (l.getD j z32) = true := by
  rw [List.any_eq_true]
  constructor
  · rintro ⟨x, hx, hp⟩
    obtain ⟨j, hj, rfl⟩ := List.getElem_of_mem hx
    exact ⟨j, hj, by rw [get_rep _ _ _ hj]; exact hp⟩
  · rintro ⟨j, hj, hp⟩
    exact ⟨_, getD_mem _ _ _ hj, hp⟩

theorem tail_eq (s : List Int) (P : Int → Bool) (hs : s.length ≤ 1000000000) (h : ∀ u, 0 ≤ u → u ≤ 3 → (u ∈ s ↔ P u = true)) : ((slices_DeleteFunc_int_int_FreeLogic_2.f s).bind fun t178 => ((slices_Sort_int_int.f t178).bind fun t181 => ((slices_Compact_int_int.f t181).bind fun t182 => (some t182)))) = some (([0, 1, 2, 3] : List Int).filter P) := by
  unfold slices_DeleteFunc_int_int_FreeLogic_2.f slices_DeleteFunc_int_int_FreeLogic_2.fin slices_Sort_int_int.f slices_Compact_int_int.f
  simp only [Option.bind_some]
  have hl : (s.filter fun x => !(!(decide (0 ≤ x) && decide (x ≤ 3)))).length ≤ s.length := List.length_filter_le _ _
  rw [if_pos (by omega)]
  simp only [Option.bind_some]
  rw [if_pos (by simp only [List.length_mergeSort]; omega)]
  simp only [Option.bind_some]
  rw [canon _ P (fun u h0 h1 => ?_) (fun u hu => ?_)]
  · rw [List.mem_filter]
    have : (!(!(decide (0 ≤ u) && decide (u ≤ 3)))) = true := by simp [h0, h1]
    rw [this, ← h u h0 h1]
    simp
  · have := (List.mem_filter.mp hu).2
    simpa using this

theorem ev_impl : ∀ (n : Nat) (y : S32), LG n y → Ev (fun k => impl_FreeLogic.f k y.f0 y.f1 y.f2 y.f3 y.f4) (CL n y) := by
  intro n
  induction n with
  | zero => intro y h; exact h.elim
  | succ n ih =>
    intro y hy
    have hlen := hy.1
    have hc := loop_is (σ := List Int) y.f4.length (fun k s i => impl_FreeLogic.l0 k s y.f4 (y.f4.length : Int) i y.f0 y.f1 y.f2 y.f3 y.f4)
      (fun i s => s.length ≤ 4 * i ∧ ∀ u, u ∈ s ↔ ∃ j, j < i ∧ u ∈ CL n (y.f4.getD j z32)) (CL (n + 1) y)
      (fun i s hi ⟨h1, h2⟩ => by
        obtain ⟨K, hK⟩ := ih (y.f4.getD i z32) (hy.2 _ (getD_mem _ _ _ hi))
        have hcl := CL_len n (y.f4.getD i z32)
        refine Or.inl ⟨s ++ CL n (y.f4.getD i z32), ⟨by rw [List.length_append]; omega, fun u => ?_⟩, K, fun k hk => ?_⟩
        · rw [List.mem_append, h2]
          constructor
          · rintro (⟨j, hj, e⟩ | e)
            · exact ⟨j, by omega, e⟩
            · exact ⟨i, by omega, e⟩
          · rintro ⟨j, hj, e⟩
            by_cases c : j = i
            · subst c; exact Or.inr e
            · exact Or.inl ⟨j, by omega, e⟩
        · have e := hK k hk
          dsimp only at e
          simp only [impl_FreeLogic.l0]
          rw [if_pos (by omega), if_pos (by omega), if_pos (by omega), rdG, e]
          simp only [Option.bind_some]
          rw [if_pos (by omega), up64 (by omega)])
      (fun s ⟨h1, h2⟩ => by
        have hany : ∀ u, 0 ≤ u → u ≤ 3 → (u ∈ s ↔ (y.f4.any fun z => FV n z u) = true) := fun u u0 u1 => by
          rw [h2, any_get]
          constructor
          · rintro ⟨j, hj, e⟩; exact ⟨j, hj, ((CL_mem _ _ _).mp e).2⟩
          · rintro ⟨j, hj, e⟩; exact ⟨j, hj, (CL_mem _ _ _).mpr ⟨⟨u0, u1⟩, e⟩⟩
        refine ⟨1, fun k hk => ?_⟩
        obtain ⟨m, rfl⟩ : ∃ m, k = m + 1 := ⟨k - 1, by omega⟩
        simp only [impl_FreeLogic.l0]
        rw [if_neg (by omega), bi_eq]
        simp only [Option.bind_some]
        by_cases cb : y.f0 = 11 ∨ y.f0 = 12
        · rw [if_pos (decide_eq_true cb)]
          unfold slices_DeleteFunc_int_int_FreeLogic_1.f slices_DeleteFunc_int_int_FreeLogic_1.fin
          simp only [Option.bind_some, impl_FreeLogic.j1]
          rw [uV_eq]
          simp only [Option.bind_some]
          rw [if_neg (by simp; omega)]
          have hfl : (s.filter fun x => !(x == y.f2)).length ≤ s.length := List.length_filter_le _ _
          refine tail_eq _ (FV (n + 1) y) (by omega) (fun u u0 u1 => ?_)
          rw [List.mem_filter, hany u u0 u1]
          simp only [FV]
          rw [if_pos cb]
          simp
        · rw [if_neg (by simpa using cb), uU_eq _ cb]
          simp only [Option.bind_some]
          by_cases cu : 2 ≤ y.f0 ∧ y.f0 ≤ 7
          · rw [if_pos (decide_eq_true cu), if_pos (by omega)]
            simp only [impl_FreeLogic.j1]
            rw [uV_eq]
            simp only [Option.bind_some]
            by_cases cv : 5 ≤ y.f0 ∧ y.f0 ≤ 7
            · rw [if_pos (decide_eq_true cv), if_pos (by rw [List.length_append]; simp; omega)]
              refine tail_eq _ (FV (n + 1) y) (by simp only [List.length_append, List.length_cons, List.length_nil]; omega) (fun u u0 u1 => ?_)
              simp only [List.mem_append, List.mem_singleton, FV]
              rw [if_neg cb, hany u u0 u1, decide_eq_true cu, decide_eq_true cv]
              simp
            · rw [if_neg (by simpa using cv)]
              refine tail_eq _ (FV (n + 1) y) (by simp only [List.length_append, List.length_cons, List.length_nil]; omega) (fun u u0 u1 => ?_)
              simp only [List.mem_append, List.mem_singleton, FV]
              rw [if_neg cb, hany u u0 u1, decide_eq_true cu, decide_eq_false cv]
              simp
          · rw [if_neg (by simpa using cu)]
            simp only [impl_FreeLogic.j1]
            rw [uV_eq]
            simp only [Option.bind_some]
            rw [if_neg (by simp; omega)]
            refine tail_eq _ (FV (n + 1) y) (by omega) (fun u u0 u1 => ?_)
            simp only [FV]
            rw [if_neg cb, hany u u0 u1, decide_eq_false cu, decide_eq_false (show ¬ (5 ≤ y.f0 ∧ y.f0 ≤ 7) by omega)]
            simp)
      [] ⟨by simp, fun u => by simp⟩
    exact Ev.next (f := fun k => impl_FreeLogic.l0 k [] y.f4 (y.f4.length : Int) 0 y.f0 y.f1 y.f2 y.f3 y.f4) ⟨0, fun k _ => by simp only [impl_FreeLogic.f]⟩ hc

/-! ### how many nodes a tree has -/
def csum {α : Type} (f : α → Nat) : List α → Nat
  | [] => 0
  | a :: l => f a + csum f l
theorem csum_take {α : Type} (f : α → Nat) (d : α) : ∀ (l : List α) (i : Nat), i < l.length → csum f (l.take (i + 1)) = csum f (l.take i) + f (l.getD i d)
  | [], i, h => by simp at h
  | a :: l, 0, _ => by simp [csum]
  | a :: l, i + 1, h => by
    simp only [List.take_succ_cons, csum]
    have := csum_take f d l i (by simpa using h)
    rw [this]
    simp only [List.getD_cons_succ]
    omega
theorem csum_map {α β : Type} (f : α → Nat) (g : β → Nat) (d : α) (e : β) : ∀ (l : List α) (m : List β), l.length = m.length → (∀ i, i < l.length → f (l.getD i d) = g (m.getD i e)) → csum f l = csum g m
  | [], [], _, _ => rfl
  | a :: l, [], h, _ => by simp at h
  | [], b :: m, h, _ => by simp at h
  | a :: l, b :: m, h, hf => by
    have h0 : f a = g b := hf 0 (by simp)
    have h1 := csum_map f g d e l m (by simpa using h) (fun i hi => hf (i + 1) (by simpa using hi))
    simp only [csum, h0, h1]
theorem csum_mem {α : Type} (f : α → Nat) : ∀ (l : List α) (x : α), x ∈ l → f x ≤ csum f l
  | a :: l, x, h => by
    simp only [csum]
    rcases List.mem_cons.mp h with rfl | h
    · omega
    · have := csum_mem f l x h
      omega
def cntF : Nat → S25 → Nat
  | 0, _ => 0
  | n + 1, x => x.f4.length + csum (cntF n) x.f4
def cntG : Nat → S32 → Nat
  | 0, _ => 0
  | n + 1, x => x.f4.length + csum (cntG n) x.f4

theorem ev_szCnt : ∀ (n : Nat) (x : S25), B25n n x → ∀ a : Int, 0 ≤ a → a ≤ 1048576 →
    ∃ r, Ev (fun k => laws_szFormula.f k x.f0 x.f1 x.f2 x.f3 x.f4 a) r ∧ (r < 0 ∨ (0 ≤ r ∧ r = a - cntF n x ∧ LF n x)) := by
  intro n
  induction n with
  | zero => intro x h; exact h.elim
  | succ n ih =>
    intro x hx a h0 h1
    have hm : maxLen = 9223372036854775807 := rfl
    have hl : x.f4.length ≤ maxLen ∧ ∀ y ∈ x.f4, B25n n y := hx.2.2.2.2
    have hw : wrap64 (a - (x.f4.length : Int)) = a - x.f4.length := w64 (by omega) (by omega)
    have key : ∃ r, Ev (fun k => laws_szFormulaS.f k x.f4 a) r ∧ (r < 0 ∨ (0 ≤ r ∧ r = a - cntF (n + 1) x ∧ LF (n + 1) x)) := by
      by_cases c : a - (x.f4.length : Int) < 0
      · exact ⟨-1, Ev.last ⟨0, fun k _ => by simp only [laws_szFormulaS.f]; rw [hw, if_pos c]⟩, Or.inl (by omega)⟩
      · obtain ⟨r, hr, he⟩ := loop_ev (σ := Int) x.f4.length (fun k s i => laws_szFormulaS.l0 k x.f4 s i) (fun i s => 0 ≤ s ∧ s = a - x.f4.length - csum (cntF n) (x.f4.take i) ∧ ∀ j, j < i → LF n (x.f4.getD j z25))
          (fun r => r < 0 ∨ (0 ≤ r ∧ r = a - cntF (n + 1) x ∧ LF (n + 1) x))
          (fun i s hi ⟨s0, s1, hj⟩ => by
            obtain ⟨r, ⟨K, hK⟩, hr⟩ := ih (x.f4.getD i z25) (hl.2 _ (getD_mem _ _ _ hi)) s s0 (by omega)
            rcases hr with hr | ⟨g0, g1, g2⟩
            · refine Or.inr ⟨-1, Or.inl (by omega), K, fun k hk => ?_⟩
              have e := hK k hk
              dsimp only at e
              simp only [laws_szFormulaS.l0]
              rw [if_pos (by omega), if_pos (by omega), rdF, e]
              simp only [Option.bind_some]
              rw [if_pos hr]
            · refine Or.inl ⟨r, ⟨g0, by rw [csum_take _ z25 _ _ hi]; omega, fun j hj' => ?_⟩, K, fun k hk => ?_⟩
              · by_cases ej : j = i
                · subst ej; exact g2
                · exact hj j (by omega)
              · have e := hK k hk
                dsimp only at e
                simp only [laws_szFormulaS.l0]
                rw [if_pos (by omega), if_pos (by omega), rdF, e]
                simp only [Option.bind_some]
                rw [if_neg (by omega), up64 (by omega)])
          (fun s ⟨s0, s1, hj⟩ => ⟨s, Or.inr ⟨s0, by rw [List.take_length] at s1; simp only [cntF]; omega, by omega, fun y hy => by
            obtain ⟨j, hj1, rfl⟩ := List.getElem_of_mem hy
            have := hj j hj1
            rwa [get_rep _ _ _ hj1] at this⟩, 0, fun k _ => by simp only [laws_szFormulaS.l0]; rw [if_neg (by omega)]⟩)
          x.f4.length 0 (a - x.f4.length) (by omega) (by omega) ⟨by omega, by simp [csum], fun j hj => by omega⟩
        refine ⟨r, Ev.next (f := fun k => laws_szFormulaS.l0 k x.f4 (a - x.f4.length) 0) ⟨0, fun k _ => by simp only [laws_szFormulaS.f]; rw [hw, if_neg c]⟩ he, hr⟩
    obtain ⟨r, ⟨K, hK⟩, hr⟩ := key
    rcases hr with hr | hr
    · refine ⟨-1, Ev.last ⟨K, fun k hk => ?_⟩, Or.inl (by omega)⟩
      have e := hK k hk
      dsimp only at e
      simp only [laws_szFormula.f]
      rw [e]
      simp only [Option.bind_some]
      rw [if_pos hr]
    · refine ⟨r, Ev.last ⟨K, fun k hk => ?_⟩, Or.inr hr⟩
      have e := hK k hk
      dsimp only at e
      simp only [laws_szFormula.f]
      rw [e]
      simp only [Option.bind_some]
      rw [if_neg (by omega)]

theorem ev_toCnt : ∀ (n : Nat) (x : S25), LF n x → ∃ y : S32, LG n y ∧ cntG n y = cntF n x ∧ Ev (fun k => laws_toFormula.f k x.f0 x.f1 x.f2 x.f3 x.f4) (y.f0, y.f1, y.f2, y.f3, y.f4) := by
  intro n
  induction n with
  | zero => intro x h; exact h.elim
  | succ n ih =>
    intro x hx
    obtain ⟨g, hg⟩ := chosen (α := S32) (p := fun i y => LG n y ∧ cntG n y = cntF n (x.f4.getD i z25) ∧ Ev (fun k => laws_toFormula.f k (x.f4.getD i z25).f0 (x.f4.getD i z25).f1 (x.f4.getD i z25).f2 (x.f4.getD i z25).f3 (x.f4.getD i z25).f4) (y.f0, y.f1, y.f2, y.f3, y.f4)) (n := x.f4.length) (fun i hi => ih _ (hx.2 _ (getD_mem _ _ _ hi)))
    obtain ⟨K, hc⟩ := copy_loop x.f4.length (by have := hx.1; omega) g z32 (fun k ys i => laws_toFormulaS.l0 k x.f4 ys i)
      (fun i ys hi hl => by
        obtain ⟨K, hK⟩ := (hg i hi).2.2
        refine ⟨K, fun k hk => ?_⟩
        have e := hK k hk
        dsimp only at e
        simp only [laws_toFormulaS.l0]
        rw [if_pos (by omega), if_pos (by omega), rdF, e]
        simp only [Option.bind_some]
        rw [if_pos (by omega), Int.toNat_natCast, etaG])
      (fun ys hl => ⟨0, fun k _ => by simp only [laws_toFormulaS.l0]; rw [if_neg (by omega)]⟩)
    refine ⟨⟨x.f0, x.f1, x.f2, x.f3, (List.range x.f4.length).map g⟩, ⟨by simpa using hx.1, fun y hy => ?_⟩, ?_, Ev.next (f := fun k => (laws_toFormulaS.f k x.f4).bind fun t => some (x.f0, x.f1, x.f2, x.f3, t)) ⟨0, fun k _ => by simp only [laws_toFormula.f]⟩ (Ev.last ⟨K, fun k hk => ?_⟩)⟩
    · obtain ⟨i, hi, rfl⟩ := List.mem_map.mp hy
      exact (hg i (List.mem_range.mp hi)).1
    · simp only [cntG, cntF]
      rw [csum_map (cntG n) (cntF n) z32 z25 ((List.range x.f4.length).map g) x.f4 (by simp) (fun i hi => ?_)]
      · simp
      · have hi' : i < x.f4.length := by simpa using hi
        rw [get_rep _ _ _ hi]
        simpa using (hg i hi').2.1
    · have e := hc k hk
      dsimp only at e ⊢
      simp only [laws_toFormulaS.f]
      rw [if_pos (by omega), if_pos (by have := hx.1; rw [Int.toNat_natCast]; omega), Int.toNat_natCast, e]
      rfl

theorem deep : ∀ (m n : Nat) (y : S32), LG n y → cntG n y ≤ m → LG (m + 1) y := by
  intro m
  induction m with
  | zero =>
    intro n y h hc
    cases n with
    | zero => exact h.elim
    | succ n =>
      refine ⟨h.1, fun z hz => ?_⟩
      have hl : 0 < y.f4.length := List.length_pos_of_mem hz
      simp only [cntG] at hc
      omega
  | succ m ih =>
    intro n y h hc
    cases n with
    | zero => exact h.elim
    | succ n =>
      refine ⟨h.1, fun z hz => ?_⟩
      have hl : 0 < y.f4.length := List.length_pos_of_mem hz
      have := csum_mem (cntG n) y.f4 z hz
      simp only [cntG] at hc
      exact ih n z (h.2 z hz) (by omega)

theorem ev_mark : ∀ (n : Nat) (l : List S32), l.length ≤ 1048576 → (∀ z ∈ l, LG n z) → ∀ a : Nat, a + 4 * (l.length + csum (cntG n) l) ≤ 4611686018427387904 → Ev (fun k => laws_markFormulaS.f k l (a : Int)) ((a + 4 * (l.length + csum (cntG n) l) : Nat) : Int) := by
  intro n
  induction n with
  | zero =>
    intro l _ h a ha
    have e : l = [] := List.eq_nil_iff_forall_not_mem.mpr (fun z hz => (h z hz).elim)
    subst e
    refine Ev.last ⟨0, fun k _ => ?_⟩
    simp only [laws_markFormulaS.f]
    rw [if_pos (by simp)]
    simp [csum]
  | succ n ih =>
    intro l hl h a ha
    have hf : ∀ (l : List S32), (∀ z ∈ l, LG (n + 1) z) → ∀ a : Nat, a + 4 * (l.length + csum (cntG (n + 1)) l) ≤ 4611686018427387904 → Ev (fun k => l.foldlM (fun (b : Int) (x : S32) => if 0 ≤ b ∧ b ≤ 4611686018427387904 then laws_markFormulaS.f k x.f4 (b + 4) else none) (a : Int)) ((a + 4 * (l.length + csum (cntG (n + 1)) l) : Nat) : Int) := by
      intro l
      induction l with
      | nil => intro _ a _; exact ⟨0, fun k _ => by simp [csum]⟩
      | cons z l ihl =>
        intro hz a ha
        simp only [csum, List.length_cons] at ha
        have hzz := hz z (List.mem_cons_self ..)
        have e1 := ih z.f4 hzz.1 hzz.2 (a + 4) (by simp only [cntG] at ha; omega)
        have e2 := ihl (fun y hy => hz y (List.mem_cons_of_mem _ hy)) (a + 4 + 4 * (z.f4.length + csum (cntG n) z.f4)) (by simp only [cntG] at ha ⊢; omega)
        obtain ⟨K1, hK1⟩ := e1
        obtain ⟨K2, hK2⟩ := e2
        refine ⟨K1 + K2, fun k hk => ?_⟩
        have g1 := hK1 k (by omega)
        have g2 := hK2 k (by omega)
        dsimp only at g1 g2
        simp only [List.foldlM_cons]
        rw [if_pos (by omega), show ((a : Int) + 4) = ((a + 4 : Nat) : Int) by omega, g1]
        simp only [Option.bind_eq_bind, Option.bind_some]
        rw [g2]
        simp only [csum, List.length_cons, cntG]
        congr 2
        omega
    obtain ⟨K, hK⟩ := hf l h a ha
    refine Ev.last ⟨K, fun k hk => ?_⟩
    have g := hK k hk
    dsimp only at g
    simp only [laws_markFormulaS.f]
    rw [if_pos (by omega), g]

/-! ### the reference's marks -/
theorem ev_uses (a : Int) : Ev (fun k => spec_l10Uses.f k a) (if a = 2 ∨ a = 3 ∨ a = 4 ∨ a = 11 ∨ a = 12 then 1 else if a = 5 ∨ a = 6 ∨ a = 7 then 2 else 0) := by
  refine ⟨1, fun k hk => ?_⟩
  obtain ⟨m, rfl⟩ : ∃ m, k = m + 1 := ⟨k - 1, by omega⟩
  show spec_l10Uses.f (m + 1) a = _
  unfold spec_l10Uses.f
  simp only [spec_l10Uses.j0]
  by_cases h2 : a = 2
  · subst h2; simp
  · by_cases h3 : a = 3
    · subst h3; simp
    · by_cases h4 : a = 4
      · subst h4; simp
      · by_cases h11 : a = 11
        · subst h11; simp
        · by_cases h12 : a = 12
          · subst h12; simp
          · rw [if_neg h2, if_neg h3, if_neg h4, if_neg h11, if_neg (by simpa using h12), if_neg (show ¬ (a = 2 ∨ a = 3 ∨ a = 4 ∨ a = 11 ∨ a = 12) by omega)]
            by_cases h5 : a = 5
            · subst h5; simp
            · by_cases h6 : a = 6
              · subst h6; simp
              · by_cases h7 : a = 7
                · subst h7; simp
                · rw [if_neg h5, if_neg h6, if_neg h7, if_neg (show ¬ (a = 5 ∨ a = 6 ∨ a = 7) by omega)]

theorem ev_has (b : List Int) (u : Int) (hb : b.length ≤ 1000000000) : Ev (fun k => spec_l7Has.f k b u) (b.contains u) := by
  obtain ⟨r, hr, K, hK⟩ := loop_ev (σ := List Int) b.length (fun k s i => spec_Positions.l0 k b u s i) (fun i s => s.length ≤ i ∧ (0 < s.length ↔ ∃ j, j < i ∧ rd b ((j : Nat) : Int) = u)) (fun r => 0 < r.length ↔ ∃ j, j < b.length ∧ rd b ((j : Nat) : Int) = u)
    (fun i s hi ⟨h1, h2⟩ => by
      by_cases c : rd b (i : Int) = u
      · refine Or.inl ⟨s ++ [(i : Int)], ⟨by simp; omega, ?_⟩, 0, fun k _ => ?_⟩
        · constructor
          · intro _; exact ⟨i, by omega, c⟩
          · intro _; simp
        · simp only [spec_Positions.l0]
          rw [if_pos (by omega), if_pos (by omega), if_pos c, if_pos (by omega), up64 (by omega)]
      · refine Or.inl ⟨s, ⟨by omega, ?_⟩, 0, fun k _ => ?_⟩
        · rw [h2]
          constructor
          · rintro ⟨j, hj, e⟩; exact ⟨j, by omega, e⟩
          · rintro ⟨j, hj, e⟩
            by_cases ej : j = i
            · subst ej; exact absurd e c
            · exact ⟨j, by omega, e⟩
        · simp only [spec_Positions.l0]
          rw [if_pos (by omega), if_pos (by omega), if_neg c, up64 (by omega)])
    (fun s ⟨h1, h2⟩ => ⟨s, h2, 0, fun k _ => by simp only [spec_Positions.l0]; rw [if_neg (by omega)]⟩)
    b.length 0 [] (by omega) (by omega) ⟨by simp, by simp⟩
  refine ⟨K, fun k hk => ?_⟩
  have g := hK k hk
  dsimp only at g
  show spec_l7Has.f k b u = _
  unfold spec_l7Has.f spec_Positions.f
  rw [show (spec_Positions.l0 k b u [] 0) = some r from g]
  simp only [Option.bind_some]
  congr 1
  have e : (0 < r.length) ↔ b.contains u = true := by
    rw [hr, List.contains_iff_mem, List.mem_iff_getElem]
    constructor
    · rintro ⟨j, hj, e⟩; exact ⟨j, hj, by rw [← rd_at _ _ hj]; exact e⟩
    · rintro ⟨j, hj, e⟩; exact ⟨j, hj, by rw [rd_at _ _ hj]; exact e⟩
  rw [Bool.eq_iff_iff, ← e]
  simp

/-- marks set where a test holds -/
def updP (P : Int → Bool) (o : List Bool) : List Bool := [o.getD 0 false || P 0, o.getD 1 false || P 1, o.getD 2 false || P 2, o.getD 3 false || P 3]
theorem updP_len (P : Int → Bool) (o : List Bool) : (updP P o).length = 4 := rfl
theorem updP_two (P Q : Int → Bool) (o : List Bool) : updP P (updP Q o) = updP (fun u => Q u || P u) o := by
  simp [updP, Bool.or_assoc]
theorem updP_eq {P Q : Int → Bool} (o : List Bool) (h : ∀ u, P u = Q u) : updP P o = updP Q o := by
  simp [updP, h]
theorem four (o : List Bool) (h : o.length = 4) : ∃ a b c d, o = [a, b, c, d] := by
  match o, h with
  | [a, b, c, d], _ => exact ⟨a, b, c, d, rfl⟩
theorem updP_none {P : Int → Bool} {o : List Bool} (ho : o.length = 4) (h : ∀ u, 0 ≤ u → u ≤ 3 → P u = false) : updP P o = o := by
  obtain ⟨a, b, c, d, rfl⟩ := four o ho
  simp [updP, h 0 (by decide) (by decide), h 1 (by decide) (by decide), h 2 (by decide) (by decide), h 3 (by decide) (by decide)]
theorem updP_set {o : List Bool} (ho : o.length = 4) (u : Int) (h0 : 0 ≤ u) (h1 : u ≤ 3) : o.set u.toNat true = updP (fun w => w == u) o := by
  obtain ⟨a, b, c, d, rfl⟩ := four o ho
  have : u = 0 ∨ u = 1 ∨ u = 2 ∨ u = 3 := by omega
  rcases this with rfl | rfl | rfl | rfl <;> simp [updP]

theorem ev_one (n u : Int) (b : List Int) (o : List Bool) (least : Int) (ho : o.length = 4) (hb : b.length ≤ 1000000000) : Ev (fun k => spec_l10Free.one k n u b o least) (updP (fun w => decide (least < n) && (w == u) && !(b.contains u)) o) := by
  by_cases c : least < n ∧ 0 ≤ u ∧ u ≤ 3
  · obtain ⟨K, hK⟩ := ev_has b u hb
    refine ⟨K, fun k hk => ?_⟩
    have g := hK k hk
    dsimp only at g
    show spec_l10Free.one k n u b o least = _
    unfold spec_l10Free.one
    rw [if_pos c, g]
    simp only [Option.bind_some]
    congr 1
    cases hc : b.contains u with
    | true => rw [if_pos rfl]; exact (updP_none ho (fun w _ _ => by simp)).symm
    | false =>
      rw [if_neg (by decide), updP_set ho u c.2.1 c.2.2]
      exact updP_eq o (fun w => by simp [c.1])
  · refine ⟨0, fun k _ => ?_⟩
    show spec_l10Free.one k n u b o least = _
    unfold spec_l10Free.one
    rw [if_neg c, updP_none ho (fun w w0 w1 => ?_)]
    by_cases c1 : least < n
    · have : ¬ (w = u) := fun e => c ⟨c1, by omega, by omega⟩
      simp [this]
    · simp [c1]

theorem ev_l10 : ∀ (n : Nat) (y : S32), LG n y → ∀ (b : List Int) (o : List Bool), o.length = 4 → b.length + n ≤ 1000000000 → Ev (fun k => spec_l10Free.f k y.f0 y.f1 y.f2 y.f3 y.f4 b o) (updP (fun u => FV n y u && !(b.contains u)) o) := by
  intro n
  induction n with
  | zero => intro y h; exact h.elim
  | succ n ih =>
    intro y hy b o ho hb
    have hf : ∀ (b' : List Int), b'.length + n ≤ 1000000000 → ∀ (l : List S32), (∀ z ∈ l, LG n z) → ∀ o : List Bool, o.length = 4 → Ev (fun k => l.foldlM (fun (o : List Bool) (x : S32) => spec_l10Free.f k x.f0 x.f1 x.f2 x.f3 x.f4 b' o) o) (updP (fun u => (l.any fun z => FV n z u) && !(b'.contains u)) o) := by
      intro b' hb' l
      induction l with
      | nil =>
        intro _ o ho
        refine ⟨0, fun k _ => ?_⟩
        show some o = _
        rw [updP_none ho (fun u _ _ => by simp)]
      | cons z l ihl =>
        intro hz o ho
        obtain ⟨K1, hK1⟩ := ih z (hz z (List.mem_cons_self ..)) b' o ho hb'
        obtain ⟨K2, hK2⟩ := ihl (fun x hx => hz x (List.mem_cons_of_mem _ hx)) _ (updP_len (fun u => FV n z u && !(b'.contains u)) o)
        refine ⟨K1 + K2, fun k hk => ?_⟩
        have g1 := hK1 k (by omega)
        have g2 := hK2 k (by omega)
        dsimp only at g1 g2
        simp only [List.foldlM_cons]
        rw [g1]
        simp only [Option.bind_eq_bind, Option.bind_some]
        rw [g2, updP_two]
        congr 1
        refine updP_eq o (fun u => ?_)
        simp only [List.any_cons]
        cases FV n z u <;> cases (l.any fun z => FV n z u) <;> cases b'.contains u <;> rfl
    have hlen := hy.1
    by_cases cb : y.f0 = 11 ∨ y.f0 = 12
    · obtain ⟨K, hK⟩ := hf (b ++ [y.f2]) (by simp; omega) y.f4 hy.2 o ho
      refine Ev.last ⟨K, fun k hk => ?_⟩
      have g := hK k hk
      dsimp only at g
      simp only [spec_l10Free.f]
      rw [if_pos ⟨ho, by omega, by omega⟩, if_pos cb, g]
      congr 1
      refine updP_eq o (fun u => ?_)
      simp only [FV]
      rw [if_pos cb]
      cases (y.f4.any fun z => FV n z u) with
      | false => rfl
      | true =>
        simp only [Bool.true_and]
        rw [Bool.eq_iff_iff]
        simp only [Bool.not_eq_true', Bool.and_eq_true, List.contains_eq_mem, List.mem_append, List.mem_singleton, decide_eq_false_iff_not, beq_eq_false_iff_ne, ne_eq, not_or]
        exact ⟨fun h => ⟨h.2, h.1⟩, fun h => ⟨h.2, h.1⟩⟩
    · obtain ⟨K0, hK0⟩ := ev_uses y.f0
      generalize hu : (if y.f0 = 2 ∨ y.f0 = 3 ∨ y.f0 = 4 ∨ y.f0 = 11 ∨ y.f0 = 12 then (1 : Int) else if y.f0 = 5 ∨ y.f0 = 6 ∨ y.f0 = 7 then 2 else 0) = un at hK0
      have hd1 : decide (0 < un) = decide (2 ≤ y.f0 ∧ y.f0 ≤ 7) := by
        rw [← hu]
        by_cases c1 : y.f0 = 2 ∨ y.f0 = 3 ∨ y.f0 = 4 ∨ y.f0 = 11 ∨ y.f0 = 12
        · rw [if_pos c1, decide_eq_true (show 2 ≤ y.f0 ∧ y.f0 ≤ 7 by omega)]; rfl
        · rw [if_neg c1]
          by_cases c2 : y.f0 = 5 ∨ y.f0 = 6 ∨ y.f0 = 7
          · rw [if_pos c2, decide_eq_true (show 2 ≤ y.f0 ∧ y.f0 ≤ 7 by omega)]; rfl
          · rw [if_neg c2, decide_eq_false (show ¬ (2 ≤ y.f0 ∧ y.f0 ≤ 7) by omega)]; rfl
      have hd2 : decide (1 < un) = decide (5 ≤ y.f0 ∧ y.f0 ≤ 7) := by
        rw [← hu]
        by_cases c1 : y.f0 = 2 ∨ y.f0 = 3 ∨ y.f0 = 4 ∨ y.f0 = 11 ∨ y.f0 = 12
        · rw [if_pos c1, decide_eq_false (show ¬ (5 ≤ y.f0 ∧ y.f0 ≤ 7) by omega)]; rfl
        · rw [if_neg c1]
          by_cases c2 : y.f0 = 5 ∨ y.f0 = 6 ∨ y.f0 = 7
          · rw [if_pos c2, decide_eq_true (show 5 ≤ y.f0 ∧ y.f0 ≤ 7 by omega)]; rfl
          · rw [if_neg c2, decide_eq_false (show ¬ (5 ≤ y.f0 ∧ y.f0 ≤ 7) by omega)]; rfl
      obtain ⟨K1, hK1⟩ := ev_one un y.f2 b o 0 ho (by omega)
      obtain ⟨K2, hK2⟩ := ev_one un y.f3 b _ 1 (updP_len (fun w => decide (0 < un) && (w == y.f2) && !(b.contains y.f2)) o) (by omega)
      obtain ⟨K3, hK3⟩ := hf b (by omega) y.f4 hy.2 _ (updP_len (fun w => decide (1 < un) && (w == y.f3) && !(b.contains y.f3)) (updP (fun w => decide (0 < un) && (w == y.f2) && !(b.contains y.f2)) o))
      refine Ev.last ⟨K0 + K1 + K2 + K3, fun k hk => ?_⟩
      have g0 := hK0 k (by omega)
      have g1 := hK1 k (by omega)
      have g2 := hK2 k (by omega)
      have g3 := hK3 k (by omega)
      dsimp only at g0 g1 g2 g3
      simp only [spec_l10Free.f]
      rw [if_pos ⟨ho, by omega, by omega⟩, if_neg cb, g0]
      simp only [Option.bind_some]
      rw [g1]
      simp only [Option.bind_some]
      rw [g2]
      simp only [Option.bind_some]
      rw [g3, updP_two, updP_two]
      congr 1
      refine updP_eq o (fun u => ?_)
      simp only [FV]
      rw [if_neg cb, hd1, hd2]
      by_cases e2 : u = y.f2 <;> by_cases e3 : u = y.f3
      · subst e2; rw [← e3]; cases (y.f4.any fun z => FV n z y.f2) <;> cases decide (2 ≤ y.f0 ∧ y.f0 ≤ 7) <;> cases decide (5 ≤ y.f0 ∧ y.f0 ≤ 7) <;> cases b.contains y.f2 <;> simp
      · have e3' : (u == y.f3) = false := by simpa using e3
        rw [e3', e2]; cases (y.f4.any fun z => FV n z y.f2) <;> cases decide (2 ≤ y.f0 ∧ y.f0 ≤ 7) <;> cases decide (5 ≤ y.f0 ∧ y.f0 ≤ 7) <;> cases b.contains y.f2 <;> simp
      · have e2' : (u == y.f2) = false := by simpa using e2
        rw [e2', e3]; cases (y.f4.any fun z => FV n z y.f3) <;> cases decide (2 ≤ y.f0 ∧ y.f0 ≤ 7) <;> cases decide (5 ≤ y.f0 ∧ y.f0 ≤ 7) <;> cases b.contains y.f3 <;> simp
      · have e2' : (u == y.f2) = false := by simpa using e2
        have e3' : (u == y.f3) = false := by simpa using e3
        rw [e2', e3']; cases (y.f4.any fun z => FV n z u) <;> cases b.contains u <;> simp

theorem ev_spec (n : Nat) (y : S32) (hy : LG n y) (hn : n ≤ 1000000000) : Ev (fun k => spec_FreeLogic.f k y.f0 y.f1 y.f2 y.f3 y.f4) (CL n y) := by
  obtain ⟨K1, hK1⟩ := ev_l10 n y hy [] (List.replicate 4 false) rfl (by simp; omega)
  have hP : ∀ P : Int → Bool, updP P (List.replicate 4 false) = [P 0, P 1, P 2, P 3] := fun P => by simp [updP, List.replicate]
  have hQ : updP (fun u => FV n y u && !(([] : List Int).contains u)) (List.replicate 4 false) = [FV n y 0, FV n y 1, FV n y 2, FV n y 3] := by rw [hP]; simp
  rw [hQ] at hK1
  obtain ⟨K2, hK2⟩ := loop_is (σ := List Int) 4 (fun k s i => spec_FreeLogic.l0 k [FV n y 0, FV n y 1, FV n y 2, FV n y 3] s i) (fun i s => s.length ≤ i ∧ s = (([0, 1, 2, 3] : List Int).take i).filter (FV n y)) (CL n y)
    (fun i s hi ⟨h1, h2⟩ => by
      have hlen : (([FV n y 0, FV n y 1, FV n y 2, FV n y 3] : List Bool).length : Int) = 4 := rfl
      have hr : rdOf false [FV n y 0, FV n y 1, FV n y 2, FV n y 3] (i : Int) = FV n y (i : Int) := by
        have : i = 0 ∨ i = 1 ∨ i = 2 ∨ i = 3 := by omega
        rcases this with rfl | rfl | rfl | rfl <;> rfl
      have hn : (([0, 1, 2, 3] : List Int).take (i + 1)).filter (FV n y) = if FV n y (i : Int) = true then (([0, 1, 2, 3] : List Int).take i).filter (FV n y) ++ [(i : Int)] else (([0, 1, 2, 3] : List Int).take i).filter (FV n y) := by
        have e : ([0, 1, 2, 3] : List Int).take (i + 1) = ([0, 1, 2, 3] : List Int).take i ++ [(i : Int)] := by
          have : i = 0 ∨ i = 1 ∨ i = 2 ∨ i = 3 := by omega
          rcases this with rfl | rfl | rfl | rfl <;> rfl
        rw [e, List.filter_append]
        by_cases c : FV n y (i : Int) = true
        · rw [if_pos c]; simp [c]
        · rw [if_neg c]; simp [c]
      refine Or.inl ⟨(([0, 1, 2, 3] : List Int).take (i + 1)).filter (FV n y), ⟨?_, rfl⟩, 0, fun k _ => ?_⟩
      · have := List.length_filter_le (FV n y) (([0, 1, 2, 3] : List Int).take (i + 1))
        rw [List.length_take] at this
        omega
      · simp only [spec_FreeLogic.l0]
        rw [if_pos (by rw [hlen]; omega), if_pos (by omega), hr, hn, up64 (by omega)]
        by_cases c : FV n y (i : Int) = true
        · rw [if_pos c, if_pos c, if_pos (by omega), h2]
        · rw [if_neg c, if_neg c, h2])
    (fun s ⟨h1, h2⟩ => ⟨0, fun k _ => by
      simp only [spec_FreeLogic.l0]
      rw [if_neg (by simp), h2]
      rfl⟩) [] ⟨by simp, by simp⟩
  refine ⟨K1 + K2, fun k hk => ?_⟩
  have g1 := hK1 k (by omega)
  have g2 := hK2 k (by omega)
  dsimp only at g1 g2
  show spec_FreeLogic.f k y.f0 y.f1 y.f2 y.f3 y.f4 = _
  unfold spec_FreeLogic.f
  rw [if_pos (by omega), g1]
  simp only [Option.bind_some]
  exact g2

theorem FnExactFreeLogic : laws_FnExactFreeLogic.Pure := by
  intro a0 a1 a2 a3 l hB
  obtain ⟨n, hn⟩ := hB
  obtain ⟨r, e1, hr⟩ := ev_szCnt n ⟨a0, a1, a2, a3, l⟩ hn 1048576 (by omega) (by omega)
  rcases hr with hr | ⟨hr0, hrc, hL⟩
  · obtain ⟨k, h1⟩ := Evt.ex e1
    dsimp only at h1
    exact ⟨k, by unfold laws_FnExactFreeLogic.f; rw [h1]; simp only [Option.bind_some]; rw [if_pos hr]⟩
  obtain ⟨y, hy, hc, e2⟩ := ev_toCnt n ⟨a0, a1, a2, a3, l⟩ hL
  have hcy : cntG n y ≤ 1048576 := by omega
  have hy' := deep 1048576 n y hy hcy
  have e3 := ev_spec 1048577 y hy' (by omega)
  have e4 := ev_impl 1048577 y hy'
  have hcl := CL_len 1048577 y
  generalize CL 1048577 y = cl at e3 e4 hcl
  have e5 := ev_eqFormula n y hy
  have e6 : Ev (fun k => laws_markFormulaS.f k y.f4 1) ((1 + 4 * cntG n y : Nat) : Int) := by
    cases n with
    | zero => exact hy.elim
    | succ n =>
      have := ev_mark n y.f4 hy.1 hy.2 1 (by simp only [cntG] at hcy; omega)
      simp only [cntG]
      exact this
  obtain ⟨k, h1, h2, h3, h4, h5, h6, h7, h8, h9⟩ := (Evt.and e1 (Evt.and e2 (Evt.and e3 (Evt.and e4 (Evt.and e5 (Evt.and e6 (Evt.and (ev_eqIntS cl (by omega)) (Evt.and (ev_markIntS cl (by omega)) (ev_heldIntS cl.length (by omega)))))))))).ex
  dsimp only at h1 h2 h3 h4 h5 h6 h7 h8 h9
  refine ⟨k + 1, ?_⟩
  have m1 := laws_szFormula.mono _ _ _ _ _ _ k _ h1
  have m2 := laws_toFormula.mono _ _ _ _ _ k _ h2
  have m3 := spec_FreeLogic.mono _ _ _ _ _ k _ h3
  have m4 := impl_FreeLogic.mono _ _ _ _ _ k _ h4
  have m5 := laws_eqFormula.mono _ _ _ _ _ _ _ _ _ _ k _ h5
  have m6 := laws_markFormulaS.mono _ _ k _ h6
  have m7 := laws_eqIntS.mono _ _ k _ h7
  have j : laws_FnExactFreeLogic.j0 (k + 1) cl cl false a0 a1 a2 a3 l = some true := by
    simp only [laws_FnExactFreeLogic.j0]
    rw [if_neg (by decide), h8]
    simp only [Option.bind_some]
    rw [h9]
    simp only [Option.bind_some]
    have hneg : ¬ ((1 : Int) + (cl.length : Int) < 0) := by omega
    rw [if_neg hneg, if_pos trivial, h2]
    simp only [Option.bind_some]
    rw [h4]
    simp only [Option.bind_some]
    rw [h7]
    simp only [Option.bind_some]
    rw [if_pos trivial, if_neg hneg, if_pos trivial]
  unfold laws_FnExactFreeLogic.f laws_markFormula.f
  rw [m1]
  simp only [Option.bind_some]
  rw [if_neg (by omega), m2]
  simp only [Option.bind_some]
  rw [m3]
  simp only [Option.bind_some]
  rw [m4]
  simp only [Option.bind_some]
  rw [m7]
  simp only [Option.bind_some]
  rw [if_pos trivial, m5]
  simp only [Option.bind_some]
  rw [if_pos trivial, m6]
  simp only [Option.bind_some]
  rw [if_neg (by omega)]
  exact j

end Go.Proofs.Ytoljagpjejpmpaa.Pure.LFnExactFreeLogic
namespace Go.Proofs.Ytoljagpjejpmpaa.Pure
open Go.Proofs.Ytoljagpjejpmpaa.PFnExactFreeLogic
theorem FnExactFreeLogic : laws_FnExactFreeLogic.Pure := LFnExactFreeLogic.FnExactFreeLogic
end Go.Proofs.Ytoljagpjejpmpaa.Pure
