/-
  The pure statement of laws.FnExactFormulaText: what the printed functions compute makes the law answer true, for every argument of its kinds (no further condition).
-/
import Derived.Test.YtoljagpjejpmpaaPFnExactFormulaTextx10
import Derived.Test.YtoljagpjejpmpaaXPure
namespace Go.Proofs.Ytoljagpjejpmpaa.Pure.LFnExactFormulaText
open Go.RowKit Go.Proofs.Ytoljagpjejpmpaa.PFnExactFormulaText Go.Proofs.YtoljagpjejpmpaaW.PrintWords Go.Proofs.YtoljagpjejpmpaaW.PrintLast Go.Proofs.YtoljagpjejpmpaaX
set_option linter.unusedVariables false
set_option linter.unusedSimpArgs false

theorem rdF (l : List S25) (i : Nat) : rd_T25 l (i : Int) = l.getD i z25 := by unfold rd_T25; rw [Int.toNat_natCast]
theorem rdG (l : List S32) (i : Nat) : rd_T32 l (i : Int) = l.getD i z32 := by unfold rd_T32; rw [Int.toNat_natCast]

theorem etaG (y : S32) : (⟨y.f0, y.f1, y.f2, y.f3, y.f4⟩ : S32) = y := by cases y; rfl

/-- all lists inside are short, so many levels deep -/
def LF : Nat → S25 → Prop
  | 0, _ => False
  | n + 1, x => x.f4.length ≤ 1048576 ∧ ∀ y ∈ x.f4, LF n y
def LG : Nat → S32 → Prop
  | 0, _ => False
  | n + 1, x => x.f4.length ≤ 1048576 ∧ ∀ y ∈ x.f4, LG n y

theorem ev_szFormula : ∀ (n : Nat) (x : S25), B25n n x → ∀ a : Int, 0 ≤ a → a ≤ 1048576 →
    ∃ r, Ev (fun k => laws_szFormula.f k x.f0 x.f1 x.f2 x.f3 x.f4 a) r ∧ (r < 0 ∨ (0 ≤ r ∧ r ≤ a ∧ LF n x)) := by
  intro n
  induction n with
  | zero => intro x h; exact h.elim
  | succ n ih =>
    intro x hx a h0 h1
    have hm : maxLen = 9223372036854775807 := rfl
    have hl : x.f4.length ≤ maxLen ∧ ∀ y ∈ x.f4, B25n n y := hx.2.2.2.2
    have hw : wrap64 (a - (x.f4.length : Int)) = a - x.f4.length := w64 (by omega) (by omega)
    have key : ∃ r, Ev (fun k => laws_szFormulaS.f k x.f4 a) r ∧ (r < 0 ∨ (0 ≤ r ∧ r ≤ a ∧ LF (n + 1) x)) := by
      by_cases c : a - (x.f4.length : Int) < 0
      · exact ⟨-1, Ev.last ⟨0, fun k _ => by simp only [laws_szFormulaS.f]; rw [hw, if_pos c]⟩, Or.inl (by omega)⟩
      · obtain ⟨r, hr, he⟩ := loop_ev (σ := Int) x.f4.length (fun k s i => laws_szFormulaS.l0 k x.f4 s i) (fun i s => 0 ≤ s ∧ s ≤ a ∧ ∀ j, j < i → LF n (x.f4.getD j z25))
          (fun r => r < 0 ∨ (0 ≤ r ∧ r ≤ a ∧ LF (n + 1) x))
          (fun i s hi ⟨s0, s1, hj⟩ => by
            obtain ⟨r, ⟨K, hK⟩, hr⟩ := ih (x.f4.getD i z25) (hl.2 _ (getD_mem _ _ _ hi)) s s0 (by omega)
            rcases hr with hr | ⟨g0, g1, g2⟩
            · refine Or.inr ⟨-1, Or.inl (by omega), K, fun k hk => ?_⟩
              have e := hK k hk
              dsimp only at e
              simp only [laws_szFormulaS.l0]
              rw [if_pos (by omega), if_pos (by omega), rdF, e]
              simp only [Option.bind_some]
              rw [if_pos hr]
            · refine Or.inl ⟨r, ⟨g0, by omega, fun j hj' => ?_⟩, K, fun k hk => ?_⟩
              · by_cases ej : j = i
                · subst ej; exact g2
                · exact hj j (by omega)
              · have e := hK k hk
                dsimp only at e
                simp only [laws_szFormulaS.l0]
                rw [if_pos (by omega), if_pos (by omega), rdF, e]
                simp only [Option.bind_some]
                rw [if_neg (by omega), up64 (by omega)])
          (fun s ⟨s0, s1, hj⟩ => ⟨s, Or.inr ⟨s0, s1, by omega, fun y hy => by
            obtain ⟨j, hj1, rfl⟩ := List.getElem_of_mem hy
            have := hj j hj1
            rwa [get_rep _ _ _ hj1] at this⟩, 0, fun k _ => by simp only [laws_szFormulaS.l0]; rw [if_neg (by omega)]⟩)
          x.f4.length 0 (a - x.f4.length) (by omega) (by omega) ⟨by omega, by omega, fun j hj => by omega⟩
        refine ⟨r, Ev.next (f := fun k => laws_szFormulaS.l0 k x.f4 (a - x.f4.length) 0) ⟨0, fun k _ => by simp only [laws_szFormulaS.f]; rw [hw, if_neg c]⟩ he, hr⟩
    obtain ⟨r, ⟨K, hK⟩, hr⟩ := key
    rcases hr with hr | hr
    · refine ⟨-1, Ev.last ⟨K, fun k hk => ?_⟩, Or.inl (by omega)⟩
      have e := hK k hk
      dsimp only at e
      simp only [laws_szFormula.f]
      rw [e]
      simp only [Option.bind_some]
      rw [if_pos hr]
    · refine ⟨r, Ev.last ⟨K, fun k hk => ?_⟩, Or.inr hr⟩
      have e := hK k hk
      dsimp only at e
      simp only [laws_szFormula.f]
      rw [e]
      simp only [Option.bind_some]
      rw [if_neg (by omega)]

instance : Inhabited S32 := ⟨z32⟩

theorem ev_toFormula : ∀ (n : Nat) (x : S25), LF n x → ∃ y : S32, LG n y ∧ Ev (fun k => laws_toFormula.f k x.f0 x.f1 x.f2 x.f3 x.f4) (y.f0, y.f1, y.f2, y.f3, y.f4) := by
  intro n
  induction n with
  | zero => intro x h; exact h.elim
  | succ n ih =>
    intro x hx
    obtain ⟨g, hg⟩ := chosen (α := S32) (p := fun i y => LG n y ∧ Ev (fun k => laws_toFormula.f k (x.f4.getD i z25).f0 (x.f4.getD i z25).f1 (x.f4.getD i z25).f2 (x.f4.getD i z25).f3 (x.f4.getD i z25).f4) (y.f0, y.f1, y.f2, y.f3, y.f4)) (n := x.f4.length) (fun i hi => ih _ (hx.2 _ (getD_mem _ _ _ hi)))
    obtain ⟨K, hc⟩ := copy_loop x.f4.length (by have := hx.1; omega) g z32 (fun k ys i => laws_toFormulaS.l0 k x.f4 ys i)
      (fun i ys hi hl => by
        obtain ⟨K, hK⟩ := (hg i hi).2
        refine ⟨K, fun k hk => ?_⟩
        have e := hK k hk
        dsimp only at e
        simp only [laws_toFormulaS.l0]
        rw [if_pos (by omega), if_pos (by omega), rdF, e]
        simp only [Option.bind_some]
        rw [if_pos (by omega), Int.toNat_natCast, etaG])
      (fun ys hl => ⟨0, fun k _ => by simp only [laws_toFormulaS.l0]; rw [if_neg (by omega)]⟩)
    refine ⟨⟨x.f0, x.f1, x.f2, x.f3, (List.range x.f4.length).map g⟩, ⟨by simpa using hx.1, fun y hy => ?_⟩, Ev.next (f := fun k => (laws_toFormulaS.f k x.f4).bind fun t => some (x.f0, x.f1, x.f2, x.f3, t)) ⟨0, fun k _ => by simp only [laws_toFormula.f]⟩ (Ev.last ⟨K, fun k hk => ?_⟩)⟩
    · obtain ⟨i, hi, rfl⟩ := List.mem_map.mp hy
      exact (hg i (List.mem_range.mp hi)).1
    · have e := hc k hk
      dsimp only at e ⊢
      simp only [laws_toFormulaS.f]
      rw [if_pos (by omega), if_pos (by have := hx.1; rw [Int.toNat_natCast]; omega), Int.toNat_natCast, e]
      rfl

theorem ev_eqFormula : ∀ (n : Nat) (x : S32), LG n x → Ev (fun k => laws_eqFormula.f k x.f0 x.f1 x.f2 x.f3 x.f4 x.f0 x.f1 x.f2 x.f3 x.f4) true := by
  intro n
  induction n with
  | zero => intro x h; exact h.elim
  | succ n ih =>
    intro x hx
    have hc := all_true x.f4.length (by have := hx.1; omega) (fun k i => laws_eqFormulaS.l0 k x.f4 x.f4 i) true
      (fun i hi => by
        obtain ⟨K, hK⟩ := ih (x.f4.getD i z32) (hx.2 _ (getD_mem _ _ _ hi))
        refine ⟨K, fun k hk => ?_⟩
        have e := hK k hk
        dsimp only at e
        simp only [laws_eqFormulaS.l0]
        rw [if_pos (by omega), if_pos (by omega), if_pos (by omega), rdG, e]
        simp only [Option.bind_some, if_true])
      ⟨0, fun k _ => by simp only [laws_eqFormulaS.l0]; rw [if_neg (by omega)]⟩
    obtain ⟨K, hK⟩ : Ev (fun k => laws_eqFormulaS.f k x.f4 x.f4) true := Ev.next (f := fun k => laws_eqFormulaS.l0 k x.f4 x.f4 0) ⟨0, fun k _ => by simp only [laws_eqFormulaS.f, if_true]⟩ hc
    refine Ev.last ⟨K, fun k hk => ?_⟩
    have e := hK k hk
    dsimp only at e
    simp only [laws_eqFormula.f, if_true]
    rw [e]
    rfl


def wS (l : List ByteArray) : Int := l.length + ((l.map fun s => (s.size : Int)).foldr (· + ·) 0)

theorem sums_nonneg (l : List ByteArray) : 0 ≤ (l.map fun s => (s.size : Int)).foldr (· + ·) 0 := by
  induction l with
  | nil => simp
  | cons a l ih => simp only [List.map_cons, List.foldr_cons]; omega

theorem sums_take (l : List ByteArray) (i : Nat) (h : i < l.length) : ((l.take (i + 1)).map fun s => (s.size : Int)).foldr (· + ·) 0 = ((l.take i).map fun s => (s.size : Int)).foldr (· + ·) 0 + ((rdOf ByteArray.empty l (i : Int)).size : Int) := by
  rw [rdOf_at _ _ _ h]
  induction l generalizing i with
  | nil => simp at h
  | cons a l ih =>
    cases i with
    | zero => simp
    | succ i =>
      simp only [List.take_succ_cons, List.map_cons, List.foldr_cons, List.getElem_cons_succ]
      rw [ih i (by simpa using h)]
      omega

theorem sums_le (l : List ByteArray) (i : Nat) : ((l.take i).map fun s => (s.size : Int)).foldr (· + ·) 0 ≤ (l.map fun s => (s.size : Int)).foldr (· + ·) 0 := by
  induction l generalizing i with
  | nil => simp
  | cons a l ih =>
    cases i with
    | zero => simp only [List.take_zero, List.map_nil, List.foldr_nil]; exact sums_nonneg _
    | succ i => simp only [List.take_succ_cons, List.map_cons, List.foldr_cons]; have := ih i; omega

/-- What is left of a, or -1. -/
theorem ev_szStringS (l : List ByteArray) (a : Int) (h0 : 0 ≤ a) (h1 : a ≤ 1048576) (hl : l.length ≤ 9223372036854775807) (hs : ∀ s ∈ l, s.size ≤ 9223372036854775807) :
    Ev (fun k => laws_szStringS.f k l a) (if wS l ≤ a then a - wS l else -1) := by
  have hn := sums_nonneg l
  have hw : wrap64 (a - (l.length : Int)) = a - l.length := w64 (by omega) (by omega)
  by_cases c : a - (l.length : Int) < 0
  · have e : (if wS l ≤ a then a - wS l else -1) = -1 := if_neg (by unfold wS; omega)
    rw [e]
    exact Ev.one (fun k => by unfold laws_szStringS.f; rw [hw, if_pos c])
  · have hc := loop_is (σ := Int) l.length (fun k s i => laws_szStringS.l0 k l s i) (fun i s => s = a - l.length - ((l.take i).map fun s => (s.size : Int)).foldr (· + ·) 0 ∧ 0 ≤ s) (if wS l ≤ a then a - wS l else -1)
      (fun i s hi ⟨hs', hs0⟩ => by
        have ht := sums_take l i hi
        have hsz : (rdOf ByteArray.empty l (i : Int)).size ≤ 9223372036854775807 := by
          rw [rdOf_at _ _ _ hi]
          exact hs _ (List.getElem_mem hi)
        have hs2 : s ≤ 1048576 := by have := sums_nonneg (l.take i); omega
        have hw2 : wrap64 (s - ((rdOf ByteArray.empty l (i : Int)).size : Int)) = s - (rdOf ByteArray.empty l (i : Int)).size := w64 (by omega) (by omega)
        by_cases c2 : s - ((rdOf ByteArray.empty l (i : Int)).size : Int) < 0
        · refine Or.inr ⟨0, fun k _ => ?_⟩
          simp only [laws_szStringS.l0]
          rw [if_pos (by omega), if_pos (by omega), hw2, if_pos c2, if_neg]
          have := sums_le l (i + 1)
          unfold wS
          omega
        · refine Or.inl ⟨s - (rdOf ByteArray.empty l (i : Int)).size, ⟨by omega, by omega⟩, 0, fun k _ => ?_⟩
          simp only [laws_szStringS.l0]
          rw [if_pos (by omega), if_pos (by omega), hw2, if_neg c2, up64 (by omega)])
      (fun s ⟨hs', hs0⟩ => ⟨0, fun k _ => by
        rw [List.take_length] at hs'
        simp only [laws_szStringS.l0]
        rw [if_neg (by omega), if_pos (by unfold wS; omega)]
        congr 1
        unfold wS
        omega⟩)
      (a - l.length) ⟨by simp, by omega⟩
    refine Ev.congr (fun k => ?_) hc
    unfold laws_szStringS.f
    rw [hw, if_neg c]


theorem ev_toStringS (l : List ByteArray) (h : l.length ≤ 17592186044416) : Ev (fun k => laws_toStringS.f k l) l := by
  have hc := copy_loop l.length (by omega) (fun i => rdOf ByteArray.empty l (i : Int)) (⟨#[]⟩ : ByteArray) (fun k ys i => laws_toStringS.l0 k l ys i)
    (fun i ys hi hl => ⟨0, fun k _ => by simp only [laws_toStringS.l0]; rw [if_pos (by omega), if_pos (by omega), if_pos (by omega), Int.toNat_natCast]⟩)
    (fun ys hl => ⟨0, fun k _ => by simp only [laws_toStringS.l0]; rw [if_neg (by omega)]⟩)
  have e : ((List.range l.length).map fun i => rdOf ByteArray.empty l ((i : Nat) : Int)) = l := by
    have := map_range_id ByteArray.empty l
    simpa [rdOf] using this
  rw [e] at hc
  refine Ev.congr (fun k => ?_) hc
  unfold laws_toStringS.f
  rw [if_pos (by omega), if_pos (by rw [Int.toNat_natCast]; omega), Int.toNat_natCast]


theorem ev_eqStringS (l : List ByteArray) (h : l.length ≤ 9223372036854775807) : Ev (fun k => laws_eqStringS.f k l l) true := by
  have hc := all_true l.length h (fun k i => laws_eqStringS.l0 k l l i) true
    (fun i hi => ⟨0, fun k _ => by simp only [laws_eqStringS.l0]; rw [if_pos (by omega), if_pos (by omega), if_pos (by omega)]; simp only [if_true]⟩)
    ⟨0, fun k _ => by simp only [laws_eqStringS.l0]; rw [if_neg (by omega)]⟩
  refine Ev.congr (fun k => ?_) hc
  unfold laws_eqStringS.f
  rw [if_pos rfl]


theorem in_eq (a b c : Int) : spec_l1In.f a b c = some (decide (b ≤ a) && decide (a ≤ c)) := by
  unfold spec_l1In.f
  by_cases h : b ≤ a <;> simp [h]


theorem wi_eq (a b c : Int) : impl_within.f a b c = some (decide (b ≤ a) && decide (a ≤ c)) := by
  unfold impl_within.f
  by_cases h : b ≤ a <;> simp [h]


theorem ev_specIsName (s : ByteArray) (h : s.size ≤ 9223372036854775807) : Ev (fun k => spec_IsName.f k s) (nameB s) := by
  have hc := all_loop s.size h (fun i => 97 ≤ bt s (i : Int) ∧ bt s (i : Int) ≤ 122) (fun k i => spec_IsName.l0 k s i) (decide ((1 : Int) ≤ (s.size : Int)) && decide ((s.size : Int) ≤ 2)) false
    (fun i hi hT => ⟨0, fun k _ => by simp only [spec_IsName.l0]; rw [if_pos (by omega), if_pos (by omega), if_neg (by omega), if_neg (by omega)]⟩)
    (fun i hi hT => ⟨0, fun k _ => by
      simp only [spec_IsName.l0]
      rw [if_pos (by omega), if_pos (by omega)]
      by_cases c : bt s (i : Int) < 97
      · rw [if_pos c]
      · rw [if_neg c, if_pos (by omega)]⟩)
    ⟨0, fun k _ => by simp only [spec_IsName.l0]; rw [if_neg (by omega), in_eq]; rfl⟩ (nameB s) (by rw [if_and_false]; rfl)
  exact Ev.congr (fun k => rfl) hc


theorem ev_implIsName (s : ByteArray) (h : s.size ≤ 9223372036854775807) : Ev (fun k => impl_IsName.f k s) (nameB s) := by
  have hc := all_loop s.size h (fun i => 97 ≤ bt s (i : Int) ∧ bt s (i : Int) ≤ 122) (fun k i => impl_IsName.l0 k s (s.size : Int) i) (decide ((1 : Int) ≤ (s.size : Int)) && decide ((s.size : Int) ≤ 2)) false
    (fun i hi hT => ⟨0, fun k _ => by simp only [impl_IsName.l0]; rw [if_pos (by omega), if_pos (by omega), if_pos (by omega), if_neg (by omega), if_neg (by omega)]⟩)
    (fun i hi hT => ⟨0, fun k _ => by
      simp only [impl_IsName.l0]
      rw [if_pos (by omega), if_pos (by omega), if_pos (by omega)]
      by_cases c : bt s (i : Int) < 97
      · rw [if_pos c]
      · rw [if_neg c, if_pos (by omega)]⟩)
    ⟨0, fun k _ => by simp only [impl_IsName.l0]; rw [if_neg (by omega), wi_eq]; rfl⟩ (nameB s) (by rw [if_and_false]; rfl)
  exact Ev.congr (fun k => rfl) hc


theorem ev_specIndexOf (l : List ByteArray) (s : ByteArray) (h : l.length ≤ 9223372036854775807) : Ev (fun k => spec_IndexOf.f k l s) (idx l s) := by
  have hc := loop_is (σ := Unit) l.length (fun k _ i => spec_IndexOf.l0 k l s i) (fun i _ => idx l s = idxFrom s (l.drop i) i) (idx l s)
    (fun i _ hi hI => by
      rw [idx_go s l i hi] at hI
      by_cases c : l[i].toList = s.toList
      · rw [if_pos c] at hI
        exact Or.inr ⟨0, fun k _ => by simp only [spec_IndexOf.l0]; rw [if_pos (by omega), if_pos (by omega), rdOf_at _ _ _ hi, if_pos c, hI]⟩
      · rw [if_neg c] at hI
        exact Or.inl ⟨(), hI, 0, fun k _ => by simp only [spec_IndexOf.l0]; rw [if_pos (by omega), if_pos (by omega), rdOf_at _ _ _ hi, if_neg c, up64 (by omega)]⟩)
    (fun _ hI => ⟨0, fun k _ => by rw [List.drop_length] at hI; simp only [spec_IndexOf.l0]; rw [if_neg (by omega), hI]; rfl⟩) () (by rfl)
  exact Ev.congr (fun k => rfl) hc


theorem ev_slicesIndex (l : List ByteArray) (s : ByteArray) (h : l.length ≤ 9223372036854775807) : Ev (fun k => slices_Index_string_string.f k l s) (idx l s) := by
  have hc := loop_is (σ := Unit) l.length (fun k _ i => slices_Index_string_string.l0 k l s (l.length : Int) i) (fun i _ => idx l s = idxFrom s (l.drop i) i) (idx l s)
    (fun i _ hi hI => by
      rw [idx_go s l i hi] at hI
      by_cases c : l[i].toList = s.toList
      · rw [if_pos c] at hI
        exact Or.inr ⟨0, fun k _ => by simp only [slices_Index_string_string.l0]; rw [if_pos (by omega), if_pos (by omega), if_pos (by omega), rdOf_at _ _ _ hi, if_pos c.symm, hI]⟩
      · rw [if_neg c] at hI
        exact Or.inl ⟨(), hI, 0, fun k _ => by simp only [slices_Index_string_string.l0]; rw [if_pos (by omega), if_pos (by omega), if_pos (by omega), rdOf_at _ _ _ hi, if_neg (fun e => c e.symm), up64 (by omega)]⟩)
    (fun _ hI => ⟨0, fun k _ => by rw [List.drop_length] at hI; simp only [slices_Index_string_string.l0]; rw [if_neg (by omega), hI]; rfl⟩) () (by rfl)
  exact Ev.congr (fun k => rfl) hc

theorem ev_implIndexOf (l : List ByteArray) (s : ByteArray) (h : l.length ≤ 9223372036854775807) : Ev (fun k => impl_IndexOf.f k l s) (idx l s) := by
  refine Ev.congr (fun k => ?_) (ev_slicesIndex l s h)
  unfold impl_IndexOf.f
  cases slices_Index_string_string.f k l s <;> rfl


theorem ev_specAreVars (l : List ByteArray) (h : l.length ≤ 9223372036854775807) (hs : ∀ s ∈ l, s.size ≤ 9223372036854775807) : Ev (fun k => spec_AreVars.f k l) (varsB l) := by
  have hc := all_loop l.length h (fun i => nameB (l.getD i ByteArray.empty) = true ∧ idx l (l.getD i ByteArray.empty) = (i : Int)) (fun k i => spec_AreVars.l0 k l i) (decide ((1 : Int) ≤ (l.length : Int)) && decide ((l.length : Int) ≤ 4)) false
    (fun i hi hT => by
      have e : rdOf ByteArray.empty l (i : Int) = l.getD i ByteArray.empty := by unfold rdOf; rw [Int.toNat_natCast]
      obtain ⟨K, hK⟩ := Evt.and (ev_specIsName (l.getD i ByteArray.empty) (hs _ (getD_mem _ _ _ hi))) (ev_specIndexOf l (l.getD i ByteArray.empty) h)
      refine ⟨K, fun k hk => ?_⟩
      obtain ⟨h1, h2⟩ := hK k hk
      dsimp only at h1 h2
      simp only [spec_AreVars.l0]
      rw [if_pos (by omega), if_pos (by omega), e, h1]
      simp only [Option.bind_some]
      rw [if_pos hT.1, h2]
      simp only [Option.bind_some]
      rw [if_pos hT.2])
    (fun i hi hT => by
      have e : rdOf ByteArray.empty l (i : Int) = l.getD i ByteArray.empty := by unfold rdOf; rw [Int.toNat_natCast]
      obtain ⟨K, hK⟩ := Evt.and (ev_specIsName (l.getD i ByteArray.empty) (hs _ (getD_mem _ _ _ hi))) (ev_specIndexOf l (l.getD i ByteArray.empty) h)
      refine ⟨K, fun k hk => ?_⟩
      obtain ⟨h1, h2⟩ := hK k hk
      dsimp only at h1 h2
      simp only [spec_AreVars.l0]
      rw [if_pos (by omega), if_pos (by omega), e, h1]
      simp only [Option.bind_some]
      by_cases c : nameB (l.getD i ByteArray.empty) = true
      · rw [if_pos c, h2]
        simp only [Option.bind_some]
        rw [if_neg (fun c2 => hT ⟨c, c2⟩)]
      · rw [if_neg c])
    ⟨0, fun k _ => by simp only [spec_AreVars.l0]; rw [if_neg (by omega), in_eq]; rfl⟩ (varsB l) (by rw [if_and_false]; rfl)
  exact Ev.congr (fun k => rfl) hc


theorem ev_implAreVars (l : List ByteArray) (h : l.length ≤ 9223372036854775807) (hs : ∀ s ∈ l, s.size ≤ 9223372036854775807) : Ev (fun k => impl_AreVars.f k l) (varsB l) := by
  have hc := all_loop l.length h (fun i => nameB (l.getD i ByteArray.empty) = true ∧ idx l (l.getD i ByteArray.empty) = (i : Int)) (fun k i => impl_AreVars.l0 k l l (l.length : Int) i) (decide ((1 : Int) ≤ (l.length : Int)) && decide ((l.length : Int) ≤ 4)) false
    (fun i hi hT => by
      have e : rdOf ByteArray.empty l (i : Int) = l.getD i ByteArray.empty := by unfold rdOf; rw [Int.toNat_natCast]
      obtain ⟨K, hK⟩ := Evt.and (ev_implIsName (l.getD i ByteArray.empty) (hs _ (getD_mem _ _ _ hi))) (ev_implIndexOf l (l.getD i ByteArray.empty) h)
      refine ⟨K, fun k hk => ?_⟩
      obtain ⟨h1, h2⟩ := hK k hk
      dsimp only at h1 h2
      simp only [impl_AreVars.l0]
      rw [if_pos (by omega), if_pos (by omega), if_pos (by omega), e, h1]
      simp only [Option.bind_some]
      rw [if_pos hT.1, h2]
      simp only [Option.bind_some]
      rw [if_pos hT.2])
    (fun i hi hT => by
      have e : rdOf ByteArray.empty l (i : Int) = l.getD i ByteArray.empty := by unfold rdOf; rw [Int.toNat_natCast]
      obtain ⟨K, hK⟩ := Evt.and (ev_implIsName (l.getD i ByteArray.empty) (hs _ (getD_mem _ _ _ hi))) (ev_implIndexOf l (l.getD i ByteArray.empty) h)
      refine ⟨K, fun k hk => ?_⟩
      obtain ⟨h1, h2⟩ := hK k hk
      dsimp only at h1 h2
      simp only [impl_AreVars.l0]
      rw [if_pos (by omega), if_pos (by omega), if_pos (by omega), e, h1]
      simp only [Option.bind_some]
      by_cases c : nameB (l.getD i ByteArray.empty) = true
      · rw [if_pos c, h2]
        simp only [Option.bind_some]
        rw [if_neg (fun c2 => hT ⟨c, c2⟩)]
      · rw [if_neg c])
    ⟨0, fun k _ => by simp only [impl_AreVars.l0]; rw [if_neg (by omega), wi_eq]; rfl⟩ (varsB l) (by rw [if_and_false]; rfl)
  exact Ev.congr (fun k => rfl) hc


theorem max_eq (a b : Int) : spec_l1Max.f a b = some (mx a b) := by
  unfold spec_l1Max.f mx
  split <;> congr 1 <;> omega

theorem ev_DepthOf : ∀ (n : Nat) (x : S32), LG n x → ∃ r, Ev (fun k => spec_DepthOf.f k x.f0 x.f1 x.f2 x.f3 x.f4) r ∧ Ev (fun k => impl_DepthOf.f k x.f0 x.f1 x.f2 x.f3 x.f4) r := by
  intro n
  induction n with
  | zero => intro x h; exact h.elim
  | succ n ih =>
    intro x hx
    obtain ⟨s, hs⟩ := chosen (α := Int) (p := fun i r => Ev (fun k => spec_DepthOf.f k (x.f4.getD i z32).f0 (x.f4.getD i z32).f1 (x.f4.getD i z32).f2 (x.f4.getD i z32).f3 (x.f4.getD i z32).f4) r ∧ Ev (fun k => impl_DepthOf.f k (x.f4.getD i z32).f0 (x.f4.getD i z32).f1 (x.f4.getD i z32).f2 (x.f4.getD i z32).f3 (x.f4.getD i z32).f4) r) (n := x.f4.length) (fun i hi => ih _ (hx.2 _ (getD_mem _ _ _ hi)))
    obtain ⟨r, h1, h2⟩ := two_loops (σ := Int) (τ := Int) x.f4.length (fun k s i => spec_DepthOf.l0 k s i x.f0 x.f1 x.f2 x.f3 x.f4) (fun k s i => impl_DepthOf.l0 k s x.f4 (x.f4.length : Int) i) (fun _ s t => s = t)
      (fun i a b hi hab => by
        subst hab
        obtain ⟨⟨K, hK⟩, ⟨K', hK'⟩⟩ := hs i hi
        have hl := hx.1
        refine Or.inl ⟨mx a (s i), mx a (s i), rfl, ⟨K, fun k hk => ?_⟩, ⟨K', fun k hk => ?_⟩⟩
        · have e := hK k hk
          dsimp only at e
          simp only [spec_DepthOf.l0]
          rw [if_pos (by omega), if_pos (by omega), rdG, e]
          simp only [Option.bind_some, max_eq]
          rw [up64 (by omega)]
        · have e := hK' k hk
          dsimp only at e
          simp only [impl_DepthOf.l0]
          rw [if_pos (by omega), if_pos (by omega), if_pos (by omega), rdG, e]
          simp only [Option.bind_some]
          rw [up64 (by omega)])
      (fun a b hab => by
        subst hab
        exact ⟨wrap64 (a + 1), ⟨0, fun k _ => by simp only [spec_DepthOf.l0]; rw [if_neg (by omega)]⟩, ⟨0, fun k _ => by simp only [impl_DepthOf.l0]; rw [if_neg (by omega)]⟩⟩)
      x.f4.length 0 0 0 (by omega) (by omega) rfl
    exact ⟨r, Ev.next (f := fun k => spec_DepthOf.l0 k 0 0 x.f0 x.f1 x.f2 x.f3 x.f4) ⟨0, fun k _ => by simp only [spec_DepthOf.f]⟩ h1, Ev.next (f := fun k => impl_DepthOf.l0 k 0 x.f4 (x.f4.length : Int) 0) ⟨0, fun k _ => by simp only [impl_DepthOf.f]⟩ h2⟩


/-! ### how many nodes a tree has -/
def csum {α : Type} (f : α → Nat) : List α → Nat
  | [] => 0
  | a :: l => f a + csum f l
theorem csum_take {α : Type} (f : α → Nat) (d : α) : ∀ (l : List α) (i : Nat), i < l.length → csum f (l.take (i + 1)) = csum f (l.take i) + f (l.getD i d)
  | [], i, h => by simp at h
  | a :: l, 0, _ => by simp [csum]
  | a :: l, i + 1, h => by
    simp only [List.take_succ_cons, csum]
    have := csum_take f d l i (by simpa using h)
    rw [this]
    simp only [List.getD_cons_succ]
    omega
theorem csum_map {α β : Type} (f : α → Nat) (g : β → Nat) (d : α) (e : β) : ∀ (l : List α) (m : List β), l.length = m.length → (∀ i, i < l.length → f (l.getD i d) = g (m.getD i e)) → csum f l = csum g m
  | [], [], _, _ => rfl
  | a :: l, [], h, _ => by simp at h
  | [], b :: m, h, _ => by simp at h
  | a :: l, b :: m, h, hf => by
    have h0 : f a = g b := hf 0 (by simp)
    have h1 := csum_map f g d e l m (by simpa using h) (fun i hi => hf (i + 1) (by simpa using hi))
    simp only [csum, h0, h1]
theorem csum_mem {α : Type} (f : α → Nat) : ∀ (l : List α) (x : α), x ∈ l → f x ≤ csum f l
  | a :: l, x, h => by
    simp only [csum]
    rcases List.mem_cons.mp h with rfl | h
    · omega
    · have := csum_mem f l x h
      omega
def cntF : Nat → S25 → Nat
  | 0, _ => 0
  | n + 1, x => x.f4.length + csum (cntF n) x.f4
def cntG : Nat → S32 → Nat
  | 0, _ => 0
  | n + 1, x => x.f4.length + csum (cntG n) x.f4

theorem ev_szCnt : ∀ (n : Nat) (x : S25), B25n n x → ∀ a : Int, 0 ≤ a → a ≤ 1048576 →
    ∃ r, Ev (fun k => laws_szFormula.f k x.f0 x.f1 x.f2 x.f3 x.f4 a) r ∧ (r < 0 ∨ (0 ≤ r ∧ r = a - cntF n x ∧ LF n x)) := by
  intro n
  induction n with
  | zero => intro x h; exact h.elim
  | succ n ih =>
    intro x hx a h0 h1
    have hm : maxLen = 9223372036854775807 := rfl
    have hl : x.f4.length ≤ maxLen ∧ ∀ y ∈ x.f4, B25n n y := hx.2.2.2.2
    have hw : wrap64 (a - (x.f4.length : Int)) = a - x.f4.length := w64 (by omega) (by omega)
    have key : ∃ r, Ev (fun k => laws_szFormulaS.f k x.f4 a) r ∧ (r < 0 ∨ (0 ≤ r ∧ r = a - cntF (n + 1) x ∧ LF (n + 1) x)) := by
      by_cases c : a - (x.f4.length : Int) < 0
      · exact ⟨-1, Ev.last ⟨0, fun k _ => by simp only [laws_szFormulaS.f]; rw [hw, if_pos c]⟩, Or.inl (by omega)⟩
      · obtain ⟨r, hr, he⟩ := loop_ev (σ := Int) x.f4.length (fun k s i => laws_szFormulaS.l0 k x.f4 s i) (fun i s => 0 ≤ s ∧ s = a - x.f4.length - csum (cntF n) (x.f4.take i) ∧ ∀ j, j < i → LF n (x.f4.getD j z25))
          (fun r => r < 0 ∨ (0 ≤ r ∧ r = a - cntF (n + 1) x ∧ LF (n + 1) x))
          (fun i s hi ⟨s0, s1, hj⟩ => by
            obtain ⟨r, ⟨K, hK⟩, hr⟩ := ih (x.f4.getD i z25) (hl.2 _ (getD_mem _ _ _ hi)) s s0 (by omega)
            rcases hr with hr | ⟨g0, g1, g2⟩
            · refine Or.inr ⟨-1, Or.inl (by omega), K, fun k hk => ?_⟩
              have e := hK k hk
              dsimp only at e
              simp only [laws_szFormulaS.l0]
              rw [if_pos (by omega), if_pos (by omega), rdF, e]
              simp only [Option.bind_some]
              rw [if_pos hr]
            · refine Or.inl ⟨r, ⟨g0, by rw [csum_take _ z25 _ _ hi]; omega, fun j hj' => ?_⟩, K, fun k hk => ?_⟩
              · by_cases ej : j = i
                · subst ej; exact g2
                · exact hj j (by omega)
              · have e := hK k hk
                dsimp only at e
                simp only [laws_szFormulaS.l0]
                rw [if_pos (by omega), if_pos (by omega), rdF, e]
                simp only [Option.bind_some]
                rw [if_neg (by omega), up64 (by omega)])
          (fun s ⟨s0, s1, hj⟩ => ⟨s, Or.inr ⟨s0, by rw [List.take_length] at s1; simp only [cntF]; omega, by omega, fun y hy => by
            obtain ⟨j, hj1, rfl⟩ := List.getElem_of_mem hy
            have := hj j hj1
            rwa [get_rep _ _ _ hj1] at this⟩, 0, fun k _ => by simp only [laws_szFormulaS.l0]; rw [if_neg (by omega)]⟩)
          x.f4.length 0 (a - x.f4.length) (by omega) (by omega) ⟨by omega, by simp [csum], fun j hj => by omega⟩
        refine ⟨r, Ev.next (f := fun k => laws_szFormulaS.l0 k x.f4 (a - x.f4.length) 0) ⟨0, fun k _ => by simp only [laws_szFormulaS.f]; rw [hw, if_neg c]⟩ he, hr⟩
    obtain ⟨r, ⟨K, hK⟩, hr⟩ := key
    rcases hr with hr | hr
    · refine ⟨-1, Ev.last ⟨K, fun k hk => ?_⟩, Or.inl (by omega)⟩
      have e := hK k hk
      dsimp only at e
      simp only [laws_szFormula.f]
      rw [e]
      simp only [Option.bind_some]
      rw [if_pos hr]
    · refine ⟨r, Ev.last ⟨K, fun k hk => ?_⟩, Or.inr hr⟩
      have e := hK k hk
      dsimp only at e
      simp only [laws_szFormula.f]
      rw [e]
      simp only [Option.bind_some]
      rw [if_neg (by omega)]

theorem ev_toCnt : ∀ (n : Nat) (x : S25), LF n x → ∃ y : S32, LG n y ∧ cntG n y = cntF n x ∧ Ev (fun k => laws_toFormula.f k x.f0 x.f1 x.f2 x.f3 x.f4) (y.f0, y.f1, y.f2, y.f3, y.f4) := by
  intro n
  induction n with
  | zero => intro x h; exact h.elim
  | succ n ih =>
    intro x hx
    obtain ⟨g, hg⟩ := chosen (α := S32) (p := fun i y => LG n y ∧ cntG n y = cntF n (x.f4.getD i z25) ∧ Ev (fun k => laws_toFormula.f k (x.f4.getD i z25).f0 (x.f4.getD i z25).f1 (x.f4.getD i z25).f2 (x.f4.getD i z25).f3 (x.f4.getD i z25).f4) (y.f0, y.f1, y.f2, y.f3, y.f4)) (n := x.f4.length) (fun i hi => ih _ (hx.2 _ (getD_mem _ _ _ hi)))
    obtain ⟨K, hc⟩ := copy_loop x.f4.length (by have := hx.1; omega) g z32 (fun k ys i => laws_toFormulaS.l0 k x.f4 ys i)
      (fun i ys hi hl => by
        obtain ⟨K, hK⟩ := (hg i hi).2.2
        refine ⟨K, fun k hk => ?_⟩
        have e := hK k hk
        dsimp only at e
        simp only [laws_toFormulaS.l0]
        rw [if_pos (by omega), if_pos (by omega), rdF, e]
        simp only [Option.bind_some]
        rw [if_pos (by omega), Int.toNat_natCast, etaG])
      (fun ys hl => ⟨0, fun k _ => by simp only [laws_toFormulaS.l0]; rw [if_neg (by omega)]⟩)
    refine ⟨⟨x.f0, x.f1, x.f2, x.f3, (List.range x.f4.length).map g⟩, ⟨by simpa using hx.1, fun y hy => ?_⟩, ?_, Ev.next (f := fun k => (laws_toFormulaS.f k x.f4).bind fun t => some (x.f0, x.f1, x.f2, x.f3, t)) ⟨0, fun k _ => by simp only [laws_toFormula.f]⟩ (Ev.last ⟨K, fun k hk => ?_⟩)⟩
    · obtain ⟨i, hi, rfl⟩ := List.mem_map.mp hy
      exact (hg i (List.mem_range.mp hi)).1
    · simp only [cntG, cntF]
      rw [csum_map (cntG n) (cntF n) z32 z25 ((List.range x.f4.length).map g) x.f4 (by simp) (fun i hi => ?_)]
      · simp
      · have hi' : i < x.f4.length := by simpa using hi
        rw [get_rep _ _ _ hi]
        simpa using (hg i hi').2.1
    · have e := hc k hk
      dsimp only at e ⊢
      simp only [laws_toFormulaS.f]
      rw [if_pos (by omega), if_pos (by have := hx.1; rw [Int.toNat_natCast]; omega), Int.toNat_natCast, e]
      rfl

theorem deep : ∀ (m n : Nat) (y : S32), LG n y → cntG n y ≤ m → LG (m + 1) y := by
  intro m
  induction m with
  | zero =>
    intro n y h hc
    cases n with
    | zero => exact h.elim
    | succ n =>
      refine ⟨h.1, fun z hz => ?_⟩
      have hl : 0 < y.f4.length := List.length_pos_of_mem hz
      simp only [cntG] at hc
      omega
  | succ m ih =>
    intro n y h hc
    cases n with
    | zero => exact h.elim
    | succ n =>
      refine ⟨h.1, fun z hz => ?_⟩
      have hl : 0 < y.f4.length := List.length_pos_of_mem hz
      have := csum_mem (cntG n) y.f4 z hz
      simp only [cntG] at hc
      exact ih n z (h.2 z hz) (by omega)


/-! ### valid formulas -/
theorem ev_left : ∀ (n : Nat) (y : S32), LG n y → ∀ a : Int, 0 ≤ a → a ≤ 1000 → ∃ r, Ev (fun k => spec_l10Left.f k y.f0 y.f1 y.f2 y.f3 y.f4 a) r ∧ ((0 ≤ r ∧ r = a - 1 - cntG n y) ∨ (r < 0 ∧ a < 1 + cntG n y)) := by
  intro n
  induction n with
  | zero => intro y h; exact h.elim
  | succ n ih =>
    intro y hy a h0 h1
    have hlen := hy.1
    have hsum : ∀ i, i < y.f4.length → i + 1 + csum (cntG n) (y.f4.take (i + 1)) ≤ cntG (n + 1) y := fun i hi => by
      simp only [cntG]
      have : ∀ (l : List S32) (j : Nat), csum (cntG n) (l.take j) ≤ csum (cntG n) l := by
        intro l
        induction l with
        | nil => intro j; simp [csum]
        | cons b l ihl =>
          intro j
          cases j with
          | zero => simp [csum]
          | succ j => simp only [List.take_succ_cons, csum]; have := ihl j; omega
      have := this y.f4 (i + 1)
      omega
    obtain ⟨r, hr, he⟩ := loop_ev (σ := Int) y.f4.length (fun k s i => spec_l10Left.l0 k s i y.f0 y.f1 y.f2 y.f3 y.f4)
      (fun i s => (0 ≤ s ∧ s = a - 1 - i - csum (cntG n) (y.f4.take i)) ∨ (s < 0 ∧ a < 1 + cntG (n + 1) y))
      (fun r => (0 ≤ r ∧ r = a - 1 - cntG (n + 1) y) ∨ (r < 0 ∧ a < 1 + cntG (n + 1) y))
      (fun i s hi hs => by
        rcases hs with ⟨s0, s1⟩ | ⟨s0, s1⟩
        · obtain ⟨r, ⟨K, hK⟩, hr⟩ := ih (y.f4.getD i z32) (hy.2 _ (getD_mem _ _ _ hi)) s s0 (by omega)
          have ht := csum_take (cntG n) z32 y.f4 i hi
          have hs := hsum i hi
          refine Or.inl ⟨r, ?_, K, fun k hk => ?_⟩
          · rcases hr with ⟨r0, r1⟩ | ⟨r0, r1⟩
            · exact Or.inl ⟨r0, by omega⟩
            · exact Or.inr ⟨r0, by omega⟩
          · have e := hK k hk
            dsimp only at e
            simp only [spec_l10Left.l0]
            rw [if_pos (by omega), if_pos (by omega), if_pos (by omega), rdG, e]
            simp only [Option.bind_some]
            rw [up64 (by omega)]
        · refine Or.inr ⟨s, Or.inr ⟨s0, s1⟩, 0, fun k _ => ?_⟩
          simp only [spec_l10Left.l0]
          rw [if_pos (by omega), if_neg (by omega)])
      (fun s hs => ⟨s, by
        rw [List.take_length] at hs
        simp only [cntG] at hs ⊢
        rcases hs with ⟨s0, s1⟩ | ⟨s0, s1⟩
        · exact Or.inl ⟨s0, by omega⟩
        · exact Or.inr ⟨s0, by omega⟩, 0, fun k _ => by simp only [spec_l10Left.l0]; rw [if_neg (by omega)]⟩)
      y.f4.length 0 (a - 1) (by omega) (by omega) (by
        by_cases c : 0 ≤ a - 1
        · exact Or.inl ⟨c, by simp [csum]⟩
        · exact Or.inr ⟨by omega, by omega⟩)
    exact ⟨r, Ev.next (f := fun k => spec_l10Left.l0 k (a - 1) 0 y.f0 y.f1 y.f2 y.f3 y.f4) ⟨0, fun k _ => by simp only [spec_l10Left.f]; rw [w64 (by omega) (by omega)]⟩ he, hr⟩

theorem ev_size : ∀ (n : Nat) (y : S32), LG n y → cntG n y ≤ 1048576 → Ev (fun k => impl_SizeOf.f k y.f0 y.f1 y.f2 y.f3 y.f4) (1 + cntG n y : Int) := by
  intro n
  induction n with
  | zero => intro y h; exact h.elim
  | succ n ih =>
    intro y hy hc
    have hlen := hy.1
    have hle : ∀ (l : List S32) (j : Nat), csum (cntG n) (l.take j) ≤ csum (cntG n) l := by
      intro l
      induction l with
      | nil => intro j; simp [csum]
      | cons b l ihl =>
        intro j
        cases j with
        | zero => simp [csum]
        | succ j => simp only [List.take_succ_cons, csum]; have := ihl j; omega
    have hcn : y.f4.length + csum (cntG n) y.f4 ≤ 1048576 := by simpa only [cntG] using hc
    have he := loop_is (σ := Int) y.f4.length (fun k s i => impl_SizeOf.l0 k s y.f4 (y.f4.length : Int) i)
      (fun i s => s = 1 + i + csum (cntG n) (y.f4.take i)) (1 + cntG (n + 1) y : Int)
      (fun i s hi hs => by
        have hm := csum_mem (cntG n) y.f4 _ (getD_mem z32 _ _ hi)
        obtain ⟨K, hK⟩ := ih (y.f4.getD i z32) (hy.2 _ (getD_mem _ _ _ hi)) (by omega)
        have ht := csum_take (cntG n) z32 y.f4 i hi
        have h1 := hle y.f4 i
        refine Or.inl ⟨s + (1 + cntG n (y.f4.getD i z32)), by omega, K, fun k hk => ?_⟩
        have e := hK k hk
        dsimp only at e
        simp only [impl_SizeOf.l0]
        rw [if_pos (by omega), if_pos (by omega), if_pos (by omega), rdG, e]
        simp only [Option.bind_some]
        rw [up64 (by omega), w64 (by omega) (by omega)])
      (fun s hs => ⟨0, fun k _ => by
        rw [List.take_length] at hs
        simp only [impl_SizeOf.l0, cntG]
        rw [if_neg (by omega)]
        congr 1
        omega⟩)
      1 (by simp [csum])
    exact Ev.next (f := fun k => impl_SizeOf.l0 k 1 y.f4 (y.f4.length : Int) 0) ⟨0, fun k _ => by simp only [impl_SizeOf.f]⟩ he

def arN (a : Int) : Int := if 1 ≤ a ∧ a ≤ 7 then 0 else if a = 8 ∨ a = 11 ∨ a = 12 then 1 else if a = 9 ∨ a = 10 then 2 else -1
theorem ar_spec (k : Nat) (a : Int) : spec_ArityOf.f (k + 1) a = some (arN a) := by
  unfold spec_ArityOf.f arN
  rw [in_eq]
  simp only [Option.bind_some, spec_ArityOf.j0]
  by_cases c : 1 ≤ a ∧ a ≤ 7
  · rw [if_pos (by simp [c.1, c.2]), if_pos c]
  · rw [if_neg (by simp; omega), if_neg c]
    by_cases c8 : a = 8
    · subst c8; rfl
    by_cases c11 : a = 11
    · subst c11; rfl
    by_cases c12 : a = 12
    · subst c12; rfl
    rw [if_neg c8, if_neg c11, if_neg (by simpa using c12), if_neg (show ¬ (a = 8 ∨ a = 11 ∨ a = 12) by omega)]
    by_cases c9 : a = 9
    · subst c9; rfl
    by_cases c10 : a = 10
    · subst c10; rfl
    rw [if_neg c9, if_neg c10, if_neg (by omega)]
theorem ar_impl (k : Nat) (a : Int) : impl_ArityOf.f (k + 1) a = some (arN a) := by
  unfold impl_ArityOf.f arN
  rw [wi_eq]
  simp only [Option.bind_some, impl_ArityOf.j0]
  by_cases c : 1 ≤ a ∧ a ≤ 7
  · rw [if_pos (by simp [c.1, c.2]), if_pos c]
  · rw [if_neg (by simp; omega), if_neg c]
    by_cases c8 : a = 8
    · subst c8; rfl
    by_cases c11 : a = 11
    · subst c11; rfl
    by_cases c12 : a = 12
    · subst c12; rfl
    rw [if_neg c8, if_neg c11, if_neg (by simpa using c12), if_neg (show ¬ (a = 8 ∨ a = 11 ∨ a = 12) by omega)]
    by_cases c9 : a = 9
    · subst c9; rfl
    by_cases c10 : a = 10
    · subst c10; rfl
    rw [if_neg c9, if_neg c10, if_neg (by omega)]

def ukB (a : Int) : Bool := decide (a = 2 ∨ a = 3)
def uuB (a : Int) : Bool := decide ((2 ≤ a ∧ a ≤ 7) ∨ a = 11 ∨ a = 12)
def uvB (a : Int) : Bool := decide (5 ≤ a ∧ a ≤ 7)
def fieldB (x : Int) (b : Bool) (n : Int) : Bool := if b = true then decide (0 ≤ x ∧ x < n) else decide (x = 0)
def nodeB (v a k u w len : Int) : Bool := decide (len = arN a) && (fieldB k (ukB a) v && (fieldB u (uuB a) 4 && fieldB w (uvB a) 4))

theorem field_eq (x : Int) (b : Bool) (n : Int) (h0 : 0 ≤ n) (h1 : n ≤ 1000000) : impl_isField.f x b n = some (fieldB x b n) := by
  unfold impl_isField.f fieldB
  cases b with
  | false => simp [BEq.beq]
  | true =>
    rw [if_pos rfl, if_pos rfl, wi_eq, w64 (by omega) (by omega)]
    simp only [Option.bind_some]
    by_cases c : 0 ≤ x ∧ x < n
    · rw [if_pos (by simp; omega), decide_eq_true c]
    · rw [if_neg (by simp; omega), decide_eq_false c]
theorem uk_eq (a : Int) : impl_usesK.f a = some (ukB a) := by
  unfold impl_usesK.f ukB
  by_cases c : a = 2
  · rw [if_pos c]; simp [c]
  · rw [if_neg c]; simp [c]; rfl
theorem uu_eq (a : Int) : impl_usesU.f a = some (uuB a) := by
  unfold impl_usesU.f uuB impl_isBinder.f
  rw [wi_eq]
  simp only [Option.bind_some]
  by_cases c : 2 ≤ a ∧ a ≤ 7
  · rw [if_pos (by simp [c.1, c.2]), decide_eq_true (Or.inl c)]
  · rw [if_neg (by simp; omega)]
    by_cases c2 : a = 11
    · rw [if_pos c2]; simp [c2]
    · rw [if_neg c2]
      by_cases c3 : a = 12
      · subst c3; rfl
      · rw [decide_eq_false (by omega)]; simp [c3]
theorem uv_eq (a : Int) : impl_usesV.f a = some (uvB a) := by
  unfold impl_usesV.f uvB
  rw [wi_eq]
  simp only [Option.bind_some]
  by_cases c : 5 ≤ a ∧ a ≤ 7
  · rw [decide_eq_true c, decide_eq_true c.1, decide_eq_true c.2]; rfl
  · rw [decide_eq_false c]; simp; omega

def WF (v : Int) : Nat → S32 → Bool
  | 0, _ => false
  | n + 1, y => nodeB v y.f0 y.f1 y.f2 y.f3 (y.f4.length : Int) && y.f4.all (WF v n)

theorem ev_bad (v : Int) (n : Nat) : ∀ l : List S32, (∀ z ∈ l, Ev (fun k => impl_Formula_isWell.f k z.f0 z.f1 z.f2 z.f3 z.f4 v) (WF v n z)) → Ev (fun k => impl_Formula_isWell.bad (fun x => impl_Formula_isWell.f k x.f0 x.f1 x.f2 x.f3 x.f4 v) l) (!(l.all (WF v n))) := by
  intro l
  induction l with
  | nil => intro _; exact ⟨0, fun k _ => rfl⟩
  | cons z l ih =>
    intro h
    obtain ⟨K1, h1⟩ := h z (List.mem_cons_self ..)
    obtain ⟨K2, h2⟩ := ih (fun x hx => h x (List.mem_cons_of_mem _ hx))
    refine ⟨K1 + K2, fun k hk => ?_⟩
    have e1 := h1 k (by omega)
    have e2 := h2 k (by omega)
    dsimp only at e1 e2
    simp only [impl_Formula_isWell.bad]
    rw [e1]
    simp only [Option.bind_some, List.all_cons]
    cases WF v n z with
    | false => rfl
    | true => rw [if_pos rfl, e2]; rfl

theorem ev_well (v : Int) (v0 : 0 ≤ v) (v1 : v ≤ 1000000) : ∀ (n : Nat) (y : S32), LG n y → Ev (fun k => impl_Formula_isWell.f k y.f0 y.f1 y.f2 y.f3 y.f4 v) (WF v n y) := by
  intro n
  induction n with
  | zero => intro y h; exact h.elim
  | succ n ih =>
    intro y hy
    have hlen := hy.1
    obtain ⟨K, hK⟩ := ev_bad v n y.f4 (fun z hz => ih z (hy.2 z hz))
    refine ⟨K + 2, fun k hk => ?_⟩
    obtain ⟨m, rfl⟩ : ∃ m, k = m + 2 := ⟨k - 2, by omega⟩
    have e := hK (m + 1) (by omega)
    dsimp only at e
    show impl_Formula_isWell.f (m + 1 + 1) _ _ _ _ _ _ = _
    rw [impl_Formula_isWell.f]
    simp only [WF, nodeB]
    rw [if_pos (by omega), ar_impl]
    simp only [Option.bind_some, uk_eq, uu_eq, uv_eq, field_eq _ _ v v0 v1, field_eq _ _ 4 (by omega) (by omega)]
    by_cases c : (y.f4.length : Int) = arN y.f0
    · rw [if_pos c, decide_eq_true c]
      cases fieldB y.f1 (ukB y.f0) v with
      | false => simp
      | true =>
        cases fieldB y.f2 (uuB y.f0) 4 with
        | false => simp
        | true =>
          cases fieldB y.f3 (uvB y.f0) 4 with
          | false => simp
          | true =>
            simp only [if_true]
            have e' : impl_Formula_isWell.bad (fun x => impl_Formula_isWell.f (m + 1) x.f0 x.f1 x.f2 x.f3 x.f4 v) y.f4 = some (!(y.f4.all (WF v n))) := e
            rw [e']
            simp
    · rw [if_neg c, decide_eq_false c]
      rfl

def usN (a : Int) : Int := if a = 2 ∨ a = 3 ∨ a = 4 ∨ a = 11 ∨ a = 12 then 1 else if a = 5 ∨ a = 6 ∨ a = 7 then 2 else 0
theorem us_eq (k : Nat) (a : Int) : spec_l10Uses.f (k + 1) a = some (usN a) := by
  unfold spec_l10Uses.f usN
  simp only [spec_l10Uses.j0]
  by_cases c2 : a = 2
  · subst c2; rfl
  by_cases c3 : a = 3
  · subst c3; rfl
  by_cases c4 : a = 4
  · subst c4; rfl
  by_cases c11 : a = 11
  · subst c11; rfl
  by_cases c12 : a = 12
  · subst c12; rfl
  rw [if_neg c2, if_neg c3, if_neg c4, if_neg c11, if_neg (by simpa using c12), if_neg (show ¬ (a = 2 ∨ a = 3 ∨ a = 4 ∨ a = 11 ∨ a = 12) by omega)]
  by_cases c5 : a = 5
  · subst c5; rfl
  by_cases c6 : a = 6
  · subst c6; rfl
  by_cases c7 : a = 7
  · subst c7; rfl
  rw [if_neg c5, if_neg c6, if_neg c7, if_neg (by omega)]

theorem j2_eq (k : Nat) (b : Bool) (a p u w : Int) (l : List S32) : spec_l10Form.j2 (k + 2) b a p u w l = some (!b && (decide (0 ≤ u ∧ u < 4) && (decide (0 ≤ w ∧ w < 4) && decide ((l.length : Int) = arN a)))) := by
  simp only [spec_l10Form.j2, in_eq, ar_spec, Option.bind_some]
  cases b with
  | true => rfl
  | false =>
    rw [if_neg (by decide)]
    by_cases c : 0 ≤ u ∧ u < 4
    · rw [if_pos (by simp; omega), decide_eq_true c]
      by_cases d : 0 ≤ w ∧ w < 4
      · rw [if_pos (by simp; omega), decide_eq_true d]
        by_cases f : (l.length : Int) = arN a <;> simp [f]
      · rw [if_neg (by simp; omega), decide_eq_false d]; rfl
    · rw [if_neg (by simp; omega), decide_eq_false c]; rfl

theorem node_spec (k : Nat) (v : Int) (v0 : 0 ≤ v) (a p u w : Int) (l : List S32) : ((spec_l10Uses.f (k + 4) a).bind fun t117 => (if a = 2 then (spec_l10Form.j1 (k + 4) v t117 true a p u w l) else (spec_l10Form.j1 (k + 4) v t117 (a == 3) a p u w l))) = some (nodeB v a p u w (l.length : Int)) := by
  rw [us_eq]
  simp only [Option.bind_some]
  have e : (if a = 2 then (spec_l10Form.j1 (k + 4) v (usN a) true a p u w l) else (spec_l10Form.j1 (k + 4) v (usN a) (a == 3) a p u w l)) = spec_l10Form.j1 (k + 4) v (usN a) (ukB a) a p u w l := by
    by_cases c : a = 2
    · rw [if_pos c]; simp [ukB, c]
    · rw [if_neg c]
      congr 1
      by_cases d : a = 3
      · simp [ukB, d]
      · simp [ukB, c, d]
  rw [e]
  simp only [spec_l10Form.j1, j2_eq]
  unfold nodeB fieldB
  have hu : uuB a = decide (¬ usN a < 1) := by
    unfold uuB usN
    by_cases c1 : a = 2 ∨ a = 3 ∨ a = 4 ∨ a = 11 ∨ a = 12
    · rw [if_pos c1]; simp; omega
    · rw [if_neg c1]
      by_cases c2 : a = 5 ∨ a = 6 ∨ a = 7
      · rw [if_pos c2]; simp; omega
      · rw [if_neg c2]; simp; omega
  have hv : uvB a = decide (¬ usN a < 2) := by
    unfold uvB usN
    by_cases c1 : a = 2 ∨ a = 3 ∨ a = 4 ∨ a = 11 ∨ a = 12
    · rw [if_pos c1]; simp; omega
    · rw [if_neg c1]
      by_cases c2 : a = 5 ∨ a = 6 ∨ a = 7
      · rw [if_pos c2]; simp; omega
      · rw [if_neg c2]; simp; omega
  rw [hu, hv]
  generalize decide ((l.length : Int) = arN a) = L
  have hz : decide (0 ≤ (0 : Int) ∧ (0 : Int) < 4) = true := rfl
  cases ukB a with
  | true =>
    by_cases p0 : p < 0
    · have hp : decide (0 ≤ p ∧ p < v) = false := decide_eq_false (by omega)
      by_cases c1 : usN a < 1 <;> by_cases c2 : usN a < 2 <;> by_cases u0 : u = 0 <;> by_cases w0 : w = 0 <;> simp [c1, c2, u0, w0, p0, hp]
    · have hp : decide (0 ≤ p ∧ p < v) = !(decide (v ≤ p)) := by
        by_cases q : v ≤ p
        · rw [decide_eq_true q, decide_eq_false (by omega)]; rfl
        · rw [decide_eq_false q, decide_eq_true (by omega)]; rfl
      by_cases c1 : usN a < 1 <;> by_cases c2 : usN a < 2 <;> by_cases u0 : u = 0 <;> by_cases w0 : w = 0 <;> by_cases q : v ≤ p <;> cases L <;> simp [c1, c2, u0, w0, p0, hp, q]
  | false =>
    by_cases p0 : p = 0 <;> by_cases c1 : usN a < 1 <;> by_cases c2 : usN a < 2 <;> by_cases u0 : u = 0 <;> by_cases w0 : w = 0 <;> cases L <;> simp [c1, c2, u0, w0, p0]

theorem all_at (p : S32 → Bool) (l : List S32) : (∀ i, i < l.length → p (l.getD i z32) = true) ↔ l.all p = true := by
  rw [List.all_eq_true]
  constructor
  · intro h x hx
    obtain ⟨i, hi, rfl⟩ := List.getElem_of_mem hx
    have := h i hi
    rwa [get_rep _ _ _ hi] at this
  · intro h i hi
    exact h _ (getD_mem _ _ _ hi)

theorem ev_form (v : Int) (v0 : 0 ≤ v) : ∀ (n : Nat) (y : S32), LG n y → Ev (fun k => spec_l10Form.f k v y.f0 y.f1 y.f2 y.f3 y.f4) (WF v n y) := by
  intro n
  induction n with
  | zero => intro y h; exact h.elim
  | succ n ih =>
    intro y hy
    have hlen := hy.1
    have hc := all_loop y.f4.length (by omega) (fun i => WF v n (y.f4.getD i z32) = true) (fun k i => spec_l10Form.l0 k v i y.f0 y.f1 y.f2 y.f3 y.f4) (nodeB v y.f0 y.f1 y.f2 y.f3 (y.f4.length : Int)) false
      (fun i hi hT => by
        obtain ⟨K, hK⟩ := ih (y.f4.getD i z32) (hy.2 _ (getD_mem _ _ _ hi))
        refine ⟨K, fun k hk => ?_⟩
        have e := hK k hk
        dsimp only at e
        simp only [spec_l10Form.l0]
        rw [if_pos (by omega), if_pos (by omega), rdG, e]
        simp only [Option.bind_some]
        rw [if_pos hT])
      (fun i hi hT => by
        obtain ⟨K, hK⟩ := ih (y.f4.getD i z32) (hy.2 _ (getD_mem _ _ _ hi))
        refine ⟨K, fun k hk => ?_⟩
        have e := hK k hk
        dsimp only at e
        simp only [spec_l10Form.l0]
        rw [if_pos (by omega), if_pos (by omega), rdG, e]
        simp only [Option.bind_some]
        rw [if_neg hT])
      ⟨4, fun k hk => by
        obtain ⟨m, rfl⟩ : ∃ m, k = m + 4 := ⟨k - 4, by omega⟩
        rw [spec_l10Form.l0, if_neg (by omega)]
        exact node_spec m v v0 _ _ _ _ _⟩
      (WF v (n + 1) y) (by
        simp only [WF]
        by_cases c : y.f4.all (WF v n) = true
        · rw [if_pos ((all_at _ _).mpr c), c, Bool.and_true]
        · have c' : y.f4.all (WF v n) = false := by simpa using c
          rw [if_neg (fun h => c ((all_at _ _).mp h)), c', Bool.and_false])
    exact Ev.next (f := fun k => spec_l10Form.l0 k v 0 y.f0 y.f1 y.f2 y.f3 y.f4) ⟨0, fun k _ => by rw [spec_l10Form.f]⟩ hc

theorem ev_isFormula (v : Int) (v0 : 0 ≤ v) (v1 : v ≤ 1000000) (n : Nat) (y : S32) (hy : LG n y) (hc : cntG n y ≤ 1048576) : ∃ b, Ev (fun k => spec_IsFormula.f k v y.f0 y.f1 y.f2 y.f3 y.f4) b ∧ Ev (fun k => impl_IsFormula.f k v y.f0 y.f1 y.f2 y.f3 y.f4) b ∧ (b = true → WF v n y = true) := by
  obtain ⟨r, e1, hr⟩ := ev_left n y hy 40 (by omega) (by omega)
  have e2 := ev_size n y hy hc
  obtain ⟨d, e3, e4⟩ := ev_DepthOf n y hy
  have e5 := ev_form v v0 n y hy
  have e6 := ev_well v v0 v1 n y hy
  obtain ⟨K, hK⟩ := Evt.and e1 (Evt.and e2 (Evt.and e3 (Evt.and e4 (Evt.and e5 e6))))
  refine ⟨decide (r ≥ 0) && (decide (d ≤ 12) && WF v n y), ⟨K, fun k hk => ?_⟩, ⟨K, fun k hk => ?_⟩, fun h => ?_⟩
  · obtain ⟨h1, h2, h3, h4, h5, h6⟩ := hK k hk
    dsimp only at h1 h2 h3 h4 h5 h6 ⊢
    unfold spec_IsFormula.f
    rw [h1]
    simp only [Option.bind_some]
    by_cases c : r ≥ 0
    · rw [if_pos c, decide_eq_true c, h3]
      simp only [Option.bind_some]
      by_cases c2 : d ≤ 12
      · rw [if_pos c2, decide_eq_true c2, h5]; rfl
      · rw [if_neg c2, decide_eq_false c2]; rfl
    · rw [if_neg c, decide_eq_false c]; rfl
  · obtain ⟨h1, h2, h3, h4, h5, h6⟩ := hK k hk
    dsimp only at h1 h2 h3 h4 h5 h6 ⊢
    unfold impl_IsFormula.f
    rw [h2]
    simp only [Option.bind_some]
    by_cases c : r ≥ 0
    · rw [if_pos (by omega), decide_eq_true c, h4]
      simp only [Option.bind_some]
      by_cases c2 : d ≤ 12
      · rw [if_pos c2, decide_eq_true c2, h6]; rfl
      · rw [if_neg c2, decide_eq_false c2]; rfl
    · rw [if_neg (by omega), decide_eq_false c]; rfl
  · simp only [Bool.and_eq_true] at h
    exact h.2.2

/-! ### the texts -/
def lgB (u : Int) : ByteArray := (⟨#[117, 118, 119, 122]⟩ : ByteArray).extract (u : Int).toNat ((wrap64 (u + 1)) : Int).toNat
theorem lg_cases (u : Int) (h0 : 0 ≤ u) (h1 : u < 4) : spec_l11Logic.f u = some (lgB u) ∧ impl_logicName.f u = some (lgB u) ∧ (lgB u).size = 1 := by
  have w : wrap64 (u + 1) = u + 1 := w64 (by omega) (by omega)
  refine ⟨?_, ?_, ?_⟩
  · unfold spec_l11Logic.f
    rw [if_pos h0, if_pos (by omega), if_pos (by omega)]
    rfl
  · unfold impl_logicName.f
    rw [if_pos h0, if_pos (by omega), if_pos (by omega)]
    rfl
  · have : u = 0 ∨ u = 1 ∨ u = 2 ∨ u = 3 := by omega
    rcases this with rfl | rfl | rfl | rfl <;> decide +kernel

theorem kids (v : List ByteArray) (a p q w : Int) (l : List S32) (ts : List ByteArray) (hlen : ts.length = l.length) (hl : l.length ≤ 1048576)
    (h : ∀ i, i < l.length → Ev (fun k => spec_l11Text.f k v (l.getD i z32).f0 (l.getD i z32).f1 (l.getD i z32).f2 (l.getD i z32).f3 (l.getD i z32).f4) (ts.getD i ByteArray.empty)) (r : ByteArray)
    (hend : ∃ K, ∀ k, K ≤ k → spec_l11Text.l0 (k + 1) v ts (l.length : Int) a p q w l = some r) : Ev (fun k => spec_l11Text.f k v a p q w l) r := by
  have hc := loop_is (σ := List ByteArray) l.length (fun k s i => spec_l11Text.l0 k v s i a p q w l) (fun i s => s = ts.take i) r
    (fun i s hi hs => by
      obtain ⟨K, hK⟩ := h i hi
      refine Or.inl ⟨ts.take (i + 1), rfl, K, fun k hk => ?_⟩
      have e := hK k hk
      dsimp only at e
      rw [spec_l11Text.l0, if_pos (by omega), if_pos (by omega), rdG, e]
      simp only [Option.bind_some]
      rw [if_pos (by rw [hs, List.length_take]; omega), up64 (by omega), hs]
      congr 1
      rw [List.take_add_one, List.getElem?_eq_getElem (by omega), get_rep _ _ _ (show i < ts.length by omega)]
      rfl)
    (fun s hs => by
      have e : s = ts := by rw [hs, ← hlen, List.take_length]
      rw [e]
      exact hend)
    [] (by simp)
  exact Ev.next (f := fun k => spec_l11Text.l0 k v [] 0 a p q w l) ⟨0, fun k _ => by rw [spec_l11Text.f]⟩ hc
theorem tx1 (v : List ByteArray) (p q w : Int) : ∃ r : ByteArray, r.size ≤ 20 ∧ Ev (fun k => spec_l11Text.f k v 1 p q w ([] : List S32)) r ∧ Ev (fun k => impl_Formula_text.f k 1 p q w ([] : List S32) v) r := by
  have z0 : (⟨#[116, 114, 117, 101]⟩ : ByteArray).size = 4 := rfl
  have z1 : (⟨#[124]⟩ : ByteArray).size = 1 := rfl
  have z2 : (⟨#[33]⟩ : ByteArray).size = 1 := rfl
  have z3 : (⟨#[38]⟩ : ByteArray).size = 1 := rfl
  have z4 : (⟨#[40]⟩ : ByteArray).size = 1 := rfl
  have z5 : (⟨#[41]⟩ : ByteArray).size = 1 := rfl
  have z6 : (⟨#[46]⟩ : ByteArray).size = 1 := rfl
  have z7 : (⟨#[58]⟩ : ByteArray).size = 1 := rfl
  refine ⟨(⟨#[116, 114, 117, 101]⟩ : ByteArray), (by first | omega | (simp only [ByteArray.size_append, z0, z1, z2, z3, z4, z5, z6, z7]; omega)), kids v 1 p q w ([] : List S32) ([] : List ByteArray) rfl (by simp) ?_ _ ⟨0, fun k _ => ?_⟩, ⟨10, fun k hk => ?_⟩⟩
  · intro i hi
    exact absurd hi (by simp)
  · rw [spec_l11Text.l0, if_neg (by simp), if_pos (by decide)]
  · obtain ⟨m, rfl⟩ : ∃ m, k = m + 10 := ⟨k - 10, by omega⟩
    show impl_Formula_text.f (m + 9 + 1) _ _ _ _ _ _ = _
    rw [impl_Formula_text.f, show headOf.f 1 = some (⟨#[116, 114, 117, 101]⟩ : ByteArray) from rfl]
    simp only [Option.bind_some]
    rw [if_neg (by decide), impl_Formula_text.j0, if_neg (by decide), if_neg (by decide), if_neg (by decide), if_neg (by decide), impl_Formula_text.j1, if_neg (by decide), if_neg (by decide), if_neg (by decide), if_neg (by decide), if_neg (by decide), impl_Formula_text.j2, if_neg (by decide)]

theorem tx2 (v : List ByteArray) (p q w : Int) (p0 : 0 ≤ p) (p1 : p < (v.length : Int)) (ps : (rdOf ByteArray.empty v p).size ≤ 2) (q0 : 0 ≤ q) (q1 : q < 4) : ∃ r : ByteArray, r.size ≤ 20 ∧ Ev (fun k => spec_l11Text.f k v 2 p q w ([] : List S32)) r ∧ Ev (fun k => impl_Formula_text.f k 2 p q w ([] : List S32) v) r := by
  have z0 : (⟨#[111, 110, 32]⟩ : ByteArray).size = 3 := rfl
  have z1 : (⟨#[124]⟩ : ByteArray).size = 1 := rfl
  have z2 : (⟨#[33]⟩ : ByteArray).size = 1 := rfl
  have z3 : (⟨#[38]⟩ : ByteArray).size = 1 := rfl
  have z4 : (⟨#[40]⟩ : ByteArray).size = 1 := rfl
  have z5 : (⟨#[41]⟩ : ByteArray).size = 1 := rfl
  have z6 : (⟨#[46]⟩ : ByteArray).size = 1 := rfl
  have z7 : (⟨#[58]⟩ : ByteArray).size = 1 := rfl
  obtain ⟨q2, q3, q4⟩ := lg_cases q q0 q1
  refine ⟨(((⟨#[111, 110, 32]⟩ : ByteArray) ++ (rdOf ByteArray.empty v p)) ++ (⟨#[58]⟩ : ByteArray)) ++ lgB q, (by first | omega | (simp only [ByteArray.size_append, z0, z1, z2, z3, z4, z5, z6, z7, q4]; omega)), kids v 2 p q w ([] : List S32) ([] : List ByteArray) rfl (by simp) ?_ _ ⟨0, fun k _ => ?_⟩, ⟨10, fun k hk => ?_⟩⟩
  · intro i hi
    exact absurd hi (by simp)
  · rw [spec_l11Text.l0, if_neg (by simp), if_neg (by decide), if_pos (by decide), if_pos p0, if_pos p1, if_pos (by first | omega | (simp only [ByteArray.size_append, z0, z1, z2, z3, z4, z5, z6, z7, q4]; omega)), if_pos (by first | omega | (simp only [ByteArray.size_append, z0, z1, z2, z3, z4, z5, z6, z7, q4]; omega)), q2]
    simp only [Option.bind_some]
    rw [if_pos (by first | omega | (simp only [ByteArray.size_append, z0, z1, z2, z3, z4, z5, z6, z7, q4]; omega))]
  · obtain ⟨m, rfl⟩ : ∃ m, k = m + 10 := ⟨k - 10, by omega⟩
    show impl_Formula_text.f (m + 9 + 1) _ _ _ _ _ _ = _
    rw [impl_Formula_text.f, show headOf.f 2 = some (⟨#[111, 110, 32]⟩ : ByteArray) from rfl]
    simp only [Option.bind_some]
    rw [if_pos (by decide), impl_Formula_text.j0, if_pos (by decide), if_pos p0, if_pos p1, if_pos (by first | omega | (simp only [ByteArray.size_append, z0, z1, z2, z3, z4, z5, z6, z7, q4]; omega)), if_pos (by first | omega | (simp only [ByteArray.size_append, z0, z1, z2, z3, z4, z5, z6, z7, q4]; omega)), q3]
    simp only [Option.bind_some]
    rw [if_pos (by first | omega | (simp only [ByteArray.size_append, z0, z1, z2, z3, z4, z5, z6, z7, q4]; omega))]

theorem tx3 (v : List ByteArray) (p q w : Int) (p0 : 0 ≤ p) (p1 : p < (v.length : Int)) (ps : (rdOf ByteArray.empty v p).size ≤ 2) (q0 : 0 ≤ q) (q1 : q < 4) : ∃ r : ByteArray, r.size ≤ 20 ∧ Ev (fun k => spec_l11Text.f k v 3 p q w ([] : List S32)) r ∧ Ev (fun k => impl_Formula_text.f k 3 p q w ([] : List S32) v) r := by
  have z0 : (⟨#[102, 114, 111, 109, 32]⟩ : ByteArray).size = 5 := rfl
  have z1 : (⟨#[124]⟩ : ByteArray).size = 1 := rfl
  have z2 : (⟨#[33]⟩ : ByteArray).size = 1 := rfl
  have z3 : (⟨#[38]⟩ : ByteArray).size = 1 := rfl
  have z4 : (⟨#[40]⟩ : ByteArray).size = 1 := rfl
  have z5 : (⟨#[41]⟩ : ByteArray).size = 1 := rfl
  have z6 : (⟨#[46]⟩ : ByteArray).size = 1 := rfl
  have z7 : (⟨#[58]⟩ : ByteArray).size = 1 := rfl
  obtain ⟨q2, q3, q4⟩ := lg_cases q q0 q1
  refine ⟨(((⟨#[102, 114, 111, 109, 32]⟩ : ByteArray) ++ (rdOf ByteArray.empty v p)) ++ (⟨#[58]⟩ : ByteArray)) ++ lgB q, (by first | omega | (simp only [ByteArray.size_append, z0, z1, z2, z3, z4, z5, z6, z7, q4]; omega)), kids v 3 p q w ([] : List S32) ([] : List ByteArray) rfl (by simp) ?_ _ ⟨0, fun k _ => ?_⟩, ⟨10, fun k hk => ?_⟩⟩
  · intro i hi
    exact absurd hi (by simp)
  · rw [spec_l11Text.l0, if_neg (by simp), if_neg (by decide), if_neg (by decide), if_pos (by decide), if_pos p0, if_pos p1, if_pos (by first | omega | (simp only [ByteArray.size_append, z0, z1, z2, z3, z4, z5, z6, z7, q4]; omega)), if_pos (by first | omega | (simp only [ByteArray.size_append, z0, z1, z2, z3, z4, z5, z6, z7, q4]; omega)), q2]
    simp only [Option.bind_some]
    rw [if_pos (by first | omega | (simp only [ByteArray.size_append, z0, z1, z2, z3, z4, z5, z6, z7, q4]; omega))]
  · obtain ⟨m, rfl⟩ : ∃ m, k = m + 10 := ⟨k - 10, by omega⟩
    show impl_Formula_text.f (m + 9 + 1) _ _ _ _ _ _ = _
    rw [impl_Formula_text.f, show headOf.f 3 = some (⟨#[102, 114, 111, 109, 32]⟩ : ByteArray) from rfl]
    simp only [Option.bind_some]
    rw [if_neg (by decide), impl_Formula_text.j0, if_pos (by decide), if_pos p0, if_pos p1, if_pos (by first | omega | (simp only [ByteArray.size_append, z0, z1, z2, z3, z4, z5, z6, z7, q4]; omega)), if_pos (by first | omega | (simp only [ByteArray.size_append, z0, z1, z2, z3, z4, z5, z6, z7, q4]; omega)), q3]
    simp only [Option.bind_some]
    rw [if_pos (by first | omega | (simp only [ByteArray.size_append, z0, z1, z2, z3, z4, z5, z6, z7, q4]; omega))]

theorem tx4 (v : List ByteArray) (p q w : Int) (q0 : 0 ≤ q) (q1 : q < 4) : ∃ r : ByteArray, r.size ≤ 20 ∧ Ev (fun k => spec_l11Text.f k v 4 p q w ([] : List S32)) r ∧ Ev (fun k => impl_Formula_text.f k 4 p q w ([] : List S32) v) r := by
  have z0 : (⟨#[115, 104, 97, 114, 101, 100, 58]⟩ : ByteArray).size = 7 := rfl
  have z1 : (⟨#[124]⟩ : ByteArray).size = 1 := rfl
  have z2 : (⟨#[33]⟩ : ByteArray).size = 1 := rfl
  have z3 : (⟨#[38]⟩ : ByteArray).size = 1 := rfl
  have z4 : (⟨#[40]⟩ : ByteArray).size = 1 := rfl
  have z5 : (⟨#[41]⟩ : ByteArray).size = 1 := rfl
  have z6 : (⟨#[46]⟩ : ByteArray).size = 1 := rfl
  have z7 : (⟨#[58]⟩ : ByteArray).size = 1 := rfl
  obtain ⟨q2, q3, q4⟩ := lg_cases q q0 q1
  refine ⟨(⟨#[115, 104, 97, 114, 101, 100, 58]⟩ : ByteArray) ++ lgB q, (by first | omega | (simp only [ByteArray.size_append, z0, z1, z2, z3, z4, z5, z6, z7, q4]; omega)), kids v 4 p q w ([] : List S32) ([] : List ByteArray) rfl (by simp) ?_ _ ⟨0, fun k _ => ?_⟩, ⟨10, fun k hk => ?_⟩⟩
  · intro i hi
    exact absurd hi (by simp)
  · rw [spec_l11Text.l0, if_neg (by simp), if_neg (by decide), if_neg (by decide), if_neg (by decide), if_pos (by decide), q2]
    simp only [Option.bind_some]
    rw [if_pos (by first | omega | (simp only [ByteArray.size_append, z0, z1, z2, z3, z4, z5, z6, z7, q4]; omega))]
  · obtain ⟨m, rfl⟩ : ∃ m, k = m + 10 := ⟨k - 10, by omega⟩
    show impl_Formula_text.f (m + 9 + 1) _ _ _ _ _ _ = _
    rw [impl_Formula_text.f, show headOf.f 4 = some (⟨#[115, 104, 97, 114, 101, 100, 58]⟩ : ByteArray) from rfl]
    simp only [Option.bind_some]
    rw [if_neg (by decide), impl_Formula_text.j0, if_neg (by decide), if_pos (by decide), q3]
    simp only [Option.bind_some]
    rw [if_pos (by first | omega | (simp only [ByteArray.size_append, z0, z1, z2, z3, z4, z5, z6, z7, q4]; omega))]

theorem tx5 (v : List ByteArray) (p q w : Int) (q0 : 0 ≤ q) (q1 : q < 4) (w0 : 0 ≤ w) (w1 : w < 4) : ∃ r : ByteArray, r.size ≤ 20 ∧ Ev (fun k => spec_l11Text.f k v 5 p q w ([] : List S32)) r ∧ Ev (fun k => impl_Formula_text.f k 5 p q w ([] : List S32) v) r := by
  have z0 : (⟨#[110, 101, 120, 116, 58]⟩ : ByteArray).size = 5 := rfl
  have z1 : (⟨#[124]⟩ : ByteArray).size = 1 := rfl
  have z2 : (⟨#[33]⟩ : ByteArray).size = 1 := rfl
  have z3 : (⟨#[38]⟩ : ByteArray).size = 1 := rfl
  have z4 : (⟨#[40]⟩ : ByteArray).size = 1 := rfl
  have z5 : (⟨#[41]⟩ : ByteArray).size = 1 := rfl
  have z6 : (⟨#[46]⟩ : ByteArray).size = 1 := rfl
  have z7 : (⟨#[58]⟩ : ByteArray).size = 1 := rfl
  obtain ⟨q2, q3, q4⟩ := lg_cases q q0 q1
  obtain ⟨w2, w3, w4⟩ := lg_cases w w0 w1
  refine ⟨((⟨#[110, 101, 120, 116, 58]⟩ : ByteArray) ++ lgB q) ++ lgB w, (by first | omega | (simp only [ByteArray.size_append, z0, z1, z2, z3, z4, z5, z6, z7, q4, w4]; omega)), kids v 5 p q w ([] : List S32) ([] : List ByteArray) rfl (by simp) ?_ _ ⟨0, fun k _ => ?_⟩, ⟨10, fun k hk => ?_⟩⟩
  · intro i hi
    exact absurd hi (by simp)
  · rw [spec_l11Text.l0, if_neg (by simp), if_neg (by decide), if_neg (by decide), if_neg (by decide), if_neg (by decide), if_pos (by decide), q2]
    simp only [Option.bind_some]
    rw [if_pos (by first | omega | (simp only [ByteArray.size_append, z0, z1, z2, z3, z4, z5, z6, z7, q4, w4]; omega)), w2]
    simp only [Option.bind_some]
    rw [if_pos (by first | omega | (simp only [ByteArray.size_append, z0, z1, z2, z3, z4, z5, z6, z7, q4, w4]; omega))]
  · obtain ⟨m, rfl⟩ : ∃ m, k = m + 10 := ⟨k - 10, by omega⟩
    show impl_Formula_text.f (m + 9 + 1) _ _ _ _ _ _ = _
    rw [impl_Formula_text.f, show headOf.f 5 = some (⟨#[110, 101, 120, 116, 58]⟩ : ByteArray) from rfl]
    simp only [Option.bind_some]
    rw [if_neg (by decide), impl_Formula_text.j0, if_neg (by decide), if_neg (by decide), if_pos (by decide), impl_Formula_text.j1, if_pos (by decide), q3]
    simp only [Option.bind_some]
    rw [if_pos (by first | omega | (simp only [ByteArray.size_append, z0, z1, z2, z3, z4, z5, z6, z7, q4, w4]; omega)), w3]
    simp only [Option.bind_some]
    rw [if_pos (by first | omega | (simp only [ByteArray.size_append, z0, z1, z2, z3, z4, z5, z6, z7, q4, w4]; omega))]

theorem tx6 (v : List ByteArray) (p q w : Int) (q0 : 0 ≤ q) (q1 : q < 4) (w0 : 0 ≤ w) (w1 : w < 4) : ∃ r : ByteArray, r.size ≤ 20 ∧ Ev (fun k => spec_l11Text.f k v 6 p q w ([] : List S32)) r ∧ Ev (fun k => impl_Formula_text.f k 6 p q w ([] : List S32) v) r := by
  have z0 : (⟨#[115, 97, 109, 101, 58]⟩ : ByteArray).size = 5 := rfl
  have z1 : (⟨#[124]⟩ : ByteArray).size = 1 := rfl
  have z2 : (⟨#[33]⟩ : ByteArray).size = 1 := rfl
  have z3 : (⟨#[38]⟩ : ByteArray).size = 1 := rfl
  have z4 : (⟨#[40]⟩ : ByteArray).size = 1 := rfl
  have z5 : (⟨#[41]⟩ : ByteArray).size = 1 := rfl
  have z6 : (⟨#[46]⟩ : ByteArray).size = 1 := rfl
  have z7 : (⟨#[58]⟩ : ByteArray).size = 1 := rfl
  obtain ⟨q2, q3, q4⟩ := lg_cases q q0 q1
  obtain ⟨w2, w3, w4⟩ := lg_cases w w0 w1
  refine ⟨((⟨#[115, 97, 109, 101, 58]⟩ : ByteArray) ++ lgB q) ++ lgB w, (by first | omega | (simp only [ByteArray.size_append, z0, z1, z2, z3, z4, z5, z6, z7, q4, w4]; omega)), kids v 6 p q w ([] : List S32) ([] : List ByteArray) rfl (by simp) ?_ _ ⟨0, fun k _ => ?_⟩, ⟨10, fun k hk => ?_⟩⟩
  · intro i hi
    exact absurd hi (by simp)
  · rw [spec_l11Text.l0, if_neg (by simp), if_neg (by decide), if_neg (by decide), if_neg (by decide), if_neg (by decide), if_neg (by decide), if_pos (by decide), q2]
    simp only [Option.bind_some]
    rw [if_pos (by first | omega | (simp only [ByteArray.size_append, z0, z1, z2, z3, z4, z5, z6, z7, q4, w4]; omega)), w2]
    simp only [Option.bind_some]
    rw [if_pos (by first | omega | (simp only [ByteArray.size_append, z0, z1, z2, z3, z4, z5, z6, z7, q4, w4]; omega))]
  · obtain ⟨m, rfl⟩ : ∃ m, k = m + 10 := ⟨k - 10, by omega⟩
    show impl_Formula_text.f (m + 9 + 1) _ _ _ _ _ _ = _
    rw [impl_Formula_text.f, show headOf.f 6 = some (⟨#[115, 97, 109, 101, 58]⟩ : ByteArray) from rfl]
    simp only [Option.bind_some]
    rw [if_neg (by decide), impl_Formula_text.j0, if_neg (by decide), if_neg (by decide), if_neg (by decide), if_pos (by decide), impl_Formula_text.j1, if_pos (by decide), q3]
    simp only [Option.bind_some]
    rw [if_pos (by first | omega | (simp only [ByteArray.size_append, z0, z1, z2, z3, z4, z5, z6, z7, q4, w4]; omega)), w3]
    simp only [Option.bind_some]
    rw [if_pos (by first | omega | (simp only [ByteArray.size_append, z0, z1, z2, z3, z4, z5, z6, z7, q4, w4]; omega))]

theorem tx7 (v : List ByteArray) (p q w : Int) (q0 : 0 ≤ q) (q1 : q < 4) (w0 : 0 ≤ w) (w1 : w < 4) : ∃ r : ByteArray, r.size ≤ 20 ∧ Ev (fun k => spec_l11Text.f k v 7 p q w ([] : List S32)) r ∧ Ev (fun k => impl_Formula_text.f k 7 p q w ([] : List S32) v) r := by
  have z0 : (⟨#[112, 97, 116, 104, 58]⟩ : ByteArray).size = 5 := rfl
  have z1 : (⟨#[124]⟩ : ByteArray).size = 1 := rfl
  have z2 : (⟨#[33]⟩ : ByteArray).size = 1 := rfl
  have z3 : (⟨#[38]⟩ : ByteArray).size = 1 := rfl
  have z4 : (⟨#[40]⟩ : ByteArray).size = 1 := rfl
  have z5 : (⟨#[41]⟩ : ByteArray).size = 1 := rfl
  have z6 : (⟨#[46]⟩ : ByteArray).size = 1 := rfl
  have z7 : (⟨#[58]⟩ : ByteArray).size = 1 := rfl
  obtain ⟨q2, q3, q4⟩ := lg_cases q q0 q1
  obtain ⟨w2, w3, w4⟩ := lg_cases w w0 w1
  refine ⟨((⟨#[112, 97, 116, 104, 58]⟩ : ByteArray) ++ lgB q) ++ lgB w, (by first | omega | (simp only [ByteArray.size_append, z0, z1, z2, z3, z4, z5, z6, z7, q4, w4]; omega)), kids v 7 p q w ([] : List S32) ([] : List ByteArray) rfl (by simp) ?_ _ ⟨0, fun k _ => ?_⟩, ⟨10, fun k hk => ?_⟩⟩
  · intro i hi
    exact absurd hi (by simp)
  · rw [spec_l11Text.l0, if_neg (by simp), if_neg (by decide), if_neg (by decide), if_neg (by decide), if_neg (by decide), if_neg (by decide), if_neg (by decide), if_pos (by decide), q2]
    simp only [Option.bind_some]
    rw [if_pos (by first | omega | (simp only [ByteArray.size_append, z0, z1, z2, z3, z4, z5, z6, z7, q4, w4]; omega)), w2]
    simp only [Option.bind_some]
    rw [if_pos (by first | omega | (simp only [ByteArray.size_append, z0, z1, z2, z3, z4, z5, z6, z7, q4, w4]; omega))]
  · obtain ⟨m, rfl⟩ : ∃ m, k = m + 10 := ⟨k - 10, by omega⟩
    show impl_Formula_text.f (m + 9 + 1) _ _ _ _ _ _ = _
    rw [impl_Formula_text.f, show headOf.f 7 = some (⟨#[112, 97, 116, 104, 58]⟩ : ByteArray) from rfl]
    simp only [Option.bind_some]
    rw [if_neg (by decide), impl_Formula_text.j0, if_neg (by decide), if_neg (by decide), if_neg (by decide), if_neg (by decide), impl_Formula_text.j1, if_pos (by decide), q3]
    simp only [Option.bind_some]
    rw [if_pos (by first | omega | (simp only [ByteArray.size_append, z0, z1, z2, z3, z4, z5, z6, z7, q4, w4]; omega)), w3]
    simp only [Option.bind_some]
    rw [if_pos (by first | omega | (simp only [ByteArray.size_append, z0, z1, z2, z3, z4, z5, z6, z7, q4, w4]; omega))]

theorem tx8 (v : List ByteArray) (p q w : Int) (c : S32) (tc : ByteArray) (sc : tc.size ≤ 1000000000) (hc : Ev (fun k => spec_l11Text.f k v c.f0 c.f1 c.f2 c.f3 c.f4) tc) (gc : Ev (fun k => impl_Formula_text.f k c.f0 c.f1 c.f2 c.f3 c.f4 v) tc) : ∃ r : ByteArray, r.size ≤ 20 + tc.size ∧ Ev (fun k => spec_l11Text.f k v 8 p q w ([c] : List S32)) r ∧ Ev (fun k => impl_Formula_text.f k 8 p q w ([c] : List S32) v) r := by
  have z0 : (⟨#[124]⟩ : ByteArray).size = 1 := rfl
  have z1 : (⟨#[33]⟩ : ByteArray).size = 1 := rfl
  have z2 : (⟨#[38]⟩ : ByteArray).size = 1 := rfl
  have z3 : (⟨#[40]⟩ : ByteArray).size = 1 := rfl
  have z4 : (⟨#[41]⟩ : ByteArray).size = 1 := rfl
  have z5 : (⟨#[46]⟩ : ByteArray).size = 1 := rfl
  have z6 : (⟨#[58]⟩ : ByteArray).size = 1 := rfl
  obtain ⟨Lc, kc⟩ := gc
  refine ⟨(⟨#[33]⟩ : ByteArray) ++ tc, (by first | omega | (simp only [ByteArray.size_append, z0, z1, z2, z3, z4, z5, z6]; omega)), kids v 8 p q w ([c] : List S32) ([tc] : List ByteArray) rfl (by simp) ?_ _ ⟨0, fun k _ => ?_⟩, ⟨Lc + 10, fun k hk => ?_⟩⟩
  · intro i hi
    obtain rfl : i = 0 := by simp at hi; omega
    exact hc
  · rw [spec_l11Text.l0, if_neg (by simp), if_neg (by decide), if_neg (by decide), if_neg (by decide), if_neg (by decide), if_neg (by decide), if_neg (by decide), if_neg (by decide), if_pos (by decide), if_pos (by simp), show rdOf ByteArray.empty ([tc] : List ByteArray) 0 = tc from rfl, if_pos (by first | omega | (simp only [ByteArray.size_append, z0, z1, z2, z3, z4, z5, z6]; omega))]
  · obtain ⟨m, rfl⟩ : ∃ m, k = m + 10 := ⟨k - 10, by omega⟩
    show impl_Formula_text.f (m + 9 + 1) _ _ _ _ _ _ = _
    rw [impl_Formula_text.f, show headOf.f 8 = some (⟨#[]⟩ : ByteArray) from rfl]
    simp only [Option.bind_some]
    rw [if_neg (by decide), impl_Formula_text.j0, if_neg (by decide), if_neg (by decide), if_neg (by decide), if_neg (by decide), impl_Formula_text.j1, if_neg (by decide), if_pos (by decide), if_pos (by simp), show rd_T32 ([c] : List S32) 0 = c from rfl]
    have ec : impl_Formula_text.f (m + 7) c.f0 c.f1 c.f2 c.f3 c.f4 v = some tc := kc (m + 7) (by omega)
    rw [ec]
    simp only [Option.bind_some]
    rw [if_pos (by first | omega | (simp only [ByteArray.size_append, z0, z1, z2, z3, z4, z5, z6]; omega))]

theorem tx9 (v : List ByteArray) (p q w : Int) (c : S32) (tc : ByteArray) (sc : tc.size ≤ 1000000000) (hc : Ev (fun k => spec_l11Text.f k v c.f0 c.f1 c.f2 c.f3 c.f4) tc) (gc : Ev (fun k => impl_Formula_text.f k c.f0 c.f1 c.f2 c.f3 c.f4 v) tc) (d : S32) (td : ByteArray) (sd : td.size ≤ 1000000000) (hd : Ev (fun k => spec_l11Text.f k v d.f0 d.f1 d.f2 d.f3 d.f4) td) (gd : Ev (fun k => impl_Formula_text.f k d.f0 d.f1 d.f2 d.f3 d.f4 v) td) : ∃ r : ByteArray, r.size ≤ 20 + tc.size + td.size ∧ Ev (fun k => spec_l11Text.f k v 9 p q w ([c, d] : List S32)) r ∧ Ev (fun k => impl_Formula_text.f k 9 p q w ([c, d] : List S32) v) r := by
  have z0 : (⟨#[124]⟩ : ByteArray).size = 1 := rfl
  have z1 : (⟨#[33]⟩ : ByteArray).size = 1 := rfl
  have z2 : (⟨#[38]⟩ : ByteArray).size = 1 := rfl
  have z3 : (⟨#[40]⟩ : ByteArray).size = 1 := rfl
  have z4 : (⟨#[41]⟩ : ByteArray).size = 1 := rfl
  have z5 : (⟨#[46]⟩ : ByteArray).size = 1 := rfl
  have z6 : (⟨#[58]⟩ : ByteArray).size = 1 := rfl
  obtain ⟨Lc, kc⟩ := gc
  obtain ⟨Ld, kd⟩ := gd
  refine ⟨((((⟨#[40]⟩ : ByteArray) ++ tc) ++ (⟨#[38]⟩ : ByteArray)) ++ td) ++ (⟨#[41]⟩ : ByteArray), (by first | omega | (simp only [ByteArray.size_append, z0, z1, z2, z3, z4, z5, z6]; omega)), kids v 9 p q w ([c, d] : List S32) ([tc, td] : List ByteArray) rfl (by simp) ?_ _ ⟨0, fun k _ => ?_⟩, ⟨Lc + Ld + 10, fun k hk => ?_⟩⟩
  · intro i hi
    have h2 : i = 0 ∨ i = 1 := by simp at hi; omega
    rcases h2 with rfl | rfl
    · exact hc
    · exact hd
  · rw [spec_l11Text.l0, if_neg (by simp), if_neg (by decide), if_neg (by decide), if_neg (by decide), if_neg (by decide), if_neg (by decide), if_neg (by decide), if_neg (by decide), if_neg (by decide), if_pos (by decide), if_pos (by simp), show rdOf ByteArray.empty ([tc, td] : List ByteArray) 0 = tc from rfl, if_pos (by first | omega | (simp only [ByteArray.size_append, z0, z1, z2, z3, z4, z5, z6]; omega)), if_pos (by first | omega | (simp only [ByteArray.size_append, z0, z1, z2, z3, z4, z5, z6]; omega)), if_pos (by simp), show rdOf ByteArray.empty ([tc, td] : List ByteArray) 1 = td from rfl, if_pos (by first | omega | (simp only [ByteArray.size_append, z0, z1, z2, z3, z4, z5, z6]; omega)), if_pos (by first | omega | (simp only [ByteArray.size_append, z0, z1, z2, z3, z4, z5, z6]; omega))]
  · obtain ⟨m, rfl⟩ : ∃ m, k = m + 10 := ⟨k - 10, by omega⟩
    show impl_Formula_text.f (m + 9 + 1) _ _ _ _ _ _ = _
    rw [impl_Formula_text.f, show headOf.f 9 = some (⟨#[]⟩ : ByteArray) from rfl]
    simp only [Option.bind_some]
    rw [if_neg (by decide), impl_Formula_text.j0, if_neg (by decide), if_neg (by decide), if_neg (by decide), if_neg (by decide), impl_Formula_text.j1, if_neg (by decide), if_neg (by decide), if_pos (by decide), if_pos (by simp), show rd_T32 ([c, d] : List S32) 0 = c from rfl]
    have ec : impl_Formula_text.f (m + 7) c.f0 c.f1 c.f2 c.f3 c.f4 v = some tc := kc (m + 7) (by omega)
    rw [ec]
    simp only [Option.bind_some]
    rw [if_pos (by first | omega | (simp only [ByteArray.size_append, z0, z1, z2, z3, z4, z5, z6]; omega)), if_pos (by first | omega | (simp only [ByteArray.size_append, z0, z1, z2, z3, z4, z5, z6]; omega)), if_pos (by simp), show rd_T32 ([c, d] : List S32) 1 = d from rfl]
    have ed : impl_Formula_text.f (m + 7) d.f0 d.f1 d.f2 d.f3 d.f4 v = some td := kd (m + 7) (by omega)
    rw [ed]
    simp only [Option.bind_some]
    rw [if_pos (by first | omega | (simp only [ByteArray.size_append, z0, z1, z2, z3, z4, z5, z6]; omega)), if_pos (by first | omega | (simp only [ByteArray.size_append, z0, z1, z2, z3, z4, z5, z6]; omega))]

theorem tx10 (v : List ByteArray) (p q w : Int) (c : S32) (tc : ByteArray) (sc : tc.size ≤ 1000000000) (hc : Ev (fun k => spec_l11Text.f k v c.f0 c.f1 c.f2 c.f3 c.f4) tc) (gc : Ev (fun k => impl_Formula_text.f k c.f0 c.f1 c.f2 c.f3 c.f4 v) tc) (d : S32) (td : ByteArray) (sd : td.size ≤ 1000000000) (hd : Ev (fun k => spec_l11Text.f k v d.f0 d.f1 d.f2 d.f3 d.f4) td) (gd : Ev (fun k => impl_Formula_text.f k d.f0 d.f1 d.f2 d.f3 d.f4 v) td) : ∃ r : ByteArray, r.size ≤ 20 + tc.size + td.size ∧ Ev (fun k => spec_l11Text.f k v 10 p q w ([c, d] : List S32)) r ∧ Ev (fun k => impl_Formula_text.f k 10 p q w ([c, d] : List S32) v) r := by
  have z0 : (⟨#[124]⟩ : ByteArray).size = 1 := rfl
  have z1 : (⟨#[33]⟩ : ByteArray).size = 1 := rfl
  have z2 : (⟨#[38]⟩ : ByteArray).size = 1 := rfl
  have z3 : (⟨#[40]⟩ : ByteArray).size = 1 := rfl
  have z4 : (⟨#[41]⟩ : ByteArray).size = 1 := rfl
  have z5 : (⟨#[46]⟩ : ByteArray).size = 1 := rfl
  have z6 : (⟨#[58]⟩ : ByteArray).size = 1 := rfl
  obtain ⟨Lc, kc⟩ := gc
  obtain ⟨Ld, kd⟩ := gd
  refine ⟨((((⟨#[40]⟩ : ByteArray) ++ tc) ++ (⟨#[124]⟩ : ByteArray)) ++ td) ++ (⟨#[41]⟩ : ByteArray), (by first | omega | (simp only [ByteArray.size_append, z0, z1, z2, z3, z4, z5, z6]; omega)), kids v 10 p q w ([c, d] : List S32) ([tc, td] : List ByteArray) rfl (by simp) ?_ _ ⟨0, fun k _ => ?_⟩, ⟨Lc + Ld + 10, fun k hk => ?_⟩⟩
  · intro i hi
    have h2 : i = 0 ∨ i = 1 := by simp at hi; omega
    rcases h2 with rfl | rfl
    · exact hc
    · exact hd
  · rw [spec_l11Text.l0, if_neg (by simp), if_neg (by decide), if_neg (by decide), if_neg (by decide), if_neg (by decide), if_neg (by decide), if_neg (by decide), if_neg (by decide), if_neg (by decide), if_neg (by decide), if_pos (by decide), if_pos (by simp), show rdOf ByteArray.empty ([tc, td] : List ByteArray) 0 = tc from rfl, if_pos (by first | omega | (simp only [ByteArray.size_append, z0, z1, z2, z3, z4, z5, z6]; omega)), if_pos (by first | omega | (simp only [ByteArray.size_append, z0, z1, z2, z3, z4, z5, z6]; omega)), if_pos (by simp), show rdOf ByteArray.empty ([tc, td] : List ByteArray) 1 = td from rfl, if_pos (by first | omega | (simp only [ByteArray.size_append, z0, z1, z2, z3, z4, z5, z6]; omega)), if_pos (by first | omega | (simp only [ByteArray.size_append, z0, z1, z2, z3, z4, z5, z6]; omega))]
  · obtain ⟨m, rfl⟩ : ∃ m, k = m + 10 := ⟨k - 10, by omega⟩
    show impl_Formula_text.f (m + 9 + 1) _ _ _ _ _ _ = _
    rw [impl_Formula_text.f, show headOf.f 10 = some (⟨#[]⟩ : ByteArray) from rfl]
    simp only [Option.bind_some]
    rw [if_neg (by decide), impl_Formula_text.j0, if_neg (by decide), if_neg (by decide), if_neg (by decide), if_neg (by decide), impl_Formula_text.j1, if_neg (by decide), if_neg (by decide), if_neg (by decide), if_pos (by decide), if_pos (by simp), show rd_T32 ([c, d] : List S32) 0 = c from rfl]
    have ec : impl_Formula_text.f (m + 7) c.f0 c.f1 c.f2 c.f3 c.f4 v = some tc := kc (m + 7) (by omega)
    rw [ec]
    simp only [Option.bind_some]
    rw [if_pos (by first | omega | (simp only [ByteArray.size_append, z0, z1, z2, z3, z4, z5, z6]; omega)), if_pos (by first | omega | (simp only [ByteArray.size_append, z0, z1, z2, z3, z4, z5, z6]; omega)), if_pos (by simp), show rd_T32 ([c, d] : List S32) 1 = d from rfl]
    have ed : impl_Formula_text.f (m + 7) d.f0 d.f1 d.f2 d.f3 d.f4 v = some td := kd (m + 7) (by omega)
    rw [ed]
    simp only [Option.bind_some]
    rw [if_pos (by first | omega | (simp only [ByteArray.size_append, z0, z1, z2, z3, z4, z5, z6]; omega)), if_pos (by first | omega | (simp only [ByteArray.size_append, z0, z1, z2, z3, z4, z5, z6]; omega))]

theorem tx11 (v : List ByteArray) (p q w : Int) (c : S32) (tc : ByteArray) (sc : tc.size ≤ 1000000000) (hc : Ev (fun k => spec_l11Text.f k v c.f0 c.f1 c.f2 c.f3 c.f4) tc) (gc : Ev (fun k => impl_Formula_text.f k c.f0 c.f1 c.f2 c.f3 c.f4 v) tc) (q0 : 0 ≤ q) (q1 : q < 4) : ∃ r : ByteArray, r.size ≤ 20 + tc.size ∧ Ev (fun k => spec_l11Text.f k v 11 p q w ([c] : List S32)) r ∧ Ev (fun k => impl_Formula_text.f k 11 p q w ([c] : List S32) v) r := by
  have z0 : (⟨#[115, 111, 109, 101, 32]⟩ : ByteArray).size = 5 := rfl
  have z1 : (⟨#[124]⟩ : ByteArray).size = 1 := rfl
  have z2 : (⟨#[33]⟩ : ByteArray).size = 1 := rfl
  have z3 : (⟨#[38]⟩ : ByteArray).size = 1 := rfl
  have z4 : (⟨#[40]⟩ : ByteArray).size = 1 := rfl
  have z5 : (⟨#[41]⟩ : ByteArray).size = 1 := rfl
  have z6 : (⟨#[46]⟩ : ByteArray).size = 1 := rfl
  have z7 : (⟨#[58]⟩ : ByteArray).size = 1 := rfl
  obtain ⟨q2, q3, q4⟩ := lg_cases q q0 q1
  obtain ⟨Lc, kc⟩ := gc
  refine ⟨(((⟨#[115, 111, 109, 101, 32]⟩ : ByteArray) ++ lgB q) ++ (⟨#[46]⟩ : ByteArray)) ++ tc, (by first | omega | (simp only [ByteArray.size_append, z0, z1, z2, z3, z4, z5, z6, z7, q4]; omega)), kids v 11 p q w ([c] : List S32) ([tc] : List ByteArray) rfl (by simp) ?_ _ ⟨0, fun k _ => ?_⟩, ⟨Lc + 10, fun k hk => ?_⟩⟩
  · intro i hi
    obtain rfl : i = 0 := by simp at hi; omega
    exact hc
  · rw [spec_l11Text.l0, if_neg (by simp), if_neg (by decide), if_neg (by decide), if_neg (by decide), if_neg (by decide), if_neg (by decide), if_neg (by decide), if_neg (by decide), if_neg (by decide), if_neg (by decide), if_neg (by decide), if_pos (by decide), q2]
    simp only [Option.bind_some]
    rw [if_pos (by first | omega | (simp only [ByteArray.size_append, z0, z1, z2, z3, z4, z5, z6, z7, q4]; omega)), if_pos (by first | omega | (simp only [ByteArray.size_append, z0, z1, z2, z3, z4, z5, z6, z7, q4]; omega)), if_pos (by simp), show rdOf ByteArray.empty ([tc] : List ByteArray) 0 = tc from rfl, if_pos (by first | omega | (simp only [ByteArray.size_append, z0, z1, z2, z3, z4, z5, z6, z7, q4]; omega))]
  · obtain ⟨m, rfl⟩ : ∃ m, k = m + 10 := ⟨k - 10, by omega⟩
    show impl_Formula_text.f (m + 9 + 1) _ _ _ _ _ _ = _
    rw [impl_Formula_text.f, show headOf.f 11 = some (⟨#[115, 111, 109, 101, 32]⟩ : ByteArray) from rfl]
    simp only [Option.bind_some]
    rw [if_neg (by decide), impl_Formula_text.j0, if_neg (by decide), if_neg (by decide), if_neg (by decide), if_neg (by decide), impl_Formula_text.j1, if_neg (by decide), if_neg (by decide), if_neg (by decide), if_neg (by decide), if_pos (by decide), impl_Formula_text.j2, if_pos (by decide), q3]
    simp only [Option.bind_some]
    rw [if_pos (by first | omega | (simp only [ByteArray.size_append, z0, z1, z2, z3, z4, z5, z6, z7, q4]; omega)), if_pos (by first | omega | (simp only [ByteArray.size_append, z0, z1, z2, z3, z4, z5, z6, z7, q4]; omega)), if_pos (by simp), show rd_T32 ([c] : List S32) 0 = c from rfl]
    have ec : impl_Formula_text.f (m + 6) c.f0 c.f1 c.f2 c.f3 c.f4 v = some tc := kc (m + 6) (by omega)
    rw [ec]
    simp only [Option.bind_some]
    rw [if_pos (by first | omega | (simp only [ByteArray.size_append, z0, z1, z2, z3, z4, z5, z6, z7, q4]; omega))]

theorem tx12 (v : List ByteArray) (p q w : Int) (c : S32) (tc : ByteArray) (sc : tc.size ≤ 1000000000) (hc : Ev (fun k => spec_l11Text.f k v c.f0 c.f1 c.f2 c.f3 c.f4) tc) (gc : Ev (fun k => impl_Formula_text.f k c.f0 c.f1 c.f2 c.f3 c.f4 v) tc) (q0 : 0 ≤ q) (q1 : q < 4) : ∃ r : ByteArray, r.size ≤ 20 + tc.size ∧ Ev (fun k => spec_l11Text.f k v 12 p q w ([c] : List S32)) r ∧ Ev (fun k => impl_Formula_text.f k 12 p q w ([c] : List S32) v) r := by
  have z0 : (⟨#[124]⟩ : ByteArray).size = 1 := rfl
  have z1 : (⟨#[33]⟩ : ByteArray).size = 1 := rfl
  have z2 : (⟨#[38]⟩ : ByteArray).size = 1 := rfl
  have z3 : (⟨#[40]⟩ : ByteArray).size = 1 := rfl
  have z4 : (⟨#[41]⟩ : ByteArray).size = 1 := rfl
  have z5 : (⟨#[46]⟩ : ByteArray).size = 1 := rfl
  have z6 : (⟨#[58]⟩ : ByteArray).size = 1 := rfl
  have z7 : (⟨#[97, 108, 108, 32]⟩ : ByteArray).size = 4 := rfl
  obtain ⟨q2, q3, q4⟩ := lg_cases q q0 q1
  obtain ⟨Lc, kc⟩ := gc
  refine ⟨(((⟨#[97, 108, 108, 32]⟩ : ByteArray) ++ lgB q) ++ (⟨#[46]⟩ : ByteArray)) ++ tc, (by first | omega | (simp only [ByteArray.size_append, z0, z1, z2, z3, z4, z5, z6, z7, q4]; omega)), kids v 12 p q w ([c] : List S32) ([tc] : List ByteArray) rfl (by simp) ?_ _ ⟨0, fun k _ => ?_⟩, ⟨Lc + 10, fun k hk => ?_⟩⟩
  · intro i hi
    obtain rfl : i = 0 := by simp at hi; omega
    exact hc
  · rw [spec_l11Text.l0, if_neg (by simp), if_neg (by decide), if_neg (by decide), if_neg (by decide), if_neg (by decide), if_neg (by decide), if_neg (by decide), if_neg (by decide), if_neg (by decide), if_neg (by decide), if_neg (by decide), if_neg (by decide), q2]
    simp only [Option.bind_some]
    rw [if_pos (by first | omega | (simp only [ByteArray.size_append, z0, z1, z2, z3, z4, z5, z6, z7, q4]; omega)), if_pos (by first | omega | (simp only [ByteArray.size_append, z0, z1, z2, z3, z4, z5, z6, z7, q4]; omega)), if_pos (by simp), show rdOf ByteArray.empty ([tc] : List ByteArray) 0 = tc from rfl, if_pos (by first | omega | (simp only [ByteArray.size_append, z0, z1, z2, z3, z4, z5, z6, z7, q4]; omega))]
  · obtain ⟨m, rfl⟩ : ∃ m, k = m + 10 := ⟨k - 10, by omega⟩
    show impl_Formula_text.f (m + 9 + 1) _ _ _ _ _ _ = _
    rw [impl_Formula_text.f, show headOf.f 12 = some (⟨#[97, 108, 108, 32]⟩ : ByteArray) from rfl]
    simp only [Option.bind_some]
    rw [if_neg (by decide), impl_Formula_text.j0, if_neg (by decide), if_neg (by decide), if_neg (by decide), if_neg (by decide), impl_Formula_text.j1, if_neg (by decide), if_neg (by decide), if_neg (by decide), if_neg (by decide), if_neg (by decide), impl_Formula_text.j2, if_pos (by decide), q3]
    simp only [Option.bind_some]
    rw [if_pos (by first | omega | (simp only [ByteArray.size_append, z0, z1, z2, z3, z4, z5, z6, z7, q4]; omega)), if_pos (by first | omega | (simp only [ByteArray.size_append, z0, z1, z2, z3, z4, z5, z6, z7, q4]; omega)), if_pos (by simp), show rd_T32 ([c] : List S32) 0 = c from rfl]
    have ec : impl_Formula_text.f (m + 6) c.f0 c.f1 c.f2 c.f3 c.f4 v = some tc := kc (m + 6) (by omega)
    rw [ec]
    simp only [Option.bind_some]
    rw [if_pos (by first | omega | (simp only [ByteArray.size_append, z0, z1, z2, z3, z4, z5, z6, z7, q4]; omega))]

theorem two_of : ∀ l : List S32, l.length = 2 → ∃ c d, l = [c, d]
  | [c, d], _ => ⟨c, d, rfl⟩
theorem field_t {x n : Int} {b : Bool} (hb : b = true) (h : fieldB x b n = true) : 0 ≤ x ∧ x < n := by
  unfold fieldB at h
  rw [if_pos hb] at h
  simpa using h
theorem name_size (v : List ByteArray) (hs : ∀ s ∈ v, s.size ≤ 2) (p : Int) (p0 : 0 ≤ p) (p1 : p < (v.length : Int)) : (rdOf ByteArray.empty v p).size ≤ 2 := by
  obtain ⟨i, rfl⟩ := Int.eq_ofNat_of_zero_le p0
  have hi : i < v.length := by omega
  have e : rdOf ByteArray.empty v (i : Int) = v[i] := rdOf_at _ _ _ hi
  rw [e]
  exact hs _ (List.getElem_mem hi)
theorem ev_text (v : List ByteArray) (hs : ∀ s ∈ v, s.size ≤ 2) : ∀ (n : Nat) (y : S32), LG n y → WF (v.length : Int) n y = true → cntG n y ≤ 1048576 →
    ∃ r : ByteArray, r.size ≤ 20 * (1 + cntG n y) ∧ Ev (fun k => spec_l11Text.f k v y.f0 y.f1 y.f2 y.f3 y.f4) r ∧ Ev (fun k => impl_Formula_text.f k y.f0 y.f1 y.f2 y.f3 y.f4 v) r := by
  intro n
  induction n with
  | zero => intro y h; exact h.elim
  | succ n ih =>
    intro y hy hwf hcnt
    obtain ⟨a, p, q, w, l⟩ := y
    simp only [WF, nodeB, Bool.and_eq_true, decide_eq_true_eq] at hwf
    obtain ⟨⟨ha, hp, hq, hw⟩, hall⟩ := hwf
    have hk : ∀ z ∈ l, ∃ r : ByteArray, r.size ≤ 20 * (1 + cntG n z) ∧ Ev (fun k => spec_l11Text.f k v z.f0 z.f1 z.f2 z.f3 z.f4) r ∧ Ev (fun k => impl_Formula_text.f k z.f0 z.f1 z.f2 z.f3 z.f4 v) r := fun z hz => by
      have h1 := csum_mem (cntG n) l z hz
      simp only [cntG] at hcnt
      exact ih z (hy.2 z hz) (List.all_eq_true.mp hall z hz) (by omega)
    have hcases : a = 1 ∨ a = 2 ∨ a = 3 ∨ a = 4 ∨ a = 5 ∨ a = 6 ∨ a = 7 ∨ a = 8 ∨ a = 9 ∨ a = 10 ∨ a = 11 ∨ a = 12 := by
      by_cases c : 1 ≤ a ∧ a ≤ 12
      · omega
      · have : arN a = -1 := by
          unfold arN
          rw [if_neg (by omega), if_neg (by omega), if_neg (by omega)]
        omega
    rcases hcases with rfl | rfl | rfl | rfl | rfl | rfl | rfl | rfl | rfl | rfl | rfl | rfl
    · have har : arN 1 = 0 := rfl
      rw [har] at ha
      obtain rfl : l = [] := List.eq_nil_of_length_eq_zero (by omega)
      simp only [cntG, csum, List.length_cons, List.length_nil] at hcnt ⊢
      obtain ⟨r, x1, x2, x3⟩ := tx1 v p q w
      exact ⟨r, by omega, x2, x3⟩
    · have har : arN 2 = 0 := rfl
      rw [har] at ha
      obtain rfl : l = [] := List.eq_nil_of_length_eq_zero (by omega)
      simp only [cntG, csum, List.length_cons, List.length_nil] at hcnt ⊢
      obtain ⟨p0, p1⟩ := field_t (b := ukB 2) rfl hp
      obtain ⟨q0, q1⟩ := field_t (b := uuB 2) rfl hq
      obtain ⟨r, x1, x2, x3⟩ := tx2 v p q w p0 p1 (name_size v hs p p0 p1) q0 q1
      exact ⟨r, by omega, x2, x3⟩
    · have har : arN 3 = 0 := rfl
      rw [har] at ha
      obtain rfl : l = [] := List.eq_nil_of_length_eq_zero (by omega)
      simp only [cntG, csum, List.length_cons, List.length_nil] at hcnt ⊢
      obtain ⟨p0, p1⟩ := field_t (b := ukB 3) rfl hp
      obtain ⟨q0, q1⟩ := field_t (b := uuB 3) rfl hq
      obtain ⟨r, x1, x2, x3⟩ := tx3 v p q w p0 p1 (name_size v hs p p0 p1) q0 q1
      exact ⟨r, by omega, x2, x3⟩
    · have har : arN 4 = 0 := rfl
      rw [har] at ha
      obtain rfl : l = [] := List.eq_nil_of_length_eq_zero (by omega)
      simp only [cntG, csum, List.length_cons, List.length_nil] at hcnt ⊢
      obtain ⟨q0, q1⟩ := field_t (b := uuB 4) rfl hq
      obtain ⟨r, x1, x2, x3⟩ := tx4 v p q w q0 q1
      exact ⟨r, by omega, x2, x3⟩
    · have har : arN 5 = 0 := rfl
      rw [har] at ha
      obtain rfl : l = [] := List.eq_nil_of_length_eq_zero (by omega)
      simp only [cntG, csum, List.length_cons, List.length_nil] at hcnt ⊢
      obtain ⟨q0, q1⟩ := field_t (b := uuB 5) rfl hq
      obtain ⟨w0, w1⟩ := field_t (b := uvB 5) rfl hw
      obtain ⟨r, x1, x2, x3⟩ := tx5 v p q w q0 q1 w0 w1
      exact ⟨r, by omega, x2, x3⟩
    · have har : arN 6 = 0 := rfl
      rw [har] at ha
      obtain rfl : l = [] := List.eq_nil_of_length_eq_zero (by omega)
      simp only [cntG, csum, List.length_cons, List.length_nil] at hcnt ⊢
      obtain ⟨q0, q1⟩ := field_t (b := uuB 6) rfl hq
      obtain ⟨w0, w1⟩ := field_t (b := uvB 6) rfl hw
      obtain ⟨r, x1, x2, x3⟩ := tx6 v p q w q0 q1 w0 w1
      exact ⟨r, by omega, x2, x3⟩
    · have har : arN 7 = 0 := rfl
      rw [har] at ha
      obtain rfl : l = [] := List.eq_nil_of_length_eq_zero (by omega)
      simp only [cntG, csum, List.length_cons, List.length_nil] at hcnt ⊢
      obtain ⟨q0, q1⟩ := field_t (b := uuB 7) rfl hq
      obtain ⟨w0, w1⟩ := field_t (b := uvB 7) rfl hw
      obtain ⟨r, x1, x2, x3⟩ := tx7 v p q w q0 q1 w0 w1
      exact ⟨r, by omega, x2, x3⟩
    · have har : arN 8 = 1 := rfl
      rw [har] at ha
      obtain ⟨c, rfl⟩ : ∃ c, l = [c] := List.length_eq_one_iff.mp (by omega)
      obtain ⟨tc, sc, hc, gc⟩ := hk c (by simp)
      simp only [cntG, csum, List.length_cons, List.length_nil] at hcnt ⊢
      obtain ⟨r, x1, x2, x3⟩ := tx8 v p q w c tc (by omega) hc gc
      exact ⟨r, by omega, x2, x3⟩
    · have har : arN 9 = 2 := rfl
      rw [har] at ha
      obtain ⟨c, d, rfl⟩ : ∃ c d, l = [c, d] := two_of l (by omega)
      obtain ⟨tc, sc, hc, gc⟩ := hk c (by simp)
      obtain ⟨td, sd, hd, gd⟩ := hk d (by simp)
      simp only [cntG, csum, List.length_cons, List.length_nil] at hcnt ⊢
      obtain ⟨r, x1, x2, x3⟩ := tx9 v p q w c tc (by omega) hc gc d td (by omega) hd gd
      exact ⟨r, by omega, x2, x3⟩
    · have har : arN 10 = 2 := rfl
      rw [har] at ha
      obtain ⟨c, d, rfl⟩ : ∃ c d, l = [c, d] := two_of l (by omega)
      obtain ⟨tc, sc, hc, gc⟩ := hk c (by simp)
      obtain ⟨td, sd, hd, gd⟩ := hk d (by simp)
      simp only [cntG, csum, List.length_cons, List.length_nil] at hcnt ⊢
      obtain ⟨r, x1, x2, x3⟩ := tx10 v p q w c tc (by omega) hc gc d td (by omega) hd gd
      exact ⟨r, by omega, x2, x3⟩
    · have har : arN 11 = 1 := rfl
      rw [har] at ha
      obtain ⟨c, rfl⟩ : ∃ c, l = [c] := List.length_eq_one_iff.mp (by omega)
      obtain ⟨tc, sc, hc, gc⟩ := hk c (by simp)
      simp only [cntG, csum, List.length_cons, List.length_nil] at hcnt ⊢
      obtain ⟨q0, q1⟩ := field_t (b := uuB 11) rfl hq
      obtain ⟨r, x1, x2, x3⟩ := tx11 v p q w c tc (by omega) hc gc q0 q1
      exact ⟨r, by omega, x2, x3⟩
    · have har : arN 12 = 1 := rfl
      rw [har] at ha
      obtain ⟨c, rfl⟩ : ∃ c, l = [c] := List.length_eq_one_iff.mp (by omega)
      obtain ⟨tc, sc, hc, gc⟩ := hk c (by simp)
      simp only [cntG, csum, List.length_cons, List.length_nil] at hcnt ⊢
      obtain ⟨q0, q1⟩ := field_t (b := uuB 12) rfl hq
      obtain ⟨r, x1, x2, x3⟩ := tx12 v p q w c tc (by omega) hc gc q0 q1
      exact ⟨r, by omega, x2, x3⟩

theorem vars_ok (l : List ByteArray) (h : varsB l = true) : l.length ≤ 4 ∧ ∀ s ∈ l, s.size ≤ 2 := by
  unfold varsB at h
  simp only [Bool.and_eq_true, decide_eq_true_eq] at h
  refine ⟨by omega, fun s hs => ?_⟩
  obtain ⟨i, hi, rfl⟩ := List.getElem_of_mem hs
  have h1 := (h.1 i hi).1
  rw [get_rep _ _ _ hi] at h1
  unfold nameB at h1
  simp only [Bool.and_eq_true, decide_eq_true_eq] at h1
  omega

theorem ev_both (v : List ByteArray) (hl : v.length ≤ 1048576) (hs : ∀ s ∈ v, s.size ≤ 1048576) (n : Nat) (y : S32) (hy : LG n y) (hc : cntG n y ≤ 1048576) :
    ∃ r : ByteArray, Ev (fun k => spec_FormulaText.f k v y.f0 y.f1 y.f2 y.f3 y.f4) r ∧ Ev (fun k => impl_FormulaText.f k v y.f0 y.f1 y.f2 y.f3 y.f4) r := by
  have a1 := ev_specAreVars v (by omega) (fun s h => by have := hs s h; omega)
  have a2 := ev_implAreVars v (by omega) (fun s h => by have := hs s h; omega)
  cases hv : varsB v with
  | false =>
    rw [hv] at a1 a2
    obtain ⟨K, hK⟩ := Evt.and a1 a2
    refine ⟨⟨#[]⟩, ⟨K, fun k hk => ?_⟩, ⟨K, fun k hk => ?_⟩⟩
    · have e := (hK k hk).1
      dsimp only at e ⊢
      unfold spec_FormulaText.f
      rw [e]
      rfl
    · have e := (hK k hk).2
      dsimp only at e ⊢
      unfold impl_FormulaText.f
      rw [e]
      rfl
  | true =>
    rw [hv] at a1 a2
    obtain ⟨v4, v2⟩ := vars_ok v hv
    obtain ⟨b, f1, f2, hb⟩ := ev_isFormula (v.length : Int) (by omega) (by omega) n y hy hc
    cases b with
    | false =>
      obtain ⟨K, hK⟩ := Evt.and (Evt.and a1 f1) (Evt.and a2 f2)
      refine ⟨⟨#[]⟩, ⟨K, fun k hk => ?_⟩, ⟨K, fun k hk => ?_⟩⟩
      · obtain ⟨e, e'⟩ := (hK k hk).1
        dsimp only at e e' ⊢
        unfold spec_FormulaText.f
        rw [e]
        simp only [Option.bind_some, if_true]
        rw [e']
        rfl
      · obtain ⟨e, e'⟩ := (hK k hk).2
        dsimp only at e e' ⊢
        unfold impl_FormulaText.f
        rw [e]
        simp only [Option.bind_some, if_true]
        rw [e']
        rfl
    | true =>
      obtain ⟨r, _, t1, t2⟩ := ev_text v v2 n y hy (hb rfl) hc
      obtain ⟨K, hK⟩ := Evt.and (Evt.and a1 (Evt.and f1 t1)) (Evt.and a2 (Evt.and f2 t2))
      refine ⟨r, ⟨K, fun k hk => ?_⟩, ⟨K, fun k hk => ?_⟩⟩
      · obtain ⟨e, e', e2⟩ := (hK k hk).1
        dsimp only at e e' e2 ⊢
        unfold spec_FormulaText.f
        rw [e]
        simp only [Option.bind_some, if_true]
        rw [e']
        simp only [Option.bind_some, if_true]
        rw [e2]
        rfl
      · obtain ⟨e, e', e2⟩ := (hK k hk).2
        dsimp only at e e' e2 ⊢
        unfold impl_FormulaText.f
        rw [e]
        simp only [Option.bind_some, if_true]
        rw [e']
        simp only [Option.bind_some, if_true]
        rw [e2]
        rfl

theorem wS_len (l : List ByteArray) : (l.length : Int) ≤ wS l := by
  have := sums_nonneg l
  unfold wS
  omega
theorem wS_mem : ∀ (l : List ByteArray) (s : ByteArray), s ∈ l → (s.size : Int) ≤ wS l
  | a :: l, s, h => by
    have h1 := sums_nonneg l
    rcases List.mem_cons.mp h with rfl | h
    · unfold wS; simp only [List.map_cons, List.foldr_cons, List.length_cons]; omega
    · have := wS_mem l s h
      unfold wS at this ⊢; simp only [List.map_cons, List.foldr_cons, List.length_cons]; omega

theorem FnExactFormulaText : laws_FnExactFormulaText.Pure := by
  intro v a0 a1 a2 a3 l hv hB
  obtain ⟨n, hn⟩ := hB
  have hm : maxLen = 9223372036854775807 := rfl
  have e0 := ev_szStringS v 1048576 (by omega) (by omega) (by omega) (fun s h => by have := hv.2 s h; omega)
  by_cases cw : wS v ≤ 1048576
  · rw [if_pos cw] at e0
    have hvl : v.length ≤ 1048576 := by have := wS_len v; omega
    have hvs : ∀ s ∈ v, s.size ≤ 1048576 := fun s h => by have := wS_mem v s h; omega
    have hw0 : 0 ≤ wS v := by have := wS_len v; omega
    obtain ⟨r, e1, hr⟩ := ev_szCnt n ⟨a0, a1, a2, a3, l⟩ hn (1048576 - wS v) (by omega) (by omega)
    rcases hr with hr | ⟨hr0, hrc, hL⟩
    · obtain ⟨k, h0, h1⟩ := (Evt.and e0 e1).ex
      dsimp only at h0 h1
      refine ⟨k, ?_⟩
      unfold laws_FnExactFormulaText.f
      rw [h0]
      simp only [Option.bind_some]
      rw [if_neg (by omega), h1]
      simp only [Option.bind_some]
      rw [if_pos hr]
    obtain ⟨y, hy, hc, e2⟩ := ev_toCnt n ⟨a0, a1, a2, a3, l⟩ hL
    have hcy : cntG n y ≤ 1048576 := by omega
    obtain ⟨t, e3, e4⟩ := ev_both v hvl hvs n y hy hcy
    have e5 := ev_eqFormula n y hy
    obtain ⟨k, h0, h1, h2, h3, h4, h5, h6, h7⟩ := (Evt.and e0 (Evt.and e1 (Evt.and e2 (Evt.and e3 (Evt.and e4 (Evt.and e5 (Evt.and (ev_toStringS v (by omega)) (ev_eqStringS v (by omega))))))))).ex
    dsimp only at h0 h1 h2 h3 h4 h5 h6 h7
    refine ⟨k, ?_⟩
    unfold laws_FnExactFormulaText.f
    rw [h0]
    simp only [Option.bind_some]
    rw [if_neg (by omega), h1]
    simp only [Option.bind_some]
    rw [if_neg (by omega), h6]
    simp only [Option.bind_some]
    rw [h2]
    simp only [Option.bind_some]
    rw [h3]
    simp only [Option.bind_some]
    rw [h4]
    simp only [Option.bind_some]
    rw [if_pos trivial, h7]
    simp only [Option.bind_some]
    rw [if_pos trivial, h5]
    rfl
  · rw [if_neg cw] at e0
    obtain ⟨k, h0⟩ := Evt.ex e0
    dsimp only at h0
    refine ⟨k, ?_⟩
    unfold laws_FnExactFormulaText.f
    rw [h0]
    simp only [Option.bind_some]
    rw [if_pos (by decide)]

end Go.Proofs.Ytoljagpjejpmpaa.Pure.LFnExactFormulaText
namespace Go.Proofs.Ytoljagpjejpmpaa.Pure
open Go.Proofs.Ytoljagpjejpmpaa.PFnExactFormulaText
theorem FnExactFormulaText : laws_FnExactFormulaText.Pure := LFnExactFormulaText.FnExactFormulaText
end Go.Proofs.Ytoljagpjejpmpaa.Pure
