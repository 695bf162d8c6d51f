/-
  The pure statement of laws.FnExactIsProgram: what the printed functions compute makes the law answer true, for every argument of its kinds (no further condition).
-/
import Derived.Test.YtfmepkfigdobaaaPFnExactIsProgramx6
import Derived.Test.YtfmepkfigdobaaaXPure
namespace Go.Proofs.Ytfmepkfigdobaaa.Pure.LFnExactIsProgram
open Go.RowKit Go.Proofs.Ytfmepkfigdobaaa.PFnExactIsProgram Go.Proofs.YtfmepkfigdobaaaW.PrintWords Go.Proofs.YtfmepkfigdobaaaW.PrintLast Go.Proofs.YtfmepkfigdobaaaX
set_option linter.unusedVariables false
set_option linter.unusedSimpArgs false

theorem in_eq (a b c : Int) : spec_l1In.f a b c = some (decide (b ≤ a) && decide (a ≤ c)) := by
  unfold spec_l1In.f
  by_cases h : b ≤ a <;> simp [h]


theorem wi_eq (a b c : Int) : impl_within.f a b c = some (decide (b ≤ a) && decide (a ≤ c)) := by
  unfold impl_within.f
  by_cases h : b ≤ a <;> simp [h]


def wS (l : List ByteArray) : Int := l.length + ((l.map fun s => (s.size : Int)).foldr (· + ·) 0)

theorem sums_nonneg (l : List ByteArray) : 0 ≤ (l.map fun s => (s.size : Int)).foldr (· + ·) 0 := by
  induction l with
  | nil => simp
  | cons a l ih => simp only [List.map_cons, List.foldr_cons]; omega

theorem sums_take (l : List ByteArray) (i : Nat) (h : i < l.length) : ((l.take (i + 1)).map fun s => (s.size : Int)).foldr (· + ·) 0 = ((l.take i).map fun s => (s.size : Int)).foldr (· + ·) 0 + ((rdOf ByteArray.empty l (i : Int)).size : Int) := by
  rw [rdOf_at _ _ _ h]
  induction l generalizing i with
  | nil => simp at h
  | cons a l ih =>
    cases i with
    | zero => simp
    | succ i =>
      simp only [List.take_succ_cons, List.map_cons, List.foldr_cons, List.getElem_cons_succ]
      rw [ih i (by simpa using h)]
      omega

theorem sums_le (l : List ByteArray) (i : Nat) : ((l.take i).map fun s => (s.size : Int)).foldr (· + ·) 0 ≤ (l.map fun s => (s.size : Int)).foldr (· + ·) 0 := by
  induction l generalizing i with
  | nil => simp
  | cons a l ih =>
    cases i with
    | zero => simp only [List.take_zero, List.map_nil, List.foldr_nil]; exact sums_nonneg _
    | succ i => simp only [List.take_succ_cons, List.map_cons, List.foldr_cons]; have := ih i; omega

/-- What is left of a, or -1. -/
theorem ev_szStringS (l : List ByteArray) (a : Int) (h0 : 0 ≤ a) (h1 : a ≤ 1048576) (hl : l.length ≤ 9223372036854775807) (hs : ∀ s ∈ l, s.size ≤ 9223372036854775807) :
    Ev (fun k => laws_szStringS.f k l a) (if wS l ≤ a then a - wS l else -1) := by
  have hn := sums_nonneg l
  have hw : wrap64 (a - (l.length : Int)) = a - l.length := w64 (by omega) (by omega)
  by_cases c : a - (l.length : Int) < 0
  · have e : (if wS l ≤ a then a - wS l else -1) = -1 := if_neg (by unfold wS; omega)
    rw [e]
    exact Ev.one (fun k => by unfold laws_szStringS.f; rw [hw, if_pos c])
  · have hc := loop_is (σ := Int) l.length (fun k s i => laws_szStringS.l0 k l s i) (fun i s => s = a - l.length - ((l.take i).map fun s => (s.size : Int)).foldr (· + ·) 0 ∧ 0 ≤ s) (if wS l ≤ a then a - wS l else -1)
      (fun i s hi ⟨hs', hs0⟩ => by
        have ht := sums_take l i hi
        have hsz : (rdOf ByteArray.empty l (i : Int)).size ≤ 9223372036854775807 := by
          rw [rdOf_at _ _ _ hi]
          exact hs _ (List.getElem_mem hi)
        have hs2 : s ≤ 1048576 := by have := sums_nonneg (l.take i); omega
        have hw2 : wrap64 (s - ((rdOf ByteArray.empty l (i : Int)).size : Int)) = s - (rdOf ByteArray.empty l (i : Int)).size := w64 (by omega) (by omega)
        by_cases c2 : s - ((rdOf ByteArray.empty l (i : Int)).size : Int) < 0
        · refine Or.inr ⟨0, fun k _ => ?_⟩
          simp only [laws_szStringS.l0]
          rw [if_pos (by omega), if_pos (by omega), hw2, if_pos c2, if_neg]
          have := sums_le l (i + 1)
          unfold wS
          omega
        · refine Or.inl ⟨s - (rdOf ByteArray.empty l (i : Int)).size, ⟨by omega, by omega⟩, 0, fun k _ => ?_⟩
          simp only [laws_szStringS.l0]
          rw [if_pos (by omega), if_pos (by omega), hw2, if_neg c2, up64 (by omega)])
      (fun s ⟨hs', hs0⟩ => ⟨0, fun k _ => by
        rw [List.take_length] at hs'
        simp only [laws_szStringS.l0]
        rw [if_neg (by omega), if_pos (by unfold wS; omega)]
        congr 1
        unfold wS
        omega⟩)
      (a - l.length) ⟨by simp, by omega⟩
    refine Ev.congr (fun k => ?_) hc
    unfold laws_szStringS.f
    rw [hw, if_neg c]


theorem ev_toStringS (l : List ByteArray) (h : l.length ≤ 17592186044416) : Ev (fun k => laws_toStringS.f k l) l := by
  have hc := copy_loop l.length (by omega) (fun i => rdOf ByteArray.empty l (i : Int)) (⟨#[]⟩ : ByteArray) (fun k ys i => laws_toStringS.l0 k l ys i)
    (fun i ys hi hl => ⟨0, fun k _ => by simp only [laws_toStringS.l0]; rw [if_pos (by omega), if_pos (by omega), if_pos (by omega), Int.toNat_natCast]⟩)
    (fun ys hl => ⟨0, fun k _ => by simp only [laws_toStringS.l0]; rw [if_neg (by omega)]⟩)
  have e : ((List.range l.length).map fun i => rdOf ByteArray.empty l ((i : Nat) : Int)) = l := by
    have := map_range_id ByteArray.empty l
    simpa [rdOf] using this
  rw [e] at hc
  refine Ev.congr (fun k => ?_) hc
  unfold laws_toStringS.f
  rw [if_pos (by omega), if_pos (by rw [Int.toNat_natCast]; omega), Int.toNat_natCast]


theorem ev_eqStringS (l : List ByteArray) (h : l.length ≤ 9223372036854775807) : Ev (fun k => laws_eqStringS.f k l l) true := by
  have hc := all_true l.length h (fun k i => laws_eqStringS.l0 k l l i) true
    (fun i hi => ⟨0, fun k _ => by simp only [laws_eqStringS.l0]; rw [if_pos (by omega), if_pos (by omega), if_pos (by omega)]; simp only [if_true]⟩)
    ⟨0, fun k _ => by simp only [laws_eqStringS.l0]; rw [if_neg (by omega)]⟩
  refine Ev.congr (fun k => ?_) hc
  unfold laws_eqStringS.f
  rw [if_pos rfl]


def cEdge (x : S157) : S134 := ⟨x.f0, x.f1, (⟨x.f2.f0, x.f2.f1, x.f2.f2⟩ : S71)⟩

theorem szEdge_eq (p q r : Int) (s t : ByteArray) (a : Int) (h0 : 0 ≤ a) (h1 : a ≤ 1048576) (hs : s.size ≤ 9223372036854775807) (ht : t.size ≤ 9223372036854775807) :
    ∃ z, laws_szEdge.f p q r s t a = some z ∧ (z < 0 ∨ (0 ≤ z ∧ z ≤ a ∧ (s.size : Int) ≤ a ∧ (t.size : Int) ≤ a)) := by
  unfold laws_szEdge.f laws_szStmt.f
  rw [w64 (x := a - (s.size : Int)) (by omega) (by omega)]
  by_cases c : a - (s.size : Int) < 0
  · rw [if_pos c]
    exact ⟨-1, by simp, Or.inl (by omega)⟩
  · rw [if_neg c, w64 (by omega) (by omega)]
    by_cases c2 : a - (s.size : Int) - (t.size : Int) < 0
    · rw [if_pos c2]
      exact ⟨-1, by simp, Or.inl (by omega)⟩
    · rw [if_neg c2]
      simp only [Option.bind_some]
      rw [if_neg c2]
      exact ⟨_, rfl, Or.inr (by omega)⟩

theorem ev_szEdgeS (l : List S157) (a : Int) (h0 : 0 ≤ a) (h1 : a ≤ 1048576) (hl : l.length ≤ 9223372036854775807) (hs : ∀ x ∈ l, x.f2.f1.size ≤ 9223372036854775807 ∧ x.f2.f2.size ≤ 9223372036854775807) :
    ∃ r, Ev (fun k => laws_szEdgeS.f k l a) r ∧ (r < 0 ∨ (0 ≤ r ∧ r ≤ a ∧ (l.length : Int) ≤ a ∧ ∀ x ∈ l, x.f2.f1.size ≤ 1048576 ∧ x.f2.f2.size ≤ 1048576)) := by
  have hw : wrap64 (a - (l.length : Int)) = a - l.length := w64 (by omega) (by omega)
  by_cases c : a - (l.length : Int) < 0
  · exact ⟨-1, Ev.one (fun k => by unfold laws_szEdgeS.f; rw [hw, if_pos c]), Or.inl (by omega)⟩
  · obtain ⟨r, hr, he⟩ := loop_ev (σ := Int) l.length (fun k s i => laws_szEdgeS.l0 k l s i) (fun i s => 0 ≤ s ∧ s ≤ a - l.length ∧ ∀ j, j < i → (l.getD j z157).f2.f1.size ≤ 1048576 ∧ (l.getD j z157).f2.f2.size ≤ 1048576)
      (fun r => r < 0 ∨ (0 ≤ r ∧ r ≤ a ∧ (l.length : Int) ≤ a ∧ ∀ x ∈ l, x.f2.f1.size ≤ 1048576 ∧ x.f2.f2.size ≤ 1048576))
      (fun i s hi ⟨s0, s1, hj⟩ => by
        have hm := hs _ (getD_mem z157 l i hi)
        have e : rd_T157 l (i : Int) = l.getD i z157 := by unfold rd_T157; rw [Int.toNat_natCast]
        obtain ⟨r, h1', h2'⟩ := szEdge_eq (l.getD i z157).f0 (l.getD i z157).f1 (l.getD i z157).f2.f0 (l.getD i z157).f2.f1 (l.getD i z157).f2.f2 s s0 (by omega) hm.1 hm.2
        rcases h2' with h2' | ⟨g0, g1, g2, g3⟩
        · refine Or.inr ⟨-1, Or.inl (by omega), 0, fun k _ => ?_⟩
          simp only [laws_szEdgeS.l0]
          rw [if_pos (by omega), if_pos (by omega), e, h1']
          simp only [Option.bind_some]
          rw [if_pos h2']
        · refine Or.inl ⟨r, ⟨g0, by omega, fun j hj' => ?_⟩, 0, fun k _ => ?_⟩
          · by_cases ej : j = i
            · subst ej; omega
            · exact hj j (by omega)
          · simp only [laws_szEdgeS.l0]
            rw [if_pos (by omega), if_pos (by omega), e, h1']
            simp only [Option.bind_some]
            rw [if_neg (by omega), up64 (by omega)])
      (fun s ⟨s0, s1, hj⟩ => ⟨s, Or.inr ⟨s0, by omega, by omega, fun x hx => by
        obtain ⟨j, hj1, rfl⟩ := List.getElem_of_mem hx
        have := hj j hj1
        rwa [get_rep _ _ _ hj1] at this⟩, 0, fun k _ => by simp only [laws_szEdgeS.l0]; rw [if_neg (by omega)]⟩)
      l.length 0 (a - l.length) (by omega) (by omega) ⟨by omega, by omega, fun j hj => by omega⟩
    exact ⟨r, Ev.congr (fun k => by unfold laws_szEdgeS.f; rw [hw, if_neg c]; rfl) he, hr⟩

theorem ev_toEdgeS (l : List S157) (h : l.length ≤ 1048576) : Ev (fun k => laws_toEdgeS.f k l) (l.map cEdge) := by
  have hc := copy_loop l.length (by omega) (fun i => cEdge (l.getD i z157)) z134 (fun k ys i => laws_toEdgeS.l0 k l ys i)
    (fun i ys hi hl => by
      have e : rd_T157 l (i : Int) = l.getD i z157 := by unfold rd_T157; rw [Int.toNat_natCast]
      refine ⟨0, fun k hk => ?_⟩
      simp only [laws_toEdgeS.l0]
      rw [if_pos (by omega), if_pos (by omega), e]
      simp only [laws_toEdge.f, laws_toStmt.f, Option.bind_some]
      rw [if_pos (by omega), Int.toNat_natCast]
      rfl)
    (fun ys hl => ⟨0, fun k _ => by simp only [laws_toEdgeS.l0]; rw [if_neg (by omega)]⟩)
  rw [map_range cEdge z157 l] at hc
  refine Ev.congr (fun k => ?_) hc
  unfold laws_toEdgeS.f
  rw [if_pos (by omega), if_pos (by rw [Int.toNat_natCast]; omega), Int.toNat_natCast]

theorem ev_eqEdgeS (l : List S134) (h : l.length ≤ 1048576) : Ev (fun k => laws_eqEdgeS.f k l l) true := by
  have hc := all_true l.length (by omega) (fun k i => laws_eqEdgeS.l0 k l l i) true
    (fun i hi => by
      refine ⟨0, fun k hk => ?_⟩
      simp only [laws_eqEdgeS.l0]
      rw [if_pos (by omega), if_pos (by omega), if_pos (by omega)]
      simp only [laws_eqEdge.f, laws_eqStmt.f, Option.bind_some, if_true])
    ⟨0, fun k _ => by simp only [laws_eqEdgeS.l0]; rw [if_neg (by omega)]⟩
  refine Ev.congr (fun k => ?_) hc
  unfold laws_eqEdgeS.f
  rw [if_pos rfl]

theorem ev_szProgram (v : List ByteArray) (p : Int) (l : List S157) (a : Int) (h0 : 0 ≤ a) (h1 : a ≤ 1048576) (hv : v.length ≤ 9223372036854775807) (hvs : ∀ s ∈ v, s.size ≤ 9223372036854775807) (hl : l.length ≤ 9223372036854775807) (hs : ∀ x ∈ l, x.f2.f1.size ≤ 9223372036854775807 ∧ x.f2.f2.size ≤ 9223372036854775807) :
    ∃ r, Ev (fun k => laws_szProgram.f k v p l a) r ∧ (r < 0 ∨ (0 ≤ r ∧ r ≤ a ∧ wS v ≤ a ∧ v.length ≤ 1048576 ∧ l.length ≤ 1048576 ∧ ∀ x ∈ l, x.f2.f1.size ≤ 1048576 ∧ x.f2.f2.size ≤ 1048576)) := by
  obtain ⟨K, hK⟩ := ev_szStringS v a h0 h1 hv hvs
  have hn := sums_nonneg v
  by_cases c : wS v ≤ a
  · rw [if_pos c] at hK
    have hvl : (v.length : Int) ≤ a := by unfold wS at c; omega
    have hw0 : 0 ≤ wS v := by unfold wS; omega
    obtain ⟨r, ⟨K', hK'⟩, hr⟩ := ev_szEdgeS l (a - wS v) (by omega) (by omega) hl hs
    rcases hr with hr | ⟨r0, r1, r2, r3⟩
    · refine ⟨-1, ⟨K + K', fun k hk => ?_⟩, Or.inl (by omega)⟩
      have g1 := hK k (by omega)
      have g2 := hK' k (by omega)
      dsimp only at g1 g2 ⊢
      unfold laws_szProgram.f
      rw [g1]
      simp only [Option.bind_some]
      rw [if_neg (by omega), g2]
      simp only [Option.bind_some]
      rw [if_pos hr]
    · refine ⟨r, ⟨K + K', fun k hk => ?_⟩, Or.inr ⟨r0, by omega, c, by omega, by omega, r3⟩⟩
      have g1 := hK k (by omega)
      have g2 := hK' k (by omega)
      dsimp only at g1 g2 ⊢
      unfold laws_szProgram.f
      rw [g1]
      simp only [Option.bind_some]
      rw [if_neg (by omega), g2]
      simp only [Option.bind_some]
      rw [if_neg (by omega)]
  · rw [if_neg c] at hK
    refine ⟨-1, ⟨K, fun k hk => ?_⟩, Or.inl (by omega)⟩
    have g1 := hK k hk
    dsimp only at g1 ⊢
    unfold laws_szProgram.f
    rw [g1]
    rfl

theorem ev_toProgram (v : List ByteArray) (p : Int) (l : List S157) (hv : v.length ≤ 1048576) (hl : l.length ≤ 1048576) : Ev (fun k => laws_toProgram.f k v p l) (v, p, l.map cEdge) := by
  obtain ⟨K, hK⟩ := Evt.and (ev_toStringS v (by omega)) (ev_toEdgeS l hl)
  refine ⟨K, fun k hk => ?_⟩
  obtain ⟨h1, h2⟩ := hK k hk
  dsimp only at h1 h2
  unfold laws_toProgram.f
  simp only [h1, h2, Option.bind_some]


theorem ev_eqProgram (v : List ByteArray) (p : Int) (l : List S134) (hv : v.length ≤ 1048576) (hl : l.length ≤ 1048576) : Ev (fun k => laws_eqProgram.f k v p l v p l) true := by
  obtain ⟨K, hK⟩ := Evt.and (ev_eqStringS v (by omega)) (ev_eqEdgeS l hl)
  refine ⟨K, fun k hk => ?_⟩
  obtain ⟨h1, h2⟩ := hK k hk
  dsimp only at h1 h2
  unfold laws_eqProgram.f
  simp only [h1, h2, Option.bind_some, if_true]


theorem ev_specIsName (s : ByteArray) (h : s.size ≤ 9223372036854775807) : Ev (fun k => spec_IsName.f k s) (nameB s) := by
  have hc := all_loop s.size h (fun i => 97 ≤ bt s (i : Int) ∧ bt s (i : Int) ≤ 122) (fun k i => spec_IsName.l0 k s i) (decide ((1 : Int) ≤ (s.size : Int)) && decide ((s.size : Int) ≤ 2)) false
    (fun i hi hT => ⟨0, fun k _ => by simp only [spec_IsName.l0]; rw [if_pos (by omega), if_pos (by omega), if_neg (by omega), if_neg (by omega)]⟩)
    (fun i hi hT => ⟨0, fun k _ => by
      simp only [spec_IsName.l0]
      rw [if_pos (by omega), if_pos (by omega)]
      by_cases c : bt s (i : Int) < 97
      · rw [if_pos c]
      · rw [if_neg c, if_pos (by omega)]⟩)
    ⟨0, fun k _ => by simp only [spec_IsName.l0]; rw [if_neg (by omega), in_eq]; rfl⟩ (nameB s) (by rw [if_and_false]; rfl)
  exact Ev.congr (fun k => rfl) hc


theorem ev_implIsName (s : ByteArray) (h : s.size ≤ 9223372036854775807) : Ev (fun k => impl_IsName.f k s) (nameB s) := by
  have hc := all_loop s.size h (fun i => 97 ≤ bt s (i : Int) ∧ bt s (i : Int) ≤ 122) (fun k i => impl_IsName.l0 k s (s.size : Int) i) (decide ((1 : Int) ≤ (s.size : Int)) && decide ((s.size : Int) ≤ 2)) false
    (fun i hi hT => ⟨0, fun k _ => by simp only [impl_IsName.l0]; rw [if_pos (by omega), if_pos (by omega), if_pos (by omega), if_neg (by omega), if_neg (by omega)]⟩)
    (fun i hi hT => ⟨0, fun k _ => by
      simp only [impl_IsName.l0]
      rw [if_pos (by omega), if_pos (by omega), if_pos (by omega)]
      by_cases c : bt s (i : Int) < 97
      · rw [if_pos c]
      · rw [if_neg c, if_pos (by omega)]⟩)
    ⟨0, fun k _ => by simp only [impl_IsName.l0]; rw [if_neg (by omega), wi_eq]; rfl⟩ (nameB s) (by rw [if_and_false]; rfl)
  exact Ev.congr (fun k => rfl) hc


theorem ev_specIndexOf (l : List ByteArray) (s : ByteArray) (h : l.length ≤ 9223372036854775807) : Ev (fun k => spec_IndexOf.f k l s) (idx l s) := by
  have hc := loop_is (σ := Unit) l.length (fun k _ i => spec_IndexOf.l0 k l s i) (fun i _ => idx l s = idxFrom s (l.drop i) i) (idx l s)
    (fun i _ hi hI => by
      rw [idx_go s l i hi] at hI
      by_cases c : l[i].toList = s.toList
      · rw [if_pos c] at hI
        exact Or.inr ⟨0, fun k _ => by simp only [spec_IndexOf.l0]; rw [if_pos (by omega), if_pos (by omega), rdOf_at _ _ _ hi, if_pos c, hI]⟩
      · rw [if_neg c] at hI
        exact Or.inl ⟨(), hI, 0, fun k _ => by simp only [spec_IndexOf.l0]; rw [if_pos (by omega), if_pos (by omega), rdOf_at _ _ _ hi, if_neg c, up64 (by omega)]⟩)
    (fun _ hI => ⟨0, fun k _ => by rw [List.drop_length] at hI; simp only [spec_IndexOf.l0]; rw [if_neg (by omega), hI]; rfl⟩) () (by rfl)
  exact Ev.congr (fun k => rfl) hc


theorem ev_slicesIndex (l : List ByteArray) (s : ByteArray) (h : l.length ≤ 9223372036854775807) : Ev (fun k => slices_Index_string_string.f k l s) (idx l s) := by
  have hc := loop_is (σ := Unit) l.length (fun k _ i => slices_Index_string_string.l0 k l s (l.length : Int) i) (fun i _ => idx l s = idxFrom s (l.drop i) i) (idx l s)
    (fun i _ hi hI => by
      rw [idx_go s l i hi] at hI
      by_cases c : l[i].toList = s.toList
      · rw [if_pos c] at hI
        exact Or.inr ⟨0, fun k _ => by simp only [slices_Index_string_string.l0]; rw [if_pos (by omega), if_pos (by omega), if_pos (by omega), rdOf_at _ _ _ hi, if_pos c.symm, hI]⟩
      · rw [if_neg c] at hI
        exact Or.inl ⟨(), hI, 0, fun k _ => by simp only [slices_Index_string_string.l0]; rw [if_pos (by omega), if_pos (by omega), if_pos (by omega), rdOf_at _ _ _ hi, if_neg (fun e => c e.symm), up64 (by omega)]⟩)
    (fun _ hI => ⟨0, fun k _ => by rw [List.drop_length] at hI; simp only [slices_Index_string_string.l0]; rw [if_neg (by omega), hI]; rfl⟩) () (by rfl)
  exact Ev.congr (fun k => rfl) hc

theorem ev_implIndexOf (l : List ByteArray) (s : ByteArray) (h : l.length ≤ 9223372036854775807) : Ev (fun k => impl_IndexOf.f k l s) (idx l s) := by
  refine Ev.congr (fun k => ?_) (ev_slicesIndex l s h)
  unfold impl_IndexOf.f
  cases slices_Index_string_string.f k l s <;> rfl


theorem ev_specAreVars (l : List ByteArray) (h : l.length ≤ 9223372036854775807) (hs : ∀ s ∈ l, s.size ≤ 9223372036854775807) : Ev (fun k => spec_AreVars.f k l) (varsB l) := by
  have hc := all_loop l.length h (fun i => nameB (l.getD i ByteArray.empty) = true ∧ idx l (l.getD i ByteArray.empty) = (i : Int)) (fun k i => spec_AreVars.l0 k l i) (decide ((1 : Int) ≤ (l.length : Int)) && decide ((l.length : Int) ≤ 4)) false
    (fun i hi hT => by
      have e : rdOf ByteArray.empty l (i : Int) = l.getD i ByteArray.empty := by unfold rdOf; rw [Int.toNat_natCast]
      obtain ⟨K, hK⟩ := Evt.and (ev_specIsName (l.getD i ByteArray.empty) (hs _ (getD_mem _ _ _ hi))) (ev_specIndexOf l (l.getD i ByteArray.empty) h)
      refine ⟨K, fun k hk => ?_⟩
      obtain ⟨h1, h2⟩ := hK k hk
      dsimp only at h1 h2
      simp only [spec_AreVars.l0]
      rw [if_pos (by omega), if_pos (by omega), e, h1]
      simp only [Option.bind_some]
      rw [if_pos hT.1, h2]
      simp only [Option.bind_some]
      rw [if_pos hT.2])
    (fun i hi hT => by
      have e : rdOf ByteArray.empty l (i : Int) = l.getD i ByteArray.empty := by unfold rdOf; rw [Int.toNat_natCast]
      obtain ⟨K, hK⟩ := Evt.and (ev_specIsName (l.getD i ByteArray.empty) (hs _ (getD_mem _ _ _ hi))) (ev_specIndexOf l (l.getD i ByteArray.empty) h)
      refine ⟨K, fun k hk => ?_⟩
      obtain ⟨h1, h2⟩ := hK k hk
      dsimp only at h1 h2
      simp only [spec_AreVars.l0]
      rw [if_pos (by omega), if_pos (by omega), e, h1]
      simp only [Option.bind_some]
      by_cases c : nameB (l.getD i ByteArray.empty) = true
      · rw [if_pos c, h2]
        simp only [Option.bind_some]
        rw [if_neg (fun c2 => hT ⟨c, c2⟩)]
      · rw [if_neg c])
    ⟨0, fun k _ => by simp only [spec_AreVars.l0]; rw [if_neg (by omega), in_eq]; rfl⟩ (varsB l) (by rw [if_and_false]; rfl)
  exact Ev.congr (fun k => rfl) hc


theorem ev_implAreVars (l : List ByteArray) (h : l.length ≤ 9223372036854775807) (hs : ∀ s ∈ l, s.size ≤ 9223372036854775807) : Ev (fun k => impl_AreVars.f k l) (varsB l) := by
  have hc := all_loop l.length h (fun i => nameB (l.getD i ByteArray.empty) = true ∧ idx l (l.getD i ByteArray.empty) = (i : Int)) (fun k i => impl_AreVars.l0 k l l (l.length : Int) i) (decide ((1 : Int) ≤ (l.length : Int)) && decide ((l.length : Int) ≤ 4)) false
    (fun i hi hT => by
      have e : rdOf ByteArray.empty l (i : Int) = l.getD i ByteArray.empty := by unfold rdOf; rw [Int.toNat_natCast]
      obtain ⟨K, hK⟩ := Evt.and (ev_implIsName (l.getD i ByteArray.empty) (hs _ (getD_mem _ _ _ hi))) (ev_implIndexOf l (l.getD i ByteArray.empty) h)
      refine ⟨K, fun k hk => ?_⟩
      obtain ⟨h1, h2⟩ := hK k hk
      dsimp only at h1 h2
      simp only [impl_AreVars.l0]
      rw [if_pos (by omega), if_pos (by omega), if_pos (by omega), e, h1]
      simp only [Option.bind_some]
      rw [if_pos hT.1, h2]
      simp only [Option.bind_some]
      rw [if_pos hT.2])
    (fun i hi hT => by
      have e : rdOf ByteArray.empty l (i : Int) = l.getD i ByteArray.empty := by unfold rdOf; rw [Int.toNat_natCast]
      obtain ⟨K, hK⟩ := Evt.and (ev_implIsName (l.getD i ByteArray.empty) (hs _ (getD_mem _ _ _ hi))) (ev_implIndexOf l (l.getD i ByteArray.empty) h)
      refine ⟨K, fun k hk => ?_⟩
      obtain ⟨h1, h2⟩ := hK k hk
      dsimp only at h1 h2
      simp only [impl_AreVars.l0]
      rw [if_pos (by omega), if_pos (by omega), if_pos (by omega), e, h1]
      simp only [Option.bind_some]
      by_cases c : nameB (l.getD i ByteArray.empty) = true
      · rw [if_pos c, h2]
        simp only [Option.bind_some]
        rw [if_neg (fun c2 => hT ⟨c, c2⟩)]
      · rw [if_neg c])
    ⟨0, fun k _ => by simp only [impl_AreVars.l0]; rw [if_neg (by omega), wi_eq]; rfl⟩ (varsB l) (by rw [if_and_false]; rfl)
  exact Ev.congr (fun k => rfl) hc


/-- how many names a statement of a kind has -/
def nm (a : Int) : Int := if a = 1 then 0 else if a = 2 ∨ a = 3 ∨ a = 6 ∨ a = 8 ∨ a = 9 ∨ a = 10 then 1 else if a = 4 ∨ a = 5 ∨ a = 7 ∨ a = 11 ∨ a = 12 then 2 else -1

theorem nm_cases (a : Int) : nm a = -1 ∨ nm a = 0 ∨ nm a = 1 ∨ nm a = 2 := by
  unfold nm
  split
  · omega
  · split
    · omega
    · split <;> omega

theorem specNames (k : Nat) (a : Int) : spec_NamesOf.f (k + 1) a = some (nm a) := by
  by_cases h : 1 ≤ a ∧ a ≤ 12
  · have h2 : a = 1 ∨ a = 2 ∨ a = 3 ∨ a = 4 ∨ a = 5 ∨ a = 6 ∨ a = 7 ∨ a = 8 ∨ a = 9 ∨ a = 10 ∨ a = 11 ∨ a = 12 := by omega
    rcases h2 with rfl | rfl | rfl | rfl | rfl | rfl | rfl | rfl | rfl | rfl | rfl | rfl <;> simp [spec_NamesOf.f, spec_NamesOf.j0, nm]
  · have e : nm a = -1 := by
      unfold nm
      rw [if_neg (by omega), if_neg (by omega), if_neg (by omega)]
    unfold spec_NamesOf.f
    rw [if_neg (by omega), if_neg (by omega), if_neg (by omega), if_neg (by omega), if_neg (by omega), if_neg (by omega)]
    have h10 : (a == 10) = false := beq_eq_false_iff_ne.mpr (by omega)
    simp only [spec_NamesOf.j0]
    rw [h10, if_neg (by decide), if_neg (by omega), if_neg (by omega), if_neg (by omega), if_neg (by omega), if_neg (by omega), e]

theorem implNames (a : Int) : impl_NamesOf.f a = some (nm a) := by
  by_cases h : 1 ≤ a ∧ a ≤ 12
  · have h2 : a = 1 ∨ a = 2 ∨ a = 3 ∨ a = 4 ∨ a = 5 ∨ a = 6 ∨ a = 7 ∨ a = 8 ∨ a = 9 ∨ a = 10 ∨ a = 11 ∨ a = 12 := by omega
    rcases h2 with rfl | rfl | rfl | rfl | rfl | rfl | rfl | rfl | rfl | rfl | rfl | rfl <;> decide +kernel
  · have e : nm a = -1 := by
      unfold nm
      rw [if_neg (by omega), if_neg (by omega), if_neg (by omega)]
    have h3 : (decide (1 ≤ a) && decide (a ≤ 12)) = false := by simpa using h
    rw [e]
    simp [impl_NamesOf.f, wi_eq, h3]


/-- the names are as many as the kind wants, and known; the others are empty -/
def namesB (v : List ByteArray) (m : Int) (s t : ByteArray) : Bool :=
  (if 0 < m then decide (idx v s ≥ 0) else decide (s.toList = [])) && ((if 1 < m then decide (idx v t ≥ 0) else decide (t.toList = [])) && decide (m ≥ 0))

theorem ev_specIsStmt (v : List ByteArray) (a : Int) (s t : ByteArray) (h : v.length ≤ 9223372036854775807) (hs : ∀ s ∈ v, s.size ≤ 9223372036854775807) : Ev (fun k => spec_IsStmt.f k v a s t) (varsB v && namesB v (nm a) s t) := by
  obtain ⟨K, hK⟩ := Evt.and (ev_specAreVars v h hs) (Evt.and (ev_specIndexOf v s h) (ev_specIndexOf v t h))
  refine ⟨K + 1, fun k hk => ?_⟩
  obtain ⟨k, rfl⟩ : ∃ m, k = m + 1 := ⟨k - 1, by omega⟩
  obtain ⟨g1, _, _⟩ := hK (k + 1) (by omega)
  obtain ⟨_, g2, g3⟩ := hK k (by omega)
  dsimp only at g1 g2 g3 ⊢
  unfold spec_IsStmt.f
  rw [specNames]
  simp only [Option.bind_some]
  rw [g1]
  simp only [Option.bind_some, spec_IsStmt.j0, g2, g3]
  cases hv : varsB v with
  | false => simp
  | true =>
    unfold namesB
    rcases nm_cases a with e | e | e | e <;> rw [e]
    · simp
    · by_cases c1 : s.toList = [] <;> by_cases c2 : t.toList = [] <;> simp [c1, c2]
    · by_cases c1 : idx v s ≥ 0 <;> by_cases c2 : t.toList = [] <;> simp [c1, c2]
    · by_cases c1 : idx v s ≥ 0 <;> by_cases c2 : idx v t ≥ 0 <;> simp [c1, c2]

theorem ev_hasNames (v : List ByteArray) (a : Int) (s t : ByteArray) (h : v.length ≤ 9223372036854775807) : Ev (fun k => impl_Stmt_hasNames_IsStmt_1.f k a s t v) (namesB v (nm a) s t) := by
  obtain ⟨K, hK⟩ := Evt.and (ev_slicesIndex v s h) (ev_slicesIndex v t h)
  refine ⟨K + 3, fun k hk => ?_⟩
  obtain ⟨k, rfl⟩ : ∃ m, k = m + 3 := ⟨k - 3, by omega⟩
  obtain ⟨a1, _⟩ := hK (k + 2) (by omega)
  obtain ⟨_, b2⟩ := hK (k + 1) (by omega)
  dsimp only at a1 b2 ⊢
  have l2 : (([s, t] : List ByteArray).length : Int) = 2 := rfl
  have r0 : rdOf ByteArray.empty [s, t] 0 = s := rfl
  have r1 : rdOf ByteArray.empty [s, t] 1 = t := rfl
  have w0 : wrap64 (0 + 1) = 1 := by unfold wrap64; omega
  have w1 : wrap64 (1 + 1) = 2 := by unfold wrap64; omega
  have i0 : (0 : Int) < 2 := by decide
  have i1 : (1 : Int) < 2 := by decide
  have i2 : ¬ (2 : Int) < 2 := by decide
  have j0 : (0 : Int) ≤ 0 := by decide
  have j1 : (0 : Int) ≤ 1 := by decide
  unfold impl_Stmt_hasNames_IsStmt_1.f
  rw [implNames]
  simp only [Option.bind_some, impl_Stmt_hasNames_IsStmt_1.l0, impl_IsStmt_1_captured.f, slices_Contains_string_string.f, l2, i0, i1, i2, j0, j1, if_true, if_false, r0, r1, w0, w1, a1, b2]
  unfold namesB
  rcases nm_cases a with e | e | e | e <;> rw [e]
  · by_cases c1 : s.toList = [] <;> by_cases c2 : t.toList = [] <;> simp [c1, c2]
  · by_cases c1 : s.toList = [] <;> by_cases c2 : t.toList = [] <;> simp [c1, c2]
  · by_cases c1 : idx v s ≥ 0 <;> by_cases c2 : t.toList = [] <;> simp [c1, c2]
  · by_cases c1 : idx v s ≥ 0 <;> by_cases c2 : idx v t ≥ 0 <;> simp [c1, c2]

theorem ev_implIsStmt (v : List ByteArray) (a : Int) (s t : ByteArray) (h : v.length ≤ 9223372036854775807) (hs : ∀ s ∈ v, s.size ≤ 9223372036854775807) : Ev (fun k => impl_IsStmt.f k v a s t) (varsB v && namesB v (nm a) s t) := by
  obtain ⟨K, hK⟩ := Evt.and (ev_implAreVars v h hs) (ev_hasNames v a s t h)
  refine ⟨K, fun k hk => ?_⟩
  obtain ⟨g1, g2⟩ := hK k hk
  dsimp only at g1 g2 ⊢
  unfold impl_IsStmt.f
  rw [g1, g2]
  cases hv : varsB v <;> simp


theorem rdE (l : List S134) (i : Nat) : rd_T134 l (i : Int) = l.getD i z134 := by unfold rd_T134; rw [Int.toNat_natCast]

def stmtB (v : List ByteArray) (x : S71) : Bool := varsB v && namesB v (nm x.f0) x.f1 x.f2

/-- an edge of so many points -/
def edgeB (v : List ByteArray) (p : Int) (x : S134) : Bool := (decide (0 ≤ x.f0) && decide (x.f0 ≤ wrap64 (p - 1))) && ((decide (0 ≤ x.f1) && decide (x.f1 ≤ wrap64 (p - 1))) && stmtB v x.f2)

def edgesB (v : List ByteArray) (p : Int) (l : List S134) : Bool := decide (∀ i : Nat, i < l.length → edgeB v p (l.getD i z134) = true)

def restB (v : List ByteArray) (p : Int) (l : List S134) : Bool := varsB v && ((decide (1 ≤ p) && decide (p ≤ 12)) && decide ((l.length : Int) ≤ 24))

theorem ev_specIsProgram (v : List ByteArray) (p : Int) (l : List S134) (hv : v.length ≤ 1048576) (hs : ∀ s ∈ v, s.size ≤ 9223372036854775807) (hl : l.length ≤ 1048576) : Ev (fun k => spec_IsProgram.f k v p l) (edgesB v p l && restB v p l) := by
  obtain ⟨K, hK⟩ := ev_specAreVars v (by omega) hs
  have hc := all_loop l.length (by omega) (fun i => edgeB v p (l.getD i z134) = true) (fun k i => spec_IsProgram.l0 k i v p l) (restB v p l) false
    (fun i hi hT => by
      obtain ⟨K1, h1⟩ := ev_specIsStmt v (l.getD i z134).f2.f0 (l.getD i z134).f2.f1 (l.getD i z134).f2.f2 (by omega) hs
      refine ⟨K1, fun k hk => ?_⟩
      have g := h1 k hk
      dsimp only at g
      simp only [spec_IsProgram.l0]
      rw [if_pos (by omega), if_pos (by omega), rdE, in_eq, in_eq, g]
      unfold edgeB stmtB at hT
      obtain ⟨t1, t2⟩ := Bool.and_eq_true_iff.mp hT
      obtain ⟨t2, t3⟩ := Bool.and_eq_true_iff.mp t2
      simp only [Option.bind_some]
      rw [if_pos t1, if_pos t2, if_pos t3])
    (fun i hi hT => by
      obtain ⟨K1, h1⟩ := ev_specIsStmt v (l.getD i z134).f2.f0 (l.getD i z134).f2.f1 (l.getD i z134).f2.f2 (by omega) hs
      refine ⟨K1, fun k hk => ?_⟩
      have g := h1 k hk
      dsimp only at g
      simp only [spec_IsProgram.l0]
      rw [if_pos (by omega), if_pos (by omega), rdE, in_eq, in_eq, g]
      unfold edgeB stmtB at hT
      simp only [Option.bind_some]
      generalize l.getD i z134 = x at *
      by_cases c1 : (decide (0 ≤ x.f0) && decide (x.f0 ≤ wrap64 (p - 1))) = true
      · rw [if_pos c1]
        by_cases c2 : (decide (0 ≤ x.f1) && decide (x.f1 ≤ wrap64 (p - 1))) = true
        · rw [if_pos c2, if_neg (fun c3 => hT (Bool.and_eq_true_iff.mpr ⟨c1, Bool.and_eq_true_iff.mpr ⟨c2, c3⟩⟩))]
        · rw [if_neg c2]
      · rw [if_neg c1])
    ⟨K, fun k hk => by
      have g := hK k hk
      dsimp only at g
      simp only [spec_IsProgram.l0]
      rw [if_neg (by omega), in_eq, g]
      unfold restB
      simp only [Option.bind_some]
      by_cases c1 : (decide ((1 : Int) ≤ p) && decide (p ≤ 12)) = true <;> by_cases c2 : varsB v = true <;> simp [c1, c2]⟩
    (edgesB v p l && restB v p l) (by
      unfold edgesB
      by_cases c : ∀ i : Nat, i < l.length → edgeB v p (l.getD i z134) = true
      · rw [if_pos c, decide_eq_true c, Bool.true_and]
      · rw [if_neg c, decide_eq_false c, Bool.false_and])
  exact Ev.congr (fun k => rfl) hc

theorem ev_captured (v : List ByteArray) (p : Int) (l : List S134) (x : S134) (hv : v.length ≤ 1048576) (hs : ∀ s ∈ v, s.size ≤ 9223372036854775807) : Ev (fun k => impl_IsProgram_1_captured.f k x.f0 x.f1 x.f2.f0 x.f2.f1 x.f2.f2 v p l) (!(edgeB v p x)) := by
  obtain ⟨K, hK⟩ := ev_implIsStmt v x.f2.f0 x.f2.f1 x.f2.f2 (by omega) hs
  refine ⟨K, fun k hk => ?_⟩
  have g := hK k hk
  dsimp only at g ⊢
  unfold impl_IsProgram_1_captured.f edgeB stmtB
  rw [wi_eq, wi_eq, g]
  simp only [Option.bind_some]
  by_cases c1 : (decide (0 ≤ x.f0) && decide (x.f0 ≤ wrap64 (p - 1))) = true
  · rw [if_pos c1, c1]
    by_cases c2 : (decide (0 ≤ x.f1) && decide (x.f1 ≤ wrap64 (p - 1))) = true
    · rw [if_pos c2, c2]; rfl
    · rw [if_neg c2, Bool.eq_false_iff.mpr c2]; rfl
  · rw [if_neg c1, Bool.eq_false_iff.mpr c1]; rfl

theorem ev_implIsProgram (v : List ByteArray) (p : Int) (l : List S134) (hv : v.length ≤ 1048576) (hs : ∀ s ∈ v, s.size ≤ 9223372036854775807) (hl : l.length ≤ 1048576) : Ev (fun k => impl_IsProgram.f k v p l) (edgesB v p l && restB v p l) := by
  obtain ⟨r, hi, hr⟩ := index_loop l.length (by omega) (fun i => edgeB v p (l.getD i z134) = true) (fun k i => impl_Edge_IsProgram_1_160.l0 k l (l.length : Int) i v p l)
    (fun i hi hT => by
      obtain ⟨K1, h1⟩ := ev_captured v p l (l.getD i z134) hv hs
      refine ⟨K1, fun k hk => ?_⟩
      have g := h1 k hk
      dsimp only at g
      simp only [impl_Edge_IsProgram_1_160.l0]
      rw [if_pos (by omega), if_pos (by omega), if_pos (by omega), rdE, g, hT]
      simp only [Option.bind_some]
      rw [if_neg (by decide)])
    (fun i hi hT => by
      obtain ⟨K1, h1⟩ := ev_captured v p l (l.getD i z134) hv hs
      refine ⟨K1, fun k hk => ?_⟩
      have g := h1 k hk
      dsimp only at g
      simp only [impl_Edge_IsProgram_1_160.l0]
      rw [if_pos (by omega), if_pos (by omega), if_pos (by omega), rdE, g, Bool.eq_false_iff.mpr hT]
      simp only [Option.bind_some]
      rw [if_pos (by decide)])
    ⟨0, fun k _ => by simp only [impl_Edge_IsProgram_1_160.l0]; rw [if_neg (by omega)]⟩
  obtain ⟨K, hK⟩ := Evt.and hi (ev_implAreVars v (by omega) hs)
  refine ⟨K, fun k hk => ?_⟩
  obtain ⟨g1, g2⟩ := hK k hk
  dsimp only at g1 g2 ⊢
  unfold impl_IsProgram.f impl_Edge_IsProgram_1_136.f impl_Edge_IsProgram_1_160.f
  rw [g1, g2, wi_eq]
  simp only [Option.bind_some, hr]
  unfold restB edgesB
  by_cases c1 : varsB v = true
  · rw [if_pos c1, c1, Bool.true_and]
    by_cases c2 : (decide ((1 : Int) ≤ p) && decide (p ≤ 12)) = true
    · rw [if_pos c2, c2, Bool.true_and]
      by_cases c3 : (l.length : Int) ≤ 24
      · rw [if_neg (by omega), decide_eq_true c3, Bool.and_true, Bool.not_not]
      · rw [if_pos (by omega), decide_eq_false c3, Bool.and_false]
    · rw [if_neg c2, Bool.eq_false_iff.mpr c2, Bool.false_and, Bool.and_false]
  · rw [if_neg c1, Bool.eq_false_iff.mpr c1, Bool.false_and, Bool.and_false]

theorem FnExactIsProgram : laws_FnExactIsProgram.Pure := by
  intro v p l hB
  have hm : maxLen = 9223372036854775807 := rfl
  have hs : ∀ s ∈ v, s.size ≤ 9223372036854775807 := fun s hs => by have := hB.1.2 s hs; omega
  obtain ⟨r, e1, hr⟩ := ev_szProgram v p l 1048576 (by omega) (by omega) (by have := hB.1.1; dsimp only at this; omega) hs (by have := hB.2.2.1; dsimp only at this; omega) (fun x hx => by
    have := (hB.2.2.2 x hx).2.2
    exact ⟨by have := this.2.1; omega, by have := this.2.2; omega⟩)
  rcases hr with hr | ⟨r0, r1, hw, hv, hl, _⟩
  · obtain ⟨k, h1⟩ := Evt.ex e1
    dsimp only at h1
    exact ⟨k, by unfold laws_FnExactIsProgram.f; rw [h1]; simp only [Option.bind_some]; rw [if_pos hr]⟩
  have hl' : (l.map cEdge).length ≤ 1048576 := by simpa using hl
  obtain ⟨k, h1, h2, h3, h4, h5⟩ := (Evt.and e1 (Evt.and (ev_toProgram v p l hv hl) (Evt.and (ev_eqProgram v p (l.map cEdge) hv hl') (Evt.and (ev_specIsProgram v p (l.map cEdge) hv hs hl') (ev_implIsProgram v p (l.map cEdge) hv hs hl'))))).ex
  dsimp only at h1 h2 h3 h4 h5
  refine ⟨k, ?_⟩
  unfold laws_FnExactIsProgram.f
  rw [h1]
  simp only [Option.bind_some]
  rw [if_neg (by omega)]
  simp only [h2, h3, h4, h5, Option.bind_some, if_true]
  simp

end Go.Proofs.Ytfmepkfigdobaaa.Pure.LFnExactIsProgram
namespace Go.Proofs.Ytfmepkfigdobaaa.Pure
open Go.Proofs.Ytfmepkfigdobaaa.PFnExactIsProgram
theorem FnExactIsProgram : laws_FnExactIsProgram.Pure := LFnExactIsProgram.FnExactIsProgram
end Go.Proofs.Ytfmepkfigdobaaa.Pure
