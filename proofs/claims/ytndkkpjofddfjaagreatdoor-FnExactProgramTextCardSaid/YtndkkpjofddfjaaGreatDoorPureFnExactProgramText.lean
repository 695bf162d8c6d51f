/-
  The pure statement of laws.FnExactProgramText: what the printed functions compute makes the law answer true, for every argument of its kinds (no further condition).
-/
import Derived.Test.YtndkkpjofddfjaaGreatDoorPFnExactProgramTextx9
import Derived.Test.YtndkkpjofddfjaaGreatDoorXPure
import Derived.Lib.ItoaLen
namespace Go.Proofs.YtndkkpjofddfjaaGreatDoor.Pure.LFnExactProgramText
open Go.RowKit Go.Proofs.YtndkkpjofddfjaaGreatDoor.PFnExactProgramText Go.Proofs.YtndkkpjofddfjaaGreatDoorW.PrintWords Go.Proofs.YtndkkpjofddfjaaGreatDoorW.PrintLast Go.Proofs.YtndkkpjofddfjaaGreatDoorX
set_option linter.unusedVariables false
set_option linter.unusedSimpArgs false
theorem in_eq (a b c : Int) : spec_l1In.f a b c = some (decide (b ≤ a) && decide (a ≤ c)) := by
  unfold spec_l1In.f
  by_cases h : b ≤ a <;> simp [h]
theorem wi_eq (a b c : Int) : impl_within.f a b c = some (decide (b ≤ a) && decide (a ≤ c)) := by
  unfold impl_within.f
  by_cases h : b ≤ a <;> simp [h]
def wS (l : List ByteArray) : Int := l.length + ((l.map fun s => (s.size : Int)).foldr (· + ·) 0)
theorem sums_nonneg (l : List ByteArray) : 0 ≤ (l.map fun s => (s.size : Int)).foldr (· + ·) 0 := by
  induction l with
  | nil => simp
  | cons a l ih => simp only [List.map_cons, List.foldr_cons]; omega
theorem sums_take (l : List ByteArray) (i : Nat) (h : i < l.length) : ((l.take (i + 1)).map fun s => (s.size : Int)).foldr (· + ·) 0 = ((l.take i).map fun s => (s.size : Int)).foldr (· + ·) 0 + ((rdOf ByteArray.empty l (i : Int)).size : Int) := by
  rw [rdOf_at _ _ _ h]
  induction l generalizing i with
  | nil => simp at h
  | cons a l ih =>
    cases i with
    | zero => simp
    | succ i =>
      simp only [List.take_succ_cons, List.map_cons, List.foldr_cons, List.getElem_cons_succ]
      rw [ih i (by simpa using h)]
      omega
theorem sums_le (l : List ByteArray) (i : Nat) : ((l.take i).map fun s => (s.size : Int)).foldr (· + ·) 0 ≤ (l.map fun s => (s.size : Int)).foldr (· + ·) 0 := by
  induction l generalizing i with
  | nil => simp
  | cons a l ih =>
    cases i with
    | zero => simp only [List.take_zero, List.map_nil, List.foldr_nil]; exact sums_nonneg _
    | succ i => simp only [List.take_succ_cons, List.map_cons, List.foldr_cons]; have := ih i; omega
theorem ev_szStringS (l : List ByteArray) (a : Int) (h0 : 0 ≤ a) (h1 : a ≤ 1048576) (hl : l.length ≤ 9223372036854775807) (hs : ∀ s ∈ l, s.size ≤ 9223372036854775807) :
    Ev (fun k => laws_szStringS.f k l a) (if wS l ≤ a then a - wS l else -1) := by
  have hn := sums_nonneg l
  have hw : wrap64 (a - (l.length : Int)) = a - l.length := w64 (by omega) (by omega)
  by_cases c : a - (l.length : Int) < 0
  · have e : (if wS l ≤ a then a - wS l else -1) = -1 := if_neg (by unfold wS; omega)
    rw [e]
    exact Ev.one (fun k => by unfold laws_szStringS.f; rw [hw, if_pos c])
  · have hc := loop_is (σ := Int) l.length (fun k s i => laws_szStringS.l0 k l s i) (fun i s => s = a - l.length - ((l.take i).map fun s => (s.size : Int)).foldr (· + ·) 0 ∧ 0 ≤ s) (if wS l ≤ a then a - wS l else -1)
      (fun i s hi ⟨hs', hs0⟩ => by
        have ht := sums_take l i hi
        have hsz : (rdOf ByteArray.empty l (i : Int)).size ≤ 9223372036854775807 := by
          rw [rdOf_at _ _ _ hi]
          exact hs _ (List.getElem_mem hi)
        have hs2 : s ≤ 1048576 := by have := sums_nonneg (l.take i); omega
        have hw2 : wrap64 (s - ((rdOf ByteArray.empty l (i : Int)).size : Int)) = s - (rdOf ByteArray.empty l (i : Int)).size := w64 (by omega) (by omega)
        by_cases c2 : s - ((rdOf ByteArray.empty l (i : Int)).size : Int) < 0
        · refine Or.inr ⟨0, fun k _ => ?_⟩
          simp only [laws_szStringS.l0]
          rw [if_pos (by omega), if_pos (by omega), hw2, if_pos c2, if_neg]
          have := sums_le l (i + 1)
          unfold wS
          omega
        · refine Or.inl ⟨s - (rdOf ByteArray.empty l (i : Int)).size, ⟨by omega, by omega⟩, 0, fun k _ => ?_⟩
          simp only [laws_szStringS.l0]
          rw [if_pos (by omega), if_pos (by omega), hw2, if_neg c2, up64 (by omega)])
      (fun s ⟨hs', hs0⟩ => ⟨0, fun k _ => by
        rw [List.take_length] at hs'
        simp only [laws_szStringS.l0]
        rw [if_neg (by omega), if_pos (by unfold wS; omega)]
        congr 1
        unfold wS
        omega⟩)
      (a - l.length) ⟨by simp, by omega⟩
    refine Ev.congr (fun k => ?_) hc
    unfold laws_szStringS.f
    rw [hw, if_neg c]
theorem ev_toStringS (l : List ByteArray) (h : l.length ≤ 17592186044416) : Ev (fun k => laws_toStringS.f k l) l := by
  have hc := copy_loop l.length (by omega) (fun i => rdOf ByteArray.empty l (i : Int)) (⟨#[]⟩ : ByteArray) (fun k ys i => laws_toStringS.l0 k l ys i)
    (fun i ys hi hl => ⟨0, fun k _ => by simp only [laws_toStringS.l0]; rw [if_pos (by omega), if_pos (by omega), if_pos (by omega), Int.toNat_natCast]⟩)
    (fun ys hl => ⟨0, fun k _ => by simp only [laws_toStringS.l0]; rw [if_neg (by omega)]⟩)
  have e : ((List.range l.length).map fun i => rdOf ByteArray.empty l ((i : Nat) : Int)) = l := by
    have := map_range_id ByteArray.empty l
    simpa [rdOf] using this
  rw [e] at hc
  refine Ev.congr (fun k => ?_) hc
  unfold laws_toStringS.f
  rw [if_pos (by omega), if_pos (by rw [Int.toNat_natCast]; omega), Int.toNat_natCast]
theorem ev_eqStringS (l : List ByteArray) (h : l.length ≤ 9223372036854775807) : Ev (fun k => laws_eqStringS.f k l l) true := by
  have hc := all_true l.length h (fun k i => laws_eqStringS.l0 k l l i) true
    (fun i hi => ⟨0, fun k _ => by simp only [laws_eqStringS.l0]; rw [if_pos (by omega), if_pos (by omega), if_pos (by omega)]; simp only [if_true]⟩)
    ⟨0, fun k _ => by simp only [laws_eqStringS.l0]; rw [if_neg (by omega)]⟩
  refine Ev.congr (fun k => ?_) hc
  unfold laws_eqStringS.f
  rw [if_pos rfl]
def cEdge (x : S88) : S52 := ⟨x.f0, x.f1, (⟨x.f2.f0, x.f2.f1, x.f2.f2⟩ : S50)⟩
theorem szEdge_eq (p q r : Int) (s t : ByteArray) (a : Int) (h0 : 0 ≤ a) (h1 : a ≤ 1048576) (hs : s.size ≤ 9223372036854775807) (ht : t.size ≤ 9223372036854775807) :
    ∃ z, laws_szEdge.f p q r s t a = some z ∧ (z < 0 ∨ (0 ≤ z ∧ z ≤ a ∧ (s.size : Int) ≤ a ∧ (t.size : Int) ≤ a)) := by
  unfold laws_szEdge.f laws_szStmt.f
  rw [w64 (x := a - (s.size : Int)) (by omega) (by omega)]
  by_cases c : a - (s.size : Int) < 0
  · rw [if_pos c]
    exact ⟨-1, by simp, Or.inl (by omega)⟩
  · rw [if_neg c, w64 (by omega) (by omega)]
    by_cases c2 : a - (s.size : Int) - (t.size : Int) < 0
    · rw [if_pos c2]
      exact ⟨-1, by simp, Or.inl (by omega)⟩
    · rw [if_neg c2]
      simp only [Option.bind_some]
      rw [if_neg c2]
      exact ⟨_, rfl, Or.inr (by omega)⟩
theorem ev_szEdgeS (l : List S88) (a : Int) (h0 : 0 ≤ a) (h1 : a ≤ 1048576) (hl : l.length ≤ 9223372036854775807) (hs : ∀ x ∈ l, x.f2.f1.size ≤ 9223372036854775807 ∧ x.f2.f2.size ≤ 9223372036854775807) :
    ∃ r, Ev (fun k => laws_szEdgeS.f k l a) r ∧ (r < 0 ∨ (0 ≤ r ∧ r ≤ a ∧ (l.length : Int) ≤ a ∧ ∀ x ∈ l, x.f2.f1.size ≤ 1048576 ∧ x.f2.f2.size ≤ 1048576)) := by
  have hw : wrap64 (a - (l.length : Int)) = a - l.length := w64 (by omega) (by omega)
  by_cases c : a - (l.length : Int) < 0
  · exact ⟨-1, Ev.one (fun k => by unfold laws_szEdgeS.f; rw [hw, if_pos c]), Or.inl (by omega)⟩
  · obtain ⟨r, hr, he⟩ := loop_ev (σ := Int) l.length (fun k s i => laws_szEdgeS.l0 k l s i) (fun i s => 0 ≤ s ∧ s ≤ a - l.length ∧ ∀ j, j < i → (l.getD j z88).f2.f1.size ≤ 1048576 ∧ (l.getD j z88).f2.f2.size ≤ 1048576)
      (fun r => r < 0 ∨ (0 ≤ r ∧ r ≤ a ∧ (l.length : Int) ≤ a ∧ ∀ x ∈ l, x.f2.f1.size ≤ 1048576 ∧ x.f2.f2.size ≤ 1048576))
      (fun i s hi ⟨s0, s1, hj⟩ => by
        have hm := hs _ (getD_mem z88 l i hi)
        have e : rd_T88 l (i : Int) = l.getD i z88 := by unfold rd_T88; rw [Int.toNat_natCast]
        obtain ⟨r, h1', h2'⟩ := szEdge_eq (l.getD i z88).f0 (l.getD i z88).f1 (l.getD i z88).f2.f0 (l.getD i z88).f2.f1 (l.getD i z88).f2.f2 s s0 (by omega) hm.1 hm.2
        rcases h2' with h2' | ⟨g0, g1, g2, g3⟩
        · refine Or.inr ⟨-1, Or.inl (by omega), 0, fun k _ => ?_⟩
          simp only [laws_szEdgeS.l0]
          rw [if_pos (by omega), if_pos (by omega), e, h1']
          simp only [Option.bind_some]
          rw [if_pos h2']
        · refine Or.inl ⟨r, ⟨g0, by omega, fun j hj' => ?_⟩, 0, fun k _ => ?_⟩
          · by_cases ej : j = i
            · subst ej; omega
            · exact hj j (by omega)
          · simp only [laws_szEdgeS.l0]
            rw [if_pos (by omega), if_pos (by omega), e, h1']
            simp only [Option.bind_some]
            rw [if_neg (by omega), up64 (by omega)])
      (fun s ⟨s0, s1, hj⟩ => ⟨s, Or.inr ⟨s0, by omega, by omega, fun x hx => by
        obtain ⟨j, hj1, rfl⟩ := List.getElem_of_mem hx
        have := hj j hj1
        rwa [get_rep _ _ _ hj1] at this⟩, 0, fun k _ => by simp only [laws_szEdgeS.l0]; rw [if_neg (by omega)]⟩)
      l.length 0 (a - l.length) (by omega) (by omega) ⟨by omega, by omega, fun j hj => by omega⟩
    exact ⟨r, Ev.congr (fun k => by unfold laws_szEdgeS.f; rw [hw, if_neg c]; rfl) he, hr⟩
theorem ev_toEdgeS (l : List S88) (h : l.length ≤ 1048576) : Ev (fun k => laws_toEdgeS.f k l) (l.map cEdge) := by
  have hc := copy_loop l.length (by omega) (fun i => cEdge (l.getD i z88)) z52 (fun k ys i => laws_toEdgeS.l0 k l ys i)
    (fun i ys hi hl => by
      have e : rd_T88 l (i : Int) = l.getD i z88 := by unfold rd_T88; rw [Int.toNat_natCast]
      refine ⟨0, fun k hk => ?_⟩
      simp only [laws_toEdgeS.l0]
      rw [if_pos (by omega), if_pos (by omega), e]
      simp only [laws_toEdge.f, laws_toStmt.f, Option.bind_some]
      rw [if_pos (by omega), Int.toNat_natCast]
      rfl)
    (fun ys hl => ⟨0, fun k _ => by simp only [laws_toEdgeS.l0]; rw [if_neg (by omega)]⟩)
  rw [map_range cEdge z88 l] at hc
  refine Ev.congr (fun k => ?_) hc
  unfold laws_toEdgeS.f
  rw [if_pos (by omega), if_pos (by rw [Int.toNat_natCast]; omega), Int.toNat_natCast]
theorem ev_eqEdgeS (l : List S52) (h : l.length ≤ 1048576) : Ev (fun k => laws_eqEdgeS.f k l l) true := by
  have hc := all_true l.length (by omega) (fun k i => laws_eqEdgeS.l0 k l l i) true
    (fun i hi => by
      refine ⟨0, fun k hk => ?_⟩
      simp only [laws_eqEdgeS.l0]
      rw [if_pos (by omega), if_pos (by omega), if_pos (by omega)]
      simp only [laws_eqEdge.f, laws_eqStmt.f, Option.bind_some, if_true])
    ⟨0, fun k _ => by simp only [laws_eqEdgeS.l0]; rw [if_neg (by omega)]⟩
  refine Ev.congr (fun k => ?_) hc
  unfold laws_eqEdgeS.f
  rw [if_pos rfl]
theorem ev_szProgram (v : List ByteArray) (p : Int) (l : List S88) (a : Int) (h0 : 0 ≤ a) (h1 : a ≤ 1048576) (hv : v.length ≤ 9223372036854775807) (hvs : ∀ s ∈ v, s.size ≤ 9223372036854775807) (hl : l.length ≤ 9223372036854775807) (hs : ∀ x ∈ l, x.f2.f1.size ≤ 9223372036854775807 ∧ x.f2.f2.size ≤ 9223372036854775807) :
    ∃ r, Ev (fun k => laws_szProgram.f k v p l a) r ∧ (r < 0 ∨ (0 ≤ r ∧ r ≤ a ∧ wS v ≤ a ∧ v.length ≤ 1048576 ∧ l.length ≤ 1048576 ∧ ∀ x ∈ l, x.f2.f1.size ≤ 1048576 ∧ x.f2.f2.size ≤ 1048576)) := by
  obtain ⟨K, hK⟩ := ev_szStringS v a h0 h1 hv hvs
  have hn := sums_nonneg v
  by_cases c : wS v ≤ a
  · rw [if_pos c] at hK
    have hvl : (v.length : Int) ≤ a := by unfold wS at c; omega
    have hw0 : 0 ≤ wS v := by unfold wS; omega
    obtain ⟨r, ⟨K', hK'⟩, hr⟩ := ev_szEdgeS l (a - wS v) (by omega) (by omega) hl hs
    rcases hr with hr | ⟨r0, r1, r2, r3⟩
    · refine ⟨-1, ⟨K + K', fun k hk => ?_⟩, Or.inl (by omega)⟩
      have g1 := hK k (by omega)
      have g2 := hK' k (by omega)
      dsimp only at g1 g2 ⊢
      unfold laws_szProgram.f
      rw [g1]
      simp only [Option.bind_some]
      rw [if_neg (by omega), g2]
      simp only [Option.bind_some]
      rw [if_pos hr]
    · refine ⟨r, ⟨K + K', fun k hk => ?_⟩, Or.inr ⟨r0, by omega, c, by omega, by omega, r3⟩⟩
      have g1 := hK k (by omega)
      have g2 := hK' k (by omega)
      dsimp only at g1 g2 ⊢
      unfold laws_szProgram.f
      rw [g1]
      simp only [Option.bind_some]
      rw [if_neg (by omega), g2]
      simp only [Option.bind_some]
      rw [if_neg (by omega)]
  · rw [if_neg c] at hK
    refine ⟨-1, ⟨K, fun k hk => ?_⟩, Or.inl (by omega)⟩
    have g1 := hK k hk
    dsimp only at g1 ⊢
    unfold laws_szProgram.f
    rw [g1]
    rfl
theorem ev_toProgram (v : List ByteArray) (p : Int) (l : List S88) (hv : v.length ≤ 1048576) (hl : l.length ≤ 1048576) : Ev (fun k => laws_toProgram.f k v p l) (v, p, l.map cEdge) := by
  obtain ⟨K, hK⟩ := Evt.and (ev_toStringS v (by omega)) (ev_toEdgeS l hl)
  refine ⟨K, fun k hk => ?_⟩
  obtain ⟨h1, h2⟩ := hK k hk
  dsimp only at h1 h2
  unfold laws_toProgram.f
  simp only [h1, h2, Option.bind_some]
theorem ev_eqProgram (v : List ByteArray) (p : Int) (l : List S52) (hv : v.length ≤ 1048576) (hl : l.length ≤ 1048576) : Ev (fun k => laws_eqProgram.f k v p l v p l) true := by
  obtain ⟨K, hK⟩ := Evt.and (ev_eqStringS v (by omega)) (ev_eqEdgeS l hl)
  refine ⟨K, fun k hk => ?_⟩
  obtain ⟨h1, h2⟩ := hK k hk
  dsimp only at h1 h2
  unfold laws_eqProgram.f
  simp only [h1, h2, Option.bind_some, if_true]
theorem ev_specIsName (s : ByteArray) (h : s.size ≤ 9223372036854775807) : Ev (fun k => spec_IsName.f k s) (nameB s) := by
  have hc := all_loop s.size h (fun i => 97 ≤ bt s (i : Int) ∧ bt s (i : Int) ≤ 122) (fun k i => spec_IsName.l0 k s i) (decide ((1 : Int) ≤ (s.size : Int)) && decide ((s.size : Int) ≤ 2)) false
    (fun i hi hT => ⟨0, fun k _ => by simp only [spec_IsName.l0]; rw [if_pos (by omega), if_pos (by omega), if_neg (by omega), if_neg (by omega)]⟩)
    (fun i hi hT => ⟨0, fun k _ => by
      simp only [spec_IsName.l0]
      rw [if_pos (by omega), if_pos (by omega)]
      by_cases c : bt s (i : Int) < 97
      · rw [if_pos c]
      · rw [if_neg c, if_pos (by omega)]⟩)
    ⟨0, fun k _ => by simp only [spec_IsName.l0]; rw [if_neg (by omega), in_eq]; rfl⟩ (nameB s) (by rw [if_and_false]; rfl)
  exact Ev.congr (fun k => rfl) hc
theorem ev_implIsName (s : ByteArray) (h : s.size ≤ 9223372036854775807) : Ev (fun k => impl_IsName.f k s) (nameB s) := by
  have hc := all_loop s.size h (fun i => 97 ≤ bt s (i : Int) ∧ bt s (i : Int) ≤ 122) (fun k i => impl_IsName.l0 k s (s.size : Int) i) (decide ((1 : Int) ≤ (s.size : Int)) && decide ((s.size : Int) ≤ 2)) false
    (fun i hi hT => ⟨0, fun k _ => by simp only [impl_IsName.l0]; rw [if_pos (by omega), if_pos (by omega), if_pos (by omega), if_neg (by omega), if_neg (by omega)]⟩)
    (fun i hi hT => ⟨0, fun k _ => by
      simp only [impl_IsName.l0]
      rw [if_pos (by omega), if_pos (by omega), if_pos (by omega)]
      by_cases c : bt s (i : Int) < 97
      · rw [if_pos c]
      · rw [if_neg c, if_pos (by omega)]⟩)
    ⟨0, fun k _ => by simp only [impl_IsName.l0]; rw [if_neg (by omega), wi_eq]; rfl⟩ (nameB s) (by rw [if_and_false]; rfl)
  exact Ev.congr (fun k => rfl) hc
theorem ev_specIndexOf (l : List ByteArray) (s : ByteArray) (h : l.length ≤ 9223372036854775807) : Ev (fun k => spec_IndexOf.f k l s) (idx l s) := by
  have hc := loop_is (σ := Unit) l.length (fun k _ i => spec_IndexOf.l0 k l s i) (fun i _ => idx l s = idxFrom s (l.drop i) i) (idx l s)
    (fun i _ hi hI => by
      rw [idx_go s l i hi] at hI
      by_cases c : l[i].toList = s.toList
      · rw [if_pos c] at hI
        exact Or.inr ⟨0, fun k _ => by simp only [spec_IndexOf.l0]; rw [if_pos (by omega), if_pos (by omega), rdOf_at _ _ _ hi, if_pos c, hI]⟩
      · rw [if_neg c] at hI
        exact Or.inl ⟨(), hI, 0, fun k _ => by simp only [spec_IndexOf.l0]; rw [if_pos (by omega), if_pos (by omega), rdOf_at _ _ _ hi, if_neg c, up64 (by omega)]⟩)
    (fun _ hI => ⟨0, fun k _ => by rw [List.drop_length] at hI; simp only [spec_IndexOf.l0]; rw [if_neg (by omega), hI]; rfl⟩) () (by rfl)
  exact Ev.congr (fun k => rfl) hc
theorem ev_slicesIndex (l : List ByteArray) (s : ByteArray) (h : l.length ≤ 9223372036854775807) : Ev (fun k => slices_Index_string_string.f k l s) (idx l s) := by
  have hc := loop_is (σ := Unit) l.length (fun k _ i => slices_Index_string_string.l0 k l s (l.length : Int) i) (fun i _ => idx l s = idxFrom s (l.drop i) i) (idx l s)
    (fun i _ hi hI => by
      rw [idx_go s l i hi] at hI
      by_cases c : l[i].toList = s.toList
      · rw [if_pos c] at hI
        exact Or.inr ⟨0, fun k _ => by simp only [slices_Index_string_string.l0]; rw [if_pos (by omega), if_pos (by omega), if_pos (by omega), rdOf_at _ _ _ hi, if_pos c.symm, hI]⟩
      · rw [if_neg c] at hI
        exact Or.inl ⟨(), hI, 0, fun k _ => by simp only [slices_Index_string_string.l0]; rw [if_pos (by omega), if_pos (by omega), if_pos (by omega), rdOf_at _ _ _ hi, if_neg (fun e => c e.symm), up64 (by omega)]⟩)
    (fun _ hI => ⟨0, fun k _ => by rw [List.drop_length] at hI; simp only [slices_Index_string_string.l0]; rw [if_neg (by omega), hI]; rfl⟩) () (by rfl)
  exact Ev.congr (fun k => rfl) hc
theorem ev_implIndexOf (l : List ByteArray) (s : ByteArray) (h : l.length ≤ 9223372036854775807) : Ev (fun k => impl_IndexOf.f k l s) (idx l s) := by
  refine Ev.congr (fun k => ?_) (ev_slicesIndex l s h)
  unfold impl_IndexOf.f
  cases slices_Index_string_string.f k l s <;> rfl
theorem ev_specAreVars (l : List ByteArray) (h : l.length ≤ 9223372036854775807) (hs : ∀ s ∈ l, s.size ≤ 9223372036854775807) : Ev (fun k => spec_AreVars.f k l) (varsB l) := by
  have hc := all_loop l.length h (fun i => nameB (l.getD i ByteArray.empty) = true ∧ idx l (l.getD i ByteArray.empty) = (i : Int)) (fun k i => spec_AreVars.l0 k l i) (decide ((1 : Int) ≤ (l.length : Int)) && decide ((l.length : Int) ≤ 4)) false
    (fun i hi hT => by
      have e : rdOf ByteArray.empty l (i : Int) = l.getD i ByteArray.empty := by unfold rdOf; rw [Int.toNat_natCast]
      obtain ⟨K, hK⟩ := Evt.and (ev_specIsName (l.getD i ByteArray.empty) (hs _ (getD_mem _ _ _ hi))) (ev_specIndexOf l (l.getD i ByteArray.empty) h)
      refine ⟨K, fun k hk => ?_⟩
      obtain ⟨h1, h2⟩ := hK k hk
      dsimp only at h1 h2
      simp only [spec_AreVars.l0]
      rw [if_pos (by omega), if_pos (by omega), e, h1]
      simp only [Option.bind_some]
      rw [if_pos hT.1, h2]
      simp only [Option.bind_some]
      rw [if_pos hT.2])
    (fun i hi hT => by
      have e : rdOf ByteArray.empty l (i : Int) = l.getD i ByteArray.empty := by unfold rdOf; rw [Int.toNat_natCast]
      obtain ⟨K, hK⟩ := Evt.and (ev_specIsName (l.getD i ByteArray.empty) (hs _ (getD_mem _ _ _ hi))) (ev_specIndexOf l (l.getD i ByteArray.empty) h)
      refine ⟨K, fun k hk => ?_⟩
      obtain ⟨h1, h2⟩ := hK k hk
      dsimp only at h1 h2
      simp only [spec_AreVars.l0]
      rw [if_pos (by omega), if_pos (by omega), e, h1]
      simp only [Option.bind_some]
      by_cases c : nameB (l.getD i ByteArray.empty) = true
      · rw [if_pos c, h2]
        simp only [Option.bind_some]
        rw [if_neg (fun c2 => hT ⟨c, c2⟩)]
      · rw [if_neg c])
    ⟨0, fun k _ => by simp only [spec_AreVars.l0]; rw [if_neg (by omega), in_eq]; rfl⟩ (varsB l) (by rw [if_and_false]; rfl)
  exact Ev.congr (fun k => rfl) hc
theorem ev_implAreVars (l : List ByteArray) (h : l.length ≤ 9223372036854775807) (hs : ∀ s ∈ l, s.size ≤ 9223372036854775807) : Ev (fun k => impl_AreVars.f k l) (varsB l) := by
  have hc := all_loop l.length h (fun i => nameB (l.getD i ByteArray.empty) = true ∧ idx l (l.getD i ByteArray.empty) = (i : Int)) (fun k i => impl_AreVars.l0 k l l (l.length : Int) i) (decide ((1 : Int) ≤ (l.length : Int)) && decide ((l.length : Int) ≤ 4)) false
    (fun i hi hT => by
      have e : rdOf ByteArray.empty l (i : Int) = l.getD i ByteArray.empty := by unfold rdOf; rw [Int.toNat_natCast]
      obtain ⟨K, hK⟩ := Evt.and (ev_implIsName (l.getD i ByteArray.empty) (hs _ (getD_mem _ _ _ hi))) (ev_implIndexOf l (l.getD i ByteArray.empty) h)
      refine ⟨K, fun k hk => ?_⟩
      obtain ⟨h1, h2⟩ := hK k hk
      dsimp only at h1 h2
      simp only [impl_AreVars.l0]
      rw [if_pos (by omega), if_pos (by omega), if_pos (by omega), e, h1]
      simp only [Option.bind_some]
      rw [if_pos hT.1, h2]
      simp only [Option.bind_some]
      rw [if_pos hT.2])
    (fun i hi hT => by
      have e : rdOf ByteArray.empty l (i : Int) = l.getD i ByteArray.empty := by unfold rdOf; rw [Int.toNat_natCast]
      obtain ⟨K, hK⟩ := Evt.and (ev_implIsName (l.getD i ByteArray.empty) (hs _ (getD_mem _ _ _ hi))) (ev_implIndexOf l (l.getD i ByteArray.empty) h)
      refine ⟨K, fun k hk => ?_⟩
      obtain ⟨h1, h2⟩ := hK k hk
      dsimp only at h1 h2
      simp only [impl_AreVars.l0]
      rw [if_pos (by omega), if_pos (by omega), if_pos (by omega), e, h1]
      simp only [Option.bind_some]
      by_cases c : nameB (l.getD i ByteArray.empty) = true
      · rw [if_pos c, h2]
        simp only [Option.bind_some]
        rw [if_neg (fun c2 => hT ⟨c, c2⟩)]
      · rw [if_neg c])
    ⟨0, fun k _ => by simp only [impl_AreVars.l0]; rw [if_neg (by omega), wi_eq]; rfl⟩ (varsB l) (by rw [if_and_false]; rfl)
  exact Ev.congr (fun k => rfl) hc
def nm (a : Int) : Int := if a = 1 then 0 else if a = 2 ∨ a = 3 ∨ a = 6 ∨ a = 8 ∨ a = 9 ∨ a = 10 then 1 else if a = 4 ∨ a = 5 ∨ a = 7 ∨ a = 11 ∨ a = 12 then 2 else -1
theorem nm_cases (a : Int) : nm a = -1 ∨ nm a = 0 ∨ nm a = 1 ∨ nm a = 2 := by
  unfold nm
  split
  · omega
  · split
    · omega
    · split <;> omega
theorem specNames (k : Nat) (a : Int) : spec_NamesOf.f (k + 1) a = some (nm a) := by
  by_cases h : 1 ≤ a ∧ a ≤ 12
  · have h2 : a = 1 ∨ a = 2 ∨ a = 3 ∨ a = 4 ∨ a = 5 ∨ a = 6 ∨ a = 7 ∨ a = 8 ∨ a = 9 ∨ a = 10 ∨ a = 11 ∨ a = 12 := by omega
    rcases h2 with rfl | rfl | rfl | rfl | rfl | rfl | rfl | rfl | rfl | rfl | rfl | rfl <;> simp [spec_NamesOf.f, spec_NamesOf.j0, nm]
  · have e : nm a = -1 := by
      unfold nm
      rw [if_neg (by omega), if_neg (by omega), if_neg (by omega)]
    unfold spec_NamesOf.f
    rw [if_neg (by omega), if_neg (by omega), if_neg (by omega), if_neg (by omega), if_neg (by omega), if_neg (by omega)]
    have h10 : (a == 10) = false := beq_eq_false_iff_ne.mpr (by omega)
    simp only [spec_NamesOf.j0]
    rw [h10, if_neg (by decide), if_neg (by omega), if_neg (by omega), if_neg (by omega), if_neg (by omega), if_neg (by omega), e]
theorem implNames (a : Int) : impl_NamesOf.f a = some (nm a) := by
  by_cases h : 1 ≤ a ∧ a ≤ 12
  · have h2 : a = 1 ∨ a = 2 ∨ a = 3 ∨ a = 4 ∨ a = 5 ∨ a = 6 ∨ a = 7 ∨ a = 8 ∨ a = 9 ∨ a = 10 ∨ a = 11 ∨ a = 12 := by omega
    rcases h2 with rfl | rfl | rfl | rfl | rfl | rfl | rfl | rfl | rfl | rfl | rfl | rfl <;> decide +kernel
  · have e : nm a = -1 := by
      unfold nm
      rw [if_neg (by omega), if_neg (by omega), if_neg (by omega)]
    have h3 : (decide (1 ≤ a) && decide (a ≤ 12)) = false := by simpa using h
    rw [e]
    simp [impl_NamesOf.f, wi_eq, h3]
def namesB (v : List ByteArray) (m : Int) (s t : ByteArray) : Bool :=
  (if 0 < m then decide (idx v s ≥ 0) else decide (s.toList = [])) && ((if 1 < m then decide (idx v t ≥ 0) else decide (t.toList = [])) && decide (m ≥ 0))
theorem ev_specIsStmt (v : List ByteArray) (a : Int) (s t : ByteArray) (h : v.length ≤ 9223372036854775807) (hs : ∀ s ∈ v, s.size ≤ 9223372036854775807) : Ev (fun k => spec_IsStmt.f k v a s t) (varsB v && namesB v (nm a) s t) := by
  obtain ⟨K, hK⟩ := Evt.and (ev_specAreVars v h hs) (Evt.and (ev_specIndexOf v s h) (ev_specIndexOf v t h))
  refine ⟨K + 1, fun k hk => ?_⟩
  obtain ⟨k, rfl⟩ : ∃ m, k = m + 1 := ⟨k - 1, by omega⟩
  obtain ⟨g1, _, _⟩ := hK (k + 1) (by omega)
  obtain ⟨_, g2, g3⟩ := hK k (by omega)
  dsimp only at g1 g2 g3 ⊢
  unfold spec_IsStmt.f
  rw [specNames]
  simp only [Option.bind_some]
  rw [g1]
  simp only [Option.bind_some, spec_IsStmt.j0, g2, g3]
  cases hv : varsB v with
  | false => simp
  | true =>
    unfold namesB
    rcases nm_cases a with e | e | e | e <;> rw [e]
    · simp
    · by_cases c1 : s.toList = [] <;> by_cases c2 : t.toList = [] <;> simp [c1, c2]
    · by_cases c1 : idx v s ≥ 0 <;> by_cases c2 : t.toList = [] <;> simp [c1, c2]
    · by_cases c1 : idx v s ≥ 0 <;> by_cases c2 : idx v t ≥ 0 <;> simp [c1, c2]
theorem ev_hasNames (v : List ByteArray) (a : Int) (s t : ByteArray) (h : v.length ≤ 9223372036854775807) : Ev (fun k => impl_Stmt_hasNames_IsStmt_1.f k a s t v) (namesB v (nm a) s t) := by
  obtain ⟨K, hK⟩ := Evt.and (ev_slicesIndex v s h) (ev_slicesIndex v t h)
  refine ⟨K + 3, fun k hk => ?_⟩
  obtain ⟨k, rfl⟩ : ∃ m, k = m + 3 := ⟨k - 3, by omega⟩
  obtain ⟨a1, _⟩ := hK (k + 2) (by omega)
  obtain ⟨_, b2⟩ := hK (k + 1) (by omega)
  dsimp only at a1 b2 ⊢
  have l2 : (([s, t] : List ByteArray).length : Int) = 2 := rfl
  have r0 : rdOf ByteArray.empty [s, t] 0 = s := rfl
  have r1 : rdOf ByteArray.empty [s, t] 1 = t := rfl
  have w0 : wrap64 (0 + 1) = 1 := by unfold wrap64; omega
  have w1 : wrap64 (1 + 1) = 2 := by unfold wrap64; omega
  have i0 : (0 : Int) < 2 := by decide
  have i1 : (1 : Int) < 2 := by decide
  have i2 : ¬ (2 : Int) < 2 := by decide
  have j0 : (0 : Int) ≤ 0 := by decide
  have j1 : (0 : Int) ≤ 1 := by decide
  unfold impl_Stmt_hasNames_IsStmt_1.f
  rw [implNames]
  simp only [Option.bind_some, impl_Stmt_hasNames_IsStmt_1.l0, impl_IsStmt_1_captured.f, slices_Contains_string_string.f, l2, i0, i1, i2, j0, j1, if_true, if_false, r0, r1, w0, w1, a1, b2]
  unfold namesB
  rcases nm_cases a with e | e | e | e <;> rw [e]
  · by_cases c1 : s.toList = [] <;> by_cases c2 : t.toList = [] <;> simp [c1, c2]
  · by_cases c1 : s.toList = [] <;> by_cases c2 : t.toList = [] <;> simp [c1, c2]
  · by_cases c1 : idx v s ≥ 0 <;> by_cases c2 : t.toList = [] <;> simp [c1, c2]
  · by_cases c1 : idx v s ≥ 0 <;> by_cases c2 : idx v t ≥ 0 <;> simp [c1, c2]
theorem ev_implIsStmt (v : List ByteArray) (a : Int) (s t : ByteArray) (h : v.length ≤ 9223372036854775807) (hs : ∀ s ∈ v, s.size ≤ 9223372036854775807) : Ev (fun k => impl_IsStmt.f k v a s t) (varsB v && namesB v (nm a) s t) := by
  obtain ⟨K, hK⟩ := Evt.and (ev_implAreVars v h hs) (ev_hasNames v a s t h)
  refine ⟨K, fun k hk => ?_⟩
  obtain ⟨g1, g2⟩ := hK k hk
  dsimp only at g1 g2 ⊢
  unfold impl_IsStmt.f
  rw [g1, g2]
  cases hv : varsB v <;> simp
def dd (u : Nat) (l : List UInt8) : List UInt8 := if u = 0 then l else Go.Lib.decDigits u ++ l
theorem dd_step (u : Nat) (h : 0 < u) (l : List UInt8) : dd u l = dd (u / 10) (UInt8.ofNat (48 + u % 10) :: l) := by
  unfold dd
  rw [if_neg (by omega), Go.Lib.decDigits]
  by_cases c : u < 10
  · rw [dif_pos c, if_pos (by omega), Nat.mod_eq_of_lt c]
    rfl
  · rw [dif_neg c, if_neg (by omega)]
    simp
theorem cat (a l : List UInt8) : (⟨a.toArray⟩ : ByteArray) ++ ⟨l.toArray⟩ = ⟨(a ++ l).toArray⟩ := by
  apply ByteArray.ext
  simp [ByteArray.data_append]
theorem sz (l : List UInt8) : (⟨l.toArray⟩ : ByteArray).size = l.length := by
  simp [ByteArray.size]
theorem str1 (n : Nat) (h : n < 10) : strOfNums [(48 + (n : Int)) % 256] = ⟨[UInt8.ofNat (48 + n)].toArray⟩ := by
  unfold strOfNums
  have : ((48 + (n : Int)) % 256).toNat = 48 + n := by omega
  simp [this]
theorem endF (b : Bool) (l : List UInt8) (h : l.length ≤ 4611686018427387904) : Ev (fun k => spec_FormatInt.l0 k 0 b ⟨l.toArray⟩) ⟨((if b then [45] else []) ++ dd 0 l).toArray⟩ := by
  refine Ev.last ⟨0, fun k _ => ?_⟩
  simp only [spec_FormatInt.l0, if_true]
  cases b with
  | false => rfl
  | true =>
    rw [if_pos rfl, if_pos (by rw [sz]; omega)]
    have := cat [45] l
    exact congrArg some this
theorem loopP (b : Bool) : ∀ (m u : Nat), u ≤ m → u ≤ 9223372036854775807 → ∀ l : List UInt8, l.length = 0 ∨ l.length + u ≤ 4611686018427387904 → Ev (fun k => spec_FormatInt.l0 k (u : Int) b ⟨l.toArray⟩) ⟨((if b then [45] else []) ++ dd u l).toArray⟩ := by
  intro m
  induction m with
  | zero =>
    intro u hu h1 l hl
    obtain rfl : u = 0 := by omega
    exact endF b l (by omega)
  | succ m ih =>
    intro u hu h1 l hl
    by_cases c : u = 0
    · subst c
      exact endF b l (by omega)
    · have hr := ih (u / 10) (by omega) (by omega) (UInt8.ofNat (48 + u % 10) :: l) (by simp only [List.length_cons]; omega)
      rw [dd_step u (by omega)]
      refine Ev.next ⟨0, fun k _ => ?_⟩ hr
      have e1 : Int.tmod (u : Int) 10 = ((u % 10 : Nat) : Int) := by rw [Int.tmod_eq_emod_of_nonneg (by omega)]; rfl
      have e2 : Int.tdiv (u : Int) 10 = ((u / 10 : Nat) : Int) := by rw [Int.tdiv_eq_ediv_of_nonneg (by omega)]; rfl
      have hlt : u % 10 < 10 := Nat.mod_lt _ (by omega)
      simp only [spec_FormatInt.l0]
      rw [if_neg (by omega), e1, e2, if_neg (by omega), w64 (x := 48 + ((u % 10 : Nat) : Int)) (by omega) (by omega)]
      simp only [Option.bind_some]
      rw [str1 _ hlt, cat, if_pos (by rw [sz, sz]; simp only [List.length_cons, List.length_nil]; omega), w64 (by omega) (by omega)]
      rfl
theorem loopN (b : Bool) : ∀ (m u : Nat), u ≤ m → u ≤ 9223372036854775808 → ∀ l : List UInt8, l.length = 0 ∨ l.length + u ≤ 4611686018427387904 → Ev (fun k => spec_FormatInt.l0 k (-(u : Int)) b ⟨l.toArray⟩) ⟨((if b then [45] else []) ++ dd u l).toArray⟩ := by
  intro m
  induction m with
  | zero =>
    intro u hu h1 l hl
    obtain rfl : u = 0 := by omega
    exact endF b l (by omega)
  | succ m ih =>
    intro u hu h1 l hl
    by_cases c : u = 0
    · subst c
      exact endF b l (by omega)
    · have hr := ih (u / 10) (by omega) (by omega) (UInt8.ofNat (48 + u % 10) :: l) (by simp only [List.length_cons]; omega)
      rw [dd_step u (by omega)]
      refine Ev.next ⟨0, fun k _ => ?_⟩ hr
      have e1 : Int.tmod (-(u : Int)) 10 = -((u % 10 : Nat) : Int) := by rw [Int.neg_tmod, Int.tmod_eq_emod_of_nonneg (by omega)]; rfl
      have e2 : Int.tdiv (-(u : Int)) 10 = -((u / 10 : Nat) : Int) := by rw [Int.neg_tdiv, Int.tdiv_eq_ediv_of_nonneg (by omega)]; rfl
      have hlt : u % 10 < 10 := Nat.mod_lt _ (by omega)
      simp only [spec_FormatInt.l0]
      rw [if_neg (by omega), e1, e2]
      by_cases c2 : u % 10 = 0
      · rw [if_neg (by omega), w64 (x := 48 + -((u % 10 : Nat) : Int)) (by omega) (by omega), show (48 : Int) + -((u % 10 : Nat) : Int) = 48 + ((u % 10 : Nat) : Int) by omega]
        simp only [Option.bind_some]
        rw [str1 _ hlt, cat, if_pos (by rw [sz, sz]; simp only [List.length_cons, List.length_nil]; omega), w64 (by omega) (by omega)]
        rfl
      · rw [if_pos (by omega), Int.neg_neg, w64 (x := ((u % 10 : Nat) : Int)) (by omega) (by omega), w64 (x := 48 + ((u % 10 : Nat) : Int)) (by omega) (by omega)]
        simp only [Option.bind_some]
        rw [str1 _ hlt, cat, if_pos (by rw [sz, sz]; simp only [List.length_cons, List.length_nil]; omega), w64 (by omega) (by omega)]
        rfl
theorem ev_specFormatInt (a : Int) (h0 : -9223372036854775808 ≤ a) (h1 : a ≤ 9223372036854775807) : Ev (fun k => spec_FormatInt.f k a) ⟨(Go.Lib.itoa a).toArray⟩ := by
  by_cases c : a = 0
  · subst c
    refine Ev.one (fun k => ?_)
    unfold spec_FormatInt.f
    rw [if_pos rfl]
    have : Go.Lib.itoa 0 = [48] := by
      unfold Go.Lib.itoa
      rw [if_neg (by omega), Go.Lib.decDigits, dif_pos (by decide)]
      rfl
    rw [this]
  · by_cases cn : a < 0
    · obtain ⟨u, hu⟩ : ∃ u : Nat, a = -(u : Int) := ⟨a.natAbs, by omega⟩
      have hr := loopN true u u (Nat.le_refl _) (by omega) [] (Or.inl rfl)
      have e : Go.Lib.itoa a = (if true then [45] else []) ++ dd u [] := by
        unfold Go.Lib.itoa dd
        rw [if_pos cn, if_pos rfl, if_neg (by omega), show a.natAbs = u by omega]
        simp
      rw [e]
      refine Ev.congr (fun k => ?_) hr
      unfold spec_FormatInt.f
      rw [if_neg c, decide_eq_true cn, hu]
    · obtain ⟨u, hu⟩ : ∃ u : Nat, a = (u : Int) := ⟨a.toNat, by omega⟩
      have hr := loopP false u u (Nat.le_refl _) (by omega) [] (Or.inl rfl)
      have e : Go.Lib.itoa a = (if false then [45] else []) ++ dd u [] := by
        unfold Go.Lib.itoa dd
        rw [if_neg cn, if_neg (by decide), if_neg (by omega), show a.toNat = u by omega]
        simp
      rw [e]
      refine Ev.congr (fun k => ?_) hr
      unfold spec_FormatInt.f
      rw [if_neg c, decide_eq_false cn, hu]
theorem wf64 {a : Int} (h : (Lit.int .i64 a).wf = true) : -9223372036854775808 ≤ a ∧ a ≤ 9223372036854775807 := by
  have h1 : (decide (IntKind.i64.min ≤ a) && decide (a ≤ IntKind.i64.max)) = true := h
  have e1 : IntKind.i64.min = -9223372036854775808 := by decide
  have e2 : IntKind.i64.max = 9223372036854775807 := by decide
  rw [e1, e2] at h1
  simpa using h1
def nb (l : List UInt8) : List Int := l.map fun b => (b.toNat : Int)
theorem nb_append (a b : List UInt8) : nb (a ++ b) = nb a ++ nb b := List.map_append
theorem strOf (l : List UInt8) : strOfNums (nb l) = ⟨l.toArray⟩ := by
  unfold strOfNums nb
  rw [List.map_map]
  have : ((fun n : Int => UInt8.ofNat n.toNat) ∘ fun b : UInt8 => (b.toNat : Int)) = id := by
    funext b
    simp
  rw [this, List.map_id]
def ds (l : List ByteArray) : List (List UInt8) := l.map (·.data.toList)
theorem join_succ (l : List (List UInt8)) (s : List UInt8) (i : Nat) (h : i < l.length) : Go.Lib.join (l.take (i + 1)) s = if 0 < i then Go.Lib.join (l.take i) s ++ s ++ l[i] else l[i] := by
  cases l with
  | nil => simp at h
  | cons x r =>
    cases i with
    | zero => rw [if_neg (by omega)]; simp [Go.Lib.join_one]
    | succ i =>
      have hi : i < r.length := by simpa using h
      rw [if_pos (by omega)]
      have e : r.take (i + 1) = r.take i ++ [r[i]] := by rw [List.take_append_getElem]
      simp only [List.take_succ_cons, List.getElem_cons_succ]
      rw [Go.Lib.join_cons, Go.Lib.join_cons, e]
      unfold Go.Lib.joinTail
      rw [List.map_append, List.flatten_append]
      simp
theorem size_rd (l : List ByteArray) (i : Nat) (h : i < l.length) : ((rdOf ByteArray.empty l (i : Int)).size : Int) = ((ds l)[i]'(by simpa [ds] using h)).length := by
  rw [rdOf_at _ _ _ h]
  simp only [ds, List.getElem_map, Array.length_toList]
  rfl
theorem join_len (l : List ByteArray) (s : ByteArray) (hs : s.size ≤ 1048576) : ∀ i, i ≤ l.length → ((Go.Lib.join ((ds l).take i) s.data.toList).length : Int) ≤ i * 1048576 + ((l.take i).map fun s => (s.size : Int)).foldr (· + ·) 0 := by
  intro i
  induction i with
  | zero => intro _; simp [Go.Lib.join_nil]
  | succ i ih =>
    intro h
    have hi := ih (by omega)
    have hz : s.data.toList.length ≤ 1048576 := by rw [Array.length_toList]; exact hs
    rw [join_succ _ _ _ (by simp only [ds, List.length_map]; omega), sums_take l i (by omega), size_rd l i (by omega)]
    split
    · rw [List.length_append, List.length_append]
      omega
    · have := sums_nonneg (l.take i)
      omega
theorem ev_specJoin (l : List ByteArray) (s : ByteArray) (hs : s.size ≤ 1048576) (hw : wS l ≤ 1048576) : Ev (fun k => spec_Join.f k l s) ⟨(Go.Lib.join (ds l) s.data.toList).toArray⟩ := by
  have hl : l.length ≤ 1048576 := by have := sums_nonneg l; unfold wS at hw; omega
  have hc := loop_is (σ := List Int) l.length (fun k x i => spec_Join.l0 k l s x i) (fun i x => x = nb (Go.Lib.join ((ds l).take i) s.data.toList)) ⟨(Go.Lib.join (ds l) s.data.toList).toArray⟩
    (fun i x hi hx => by
      have hd : i < (ds l).length := by simpa [ds] using hi
      have b1 := join_len l s hs i (by omega)
      have b2 := sums_le l i
      have b3 := sums_take l i hi
      have b4 := sums_le l (i + 1)
      have hxl : x.length = (Go.Lib.join ((ds l).take i) s.data.toList).length := by rw [hx]; simp [nb]
      have e2 : bytesOf (rdOf ByteArray.empty l (i : Int)) = nb ((ds l)[i]) := by rw [rdOf_at _ _ _ hi]; simp only [ds, List.getElem_map]; rfl
      have e3 : bytesOf s = nb s.data.toList := rfl
      have b5 := sums_nonneg (l.take i)
      unfold wS at hw
      have hxb : (x.length : Int) ≤ 1099512676352 := by omega
      have hyb : ((rdOf ByteArray.empty l (i : Int)).size : Int) ≤ 1048576 := by omega
      refine Or.inl ⟨nb (Go.Lib.join ((ds l).take (i + 1)) s.data.toList), rfl, 0, fun k _ => ?_⟩
      simp only [spec_Join.l0]
      rw [if_pos (by omega), join_succ _ _ _ hd]
      by_cases c : 0 < i
      · rw [if_pos c, if_pos (by omega), if_pos (by omega)]
        simp only [Option.bind_some]
        rw [if_pos (by omega), if_pos (by rw [List.length_append, bytesOf_length]; omega), up64 (by omega), e2, e3, hx, nb_append, nb_append]
      · rw [if_neg c, if_neg (by omega), if_pos (by omega), if_pos (by omega), up64 (by omega), e2]
        obtain rfl : i = 0 := by omega
        have : x = [] := by rw [hx]; simp [Go.Lib.join_nil, nb]
        rw [this, List.nil_append])
    (fun x hx => ⟨0, fun k _ => by
      simp only [spec_Join.l0]
      rw [if_neg (by omega), hx, List.take_of_length_le (by simp [ds]), strOf]⟩)
    [] (by simp [Go.Lib.join_nil, nb])
  exact Ev.congr (fun k => rfl) hc
theorem implJoin_eq (l : List ByteArray) (s : ByteArray) (hs : s.size ≤ 1048576) (hw : wS l ≤ 1048576) : impl_Join.f l s = some ⟨(Go.Lib.join (ds l) s.data.toList).toArray⟩ := by
  have hl : l.length ≤ 1048576 := by have := sums_nonneg l; unfold wS at hw; omega
  have b1 := join_len l s hs l.length (by omega)
  rw [List.take_of_length_le (by simp [ds]), List.take_of_length_le (by omega)] at b1
  unfold wS at hw
  unfold impl_Join.f strings_Join.f
  rw [if_pos]
  · rfl
  · constructor
    · omega
    · have b2 : ((Go.Lib.join (l.map (·.data.toList)) s.data.toList).length : Int) ≤ 1099512676352 := by
        have b3 : ((Go.Lib.join (ds l) s.data.toList).length : Int) ≤ 1099512676352 := by omega
        exact b3
      omega
theorem rdE (l : List S52) (i : Nat) : rd_T52 l (i : Int) = l.getD i z52 := by unfold rd_T52; rw [Int.toNat_natCast]
def stmtB (v : List ByteArray) (x : S50) : Bool := varsB v && namesB v (nm x.f0) x.f1 x.f2
def edgeB (v : List ByteArray) (p : Int) (x : S52) : Bool := (decide (0 ≤ x.f0) && decide (x.f0 ≤ wrap64 (p - 1))) && ((decide (0 ≤ x.f1) && decide (x.f1 ≤ wrap64 (p - 1))) && stmtB v x.f2)
def edgesB (v : List ByteArray) (p : Int) (l : List S52) : Bool := decide (∀ i : Nat, i < l.length → edgeB v p (l.getD i z52) = true)
def restB (v : List ByteArray) (p : Int) (l : List S52) : Bool := varsB v && ((decide (1 ≤ p) && decide (p ≤ 12)) && decide ((l.length : Int) ≤ 24))
theorem ev_specIsProgram (v : List ByteArray) (p : Int) (l : List S52) (hv : v.length ≤ 1048576) (hs : ∀ s ∈ v, s.size ≤ 9223372036854775807) (hl : l.length ≤ 1048576) : Ev (fun k => spec_IsProgram.f k v p l) (edgesB v p l && restB v p l) := by
  obtain ⟨K, hK⟩ := ev_specAreVars v (by omega) hs
  have hc := all_loop l.length (by omega) (fun i => edgeB v p (l.getD i z52) = true) (fun k i => spec_IsProgram.l0 k i v p l) (restB v p l) false
    (fun i hi hT => by
      obtain ⟨K1, h1⟩ := ev_specIsStmt v (l.getD i z52).f2.f0 (l.getD i z52).f2.f1 (l.getD i z52).f2.f2 (by omega) hs
      refine ⟨K1, fun k hk => ?_⟩
      have g := h1 k hk
      dsimp only at g
      simp only [spec_IsProgram.l0]
      rw [if_pos (by omega), if_pos (by omega), rdE, in_eq, in_eq, g]
      unfold edgeB stmtB at hT
      obtain ⟨t1, t2⟩ := Bool.and_eq_true_iff.mp hT
      obtain ⟨t2, t3⟩ := Bool.and_eq_true_iff.mp t2
      simp only [Option.bind_some]
      rw [if_pos t1, if_pos t2, if_pos t3])
    (fun i hi hT => by
      obtain ⟨K1, h1⟩ := ev_specIsStmt v (l.getD i z52).f2.f0 (l.getD i z52).f2.f1 (l.getD i z52).f2.f2 (by omega) hs
      refine ⟨K1, fun k hk => ?_⟩
      have g := h1 k hk
      dsimp only at g
      simp only [spec_IsProgram.l0]
      rw [if_pos (by omega), if_pos (by omega), rdE, in_eq, in_eq, g]
      unfold edgeB stmtB at hT
      simp only [Option.bind_some]
      generalize l.getD i z52 = x at *
      by_cases c1 : (decide (0 ≤ x.f0) && decide (x.f0 ≤ wrap64 (p - 1))) = true
      · rw [if_pos c1]
        by_cases c2 : (decide (0 ≤ x.f1) && decide (x.f1 ≤ wrap64 (p - 1))) = true
        · rw [if_pos c2, if_neg (fun c3 => hT (Bool.and_eq_true_iff.mpr ⟨c1, Bool.and_eq_true_iff.mpr ⟨c2, c3⟩⟩))]
        · rw [if_neg c2]
      · rw [if_neg c1])
    ⟨K, fun k hk => by
      have g := hK k hk
      dsimp only at g
      simp only [spec_IsProgram.l0]
      rw [if_neg (by omega), in_eq, g]
      unfold restB
      simp only [Option.bind_some]
      by_cases c1 : (decide ((1 : Int) ≤ p) && decide (p ≤ 12)) = true <;> by_cases c2 : varsB v = true <;> simp [c1, c2]⟩
    (edgesB v p l && restB v p l) (by
      unfold edgesB
      by_cases c : ∀ i : Nat, i < l.length → edgeB v p (l.getD i z52) = true
      · rw [if_pos c, decide_eq_true c, Bool.true_and]
      · rw [if_neg c, decide_eq_false c, Bool.false_and])
  exact Ev.congr (fun k => rfl) hc
theorem ev_captured (v : List ByteArray) (p : Int) (l : List S52) (x : S52) (hv : v.length ≤ 1048576) (hs : ∀ s ∈ v, s.size ≤ 9223372036854775807) : Ev (fun k => impl_IsProgram_1_captured.f k x.f0 x.f1 x.f2.f0 x.f2.f1 x.f2.f2 v p l) (!(edgeB v p x)) := by
  obtain ⟨K, hK⟩ := ev_implIsStmt v x.f2.f0 x.f2.f1 x.f2.f2 (by omega) hs
  refine ⟨K, fun k hk => ?_⟩
  have g := hK k hk
  dsimp only at g ⊢
  unfold impl_IsProgram_1_captured.f edgeB stmtB
  rw [wi_eq, wi_eq, g]
  simp only [Option.bind_some]
  by_cases c1 : (decide (0 ≤ x.f0) && decide (x.f0 ≤ wrap64 (p - 1))) = true
  · rw [if_pos c1, c1]
    by_cases c2 : (decide (0 ≤ x.f1) && decide (x.f1 ≤ wrap64 (p - 1))) = true
    · rw [if_pos c2, c2]; rfl
    · rw [if_neg c2, Bool.eq_false_iff.mpr c2]; rfl
  · rw [if_neg c1, Bool.eq_false_iff.mpr c1]; rfl
theorem ev_implIsProgram (v : List ByteArray) (p : Int) (l : List S52) (hv : v.length ≤ 1048576) (hs : ∀ s ∈ v, s.size ≤ 9223372036854775807) (hl : l.length ≤ 1048576) : Ev (fun k => impl_IsProgram.f k v p l) (edgesB v p l && restB v p l) := by
  obtain ⟨r, hi, hr⟩ := index_loop l.length (by omega) (fun i => edgeB v p (l.getD i z52) = true) (fun k i => impl_Edge_IsProgram_1_88.l0 k l (l.length : Int) i v p l)
    (fun i hi hT => by
      obtain ⟨K1, h1⟩ := ev_captured v p l (l.getD i z52) hv hs
      refine ⟨K1, fun k hk => ?_⟩
      have g := h1 k hk
      dsimp only at g
      simp only [impl_Edge_IsProgram_1_88.l0]
      rw [if_pos (by omega), if_pos (by omega), if_pos (by omega), rdE, g, hT]
      simp only [Option.bind_some]
      rw [if_neg (by decide)])
    (fun i hi hT => by
      obtain ⟨K1, h1⟩ := ev_captured v p l (l.getD i z52) hv hs
      refine ⟨K1, fun k hk => ?_⟩
      have g := h1 k hk
      dsimp only at g
      simp only [impl_Edge_IsProgram_1_88.l0]
      rw [if_pos (by omega), if_pos (by omega), if_pos (by omega), rdE, g, Bool.eq_false_iff.mpr hT]
      simp only [Option.bind_some]
      rw [if_pos (by decide)])
    ⟨0, fun k _ => by simp only [impl_Edge_IsProgram_1_88.l0]; rw [if_neg (by omega)]⟩
  obtain ⟨K, hK⟩ := Evt.and hi (ev_implAreVars v (by omega) hs)
  refine ⟨K, fun k hk => ?_⟩
  obtain ⟨g1, g2⟩ := hK k hk
  dsimp only at g1 g2 ⊢
  unfold impl_IsProgram.f impl_Edge_IsProgram_1_54.f impl_Edge_IsProgram_1_88.f
  rw [g1, g2, wi_eq]
  simp only [Option.bind_some, hr]
  unfold restB edgesB
  by_cases c1 : varsB v = true
  · rw [if_pos c1, c1, Bool.true_and]
    by_cases c2 : (decide ((1 : Int) ≤ p) && decide (p ≤ 12)) = true
    · rw [if_pos c2, c2, Bool.true_and]
      by_cases c3 : (l.length : Int) ≤ 24
      · rw [if_neg (by omega), decide_eq_true c3, Bool.and_true, Bool.not_not]
      · rw [if_pos (by omega), decide_eq_false c3, Bool.and_false]
    · rw [if_neg c2, Bool.eq_false_iff.mpr c2, Bool.false_and, Bool.and_false]
  · rw [if_neg c1, Bool.eq_false_iff.mpr c1, Bool.false_and, Bool.and_false]
def namesN (m : Int) (s t : ByteArray) : Bool :=
  (if 0 < m then nameB s else decide (s.toList = [])) && ((if 1 < m then nameB t else decide (t.toList = [])) && decide (m ≥ 0))
theorem ev_hasNames0 (a : Int) (s t : ByteArray) (hs : s.size ≤ 9223372036854775807) (ht : t.size ≤ 9223372036854775807) : Ev (fun k => impl_Stmt_hasNames_IsName.f k a s t) (namesN (nm a) s t) := by
  obtain ⟨K, hK⟩ := Evt.and (ev_implIsName s hs) (ev_implIsName t ht)
  refine ⟨K + 3, fun k hk => ?_⟩
  obtain ⟨k, rfl⟩ : ∃ m, k = m + 3 := ⟨k - 3, by omega⟩
  obtain ⟨a1, _⟩ := hK (k + 2) (by omega)
  obtain ⟨_, b2⟩ := hK (k + 1) (by omega)
  dsimp only at a1 b2 ⊢
  have l2 : (([s, t] : List ByteArray).length : Int) = 2 := rfl
  have r0 : rdOf ByteArray.empty [s, t] 0 = s := rfl
  have r1 : rdOf ByteArray.empty [s, t] 1 = t := rfl
  have w0 : wrap64 (0 + 1) = 1 := by unfold wrap64; omega
  have w1 : wrap64 (1 + 1) = 2 := by unfold wrap64; omega
  have i0 : (0 : Int) < 2 := by decide
  have i1 : (1 : Int) < 2 := by decide
  have i2 : ¬ (2 : Int) < 2 := by decide
  have j0 : (0 : Int) ≤ 0 := by decide
  have j1 : (0 : Int) ≤ 1 := by decide
  unfold impl_Stmt_hasNames_IsName.f
  rw [implNames]
  simp only [Option.bind_some, impl_Stmt_hasNames_IsName.l0, l2, i0, i1, i2, j0, j1, if_true, if_false, r0, r1, w0, w1, a1, b2]
  unfold namesN
  rcases nm_cases a with e | e | e | e <;> rw [e]
  · by_cases c1 : s.toList = [] <;> by_cases c2 : t.toList = [] <;> simp [c1, c2]
  · by_cases c1 : s.toList = [] <;> by_cases c2 : t.toList = [] <;> simp [c1, c2]
  · by_cases c1 : nameB s = true <;> by_cases c2 : t.toList = [] <;> simp [c1, c2]
  · by_cases c1 : nameB s = true <;> by_cases c2 : nameB t = true <;> simp [c1, c2]
theorem nameB_size (s : ByteArray) (h : nameB s = true) : 1 ≤ s.size ∧ s.size ≤ 2 := by
  unfold nameB at h
  simp only [Bool.and_eq_true, decide_eq_true_eq] at h
  omega
theorem toList_nil (s : ByteArray) : s.toList = [] ↔ s.size = 0 := by
  have e : s.toList = s.data.toList := Go.ByteArray.toList_mk s.data.toList
  have l : s.data.toList.length = s.size := Array.length_toList
  rw [e, ← l]
  exact List.length_eq_zero_iff.symm
theorem nil_name (s : ByteArray) (h : s.toList = []) : nameB s = false := by
  cases hb : nameB s with
  | false => rfl
  | true => have := nameB_size s hb; have := (toList_nil s).mp h; omega
theorem name_nil (s : ByteArray) (h : nameB s = true) : s.toList ≠ [] := fun e => by rw [nil_name s e] at h; cases h
theorem nil_eq (s : ByteArray) (h : s.toList = []) : s = ⟨#[]⟩ := by
  have h := (toList_nil s).mp h
  obtain ⟨d⟩ := s
  obtain ⟨l⟩ := d
  match l, h with
  | [], _ => rfl
def formT (a : Int) (s t : ByteArray) : ByteArray := ⟨(Go.Proofs.YtndkkpjofddfjaaGreatDoorRepl.repl s.data.toList t.data.toList (Go.Proofs.YtndkkpjofddfjaaGreatDoorRepl.formList.getD (a - 1).toNat ByteArray.empty).data.toList).toArray⟩
def stText (a : Int) (s t : ByteArray) : ByteArray := if namesN (nm a) s t = true then formT a s t else ⟨#[]⟩
theorem names_sizes (m : Int) (s t : ByteArray) (h : namesN m s t = true) : 0 ≤ m ∧ s.size ≤ 2 ∧ t.size ≤ 2 := by
  unfold namesN at h
  simp only [Bool.and_eq_true, decide_eq_true_eq] at h
  obtain ⟨h1, h2, h3⟩ := h
  refine ⟨h3, ?_, ?_⟩
  · split at h1
    · exact (nameB_size s h1).2
    · have := (toList_nil s).mp (of_decide_eq_true h1); omega
  · split at h2
    · exact (nameB_size t h2).2
    · have := (toList_nil t).mp (of_decide_eq_true h2); omega
theorem nm_range (a : Int) (h : 0 ≤ nm a) : a = 1 ∨ a = 2 ∨ a = 3 ∨ a = 4 ∨ a = 5 ∨ a = 6 ∨ a = 7 ∨ a = 8 ∨ a = 9 ∨ a = 10 ∨ a = 11 ∨ a = 12 := by
  unfold nm at h
  split at h
  · omega
  · split at h
    · omega
    · split at h
      · omega
      · omega
theorem ev_implText (a : Int) (s t : ByteArray) (hs : s.size ≤ 9223372036854775807) (ht : t.size ≤ 9223372036854775807) : Ev (fun k => impl_StmtText.f k a s t) (stText a s t) := by
  obtain ⟨K, hK⟩ := ev_hasNames0 a s t hs ht
  refine ⟨K, fun k hk => ?_⟩
  have h1 := hK k hk
  dsimp only at h1
  show impl_StmtText.f k a s t = _
  unfold impl_StmtText.f stText
  rw [h1]
  simp only [Option.bind_some]
  by_cases c : namesN (nm a) s t = true
  · obtain ⟨h2, h3, h4⟩ := names_sizes _ _ _ c
    have h5 := nm_range a h2
    rw [if_pos c, if_pos c, if_pos ⟨by omega, by omega, h3, h4⟩]
    rfl
  · rw [if_neg c, if_neg c]
theorem cat_eq (l : List UInt8) (s : ByteArray) (h : s.data.toList = l) : s = ⟨l.toArray⟩ := by
  subst h
  rfl
theorem form_of (a : Int) (s t x : ByteArray) (h : x.data.toList = Go.Proofs.YtndkkpjofddfjaaGreatDoorRepl.repl s.data.toList t.data.toList (Go.Proofs.YtndkkpjofddfjaaGreatDoorRepl.formList.getD (a - 1).toNat ByteArray.empty).data.toList) : some x = some (formT a s t) := congrArg some (cat_eq _ _ h)
theorem spec_j0_true (k : Nat) (a : Int) (s t : ByteArray) : spec_StmtText.j0 (k + 1) true a s t = some ⟨#[]⟩ := by
  simp only [spec_StmtText.j0]
  rw [if_pos trivial]
theorem spec_j0_false (k : Nat) (a : Int) (s t : ByteArray) (h : 0 ≤ nm a) (hs : s.size ≤ 2) (ht : t.size ≤ 2) : spec_StmtText.j0 (k + 1) false a s t = some (formT a s t) := by
  have e1 : (⟨#[61]⟩ : ByteArray).size = 1 := rfl
  have e2 : (⟨#[46, 110, 61]⟩ : ByteArray).size = 3 := rfl
  have e3 : (⟨#[61, 61]⟩ : ByteArray).size = 2 := rfl
  have e4 : (⟨#[33, 61]⟩ : ByteArray).size = 2 := rfl
  have h1 : (s.size + 1 ≤ 9223372036854775807) = True := eq_true (by omega)
  have h2 : (s.size + 2 ≤ 9223372036854775807) = True := eq_true (by omega)
  have h3 : (s.size + 3 ≤ 9223372036854775807) = True := eq_true (by omega)
  have h4 : (s.size + 4 ≤ 9223372036854775807) = True := eq_true (by omega)
  have h5 : (s.size + 5 ≤ 9223372036854775807) = True := eq_true (by omega)
  have h5' : (5 + s.size ≤ 9223372036854775807) = True := eq_true (by omega)
  have h6 : (s.size + 6 ≤ 9223372036854775807) = True := eq_true (by omega)
  have h7 : (s.size + 7 ≤ 9223372036854775807) = True := eq_true (by omega)
  have g1 : ((s ++ (⟨#[61]⟩ : ByteArray)).size + t.size ≤ 9223372036854775807) = True := eq_true (by rw [ByteArray.size_append, e1]; omega)
  have g2 : ((s ++ (⟨#[46, 110, 61]⟩ : ByteArray)).size + t.size ≤ 9223372036854775807) = True := eq_true (by rw [ByteArray.size_append, e2]; omega)
  have g3 : ((s ++ (⟨#[61, 61]⟩ : ByteArray)).size + t.size ≤ 9223372036854775807) = True := eq_true (by rw [ByteArray.size_append, e3]; omega)
  have g4 : ((s ++ (⟨#[33, 61]⟩ : ByteArray)).size + t.size ≤ 9223372036854775807) = True := eq_true (by rw [ByteArray.size_append, e4]; omega)
  have g5 : (((s ++ (⟨#[61]⟩ : ByteArray)) ++ t).size + 2 ≤ 9223372036854775807) = True := eq_true (by rw [ByteArray.size_append, ByteArray.size_append, e1]; omega)
  rcases nm_range a h with rfl | rfl | rfl | rfl | rfl | rfl | rfl | rfl | rfl | rfl | rfl | rfl
  all_goals
    simp only [spec_StmtText.j0, h1, h2, h3, h4, h5, h5', h6, h7, g1, g2, g3, g4, g5, if_true, if_false, reduceIte, Int.reduceEq, Bool.false_eq_true]
    refine form_of _ _ _ _ ?_
    simp [Go.Proofs.YtndkkpjofddfjaaGreatDoorRepl.repl, Go.Proofs.YtndkkpjofddfjaaGreatDoorRepl.rep1, Go.Proofs.YtndkkpjofddfjaaGreatDoorRepl.formList]
theorem ev_specText (a : Int) (s t : ByteArray) (hs : s.size ≤ 9223372036854775807) (ht : t.size ≤ 9223372036854775807) : Ev (fun k => spec_StmtText.f k a s t) (stText a s t) := by
  obtain ⟨K, hK⟩ := Evt.and (ev_specIsName s hs) (ev_specIsName t ht)
  refine ⟨K + 1, fun k hk => ?_⟩
  obtain ⟨k, rfl⟩ : ∃ m, k = m + 1 := ⟨k - 1, by omega⟩
  obtain ⟨g1, g2⟩ := hK (k + 1) (by omega)
  dsimp only at g1 g2 ⊢
  unfold spec_StmtText.f
  rw [specNames]
  simp only [Option.bind_some]
  rw [g1, g2]
  simp only [Option.bind_some]
  by_cases c : namesN (nm a) s t = true
  · obtain ⟨h2, h3, h4⟩ := names_sizes _ _ _ c
    have hj := spec_j0_false k a s t h2 h3 h4
    unfold stText
    rw [if_pos c]
    unfold namesN at c
    rcases nm_cases a with e | e | e | e <;> rw [e] at c ⊢
    · simp at c
    · simp at c
      have n1 := nil_name s c.1
      have n2 := nil_name t c.2
      simp [n1, n2, c.1, c.2, hj]
    · simp at c
      have n2 := nil_name t c.2
      simp [c.1, n2, c.2, hj]
    · simp at c
      simp [c.1, c.2, hj]
  · unfold stText
    rw [if_neg c]
    have hj := spec_j0_true k a s t
    unfold namesN at c
    rcases nm_cases a with e | e | e | e <;> rw [e] at c ⊢
    · simp [hj]
    · by_cases c1 : s.toList = [] <;> by_cases c2 : t.toList = []
      · simp [c1, c2] at c
      · have d2 : (t.toList != ([] : List UInt8)) = true := by simpa using c2
        cases hn : nameB t <;> simp [c1, d2, nil_name s c1, hj]
      · cases hn : nameB s <;> simp [c1, nil_name t c2, hj]
      · cases hn : nameB s <;> cases hm : nameB t <;> simp [c1, hj]
    · cases hn : nameB s
      · simp [hj]
      · by_cases c2 : t.toList = []
        · simp [hn, c2] at c
        · have d2 : (t.toList != ([] : List UInt8)) = true := by simpa using c2
          cases hm : nameB t <;> simp [d2, hj]
    · cases hn : nameB s
      · simp [hj]
      · cases hm : nameB t
        · simp [hj]
        · simp [hn, hm] at c
def itoB (a : Int) : ByteArray := ⟨(Go.Lib.itoa a).toArray⟩
theorem itoB_size (a : Int) (h0 : -9223372036854775808 ≤ a) (h1 : a ≤ 9223372036854775807) : (itoB a).size ≤ 21 := by
  have := Go.Lib.itoa_length_le a h0 h1
  unfold itoB
  rw [sz]
  exact this
theorem impl_fmt (a : Int) (h0 : -9223372036854775808 ≤ a) (h1 : a ≤ 9223372036854775807) : impl_FormatInt.f a = some (itoB a) := by
  unfold impl_FormatInt.f strconv_Itoa.f
  rw [if_pos ⟨h0, h1⟩]
  rfl
theorem formT_size (a : Int) (s t : ByteArray) (h : 0 ≤ nm a) (hs : s.size ≤ 2) (ht : t.size ≤ 2) : (formT a s t).size ≤ 20 := by
  have hx : s.data.toList.length ≤ 2 := by simpa using hs
  have hy : t.data.toList.length ≤ 2 := by simpa using ht
  unfold formT
  rw [sz]
  rcases nm_range a h with rfl | rfl | rfl | rfl | rfl | rfl | rfl | rfl | rfl | rfl | rfl | rfl
  all_goals
    simp [Go.Proofs.YtndkkpjofddfjaaGreatDoorRepl.repl, Go.Proofs.YtndkkpjofddfjaaGreatDoorRepl.rep1, Go.Proofs.YtndkkpjofddfjaaGreatDoorRepl.formList]
    try omega
theorem stText_sizeP (a : Int) (s t : ByteArray) : (stText a s t).size ≤ 20 := by
  unfold stText
  by_cases c : namesN (nm a) s t = true
  · obtain ⟨h2, h3, h4⟩ := names_sizes _ _ _ c
    rw [if_pos c]
    exact formT_size a s t h2 h3 h4
  · rw [if_neg c]
    show 0 ≤ _
    omega
def edT (x : S52) : ByteArray := (((itoB x.f0 ++ (⟨#[32]⟩ : ByteArray)) ++ itoB x.f1) ++ (⟨#[32]⟩ : ByteArray)) ++ stText x.f2.f0 x.f2.f1 x.f2.f2
theorem size1 (b : UInt8) : (⟨#[b]⟩ : ByteArray).size = 1 := rfl
def Fits (x : S52) : Prop := (-9223372036854775808 ≤ x.f0 ∧ x.f0 ≤ 9223372036854775807) ∧ (-9223372036854775808 ≤ x.f1 ∧ x.f1 ≤ 9223372036854775807) ∧ x.f2.f1.size ≤ 1048576 ∧ x.f2.f2.size ≤ 1048576
theorem edT_size (x : S52) (h : Fits x) : (edT x).size ≤ 64 := by
  have h1 := itoB_size x.f0 h.1.1 h.1.2
  have h2 := itoB_size x.f1 h.2.1.1 h.2.1.2
  have h3 := stText_sizeP x.f2.f0 x.f2.f1 x.f2.f2
  unfold edT
  simp only [ByteArray.size_append, size1]
  omega
def partsL (A P : ByteArray) (l : List S52) (i : Nat) : List ByteArray := [A, P] ++ ((List.range i).map fun j => edT (l.getD j z52))
theorem parts_succ (A P : ByteArray) (l : List S52) (i : Nat) : partsL A P l (i + 1) = partsL A P l i ++ [edT (l.getD i z52)] := by
  unfold partsL
  rw [List.range_succ, List.map_append, List.append_assoc]
  rfl
theorem parts_len (A P : ByteArray) (l : List S52) (i : Nat) : (partsL A P l i).length = i + 2 := by
  unfold partsL
  simp
theorem parts_get (A P : ByteArray) (l : List S52) (i : Nat) : ∃ r, partsL A P l i = A :: r := ⟨_, rfl⟩
theorem join_snoc (l : List (List UInt8)) (y s : List UInt8) (h : 0 < l.length) : Go.Lib.join (l ++ [y]) s = Go.Lib.join l s ++ s ++ y := by
  have := join_succ (l ++ [y]) s l.length (by simp)
  rw [if_pos h, List.take_of_length_le (by simp), List.take_left, List.getElem_append_right (Nat.le_refl _)] at this
  simpa using this
def progT (A P : ByteArray) (l : List S52) (i : Nat) : ByteArray := ⟨(Go.Lib.join (ds (partsL A P l i)) [59]).toArray⟩
theorem eq_of_data (a b : ByteArray) (h : a.data.toList = b.data.toList) : a = b := by
  obtain ⟨⟨a⟩⟩ := a
  obtain ⟨⟨b⟩⟩ := b
  dsimp only at h
  rw [h]
theorem progT_zero (A P : ByteArray) (l : List S52) : progT A P l 0 = (A ++ (⟨#[59]⟩ : ByteArray)) ++ P := by
  apply eq_of_data
  have e : ds (partsL A P l 0) = [A.data.toList] ++ [P.data.toList] := rfl
  unfold progT
  rw [e, join_snoc _ _ _ (by simp), Go.Lib.join_one]
  simp [ByteArray.data_append]
theorem progT_succ (A P : ByteArray) (l : List S52) (i : Nat) : progT A P l (i + 1) = (progT A P l i ++ (⟨#[59]⟩ : ByteArray)) ++ edT (l.getD i z52) := by
  apply eq_of_data
  have e : ds (partsL A P l (i + 1)) = ds (partsL A P l i) ++ [(edT (l.getD i z52)).data.toList] := by
    rw [parts_succ]
    unfold ds
    rw [List.map_append]
    rfl
  unfold progT
  rw [e, join_snoc _ _ _ (by unfold ds; rw [List.length_map, parts_len]; omega)]
  simp [ByteArray.data_append]
theorem cat5 (T a b c : ByteArray) : ((((((T ++ (⟨#[59]⟩ : ByteArray)) ++ a) ++ (⟨#[32]⟩ : ByteArray)) ++ b) ++ (⟨#[32]⟩ : ByteArray)) ++ c) = (T ++ (⟨#[59]⟩ : ByteArray)) ++ ((((a ++ (⟨#[32]⟩ : ByteArray)) ++ b) ++ (⟨#[32]⟩ : ByteArray)) ++ c) := by
  apply eq_of_data
  simp [ByteArray.data_append]
theorem progT_size (A P : ByteArray) (l : List S52) (hf : ∀ i : Nat, i < l.length → Fits (l.getD i z52)) (hA : A.size ≤ 1099512676352) (hP : P.size ≤ 21) : ∀ i : Nat, i ≤ l.length → (progT A P l i).size ≤ 1099512676352 + 22 + i * 65 := by
  intro i
  induction i with
  | zero =>
    intro _
    rw [progT_zero]
    simp only [ByteArray.size_append, size1]
    omega
  | succ i ih =>
    intro h
    have h1 := ih (by omega)
    have h2 := edT_size _ (hf i (by omega))
    rw [progT_succ]
    simp only [ByteArray.size_append, size1]
    omega
theorem ev_specLoop (v : List ByteArray) (p : Int) (l : List S52) (A P : ByteArray) (hl : l.length ≤ 1048576) (hf : ∀ i : Nat, i < l.length → Fits (l.getD i z52)) (hA : A.size ≤ 1099512676352) (hP : P.size ≤ 21) : Ev (fun k => spec_ProgramText.l0 k ((A ++ (⟨#[59]⟩ : ByteArray)) ++ P) 0 v p l) (progT A P l l.length) := by
  rw [← progT_zero A P l]
  exact loop_is (σ := ByteArray) l.length (fun k x i => spec_ProgramText.l0 k x i v p l) (fun i x => x = progT A P l i) (progT A P l l.length)
    (fun i x hi hx => by
      subst hx
      have hF := hf i hi
      obtain ⟨⟨a0, a1⟩, ⟨b0, b1⟩, s0, s1⟩ := hf i hi
      obtain ⟨K, hK⟩ := Evt.and (ev_specFormatInt _ a0 a1) (Evt.and (ev_specFormatInt _ b0 b1) (ev_specText (l.getD i z52).f2.f0 (l.getD i z52).f2.f1 (l.getD i z52).f2.f2 (by omega) (by omega)))
      have z0 := progT_size A P l hf hA hP i (by omega)
      have z1 := itoB_size _ a0 a1
      have z2 := itoB_size _ b0 b1
      have z3 := stText_sizeP (l.getD i z52).f2.f0 (l.getD i z52).f2.f1 (l.getD i z52).f2.f2
      refine Or.inl ⟨progT A P l (i + 1), rfl, K, fun k hk => ?_⟩
      obtain ⟨g1, g2, g3⟩ := hK k hk
      have g1 : spec_FormatInt.f k (l.getD i z52).f0 = some (itoB (l.getD i z52).f0) := g1
      have g2 : spec_FormatInt.f k (l.getD i z52).f1 = some (itoB (l.getD i z52).f1) := g2
      dsimp only at g3
      rw [progT_succ]
      unfold edT
      rw [← cat5]
      simp only [spec_ProgramText.l0]
      rw [if_pos (by omega), if_pos (by omega), if_pos (by omega), rdE, g1]
      simp only [Option.bind_some]
      rw [if_pos (by simp only [ByteArray.size_append, size1]; omega), if_pos (by simp only [ByteArray.size_append, size1]; omega), g2]
      simp only [Option.bind_some]
      rw [if_pos (by simp only [ByteArray.size_append, size1]; omega), if_pos (by simp only [ByteArray.size_append, size1]; omega), g3]
      simp only [Option.bind_some]
      rw [if_pos (by simp only [ByteArray.size_append, size1]; omega), up64 (by omega)])
    (fun x hx => ⟨0, fun k _ => by
      simp only [spec_ProgramText.l0]
      rw [if_neg (by omega), hx]⟩)
    (progT A P l 0) rfl
theorem ev_implLoop (v : List ByteArray) (p : Int) (l : List S52) (A P : ByteArray) (hl : l.length ≤ 1048576) (hf : ∀ i : Nat, i < l.length → Fits (l.getD i z52)) (hA : A.size ≤ 1099512676352) (hP : P.size ≤ 21) : Ev (fun k => impl_ProgramText.l0 k [A, P] l (l.length : Int) 0) (progT A P l l.length) := by
  exact loop_is (σ := List ByteArray) l.length (fun k x i => impl_ProgramText.l0 k x l (l.length : Int) i) (fun i x => x = partsL A P l i) (progT A P l l.length)
    (fun i x hi hx => by
      subst hx
      obtain ⟨⟨a0, a1⟩, ⟨b0, b1⟩, s0, s1⟩ := hf i hi
      obtain ⟨K, hK⟩ := ev_implText (l.getD i z52).f2.f0 (l.getD i z52).f2.f1 (l.getD i z52).f2.f2 (by omega) (by omega)
      have z1 := itoB_size _ a0 a1
      have z2 := itoB_size _ b0 b1
      have z3 := stText_sizeP (l.getD i z52).f2.f0 (l.getD i z52).f2.f1 (l.getD i z52).f2.f2
      have z4 := parts_len A P l i
      refine Or.inl ⟨partsL A P l (i + 1), rfl, K, fun k hk => ?_⟩
      have g3 := hK k hk
      dsimp only at g3
      rw [parts_succ]
      unfold edT
      simp only [impl_ProgramText.l0]
      rw [if_pos (by omega), if_pos (by omega), if_pos (by omega), rdE, impl_fmt _ a0 a1]
      simp only [Option.bind_some]
      rw [if_pos (by omega), impl_fmt _ b0 b1]
      simp only [Option.bind_some]
      rw [if_pos (by simp only [ByteArray.size_append, size1]; omega), if_pos (by simp only [ByteArray.size_append, size1]; omega), g3]
      simp only [Option.bind_some]
      rw [if_pos (by simp only [ByteArray.size_append, size1]; omega), if_pos (by omega), up64 (by omega)])
    (fun x hx => ⟨0, fun k _ => by
      have z0 := progT_size A P l hf hA hP l.length (Nat.le_refl _)
      have z4 := parts_len A P l l.length
      have z5 : (Go.Lib.join (ds (partsL A P l l.length)) [59]).length = (progT A P l l.length).size := by unfold progT; rw [sz]
      simp only [impl_ProgramText.l0]
      rw [if_neg (by omega), hx]
      unfold impl_Join.f strings_Join.f
      have e : (Go.Lib.join ((partsL A P l l.length).map (·.data.toList)) (⟨#[59]⟩ : ByteArray).data.toList) = Go.Lib.join (ds (partsL A P l l.length)) [59] := rfl
      rw [e, if_pos ⟨by omega, by omega⟩]
      rfl⟩)
    [A, P] rfl
def progB (v : List ByteArray) (p : Int) (l : List S52) : Bool := edgesB v p l && restB v p l
def proT (v : List ByteArray) (p : Int) (l : List S52) : ByteArray := if progB v p l = true then progT ⟨(Go.Lib.join (ds v) [32]).toArray⟩ (itoB p) l l.length else ⟨#[]⟩
theorem joinA_size (v : List ByteArray) (hw : wS v ≤ 1048576) : (⟨(Go.Lib.join (ds v) [32]).toArray⟩ : ByteArray).size ≤ 1099512676352 := by
  have hl : v.length ≤ 1048576 := by have := sums_nonneg v; unfold wS at hw; omega
  have b1 := join_len v (⟨#[32]⟩ : ByteArray) (by decide) v.length (by omega)
  rw [List.take_of_length_le (by simp [ds]), List.take_of_length_le (by omega)] at b1
  have e : (⟨#[32]⟩ : ByteArray).data.toList = [32] := rfl
  rw [e] at b1
  unfold wS at hw
  rw [sz]
  omega
theorem ev_both (v : List ByteArray) (p : Int) (l : List S52) (hw : wS v ≤ 1048576) (hl : l.length ≤ 1048576) (hp : -9223372036854775808 ≤ p ∧ p ≤ 9223372036854775807) (hs : ∀ s ∈ v, s.size ≤ 9223372036854775807) (hf : ∀ i : Nat, i < l.length → Fits (l.getD i z52)) :
    Ev (fun k => impl_ProgramText.f k v p l) (proT v p l) ∧ Ev (fun k => spec_ProgramText.f k v p l) (proT v p l) := by
  have hv : v.length ≤ 1048576 := by have := sums_nonneg v; unfold wS at hw; omega
  have hA := joinA_size v hw
  have hP := itoB_size p hp.1 hp.2
  have e : (⟨#[32]⟩ : ByteArray).data.toList = [32] := rfl
  have j1 := ev_specJoin v (⟨#[32]⟩ : ByteArray) (by decide) hw
  have j2 := implJoin_eq v (⟨#[32]⟩ : ByteArray) (by decide) hw
  rw [e] at j1 j2
  constructor
  · obtain ⟨K, hK⟩ := Evt.and (ev_implIsProgram v p l hv hs hl) (ev_implLoop v p l _ _ hl hf hA hP)
    refine ⟨K, fun k hk => ?_⟩
    obtain ⟨g1, g2⟩ := hK k hk
    dsimp only at g1 g2 ⊢
    unfold impl_ProgramText.f proT progB
    rw [g1]
    simp only [Option.bind_some]
    by_cases c : (edgesB v p l && restB v p l) = true
    · rw [if_pos c, if_pos c, j2, impl_fmt p hp.1 hp.2]
      simp only [Option.bind_some]
      exact g2
    · rw [if_neg c, if_neg c]
  · obtain ⟨K, hK⟩ := Evt.and (ev_specIsProgram v p l hv hs hl) (Evt.and j1 (Evt.and (ev_specFormatInt p hp.1 hp.2) (ev_specLoop v p l _ _ hl hf hA hP)))
    refine ⟨K, fun k hk => ?_⟩
    obtain ⟨g1, g2, g3, g4⟩ := hK k hk
    have g3 : spec_FormatInt.f k p = some (itoB p) := g3
    dsimp only at g1 g2 g4 ⊢
    unfold spec_ProgramText.f proT progB
    rw [g1]
    simp only [Option.bind_some]
    by_cases c : (edgesB v p l && restB v p l) = true
    · rw [if_pos c, if_pos c, g2]
      simp only [Option.bind_some]
      rw [if_pos (by omega), g3]
      simp only [Option.bind_some]
      rw [if_pos (by simp only [ByteArray.size_append, size1]; omega)]
      exact g4
    · rw [if_neg c, if_neg c]
theorem FnExactProgramText : laws_FnExactProgramText.Pure := by
  intro v p l hB
  have hm : maxLen = 9223372036854775807 := rfl
  have hs : ∀ s ∈ v, s.size ≤ 9223372036854775807 := fun s hs => by have := hB.1.2 s hs; omega
  obtain ⟨r, e1, hr⟩ := ev_szProgram v p l 1048576 (by omega) (by omega) (by have := hB.1.1; dsimp only at this; omega) hs (by have := hB.2.2.1; dsimp only at this; omega) (fun x hx => by
    have := (hB.2.2.2 x hx).2.2
    exact ⟨by have := this.2.1; omega, by have := this.2.2; omega⟩)
  rcases hr with hr | ⟨r0, r1, hw, hv, hl, hz⟩
  · obtain ⟨k, h1⟩ := Evt.ex e1
    dsimp only at h1
    exact ⟨k, by unfold laws_FnExactProgramText.f; rw [h1]; simp only [Option.bind_some]; rw [if_pos hr]⟩
  have hl' : (l.map cEdge).length ≤ 1048576 := by simpa using hl
  have hf : ∀ i : Nat, i < (l.map cEdge).length → Fits ((l.map cEdge).getD i z52) := fun i hi => by
    obtain ⟨x, hx, he⟩ := List.mem_map.mp (getD_mem z52 (l.map cEdge) i hi)
    have b := hB.2.2.2 x hx
    rw [← he]
    exact ⟨wf64 b.1, wf64 b.2.1, hz x hx⟩
  obtain ⟨t1, t2⟩ := ev_both v p (l.map cEdge) hw hl' (wf64 hB.2.1) hs hf
  obtain ⟨k, h1, h2, h3, h4, h5⟩ := (Evt.and e1 (Evt.and (ev_toProgram v p l hv hl) (Evt.and (ev_eqProgram v p (l.map cEdge) hv hl') (Evt.and t1 t2)))).ex
  dsimp only at h1 h2 h3 h4 h5
  refine ⟨k, ?_⟩
  unfold laws_FnExactProgramText.f
  rw [h1]
  simp only [Option.bind_some]
  rw [if_neg (by omega)]
  simp only [h2, h3, h4, h5, Option.bind_some, if_true]
end Go.Proofs.YtndkkpjofddfjaaGreatDoor.Pure.LFnExactProgramText
namespace Go.Proofs.YtndkkpjofddfjaaGreatDoor.Pure
open Go.Proofs.YtndkkpjofddfjaaGreatDoor.PFnExactProgramText
theorem FnExactProgramText : laws_FnExactProgramText.Pure := LFnExactProgramText.FnExactProgramText
end Go.Proofs.YtndkkpjofddfjaaGreatDoor.Pure
