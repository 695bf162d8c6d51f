/-
  The pure statement of laws.FnExactStmtText: what the printed functions compute makes the law answer true, for every argument of its kinds (no further condition).
-/
import Derived.Test.YtndkkpjofddfjaaPFnExactStmtTextx3
import Derived.Test.YtndkkpjofddfjaaXPure
namespace Go.Proofs.Ytndkkpjofddfjaa.Pure.LFnExactStmtText
open Go.RowKit Go.Proofs.Ytndkkpjofddfjaa.PFnExactStmtText Go.Proofs.YtndkkpjofddfjaaW.PrintWords Go.Proofs.YtndkkpjofddfjaaW.PrintLast Go.Proofs.YtndkkpjofddfjaaX
set_option linter.unusedVariables false
set_option linter.unusedSimpArgs false

theorem in_eq (a b c : Int) : spec_l1In.f a b c = some (decide (b ≤ a) && decide (a ≤ c)) := by
  unfold spec_l1In.f
  by_cases h : b ≤ a <;> simp [h]


theorem wi_eq (a b c : Int) : impl_within.f a b c = some (decide (b ≤ a) && decide (a ≤ c)) := by
  unfold impl_within.f
  by_cases h : b ≤ a <;> simp [h]


theorem ev_specIsName (s : ByteArray) (h : s.size ≤ 9223372036854775807) : Ev (fun k => spec_IsName.f k s) (nameB s) := by
  have hc := all_loop s.size h (fun i => 97 ≤ bt s (i : Int) ∧ bt s (i : Int) ≤ 122) (fun k i => spec_IsName.l0 k s i) (decide ((1 : Int) ≤ (s.size : Int)) && decide ((s.size : Int) ≤ 2)) false
    (fun i hi hT => ⟨0, fun k _ => by simp only [spec_IsName.l0]; rw [if_pos (by omega), if_pos (by omega), if_neg (by omega), if_neg (by omega)]⟩)
    (fun i hi hT => ⟨0, fun k _ => by
      simp only [spec_IsName.l0]
      rw [if_pos (by omega), if_pos (by omega)]
      by_cases c : bt s (i : Int) < 97
      · rw [if_pos c]
      · rw [if_neg c, if_pos (by omega)]⟩)
    ⟨0, fun k _ => by simp only [spec_IsName.l0]; rw [if_neg (by omega), in_eq]; rfl⟩ (nameB s) (by rw [if_and_false]; rfl)
  exact Ev.congr (fun k => rfl) hc


theorem ev_implIsName (s : ByteArray) (h : s.size ≤ 9223372036854775807) : Ev (fun k => impl_IsName.f k s) (nameB s) := by
  have hc := all_loop s.size h (fun i => 97 ≤ bt s (i : Int) ∧ bt s (i : Int) ≤ 122) (fun k i => impl_IsName.l0 k s (s.size : Int) i) (decide ((1 : Int) ≤ (s.size : Int)) && decide ((s.size : Int) ≤ 2)) false
    (fun i hi hT => ⟨0, fun k _ => by simp only [impl_IsName.l0]; rw [if_pos (by omega), if_pos (by omega), if_pos (by omega), if_neg (by omega), if_neg (by omega)]⟩)
    (fun i hi hT => ⟨0, fun k _ => by
      simp only [impl_IsName.l0]
      rw [if_pos (by omega), if_pos (by omega), if_pos (by omega)]
      by_cases c : bt s (i : Int) < 97
      · rw [if_pos c]
      · rw [if_neg c, if_pos (by omega)]⟩)
    ⟨0, fun k _ => by simp only [impl_IsName.l0]; rw [if_neg (by omega), wi_eq]; rfl⟩ (nameB s) (by rw [if_and_false]; rfl)
  exact Ev.congr (fun k => rfl) hc


/-- how many names a statement of a kind has -/
def nm (a : Int) : Int := if a = 1 then 0 else if a = 2 ∨ a = 3 ∨ a = 6 ∨ a = 8 ∨ a = 9 ∨ a = 10 then 1 else if a = 4 ∨ a = 5 ∨ a = 7 ∨ a = 11 ∨ a = 12 then 2 else -1

theorem nm_cases (a : Int) : nm a = -1 ∨ nm a = 0 ∨ nm a = 1 ∨ nm a = 2 := by
  unfold nm
  split
  · omega
  · split
    · omega
    · split <;> omega

theorem specNames (k : Nat) (a : Int) : spec_NamesOf.f (k + 1) a = some (nm a) := by
  by_cases h : 1 ≤ a ∧ a ≤ 12
  · have h2 : a = 1 ∨ a = 2 ∨ a = 3 ∨ a = 4 ∨ a = 5 ∨ a = 6 ∨ a = 7 ∨ a = 8 ∨ a = 9 ∨ a = 10 ∨ a = 11 ∨ a = 12 := by omega
    rcases h2 with rfl | rfl | rfl | rfl | rfl | rfl | rfl | rfl | rfl | rfl | rfl | rfl <;> simp [spec_NamesOf.f, spec_NamesOf.j0, nm]
  · have e : nm a = -1 := by
      unfold nm
      rw [if_neg (by omega), if_neg (by omega), if_neg (by omega)]
    unfold spec_NamesOf.f
    rw [if_neg (by omega), if_neg (by omega), if_neg (by omega), if_neg (by omega), if_neg (by omega), if_neg (by omega)]
    have h10 : (a == 10) = false := beq_eq_false_iff_ne.mpr (by omega)
    simp only [spec_NamesOf.j0]
    rw [h10, if_neg (by decide), if_neg (by omega), if_neg (by omega), if_neg (by omega), if_neg (by omega), if_neg (by omega), e]

theorem implNames (a : Int) : impl_NamesOf.f a = some (nm a) := by
  by_cases h : 1 ≤ a ∧ a ≤ 12
  · have h2 : a = 1 ∨ a = 2 ∨ a = 3 ∨ a = 4 ∨ a = 5 ∨ a = 6 ∨ a = 7 ∨ a = 8 ∨ a = 9 ∨ a = 10 ∨ a = 11 ∨ a = 12 := by omega
    rcases h2 with rfl | rfl | rfl | rfl | rfl | rfl | rfl | rfl | rfl | rfl | rfl | rfl <;> decide +kernel
  · have e : nm a = -1 := by
      unfold nm
      rw [if_neg (by omega), if_neg (by omega), if_neg (by omega)]
    have h3 : (decide (1 ≤ a) && decide (a ≤ 12)) = false := by simpa using h
    rw [e]
    simp [impl_NamesOf.f, wi_eq, h3]


/-- the names of a statement are as many as its kind wants; the others are empty -/
def namesN (m : Int) (s t : ByteArray) : Bool :=
  (if 0 < m then nameB s else decide (s.toList = [])) && ((if 1 < m then nameB t else decide (t.toList = [])) && decide (m ≥ 0))
theorem ev_hasNames (a : Int) (s t : ByteArray) (hs : s.size ≤ 9223372036854775807) (ht : t.size ≤ 9223372036854775807) : Ev (fun k => impl_Stmt_hasNames_IsName.f k a s t) (namesN (nm a) s t) := by
  obtain ⟨K, hK⟩ := Evt.and (ev_implIsName s hs) (ev_implIsName t ht)
  refine ⟨K + 3, fun k hk => ?_⟩
  obtain ⟨k, rfl⟩ : ∃ m, k = m + 3 := ⟨k - 3, by omega⟩
  obtain ⟨a1, _⟩ := hK (k + 2) (by omega)
  obtain ⟨_, b2⟩ := hK (k + 1) (by omega)
  dsimp only at a1 b2 ⊢
  have l2 : (([s, t] : List ByteArray).length : Int) = 2 := rfl
  have r0 : rdOf ByteArray.empty [s, t] 0 = s := rfl
  have r1 : rdOf ByteArray.empty [s, t] 1 = t := rfl
  have w0 : wrap64 (0 + 1) = 1 := by unfold wrap64; omega
  have w1 : wrap64 (1 + 1) = 2 := by unfold wrap64; omega
  have i0 : (0 : Int) < 2 := by decide
  have i1 : (1 : Int) < 2 := by decide
  have i2 : ¬ (2 : Int) < 2 := by decide
  have j0 : (0 : Int) ≤ 0 := by decide
  have j1 : (0 : Int) ≤ 1 := by decide
  unfold impl_Stmt_hasNames_IsName.f
  rw [implNames]
  simp only [Option.bind_some, impl_Stmt_hasNames_IsName.l0, l2, i0, i1, i2, j0, j1, if_true, if_false, r0, r1, w0, w1, a1, b2]
  unfold namesN
  rcases nm_cases a with e | e | e | e <;> rw [e]
  · by_cases c1 : s.toList = [] <;> by_cases c2 : t.toList = [] <;> simp [c1, c2]
  · by_cases c1 : s.toList = [] <;> by_cases c2 : t.toList = [] <;> simp [c1, c2]
  · by_cases c1 : nameB s = true <;> by_cases c2 : t.toList = [] <;> simp [c1, c2]
  · by_cases c1 : nameB s = true <;> by_cases c2 : nameB t = true <;> simp [c1, c2]
theorem nameB_size (s : ByteArray) (h : nameB s = true) : 1 ≤ s.size ∧ s.size ≤ 2 := by
  unfold nameB at h
  simp only [Bool.and_eq_true, decide_eq_true_eq] at h
  omega
theorem toList_nil (s : ByteArray) : s.toList = [] ↔ s.size = 0 := by
  have e : s.toList = s.data.toList := Go.ByteArray.toList_mk s.data.toList
  have l : s.data.toList.length = s.size := Array.length_toList
  rw [e, ← l]
  exact List.length_eq_zero_iff.symm
theorem nil_name (s : ByteArray) (h : s.toList = []) : nameB s = false := by
  cases hb : nameB s with
  | false => rfl
  | true => have := nameB_size s hb; have := (toList_nil s).mp h; omega
theorem name_nil (s : ByteArray) (h : nameB s = true) : s.toList ≠ [] := fun e => by rw [nil_name s e] at h; cases h
theorem nil_eq (s : ByteArray) (h : s.toList = []) : s = ⟨#[]⟩ := by
  have h := (toList_nil s).mp h
  obtain ⟨d⟩ := s
  obtain ⟨l⟩ := d
  match l, h with
  | [], _ => rfl
/-- the text of a statement whose names are as its kind wants -/
def formT (a : Int) (s t : ByteArray) : ByteArray := ⟨(Go.Proofs.YtndkkpjofddfjaaRepl.repl s.data.toList t.data.toList (Go.Proofs.YtndkkpjofddfjaaRepl.formList.getD (a - 1).toNat ByteArray.empty).data.toList).toArray⟩
def stText (a : Int) (s t : ByteArray) : ByteArray := if namesN (nm a) s t = true then formT a s t else ⟨#[]⟩
theorem names_sizes (m : Int) (s t : ByteArray) (h : namesN m s t = true) : 0 ≤ m ∧ s.size ≤ 2 ∧ t.size ≤ 2 := by
  unfold namesN at h
  simp only [Bool.and_eq_true, decide_eq_true_eq] at h
  obtain ⟨h1, h2, h3⟩ := h
  refine ⟨h3, ?_, ?_⟩
  · split at h1
    · exact (nameB_size s h1).2
    · have := (toList_nil s).mp (of_decide_eq_true h1); omega
  · split at h2
    · exact (nameB_size t h2).2
    · have := (toList_nil t).mp (of_decide_eq_true h2); omega
theorem nm_range (a : Int) (h : 0 ≤ nm a) : a = 1 ∨ a = 2 ∨ a = 3 ∨ a = 4 ∨ a = 5 ∨ a = 6 ∨ a = 7 ∨ a = 8 ∨ a = 9 ∨ a = 10 ∨ a = 11 ∨ a = 12 := by
  unfold nm at h
  split at h
  · omega
  · split at h
    · omega
    · split at h
      · omega
      · omega
theorem ev_implText (a : Int) (s t : ByteArray) (hs : s.size ≤ 9223372036854775807) (ht : t.size ≤ 9223372036854775807) : Ev (fun k => impl_StmtText.f k a s t) (stText a s t) := by
  obtain ⟨K, hK⟩ := ev_hasNames a s t hs ht
  refine ⟨K, fun k hk => ?_⟩
  have h1 := hK k hk
  dsimp only at h1
  show impl_StmtText.f k a s t = _
  unfold impl_StmtText.f stText
  rw [h1]
  simp only [Option.bind_some]
  by_cases c : namesN (nm a) s t = true
  · obtain ⟨h2, h3, h4⟩ := names_sizes _ _ _ c
    have h5 := nm_range a h2
    rw [if_pos c, if_pos c, if_pos ⟨by omega, by omega, h3, h4⟩]
    rfl
  · rw [if_neg c, if_neg c]
theorem cat_eq (l : List UInt8) (s : ByteArray) (h : s.data.toList = l) : s = ⟨l.toArray⟩ := by
  subst h
  rfl
theorem form_of (a : Int) (s t x : ByteArray) (h : x.data.toList = Go.Proofs.YtndkkpjofddfjaaRepl.repl s.data.toList t.data.toList (Go.Proofs.YtndkkpjofddfjaaRepl.formList.getD (a - 1).toNat ByteArray.empty).data.toList) : some x = some (formT a s t) := congrArg some (cat_eq _ _ h)
theorem spec_j0_true (k : Nat) (a : Int) (s t : ByteArray) : spec_StmtText.j0 (k + 1) true a s t = some ⟨#[]⟩ := by
  simp only [spec_StmtText.j0]
  rw [if_pos trivial]
theorem spec_j0_false (k : Nat) (a : Int) (s t : ByteArray) (h : 0 ≤ nm a) (hs : s.size ≤ 2) (ht : t.size ≤ 2) : spec_StmtText.j0 (k + 1) false a s t = some (formT a s t) := by
  have e1 : (⟨#[61]⟩ : ByteArray).size = 1 := rfl
  have e2 : (⟨#[46, 110, 61]⟩ : ByteArray).size = 3 := rfl
  have e3 : (⟨#[61, 61]⟩ : ByteArray).size = 2 := rfl
  have e4 : (⟨#[33, 61]⟩ : ByteArray).size = 2 := rfl
  have h1 : (s.size + 1 ≤ 9223372036854775807) = True := eq_true (by omega)
  have h2 : (s.size + 2 ≤ 9223372036854775807) = True := eq_true (by omega)
  have h3 : (s.size + 3 ≤ 9223372036854775807) = True := eq_true (by omega)
  have h4 : (s.size + 4 ≤ 9223372036854775807) = True := eq_true (by omega)
  have h5 : (s.size + 5 ≤ 9223372036854775807) = True := eq_true (by omega)
  have h5' : (5 + s.size ≤ 9223372036854775807) = True := eq_true (by omega)
  have h6 : (s.size + 6 ≤ 9223372036854775807) = True := eq_true (by omega)
  have h7 : (s.size + 7 ≤ 9223372036854775807) = True := eq_true (by omega)
  have g1 : ((s ++ (⟨#[61]⟩ : ByteArray)).size + t.size ≤ 9223372036854775807) = True := eq_true (by rw [ByteArray.size_append, e1]; omega)
  have g2 : ((s ++ (⟨#[46, 110, 61]⟩ : ByteArray)).size + t.size ≤ 9223372036854775807) = True := eq_true (by rw [ByteArray.size_append, e2]; omega)
  have g3 : ((s ++ (⟨#[61, 61]⟩ : ByteArray)).size + t.size ≤ 9223372036854775807) = True := eq_true (by rw [ByteArray.size_append, e3]; omega)
  have g4 : ((s ++ (⟨#[33, 61]⟩ : ByteArray)).size + t.size ≤ 9223372036854775807) = True := eq_true (by rw [ByteArray.size_append, e4]; omega)
  have g5 : (((s ++ (⟨#[61]⟩ : ByteArray)) ++ t).size + 2 ≤ 9223372036854775807) = True := eq_true (by rw [ByteArray.size_append, ByteArray.size_append, e1]; omega)
  rcases nm_range a h with rfl | rfl | rfl | rfl | rfl | rfl | rfl | rfl | rfl | rfl | rfl | rfl
  all_goals
    simp only [spec_StmtText.j0, h1, h2, h3, h4, h5, h5', h6, h7, g1, g2, g3, g4, g5, if_true, if_false, reduceIte, Int.reduceEq, Bool.false_eq_true]
    refine form_of _ _ _ _ ?_
    simp [Go.Proofs.YtndkkpjofddfjaaRepl.repl, Go.Proofs.YtndkkpjofddfjaaRepl.rep1, Go.Proofs.YtndkkpjofddfjaaRepl.formList]
theorem ev_specText (a : Int) (s t : ByteArray) (hs : s.size ≤ 9223372036854775807) (ht : t.size ≤ 9223372036854775807) : Ev (fun k => spec_StmtText.f k a s t) (stText a s t) := by
  obtain ⟨K, hK⟩ := Evt.and (ev_specIsName s hs) (ev_specIsName t ht)
  refine ⟨K + 1, fun k hk => ?_⟩
  obtain ⟨k, rfl⟩ : ∃ m, k = m + 1 := ⟨k - 1, by omega⟩
  obtain ⟨g1, g2⟩ := hK (k + 1) (by omega)
  dsimp only at g1 g2 ⊢
  unfold spec_StmtText.f
  rw [specNames]
  simp only [Option.bind_some]
  rw [g1, g2]
  simp only [Option.bind_some]
  by_cases c : namesN (nm a) s t = true
  · obtain ⟨h2, h3, h4⟩ := names_sizes _ _ _ c
    have hj := spec_j0_false k a s t h2 h3 h4
    unfold stText
    rw [if_pos c]
    unfold namesN at c
    rcases nm_cases a with e | e | e | e <;> rw [e] at c ⊢
    · simp at c
    · simp at c
      have n1 := nil_name s c.1
      have n2 := nil_name t c.2
      simp [n1, n2, c.1, c.2, hj]
    · simp at c
      have n2 := nil_name t c.2
      simp [c.1, n2, c.2, hj]
    · simp at c
      simp [c.1, c.2, hj]
  · unfold stText
    rw [if_neg c]
    have hj := spec_j0_true k a s t
    unfold namesN at c
    rcases nm_cases a with e | e | e | e <;> rw [e] at c ⊢
    · simp [hj]
    · by_cases c1 : s.toList = [] <;> by_cases c2 : t.toList = []
      · simp [c1, c2] at c
      · have d2 : (t.toList != ([] : List UInt8)) = true := by simpa using c2
        cases hn : nameB t <;> simp [c1, d2, nil_name s c1, hj]
      · cases hn : nameB s <;> simp [c1, nil_name t c2, hj]
      · cases hn : nameB s <;> cases hm : nameB t <;> simp [c1, hj]
    · cases hn : nameB s
      · simp [hj]
      · by_cases c2 : t.toList = []
        · simp [hn, c2] at c
        · have d2 : (t.toList != ([] : List UInt8)) = true := by simpa using c2
          cases hm : nameB t <;> simp [d2, hj]
    · cases hn : nameB s
      · simp [hj]
      · cases hm : nameB t
        · simp [hj]
        · simp [hn, hm] at c

theorem FnExactStmtText : laws_FnExactStmtText.Pure := by
  intro a s t hB
  obtain ⟨_, hs, ht⟩ := hB
  have hs : s.size ≤ 9223372036854775807 := hs
  have ht : t.size ≤ 9223372036854775807 := ht
  obtain ⟨k, h1, h2⟩ := (Evt.and (ev_implText a s t hs ht) (ev_specText a s t hs ht)).ex
  dsimp only at h1 h2
  refine ⟨k, ?_⟩
  unfold laws_FnExactStmtText.f laws_toStmt.f
  cases hz : laws_szStmt.f a s t 1048576 with
  | none =>
    unfold laws_szStmt.f at hz
    split at hz
    · cases hz
    · split at hz <;> cases hz
  | some z =>
    simp only [Option.bind_some]
    by_cases c : z < 0
    · rw [if_pos c]
    · rw [if_neg c, h2]
      simp only [Option.bind_some]
      rw [h1]
      simp only [Option.bind_some, if_true]

end Go.Proofs.Ytndkkpjofddfjaa.Pure.LFnExactStmtText
namespace Go.Proofs.Ytndkkpjofddfjaa.Pure
open Go.Proofs.Ytndkkpjofddfjaa.PFnExactStmtText
theorem FnExactStmtText : laws_FnExactStmtText.Pure := LFnExactStmtText.FnExactStmtText
end Go.Proofs.Ytndkkpjofddfjaa.Pure
