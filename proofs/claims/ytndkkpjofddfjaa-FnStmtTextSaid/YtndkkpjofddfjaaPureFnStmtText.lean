/-
  The pure statement of laws.FnStmtText: what the printed functions compute makes the law answer true, for every argument of its kinds (no further condition).
-/
import Derived.Test.YtndkkpjofddfjaaPFnStmtTextx8
import Derived.Test.YtndkkpjofddfjaaXPure
namespace Go.Proofs.Ytndkkpjofddfjaa.Pure.LFnStmtText
open Go.RowKit Go.Proofs.Ytndkkpjofddfjaa.PFnStmtText Go.Proofs.YtndkkpjofddfjaaW.PrintWords Go.Proofs.YtndkkpjofddfjaaW.PrintLast Go.Proofs.YtndkkpjofddfjaaX
set_option linter.unusedVariables false
set_option linter.unusedSimpArgs false

theorem in_eq (a b c : Int) : spec_l1In.f a b c = some (decide (b ≤ a) && decide (a ≤ c)) := by
  unfold spec_l1In.f
  by_cases h : b ≤ a <;> simp [h]


theorem wi_eq (a b c : Int) : impl_within.f a b c = some (decide (b ≤ a) && decide (a ≤ c)) := by
  unfold impl_within.f
  by_cases h : b ≤ a <;> simp [h]


theorem and255 (x : Int) : 0 ≤ Go.bits .and .i64 x 255 ∧ Go.bits .and .i64 x 255 ≤ 255 := by
  have h : (BitVec.ofInt 64 (255 : Int)).toNat = 255 := by decide
  have hl : (BitVec.ofInt 64 x).toNat &&& 255 ≤ 255 := Nat.and_le_right
  have e : Go.bits .and .i64 x 255 = IntKind.i64.wrap (((BitVec.ofInt 64 x) &&& (BitVec.ofInt 64 (255 : Int)) : BitVec 64).toNat : Int) := rfl
  rw [BitVec.toNat_and, h] at e
  rw [e, IntKind.wrap_i64]
  omega

/-- where a reader stands -/
def St (i : Int) : Prop := 0 ≤ i ∧ i ≤ 1048576

theorem l1Byte_ok (b : List Int) (i h : Int) (hb : b.length ≤ 1048576) (hi : St i) : ∃ r i' h', spec_l1Byte.f b i h = some (r, i', h') ∧ 0 ≤ r ∧ r ≤ 255 ∧ St i' := by
  unfold spec_l1Byte.f
  have hi0 := hi.1
  by_cases c : i < (b.length : Int)
  · rw [if_pos c, if_pos hi0]
    refine ⟨_, _, _, rfl, (and255 _).1, (and255 _).2, ?_⟩
    rw [w64 (by omega) (by omega)]
    exact ⟨by omega, by omega⟩
  · rw [if_neg c]
    exact ⟨_, _, _, rfl, (and255 _).1, (and255 _).2, hi⟩

theorem l1Below_ok (b : List Int) (i h n : Int) (hb : b.length ≤ 1048576) (hi : St i) : ∃ r i' h', spec_l1Below.f b i h n = some (r, i', h') ∧ 0 ≤ r ∧ (0 < n → r < n) ∧ (n ≤ 0 → r = 0) ∧ St i' := by
  unfold spec_l1Below.f
  by_cases c : n ≤ 0
  · rw [if_pos c]
    exact ⟨_, _, _, rfl, by omega, fun h => by omega, fun _ => rfl, hi⟩
  · rw [if_neg c]
    obtain ⟨r1, i1, h1, e1, p1, q1, s1⟩ := l1Byte_ok b i h hb hi
    by_cases c2 : n ≤ 256
    · rw [if_pos c2, e1]
      simp only [Option.bind_some]
      rw [if_neg (by omega)]
      exact ⟨_, _, _, rfl, Int.tmod_nonneg _ p1, fun h => Int.tmod_lt_of_pos _ h, fun h => by omega, s1⟩
    · obtain ⟨r2, i2, h2, e2, p2, q2, s2⟩ := l1Byte_ok b i1 h1 hb s1
      obtain ⟨r3, i3, h3, e3, p3, q3, s3⟩ := l1Byte_ok b i2 h2 hb s2
      obtain ⟨r4, i4, h4, e4, p4, q4, s4⟩ := l1Byte_ok b i3 h3 hb s3
      rw [if_neg c2, e1]
      simp only [Option.bind_some, e2, e3, e4]
      rw [if_neg (by omega)]
      refine ⟨_, _, _, rfl, Int.tmod_nonneg _ ?_, fun h => Int.tmod_lt_of_pos _ h, fun h => by omega, s4⟩
      rw [w64 (x := r1 * 16777216) (by omega) (by omega), w64 (x := r2 * 65536) (by omega) (by omega), w64 (x := r3 * 256) (by omega) (by omega), w64 (x := r1 * 16777216 + r2 * 65536) (by omega) (by omega), w64 (x := r1 * 16777216 + r2 * 65536 + r3 * 256) (by omega) (by omega), w64 (by omega) (by omega)]
      omega

theorem ev_l1New (l : List Int) (h : l.length ≤ 1048576) : ∃ g, Ev (fun k => spec_l1New.f k l) (l, 0, g) := by
  obtain ⟨r, hr, he⟩ := loop_ev (σ := Int) l.length (fun k s i => spec_l1New.l0 k l s i) (fun _ _ => True) (fun r => ∃ g, r = (l, 0, g))
    (fun i s hi _ => by
      by_cases c : (i : Int) < 4000
      · exact Or.inl ⟨_, trivial, 0, fun k _ => by simp only [spec_l1New.l0]; rw [if_pos (by omega), if_pos c, if_pos (by omega), up64 (by omega)]⟩
      · exact Or.inr ⟨_, ⟨s, rfl⟩, 0, fun k _ => by simp only [spec_l1New.l0]; rw [if_pos (by omega), if_neg c]⟩)
    (fun s _ => ⟨_, ⟨s, rfl⟩, 0, fun k _ => by simp only [spec_l1New.l0]; rw [if_neg (by omega)]⟩)
    l.length 0 (wrap64 (26583 + (l.length : Int))) (by omega) (by omega) trivial
  obtain ⟨g, rfl⟩ := hr
  exact ⟨g, Ev.congr (fun k => rfl) he⟩

theorem st0 : St 0 := ⟨by omega, by omega⟩


theorem l1Pick_ok (b : List Int) (i h : Int) (l : List ByteArray) (hb : b.length ≤ 1048576) (hi : St i) (hl : 0 < l.length) : ∃ r i' h', spec_l1Pick.f b i h l = some (r, i', h') ∧ r ∈ l ∧ St i' := by
  unfold spec_l1Pick.f
  obtain ⟨r, i', h', e, p, q, _, s⟩ := l1Below_ok b i h (l.length : Int) hb hi
  have q' := q (by omega)
  rw [e]
  simp only [Option.bind_some]
  rw [if_pos p, if_pos q']
  refine ⟨_, _, _, rfl, ?_, s⟩
  obtain ⟨m, rfl⟩ := Int.eq_ofNat_of_zero_le p
  rw [rdOf_at _ _ _ (by omega)]
  exact List.getElem_mem _


theorem ev_specIsName (s : ByteArray) (h : s.size ≤ 9223372036854775807) : Ev (fun k => spec_IsName.f k s) (nameB s) := by
  have hc := all_loop s.size h (fun i => 97 ≤ bt s (i : Int) ∧ bt s (i : Int) ≤ 122) (fun k i => spec_IsName.l0 k s i) (decide ((1 : Int) ≤ (s.size : Int)) && decide ((s.size : Int) ≤ 2)) false
    (fun i hi hT => ⟨0, fun k _ => by simp only [spec_IsName.l0]; rw [if_pos (by omega), if_pos (by omega), if_neg (by omega), if_neg (by omega)]⟩)
    (fun i hi hT => ⟨0, fun k _ => by
      simp only [spec_IsName.l0]
      rw [if_pos (by omega), if_pos (by omega)]
      by_cases c : bt s (i : Int) < 97
      · rw [if_pos c]
      · rw [if_neg c, if_pos (by omega)]⟩)
    ⟨0, fun k _ => by simp only [spec_IsName.l0]; rw [if_neg (by omega), in_eq]; rfl⟩ (nameB s) (by rw [if_and_false]; rfl)
  exact Ev.congr (fun k => rfl) hc


theorem ev_implIsName (s : ByteArray) (h : s.size ≤ 9223372036854775807) : Ev (fun k => impl_IsName.f k s) (nameB s) := by
  have hc := all_loop s.size h (fun i => 97 ≤ bt s (i : Int) ∧ bt s (i : Int) ≤ 122) (fun k i => impl_IsName.l0 k s (s.size : Int) i) (decide ((1 : Int) ≤ (s.size : Int)) && decide ((s.size : Int) ≤ 2)) false
    (fun i hi hT => ⟨0, fun k _ => by simp only [impl_IsName.l0]; rw [if_pos (by omega), if_pos (by omega), if_pos (by omega), if_neg (by omega), if_neg (by omega)]⟩)
    (fun i hi hT => ⟨0, fun k _ => by
      simp only [impl_IsName.l0]
      rw [if_pos (by omega), if_pos (by omega), if_pos (by omega)]
      by_cases c : bt s (i : Int) < 97
      · rw [if_pos c]
      · rw [if_neg c, if_pos (by omega)]⟩)
    ⟨0, fun k _ => by simp only [impl_IsName.l0]; rw [if_neg (by omega), wi_eq]; rfl⟩ (nameB s) (by rw [if_and_false]; rfl)
  exact Ev.congr (fun k => rfl) hc


/-- how many names a statement of a kind has -/
def nm (a : Int) : Int := if a = 1 then 0 else if a = 2 ∨ a = 3 ∨ a = 6 ∨ a = 8 ∨ a = 9 ∨ a = 10 then 1 else if a = 4 ∨ a = 5 ∨ a = 7 ∨ a = 11 ∨ a = 12 then 2 else -1

theorem nm_cases (a : Int) : nm a = -1 ∨ nm a = 0 ∨ nm a = 1 ∨ nm a = 2 := by
  unfold nm
  split
  · omega
  · split
    · omega
    · split <;> omega

theorem specNames (k : Nat) (a : Int) : spec_NamesOf.f (k + 1) a = some (nm a) := by
  by_cases h : 1 ≤ a ∧ a ≤ 12
  · have h2 : a = 1 ∨ a = 2 ∨ a = 3 ∨ a = 4 ∨ a = 5 ∨ a = 6 ∨ a = 7 ∨ a = 8 ∨ a = 9 ∨ a = 10 ∨ a = 11 ∨ a = 12 := by omega
    rcases h2 with rfl | rfl | rfl | rfl | rfl | rfl | rfl | rfl | rfl | rfl | rfl | rfl <;> simp [spec_NamesOf.f, spec_NamesOf.j0, nm]
  · have e : nm a = -1 := by
      unfold nm
      rw [if_neg (by omega), if_neg (by omega), if_neg (by omega)]
    unfold spec_NamesOf.f
    rw [if_neg (by omega), if_neg (by omega), if_neg (by omega), if_neg (by omega), if_neg (by omega), if_neg (by omega)]
    have h10 : (a == 10) = false := beq_eq_false_iff_ne.mpr (by omega)
    simp only [spec_NamesOf.j0]
    rw [h10, if_neg (by decide), if_neg (by omega), if_neg (by omega), if_neg (by omega), if_neg (by omega), if_neg (by omega), e]

theorem implNames (a : Int) : impl_NamesOf.f a = some (nm a) := by
  by_cases h : 1 ≤ a ∧ a ≤ 12
  · have h2 : a = 1 ∨ a = 2 ∨ a = 3 ∨ a = 4 ∨ a = 5 ∨ a = 6 ∨ a = 7 ∨ a = 8 ∨ a = 9 ∨ a = 10 ∨ a = 11 ∨ a = 12 := by omega
    rcases h2 with rfl | rfl | rfl | rfl | rfl | rfl | rfl | rfl | rfl | rfl | rfl | rfl <;> decide +kernel
  · have e : nm a = -1 := by
      unfold nm
      rw [if_neg (by omega), if_neg (by omega), if_neg (by omega)]
    have h3 : (decide (1 ≤ a) && decide (a ≤ 12)) = false := by simpa using h
    rw [e]
    simp [impl_NamesOf.f, wi_eq, h3]


/-- the names of a statement are as many as its kind wants; the others are empty -/
def namesN (m : Int) (s t : ByteArray) : Bool :=
  (if 0 < m then nameB s else decide (s.toList = [])) && ((if 1 < m then nameB t else decide (t.toList = [])) && decide (m ≥ 0))
theorem ev_hasNames (a : Int) (s t : ByteArray) (hs : s.size ≤ 9223372036854775807) (ht : t.size ≤ 9223372036854775807) : Ev (fun k => impl_Stmt_hasNames_IsName.f k a s t) (namesN (nm a) s t) := by
  obtain ⟨K, hK⟩ := Evt.and (ev_implIsName s hs) (ev_implIsName t ht)
  refine ⟨K + 3, fun k hk => ?_⟩
  obtain ⟨k, rfl⟩ : ∃ m, k = m + 3 := ⟨k - 3, by omega⟩
  obtain ⟨a1, _⟩ := hK (k + 2) (by omega)
  obtain ⟨_, b2⟩ := hK (k + 1) (by omega)
  dsimp only at a1 b2 ⊢
  have l2 : (([s, t] : List ByteArray).length : Int) = 2 := rfl
  have r0 : rdOf ByteArray.empty [s, t] 0 = s := rfl
  have r1 : rdOf ByteArray.empty [s, t] 1 = t := rfl
  have w0 : wrap64 (0 + 1) = 1 := by unfold wrap64; omega
  have w1 : wrap64 (1 + 1) = 2 := by unfold wrap64; omega
  have i0 : (0 : Int) < 2 := by decide
  have i1 : (1 : Int) < 2 := by decide
  have i2 : ¬ (2 : Int) < 2 := by decide
  have j0 : (0 : Int) ≤ 0 := by decide
  have j1 : (0 : Int) ≤ 1 := by decide
  unfold impl_Stmt_hasNames_IsName.f
  rw [implNames]
  simp only [Option.bind_some, impl_Stmt_hasNames_IsName.l0, l2, i0, i1, i2, j0, j1, if_true, if_false, r0, r1, w0, w1, a1, b2]
  unfold namesN
  rcases nm_cases a with e | e | e | e <;> rw [e]
  · by_cases c1 : s.toList = [] <;> by_cases c2 : t.toList = [] <;> simp [c1, c2]
  · by_cases c1 : s.toList = [] <;> by_cases c2 : t.toList = [] <;> simp [c1, c2]
  · by_cases c1 : nameB s = true <;> by_cases c2 : t.toList = [] <;> simp [c1, c2]
  · by_cases c1 : nameB s = true <;> by_cases c2 : nameB t = true <;> simp [c1, c2]
theorem nameB_size (s : ByteArray) (h : nameB s = true) : 1 ≤ s.size ∧ s.size ≤ 2 := by
  unfold nameB at h
  simp only [Bool.and_eq_true, decide_eq_true_eq] at h
  omega
theorem toList_nil (s : ByteArray) : s.toList = [] ↔ s.size = 0 := by
  have e : s.toList = s.data.toList := Go.ByteArray.toList_mk s.data.toList
  have l : s.data.toList.length = s.size := Array.length_toList
  rw [e, ← l]
  exact List.length_eq_zero_iff.symm
theorem nil_name (s : ByteArray) (h : s.toList = []) : nameB s = false := by
  cases hb : nameB s with
  | false => rfl
  | true => have := nameB_size s hb; have := (toList_nil s).mp h; omega
theorem name_nil (s : ByteArray) (h : nameB s = true) : s.toList ≠ [] := fun e => by rw [nil_name s e] at h; cases h
theorem nil_eq (s : ByteArray) (h : s.toList = []) : s = ⟨#[]⟩ := by
  have h := (toList_nil s).mp h
  obtain ⟨d⟩ := s
  obtain ⟨l⟩ := d
  match l, h with
  | [], _ => rfl
/-- the text of a statement whose names are as its kind wants -/
def formT (a : Int) (s t : ByteArray) : ByteArray := ⟨(Go.Proofs.YtndkkpjofddfjaaRepl.repl s.data.toList t.data.toList (Go.Proofs.YtndkkpjofddfjaaRepl.formList.getD (a - 1).toNat ByteArray.empty).data.toList).toArray⟩
def stText (a : Int) (s t : ByteArray) : ByteArray := if namesN (nm a) s t = true then formT a s t else ⟨#[]⟩
theorem names_sizes (m : Int) (s t : ByteArray) (h : namesN m s t = true) : 0 ≤ m ∧ s.size ≤ 2 ∧ t.size ≤ 2 := by
  unfold namesN at h
  simp only [Bool.and_eq_true, decide_eq_true_eq] at h
  obtain ⟨h1, h2, h3⟩ := h
  refine ⟨h3, ?_, ?_⟩
  · split at h1
    · exact (nameB_size s h1).2
    · have := (toList_nil s).mp (of_decide_eq_true h1); omega
  · split at h2
    · exact (nameB_size t h2).2
    · have := (toList_nil t).mp (of_decide_eq_true h2); omega
theorem nm_range (a : Int) (h : 0 ≤ nm a) : a = 1 ∨ a = 2 ∨ a = 3 ∨ a = 4 ∨ a = 5 ∨ a = 6 ∨ a = 7 ∨ a = 8 ∨ a = 9 ∨ a = 10 ∨ a = 11 ∨ a = 12 := by
  unfold nm at h
  split at h
  · omega
  · split at h
    · omega
    · split at h
      · omega
      · omega
theorem ev_implText (a : Int) (s t : ByteArray) (hs : s.size ≤ 9223372036854775807) (ht : t.size ≤ 9223372036854775807) : Ev (fun k => impl_StmtText.f k a s t) (stText a s t) := by
  obtain ⟨K, hK⟩ := ev_hasNames a s t hs ht
  refine ⟨K, fun k hk => ?_⟩
  have h1 := hK k hk
  dsimp only at h1
  show impl_StmtText.f k a s t = _
  unfold impl_StmtText.f stText
  rw [h1]
  simp only [Option.bind_some]
  by_cases c : namesN (nm a) s t = true
  · obtain ⟨h2, h3, h4⟩ := names_sizes _ _ _ c
    have h5 := nm_range a h2
    rw [if_pos c, if_pos c, if_pos ⟨by omega, by omega, h3, h4⟩]
    rfl
  · rw [if_neg c, if_neg c]
theorem cat_eq (l : List UInt8) (s : ByteArray) (h : s.data.toList = l) : s = ⟨l.toArray⟩ := by
  subst h
  rfl
theorem form_of (a : Int) (s t x : ByteArray) (h : x.data.toList = Go.Proofs.YtndkkpjofddfjaaRepl.repl s.data.toList t.data.toList (Go.Proofs.YtndkkpjofddfjaaRepl.formList.getD (a - 1).toNat ByteArray.empty).data.toList) : some x = some (formT a s t) := congrArg some (cat_eq _ _ h)
theorem spec_j0_true (k : Nat) (a : Int) (s t : ByteArray) : spec_StmtText.j0 (k + 1) true a s t = some ⟨#[]⟩ := by
  simp only [spec_StmtText.j0]
  rw [if_pos trivial]
theorem spec_j0_false (k : Nat) (a : Int) (s t : ByteArray) (h : 0 ≤ nm a) (hs : s.size ≤ 2) (ht : t.size ≤ 2) : spec_StmtText.j0 (k + 1) false a s t = some (formT a s t) := by
  have e1 : (⟨#[61]⟩ : ByteArray).size = 1 := rfl
  have e2 : (⟨#[46, 110, 61]⟩ : ByteArray).size = 3 := rfl
  have e3 : (⟨#[61, 61]⟩ : ByteArray).size = 2 := rfl
  have e4 : (⟨#[33, 61]⟩ : ByteArray).size = 2 := rfl
  have h1 : (s.size + 1 ≤ 9223372036854775807) = True := eq_true (by omega)
  have h2 : (s.size + 2 ≤ 9223372036854775807) = True := eq_true (by omega)
  have h3 : (s.size + 3 ≤ 9223372036854775807) = True := eq_true (by omega)
  have h4 : (s.size + 4 ≤ 9223372036854775807) = True := eq_true (by omega)
  have h5 : (s.size + 5 ≤ 9223372036854775807) = True := eq_true (by omega)
  have h5' : (5 + s.size ≤ 9223372036854775807) = True := eq_true (by omega)
  have h6 : (s.size + 6 ≤ 9223372036854775807) = True := eq_true (by omega)
  have h7 : (s.size + 7 ≤ 9223372036854775807) = True := eq_true (by omega)
  have g1 : ((s ++ (⟨#[61]⟩ : ByteArray)).size + t.size ≤ 9223372036854775807) = True := eq_true (by rw [ByteArray.size_append, e1]; omega)
  have g2 : ((s ++ (⟨#[46, 110, 61]⟩ : ByteArray)).size + t.size ≤ 9223372036854775807) = True := eq_true (by rw [ByteArray.size_append, e2]; omega)
  have g3 : ((s ++ (⟨#[61, 61]⟩ : ByteArray)).size + t.size ≤ 9223372036854775807) = True := eq_true (by rw [ByteArray.size_append, e3]; omega)
  have g4 : ((s ++ (⟨#[33, 61]⟩ : ByteArray)).size + t.size ≤ 9223372036854775807) = True := eq_true (by rw [ByteArray.size_append, e4]; omega)
  have g5 : (((s ++ (⟨#[61]⟩ : ByteArray)) ++ t).size + 2 ≤ 9223372036854775807) = True := eq_true (by rw [ByteArray.size_append, ByteArray.size_append, e1]; omega)
  rcases nm_range a h with rfl | rfl | rfl | rfl | rfl | rfl | rfl | rfl | rfl | rfl | rfl | rfl
  all_goals
    simp only [spec_StmtText.j0, h1, h2, h3, h4, h5, h5', h6, h7, g1, g2, g3, g4, g5, if_true, if_false, reduceIte, Int.reduceEq, Bool.false_eq_true]
    refine form_of _ _ _ _ ?_
    simp [Go.Proofs.YtndkkpjofddfjaaRepl.repl, Go.Proofs.YtndkkpjofddfjaaRepl.rep1, Go.Proofs.YtndkkpjofddfjaaRepl.formList]
theorem ev_specText (a : Int) (s t : ByteArray) (hs : s.size ≤ 9223372036854775807) (ht : t.size ≤ 9223372036854775807) : Ev (fun k => spec_StmtText.f k a s t) (stText a s t) := by
  obtain ⟨K, hK⟩ := Evt.and (ev_specIsName s hs) (ev_specIsName t ht)
  refine ⟨K + 1, fun k hk => ?_⟩
  obtain ⟨k, rfl⟩ : ∃ m, k = m + 1 := ⟨k - 1, by omega⟩
  obtain ⟨g1, g2⟩ := hK (k + 1) (by omega)
  dsimp only at g1 g2 ⊢
  unfold spec_StmtText.f
  rw [specNames]
  simp only [Option.bind_some]
  rw [g1, g2]
  simp only [Option.bind_some]
  by_cases c : namesN (nm a) s t = true
  · obtain ⟨h2, h3, h4⟩ := names_sizes _ _ _ c
    have hj := spec_j0_false k a s t h2 h3 h4
    unfold stText
    rw [if_pos c]
    unfold namesN at c
    rcases nm_cases a with e | e | e | e <;> rw [e] at c ⊢
    · simp at c
    · simp at c
      have n1 := nil_name s c.1
      have n2 := nil_name t c.2
      simp [n1, n2, c.1, c.2, hj]
    · simp at c
      have n2 := nil_name t c.2
      simp [c.1, n2, c.2, hj]
    · simp at c
      simp [c.1, c.2, hj]
  · unfold stText
    rw [if_neg c]
    have hj := spec_j0_true k a s t
    unfold namesN at c
    rcases nm_cases a with e | e | e | e <;> rw [e] at c ⊢
    · simp [hj]
    · by_cases c1 : s.toList = [] <;> by_cases c2 : t.toList = []
      · simp [c1, c2] at c
      · have d2 : (t.toList != ([] : List UInt8)) = true := by simpa using c2
        cases hn : nameB t <;> simp [c1, d2, nil_name s c1, hj]
      · cases hn : nameB s <;> simp [c1, nil_name t c2, hj]
      · cases hn : nameB s <;> cases hm : nameB t <;> simp [c1, hj]
    · cases hn : nameB s
      · simp [hj]
      · by_cases c2 : t.toList = []
        · simp [hn, c2] at c
        · have d2 : (t.toList != ([] : List UInt8)) = true := by simpa using c2
          cases hm : nameB t <;> simp [d2, hj]
    · cases hn : nameB s
      · simp [hj]
      · cases hm : nameB t
        · simp [hj]
        · simp [hn, hm] at c
/-! ### words of small letters -/
def isL (c : UInt8) : Bool := decide (97 ≤ c.toNat) && decide (c.toNat ≤ 122)
/-- the runs of small letters; cur: the run so far -/
def words : List UInt8 → List UInt8 → List (List UInt8)
  | [], cur => if cur = [] then [] else [cur]
  | c :: l, cur => if isL c = true then words l (cur ++ [c]) else if cur = [] then words l [] else cur :: words l []
theorem words_run : ∀ (a l cur : List UInt8), (∀ c ∈ a, isL c = true) → words (a ++ l) cur = words l (cur ++ a)
  | [], l, cur, _ => by simp
  | c :: a, l, cur, h => by
    have h1 := h c (List.mem_cons_self ..)
    have h2 := words_run a l (cur ++ [c]) (fun x hx => h x (List.mem_cons_of_mem _ hx))
    simp only [List.cons_append, words]
    rw [if_pos h1, h2, List.append_assoc]
    rfl
theorem words_stop (a l : List UInt8) (c : UInt8) (h : ∀ c ∈ a, isL c = true) (hn : a ≠ []) (hc : isL c = false) : words (a ++ c :: l) [] = a :: words l [] := by
  rw [words_run a _ _ h, List.nil_append]
  simp only [words]
  rw [if_neg (by rw [hc]; decide), if_neg hn]
theorem words_end (a : List UInt8) (h : ∀ c ∈ a, isL c = true) (hn : a ≠ []) : words a [] = [a] := by
  have := words_run a [] [] h
  rw [List.append_nil] at this
  rw [this]
  simp [words, hn]
theorem words_skip (l : List UInt8) (c : UInt8) (hc : isL c = false) : words (c :: l) [] = words l [] := by
  simp only [words]
  rw [if_neg (by rw [hc]; decide), if_pos trivial]

/-! ### one search in another -/
theorem scan {ρ : Type} (n : Nat) (b : Int) (L : Nat → Int → Option ρ) (N : Nat → Prop) (F : ρ → Prop) (r' : ρ)
    (hstep : ∀ i, i < n → ∀ r1, Ev (fun k => L k (b + ((i + 1 : Nat) : Int))) r1 → ∃ r, Ev (fun k => L k (b + (i : Int))) r ∧ (F r ∨ (r = r1 ∧ N i)))
    (hend : Ev (fun k => L k (b + (n : Int))) r') : ∀ d i, i ≤ n → n - i = d → ∃ r, Ev (fun k => L k (b + (i : Int))) r ∧ (F r ∨ (r = r' ∧ ∀ j, i ≤ j → j < n → N j)) := by
  intro d
  induction d with
  | zero =>
    intro i hi hd
    obtain rfl : i = n := by omega
    exact ⟨r', hend, .inr ⟨rfl, fun j h1 h2 => by omega⟩⟩
  | succ d ih =>
    intro i hi hd
    obtain ⟨r1, e1, h1⟩ := ih (i + 1) (by omega) (by omega)
    obtain ⟨r, e, h⟩ := hstep i (by omega) r1 e1
    refine ⟨r, e, ?_⟩
    rcases h with h | ⟨rfl, h⟩
    · exact .inl h
    · rcases h1 with h1 | ⟨rfl, h1⟩
      · exact .inl h1
      · refine .inr ⟨rfl, fun j h2 h3 => ?_⟩
        by_cases e : j = i
        · subst e; exact h
        · exact h1 j (by omega) h3
theorem scan0 {ρ : Type} (n : Nat) (L : Nat → Int → Option ρ) (N : Nat → Prop) (F : ρ → Prop) (r' : ρ) (hn : n < 9223372036854775807)
    (hstep : ∀ i, i < n → ∀ r1, Ev (fun k => L k (wrap64 ((i : Int) + 1))) r1 → ∃ r, Ev (fun k => L k (i : Int)) r ∧ (F r ∨ (r = r1 ∧ N i)))
    (hend : Ev (fun k => L k (n : Int)) r') : ∃ r, Ev (fun k => L k 0) r ∧ (F r ∨ (r = r' ∧ ∀ j, j < n → N j)) := by
  obtain ⟨r, e, h⟩ := scan n 0 L N F r' (fun i hi r1 h1 => by
    rw [Int.zero_add] at h1 ⊢
    exact hstep i hi r1 (by rw [up64 (by omega)]; exact h1)) (by rw [Int.zero_add]; exact hend) n 0 (by omega) (by omega)
  refine ⟨r, by simpa using e, ?_⟩
  rcases h with h | ⟨h1, h2⟩
  · exact .inl h
  · exact .inr ⟨h1, fun j hj => h2 j (by omega) hj⟩
theorem scan1 {ρ : Type} (L : Nat → Int → Option ρ) (N : Nat → Prop) (F : ρ → Prop) (r' : ρ)
    (hstep : ∀ i : Nat, i < 12 → ∀ r1, Ev (fun k => L k (wrap64 ((1 + (i : Int)) + 1))) r1 → ∃ r, Ev (fun k => L k (1 + (i : Int))) r ∧ (F r ∨ (r = r1 ∧ N i)))
    (hend : Ev (fun k => L k 13) r') : ∃ r, Ev (fun k => L k 1) r ∧ (F r ∨ (r = r' ∧ ∀ j, j < 12 → N j)) := by
  obtain ⟨r, e, h⟩ := scan 12 1 L N F r' (fun i hi r1 h1 => hstep i hi r1 (by rw [show wrap64 ((1 + (i : Int)) + 1) = 1 + ((i + 1 : Nat) : Int) by unfold wrap64; omega]; exact h1)) hend 12 0 (by omega) (by omega)
  refine ⟨r, e, ?_⟩
  rcases h with h | ⟨h1, h2⟩
  · exact .inl h
  · exact .inr ⟨h1, fun j hj => h2 j (by omega) hj⟩

/-! ### a text is the text of one statement alone -/
abbrev Ans := Int × ByteArray × ByteArray × Bool
def noAns : Ans := (0, (⟨#[]⟩ : ByteArray), (⟨#[]⟩ : ByteArray), false)
def Match (s : ByteArray) (a : Int) (x y : ByteArray) : Prop := s.toList ≠ [] ∧ (stText a x y).toList = s.toList
def Found (s : ByteArray) (r : Ans) : Prop := ∃ a x y, r = (a, x, y, true) ∧ Match s a x y
theorem toL (s : ByteArray) : s.toList = s.data.toList := Go.ByteArray.toList_mk s.data.toList
theorem name_letters (s : ByteArray) (h : nameB s = true) : ∀ c ∈ s.data.toList, isL c = true := by
  intro c hc
  obtain ⟨i, hi, rfl⟩ := List.getElem_of_mem hc
  unfold nameB at h
  simp only [Bool.and_eq_true, decide_eq_true_eq] at h
  have hi' : i < s.size := by simpa using hi
  have h1 := h.1 i hi'
  have e : bt s (i : Int) = ((s.data.toList[i]).toNat : Int) := by
    unfold bt
    rw [dif_pos (by rw [Int.toNat_natCast]; exact hi')]
    simp only [Int.toNat_natCast, Array.getElem_toList]
    rfl
  rw [e] at h1
  unfold isL
  rw [decide_eq_true (by omega), decide_eq_true (by omega)]
  rfl

/-- the statement whose text it is -/
def undo (l : List UInt8) : Int × List UInt8 × List UInt8 :=
  if l.dropWhile isL = [] then (1, [], []) else
  if (l.dropWhile isL).take 1 = [32] then (8, (l.dropWhile isL).drop 1, []) else
  if (l.dropWhile isL).take 2 = [33, 61] then (if (l.dropWhile isL).drop 2 = [110, 117, 108, 108] then (10, l.takeWhile isL, []) else (12, l.takeWhile isL, (l.dropWhile isL).drop 2)) else
  if (l.dropWhile isL).take 3 = [46, 110, 61] then (if (l.dropWhile isL).drop 3 = [110, 117, 108, 108] then (6, l.takeWhile isL, []) else (7, l.takeWhile isL, (l.dropWhile isL).drop 3)) else
  if (l.dropWhile isL).take 2 = [61, 61] then (if (l.dropWhile isL).drop 2 = [110, 117, 108, 108] then (9, l.takeWhile isL, []) else (11, l.takeWhile isL, (l.dropWhile isL).drop 2)) else
  if (l.dropWhile isL).drop 1 = [110, 117, 108, 108] then (2, l.takeWhile isL, []) else
  if (l.dropWhile isL).drop 1 = [110, 101, 119] then (3, l.takeWhile isL, []) else
  if ((l.dropWhile isL).drop 1).dropWhile isL = [] then (4, l.takeWhile isL, (l.dropWhile isL).drop 1) else (5, l.takeWhile isL, ((l.dropWhile isL).drop 1).takeWhile isL)
theorem tw (a r : List UInt8) (c : UInt8) (h : ∀ x ∈ a, isL x = true) (hc : isL c = false) : (a ++ c :: r).takeWhile isL = a ∧ (a ++ c :: r).dropWhile isL = c :: r := by
  constructor
  · rw [List.takeWhile_append_of_pos h, List.takeWhile_cons, hc]
    simp
  · rw [List.dropWhile_append_of_pos h, List.dropWhile_cons, hc]
    simp
theorem tw0 (a : List UInt8) (h : ∀ x ∈ a, isL x = true) : a.takeWhile isL = a ∧ a.dropWhile isL = [] := by
  have h1 := List.takeWhile_append_of_pos (p := isL) (l₁ := a) (l₂ := []) h
  have h2 := List.dropWhile_append_of_pos (p := isL) (l₁ := a) (l₂ := []) h
  rw [List.append_nil] at h1 h2
  exact ⟨by simpa using h1, by simpa using h2⟩
theorem short (l : List UInt8) (h : l.length ≤ 2) : l ≠ [110, 117, 108, 108] ∧ l ≠ [110, 101, 119] := by
  constructor <;> (rintro rfl; simp at h)
theorem short2 (l : List UInt8) : l ++ [46, 110] ≠ [110, 117, 108, 108] ∧ l ++ [46, 110] ≠ [110, 101, 119] := by
  constructor <;> (intro e; have := congrArg List.getLast? e; simp at this)
/-- what a kind's text is made of -/
theorem form_list (a : Int) (x y : ByteArray) (h : 0 ≤ nm a) : (formT a x y).data.toList = Go.Proofs.YtndkkpjofddfjaaRepl.repl x.data.toList y.data.toList (Go.Proofs.YtndkkpjofddfjaaRepl.formList.getD (a - 1).toNat ByteArray.empty).data.toList := rfl
theorem undo_form (a : Int) (x y : ByteArray) (h : namesN (nm a) x y = true) : undo (formT a x y).data.toList = (a, x.data.toList, y.data.toList) := by
  obtain ⟨h2, h3, h4⟩ := names_sizes _ _ _ h
  have hx3 : x.data.toList.length ≤ 2 := by simpa using h3
  have hy3 : y.data.toList.length ≤ 2 := by simpa using h4
  have hn := h
  unfold namesN at hn
  simp only [Bool.and_eq_true, decide_eq_true_eq] at hn
  obtain ⟨k1, k2, _⟩ := hn
  rw [form_list a x y h2]
  have L61 : isL 61 = false := by decide
  have L33 : isL 33 = false := by decide
  have L46 : isL 46 = false := by decide
  have L32 : isL 32 = false := by decide
  have one : 0 < nm a → ∀ c ∈ x.data.toList, isL c = true := fun hm => by rw [if_pos hm] at k1; exact name_letters x k1
  have two : 1 < nm a → ∀ c ∈ y.data.toList, isL c = true := fun hm => by rw [if_pos hm] at k2; exact name_letters y k2
  have non1 : ¬ 0 < nm a → x.data.toList = [] := fun hm => by rw [if_neg hm] at k1; rw [← toL]; exact of_decide_eq_true k1
  have non2 : ¬ 1 < nm a → y.data.toList = [] := fun hm => by rw [if_neg hm] at k2; rw [← toL]; exact of_decide_eq_true k2
  have sx := short _ hx3
  have sy := short _ hy3
  have hy0 : 1 < nm a → y.data.toList ≠ [] := fun hm e => by
    rw [if_pos hm] at k2
    exact name_nil y k2 ((toL y).trans e)
  clear k1 k2 h hx3 hy3 h3 h4
  generalize x.data.toList = X at *
  generalize y.data.toList = Y at *
  have form : ∀ (m : Int) (l : List UInt8), Go.Proofs.YtndkkpjofddfjaaRepl.repl X Y (Go.Proofs.YtndkkpjofddfjaaRepl.formList.getD (m - 1).toNat ByteArray.empty).data.toList = l → undo l = (m, X, Y) → undo (Go.Proofs.YtndkkpjofddfjaaRepl.repl X Y (Go.Proofs.YtndkkpjofddfjaaRepl.formList.getD (m - 1).toNat ByteArray.empty).data.toList) = (m, X, Y) := fun m l e h => by rw [e]; exact h
  have und : ∀ (c : UInt8) (r : List UInt8), isL c = false → (∀ x ∈ X, isL x = true) → (X ++ c :: r).takeWhile isL = X ∧ (X ++ c :: r).dropWhile isL = c :: r := fun c r hc hX => tw X r c hX hc
  rcases nm_range a h2 with rfl | rfl | rfl | rfl | rfl | rfl | rfl | rfl | rfl | rfl | rfl | rfl
  · rw [non1 (by decide), non2 (by decide)]
    decide
  · refine form 2 (X ++ 61 :: [110, 117, 108, 108]) (by simp [Go.Proofs.YtndkkpjofddfjaaRepl.repl, Go.Proofs.YtndkkpjofddfjaaRepl.rep1, Go.Proofs.YtndkkpjofddfjaaRepl.formList]) ?_
    unfold undo
    rw [(und 61 _ L61 (one (by decide))).1, (und 61 _ L61 (one (by decide))).2, non2 (by decide)]
    simp
  · refine form 3 (X ++ 61 :: [110, 101, 119]) (by simp [Go.Proofs.YtndkkpjofddfjaaRepl.repl, Go.Proofs.YtndkkpjofddfjaaRepl.rep1, Go.Proofs.YtndkkpjofddfjaaRepl.formList]) ?_
    unfold undo
    rw [(und 61 _ L61 (one (by decide))).1, (und 61 _ L61 (one (by decide))).2, non2 (by decide)]
    simp
  · refine form 4 (X ++ 61 :: Y) (by simp [Go.Proofs.YtndkkpjofddfjaaRepl.repl, Go.Proofs.YtndkkpjofddfjaaRepl.rep1, Go.Proofs.YtndkkpjofddfjaaRepl.formList]) ?_
    unfold undo
    rw [(und 61 _ L61 (one (by decide))).1, (und 61 _ L61 (one (by decide))).2]
    have t1 := tw0 Y (two (by decide))
    cases Y with
    | nil => exact absurd rfl (hy0 (by decide))
    | cons y0 Y =>
      have d0 : y0 ≠ 61 := fun e => by have := two (by decide) y0 (List.mem_cons_self ..); rw [e, L61] at this; cases this
      simp only [List.drop_succ_cons, List.drop_zero, List.take_succ_cons, List.take_zero, t1.2]
      simp [d0, sy.1, sy.2]
  · refine form 5 (X ++ 61 :: (Y ++ [46, 110])) (by simp [Go.Proofs.YtndkkpjofddfjaaRepl.repl, Go.Proofs.YtndkkpjofddfjaaRepl.rep1, Go.Proofs.YtndkkpjofddfjaaRepl.formList]) ?_
    unfold undo
    rw [(und 61 _ L61 (one (by decide))).1, (und 61 _ L61 (one (by decide))).2]
    have t1 := tw Y [110] 46 (two (by decide)) L46
    have t2 := short2 Y
    cases Y with
    | nil => exact absurd rfl (hy0 (by decide))
    | cons y0 Y =>
      have d0 : y0 ≠ 61 := fun e => by have := two (by decide) y0 (List.mem_cons_self ..); rw [e, L61] at this; cases this
      simp only [List.drop_succ_cons, List.drop_zero, List.take_succ_cons, List.take_zero, List.cons_append] at t1 t2 ⊢
      rw [t1.1, t1.2]
      simp only [if_neg t2.1, if_neg t2.2]
      simp [d0]
  · refine form 6 (X ++ 46 :: [110, 61, 110, 117, 108, 108]) (by simp [Go.Proofs.YtndkkpjofddfjaaRepl.repl, Go.Proofs.YtndkkpjofddfjaaRepl.rep1, Go.Proofs.YtndkkpjofddfjaaRepl.formList]) ?_
    unfold undo
    rw [(und 46 _ L46 (one (by decide))).1, (und 46 _ L46 (one (by decide))).2, non2 (by decide)]
    simp
  · refine form 7 (X ++ 46 :: (110 :: 61 :: Y)) (by simp [Go.Proofs.YtndkkpjofddfjaaRepl.repl, Go.Proofs.YtndkkpjofddfjaaRepl.rep1, Go.Proofs.YtndkkpjofddfjaaRepl.formList]) ?_
    unfold undo
    rw [(und 46 _ L46 (one (by decide))).1, (und 46 _ L46 (one (by decide))).2]
    simp [sy.1]
  · refine form 8 ([102, 114, 101, 101] ++ 32 :: X) (by simp [Go.Proofs.YtndkkpjofddfjaaRepl.repl, Go.Proofs.YtndkkpjofddfjaaRepl.rep1, Go.Proofs.YtndkkpjofddfjaaRepl.formList]) ?_
    unfold undo
    rw [(tw [102, 114, 101, 101] X 32 (by decide) L32).2, non2 (by decide)]
    simp
  · refine form 9 (X ++ 61 :: [61, 110, 117, 108, 108]) (by simp [Go.Proofs.YtndkkpjofddfjaaRepl.repl, Go.Proofs.YtndkkpjofddfjaaRepl.rep1, Go.Proofs.YtndkkpjofddfjaaRepl.formList]) ?_
    unfold undo
    rw [(und 61 _ L61 (one (by decide))).1, (und 61 _ L61 (one (by decide))).2, non2 (by decide)]
    simp
  · refine form 10 (X ++ 33 :: [61, 110, 117, 108, 108]) (by simp [Go.Proofs.YtndkkpjofddfjaaRepl.repl, Go.Proofs.YtndkkpjofddfjaaRepl.rep1, Go.Proofs.YtndkkpjofddfjaaRepl.formList]) ?_
    unfold undo
    rw [(und 33 _ L33 (one (by decide))).1, (und 33 _ L33 (one (by decide))).2, non2 (by decide)]
    simp
  · refine form 11 (X ++ 61 :: (61 :: Y)) (by simp [Go.Proofs.YtndkkpjofddfjaaRepl.repl, Go.Proofs.YtndkkpjofddfjaaRepl.rep1, Go.Proofs.YtndkkpjofddfjaaRepl.formList]) ?_
    unfold undo
    rw [(und 61 _ L61 (one (by decide))).1, (und 61 _ L61 (one (by decide))).2]
    simp [sy.1]
  · refine form 12 (X ++ 33 :: (61 :: Y)) (by simp [Go.Proofs.YtndkkpjofddfjaaRepl.repl, Go.Proofs.YtndkkpjofddfjaaRepl.rep1, Go.Proofs.YtndkkpjofddfjaaRepl.formList]) ?_
    unfold undo
    rw [(und 33 _ L33 (one (by decide))).1, (und 33 _ L33 (one (by decide))).2]
    simp [sy.1]
theorem match_names (s : ByteArray) (a : Int) (x y : ByteArray) (h : Match s a x y) : namesN (nm a) x y = true ∧ (formT a x y).data.toList = s.data.toList := by
  obtain ⟨h1, h2⟩ := h
  unfold stText at h2
  by_cases c : namesN (nm a) x y = true
  · rw [if_pos c, toL, toL] at h2
    exact ⟨c, h2⟩
  · rw [if_neg c, show (⟨#[]⟩ : ByteArray).toList = [] from Go.ByteArray.toList_mk []] at h2
    exact absurd h2.symm h1
theorem bytes_ext {x y : ByteArray} (h : x.data.toList = y.data.toList) : x = y := by
  obtain ⟨⟨l⟩⟩ := x
  obtain ⟨⟨m⟩⟩ := y
  have h : l = m := h
  rw [h]
theorem match_one (s : ByteArray) (a b : Int) (x y x' y' : ByteArray) (h : Match s a x y) (h' : Match s b x' y') : a = b ∧ x = x' ∧ y = y' := by
  obtain ⟨h1, h2⟩ := match_names s a x y h
  obtain ⟨h1', h2'⟩ := match_names s b x' y' h'
  have e := undo_form a x y h1
  rw [h2, ← h2', undo_form b x' y' h1'] at e
  simp only [Prod.mk.injEq] at e
  exact ⟨e.1.symm, bytes_ext e.2.1.symm, bytes_ext e.2.2.symm⟩

theorem form_parts (a : Int) (x y : ByteArray) (h : namesN (nm a) x y = true) :
    (x.data.toList = [] ∨ x.data.toList ∈ (words (formT a x y).data.toList []).take 3) ∧ (y.data.toList = [] ∨ y.data.toList ∈ (words (formT a x y).data.toList []).take 3) ∧ (∀ c ∈ (formT a x y).data.toList, c.toNat < 128) ∧ (formT a x y).data.toList.length ≤ 20 := by
  obtain ⟨h2, h3, h4⟩ := names_sizes _ _ _ h
  have hx3 : x.data.toList.length ≤ 2 := by simpa using h3
  have hy3 : y.data.toList.length ≤ 2 := by simpa using h4
  have hn := h
  unfold namesN at hn
  simp only [Bool.and_eq_true, decide_eq_true_eq] at hn
  obtain ⟨k1, k2, _⟩ := hn
  rw [form_list a x y h2]
  have L61 : isL 61 = false := by decide
  have L33 : isL 33 = false := by decide
  have L46 : isL 46 = false := by decide
  have L32 : isL 32 = false := by decide
  have one : 0 < nm a → (∀ c ∈ x.data.toList, isL c = true) ∧ x.data.toList ≠ [] := fun hm => by
    rw [if_pos hm] at k1
    exact ⟨name_letters x k1, fun e => name_nil x k1 ((toL x).trans e)⟩
  have two : 1 < nm a → (∀ c ∈ y.data.toList, isL c = true) ∧ y.data.toList ≠ [] := fun hm => by
    rw [if_pos hm] at k2
    exact ⟨name_letters y k2, fun e => name_nil y k2 ((toL y).trans e)⟩
  have non1 : ¬ 0 < nm a → x.data.toList = [] := fun hm => by rw [if_neg hm] at k1; rw [← toL]; exact of_decide_eq_true k1
  have non2 : ¬ 1 < nm a → y.data.toList = [] := fun hm => by rw [if_neg hm] at k2; rw [← toL]; exact of_decide_eq_true k2
  have asc : ∀ l : List UInt8, (∀ c ∈ l, isL c = true) → ∀ c ∈ l, c.toNat < 128 := fun l hl c hc => by
    have := hl c hc
    unfold isL at this
    simp only [Bool.and_eq_true, decide_eq_true_eq] at this
    omega
  clear k1 k2 h h3 h4
  generalize x.data.toList = X at *
  generalize y.data.toList = Y at *
  have form : ∀ (m : Int) (l : List UInt8), Go.Proofs.YtndkkpjofddfjaaRepl.repl X Y (Go.Proofs.YtndkkpjofddfjaaRepl.formList.getD (m - 1).toNat ByteArray.empty).data.toList = l → ((X = [] ∨ X ∈ (words l []).take 3) ∧ (Y = [] ∨ Y ∈ (words l []).take 3)) → (∀ c ∈ l, c.toNat < 128) ∧ l.length ≤ 20 →
      (X = [] ∨ X ∈ (words (Go.Proofs.YtndkkpjofddfjaaRepl.repl X Y (Go.Proofs.YtndkkpjofddfjaaRepl.formList.getD (m - 1).toNat ByteArray.empty).data.toList) []).take 3) ∧ (Y = [] ∨ Y ∈ (words (Go.Proofs.YtndkkpjofddfjaaRepl.repl X Y (Go.Proofs.YtndkkpjofddfjaaRepl.formList.getD (m - 1).toNat ByteArray.empty).data.toList) []).take 3) ∧ (∀ c ∈ Go.Proofs.YtndkkpjofddfjaaRepl.repl X Y (Go.Proofs.YtndkkpjofddfjaaRepl.formList.getD (m - 1).toNat ByteArray.empty).data.toList, c.toNat < 128) ∧ (Go.Proofs.YtndkkpjofddfjaaRepl.repl X Y (Go.Proofs.YtndkkpjofddfjaaRepl.formList.getD (m - 1).toNat ByteArray.empty).data.toList).length ≤ 20 := fun m l e h1 h2 => by
    rw [e]
    exact ⟨h1.1, h1.2, h2.1, h2.2⟩
  have wX : ∀ (c : UInt8) (r : List UInt8), isL c = false → ((∀ c ∈ X, isL c = true) ∧ X ≠ []) → words (X ++ c :: r) [] = X :: words r [] := fun c r hc hX => words_stop X r c hX.1 hX.2 hc
  have lst : ∀ (c : UInt8) (r : List UInt8), c.toNat < 128 → (∀ d ∈ r, d.toNat < 128) → (∀ c ∈ X, isL c = true) → ∀ d ∈ X ++ c :: r, d.toNat < 128 := fun c r hc hr hX d hd => by
    rcases List.mem_append.mp hd with hd | hd
    · exact asc X hX d hd
    · rcases List.mem_cons.mp hd with rfl | hd
      · exact hc
      · exact hr d hd
  rcases nm_range a h2 with rfl | rfl | rfl | rfl | rfl | rfl | rfl | rfl | rfl | rfl | rfl | rfl
  · rw [non1 (by decide), non2 (by decide)]
    exact ⟨.inl rfl, .inl rfl, by decide, by decide⟩
  · refine form 2 (X ++ 61 :: [110, 117, 108, 108]) (by simp [Go.Proofs.YtndkkpjofddfjaaRepl.repl, Go.Proofs.YtndkkpjofddfjaaRepl.rep1, Go.Proofs.YtndkkpjofddfjaaRepl.formList]) ⟨.inr ?_, .inl (non2 (by decide))⟩ ⟨lst 61 _ (by decide) (by decide) (one (by decide)).1, by simp; omega⟩
    rw [wX 61 _ L61 (one (by decide))]
    simp
  · refine form 3 (X ++ 61 :: [110, 101, 119]) (by simp [Go.Proofs.YtndkkpjofddfjaaRepl.repl, Go.Proofs.YtndkkpjofddfjaaRepl.rep1, Go.Proofs.YtndkkpjofddfjaaRepl.formList]) ⟨.inr ?_, .inl (non2 (by decide))⟩ ⟨lst 61 _ (by decide) (by decide) (one (by decide)).1, by simp; omega⟩
    rw [wX 61 _ L61 (one (by decide))]
    simp
  · have ht := two (by decide)
    refine form 4 (X ++ 61 :: Y) (by simp [Go.Proofs.YtndkkpjofddfjaaRepl.repl, Go.Proofs.YtndkkpjofddfjaaRepl.rep1, Go.Proofs.YtndkkpjofddfjaaRepl.formList]) ?_ ⟨lst 61 _ (by decide) (asc Y ht.1) (one (by decide)).1, by simp; omega⟩
    rw [wX 61 _ L61 (one (by decide)), words_end Y ht.1 ht.2]
    simp
  · have ht := two (by decide)
    refine form 5 (X ++ 61 :: (Y ++ 46 :: [110])) (by simp [Go.Proofs.YtndkkpjofddfjaaRepl.repl, Go.Proofs.YtndkkpjofddfjaaRepl.rep1, Go.Proofs.YtndkkpjofddfjaaRepl.formList]) ?_ ⟨lst 61 _ (by decide) (fun d hd => by
      rcases List.mem_append.mp hd with hd | hd
      · exact asc Y ht.1 d hd
      · have h46 : ∀ d ∈ ([46, 110] : List UInt8), d.toNat < 128 := by decide
        exact h46 d hd) (one (by decide)).1, by simp; omega⟩
    rw [wX 61 _ L61 (one (by decide)), words_stop Y [110] 46 ht.1 ht.2 L46]
    simp
  · refine form 6 (X ++ 46 :: [110, 61, 110, 117, 108, 108]) (by simp [Go.Proofs.YtndkkpjofddfjaaRepl.repl, Go.Proofs.YtndkkpjofddfjaaRepl.rep1, Go.Proofs.YtndkkpjofddfjaaRepl.formList]) ⟨.inr ?_, .inl (non2 (by decide))⟩ ⟨lst 46 _ (by decide) (by decide) (one (by decide)).1, by simp; omega⟩
    rw [wX 46 _ L46 (one (by decide))]
    simp
  · have ht := two (by decide)
    refine form 7 (X ++ 46 :: ([110] ++ 61 :: Y)) (by simp [Go.Proofs.YtndkkpjofddfjaaRepl.repl, Go.Proofs.YtndkkpjofddfjaaRepl.rep1, Go.Proofs.YtndkkpjofddfjaaRepl.formList]) ?_ ⟨lst 46 _ (by decide) (fun d hd => by
      simp only [List.cons_append, List.nil_append, List.mem_cons] at hd
      rcases hd with rfl | rfl | hd
      · decide
      · decide
      · exact asc Y ht.1 d hd) (one (by decide)).1, by simp; omega⟩
    rw [wX 46 _ L46 (one (by decide)), words_stop [110] Y 61 (by decide) (by decide) L61, words_end Y ht.1 ht.2]
    simp
  · have ho := one (by decide)
    refine form 8 ([102, 114, 101, 101] ++ 32 :: X) (by simp [Go.Proofs.YtndkkpjofddfjaaRepl.repl, Go.Proofs.YtndkkpjofddfjaaRepl.rep1, Go.Proofs.YtndkkpjofddfjaaRepl.formList]) ⟨.inr ?_, .inl (non2 (by decide))⟩ ⟨fun d hd => by
      simp only [List.cons_append, List.nil_append, List.mem_cons] at hd
      rcases hd with rfl | rfl | rfl | rfl | rfl | hd
      · decide
      · decide
      · decide
      · decide
      · decide
      · exact asc X ho.1 d hd, by simp; omega⟩
    rw [words_stop [102, 114, 101, 101] X 32 (by decide) (by decide) L32, words_end X ho.1 ho.2]
    simp
  · refine form 9 (X ++ 61 :: [61, 110, 117, 108, 108]) (by simp [Go.Proofs.YtndkkpjofddfjaaRepl.repl, Go.Proofs.YtndkkpjofddfjaaRepl.rep1, Go.Proofs.YtndkkpjofddfjaaRepl.formList]) ⟨.inr ?_, .inl (non2 (by decide))⟩ ⟨lst 61 _ (by decide) (by decide) (one (by decide)).1, by simp; omega⟩
    rw [wX 61 _ L61 (one (by decide))]
    simp
  · refine form 10 (X ++ 33 :: [61, 110, 117, 108, 108]) (by simp [Go.Proofs.YtndkkpjofddfjaaRepl.repl, Go.Proofs.YtndkkpjofddfjaaRepl.rep1, Go.Proofs.YtndkkpjofddfjaaRepl.formList]) ⟨.inr ?_, .inl (non2 (by decide))⟩ ⟨lst 33 _ (by decide) (by decide) (one (by decide)).1, by simp; omega⟩
    rw [wX 33 _ L33 (one (by decide))]
    simp
  · have ht := two (by decide)
    refine form 11 (X ++ 61 :: (61 :: Y)) (by simp [Go.Proofs.YtndkkpjofddfjaaRepl.repl, Go.Proofs.YtndkkpjofddfjaaRepl.rep1, Go.Proofs.YtndkkpjofddfjaaRepl.formList]) ?_ ⟨lst 61 _ (by decide) (fun d hd => by
      rcases List.mem_cons.mp hd with rfl | hd
      · decide
      · exact asc Y ht.1 d hd) (one (by decide)).1, by simp; omega⟩
    rw [wX 61 _ L61 (one (by decide)), words_skip _ 61 L61, words_end Y ht.1 ht.2]
    simp
  · have ht := two (by decide)
    refine form 12 (X ++ 33 :: (61 :: Y)) (by simp [Go.Proofs.YtndkkpjofddfjaaRepl.repl, Go.Proofs.YtndkkpjofddfjaaRepl.rep1, Go.Proofs.YtndkkpjofddfjaaRepl.formList]) ?_ ⟨lst 33 _ (by decide) (fun d hd => by
      rcases List.mem_cons.mp hd with rfl | hd
      · decide
      · exact asc Y ht.1 d hd) (one (by decide)).1, by simp; omega⟩
    rw [wX 33 _ L33 (one (by decide)), words_skip _ 61 L61, words_end Y ht.1 ht.2]
    simp
theorem match_parts (s : ByteArray) (a : Int) (x y : ByteArray) (h : Match s a x y) :
    (x.data.toList = [] ∨ x.data.toList ∈ (words s.data.toList []).take 3) ∧ (y.data.toList = [] ∨ y.data.toList ∈ (words s.data.toList []).take 3) ∧ (∀ c ∈ s.data.toList, c.toNat < 128) ∧ s.size ≤ 20 := by
  obtain ⟨h1, h2⟩ := match_names s a x y h
  have := form_parts a x y h1
  rw [h2] at this
  exact ⟨this.1, this.2.1, this.2.2.1, by simpa using this.2.2.2⟩

/-! ### the words, as the two programs find them -/
theorem btL (s : ByteArray) (i : Nat) (h : i < s.data.toList.length) : bt s (i : Int) = ((s.data.toList[i]).toNat : Int) := by
  have hi' : i < s.size := by simpa using h
  unfold bt
  rw [dif_pos (by rw [Int.toNat_natCast]; exact hi')]
  simp only [Int.toNat_natCast, Array.getElem_toList]
  rfl
theorem extract_one (s : ByteArray) (i : Nat) (h : i < s.data.toList.length) : (s.extract i (i + 1)).data.toList = [s.data.toList[i]] := by
  have := Go.Lib.extract_toList s i (i + 1)
  rw [toL] at this
  rw [this, show i + 1 - i = 1 by omega, List.drop_eq_getElem_cons h]
  rfl
theorem nil_iff (s : ByteArray) : s.toList = [] ↔ s.data.toList = [] := by rw [toL]
theorem ev_words (s : ByteArray) (hs : s.size ≤ 1048576) : ∀ (d i : Nat) (out : List ByteArray) (cur : ByteArray), i ≤ s.size → s.size - i = d → out.length ≤ i → cur.size ≤ i →
    ∃ W, Ev (fun k => spec_l5Words.l0 k s out cur (i : Int)) W ∧ W.map (·.data.toList) = out.map (·.data.toList) ++ words (s.data.toList.drop i) cur.data.toList ∧ W.length ≤ s.size + 1 ∧ ((∀ x ∈ out, x.size ≤ s.size) → ∀ x ∈ W, x.size ≤ s.size) := by
  have hl : s.data.toList.length = s.size := by simp
  intro d
  induction d with
  | zero =>
    intro i out cur hi hd ho hc
    obtain rfl : i = s.size := by omega
    have stop : ∀ (o : List ByteArray) (c : ByteArray), Ev (fun k => spec_l5Words.l0 k s o c (wrap64 ((s.size : Int) + 1))) o := fun o c => Ev.last ⟨0, fun k _ => by
      simp only [spec_l5Words.l0]
      rw [up64 (by omega), if_neg (by omega)]⟩
    have first : ∀ k, spec_l5Words.l0 (k + 1) s out cur (s.size : Int) = spec_l5Words.j1 k s out cur (s.size : Int) false := fun k => by
      simp only [spec_l5Words.l0]
      rw [if_pos (by omega), if_neg (by omega)]
    by_cases c : cur.toList = []
    · refine ⟨out, Ev.next ⟨0, fun k _ => first k⟩ (Ev.next (f := fun k => spec_l5Words.l0 k s out (⟨#[]⟩ : ByteArray) (wrap64 ((s.size : Int) + 1))) ⟨0, fun k _ => ?_⟩ (stop _ _)), ?_, by omega, fun h => h⟩
      · simp only [spec_l5Words.j1]
        rw [if_neg (by decide), if_pos c]
      · rw [List.drop_of_length_le (by omega), (nil_iff cur).mp c]
        simp [words]
    · refine ⟨out ++ [cur], Ev.next ⟨0, fun k _ => first k⟩ (Ev.next (f := fun k => spec_l5Words.l0 k s (out ++ [cur]) (⟨#[]⟩ : ByteArray) (wrap64 ((s.size : Int) + 1))) ⟨0, fun k _ => ?_⟩ (stop _ _)), ?_, by simp; omega, fun h x hx => ?_⟩
      · simp only [spec_l5Words.j1]
        rw [if_neg (by decide), if_neg c, if_pos (by omega)]
      · rw [List.drop_of_length_le (by omega)]
        have : cur.data.toList ≠ [] := fun e => c ((nil_iff cur).mpr e)
        simp [words, this]
      · rcases List.mem_append.mp hx with hx | hx
        · exact h x hx
        · rw [List.mem_singleton.mp hx]; omega
  | succ d ih =>
    intro i out cur hi hd ho hc
    have hlt : i < s.data.toList.length := by omega
    have hb := btL s i hlt
    have hdr : s.data.toList.drop i = s.data.toList[i] :: s.data.toList.drop (i + 1) := List.drop_eq_getElem_cons hlt
    by_cases cl : isL s.data.toList[i] = true
    · have hex := extract_one s i hlt
      have hsz : (cur ++ s.extract i (i + 1)).size = cur.size + 1 := by
        rw [ByteArray.size_append]
        have h2 : (s.extract i (i + 1)).size = 1 := by rw [ByteArray.size_extract]; omega
        omega
      have h1sz : (s.extract i (i + 1)).size = 1 := by rw [ByteArray.size_append] at hsz; omega
      obtain ⟨W, e, h1, h2, h3⟩ := ih (i + 1) out (cur ++ s.extract i (i + 1)) (by omega) (by omega) (by omega) (by omega)
      have cl' := cl
      unfold isL at cl'
      simp only [Bool.and_eq_true, decide_eq_true_eq] at cl'
      refine ⟨W, Ev.next (f := fun k => spec_l5Words.j1 k s out cur (i : Int) true) ⟨0, fun k _ => ?_⟩ (Ev.next (f := fun k => spec_l5Words.l0 k s out (cur ++ s.extract i (i + 1)) ((i + 1 : Nat) : Int)) ⟨0, fun k _ => ?_⟩ e), ?_, h2, h3⟩
      · simp only [spec_l5Words.l0]
        rw [if_pos (by omega), if_pos (by omega), if_pos (by omega), if_pos (by omega), decide_eq_true (show bt s (i : Int) ≤ 122 by omega)]
      · simp only [spec_l5Words.j1]
        rw [up64 (by omega), if_pos trivial, if_pos (by omega), if_pos (by omega), if_pos (by omega), Int.toNat_natCast, Int.toNat_natCast, if_pos (by rw [h1sz]; omega)]
      · rw [h1, hdr]
        simp only [words]
        rw [if_pos cl]
        simp only [ByteArray.data_append, Array.toList_append, hex]
    · have first : ∀ k, spec_l5Words.l0 (k + 1) s out cur (i : Int) = spec_l5Words.j1 k s out cur (i : Int) false := fun k => by
        simp only [spec_l5Words.l0]
        rw [if_pos (by omega), if_pos (by omega), if_pos (by omega)]
        by_cases g : bt s (i : Int) ≥ 97
        · rw [if_pos g]
          have : ¬ bt s (i : Int) ≤ 122 := fun g2 => cl (by
            unfold isL
            rw [decide_eq_true (by omega), decide_eq_true (by omega)]
            rfl)
          rw [decide_eq_false this]
        · rw [if_neg g]
      by_cases c : cur.toList = []
      · obtain ⟨W, e, h1, h2, h3⟩ := ih (i + 1) out ⟨#[]⟩ (by omega) (by omega) (by omega) (by show 0 ≤ _; omega)
        refine ⟨W, Ev.next ⟨0, fun k _ => first k⟩ (Ev.next (f := fun k => spec_l5Words.l0 k s out (⟨#[]⟩ : ByteArray) ((i + 1 : Nat) : Int)) ⟨0, fun k _ => ?_⟩ e), ?_, h2, h3⟩
        · simp only [spec_l5Words.j1]
          rw [up64 (by omega), if_neg (by decide), if_pos c]
        · rw [h1, hdr, (nil_iff cur).mp c]
          simp only [words]
          rw [if_neg cl, if_pos trivial]
      · obtain ⟨W, e, h1, h2, h3⟩ := ih (i + 1) (out ++ [cur]) ⟨#[]⟩ (by omega) (by omega) (by simp; omega) (by show 0 ≤ _; omega)
        refine ⟨W, Ev.next ⟨0, fun k _ => first k⟩ (Ev.next (f := fun k => spec_l5Words.l0 k s (out ++ [cur]) (⟨#[]⟩ : ByteArray) ((i + 1 : Nat) : Int)) ⟨0, fun k _ => ?_⟩ e), ?_, h2, fun h => h3 (fun x hx => ?_)⟩
        · simp only [spec_l5Words.j1]
          rw [up64 (by omega), if_neg (by decide), if_neg c, if_pos (by omega)]
        · rw [h1, hdr]
          simp only [words]
          rw [if_neg cl, if_neg (fun e => c ((nil_iff cur).mpr e))]
          simp
        · rcases List.mem_append.mp hx with hx | hx
          · exact h x hx
          · rw [List.mem_singleton.mp hx]; omega
theorem rdB (l : List ByteArray) (i : Nat) : rdOf ByteArray.empty l (i : Int) = l.getD i ByteArray.empty := by unfold rdOf; rw [Int.toNat_natCast]
/-- the reference's search -/
theorem spec_search (s : ByteArray) (D : List ByteArray) (hD : D.length ≤ 1048576) (hz : ∀ x ∈ D, x.size ≤ 1048576) :
    ∃ r, Ev (fun k => spec_ParseStmt.l1 k s D 0) r ∧ (Found s r ∨ (r = noAns ∧ ∀ i, i < D.length → ∀ j, j < D.length → ∀ a : Nat, a < 12 → ¬ Match s (1 + (a : Int)) (D.getD i ByteArray.empty) (D.getD j ByteArray.empty))) := by
  refine scan0 D.length (fun k i => spec_ParseStmt.l1 k s D i) (fun i => ∀ j, j < D.length → ∀ a : Nat, a < 12 → ¬ Match s (1 + (a : Int)) (D.getD i ByteArray.empty) (D.getD j ByteArray.empty)) (Found s) noAns (by omega) (fun i hi r1 h1 => ?_) (Ev.last ⟨0, fun k _ => by simp only [spec_ParseStmt.l1]; rw [if_neg (by omega)]; rfl⟩)
  obtain ⟨r, e, h⟩ := scan0 D.length (fun k j => spec_ParseStmt.l2 k s D i j) (fun j => ∀ a : Nat, a < 12 → ¬ Match s (1 + (a : Int)) (D.getD i ByteArray.empty) (D.getD j ByteArray.empty)) (Found s) r1 (by omega) (fun j hj r2 h2 => by
    obtain ⟨r, e, h⟩ := scan1 (fun k a => spec_ParseStmt.l3 k s D i j a) (fun a => ¬ Match s (1 + (a : Int)) (D.getD i ByteArray.empty) (D.getD j ByteArray.empty)) (Found s) r2 (fun a ha r3 h3 => by
      by_cases c : s.toList = []
      · exact ⟨r3, Ev.next ⟨0, fun k _ => by
          simp only [spec_ParseStmt.l3]
          rw [if_pos (by omega), if_pos (by omega), if_pos (by omega), if_pos (by omega), if_pos (by omega), if_pos c]⟩ h3, .inr ⟨rfl, fun hm => hm.1 c⟩⟩
      · obtain ⟨K, hK⟩ := ev_specText (1 + (a : Int)) (D.getD i ByteArray.empty) (D.getD j ByteArray.empty) (by have := hz _ (getD_mem ByteArray.empty D i hi); omega) (by have := hz _ (getD_mem ByteArray.empty D j hj); omega)
        by_cases m : (stText (1 + (a : Int)) (D.getD i ByteArray.empty) (D.getD j ByteArray.empty)).toList = s.toList
        · refine ⟨(1 + (a : Int), D.getD i ByteArray.empty, D.getD j ByteArray.empty, true), Ev.last ⟨K, fun k hk => ?_⟩, .inl ⟨_, _, _, rfl, c, m⟩⟩
          have hk' := hK k hk
          dsimp only at hk'
          simp only [spec_ParseStmt.l3]
          rw [if_pos (by omega), if_pos (by omega), if_pos (by omega), if_pos (by omega), if_pos (by omega), if_neg c, rdB, rdB, hk']
          simp only [Option.bind_some]
          rw [if_pos m]
        · refine ⟨r3, Ev.next ⟨K, fun k hk => ?_⟩ h3, .inr ⟨rfl, fun hm => m hm.2⟩⟩
          have hk' := hK k hk
          dsimp only at hk'
          simp only [spec_ParseStmt.l3]
          rw [if_pos (by omega), if_pos (by omega), if_pos (by omega), if_pos (by omega), if_pos (by omega), if_neg c, rdB, rdB, hk']
          simp only [Option.bind_some]
          rw [if_neg m]) (Ev.next ⟨0, fun k _ => by simp only [spec_ParseStmt.l3]; rw [if_neg (by omega)]⟩ h2)
    exact ⟨r, Ev.next ⟨0, fun k _ => by simp only [spec_ParseStmt.l2]; rw [if_pos (by omega)]⟩ e, h⟩) (Ev.next ⟨0, fun k _ => by simp only [spec_ParseStmt.l2]; rw [if_neg (by omega)]⟩ h1)
  exact ⟨r, Ev.next ⟨0, fun k _ => by simp only [spec_ParseStmt.l1]; rw [if_pos (by omega)]⟩ e, h⟩
/-- the program's search -/
theorem impl_search (s : ByteArray) (D : List ByteArray) (hD : D.length ≤ 1048576) (hz : ∀ x ∈ D, x.size ≤ 1048576) :
    ∃ r, Ev (fun k => impl_ParseStmt.l0 k s D 1) r ∧ (Found s r ∨ (r = noAns ∧ ∀ a : Nat, a < 12 → ∀ i, i < D.length → ∀ j, j < D.length → ¬ Match s (1 + (a : Int)) (D.getD i ByteArray.empty) (D.getD j ByteArray.empty))) := by
  refine scan1 (fun k a => impl_ParseStmt.l0 k s D a) (fun a => ∀ i, i < D.length → ∀ j, j < D.length → ¬ Match s (1 + (a : Int)) (D.getD i ByteArray.empty) (D.getD j ByteArray.empty)) (Found s) noAns (fun a ha r1 h1 => ?_) (Ev.last ⟨0, fun k _ => by simp only [impl_ParseStmt.l0]; rw [if_neg (by omega)]; rfl⟩)
  obtain ⟨r, e, h⟩ := scan0 D.length (fun k i => impl_ParseStmt.l1 k s D (1 + (a : Int)) D (D.length : Int) i) (fun i => ∀ j, j < D.length → ¬ Match s (1 + (a : Int)) (D.getD i ByteArray.empty) (D.getD j ByteArray.empty)) (Found s) r1 (by omega) (fun i hi r2 h2 => by
    obtain ⟨r, e, h⟩ := scan0 D.length (fun k j => impl_ParseStmt.l2 k s D (1 + (a : Int)) (rdOf ByteArray.empty D (i : Int)) D (D.length : Int) (i : Int) D (D.length : Int) j) (fun j => ¬ Match s (1 + (a : Int)) (D.getD i ByteArray.empty) (D.getD j ByteArray.empty)) (Found s) r2 (by omega) (fun j hj r3 h3 => by
      obtain ⟨K, hK⟩ := ev_implText (1 + (a : Int)) (D.getD i ByteArray.empty) (D.getD j ByteArray.empty) (by have := hz _ (getD_mem ByteArray.empty D i hi); omega) (by have := hz _ (getD_mem ByteArray.empty D j hj); omega)
      by_cases m : (stText (1 + (a : Int)) (D.getD i ByteArray.empty) (D.getD j ByteArray.empty)).toList = s.toList
      · by_cases c : s.toList = []
        · refine ⟨r3, Ev.next ⟨K, fun k hk => ?_⟩ h3, .inr ⟨rfl, fun hm => hm.1 c⟩⟩
          have hk' := hK k hk
          dsimp only at hk'
          simp only [impl_ParseStmt.l2]
          rw [if_pos (by omega), if_pos (by omega), if_pos (by omega), rdB, rdB, hk']
          simp only [Option.bind_some]
          rw [if_pos m, if_pos c]
        · refine ⟨(1 + (a : Int), D.getD i ByteArray.empty, D.getD j ByteArray.empty, true), Ev.last ⟨K, fun k hk => ?_⟩, .inl ⟨_, _, _, rfl, c, m⟩⟩
          have hk' := hK k hk
          dsimp only at hk'
          simp only [impl_ParseStmt.l2]
          rw [if_pos (by omega), if_pos (by omega), if_pos (by omega), rdB, rdB, hk']
          simp only [Option.bind_some]
          rw [if_pos m, if_neg c]
      · refine ⟨r3, Ev.next ⟨K, fun k hk => ?_⟩ h3, .inr ⟨rfl, fun hm => m hm.2⟩⟩
        have hk' := hK k hk
        dsimp only at hk'
        simp only [impl_ParseStmt.l2]
        rw [if_pos (by omega), if_pos (by omega), if_pos (by omega), rdB, rdB, hk']
        simp only [Option.bind_some]
        rw [if_neg m]) (Ev.next ⟨0, fun k _ => by simp only [impl_ParseStmt.l2]; rw [if_neg (by omega)]⟩ h2)
    exact ⟨r, Ev.next ⟨0, fun k _ => by simp only [impl_ParseStmt.l1]; rw [if_pos (by omega), if_pos (by omega), if_pos (by omega)]⟩ e, h⟩) (Ev.next ⟨0, fun k _ => by simp only [impl_ParseStmt.l1]; rw [if_neg (by omega)]⟩ h1)
  exact ⟨r, Ev.next ⟨0, fun k _ => by simp only [impl_ParseStmt.l0]; rw [if_pos (by omega)]⟩ e, h⟩

/-- the reference's answer -/
theorem spec_parse (s : ByteArray) (hs : s.size ≤ 1048576) :
    ∃ r, Ev (fun k => spec_ParseStmt.f k s) r ∧ (Found s r ∨ (r = noAns ∧ ∀ a x y, ¬ Match s a x y)) := by
  obtain ⟨W, eW, h1, h2, h3⟩ := ev_words s hs s.size 0 [] ⟨#[]⟩ (by omega) (by omega) (by simp) (by show 0 ≤ _; omega)
  have h3 := h3 (fun x hx => by cases hx)
  obtain ⟨D, hD⟩ : ∃ D, ([(⟨#[]⟩ : ByteArray), (⟨#[]⟩ : ByteArray)] : List ByteArray) ++ W.take 3 = D := ⟨_, rfl⟩
  have hDl : D.length ≤ 5 := by rw [← hD]; simp; omega
  have hDz : ∀ x ∈ D, x.size ≤ 1048576 := fun x hx => by
    rw [← hD] at hx
    rcases List.mem_append.mp hx with hx | hx
    · have : x = ⟨#[]⟩ := by simpa using hx
      rw [this]
      show 0 ≤ _
      omega
    · have := h3 x (List.mem_of_mem_take hx); omega
  obtain ⟨r, er, hr⟩ := spec_search s D (by omega) hDz
  have lead : ∀ d i, i ≤ 3 → 3 - i = d → Ev (fun k => spec_ParseStmt.l0 k s W (([(⟨#[]⟩ : ByteArray), (⟨#[]⟩ : ByteArray)] : List ByteArray) ++ W.take i) (i : Int)) r := by
    have done : ∀ i, W.take i = W.take 3 → (¬ (i : Int) < (W.length : Int) ∨ ¬ (i : Int) < 3) → Ev (fun k => spec_ParseStmt.l0 k s W (([(⟨#[]⟩ : ByteArray), (⟨#[]⟩ : ByteArray)] : List ByteArray) ++ W.take i) (i : Int)) r := fun i hi hc => by
      rw [hi, hD]
      refine Ev.next (f := fun k => spec_ParseStmt.j1 k s D) ⟨0, fun k _ => ?_⟩ (Ev.next (f := fun k => spec_ParseStmt.l1 k s D 0) ⟨0, fun k _ => rfl⟩ er)
      simp only [spec_ParseStmt.l0]
      by_cases c : (i : Int) < (W.length : Int)
      · rw [if_pos c, if_neg (by rcases hc with h | h; exact absurd c h; exact h)]
      · rw [if_neg c]
    intro d
    induction d with
    | zero =>
      intro i hi hd
      obtain rfl : i = 3 := by omega
      exact done 3 rfl (.inr (by omega))
    | succ d ih =>
      intro i hi hd
      by_cases c : i < W.length
      · have hx := ih (i + 1) (by omega) (by omega)
        refine Ev.next ⟨0, fun k _ => ?_⟩ hx
        simp only [spec_ParseStmt.l0]
        rw [if_pos (by omega), if_pos (by omega), if_pos (by omega), if_pos (by simp; omega), up64 (by omega), rdB, List.append_assoc, List.take_succ_eq_append_getElem c, get_rep _ _ _ c]
      · exact done i (by rw [List.take_of_length_le (by omega), List.take_of_length_le (by omega)]) (.inl (by omega))
  have l0 := lead 3 0 (by omega) (by omega)
  refine ⟨r, ?_, ?_⟩
  · obtain ⟨K, hK⟩ := Evt.and eW l0
    refine ⟨K, fun k hk => ?_⟩
    obtain ⟨g1, g2⟩ := hK k hk
    dsimp only at g1 g2 ⊢
    show spec_ParseStmt.f k s = _
    unfold spec_ParseStmt.f spec_l5Words.f
    rw [show spec_l5Words.l0 k s [] (⟨#[]⟩ : ByteArray) 0 = some W from g1]
    simp only [Option.bind_some]
    exact g2
  · rcases hr with hr | ⟨hr, hno⟩
    · exact .inl hr
    · refine .inr ⟨hr, fun a x y hm => ?_⟩
      obtain ⟨hx, hy, _, _⟩ := match_parts s a x y hm
      obtain ⟨hn, _⟩ := match_names s a x y hm
      have ha := nm_range a (names_sizes _ _ _ hn).1
      rw [List.drop_zero, List.map_nil, List.nil_append] at h1
      have inD : ∀ z : ByteArray, (z.data.toList = [] ∨ z.data.toList ∈ (words s.data.toList []).take 3) → ∃ i, i < D.length ∧ D.getD i ByteArray.empty = z := fun z hz => by
        have : z ∈ D := by
          rw [← hD]
          rcases hz with hz | hz
          · exact List.mem_append_left _ (by rw [nil_eq z ((nil_iff z).mpr hz)]; simp)
          · refine List.mem_append_right _ ?_
            rw [← h1, ← List.map_take] at hz
            obtain ⟨q, hq, he⟩ := List.mem_map.mp hz
            rw [← bytes_ext he]
            exact hq
        obtain ⟨i, hi, rfl⟩ := List.getElem_of_mem this
        exact ⟨i, hi, get_rep _ _ _ hi⟩
      obtain ⟨i, hi, rfl⟩ := inD x hx
      obtain ⟨j, hj, rfl⟩ := inD y hy
      refine hno i hi j hj (a - 1).toNat (by omega) ?_
      rw [show 1 + (((a - 1).toNat : Nat) : Int) = a by omega]
      exact hm

/-! ### the program's words -/
theorem spans_len (p : Nat → Bool) (s : ByteArray) : ∀ (f pos : Nat) (st : Option Nat) (acc : List (Nat × Nat)), (Go.Lib.spansFromP p s f pos st acc).1.length ≤ acc.length + f := by
  intro f
  induction f with
  | zero => intro pos st acc; simp [Go.Lib.spansFromP]
  | succ f ih =>
    intro pos st acc
    unfold Go.Lib.spansFromP
    split
    · split
      · cases st with
        | none => have := ih (pos + (Go.Utf8.decode s pos).2) none acc; show _ ≤ _; simp only; omega
        | some a => have := ih (pos + (Go.Utf8.decode s pos).2) none (acc ++ [(a, pos)]); rw [List.length_append] at this; simp only [List.length_singleton] at this; simp only; omega
      · cases st with
        | none => have := ih (pos + (Go.Utf8.decode s pos).2) (some pos) acc; simp only; omega
        | some a => have := ih (pos + (Go.Utf8.decode s pos).2) (some a) acc; simp only; omega
    · show acc.length ≤ _; omega
theorem fields_len (p : Nat → Bool) (s : ByteArray) : (Go.Lib.goFieldsP p s).length ≤ s.size + 1 := by
  have h := spans_len p s s.size 0 none []
  unfold Go.Lib.goFieldsP Go.Lib.spansOfP Go.Lib.closeSpans
  rw [List.length_map]
  generalize Go.Lib.spansFromP p s s.size 0 none [] = x at h ⊢
  simp only [List.length_nil, Nat.zero_add] at h
  split
  · rw [List.length_append, List.length_singleton]; omega
  · omega
theorem fields_size (p : Nat → Bool) (s : ByteArray) : ∀ x ∈ Go.Lib.goFieldsP p s, x.size ≤ s.size := by
  intro x hx
  obtain ⟨q, _, rfl⟩ := List.mem_map.mp hx
  rw [ByteArray.size_extract]
  omega
theorem spans_words (s : ByteArray) (hs : ∀ c ∈ s.data.toList, c.toNat < 128) : ∀ (f pos : Nat) (st : Option Nat) (acc : List (Nat × Nat)), s.size ≤ pos + f → pos ≤ s.size → (∀ a, st = some a → a < pos) →
    (Go.Lib.closeSpans s (Go.Lib.spansFromP strings_FieldsFunc_names_1.p s f pos st acc)).map (fun x => (s.extract x.1 x.2).data.toList) = acc.map (fun x => (s.extract x.1 x.2).data.toList) ++ words (s.data.toList.drop pos) (match st with | none => [] | some a => (s.data.toList.drop a).take (pos - a)) := by
  have hl : s.data.toList.length = s.size := by simp
  have ex : ∀ a b, (s.extract a b).data.toList = (s.data.toList.drop a).take (b - a) := fun a b => by rw [← toL]; exact Go.Lib.extract_toList s a b
  have fin : ∀ (pos : Nat) (st : Option Nat) (acc : List (Nat × Nat)), ¬ pos < s.size → pos ≤ s.size → (∀ a, st = some a → a < pos) →
      (Go.Lib.closeSpans s (acc, st)).map (fun x => (s.extract x.1 x.2).data.toList) = acc.map (fun x => (s.extract x.1 x.2).data.toList) ++ words (s.data.toList.drop pos) (match st with | none => [] | some a => (s.data.toList.drop a).take (pos - a)) := fun pos st acc h1 h2 h3 => by
    obtain rfl : pos = s.size := by omega
    rw [List.drop_of_length_le (by omega)]
    cases st with
    | none => simp [Go.Lib.closeSpans, words]
    | some a =>
      have ha := h3 a rfl
      have hne : (s.data.toList.drop a).take (s.size - a) ≠ [] := fun e => by
        have := congrArg List.length e
        rw [List.length_take, List.length_drop, List.length_nil] at this
        omega
      simp only [Go.Lib.closeSpans, List.map_append, List.map_cons, List.map_nil, words]
      rw [if_neg hne, ex]
  intro f
  induction f with
  | zero =>
    intro pos st acc h1 h2 h3
    exact fin pos st acc (by omega) h2 h3
  | succ f ih =>
    intro pos st acc h1 h2 h3
    by_cases hp : pos < s.size
    · have hlt : pos < s.data.toList.length := by omega
      have hc := hs _ (List.getElem_mem hlt)
      have hdec := Go.decode_ascii s pos hp hc
      have hdr : s.data.toList.drop pos = s.data.toList[pos] :: s.data.toList.drop (pos + 1) := List.drop_eq_getElem_cons hlt
      have hsp : s[pos] = s.data.toList[pos] := rfl
      have hpp : strings_FieldsFunc_names_1.p (s.data.toList[pos]).toNat = !(isL s.data.toList[pos]) := by
        unfold strings_FieldsFunc_names_1.p isL
        generalize (s.data.toList[pos]).toNat = n
        rw [Bool.eq_iff_iff]
        simp only [Bool.or_eq_true, decide_eq_true_eq, Bool.not_eq_true', Bool.and_eq_false_iff, decide_eq_false_iff_not]
        omega
      unfold Go.Lib.spansFromP
      rw [if_pos hp, hdec, hsp, hpp, hdr]
      cases cl : isL s.data.toList[pos] with
      | true =>
        simp only [Bool.not_true, Bool.false_eq_true, if_false]
        cases st with
        | none =>
          simp only
          rw [ih (pos + 1) (some pos) acc (by omega) (by omega) (fun a h => by cases h; omega)]
          simp only [words]
          rw [if_pos cl, hdr, show pos + 1 - pos = 1 by omega]
          rfl
        | some a =>
          have ha := h3 a rfl
          simp only
          rw [ih (pos + 1) (some a) acc (by omega) (by omega) (fun b h => by cases h; omega)]
          simp only [words]
          rw [if_pos cl]
          congr 2
          rw [show pos + 1 - a = (pos - a) + 1 by omega, List.take_succ_eq_append_getElem (by rw [List.length_drop]; omega)]
          congr 2
          rw [List.getElem_drop]
          congr 1
          omega
      | false =>
        simp only [Bool.not_false, if_true]
        cases st with
        | none =>
          simp only
          rw [ih (pos + 1) none acc (by omega) (by omega) (fun a h => by cases h)]
          simp only [words]
          rw [if_neg (by rw [cl]; decide), if_pos trivial]
        | some a =>
          have ha := h3 a rfl
          simp only
          rw [ih (pos + 1) none (acc ++ [(a, pos)]) (by omega) (by omega) (fun b h => by cases h)]
          have hne : (s.data.toList.drop a).take (pos - a) ≠ [] := fun e => by
            have := congrArg List.length e
            rw [List.length_take, List.length_drop, List.length_nil] at this
            omega
          simp only [words, List.map_append, List.map_cons, List.map_nil]
          rw [if_neg (by rw [cl]; decide), if_neg hne, ex]
          simp
    · have hend : Go.Lib.spansFromP strings_FieldsFunc_names_1.p s (f + 1) pos st acc = (acc, st) := by
        unfold Go.Lib.spansFromP
        rw [if_neg hp]
      rw [hend]
      exact fin pos st acc hp h2 h3
theorem fields_words (s : ByteArray) (hs : ∀ c ∈ s.data.toList, c.toNat < 128) : (Go.Lib.goFieldsP strings_FieldsFunc_names_1.p s).map (·.data.toList) = words s.data.toList [] := by
  have := spans_words s hs s.size 0 none [] (by omega) (by omega) (fun a h => by cases h)
  unfold Go.Lib.goFieldsP Go.Lib.spansOfP
  rw [List.map_map]
  simp only [List.drop_zero, List.map_nil, List.nil_append] at this
  exact this
theorem ev_implNames (s : ByteArray) (hs : s.size ≤ 20) : Ev (fun k => impl_names.f k s) ((Go.Lib.goFieldsP strings_FieldsFunc_names_1.p s).filter nameB ++ [⟨#[]⟩]) := by
  obtain ⟨F, hF⟩ : ∃ F, Go.Lib.goFieldsP strings_FieldsFunc_names_1.p s = F := ⟨_, rfl⟩
  have hl := fields_len strings_FieldsFunc_names_1.p s
  have hz := fields_size strings_FieldsFunc_names_1.p s
  rw [hF] at hl hz ⊢
  have hc := loop_is (σ := List ByteArray) F.length (fun k o i => impl_names.l0 k o F (F.length : Int) i) (fun i o => o = (F.take i).filter nameB) (F.filter nameB ++ [⟨#[]⟩])
    (fun i o hi ho => by
      obtain ⟨K, hK⟩ := ev_implIsName (F.getD i ByteArray.empty) (by have := hz _ (getD_mem ByteArray.empty F i hi); omega)
      have hol : o.length ≤ i := by rw [ho]; exact Nat.le_trans (List.length_filter_le _ _) (List.length_take_le _ _)
      refine Or.inl ⟨(F.take (i + 1)).filter nameB, rfl, K, fun k hk => ?_⟩
      have hk' := hK k hk
      dsimp only at hk'
      simp only [impl_names.l0]
      rw [if_pos (by omega), if_pos (by omega), if_pos (by omega), rdB, hk', up64 (by omega), List.take_succ_eq_append_getElem hi, List.filter_append, ← ho, ← get_rep ByteArray.empty F i hi]
      simp only [Option.bind_some]
      cases hb : nameB (F.getD i ByteArray.empty) with
      | true =>
        have hf : List.filter nameB [F.getD i ByteArray.empty] = [F.getD i ByteArray.empty] := by rw [List.filter_cons, if_pos hb]; rfl
        rw [if_pos rfl, if_pos (by omega), hf]
      | false =>
        have hf : List.filter nameB [F.getD i ByteArray.empty] = [] := by rw [List.filter_cons, if_neg (by rw [hb]; decide)]; rfl
        rw [if_neg (by decide), hf, List.append_nil])
    (fun o ho => ⟨0, fun k _ => by
      have hol : o.length ≤ F.length := by rw [ho]; exact Nat.le_trans (List.length_filter_le _ _) (List.length_take_le' ..)
      simp only [impl_names.l0]
      rw [if_neg (by omega), if_pos (by omega), ho, List.take_length]⟩)
    [] (by simp)
  obtain ⟨K, hK⟩ := hc
  refine ⟨K, fun k hk => ?_⟩
  have hk' := hK k hk
  dsimp only at hk'
  show impl_names.f k s = _
  unfold impl_names.f strings_FieldsFunc_names_1.f
  rw [if_pos (by omega), hF]
  simp only [Option.bind_some]
  exact hk'
/-- the program's answer -/
theorem impl_parse (s : ByteArray) : ∃ r, Ev (fun k => impl_ParseStmt.f k s) r ∧ (Found s r ∨ (r = noAns ∧ ∀ a x y, ¬ Match s a x y)) := by
  by_cases hs : s.size ≤ 20
  · obtain ⟨D, hD⟩ : ∃ D, (Go.Lib.goFieldsP strings_FieldsFunc_names_1.p s).filter nameB ++ [(⟨#[]⟩ : ByteArray)] = D := ⟨_, rfl⟩
    have hl := fields_len strings_FieldsFunc_names_1.p s
    have hz := fields_size strings_FieldsFunc_names_1.p s
    have hDl : D.length ≤ 22 := by
      rw [← hD, List.length_append, List.length_singleton]
      have := List.length_filter_le nameB (Go.Lib.goFieldsP strings_FieldsFunc_names_1.p s)
      omega
    have hDz : ∀ x ∈ D, x.size ≤ 1048576 := fun x hx => by
      rw [← hD] at hx
      rcases List.mem_append.mp hx with hx | hx
      · have := hz x (List.mem_filter.mp hx).1; omega
      · rw [List.mem_singleton.mp hx]; show 0 ≤ _; omega
    obtain ⟨r, er, hr⟩ := impl_search s D (by omega) hDz
    have en := ev_implNames s hs
    rw [hD] at en
    refine ⟨r, ?_, ?_⟩
    · obtain ⟨K, hK⟩ := Evt.and en er
      refine ⟨K, fun k hk => ?_⟩
      obtain ⟨g1, g2⟩ := hK k hk
      dsimp only at g1 g2
      show impl_ParseStmt.f k s = _
      unfold impl_ParseStmt.f
      rw [if_neg (by omega), g1]
      simp only [Option.bind_some]
      exact g2
    · rcases hr with hr | ⟨hr, hno⟩
      · exact .inl hr
      · refine .inr ⟨hr, fun a x y hm => ?_⟩
        obtain ⟨hx, hy, hasc, _⟩ := match_parts s a x y hm
        obtain ⟨hn, _⟩ := match_names s a x y hm
        have ha := nm_range a (names_sizes _ _ _ hn).1
        have hw := fields_words s hasc
        have hnn := hn
        unfold namesN at hnn
        simp only [Bool.and_eq_true, decide_eq_true_eq] at hnn
        have inD : ∀ z : ByteArray, (nameB z = true ∨ z.toList = []) → (z.data.toList = [] ∨ z.data.toList ∈ (words s.data.toList []).take 3) → ∃ i, i < D.length ∧ D.getD i ByteArray.empty = z := fun z hb hz => by
          have : z ∈ D := by
            rw [← hD]
            by_cases e : z.toList = []
            · exact List.mem_append_right _ (by rw [nil_eq z e]; simp)
            · refine List.mem_append_left _ (List.mem_filter.mpr ⟨?_, ?_⟩)
              · rcases hz with hz | hz
                · exact absurd ((nil_iff z).mpr hz) e
                · have hz := List.mem_of_mem_take hz
                  rw [← hw] at hz
                  obtain ⟨q, hq, he⟩ := List.mem_map.mp hz
                  rw [← bytes_ext he]
                  exact hq
              · rcases hb with hb | hb
                · exact hb
                · exact absurd hb e
          obtain ⟨i, hi, rfl⟩ := List.getElem_of_mem this
          exact ⟨i, hi, get_rep _ _ _ hi⟩
        obtain ⟨i, hi, rfl⟩ := inD x (by
          have h1 := hnn.1
          split at h1
          · exact .inl h1
          · exact .inr (of_decide_eq_true h1)) hx
        obtain ⟨j, hj, rfl⟩ := inD y (by
          have h1 := hnn.2.1
          split at h1
          · exact .inl h1
          · exact .inr (of_decide_eq_true h1)) hy
        refine hno (a - 1).toNat (by omega) i hi j hj ?_
        rw [show 1 + (((a - 1).toNat : Nat) : Int) = a by omega]
        exact hm
  · refine ⟨noAns, Ev.one fun k => ?_, .inr ⟨rfl, fun a x y hm => hs (match_parts s a x y hm).2.2.2⟩⟩
    show impl_ParseStmt.f k s = _
    unfold impl_ParseStmt.f
    rw [if_pos (by omega)]
    rfl
/-- both answer alike -/
theorem parse_both (s : ByteArray) (hs : s.size ≤ 1048576) : ∃ r, Ev (fun k => impl_ParseStmt.f k s) r ∧ Ev (fun k => spec_ParseStmt.f k s) r ∧ (Found s r ∨ (r = noAns ∧ ∀ a x y, ¬ Match s a x y)) := by
  obtain ⟨r, e, h⟩ := impl_parse s
  obtain ⟨q, e', h'⟩ := spec_parse s hs
  have : q = r := by
    rcases h with ⟨a, x, y, rfl, hm⟩ | ⟨rfl, hno⟩
    · rcases h' with ⟨b, x', y', rfl, hm'⟩ | ⟨_, hno'⟩
      · obtain ⟨rfl, rfl, rfl⟩ := match_one s a b x y x' y' hm hm'
        rfl
      · exact absurd hm (hno' a x y)
    · rcases h' with ⟨b, x', y', rfl, hm'⟩ | ⟨rfl, _⟩
      · exact absurd hm' (hno b x' y')
      · rfl
  subst this
  exact ⟨q, e, e', h⟩

/-! ### drawn statements -/
theorem l4Draw_ok (b : List Int) (i h : Int) (hb : b.length ≤ 1048576) (hi : St i) : ∃ a s t i' h', (∀ k, spec_l4Draw.f (k + 1) b i h = some (a, s, t, i', h')) ∧ St i' ∧ s.size ≤ 1 ∧ t.size ≤ 1 := by
  have hv : ∀ x ∈ [(⟨#[120]⟩ : ByteArray), (⟨#[121]⟩ : ByteArray), (⟨#[116]⟩ : ByteArray)], x.size ≤ 1 := by decide
  obtain ⟨n, i1, h1, e1, _, _, _, s1⟩ := l1Below_ok b i h 12 hb hi
  obtain ⟨x, i2, h2, e2, m2, s2⟩ := l1Pick_ok b i1 h1 [(⟨#[120]⟩ : ByteArray), (⟨#[121]⟩ : ByteArray), (⟨#[116]⟩ : ByteArray)] hb s1 (by decide)
  obtain ⟨y, i3, h3, e3, m3, s3⟩ := l1Pick_ok b i2 h2 [(⟨#[120]⟩ : ByteArray), (⟨#[121]⟩ : ByteArray), (⟨#[116]⟩ : ByteArray)] hb s2 (by decide)
  by_cases c : nm (wrap64 (1 + n)) > 0
  · by_cases c2 : nm (wrap64 (1 + n)) > 1
    · exact ⟨_, _, _, _, _, fun k => by unfold spec_l4Draw.f; simp only [e1, specNames, Option.bind_some]; rw [if_pos c]; simp only [spec_l2Vars.f, e2, Option.bind_some, spec_l4Draw.j0]; rw [if_pos c2, e3]; rfl, s3, hv _ m2, hv _ m3⟩
    · exact ⟨_, _, _, _, _, fun k => by unfold spec_l4Draw.f; simp only [e1, specNames, Option.bind_some]; rw [if_pos c]; simp only [spec_l2Vars.f, e2, Option.bind_some, spec_l4Draw.j0]; rw [if_neg c2], s2, hv _ m2, by decide⟩
  · exact ⟨_, _, _, _, _, fun k => by unfold spec_l4Draw.f; simp only [e1, specNames, Option.bind_some]; rw [if_neg c]; simp only [spec_l4Draw.j0]; rw [if_neg (by omega)], s1, by decide, by decide⟩

theorem l4Bent_ok (b : List Int) (i h : Int) (hb : b.length ≤ 1048576) (hi : St i) : ∃ a s t i' h', (∀ k, spec_l4Bent.f (k + 1) b i h = some (a, s, t, i', h')) ∧ St i' ∧ s.size ≤ 1 ∧ t.size ≤ 1 := by
  have hv : ∀ x ∈ [(⟨#[]⟩ : ByteArray), (⟨#[120]⟩ : ByteArray), (⟨#[113]⟩ : ByteArray), (⟨#[88]⟩ : ByteArray)], x.size ≤ 1 := by decide
  have hw : ∀ x ∈ [(⟨#[]⟩ : ByteArray), (⟨#[121]⟩ : ByteArray), (⟨#[113]⟩ : ByteArray)], x.size ≤ 1 := by decide
  obtain ⟨a, s, t, i1, h1, e1, s1, z1, z2⟩ := l4Draw_ok b i h hb hi
  obtain ⟨n, i2, h2, e2, _, _, _, s2⟩ := l1Below_ok b i1 h1 8 hb s1
  obtain ⟨m, i3, h3, e3, _, _, _, s3⟩ := l1Below_ok b i2 h2 15 hb s2
  obtain ⟨x, i4, h4, e4, m4, s4⟩ := l1Pick_ok b i2 h2 [(⟨#[]⟩ : ByteArray), (⟨#[120]⟩ : ByteArray), (⟨#[113]⟩ : ByteArray), (⟨#[88]⟩ : ByteArray)] hb s2 (by decide)
  obtain ⟨y, i5, h5, e5, m5, s5⟩ := l1Pick_ok b i2 h2 [(⟨#[]⟩ : ByteArray), (⟨#[121]⟩ : ByteArray), (⟨#[113]⟩ : ByteArray)] hb s2 (by decide)
  by_cases c : n = 0
  · exact ⟨_, _, _, _, _, fun k => by unfold spec_l4Bent.f; simp only [e1, e2, Option.bind_some]; rw [if_pos c]; simp only [e3, Option.bind_some]; rfl, s3, z1, z2⟩
  · by_cases c1 : n = 1
    · exact ⟨_, _, _, _, _, fun k => by unfold spec_l4Bent.f; simp only [e1, e2, Option.bind_some]; rw [if_neg c, if_pos c1]; simp only [e4, Option.bind_some]; rfl, s4, hv _ m4, z2⟩
    · by_cases c2 : n = 2
      · exact ⟨_, _, _, _, _, fun k => by unfold spec_l4Bent.f; simp only [e1, e2, Option.bind_some]; rw [if_neg c, if_neg c1, if_pos c2]; simp only [e5, Option.bind_some]; rfl, s5, z1, hw _ m5⟩
      · exact ⟨_, _, _, _, _, fun k => by unfold spec_l4Bent.f; simp only [e1, e2, Option.bind_some]; rw [if_neg c, if_neg c1, if_neg c2], s2, z1, z2⟩
theorem stText_size (a : Int) (s t : ByteArray) : (stText a s t).size ≤ 20 := by
  unfold stText
  by_cases c : namesN (nm a) s t = true
  · rw [if_pos c]
    have := (form_parts a s t c).2.2.2
    simpa using this
  · rw [if_neg c]
    show 0 ≤ _
    omega
theorem turned_ok (b : List Int) (i h : Int) (s : ByteArray) (l : List ByteArray) (hb : b.length ≤ 1048576) (hi : St i) (hl : 0 < l.length) (hs : s.size ≤ 100000) (hz : ∀ x ∈ l, x.size ≤ 100000) : ∃ u i' h', spec_l1Turned.f b i h s l = some (u, i', h') ∧ u.size ≤ 300000 ∧ St i' := by
  obtain ⟨n, i1, h1, e1, p1, q1, _, s1⟩ := l1Below_ok b i h (wrap64 ((s.size : Int) + 1)) hb hi
  rw [w64 (x := (s.size : Int) + 1) (by omega) (by omega)] at q1
  have q1 := q1 (by omega)
  obtain ⟨m, i2, h2, e2, _, _, _, s2⟩ := l1Below_ok b i1 h1 6 hb s1
  obtain ⟨x, i3, h3, e3, m3, s3⟩ := l1Pick_ok b i2 h2 l hb s2 hl
  have hx := hz x m3
  have z1 : (s.extract 0 n.toNat).size ≤ 100000 := by rw [ByteArray.size_extract]; omega
  have z2 : (s.extract n.toNat s.size).size ≤ 100000 := by rw [ByteArray.size_extract]; omega
  unfold spec_l1Turned.f
  rw [e1]
  simp only [Option.bind_some]
  rw [e2]
  simp only [Option.bind_some]
  by_cases c : m = 0
  · rw [if_pos c, if_pos p1, if_pos (by omega), e3]
    simp only [Option.bind_some]
    rw [if_pos (by omega), if_pos (by rw [ByteArray.size_append]; omega)]
    exact ⟨_, _, _, rfl, by rw [ByteArray.size_append, ByteArray.size_append]; omega, s3⟩
  · rw [if_neg c]
    by_cases c1 : m = 1
    · rw [if_pos c1, if_pos p1, if_pos (by omega)]
      exact ⟨_, _, _, rfl, by omega, s2⟩
    · rw [if_neg c1]
      exact ⟨_, _, _, rfl, by omega, s2⟩

theorem ev_drawText (l : List Int) (h : l.length ≤ 1048576) : ∃ a s t, Ev (fun k => spec_DrawStmtText.f k l) (a, s, t) ∧ s.size ≤ 1 ∧ t.size ≤ 1 := by
  obtain ⟨g, K, hK⟩ := ev_l1New l h
  obtain ⟨a, s, t, i, h', e, _, z1, z2⟩ := l4Bent_ok l 0 g h st0
  refine ⟨a, s, t, ⟨K + 1, fun k hk => ?_⟩, z1, z2⟩
  obtain ⟨k, rfl⟩ : ∃ m, k = m + 1 := ⟨k - 1, by omega⟩
  have g1 := hK (k + 1) (by omega)
  dsimp only at g1 ⊢
  unfold spec_DrawStmtText.f
  rw [g1]
  simp only [Option.bind_some, e]
theorem bnd {α β : Type} {x : Option α} {v : α} {f : α → Option β} (h : x = some v) : x.bind f = f v := by
  rw [h]
  rfl
theorem ev_drawParse (l : List Int) (h : l.length ≤ 1048576) : ∃ u, Ev (fun k => spec_DrawParseStmt.f k l) u ∧ u.size ≤ 1048576 := by
  obtain ⟨g, K, hK⟩ := ev_l1New l h
  obtain ⟨a, s, t, i, h', e, s1, z1, z2⟩ := l4Bent_ok l 0 g h st0
  obtain ⟨K2, hK2⟩ := ev_specText a s t (by omega) (by omega)
  obtain ⟨u, i2, h2, e2, z3, _⟩ := turned_ok l i h' (stText a s t) [(⟨#[120]⟩ : ByteArray), (⟨#[61]⟩ : ByteArray), (⟨#[46, 110]⟩ : ByteArray), (⟨#[110, 117, 108, 108]⟩ : ByteArray), (⟨#[32]⟩ : ByteArray), (⟨#[33]⟩ : ByteArray)] h s1 (by decide) (by have := stText_size a s t; omega) (fun x hx => by
    have h4 : ∀ x ∈ [(⟨#[120]⟩ : ByteArray), (⟨#[61]⟩ : ByteArray), (⟨#[46, 110]⟩ : ByteArray), (⟨#[110, 117, 108, 108]⟩ : ByteArray), (⟨#[32]⟩ : ByteArray), (⟨#[33]⟩ : ByteArray)], x.size ≤ 4 := by decide
    have := h4 x hx
    omega)
  refine ⟨u, ⟨K + K2 + 1, fun k hk => ?_⟩, by omega⟩
  obtain ⟨k, rfl⟩ : ∃ m, k = m + 1 := ⟨k - 1, by omega⟩
  have g1 := hK (k + 1) (by omega)
  have g2 := hK2 (k + 1) (by omega)
  dsimp only at g1 g2 ⊢
  unfold spec_DrawParseStmt.f
  refine (bnd g1).trans ?_
  dsimp only
  refine (bnd (e k)).trans ?_
  dsimp only
  refine (bnd g2).trans ?_
  refine (bnd e2).trans ?_
  rfl
theorem FnStmtText : laws_FnStmtText.Pure := by
  intro b hB
  by_cases cb : (b.length : Int) > 1048576
  · refine ⟨0, ?_⟩
    unfold laws_FnStmtText.f laws_big.f
    simp only [Option.bind_some]
    rw [if_pos (decide_eq_true cb)]
  have hb : b.length ≤ 1048576 := by omega
  obtain ⟨a, s, t, e1, z1, z2⟩ := ev_drawText b hb
  obtain ⟨u, e2, z3⟩ := ev_drawParse b hb
  have zT := stText_size a s t
  obtain ⟨r, f1, f2, hr⟩ := parse_both (stText a s t) (by omega)
  obtain ⟨q, g1, g2, hq⟩ := parse_both u z3
  have t1 := ev_implText a s t (by omega) (by omega)
  have t2 := ev_specText a s t (by omega) (by omega)
  -- the second half
  have half : Ev (fun k => laws_FnStmtText.j0 k b false) true := by
    rcases hq with ⟨a', x, y, rfl, hm⟩ | ⟨rfl, hno⟩
    · obtain ⟨hn, _⟩ := match_names u a' x y hm
      obtain ⟨_, hx, hy⟩ := names_sizes _ _ _ hn
      obtain ⟨K, hK⟩ := Evt.and e2 (Evt.and g1 (Evt.and g2 (ev_implText a' x y (by omega) (by omega))))
      refine Ev.last ⟨K, fun k hk => ?_⟩
      obtain ⟨h1, h2, h3, h4⟩ := hK k hk
      dsimp only at h1 h2 h3 h4
      simp only [laws_FnStmtText.j0]
      rw [if_neg (by decide), h1]
      simp only [Option.bind_some]
      rw [h2]
      simp only [Option.bind_some]
      rw [h3]
      simp only [Option.bind_some]
      rw [if_pos (by decide), if_pos trivial, h4]
      simp only [Option.bind_some]
      rw [hm.2]
      simp
    · obtain ⟨K, hK⟩ := Evt.and e2 (Evt.and g1 g2)
      refine Ev.last ⟨K, fun k hk => ?_⟩
      obtain ⟨h1, h2, h3⟩ := hK k hk
      dsimp only at h1
      have h2 : impl_ParseStmt.f k u = some ((0 : Int), (⟨#[]⟩ : ByteArray), (⟨#[]⟩ : ByteArray), false) := h2
      have h3 : spec_ParseStmt.f k u = some ((0 : Int), (⟨#[]⟩ : ByteArray), (⟨#[]⟩ : ByteArray), false) := h3
      simp only [laws_FnStmtText.j0]
      rw [if_neg (by decide), h1]
      simp only [Option.bind_some]
      rw [h2]
      simp only [Option.bind_some]
      rw [h3]
      simp only [Option.bind_some]
      rw [if_pos (by decide), if_neg (by decide)]
  have hval : r = (a, s, t, true) ∧ (stText a s t).toList ≠ [] ∨ r = noAns ∧ (stText a s t).toList = [] := by
    by_cases c : (stText a s t).toList = []
    · rcases hr with ⟨a', x, y, rfl, hm⟩ | ⟨rfl, hno⟩
      · exact absurd c hm.1
      · exact .inr ⟨rfl, c⟩
    · have hm : Match (stText a s t) a s t := ⟨c, rfl⟩
      rcases hr with ⟨a', x, y, rfl, hm'⟩ | ⟨rfl, hno⟩
      · obtain ⟨rfl, rfl, rfl⟩ := match_one _ a a' s t x y hm hm'
        exact .inl ⟨rfl, c⟩
      · exact absurd hm (hno a s t)
  obtain ⟨k, h1, h2, h3, h4, h5⟩ := (Evt.and e1 (Evt.and t1 (Evt.and f1 (Evt.and t2 half)))).ex
  dsimp only at h1 h2 h3 h4 h5
  refine ⟨k, ?_⟩
  unfold laws_FnStmtText.f laws_big.f
  simp only [Option.bind_some]
  rw [if_neg (by simpa using cb), h1]
  simp only [Option.bind_some]
  rw [h2]
  simp only [Option.bind_some]
  rcases hval with ⟨rfl, c⟩ | ⟨rfl, c⟩
  · rw [h3]
    simp only [Option.bind_some]
    rw [h4]
    simp only [Option.bind_some, if_true]
    have c' : ((stText a s t).toList != ([] : List UInt8)) = true := by simpa using c
    rw [c', if_neg (by decide)]
    simpa using h5
  · have h3 : impl_ParseStmt.f k (stText a s t) = some ((0 : Int), (⟨#[]⟩ : ByteArray), (⟨#[]⟩ : ByteArray), false) := h3
    rw [h3]
    simp only [Option.bind_some]
    rw [h4]
    simp only [Option.bind_some, if_true]
    rw [c]
    rw [if_neg (by decide), if_neg (by decide)]
    exact h5

end Go.Proofs.Ytndkkpjofddfjaa.Pure.LFnStmtText
namespace Go.Proofs.Ytndkkpjofddfjaa.Pure
open Go.Proofs.Ytndkkpjofddfjaa.PFnStmtText
theorem FnStmtText : laws_FnStmtText.Pure := LFnStmtText.FnStmtText
end Go.Proofs.Ytndkkpjofddfjaa.Pure
