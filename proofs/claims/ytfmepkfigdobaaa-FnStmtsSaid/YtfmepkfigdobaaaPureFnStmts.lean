/-
  The pure statement of laws.FnStmts: what the printed functions compute makes the law answer true, for every argument of its kinds (no further condition).
-/
import Derived.Test.YtfmepkfigdobaaaPFnStmtsx7
import Derived.Test.YtfmepkfigdobaaaXPure
namespace Go.Proofs.Ytfmepkfigdobaaa.Pure.LFnStmts
open Go.RowKit Go.Proofs.Ytfmepkfigdobaaa.PFnStmts Go.Proofs.YtfmepkfigdobaaaW.PrintWords Go.Proofs.YtfmepkfigdobaaaW.PrintLast Go.Proofs.YtfmepkfigdobaaaX
set_option linter.unusedVariables false
set_option linter.unusedSimpArgs false

theorem in_eq (a b c : Int) : spec_l1In.f a b c = some (decide (b ≤ a) && decide (a ≤ c)) := by
  unfold spec_l1In.f
  by_cases h : b ≤ a <;> simp [h]


theorem wi_eq (a b c : Int) : impl_within.f a b c = some (decide (b ≤ a) && decide (a ≤ c)) := by
  unfold impl_within.f
  by_cases h : b ≤ a <;> simp [h]


theorem and255 (x : Int) : 0 ≤ Go.bits .and .i64 x 255 ∧ Go.bits .and .i64 x 255 ≤ 255 := by
  have h : (BitVec.ofInt 64 (255 : Int)).toNat = 255 := by decide
  have hl : (BitVec.ofInt 64 x).toNat &&& 255 ≤ 255 := Nat.and_le_right
  have e : Go.bits .and .i64 x 255 = IntKind.i64.wrap (((BitVec.ofInt 64 x) &&& (BitVec.ofInt 64 (255 : Int)) : BitVec 64).toNat : Int) := rfl
  rw [BitVec.toNat_and, h] at e
  rw [e, IntKind.wrap_i64]
  omega

/-- where a reader stands -/
def St (i : Int) : Prop := 0 ≤ i ∧ i ≤ 1048576

theorem l1Byte_ok (b : List Int) (i h : Int) (hb : b.length ≤ 1048576) (hi : St i) : ∃ r i' h', spec_l1Byte.f b i h = some (r, i', h') ∧ 0 ≤ r ∧ r ≤ 255 ∧ St i' := by
  unfold spec_l1Byte.f
  have hi0 := hi.1
  by_cases c : i < (b.length : Int)
  · rw [if_pos c, if_pos hi0]
    refine ⟨_, _, _, rfl, (and255 _).1, (and255 _).2, ?_⟩
    rw [w64 (by omega) (by omega)]
    exact ⟨by omega, by omega⟩
  · rw [if_neg c]
    exact ⟨_, _, _, rfl, (and255 _).1, (and255 _).2, hi⟩

theorem l1Below_ok (b : List Int) (i h n : Int) (hb : b.length ≤ 1048576) (hi : St i) : ∃ r i' h', spec_l1Below.f b i h n = some (r, i', h') ∧ 0 ≤ r ∧ (0 < n → r < n) ∧ (n ≤ 0 → r = 0) ∧ St i' := by
  unfold spec_l1Below.f
  by_cases c : n ≤ 0
  · rw [if_pos c]
    exact ⟨_, _, _, rfl, by omega, fun h => by omega, fun _ => rfl, hi⟩
  · rw [if_neg c]
    obtain ⟨r1, i1, h1, e1, p1, q1, s1⟩ := l1Byte_ok b i h hb hi
    by_cases c2 : n ≤ 256
    · rw [if_pos c2, e1]
      simp only [Option.bind_some]
      rw [if_neg (by omega)]
      exact ⟨_, _, _, rfl, Int.tmod_nonneg _ p1, fun h => Int.tmod_lt_of_pos _ h, fun h => by omega, s1⟩
    · obtain ⟨r2, i2, h2, e2, p2, q2, s2⟩ := l1Byte_ok b i1 h1 hb s1
      obtain ⟨r3, i3, h3, e3, p3, q3, s3⟩ := l1Byte_ok b i2 h2 hb s2
      obtain ⟨r4, i4, h4, e4, p4, q4, s4⟩ := l1Byte_ok b i3 h3 hb s3
      rw [if_neg c2, e1]
      simp only [Option.bind_some, e2, e3, e4]
      rw [if_neg (by omega)]
      refine ⟨_, _, _, rfl, Int.tmod_nonneg _ ?_, fun h => Int.tmod_lt_of_pos _ h, fun h => by omega, s4⟩
      rw [w64 (x := r1 * 16777216) (by omega) (by omega), w64 (x := r2 * 65536) (by omega) (by omega), w64 (x := r3 * 256) (by omega) (by omega), w64 (x := r1 * 16777216 + r2 * 65536) (by omega) (by omega), w64 (x := r1 * 16777216 + r2 * 65536 + r3 * 256) (by omega) (by omega), w64 (by omega) (by omega)]
      omega

theorem ev_l1New (l : List Int) (h : l.length ≤ 1048576) : ∃ g, Ev (fun k => spec_l1New.f k l) (l, 0, g) := by
  obtain ⟨r, hr, he⟩ := loop_ev (σ := Int) l.length (fun k s i => spec_l1New.l0 k l s i) (fun _ _ => True) (fun r => ∃ g, r = (l, 0, g))
    (fun i s hi _ => by
      by_cases c : (i : Int) < 4000
      · exact Or.inl ⟨_, trivial, 0, fun k _ => by simp only [spec_l1New.l0]; rw [if_pos (by omega), if_pos c, if_pos (by omega), up64 (by omega)]⟩
      · exact Or.inr ⟨_, ⟨s, rfl⟩, 0, fun k _ => by simp only [spec_l1New.l0]; rw [if_pos (by omega), if_neg c]⟩)
    (fun s _ => ⟨_, ⟨s, rfl⟩, 0, fun k _ => by simp only [spec_l1New.l0]; rw [if_neg (by omega)]⟩)
    l.length 0 (wrap64 (26583 + (l.length : Int))) (by omega) (by omega) trivial
  obtain ⟨g, rfl⟩ := hr
  exact ⟨g, Ev.congr (fun k => rfl) he⟩

theorem st0 : St 0 := ⟨by omega, by omega⟩


theorem l1Pick_ok (b : List Int) (i h : Int) (l : List ByteArray) (hb : b.length ≤ 1048576) (hi : St i) (hl : 0 < l.length) : ∃ r i' h', spec_l1Pick.f b i h l = some (r, i', h') ∧ r ∈ l ∧ St i' := by
  unfold spec_l1Pick.f
  obtain ⟨r, i', h', e, p, q, _, s⟩ := l1Below_ok b i h (l.length : Int) hb hi
  have q' := q (by omega)
  rw [e]
  simp only [Option.bind_some]
  rw [if_pos p, if_pos q']
  refine ⟨_, _, _, rfl, ?_, s⟩
  obtain ⟨m, rfl⟩ := Int.eq_ofNat_of_zero_le p
  rw [rdOf_at _ _ _ (by omega)]
  exact List.getElem_mem _


theorem ev_specIsName (s : ByteArray) (h : s.size ≤ 9223372036854775807) : Ev (fun k => spec_IsName.f k s) (nameB s) := by
  have hc := all_loop s.size h (fun i => 97 ≤ bt s (i : Int) ∧ bt s (i : Int) ≤ 122) (fun k i => spec_IsName.l0 k s i) (decide ((1 : Int) ≤ (s.size : Int)) && decide ((s.size : Int) ≤ 2)) false
    (fun i hi hT => ⟨0, fun k _ => by simp only [spec_IsName.l0]; rw [if_pos (by omega), if_pos (by omega), if_neg (by omega), if_neg (by omega)]⟩)
    (fun i hi hT => ⟨0, fun k _ => by
      simp only [spec_IsName.l0]
      rw [if_pos (by omega), if_pos (by omega)]
      by_cases c : bt s (i : Int) < 97
      · rw [if_pos c]
      · rw [if_neg c, if_pos (by omega)]⟩)
    ⟨0, fun k _ => by simp only [spec_IsName.l0]; rw [if_neg (by omega), in_eq]; rfl⟩ (nameB s) (by rw [if_and_false]; rfl)
  exact Ev.congr (fun k => rfl) hc


theorem ev_implIsName (s : ByteArray) (h : s.size ≤ 9223372036854775807) : Ev (fun k => impl_IsName.f k s) (nameB s) := by
  have hc := all_loop s.size h (fun i => 97 ≤ bt s (i : Int) ∧ bt s (i : Int) ≤ 122) (fun k i => impl_IsName.l0 k s (s.size : Int) i) (decide ((1 : Int) ≤ (s.size : Int)) && decide ((s.size : Int) ≤ 2)) false
    (fun i hi hT => ⟨0, fun k _ => by simp only [impl_IsName.l0]; rw [if_pos (by omega), if_pos (by omega), if_pos (by omega), if_neg (by omega), if_neg (by omega)]⟩)
    (fun i hi hT => ⟨0, fun k _ => by
      simp only [impl_IsName.l0]
      rw [if_pos (by omega), if_pos (by omega), if_pos (by omega)]
      by_cases c : bt s (i : Int) < 97
      · rw [if_pos c]
      · rw [if_neg c, if_pos (by omega)]⟩)
    ⟨0, fun k _ => by simp only [impl_IsName.l0]; rw [if_neg (by omega), wi_eq]; rfl⟩ (nameB s) (by rw [if_and_false]; rfl)
  exact Ev.congr (fun k => rfl) hc


theorem ev_specIndexOf (l : List ByteArray) (s : ByteArray) (h : l.length ≤ 9223372036854775807) : Ev (fun k => spec_IndexOf.f k l s) (idx l s) := by
  have hc := loop_is (σ := Unit) l.length (fun k _ i => spec_IndexOf.l0 k l s i) (fun i _ => idx l s = idxFrom s (l.drop i) i) (idx l s)
    (fun i _ hi hI => by
      rw [idx_go s l i hi] at hI
      by_cases c : l[i].toList = s.toList
      · rw [if_pos c] at hI
        exact Or.inr ⟨0, fun k _ => by simp only [spec_IndexOf.l0]; rw [if_pos (by omega), if_pos (by omega), rdOf_at _ _ _ hi, if_pos c, hI]⟩
      · rw [if_neg c] at hI
        exact Or.inl ⟨(), hI, 0, fun k _ => by simp only [spec_IndexOf.l0]; rw [if_pos (by omega), if_pos (by omega), rdOf_at _ _ _ hi, if_neg c, up64 (by omega)]⟩)
    (fun _ hI => ⟨0, fun k _ => by rw [List.drop_length] at hI; simp only [spec_IndexOf.l0]; rw [if_neg (by omega), hI]; rfl⟩) () (by rfl)
  exact Ev.congr (fun k => rfl) hc


theorem ev_slicesIndex (l : List ByteArray) (s : ByteArray) (h : l.length ≤ 9223372036854775807) : Ev (fun k => slices_Index_string_string.f k l s) (idx l s) := by
  have hc := loop_is (σ := Unit) l.length (fun k _ i => slices_Index_string_string.l0 k l s (l.length : Int) i) (fun i _ => idx l s = idxFrom s (l.drop i) i) (idx l s)
    (fun i _ hi hI => by
      rw [idx_go s l i hi] at hI
      by_cases c : l[i].toList = s.toList
      · rw [if_pos c] at hI
        exact Or.inr ⟨0, fun k _ => by simp only [slices_Index_string_string.l0]; rw [if_pos (by omega), if_pos (by omega), if_pos (by omega), rdOf_at _ _ _ hi, if_pos c.symm, hI]⟩
      · rw [if_neg c] at hI
        exact Or.inl ⟨(), hI, 0, fun k _ => by simp only [slices_Index_string_string.l0]; rw [if_pos (by omega), if_pos (by omega), if_pos (by omega), rdOf_at _ _ _ hi, if_neg (fun e => c e.symm), up64 (by omega)]⟩)
    (fun _ hI => ⟨0, fun k _ => by rw [List.drop_length] at hI; simp only [slices_Index_string_string.l0]; rw [if_neg (by omega), hI]; rfl⟩) () (by rfl)
  exact Ev.congr (fun k => rfl) hc

theorem ev_implIndexOf (l : List ByteArray) (s : ByteArray) (h : l.length ≤ 9223372036854775807) : Ev (fun k => impl_IndexOf.f k l s) (idx l s) := by
  refine Ev.congr (fun k => ?_) (ev_slicesIndex l s h)
  unfold impl_IndexOf.f
  cases slices_Index_string_string.f k l s <;> rfl


theorem ev_specAreVars (l : List ByteArray) (h : l.length ≤ 9223372036854775807) (hs : ∀ s ∈ l, s.size ≤ 9223372036854775807) : Ev (fun k => spec_AreVars.f k l) (varsB l) := by
  have hc := all_loop l.length h (fun i => nameB (l.getD i ByteArray.empty) = true ∧ idx l (l.getD i ByteArray.empty) = (i : Int)) (fun k i => spec_AreVars.l0 k l i) (decide ((1 : Int) ≤ (l.length : Int)) && decide ((l.length : Int) ≤ 4)) false
    (fun i hi hT => by
      have e : rdOf ByteArray.empty l (i : Int) = l.getD i ByteArray.empty := by unfold rdOf; rw [Int.toNat_natCast]
      obtain ⟨K, hK⟩ := Evt.and (ev_specIsName (l.getD i ByteArray.empty) (hs _ (getD_mem _ _ _ hi))) (ev_specIndexOf l (l.getD i ByteArray.empty) h)
      refine ⟨K, fun k hk => ?_⟩
      obtain ⟨h1, h2⟩ := hK k hk
      dsimp only at h1 h2
      simp only [spec_AreVars.l0]
      rw [if_pos (by omega), if_pos (by omega), e, h1]
      simp only [Option.bind_some]
      rw [if_pos hT.1, h2]
      simp only [Option.bind_some]
      rw [if_pos hT.2])
    (fun i hi hT => by
      have e : rdOf ByteArray.empty l (i : Int) = l.getD i ByteArray.empty := by unfold rdOf; rw [Int.toNat_natCast]
      obtain ⟨K, hK⟩ := Evt.and (ev_specIsName (l.getD i ByteArray.empty) (hs _ (getD_mem _ _ _ hi))) (ev_specIndexOf l (l.getD i ByteArray.empty) h)
      refine ⟨K, fun k hk => ?_⟩
      obtain ⟨h1, h2⟩ := hK k hk
      dsimp only at h1 h2
      simp only [spec_AreVars.l0]
      rw [if_pos (by omega), if_pos (by omega), e, h1]
      simp only [Option.bind_some]
      by_cases c : nameB (l.getD i ByteArray.empty) = true
      · rw [if_pos c, h2]
        simp only [Option.bind_some]
        rw [if_neg (fun c2 => hT ⟨c, c2⟩)]
      · rw [if_neg c])
    ⟨0, fun k _ => by simp only [spec_AreVars.l0]; rw [if_neg (by omega), in_eq]; rfl⟩ (varsB l) (by rw [if_and_false]; rfl)
  exact Ev.congr (fun k => rfl) hc


theorem ev_implAreVars (l : List ByteArray) (h : l.length ≤ 9223372036854775807) (hs : ∀ s ∈ l, s.size ≤ 9223372036854775807) : Ev (fun k => impl_AreVars.f k l) (varsB l) := by
  have hc := all_loop l.length h (fun i => nameB (l.getD i ByteArray.empty) = true ∧ idx l (l.getD i ByteArray.empty) = (i : Int)) (fun k i => impl_AreVars.l0 k l l (l.length : Int) i) (decide ((1 : Int) ≤ (l.length : Int)) && decide ((l.length : Int) ≤ 4)) false
    (fun i hi hT => by
      have e : rdOf ByteArray.empty l (i : Int) = l.getD i ByteArray.empty := by unfold rdOf; rw [Int.toNat_natCast]
      obtain ⟨K, hK⟩ := Evt.and (ev_implIsName (l.getD i ByteArray.empty) (hs _ (getD_mem _ _ _ hi))) (ev_implIndexOf l (l.getD i ByteArray.empty) h)
      refine ⟨K, fun k hk => ?_⟩
      obtain ⟨h1, h2⟩ := hK k hk
      dsimp only at h1 h2
      simp only [impl_AreVars.l0]
      rw [if_pos (by omega), if_pos (by omega), if_pos (by omega), e, h1]
      simp only [Option.bind_some]
      rw [if_pos hT.1, h2]
      simp only [Option.bind_some]
      rw [if_pos hT.2])
    (fun i hi hT => by
      have e : rdOf ByteArray.empty l (i : Int) = l.getD i ByteArray.empty := by unfold rdOf; rw [Int.toNat_natCast]
      obtain ⟨K, hK⟩ := Evt.and (ev_implIsName (l.getD i ByteArray.empty) (hs _ (getD_mem _ _ _ hi))) (ev_implIndexOf l (l.getD i ByteArray.empty) h)
      refine ⟨K, fun k hk => ?_⟩
      obtain ⟨h1, h2⟩ := hK k hk
      dsimp only at h1 h2
      simp only [impl_AreVars.l0]
      rw [if_pos (by omega), if_pos (by omega), if_pos (by omega), e, h1]
      simp only [Option.bind_some]
      by_cases c : nameB (l.getD i ByteArray.empty) = true
      · rw [if_pos c, h2]
        simp only [Option.bind_some]
        rw [if_neg (fun c2 => hT ⟨c, c2⟩)]
      · rw [if_neg c])
    ⟨0, fun k _ => by simp only [impl_AreVars.l0]; rw [if_neg (by omega), wi_eq]; rfl⟩ (varsB l) (by rw [if_and_false]; rfl)
  exact Ev.congr (fun k => rfl) hc


/-- how many names a statement of a kind has -/
def nm (a : Int) : Int := if a = 1 then 0 else if a = 2 ∨ a = 3 ∨ a = 6 ∨ a = 8 ∨ a = 9 ∨ a = 10 then 1 else if a = 4 ∨ a = 5 ∨ a = 7 ∨ a = 11 ∨ a = 12 then 2 else -1

theorem nm_cases (a : Int) : nm a = -1 ∨ nm a = 0 ∨ nm a = 1 ∨ nm a = 2 := by
  unfold nm
  split
  · omega
  · split
    · omega
    · split <;> omega

theorem specNames (k : Nat) (a : Int) : spec_NamesOf.f (k + 1) a = some (nm a) := by
  by_cases h : 1 ≤ a ∧ a ≤ 12
  · have h2 : a = 1 ∨ a = 2 ∨ a = 3 ∨ a = 4 ∨ a = 5 ∨ a = 6 ∨ a = 7 ∨ a = 8 ∨ a = 9 ∨ a = 10 ∨ a = 11 ∨ a = 12 := by omega
    rcases h2 with rfl | rfl | rfl | rfl | rfl | rfl | rfl | rfl | rfl | rfl | rfl | rfl <;> simp [spec_NamesOf.f, spec_NamesOf.j0, nm]
  · have e : nm a = -1 := by
      unfold nm
      rw [if_neg (by omega), if_neg (by omega), if_neg (by omega)]
    unfold spec_NamesOf.f
    rw [if_neg (by omega), if_neg (by omega), if_neg (by omega), if_neg (by omega), if_neg (by omega), if_neg (by omega)]
    have h10 : (a == 10) = false := beq_eq_false_iff_ne.mpr (by omega)
    simp only [spec_NamesOf.j0]
    rw [h10, if_neg (by decide), if_neg (by omega), if_neg (by omega), if_neg (by omega), if_neg (by omega), if_neg (by omega), e]

theorem implNames (a : Int) : impl_NamesOf.f a = some (nm a) := by
  by_cases h : 1 ≤ a ∧ a ≤ 12
  · have h2 : a = 1 ∨ a = 2 ∨ a = 3 ∨ a = 4 ∨ a = 5 ∨ a = 6 ∨ a = 7 ∨ a = 8 ∨ a = 9 ∨ a = 10 ∨ a = 11 ∨ a = 12 := by omega
    rcases h2 with rfl | rfl | rfl | rfl | rfl | rfl | rfl | rfl | rfl | rfl | rfl | rfl <;> decide +kernel
  · have e : nm a = -1 := by
      unfold nm
      rw [if_neg (by omega), if_neg (by omega), if_neg (by omega)]
    have h3 : (decide (1 ≤ a) && decide (a ≤ 12)) = false := by simpa using h
    rw [e]
    simp [impl_NamesOf.f, wi_eq, h3]


/-- the names are as many as the kind wants, and known; the others are empty -/
def namesB (v : List ByteArray) (m : Int) (s t : ByteArray) : Bool :=
  (if 0 < m then decide (idx v s ≥ 0) else decide (s.toList = [])) && ((if 1 < m then decide (idx v t ≥ 0) else decide (t.toList = [])) && decide (m ≥ 0))

theorem ev_specIsStmt (v : List ByteArray) (a : Int) (s t : ByteArray) (h : v.length ≤ 9223372036854775807) (hs : ∀ s ∈ v, s.size ≤ 9223372036854775807) : Ev (fun k => spec_IsStmt.f k v a s t) (varsB v && namesB v (nm a) s t) := by
  obtain ⟨K, hK⟩ := Evt.and (ev_specAreVars v h hs) (Evt.and (ev_specIndexOf v s h) (ev_specIndexOf v t h))
  refine ⟨K + 1, fun k hk => ?_⟩
  obtain ⟨k, rfl⟩ : ∃ m, k = m + 1 := ⟨k - 1, by omega⟩
  obtain ⟨g1, _, _⟩ := hK (k + 1) (by omega)
  obtain ⟨_, g2, g3⟩ := hK k (by omega)
  dsimp only at g1 g2 g3 ⊢
  unfold spec_IsStmt.f
  rw [specNames]
  simp only [Option.bind_some]
  rw [g1]
  simp only [Option.bind_some, spec_IsStmt.j0, g2, g3]
  cases hv : varsB v with
  | false => simp
  | true =>
    unfold namesB
    rcases nm_cases a with e | e | e | e <;> rw [e]
    · simp
    · by_cases c1 : s.toList = [] <;> by_cases c2 : t.toList = [] <;> simp [c1, c2]
    · by_cases c1 : idx v s ≥ 0 <;> by_cases c2 : t.toList = [] <;> simp [c1, c2]
    · by_cases c1 : idx v s ≥ 0 <;> by_cases c2 : idx v t ≥ 0 <;> simp [c1, c2]

theorem ev_hasNames (v : List ByteArray) (a : Int) (s t : ByteArray) (h : v.length ≤ 9223372036854775807) : Ev (fun k => impl_Stmt_hasNames_IsStmt_1.f k a s t v) (namesB v (nm a) s t) := by
  obtain ⟨K, hK⟩ := Evt.and (ev_slicesIndex v s h) (ev_slicesIndex v t h)
  refine ⟨K + 3, fun k hk => ?_⟩
  obtain ⟨k, rfl⟩ : ∃ m, k = m + 3 := ⟨k - 3, by omega⟩
  obtain ⟨a1, _⟩ := hK (k + 2) (by omega)
  obtain ⟨_, b2⟩ := hK (k + 1) (by omega)
  dsimp only at a1 b2 ⊢
  have l2 : (([s, t] : List ByteArray).length : Int) = 2 := rfl
  have r0 : rdOf ByteArray.empty [s, t] 0 = s := rfl
  have r1 : rdOf ByteArray.empty [s, t] 1 = t := rfl
  have w0 : wrap64 (0 + 1) = 1 := by unfold wrap64; omega
  have w1 : wrap64 (1 + 1) = 2 := by unfold wrap64; omega
  have i0 : (0 : Int) < 2 := by decide
  have i1 : (1 : Int) < 2 := by decide
  have i2 : ¬ (2 : Int) < 2 := by decide
  have j0 : (0 : Int) ≤ 0 := by decide
  have j1 : (0 : Int) ≤ 1 := by decide
  unfold impl_Stmt_hasNames_IsStmt_1.f
  rw [implNames]
  simp only [Option.bind_some, impl_Stmt_hasNames_IsStmt_1.l0, impl_IsStmt_1_captured.f, slices_Contains_string_string.f, l2, i0, i1, i2, j0, j1, if_true, if_false, r0, r1, w0, w1, a1, b2]
  unfold namesB
  rcases nm_cases a with e | e | e | e <;> rw [e]
  · by_cases c1 : s.toList = [] <;> by_cases c2 : t.toList = [] <;> simp [c1, c2]
  · by_cases c1 : s.toList = [] <;> by_cases c2 : t.toList = [] <;> simp [c1, c2]
  · by_cases c1 : idx v s ≥ 0 <;> by_cases c2 : t.toList = [] <;> simp [c1, c2]
  · by_cases c1 : idx v s ≥ 0 <;> by_cases c2 : idx v t ≥ 0 <;> simp [c1, c2]

theorem ev_implIsStmt (v : List ByteArray) (a : Int) (s t : ByteArray) (h : v.length ≤ 9223372036854775807) (hs : ∀ s ∈ v, s.size ≤ 9223372036854775807) : Ev (fun k => impl_IsStmt.f k v a s t) (varsB v && namesB v (nm a) s t) := by
  obtain ⟨K, hK⟩ := Evt.and (ev_implAreVars v h hs) (ev_hasNames v a s t h)
  refine ⟨K, fun k hk => ?_⟩
  obtain ⟨g1, g2⟩ := hK k hk
  dsimp only at g1 g2 ⊢
  unfold impl_IsStmt.f
  rw [g1, g2]
  cases hv : varsB v <;> simp


theorem ev_DrawAreVars (l : List Int) (h : l.length ≤ 1048576) : ∃ v, Ev (fun k => spec_DrawAreVars.f k l) v ∧ v.length ≤ 6 ∧ ∀ s ∈ v, s.size ≤ 10 := by
  obtain ⟨g, K, hK⟩ := ev_l1New l h
  obtain ⟨n, i1, h1, e1, hn0, hn1, _, s1⟩ := l1Below_ok l 0 g 6 h st0
  obtain ⟨m, rfl⟩ := Int.eq_ofNat_of_zero_le hn0
  have hm : m < 6 := by have := hn1 (by omega); omega
  obtain ⟨v, hv, K', hK'⟩ := loop_ev (σ := List ByteArray × Int × Int) m (fun k s i => spec_DrawAreVars.l0 k s.1 (m : Int) i l s.2.1 s.2.2) (fun i s => s.1.length = i ∧ (∀ x ∈ s.1, x.size ≤ 10) ∧ St s.2.1) (fun v => v.length ≤ 6 ∧ ∀ s ∈ v, s.size ≤ 10)
    (fun i s hi ⟨hl, hs, hst⟩ => by
      obtain ⟨x, j, h', e, hx, s'⟩ := l1Pick_ok l s.2.1 s.2.2 [(⟨#[120]⟩ : ByteArray), (⟨#[121]⟩ : ByteArray), (⟨#[116]⟩ : ByteArray), (⟨#[112]⟩ : ByteArray), (⟨#[113, 113]⟩ : ByteArray), (⟨#[88]⟩ : ByteArray)] h hst (by decide)
      refine Or.inl ⟨(s.1 ++ [x], j, h'), ⟨by simp [hl], fun y hy => ?_, s'⟩, 0, fun k _ => ?_⟩
      · rcases List.mem_append.mp hy with hy | hy
        · exact hs y hy
        · rw [List.mem_singleton.mp hy]
          have all : ∀ y ∈ [(⟨#[120]⟩ : ByteArray), (⟨#[121]⟩ : ByteArray), (⟨#[116]⟩ : ByteArray), (⟨#[112]⟩ : ByteArray), (⟨#[113, 113]⟩ : ByteArray), (⟨#[88]⟩ : ByteArray)], y.size ≤ 10 := by decide
          exact all x hx
      · simp only [spec_DrawAreVars.l0]
        rw [if_pos (by omega), e]
        simp only [Option.bind_some]
        rw [if_pos (by omega), up64 (by omega)])
    (fun s ⟨hl, hs, hst⟩ => ⟨s.1, ⟨by omega, hs⟩, 0, fun k _ => by simp only [spec_DrawAreVars.l0]; rw [if_neg (by omega)]⟩)
    m 0 ([], i1, h1) (by omega) (by omega) ⟨rfl, (fun x hx => by cases hx), s1⟩
  refine ⟨v, ⟨K + K', fun k hk => ?_⟩, hv⟩
  have a1 := hK k (by omega)
  have a2 := hK' k (by omega)
  dsimp only at a1 a2 ⊢
  unfold spec_DrawAreVars.f
  rw [a1]
  simp only [Option.bind_some, e1]
  exact a2


theorem it_eq (a : Int) (s t : ByteArray) : impl_IsTest.f a s t = some (decide (9 ≤ a ∧ a ≤ 12)) := by
  simp [impl_IsTest.f, wi_eq]

theorem st_eq (a : Int) (s t : ByteArray) : spec_IsTest.f a s t = some (decide (9 ≤ a ∧ a ≤ 12)) := by
  simp [spec_IsTest.f, in_eq]

/-- the opposite of a test's kind -/
def op (a : Int) : Int := if a = 10 ∨ a = 12 then a - 1 else a + 1

theorem implOpp (a : Int) (s t : ByteArray) : impl_OppositeOf.f a s t = some (if 9 ≤ a ∧ a ≤ 12 then (op a, s, t, true) else (0, ⟨#[]⟩, ⟨#[]⟩, false)) := by
  unfold impl_OppositeOf.f
  rw [it_eq]
  simp only [Option.bind_some]
  by_cases h : (9 ≤ a ∧ a ≤ 12)
  · rw [if_pos h, if_pos (decide_eq_true h)]
    have h4 : a = 9 ∨ a = 10 ∨ a = 11 ∨ a = 12 := by omega
    rcases h4 with rfl | rfl | rfl | rfl <;> simp [wrap64, rd, op]
  · rw [if_neg h, decide_eq_false h, if_neg (by decide)]

theorem specOpp (a : Int) (s t : ByteArray) : spec_OppositeOf.f a s t = some (if 9 ≤ a ∧ a ≤ 12 then (op a, s, t, true) else (0, ⟨#[]⟩, ⟨#[]⟩, false)) := by
  unfold spec_OppositeOf.f
  rw [st_eq]
  simp only [Option.bind_some]
  by_cases h : (9 ≤ a ∧ a ≤ 12)
  · rw [if_pos h, if_pos (decide_eq_true h)]
    have h4 : a = 9 ∨ a = 10 ∨ a = 11 ∨ a = 12 := by omega
    rcases h4 with rfl | rfl | rfl | rfl <;> simp [wrap64, op]
  · rw [if_neg h, decide_eq_false h, if_neg (by decide)]

theorem l4Draw_ok (b : List Int) (i h : Int) (hb : b.length ≤ 1048576) (hi : St i) : ∃ a s t i' h', (∀ k, spec_l4Draw.f (k + 1) b i h = some (a, s, t, i', h')) ∧ St i' := by
  obtain ⟨n, i1, h1, e1, _, _, _, s1⟩ := l1Below_ok b i h 12 hb hi
  obtain ⟨x, i2, h2, e2, _, s2⟩ := l1Pick_ok b i1 h1 [(⟨#[120]⟩ : ByteArray), (⟨#[121]⟩ : ByteArray), (⟨#[116]⟩ : ByteArray)] hb s1 (by decide)
  obtain ⟨y, i3, h3, e3, _, s3⟩ := l1Pick_ok b i2 h2 [(⟨#[120]⟩ : ByteArray), (⟨#[121]⟩ : ByteArray), (⟨#[116]⟩ : ByteArray)] hb s2 (by decide)
  obtain ⟨y', i3', h3', e3', _, s3'⟩ := l1Pick_ok b i1 h1 [(⟨#[120]⟩ : ByteArray), (⟨#[121]⟩ : ByteArray), (⟨#[116]⟩ : ByteArray)] hb s1 (by decide)
  by_cases c : nm (wrap64 (1 + n)) > 0
  · by_cases c2 : nm (wrap64 (1 + n)) > 1
    · exact ⟨_, _, _, _, _, fun k => by unfold spec_l4Draw.f; simp only [e1, specNames, Option.bind_some]; rw [if_pos c]; simp only [spec_l2Vars.f, e2, Option.bind_some, spec_l4Draw.j0]; rw [if_pos c2, e3]; rfl, s3⟩
    · exact ⟨_, _, _, _, _, fun k => by unfold spec_l4Draw.f; simp only [e1, specNames, Option.bind_some]; rw [if_pos c]; simp only [spec_l2Vars.f, e2, Option.bind_some, spec_l4Draw.j0]; rw [if_neg c2], s2⟩
  · exact ⟨_, _, _, _, _, fun k => by unfold spec_l4Draw.f; simp only [e1, specNames, Option.bind_some]; rw [if_neg c]; simp only [spec_l4Draw.j0]; rw [if_neg (by omega)], s1⟩

theorem l4Bent_ok (b : List Int) (i h : Int) (hb : b.length ≤ 1048576) (hi : St i) : ∃ a s t i' h', (∀ k, spec_l4Bent.f (k + 1) b i h = some (a, s, t, i', h')) := by
  obtain ⟨a, s, t, i1, h1, e1, s1⟩ := l4Draw_ok b i h hb hi
  obtain ⟨n, i2, h2, e2, _, _, _, s2⟩ := l1Below_ok b i1 h1 8 hb s1
  obtain ⟨m, i3, h3, e3, _, _, _, s3⟩ := l1Below_ok b i2 h2 15 hb s2
  obtain ⟨x, i4, h4, e4, _, s4⟩ := l1Pick_ok b i2 h2 [(⟨#[]⟩ : ByteArray), (⟨#[120]⟩ : ByteArray), (⟨#[113]⟩ : ByteArray), (⟨#[88]⟩ : ByteArray)] hb s2 (by decide)
  obtain ⟨y, i5, h5, e5, _, s5⟩ := l1Pick_ok b i2 h2 [(⟨#[]⟩ : ByteArray), (⟨#[121]⟩ : ByteArray), (⟨#[113]⟩ : ByteArray)] hb s2 (by decide)
  by_cases c : n = 0
  · exact ⟨_, _, _, _, _, fun k => by unfold spec_l4Bent.f; simp only [e1, e2, Option.bind_some]; rw [if_pos c]; simp only [e3, Option.bind_some]; rfl⟩
  · by_cases c1 : n = 1
    · exact ⟨_, _, _, _, _, fun k => by unfold spec_l4Bent.f; simp only [e1, e2, Option.bind_some]; rw [if_neg c, if_pos c1]; simp only [e4, Option.bind_some]; rfl⟩
    · by_cases c2 : n = 2
      · exact ⟨_, _, _, _, _, fun k => by unfold spec_l4Bent.f; simp only [e1, e2, Option.bind_some]; rw [if_neg c, if_neg c1, if_pos c2]; simp only [e5, Option.bind_some]; rfl⟩
      · exact ⟨_, _, _, _, _, fun k => by unfold spec_l4Bent.f; simp only [e1, e2, Option.bind_some]; rw [if_neg c, if_neg c1, if_neg c2]⟩

theorem ev_DrawOpp (l : List Int) (h : l.length ≤ 1048576) : ∃ a s t, Ev (fun k => spec_DrawOppositeOf.f k l) (a, s, t) := by
  obtain ⟨g, K, hK⟩ := ev_l1New l h
  obtain ⟨a, s, t, i, h', e⟩ := l4Bent_ok l 0 g h st0
  refine ⟨a, s, t, K + 1, fun k hk => ?_⟩
  obtain ⟨k, rfl⟩ : ∃ m, k = m + 1 := ⟨k - 1, by omega⟩
  have g1 := hK (k + 1) (by omega)
  dsimp only at g1 ⊢
  unfold spec_DrawOppositeOf.f
  rw [g1]
  simp only [Option.bind_some, e]

theorem ev_DrawNames (l : List Int) (h : l.length ≤ 1048576) : ∃ a, Ev (fun k => spec_DrawNamesOf.f k l) a := by
  obtain ⟨g, K, hK⟩ := ev_l1New l h
  obtain ⟨n, i, h', e, _⟩ := l1Below_ok l 0 g 16 h st0
  refine ⟨wrap64 (n - 1), K, fun k hk => ?_⟩
  have g1 := hK k hk
  dsimp only at g1 ⊢
  unfold spec_DrawNamesOf.f
  rw [g1]
  simp only [Option.bind_some, e]

theorem ev_DrawStmt (l : List Int) (h : l.length ≤ 1048576) : ∃ v a s t, Ev (fun k => spec_DrawIsStmt.f k l) (v, a, s, t) ∧ v.length ≤ 6 ∧ ∀ s ∈ v, s.size ≤ 10 := by
  obtain ⟨g, K, hK⟩ := ev_l1New l h
  obtain ⟨n, i1, h1, e1, _, _, _, s1⟩ := l1Below_ok l 0 g 8 h st0
  obtain ⟨v, ⟨K', hK'⟩, hv⟩ := ev_DrawAreVars l h
  obtain ⟨a, s, t, i2, h2, e2, _⟩ := l4Draw_ok l i1 h1 h s1
  obtain ⟨a', s', t', i2', h2', e2'⟩ := l4Bent_ok l i1 h1 h s1
  by_cases c : (n == 0) = true
  · refine ⟨v, a, s, t, ⟨K + K' + 1, fun k hk => ?_⟩, hv⟩
    obtain ⟨k, rfl⟩ : ∃ m, k = m + 1 := ⟨k - 1, by omega⟩
    have g1 := hK (k + 1) (by omega)
    have g2 := hK' (k + 1) (by omega)
    dsimp only at g1 g2 ⊢
    unfold spec_DrawIsStmt.f spec_l1Once.f
    rw [g1]
    simp only [Option.bind_some, e1]
    rw [if_pos c, g2]
    simp only [Option.bind_some, e2]
  · refine ⟨[(⟨#[120]⟩ : ByteArray), (⟨#[121]⟩ : ByteArray), (⟨#[116]⟩ : ByteArray)], a', s', t', ⟨K + 1, fun k hk => ?_⟩, by decide, by decide⟩
    obtain ⟨k, rfl⟩ : ∃ m, k = m + 1 := ⟨k - 1, by omega⟩
    have g1 := hK (k + 1) (by omega)
    dsimp only at g1 ⊢
    unfold spec_DrawIsStmt.f spec_l1Once.f
    rw [g1]
    simp only [Option.bind_some, e1]
    rw [if_neg c]
    simp only [spec_l2Vars.f, Option.bind_some, e2']

theorem FnStmts : laws_FnStmts.Pure := by
  intro l hl
  by_cases c0 : l.length > 1048576
  · refine ⟨0, ?_⟩
    unfold laws_FnStmts.f laws_big.f
    rw [decide_eq_true (show (l.length : Int) > 1048576 by omega)]
    simp only [Option.bind_some, if_true]
  have h : l.length ≤ 1048576 := by omega
  obtain ⟨a, s, t, hd⟩ := ev_DrawOpp l h
  obtain ⟨v, a2, s2, t2, hs, hv, hsz⟩ := ev_DrawStmt l h
  obtain ⟨n, hn⟩ := ev_DrawNames l h
  have hsz' : ∀ s ∈ v, s.size ≤ 9223372036854775807 := fun s hs => by have := hsz s hs; omega
  obtain ⟨K, hK⟩ := Evt.and hd (Evt.and hs (Evt.and hn (Evt.and (ev_specIsStmt v a2 s2 t2 (by omega) hsz') (ev_implIsStmt v a2 s2 t2 (by omega) hsz'))))
  obtain ⟨g1, g2, g3, g4, g5⟩ := hK (K + 1) (by omega)
  dsimp only at g1 g2 g3 g4 g5
  refine ⟨K + 1, ?_⟩
  unfold laws_FnStmts.f laws_big.f
  have cb : decide ((l.length : Int) > 1048576) = false := decide_eq_false (by omega)
  rw [cb]
  simp only [Option.bind_some, g1, g2, g3, g4, g5, implOpp, specOpp, it_eq, st_eq, specNames, implNames]
  by_cases c : 9 ≤ a ∧ a ≤ 12
  · have c2 : 9 ≤ op a ∧ op a ≤ 12 := by unfold op; split <;> omega
    have c3 : op (op a) = a := by
      have h4 : a = 9 ∨ a = 10 ∨ a = 11 ∨ a = 12 := by omega
      rcases h4 with rfl | rfl | rfl | rfl <;> simp [op]
    have c4 : ¬ op a = a := by unfold op; split <;> omega
    simp only [if_pos c]
    simp only [if_pos c2]
    simp [c, c3, c4]
  · simp [c]

end Go.Proofs.Ytfmepkfigdobaaa.Pure.LFnStmts
namespace Go.Proofs.Ytfmepkfigdobaaa.Pure
open Go.Proofs.Ytfmepkfigdobaaa.PFnStmts
theorem FnStmts : laws_FnStmts.Pure := LFnStmts.FnStmts
end Go.Proofs.Ytfmepkfigdobaaa.Pure
