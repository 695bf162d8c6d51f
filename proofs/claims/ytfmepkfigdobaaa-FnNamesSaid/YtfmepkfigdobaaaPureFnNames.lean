/-
  The pure statement of laws.FnNames: what the printed functions compute makes the law answer true, for every argument of its kinds (no further condition).
-/
import Derived.Test.YtfmepkfigdobaaaPFnNamesx4
import Derived.Test.YtfmepkfigdobaaaXPure
namespace Go.Proofs.Ytfmepkfigdobaaa.Pure.LFnNames
open Go.RowKit Go.Proofs.Ytfmepkfigdobaaa.PFnNames Go.Proofs.YtfmepkfigdobaaaW.PrintWords Go.Proofs.YtfmepkfigdobaaaW.PrintLast Go.Proofs.YtfmepkfigdobaaaX
set_option linter.unusedVariables false
set_option linter.unusedSimpArgs false

theorem in_eq (a b c : Int) : spec_l1In.f a b c = some (decide (b ≤ a) && decide (a ≤ c)) := by
  unfold spec_l1In.f
  by_cases h : b ≤ a <;> simp [h]


theorem wi_eq (a b c : Int) : impl_within.f a b c = some (decide (b ≤ a) && decide (a ≤ c)) := by
  unfold impl_within.f
  by_cases h : b ≤ a <;> simp [h]


theorem and255 (x : Int) : 0 ≤ Go.bits .and .i64 x 255 ∧ Go.bits .and .i64 x 255 ≤ 255 := by
  have h : (BitVec.ofInt 64 (255 : Int)).toNat = 255 := by decide
  have hl : (BitVec.ofInt 64 x).toNat &&& 255 ≤ 255 := Nat.and_le_right
  have e : Go.bits .and .i64 x 255 = IntKind.i64.wrap (((BitVec.ofInt 64 x) &&& (BitVec.ofInt 64 (255 : Int)) : BitVec 64).toNat : Int) := rfl
  rw [BitVec.toNat_and, h] at e
  rw [e, IntKind.wrap_i64]
  omega

/-- where a reader stands -/
def St (i : Int) : Prop := 0 ≤ i ∧ i ≤ 1048576

theorem l1Byte_ok (b : List Int) (i h : Int) (hb : b.length ≤ 1048576) (hi : St i) : ∃ r i' h', spec_l1Byte.f b i h = some (r, i', h') ∧ 0 ≤ r ∧ r ≤ 255 ∧ St i' := by
  unfold spec_l1Byte.f
  have hi0 := hi.1
  by_cases c : i < (b.length : Int)
  · rw [if_pos c, if_pos hi0]
    refine ⟨_, _, _, rfl, (and255 _).1, (and255 _).2, ?_⟩
    rw [w64 (by omega) (by omega)]
    exact ⟨by omega, by omega⟩
  · rw [if_neg c]
    exact ⟨_, _, _, rfl, (and255 _).1, (and255 _).2, hi⟩

theorem l1Below_ok (b : List Int) (i h n : Int) (hb : b.length ≤ 1048576) (hi : St i) : ∃ r i' h', spec_l1Below.f b i h n = some (r, i', h') ∧ 0 ≤ r ∧ (0 < n → r < n) ∧ (n ≤ 0 → r = 0) ∧ St i' := by
  unfold spec_l1Below.f
  by_cases c : n ≤ 0
  · rw [if_pos c]
    exact ⟨_, _, _, rfl, by omega, fun h => by omega, fun _ => rfl, hi⟩
  · rw [if_neg c]
    obtain ⟨r1, i1, h1, e1, p1, q1, s1⟩ := l1Byte_ok b i h hb hi
    by_cases c2 : n ≤ 256
    · rw [if_pos c2, e1]
      simp only [Option.bind_some]
      rw [if_neg (by omega)]
      exact ⟨_, _, _, rfl, Int.tmod_nonneg _ p1, fun h => Int.tmod_lt_of_pos _ h, fun h => by omega, s1⟩
    · obtain ⟨r2, i2, h2, e2, p2, q2, s2⟩ := l1Byte_ok b i1 h1 hb s1
      obtain ⟨r3, i3, h3, e3, p3, q3, s3⟩ := l1Byte_ok b i2 h2 hb s2
      obtain ⟨r4, i4, h4, e4, p4, q4, s4⟩ := l1Byte_ok b i3 h3 hb s3
      rw [if_neg c2, e1]
      simp only [Option.bind_some, e2, e3, e4]
      rw [if_neg (by omega)]
      refine ⟨_, _, _, rfl, Int.tmod_nonneg _ ?_, fun h => Int.tmod_lt_of_pos _ h, fun h => by omega, s4⟩
      rw [w64 (x := r1 * 16777216) (by omega) (by omega), w64 (x := r2 * 65536) (by omega) (by omega), w64 (x := r3 * 256) (by omega) (by omega), w64 (x := r1 * 16777216 + r2 * 65536) (by omega) (by omega), w64 (x := r1 * 16777216 + r2 * 65536 + r3 * 256) (by omega) (by omega), w64 (by omega) (by omega)]
      omega

theorem ev_l1New (l : List Int) (h : l.length ≤ 1048576) : ∃ g, Ev (fun k => spec_l1New.f k l) (l, 0, g) := by
  obtain ⟨r, hr, he⟩ := loop_ev (σ := Int) l.length (fun k s i => spec_l1New.l0 k l s i) (fun _ _ => True) (fun r => ∃ g, r = (l, 0, g))
    (fun i s hi _ => by
      by_cases c : (i : Int) < 4000
      · exact Or.inl ⟨_, trivial, 0, fun k _ => by simp only [spec_l1New.l0]; rw [if_pos (by omega), if_pos c, if_pos (by omega), up64 (by omega)]⟩
      · exact Or.inr ⟨_, ⟨s, rfl⟩, 0, fun k _ => by simp only [spec_l1New.l0]; rw [if_pos (by omega), if_neg c]⟩)
    (fun s _ => ⟨_, ⟨s, rfl⟩, 0, fun k _ => by simp only [spec_l1New.l0]; rw [if_neg (by omega)]⟩)
    l.length 0 (wrap64 (26583 + (l.length : Int))) (by omega) (by omega) trivial
  obtain ⟨g, rfl⟩ := hr
  exact ⟨g, Ev.congr (fun k => rfl) he⟩

theorem st0 : St 0 := ⟨by omega, by omega⟩


theorem l1Pick_ok (b : List Int) (i h : Int) (l : List ByteArray) (hb : b.length ≤ 1048576) (hi : St i) (hl : 0 < l.length) : ∃ r i' h', spec_l1Pick.f b i h l = some (r, i', h') ∧ r ∈ l ∧ St i' := by
  unfold spec_l1Pick.f
  obtain ⟨r, i', h', e, p, q, _, s⟩ := l1Below_ok b i h (l.length : Int) hb hi
  have q' := q (by omega)
  rw [e]
  simp only [Option.bind_some]
  rw [if_pos p, if_pos q']
  refine ⟨_, _, _, rfl, ?_, s⟩
  obtain ⟨m, rfl⟩ := Int.eq_ofNat_of_zero_le p
  rw [rdOf_at _ _ _ (by omega)]
  exact List.getElem_mem _


theorem ev_specIsName (s : ByteArray) (h : s.size ≤ 9223372036854775807) : Ev (fun k => spec_IsName.f k s) (nameB s) := by
  have hc := all_loop s.size h (fun i => 97 ≤ bt s (i : Int) ∧ bt s (i : Int) ≤ 122) (fun k i => spec_IsName.l0 k s i) (decide ((1 : Int) ≤ (s.size : Int)) && decide ((s.size : Int) ≤ 2)) false
    (fun i hi hT => ⟨0, fun k _ => by simp only [spec_IsName.l0]; rw [if_pos (by omega), if_pos (by omega), if_neg (by omega), if_neg (by omega)]⟩)
    (fun i hi hT => ⟨0, fun k _ => by
      simp only [spec_IsName.l0]
      rw [if_pos (by omega), if_pos (by omega)]
      by_cases c : bt s (i : Int) < 97
      · rw [if_pos c]
      · rw [if_neg c, if_pos (by omega)]⟩)
    ⟨0, fun k _ => by simp only [spec_IsName.l0]; rw [if_neg (by omega), in_eq]; rfl⟩ (nameB s) (by rw [if_and_false]; rfl)
  exact Ev.congr (fun k => rfl) hc


theorem ev_implIsName (s : ByteArray) (h : s.size ≤ 9223372036854775807) : Ev (fun k => impl_IsName.f k s) (nameB s) := by
  have hc := all_loop s.size h (fun i => 97 ≤ bt s (i : Int) ∧ bt s (i : Int) ≤ 122) (fun k i => impl_IsName.l0 k s (s.size : Int) i) (decide ((1 : Int) ≤ (s.size : Int)) && decide ((s.size : Int) ≤ 2)) false
    (fun i hi hT => ⟨0, fun k _ => by simp only [impl_IsName.l0]; rw [if_pos (by omega), if_pos (by omega), if_pos (by omega), if_neg (by omega), if_neg (by omega)]⟩)
    (fun i hi hT => ⟨0, fun k _ => by
      simp only [impl_IsName.l0]
      rw [if_pos (by omega), if_pos (by omega), if_pos (by omega)]
      by_cases c : bt s (i : Int) < 97
      · rw [if_pos c]
      · rw [if_neg c, if_pos (by omega)]⟩)
    ⟨0, fun k _ => by simp only [impl_IsName.l0]; rw [if_neg (by omega), wi_eq]; rfl⟩ (nameB s) (by rw [if_and_false]; rfl)
  exact Ev.congr (fun k => rfl) hc


theorem ev_specIndexOf (l : List ByteArray) (s : ByteArray) (h : l.length ≤ 9223372036854775807) : Ev (fun k => spec_IndexOf.f k l s) (idx l s) := by
  have hc := loop_is (σ := Unit) l.length (fun k _ i => spec_IndexOf.l0 k l s i) (fun i _ => idx l s = idxFrom s (l.drop i) i) (idx l s)
    (fun i _ hi hI => by
      rw [idx_go s l i hi] at hI
      by_cases c : l[i].toList = s.toList
      · rw [if_pos c] at hI
        exact Or.inr ⟨0, fun k _ => by simp only [spec_IndexOf.l0]; rw [if_pos (by omega), if_pos (by omega), rdOf_at _ _ _ hi, if_pos c, hI]⟩
      · rw [if_neg c] at hI
        exact Or.inl ⟨(), hI, 0, fun k _ => by simp only [spec_IndexOf.l0]; rw [if_pos (by omega), if_pos (by omega), rdOf_at _ _ _ hi, if_neg c, up64 (by omega)]⟩)
    (fun _ hI => ⟨0, fun k _ => by rw [List.drop_length] at hI; simp only [spec_IndexOf.l0]; rw [if_neg (by omega), hI]; rfl⟩) () (by rfl)
  exact Ev.congr (fun k => rfl) hc


theorem ev_slicesIndex (l : List ByteArray) (s : ByteArray) (h : l.length ≤ 9223372036854775807) : Ev (fun k => slices_Index_string_string.f k l s) (idx l s) := by
  have hc := loop_is (σ := Unit) l.length (fun k _ i => slices_Index_string_string.l0 k l s (l.length : Int) i) (fun i _ => idx l s = idxFrom s (l.drop i) i) (idx l s)
    (fun i _ hi hI => by
      rw [idx_go s l i hi] at hI
      by_cases c : l[i].toList = s.toList
      · rw [if_pos c] at hI
        exact Or.inr ⟨0, fun k _ => by simp only [slices_Index_string_string.l0]; rw [if_pos (by omega), if_pos (by omega), if_pos (by omega), rdOf_at _ _ _ hi, if_pos c.symm, hI]⟩
      · rw [if_neg c] at hI
        exact Or.inl ⟨(), hI, 0, fun k _ => by simp only [slices_Index_string_string.l0]; rw [if_pos (by omega), if_pos (by omega), if_pos (by omega), rdOf_at _ _ _ hi, if_neg (fun e => c e.symm), up64 (by omega)]⟩)
    (fun _ hI => ⟨0, fun k _ => by rw [List.drop_length] at hI; simp only [slices_Index_string_string.l0]; rw [if_neg (by omega), hI]; rfl⟩) () (by rfl)
  exact Ev.congr (fun k => rfl) hc

theorem ev_implIndexOf (l : List ByteArray) (s : ByteArray) (h : l.length ≤ 9223372036854775807) : Ev (fun k => impl_IndexOf.f k l s) (idx l s) := by
  refine Ev.congr (fun k => ?_) (ev_slicesIndex l s h)
  unfold impl_IndexOf.f
  cases slices_Index_string_string.f k l s <;> rfl


theorem ev_specAreVars (l : List ByteArray) (h : l.length ≤ 9223372036854775807) (hs : ∀ s ∈ l, s.size ≤ 9223372036854775807) : Ev (fun k => spec_AreVars.f k l) (varsB l) := by
  have hc := all_loop l.length h (fun i => nameB (l.getD i ByteArray.empty) = true ∧ idx l (l.getD i ByteArray.empty) = (i : Int)) (fun k i => spec_AreVars.l0 k l i) (decide ((1 : Int) ≤ (l.length : Int)) && decide ((l.length : Int) ≤ 4)) false
    (fun i hi hT => by
      have e : rdOf ByteArray.empty l (i : Int) = l.getD i ByteArray.empty := by unfold rdOf; rw [Int.toNat_natCast]
      obtain ⟨K, hK⟩ := Evt.and (ev_specIsName (l.getD i ByteArray.empty) (hs _ (getD_mem _ _ _ hi))) (ev_specIndexOf l (l.getD i ByteArray.empty) h)
      refine ⟨K, fun k hk => ?_⟩
      obtain ⟨h1, h2⟩ := hK k hk
      dsimp only at h1 h2
      simp only [spec_AreVars.l0]
      rw [if_pos (by omega), if_pos (by omega), e, h1]
      simp only [Option.bind_some]
      rw [if_pos hT.1, h2]
      simp only [Option.bind_some]
      rw [if_pos hT.2])
    (fun i hi hT => by
      have e : rdOf ByteArray.empty l (i : Int) = l.getD i ByteArray.empty := by unfold rdOf; rw [Int.toNat_natCast]
      obtain ⟨K, hK⟩ := Evt.and (ev_specIsName (l.getD i ByteArray.empty) (hs _ (getD_mem _ _ _ hi))) (ev_specIndexOf l (l.getD i ByteArray.empty) h)
      refine ⟨K, fun k hk => ?_⟩
      obtain ⟨h1, h2⟩ := hK k hk
      dsimp only at h1 h2
      simp only [spec_AreVars.l0]
      rw [if_pos (by omega), if_pos (by omega), e, h1]
      simp only [Option.bind_some]
      by_cases c : nameB (l.getD i ByteArray.empty) = true
      · rw [if_pos c, h2]
        simp only [Option.bind_some]
        rw [if_neg (fun c2 => hT ⟨c, c2⟩)]
      · rw [if_neg c])
    ⟨0, fun k _ => by simp only [spec_AreVars.l0]; rw [if_neg (by omega), in_eq]; rfl⟩ (varsB l) (by rw [if_and_false]; rfl)
  exact Ev.congr (fun k => rfl) hc


theorem ev_implAreVars (l : List ByteArray) (h : l.length ≤ 9223372036854775807) (hs : ∀ s ∈ l, s.size ≤ 9223372036854775807) : Ev (fun k => impl_AreVars.f k l) (varsB l) := by
  have hc := all_loop l.length h (fun i => nameB (l.getD i ByteArray.empty) = true ∧ idx l (l.getD i ByteArray.empty) = (i : Int)) (fun k i => impl_AreVars.l0 k l l (l.length : Int) i) (decide ((1 : Int) ≤ (l.length : Int)) && decide ((l.length : Int) ≤ 4)) false
    (fun i hi hT => by
      have e : rdOf ByteArray.empty l (i : Int) = l.getD i ByteArray.empty := by unfold rdOf; rw [Int.toNat_natCast]
      obtain ⟨K, hK⟩ := Evt.and (ev_implIsName (l.getD i ByteArray.empty) (hs _ (getD_mem _ _ _ hi))) (ev_implIndexOf l (l.getD i ByteArray.empty) h)
      refine ⟨K, fun k hk => ?_⟩
      obtain ⟨h1, h2⟩ := hK k hk
      dsimp only at h1 h2
      simp only [impl_AreVars.l0]
      rw [if_pos (by omega), if_pos (by omega), if_pos (by omega), e, h1]
      simp only [Option.bind_some]
      rw [if_pos hT.1, h2]
      simp only [Option.bind_some]
      rw [if_pos hT.2])
    (fun i hi hT => by
      have e : rdOf ByteArray.empty l (i : Int) = l.getD i ByteArray.empty := by unfold rdOf; rw [Int.toNat_natCast]
      obtain ⟨K, hK⟩ := Evt.and (ev_implIsName (l.getD i ByteArray.empty) (hs _ (getD_mem _ _ _ hi))) (ev_implIndexOf l (l.getD i ByteArray.empty) h)
      refine ⟨K, fun k hk => ?_⟩
      obtain ⟨h1, h2⟩ := hK k hk
      dsimp only at h1 h2
      simp only [impl_AreVars.l0]
      rw [if_pos (by omega), if_pos (by omega), if_pos (by omega), e, h1]
      simp only [Option.bind_some]
      by_cases c : nameB (l.getD i ByteArray.empty) = true
      · rw [if_pos c, h2]
        simp only [Option.bind_some]
        rw [if_neg (fun c2 => hT ⟨c, c2⟩)]
      · rw [if_neg c])
    ⟨0, fun k _ => by simp only [impl_AreVars.l0]; rw [if_neg (by omega), wi_eq]; rfl⟩ (varsB l) (by rw [if_and_false]; rfl)
  exact Ev.congr (fun k => rfl) hc


/-- the places of a number -/
def places (l : List Int) (n : Int) (i : Nat) : List Int := ((List.range i).filter fun j => decide (rd l ((j : Nat) : Int) = n)).map fun (j : Nat) => (j : Int)

theorem places_succ (l : List Int) (n : Int) (i : Nat) : places l n (i + 1) = if rd l (i : Int) = n then places l n i ++ [(i : Int)] else places l n i := by
  unfold places
  rw [List.range_succ, List.filter_append]
  by_cases c : rd l (i : Int) = n
  · rw [if_pos c]; simp [c]
  · rw [if_neg c]; simp [c]

theorem places_len (l : List Int) (n : Int) (i : Nat) : (places l n i).length ≤ i := by
  unfold places
  rw [List.length_map]
  have := List.length_filter_le (fun j => decide (rd l ((j : Nat) : Int) = n)) (List.range i)
  rw [List.length_range] at this
  exact this

theorem ev_specPositions (l : List Int) (n : Int) (h : l.length ≤ 1048576) : Ev (fun k => spec_Positions.f k l n) (places l n l.length) := by
  have hc := loop_is (σ := List Int) l.length (fun k s i => spec_Positions.l0 k l n s i) (fun i s => s = places l n i) (places l n l.length)
    (fun i s hi hs => by
      have hp := places_len l n i
      refine Or.inl ⟨places l n (i + 1), rfl, 0, fun k _ => ?_⟩
      subst hs
      simp only [spec_Positions.l0]
      rw [if_pos (by omega), if_pos (by omega), places_succ, up64 (by omega)]
      by_cases c : rd l (i : Int) = n
      · rw [if_pos c, if_pos c, if_pos (by omega)]
      · rw [if_neg c, if_neg c])
    (fun s hs => ⟨0, fun k _ => by simp only [spec_Positions.l0]; rw [if_neg (by omega), hs]⟩) [] rfl
  exact Ev.congr (fun k => rfl) hc


theorem ev_implPositions (l : List Int) (n : Int) (h : l.length ≤ 1048576) : Ev (fun k => impl_Positions.f k l n) (places l n l.length) := by
  have hc := loop_is (σ := List Int) l.length (fun k s i => impl_Positions.l0 k n s l (l.length : Int) i) (fun i s => s = places l n i) (places l n l.length)
    (fun i s hi hs => by
      have hp := places_len l n i
      refine Or.inl ⟨places l n (i + 1), rfl, 0, fun k _ => ?_⟩
      subst hs
      simp only [impl_Positions.l0]
      rw [if_pos (by omega), if_pos (by omega), if_pos (by omega), places_succ, up64 (by omega)]
      by_cases c : rd l (i : Int) = n
      · rw [if_pos c, if_pos c, if_pos (by omega)]
      · rw [if_neg c, if_neg c])
    (fun s hs => ⟨0, fun k _ => by simp only [impl_Positions.l0]; rw [if_neg (by omega), hs]⟩) [] rfl
  exact Ev.congr (fun k => rfl) hc


theorem ev_sameInts (l : List Int) (h : l.length ≤ 9223372036854775807) : Ev (fun k => laws_sameInts.f k l l) true := by
  have hc := all_true l.length h (fun k i => laws_sameInts.l0 k l l i) true
    (fun i hi => ⟨0, fun k _ => by simp only [laws_sameInts.l0]; rw [if_pos (by omega), if_pos (by omega), if_pos (by omega)]; simp only [if_true]⟩)
    ⟨0, fun k _ => by simp only [laws_sameInts.l0]; rw [if_neg (by omega)]⟩
  refine Ev.congr (fun k => ?_) hc
  unfold laws_sameInts.f
  rw [if_pos rfl]

theorem ev_DrawAreVars (l : List Int) (h : l.length ≤ 1048576) : ∃ v, Ev (fun k => spec_DrawAreVars.f k l) v ∧ v.length ≤ 6 ∧ ∀ s ∈ v, s.size ≤ 10 := by
  obtain ⟨g, K, hK⟩ := ev_l1New l h
  obtain ⟨n, i1, h1, e1, hn0, hn1, _, s1⟩ := l1Below_ok l 0 g 6 h st0
  obtain ⟨m, rfl⟩ := Int.eq_ofNat_of_zero_le hn0
  have hm : m < 6 := by have := hn1 (by omega); omega
  obtain ⟨v, hv, K', hK'⟩ := loop_ev (σ := List ByteArray × Int × Int) m (fun k s i => spec_DrawAreVars.l0 k s.1 (m : Int) i l s.2.1 s.2.2) (fun i s => s.1.length = i ∧ (∀ x ∈ s.1, x.size ≤ 10) ∧ St s.2.1) (fun v => v.length ≤ 6 ∧ ∀ s ∈ v, s.size ≤ 10)
    (fun i s hi ⟨hl, hs, hst⟩ => by
      obtain ⟨x, j, h', e, hx, s'⟩ := l1Pick_ok l s.2.1 s.2.2 [(⟨#[120]⟩ : ByteArray), (⟨#[121]⟩ : ByteArray), (⟨#[116]⟩ : ByteArray), (⟨#[112]⟩ : ByteArray), (⟨#[113, 113]⟩ : ByteArray), (⟨#[88]⟩ : ByteArray)] h hst (by decide)
      refine Or.inl ⟨(s.1 ++ [x], j, h'), ⟨by simp [hl], fun y hy => ?_, s'⟩, 0, fun k _ => ?_⟩
      · rcases List.mem_append.mp hy with hy | hy
        · exact hs y hy
        · rw [List.mem_singleton.mp hy]
          have all : ∀ y ∈ [(⟨#[120]⟩ : ByteArray), (⟨#[121]⟩ : ByteArray), (⟨#[116]⟩ : ByteArray), (⟨#[112]⟩ : ByteArray), (⟨#[113, 113]⟩ : ByteArray), (⟨#[88]⟩ : ByteArray)], y.size ≤ 10 := by decide
          exact all x hx
      · simp only [spec_DrawAreVars.l0]
        rw [if_pos (by omega), e]
        simp only [Option.bind_some]
        rw [if_pos (by omega), up64 (by omega)])
    (fun s ⟨hl, hs, hst⟩ => ⟨s.1, ⟨by omega, hs⟩, 0, fun k _ => by simp only [spec_DrawAreVars.l0]; rw [if_neg (by omega)]⟩)
    m 0 ([], i1, h1) (by omega) (by omega) ⟨rfl, (fun x hx => by cases hx), s1⟩
  refine ⟨v, ⟨K + K', fun k hk => ?_⟩, hv⟩
  have a1 := hK k (by omega)
  have a2 := hK' k (by omega)
  dsimp only at a1 a2 ⊢
  unfold spec_DrawAreVars.f
  rw [a1]
  simp only [Option.bind_some, e1]
  exact a2

theorem ev_DrawPositions (l : List Int) (h : l.length ≤ 1048576) : ∃ v n, Ev (fun k => spec_DrawPositions.f k l) (v, n) ∧ v.length ≤ 6 := by
  obtain ⟨g, K, hK⟩ := ev_l1New l h
  obtain ⟨n, i1, h1, e1, hn0, hn1, _, s1⟩ := l1Below_ok l 0 g 5 h st0
  obtain ⟨m, rfl⟩ := Int.eq_ofNat_of_zero_le hn0
  have hm : m < 5 := by have := hn1 (by omega); omega
  obtain ⟨v, hv, K', hK'⟩ := loop_ev (σ := List Int × Int × Int) m (fun k s i => spec_DrawPositions.l0 k s.1 (m : Int) i l s.2.1 s.2.2) (fun i s => s.1.length = i ∧ St s.2.1) (fun v => v.1.length ≤ 6)
    (fun i s hi ⟨hl, hst⟩ => by
      obtain ⟨x, j, h', e, _, _, _, s'⟩ := l1Below_ok l s.2.1 s.2.2 4 h hst
      refine Or.inl ⟨(s.1 ++ [wrap64 (x - 1)], j, h'), ⟨by simp [hl], s'⟩, 0, fun k _ => ?_⟩
      simp only [spec_DrawPositions.l0]
      rw [if_pos (by omega), e]
      simp only [Option.bind_some]
      rw [if_pos (by omega), up64 (by omega)])
    (fun s ⟨hl, hst⟩ => by
      obtain ⟨x, j, h', e, _, _, _, s'⟩ := l1Below_ok l s.2.1 s.2.2 4 h hst
      exact ⟨(s.1, wrap64 (x - 1)), by dsimp only; omega, 0, fun k _ => by simp only [spec_DrawPositions.l0]; rw [if_neg (by omega), e]; rfl⟩)
    m 0 ([], i1, h1) (by omega) (by omega) ⟨rfl, s1⟩
  refine ⟨v.1, v.2, ⟨K + K', fun k hk => ?_⟩, hv⟩
  have a1 := hK k (by omega)
  have a2 := hK' k (by omega)
  dsimp only at a1 a2 ⊢
  unfold spec_DrawPositions.f
  rw [a1]
  simp only [Option.bind_some, e1]
  exact a2

theorem ev_DrawIsName (l : List Int) (h : l.length ≤ 1048576) : ∃ s, Ev (fun k => spec_DrawIsName.f k l) s ∧ s.size ≤ 10 := by
  obtain ⟨g, K, hK⟩ := ev_l1New l h
  obtain ⟨x, j, h', e, hx, s'⟩ := l1Pick_ok l 0 g [(⟨#[120]⟩ : ByteArray), (⟨#[97, 98]⟩ : ByteArray), (⟨#[97, 98, 99]⟩ : ByteArray), (⟨#[]⟩ : ByteArray), (⟨#[88]⟩ : ByteArray), (⟨#[120, 49]⟩ : ByteArray), (⟨#[97, 45]⟩ : ByteArray)] h st0 (by decide)
  refine ⟨x, ⟨K, fun k hk => ?_⟩, ?_⟩
  · have a1 := hK k (by omega)
    dsimp only at a1 ⊢
    unfold spec_DrawIsName.f
    rw [a1]
    simp only [Option.bind_some, e]
  · have all : ∀ y ∈ [(⟨#[120]⟩ : ByteArray), (⟨#[97, 98]⟩ : ByteArray), (⟨#[97, 98, 99]⟩ : ByteArray), (⟨#[]⟩ : ByteArray), (⟨#[88]⟩ : ByteArray), (⟨#[120, 49]⟩ : ByteArray), (⟨#[97, 45]⟩ : ByteArray)], y.size ≤ 10 := by decide
    exact all x hx

theorem ev_DrawIndexOf (l : List Int) (h : l.length ≤ 1048576) : ∃ v s, Ev (fun k => spec_DrawIndexOf.f k l) (v, s) ∧ v.length ≤ 6 := by
  obtain ⟨g, K, hK⟩ := ev_l1New l h
  obtain ⟨v, ⟨K', hK'⟩, hv, _⟩ := ev_DrawAreVars l h
  obtain ⟨x, j, h', e, hx, s'⟩ := l1Pick_ok l 0 g [(⟨#[120]⟩ : ByteArray), (⟨#[121]⟩ : ByteArray), (⟨#[122, 122]⟩ : ByteArray)] h st0 (by decide)
  refine ⟨v, x, ⟨K + K', fun k hk => ?_⟩, hv⟩
  have a1 := hK k (by omega)
  have a2 := hK' k (by omega)
  dsimp only at a1 a2 ⊢
  unfold spec_DrawIndexOf.f
  rw [a1]
  simp only [Option.bind_some, a2, e]

theorem places_at (l : List Int) (n : Int) (i : Nat) (hi : i < (places l n l.length).length) : 0 ≤ rd (places l n l.length) (i : Int) ∧ rd (places l n l.length) (i : Int) < l.length ∧ rd l (rd (places l n l.length) (i : Int)) = n := by
  rw [rd_at _ _ hi]
  have hm := List.getElem_mem hi
  unfold places at hm ⊢
  obtain ⟨j, hj, e⟩ := List.mem_map.mp hm
  rw [List.mem_filter, List.mem_range] at hj
  rw [← e]
  exact ⟨by omega, by omega, of_decide_eq_true hj.2⟩

theorem places_up (l : List Int) (n : Int) : (places l n l.length).Pairwise (· < ·) := by
  unfold places
  rw [List.pairwise_map]
  refine List.Pairwise.imp (R := fun (a b : Nat) => a < b) (fun h => by omega) ?_
  exact List.Pairwise.filter _ List.pairwise_lt_range

theorem ev_l1 (l : List Int) (n : Int) (hl : l.length ≤ 6) : Ev (fun k => laws_FnNames.l1 k l n (places l n l.length) 0) true := by
  have hp := places_len l n l.length
  refine all_true (places l n l.length).length (by omega) (fun k i => laws_FnNames.l1 k l n (places l n l.length) i) true
    (fun i hi => ⟨0, fun k _ => ?_⟩) ⟨0, fun k _ => by simp only [laws_FnNames.l1]; rw [if_neg (by omega)]⟩
  obtain ⟨a, b, c⟩ := places_at l n i hi
  simp only [laws_FnNames.l1]
  rw [if_pos (by omega), if_pos (by omega), if_neg (by omega), if_neg (by omega), if_pos a, if_pos b, if_pos c]
  by_cases ci : (i : Int) > 0
  · have e : wrap64 ((i : Int) - 1) = ((i - 1 : Nat) : Int) := by rw [w64 (by omega) (by omega)]; omega
    have lt := (List.pairwise_iff_getElem.mp (places_up l n)) (i - 1) i (by omega) hi (by omega)
    rw [if_pos ci, e, if_pos (by omega), if_pos (by omega), rd_at _ _ (show i - 1 < _ by omega), rd_at _ _ hi, if_neg (by omega)]
  · rw [if_neg ci]

theorem ev_l0 (v : List ByteArray) (l : List Int) (n : Int) (hl : l.length ≤ 6) (hv : v.length ≤ 6) (hs : ∀ s ∈ v, s.size ≤ 10) : Ev (fun k => laws_FnNames.l0 k v l n (places l n l.length) 0) true := by
  have g1 := ev_l1 l n hl
  obtain ⟨K, hK⟩ := ev_implAreVars v (by omega) (fun s h => by have := hs s h; omega)
  have stop : ∀ i : Int, Ev (fun k => laws_FnNames.j2 k v l n (places l n l.length) i false) true := fun i => Ev.next (f := fun k => laws_FnNames.l1 k l n (places l n l.length) 0) ⟨0, fun k _ => by simp only [laws_FnNames.j2]; rw [if_neg (by decide)]⟩ g1
  cases hb : varsB v with
  | false =>
    rw [hb] at hK
    by_cases c : (0 : Int) < (v.length : Int)
    · refine Ev.next (f := fun k => laws_FnNames.j2 k v l n (places l n l.length) 0 false) ⟨K, fun k hk => ?_⟩ (stop 0)
      have e := hK k hk
      dsimp only at e
      simp only [laws_FnNames.l0]
      rw [if_pos c, e]
      rfl
    · exact Ev.next (f := fun k => laws_FnNames.j2 k v l n (places l n l.length) 0 false) ⟨0, fun k hk => by simp only [laws_FnNames.l0]; rw [if_neg c]⟩ (stop 0)
  | true =>
    rw [hb] at hK
    have hall : ∀ i : Nat, i < v.length → nameB (v.getD i ByteArray.empty) = true ∧ idx v (v.getD i ByteArray.empty) = (i : Int) := by
      unfold varsB at hb
      rw [Bool.and_eq_true] at hb
      exact of_decide_eq_true hb.1
    have go : ∀ d i : Nat, i ≤ v.length → v.length - i = d → Ev (fun k => laws_FnNames.l0 k v l n (places l n l.length) (i : Int)) true := by
      intro d
      induction d with
      | zero =>
        intro i hi hd
        exact Ev.next (f := fun k => laws_FnNames.j2 k v l n (places l n l.length) i false) ⟨0, fun k hk => by simp only [laws_FnNames.l0]; rw [if_neg (by omega)]⟩ (stop i)
      | succ d ih =>
        intro i hi hd
        have e0 : rdOf ByteArray.empty v (i : Int) = v.getD i ByteArray.empty := by unfold rdOf; rw [Int.toNat_natCast]
        obtain ⟨K2, hK2⟩ := Evt.and (ev_implIndexOf v (v.getD i ByteArray.empty) (by omega)) (ev_implIsName (v.getD i ByteArray.empty) (by have := hs _ (getD_mem ByteArray.empty v i (by omega)); omega))
        obtain ⟨a1, a2⟩ := hall i (by omega)
        refine Ev.next (f := fun k => laws_FnNames.j2 k v l n (places l n l.length) i true) ⟨K, fun k hk => ?_⟩ (Ev.next (f := fun k => laws_FnNames.l0 k v l n (places l n l.length) ((i + 1 : Nat) : Int)) ⟨K2, fun k hk => ?_⟩ (ih (i + 1) (by omega) (by omega)))
        · have e := hK k hk
          dsimp only at e
          simp only [laws_FnNames.l0]
          rw [if_pos (by omega), e]
          rfl
        · obtain ⟨b1, b2⟩ := hK2 k hk
          dsimp only at b1 b2
          simp only [laws_FnNames.j2, if_true]
          rw [if_pos (by omega), if_pos (by omega), e0, b1]
          simp only [Option.bind_some]
          rw [if_pos a2, b2]
          simp only [Option.bind_some]
          rw [if_pos a1, up64 (by omega)]
    exact go v.length 0 (by omega) (by omega)

theorem FnNames : laws_FnNames.Pure := by
  intro l _
  by_cases c0 : (l.length : Int) > 1048576
  · exact ⟨0, by unfold laws_FnNames.f laws_big.f; simp [c0]⟩
  obtain ⟨v, e1, hv, hvs⟩ := ev_DrawAreVars l (by omega)
  obtain ⟨p, n, e2, hp⟩ := ev_DrawPositions l (by omega)
  obtain ⟨s, e3, hs⟩ := ev_DrawIsName l (by omega)
  obtain ⟨x, y, e4, hx⟩ := ev_DrawIndexOf l (by omega)
  have hpl := places_len p n p.length
  have tail : Ev (fun k => laws_FnNames.j0 k v p n (places p n p.length) false) true :=
    Ev.next (f := fun k => laws_FnNames.l0 k v p n (places p n p.length) 0) ⟨0, fun k _ => by simp only [laws_FnNames.j0]; rw [if_neg (by decide)]⟩ (ev_l0 v p n hp hv hvs)
  obtain ⟨k, h1, h2, h3, h4, h5, h6, h7, h8, h9, h10, h11, h12, h13, h14⟩ := (Evt.and e1 (Evt.and e2 (Evt.and e3 (Evt.and e4 (Evt.and (ev_implPositions p n (by omega)) (Evt.and (ev_specPositions p n (by omega)) (Evt.and (ev_implAreVars v (by omega) (fun s h => by have := hvs s h; omega)) (Evt.and (ev_specAreVars v (by omega) (fun s h => by have := hvs s h; omega)) (Evt.and (ev_sameInts (places p n p.length) (by omega)) (Evt.and (ev_implIsName s (by omega)) (Evt.and (ev_specIsName s (by omega)) (Evt.and (ev_implIndexOf x y (by omega)) (Evt.and (ev_specIndexOf x y (by omega)) tail))))))))))))).ex
  dsimp only at h1 h2 h3 h4 h5 h6 h7 h8 h9 h10 h11 h12 h13 h14
  refine ⟨k, ?_⟩
  unfold laws_FnNames.f laws_big.f
  rw [decide_eq_false c0]
  simp only [Option.bind_some]
  rw [if_neg (by decide)]
  simp only [h1, h2, h3, h4, h5, h6, h7, h8, h9, h10, h11, h12, h13, Option.bind_some, bne_self_eq_false, if_true]
  rw [if_neg (by decide), if_neg (by decide)]
  exact h14

end Go.Proofs.Ytfmepkfigdobaaa.Pure.LFnNames
namespace Go.Proofs.Ytfmepkfigdobaaa.Pure
open Go.Proofs.Ytfmepkfigdobaaa.PFnNames
theorem FnNames : laws_FnNames.Pure := LFnNames.FnNames
end Go.Proofs.Ytfmepkfigdobaaa.Pure
