/-
  The pure statement of laws.FnKleene: what the printed functions compute makes the law answer true, for every argument of its kinds (no further condition).
-/
import Derived.Test.YtfmepkfigdobaaaPFnKleenex3
import Derived.Test.YtfmepkfigdobaaaXPure
namespace Go.Proofs.Ytfmepkfigdobaaa.Pure.LFnKleene
open Go.RowKit Go.Proofs.Ytfmepkfigdobaaa.PFnKleene Go.Proofs.YtfmepkfigdobaaaW.PrintWords Go.Proofs.YtfmepkfigdobaaaW.PrintLast Go.Proofs.YtfmepkfigdobaaaX
set_option linter.unusedVariables false
set_option linter.unusedSimpArgs false

theorem in_eq (a b c : Int) : spec_l1In.f a b c = some (decide (b ≤ a) && decide (a ≤ c)) := by
  unfold spec_l1In.f
  by_cases h : b ≤ a <;> simp [h]


theorem wi_eq (a b c : Int) : impl_within.f a b c = some (decide (b ≤ a) && decide (a ≤ c)) := by
  unfold impl_within.f
  by_cases h : b ≤ a <;> simp [h]


theorem and255 (x : Int) : 0 ≤ Go.bits .and .i64 x 255 ∧ Go.bits .and .i64 x 255 ≤ 255 := by
  have h : (BitVec.ofInt 64 (255 : Int)).toNat = 255 := by decide
  have hl : (BitVec.ofInt 64 x).toNat &&& 255 ≤ 255 := Nat.and_le_right
  have e : Go.bits .and .i64 x 255 = IntKind.i64.wrap (((BitVec.ofInt 64 x) &&& (BitVec.ofInt 64 (255 : Int)) : BitVec 64).toNat : Int) := rfl
  rw [BitVec.toNat_and, h] at e
  rw [e, IntKind.wrap_i64]
  omega

/-- where a reader stands -/
def St (i : Int) : Prop := 0 ≤ i ∧ i ≤ 1048576

theorem l1Byte_ok (b : List Int) (i h : Int) (hb : b.length ≤ 1048576) (hi : St i) : ∃ r i' h', spec_l1Byte.f b i h = some (r, i', h') ∧ 0 ≤ r ∧ r ≤ 255 ∧ St i' := by
  unfold spec_l1Byte.f
  have hi0 := hi.1
  by_cases c : i < (b.length : Int)
  · rw [if_pos c, if_pos hi0]
    refine ⟨_, _, _, rfl, (and255 _).1, (and255 _).2, ?_⟩
    rw [w64 (by omega) (by omega)]
    exact ⟨by omega, by omega⟩
  · rw [if_neg c]
    exact ⟨_, _, _, rfl, (and255 _).1, (and255 _).2, hi⟩

theorem l1Below_ok (b : List Int) (i h n : Int) (hb : b.length ≤ 1048576) (hi : St i) : ∃ r i' h', spec_l1Below.f b i h n = some (r, i', h') ∧ 0 ≤ r ∧ (0 < n → r < n) ∧ (n ≤ 0 → r = 0) ∧ St i' := by
  unfold spec_l1Below.f
  by_cases c : n ≤ 0
  · rw [if_pos c]
    exact ⟨_, _, _, rfl, by omega, fun h => by omega, fun _ => rfl, hi⟩
  · rw [if_neg c]
    obtain ⟨r1, i1, h1, e1, p1, q1, s1⟩ := l1Byte_ok b i h hb hi
    by_cases c2 : n ≤ 256
    · rw [if_pos c2, e1]
      simp only [Option.bind_some]
      rw [if_neg (by omega)]
      exact ⟨_, _, _, rfl, Int.tmod_nonneg _ p1, fun h => Int.tmod_lt_of_pos _ h, fun h => by omega, s1⟩
    · obtain ⟨r2, i2, h2, e2, p2, q2, s2⟩ := l1Byte_ok b i1 h1 hb s1
      obtain ⟨r3, i3, h3, e3, p3, q3, s3⟩ := l1Byte_ok b i2 h2 hb s2
      obtain ⟨r4, i4, h4, e4, p4, q4, s4⟩ := l1Byte_ok b i3 h3 hb s3
      rw [if_neg c2, e1]
      simp only [Option.bind_some, e2, e3, e4]
      rw [if_neg (by omega)]
      refine ⟨_, _, _, rfl, Int.tmod_nonneg _ ?_, fun h => Int.tmod_lt_of_pos _ h, fun h => by omega, s4⟩
      rw [w64 (x := r1 * 16777216) (by omega) (by omega), w64 (x := r2 * 65536) (by omega) (by omega), w64 (x := r3 * 256) (by omega) (by omega), w64 (x := r1 * 16777216 + r2 * 65536) (by omega) (by omega), w64 (x := r1 * 16777216 + r2 * 65536 + r3 * 256) (by omega) (by omega), w64 (by omega) (by omega)]
      omega

theorem ev_l1New (l : List Int) (h : l.length ≤ 1048576) : ∃ g, Ev (fun k => spec_l1New.f k l) (l, 0, g) := by
  obtain ⟨r, hr, he⟩ := loop_ev (σ := Int) l.length (fun k s i => spec_l1New.l0 k l s i) (fun _ _ => True) (fun r => ∃ g, r = (l, 0, g))
    (fun i s hi _ => by
      by_cases c : (i : Int) < 4000
      · exact Or.inl ⟨_, trivial, 0, fun k _ => by simp only [spec_l1New.l0]; rw [if_pos (by omega), if_pos c, if_pos (by omega), up64 (by omega)]⟩
      · exact Or.inr ⟨_, ⟨s, rfl⟩, 0, fun k _ => by simp only [spec_l1New.l0]; rw [if_pos (by omega), if_neg c]⟩)
    (fun s _ => ⟨_, ⟨s, rfl⟩, 0, fun k _ => by simp only [spec_l1New.l0]; rw [if_neg (by omega)]⟩)
    l.length 0 (wrap64 (26583 + (l.length : Int))) (by omega) (by omega) trivial
  obtain ⟨g, rfl⟩ := hr
  exact ⟨g, Ev.congr (fun k => rfl) he⟩

theorem st0 : St 0 := ⟨by omega, by omega⟩


theorem l1PickInt_ok (b : List Int) (i h : Int) (l : List Int) (hb : b.length ≤ 1048576) (hi : St i) (hl : 0 < l.length) : ∃ r i' h', spec_l1PickInt.f b i h l = some (r, i', h') ∧ r ∈ l ∧ St i' := by
  unfold spec_l1PickInt.f
  obtain ⟨r, i', h', e, p, q, _, s⟩ := l1Below_ok b i h (l.length : Int) hb hi
  have q' := q (by omega)
  rw [e]
  simp only [Option.bind_some]
  rw [if_pos p, if_pos q']
  refine ⟨_, _, _, rfl, ?_, s⟩
  obtain ⟨m, rfl⟩ := Int.eq_ofNat_of_zero_le p
  rw [rd_at _ _ (by omega)]
  exact List.getElem_mem _


theorem l3Draw_ok (b : List Int) (i h : Int) (hb : b.length ≤ 1048576) (hi : St i) : ∃ r i' h', spec_l3Draw.f b i h = some (r, i', h') ∧ r ∈ ([0, 1, 2, 0, 1, 2, 3, (-1)] : List Int) ∧ St i' := by
  unfold spec_l3Draw.f
  obtain ⟨r, i', h', e, hr, s⟩ := l1PickInt_ok b i h [0, 1, 2, 0, 1, 2, 3, (-1)] hb hi (by decide)
  rw [e]
  exact ⟨_, _, _, rfl, hr, s⟩

theorem ev_l3Two (l : List Int) (h : l.length ≤ 1048576) : ∃ a b, Ev (fun k => spec_l3Two.f k l) (a, b) ∧ a ∈ ([0, 1, 2, 0, 1, 2, 3, (-1)] : List Int) ∧ b ∈ ([0, 1, 2, 0, 1, 2, 3, (-1)] : List Int) := by
  obtain ⟨g, K, hK⟩ := ev_l1New l h
  obtain ⟨a, i, h1, e1, ha, s1⟩ := l3Draw_ok l 0 g h st0
  obtain ⟨b, i2, h2, e2, hb, s2⟩ := l3Draw_ok l i h1 h s1
  refine ⟨a, b, ⟨K, fun k hk => ?_⟩, ha, hb⟩
  have e := hK k hk
  dsimp only at e ⊢
  unfold spec_l3Two.f
  rw [e]
  simp only [Option.bind_some, e1, e2]

/-- whatever numbers are drawn: every one of them keeps the law -/
theorem rest (k : Nat) (a b c d : Int) (ha : a ∈ ([0, 1, 2, 0, 1, 2, 3, (-1)] : List Int)) (hb : b ∈ ([0, 1, 2, 0, 1, 2, 3, (-1)] : List Int)) (hc : c ∈ ([0, 1, 2, 0, 1, 2, 3, (-1)] : List Int)) (hd : d ∈ ([0, 1, 2, 0, 1, 2, 3, (-1)] : List Int)) :
    ((impl_AndOf.f a b).bind fun t171 => ((spec_AndOf.f a b).bind fun t172 => (if t171 = t172 then ((impl_OrOf.f a b).bind fun t173 => ((spec_OrOf.f a b).bind fun t174 => (if t173 = t174 then ((impl_NotOf.f a).bind fun t175 => ((spec_NotOf.f a).bind fun t176 => (if t175 = t176 then ((impl_JoinOf.f a b).bind fun t177 => ((spec_JoinOf.f a b).bind fun t178 => (if t177 = t178 then ((impl_IsWithin.f c d).bind fun t179 => ((spec_IsWithin.f c d).bind fun t180 => (if (t179 != t180) = true then (laws_FnKleene.j0 3 a b c d true) else ((impl_TruthText.f a).bind fun t181 => ((spec_TruthText.f a).bind fun t182 => (if t181.toList = t182.toList then ((impl_IsTruth.f a).bind fun t183 => ((spec_IsTruth.f a).bind fun t184 => (laws_FnKleene.j0 3 a b c d (t183 != t184)))) else (laws_FnKleene.j0 3 a b c d true))))))) else (laws_FnKleene.j0 3 a b c d true)))) else (laws_FnKleene.j0 3 a b c d true)))) else (laws_FnKleene.j0 3 a b c d true)))) else (laws_FnKleene.j0 3 a b c d true)))) = some true := by
  have all : ∀ a ∈ ([0, 1, 2, 3, (-1)] : List Int), ∀ b ∈ ([0, 1, 2, 3, (-1)] : List Int), ∀ c ∈ ([0, 1, 2, 3, (-1)] : List Int), ∀ d ∈ ([0, 1, 2, 3, (-1)] : List Int),
    ((impl_AndOf.f a b).bind fun t171 => ((spec_AndOf.f a b).bind fun t172 => (if t171 = t172 then ((impl_OrOf.f a b).bind fun t173 => ((spec_OrOf.f a b).bind fun t174 => (if t173 = t174 then ((impl_NotOf.f a).bind fun t175 => ((spec_NotOf.f a).bind fun t176 => (if t175 = t176 then ((impl_JoinOf.f a b).bind fun t177 => ((spec_JoinOf.f a b).bind fun t178 => (if t177 = t178 then ((impl_IsWithin.f c d).bind fun t179 => ((spec_IsWithin.f c d).bind fun t180 => (if (t179 != t180) = true then (laws_FnKleene.j0 3 a b c d true) else ((impl_TruthText.f a).bind fun t181 => ((spec_TruthText.f a).bind fun t182 => (if t181.toList = t182.toList then ((impl_IsTruth.f a).bind fun t183 => ((spec_IsTruth.f a).bind fun t184 => (laws_FnKleene.j0 3 a b c d (t183 != t184)))) else (laws_FnKleene.j0 3 a b c d true))))))) else (laws_FnKleene.j0 3 a b c d true)))) else (laws_FnKleene.j0 3 a b c d true)))) else (laws_FnKleene.j0 3 a b c d true)))) else (laws_FnKleene.j0 3 a b c d true)))) = some true := by decide +kernel
  have sub : ∀ x ∈ ([0, 1, 2, 0, 1, 2, 3, (-1)] : List Int), x ∈ ([0, 1, 2, 3, (-1)] : List Int) := by decide
  exact all a (sub a ha) b (sub b hb) c (sub c hc) d (sub d hd)

theorem FnKleene : laws_FnKleene.Pure := by
  intro l _
  by_cases c0 : (l.length : Int) > 1048576
  · exact ⟨0, by unfold laws_FnKleene.f laws_big.f; simp [c0]⟩
  obtain ⟨a, b, e1, ha, hb⟩ := ev_l3Two l (by omega)
  obtain ⟨K, hK⟩ := e1
  refine ⟨K + 3, ?_⟩
  have e := hK (K + 3) (by omega)
  dsimp only at e
  unfold laws_FnKleene.f laws_big.f
  rw [decide_eq_false c0]
  simp only [Option.bind_some]
  rw [if_neg (by decide)]
  unfold spec_DrawAndOf.f spec_DrawIsWithin.f
  rw [e]
  simp only [Option.bind_some]
  have m1 : ∀ k x, LeO (laws_FnKleene.j0 3 a b a b x) (laws_FnKleene.j0 (k + 3) a b a b x) := fun k x => by
    have := more_rounds (g := fun n => laws_FnKleene.j0 n a b a b x) (fun n => (laws_FnKleene.mono_l n).1 a b a b x) 3 k
    rwa [Nat.add_comm 3 k] at this
  refine (?_ : LeO _ _) _ (rest K a b a b ha hb ha hb)
  repeat' first
    | exact m1 _ _
    | exact LeO.refl _
    | refine LeO.bind (LeO.refl _) (fun _ => ?_)
    | refine LeO.ite ?_ ?_

end Go.Proofs.Ytfmepkfigdobaaa.Pure.LFnKleene
namespace Go.Proofs.Ytfmepkfigdobaaa.Pure
open Go.Proofs.Ytfmepkfigdobaaa.PFnKleene
theorem FnKleene : laws_FnKleene.Pure := LFnKleene.FnKleene
end Go.Proofs.Ytfmepkfigdobaaa.Pure
