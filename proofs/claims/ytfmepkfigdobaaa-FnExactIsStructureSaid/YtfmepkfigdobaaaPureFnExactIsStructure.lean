/-
  The pure statement of laws.FnExactIsStructure: what the printed functions compute makes the law answer true, for every argument of its kinds (no further condition).
-/
import Derived.Test.YtfmepkfigdobaaaPFnExactIsStructurex4
import Derived.Test.YtfmepkfigdobaaaXPure
namespace Go.Proofs.Ytfmepkfigdobaaa.Pure.LFnExactIsStructure
open Go.RowKit Go.Proofs.Ytfmepkfigdobaaa.PFnExactIsStructure Go.Proofs.YtfmepkfigdobaaaW.PrintWords Go.Proofs.YtfmepkfigdobaaaW.PrintLast Go.Proofs.YtfmepkfigdobaaaX
set_option linter.unusedVariables false
set_option linter.unusedSimpArgs false

theorem in_eq (a b c : Int) : spec_l1In.f a b c = some (decide (b ≤ a) && decide (a ≤ c)) := by
  unfold spec_l1In.f
  by_cases h : b ≤ a <;> simp [h]


theorem wi_eq (a b c : Int) : impl_within.f a b c = some (decide (b ≤ a) && decide (a ≤ c)) := by
  unfold impl_within.f
  by_cases h : b ≤ a <;> simp [h]


theorem szIntS_eq (l : List Int) (a : Int) (h0 : 0 ≤ a) (h1 : a ≤ 1048576) (hl : l.length ≤ 9223372036854775807) : laws_szIntS.f l a = some (if (l.length : Int) ≤ a then a - l.length else -1) := by
  unfold laws_szIntS.f
  rw [w64 (by omega) (by omega)]
  by_cases c : (l.length : Int) ≤ a
  · rw [if_neg (by omega), if_pos c]
  · rw [if_pos (by omega), if_neg c]


theorem ev_toIntS (l : List Int) (h : l.length ≤ 35184372088832) : Ev (fun k => laws_toIntS.f k l) l := by
  have hc := copy_loop l.length (by omega) (fun i => rd l (i : Int)) 0 (fun k ys i => laws_toIntS.l0 k l ys i)
    (fun i ys hi hl => ⟨0, fun k _ => by simp only [laws_toIntS.l0]; rw [if_pos (by omega), if_pos (by omega), if_pos (by omega), Int.toNat_natCast]⟩)
    (fun ys hl => ⟨0, fun k _ => by simp only [laws_toIntS.l0]; rw [if_neg (by omega)]⟩)
  have e : ((List.range l.length).map fun i => rd l ((i : Nat) : Int)) = l := by
    have := map_range_id 0 l
    simpa [rd] using this
  rw [e] at hc
  refine Ev.congr (fun k => ?_) hc
  unfold laws_toIntS.f
  rw [if_pos (by omega), if_pos (by rw [Int.toNat_natCast]; omega), Int.toNat_natCast]


theorem ev_eqIntS (l : List Int) (h : l.length ≤ 9223372036854775807) : Ev (fun k => laws_eqIntS.f k l l) true := by
  have hc := all_true l.length h (fun k i => laws_eqIntS.l0 k l l i) true
    (fun i hi => ⟨0, fun k _ => by simp only [laws_eqIntS.l0]; rw [if_pos (by omega), if_pos (by omega), if_pos (by omega)]; simp only [if_true]⟩)
    ⟨0, fun k _ => by simp only [laws_eqIntS.l0]; rw [if_neg (by omega)]⟩
  refine Ev.congr (fun k => ?_) hc
  unfold laws_eqIntS.f
  rw [if_pos rfl]


def cNode (x : S145) : S123 := ⟨x.f0, x.f1, x.f2, x.f3⟩

theorem szNode_eq (v n : List Int) (b c a : Int) (h0 : 0 ≤ a) (h1 : a ≤ 1048576) (hv : v.length ≤ 9223372036854775807) (hn : n.length ≤ 9223372036854775807) :
    ∃ r, laws_szNode.f v n b c a = some r ∧ (r < 0 ∨ (0 ≤ r ∧ r ≤ a ∧ (v.length : Int) ≤ a ∧ (n.length : Int) ≤ a)) := by
  unfold laws_szNode.f
  rw [szIntS_eq v a h0 h1 hv]
  simp only [Option.bind_some]
  by_cases c : (v.length : Int) ≤ a
  · rw [if_pos c, if_neg (by omega), szIntS_eq n _ (by omega) (by omega) hn]
    simp only [Option.bind_some]
    by_cases c2 : (n.length : Int) ≤ a - v.length
    · rw [if_pos c2, if_neg (by omega)]
      exact ⟨_, rfl, Or.inr (by omega)⟩
    · rw [if_neg c2, if_pos (by omega)]
      exact ⟨_, rfl, Or.inl (by omega)⟩
  · rw [if_neg c, if_pos (by omega)]
    exact ⟨_, rfl, Or.inl (by omega)⟩

theorem ev_szNodeS (l : List S145) (a : Int) (h0 : 0 ≤ a) (h1 : a ≤ 1048576) (hl : l.length ≤ 9223372036854775807) (hs : ∀ x ∈ l, x.f0.length ≤ 9223372036854775807 ∧ x.f1.length ≤ 9223372036854775807) :
    ∃ r, Ev (fun k => laws_szNodeS.f k l a) r ∧ (r < 0 ∨ (0 ≤ r ∧ r ≤ a ∧ (l.length : Int) ≤ a ∧ ∀ x ∈ l, x.f0.length ≤ 1048576 ∧ x.f1.length ≤ 1048576)) := by
  have hw : wrap64 (a - (l.length : Int)) = a - l.length := w64 (by omega) (by omega)
  by_cases c : a - (l.length : Int) < 0
  · exact ⟨-1, Ev.one (fun k => by unfold laws_szNodeS.f; rw [hw, if_pos c]), Or.inl (by omega)⟩
  · obtain ⟨r, hr, he⟩ := loop_ev (σ := Int) l.length (fun k s i => laws_szNodeS.l0 k l s i) (fun i s => 0 ≤ s ∧ s ≤ a - l.length ∧ ∀ j, j < i → (l.getD j z145).f0.length ≤ 1048576 ∧ (l.getD j z145).f1.length ≤ 1048576)
      (fun r => r < 0 ∨ (0 ≤ r ∧ r ≤ a ∧ (l.length : Int) ≤ a ∧ ∀ x ∈ l, x.f0.length ≤ 1048576 ∧ x.f1.length ≤ 1048576))
      (fun i s hi ⟨s0, s1, hj⟩ => by
        have hm := hs _ (getD_mem z145 l i hi)
        have e : rd_T145 l (i : Int) = l.getD i z145 := by unfold rd_T145; rw [Int.toNat_natCast]
        obtain ⟨r, h1', h2'⟩ := szNode_eq (l.getD i z145).f0 (l.getD i z145).f1 (l.getD i z145).f2 (l.getD i z145).f3 s s0 (by omega) hm.1 hm.2
        rcases h2' with h2' | ⟨g0, g1, g2, g3⟩
        · refine Or.inr ⟨-1, Or.inl (by omega), 0, fun k _ => ?_⟩
          simp only [laws_szNodeS.l0]
          rw [if_pos (by omega), if_pos (by omega), e, h1']
          simp only [Option.bind_some]
          rw [if_pos h2']
        · refine Or.inl ⟨r, ⟨g0, by omega, fun j hj' => ?_⟩, 0, fun k _ => ?_⟩
          · by_cases ej : j = i
            · subst ej; omega
            · exact hj j (by omega)
          · simp only [laws_szNodeS.l0]
            rw [if_pos (by omega), if_pos (by omega), e, h1']
            simp only [Option.bind_some]
            rw [if_neg (by omega), up64 (by omega)])
      (fun s ⟨s0, s1, hj⟩ => ⟨s, Or.inr ⟨s0, by omega, by omega, fun x hx => by
        obtain ⟨j, hj1, rfl⟩ := List.getElem_of_mem hx
        have := hj j hj1
        rwa [get_rep _ _ _ hj1] at this⟩, 0, fun k _ => by simp only [laws_szNodeS.l0]; rw [if_neg (by omega)]⟩)
      l.length 0 (a - l.length) (by omega) (by omega) ⟨by omega, by omega, fun j hj => by omega⟩
    exact ⟨r, Ev.congr (fun k => by unfold laws_szNodeS.f; rw [hw, if_neg c]; rfl) he, hr⟩

theorem ev_toNode (v n : List Int) (b c : Int) (hv : v.length ≤ 1048576) (hn : n.length ≤ 1048576) : Ev (fun k => laws_toNode.f k v n b c) (v, n, b, c) := by
  obtain ⟨K, hK⟩ := Evt.and (ev_toIntS v (by omega)) (ev_toIntS n (by omega))
  refine ⟨K, fun k hk => ?_⟩
  obtain ⟨h1, h2⟩ := hK k hk
  dsimp only at h1 h2
  unfold laws_toNode.f
  simp only [h1, h2, Option.bind_some]

theorem ev_toNodeS (l : List S145) (h : l.length ≤ 1048576) (hs : ∀ x ∈ l, x.f0.length ≤ 1048576 ∧ x.f1.length ≤ 1048576) : Ev (fun k => laws_toNodeS.f k l) (l.map cNode) := by
  have hc := copy_loop l.length (by omega) (fun i => cNode (l.getD i z145)) z123 (fun k ys i => laws_toNodeS.l0 k l ys i)
    (fun i ys hi hl => by
      have hm := hs _ (getD_mem z145 l i hi)
      have e : rd_T145 l (i : Int) = l.getD i z145 := by unfold rd_T145; rw [Int.toNat_natCast]
      obtain ⟨K, hK⟩ := ev_toNode (l.getD i z145).f0 (l.getD i z145).f1 (l.getD i z145).f2 (l.getD i z145).f3 hm.1 hm.2
      refine ⟨K, fun k hk => ?_⟩
      have h1 := hK k hk
      dsimp only at h1
      simp only [laws_toNodeS.l0]
      rw [if_pos (by omega), if_pos (by omega), e, h1]
      simp only [Option.bind_some]
      rw [if_pos (by omega), Int.toNat_natCast]
      rfl)
    (fun ys hl => ⟨0, fun k _ => by simp only [laws_toNodeS.l0]; rw [if_neg (by omega)]⟩)
  rw [map_range cNode z145 l] at hc
  refine Ev.congr (fun k => ?_) hc
  unfold laws_toNodeS.f
  rw [if_pos (by omega), if_pos (by rw [Int.toNat_natCast]; omega), Int.toNat_natCast]

theorem ev_eqNodeS (l : List S123) (h : l.length ≤ 1048576) (hs : ∀ x ∈ l, x.f0.length ≤ 1048576 ∧ x.f1.length ≤ 1048576) : Ev (fun k => laws_eqNodeS.f k l l) true := by
  have hc := all_true l.length (by omega) (fun k i => laws_eqNodeS.l0 k l l i) true
    (fun i hi => by
      have hm := hs _ (getD_mem z123 l i hi)
      have e : rd_T123 l (i : Int) = l.getD i z123 := by unfold rd_T123; rw [Int.toNat_natCast]
      obtain ⟨K, hK⟩ := Evt.and (ev_eqIntS (l.getD i z123).f0 (by omega)) (ev_eqIntS (l.getD i z123).f1 (by omega))
      refine ⟨K, fun k hk => ?_⟩
      obtain ⟨h1, h2⟩ := hK k hk
      dsimp only at h1 h2
      simp only [laws_eqNodeS.l0]
      rw [if_pos (by omega), if_pos (by omega), if_pos (by omega), e]
      unfold laws_eqNode.f
      simp only [h1, h2, Option.bind_some, if_true])
    ⟨0, fun k _ => by simp only [laws_eqNodeS.l0]; rw [if_neg (by omega)]⟩
  refine Ev.congr (fun k => ?_) hc
  unfold laws_eqNodeS.f
  rw [if_pos rfl]

theorem ev_szStructure (l : List S145) (n : List Int) (hl : l.length ≤ 9223372036854775807) (hn : n.length ≤ 9223372036854775807) (hs : ∀ x ∈ l, x.f0.length ≤ 9223372036854775807 ∧ x.f1.length ≤ 9223372036854775807) :
    ∃ r, Ev (fun k => laws_szStructure.f k l n 1048576) r ∧ (r < 0 ∨ (0 ≤ r ∧ l.length ≤ 1048576 ∧ n.length ≤ 1048576 ∧ ∀ x ∈ l, x.f0.length ≤ 1048576 ∧ x.f1.length ≤ 1048576)) := by
  obtain ⟨r, ⟨K, hK⟩, hr⟩ := ev_szNodeS l 1048576 (by omega) (by omega) hl hs
  rcases hr with hr | ⟨r0, r1, r2, r3⟩
  · exact ⟨-1, ⟨K, fun k hk => by have g1 := hK k hk; dsimp only at g1 ⊢; unfold laws_szStructure.f; rw [g1]; simp only [Option.bind_some]; rw [if_pos hr]⟩, Or.inl (by omega)⟩
  · by_cases c : (n.length : Int) ≤ r
    · refine ⟨r - n.length, ⟨K, fun k hk => ?_⟩, Or.inr ⟨by omega, by omega, by omega, r3⟩⟩
      have g1 := hK k hk
      dsimp only at g1 ⊢
      unfold laws_szStructure.f
      rw [g1]
      simp only [Option.bind_some]
      rw [if_neg (by omega), szIntS_eq n r r0 (by omega) hn, if_pos c]
      simp only [Option.bind_some]
      rw [if_neg (by omega)]
    · refine ⟨-1, ⟨K, fun k hk => ?_⟩, Or.inl (by omega)⟩
      have g1 := hK k hk
      dsimp only at g1 ⊢
      unfold laws_szStructure.f
      rw [g1]
      simp only [Option.bind_some]
      rw [if_neg (by omega), szIntS_eq n r r0 (by omega) hn, if_neg c]
      simp only [Option.bind_some]
      rw [if_pos (by omega)]

theorem ev_toStructure (l : List S145) (n : List Int) (h : l.length ≤ 1048576) (hn : n.length ≤ 1048576) (hs : ∀ x ∈ l, x.f0.length ≤ 1048576 ∧ x.f1.length ≤ 1048576) : Ev (fun k => laws_toStructure.f k l n) (l.map cNode, n) := by
  obtain ⟨K, hK⟩ := Evt.and (ev_toNodeS l h hs) (ev_toIntS n (by omega))
  refine ⟨K, fun k hk => ?_⟩
  obtain ⟨h1, h2⟩ := hK k hk
  dsimp only at h1 h2
  unfold laws_toStructure.f
  simp only [h1, h2, Option.bind_some]

theorem ev_eqStructure (l : List S123) (n : List Int) (h : l.length ≤ 1048576) (hn : n.length ≤ 1048576) (hs : ∀ x ∈ l, x.f0.length ≤ 1048576 ∧ x.f1.length ≤ 1048576) : Ev (fun k => laws_eqStructure.f k l n l n) true := by
  obtain ⟨K, hK⟩ := Evt.and (ev_eqNodeS l h hs) (ev_eqIntS n (by omega))
  refine ⟨K, fun k hk => ?_⟩
  obtain ⟨h1, h2⟩ := hK k hk
  dsimp only at h1 h2
  unfold laws_eqStructure.f
  simp only [h1, h2, Option.bind_some, if_true]

theorem small_map {l : List S145} (hs : ∀ x ∈ l, x.f0.length ≤ 1048576 ∧ x.f1.length ≤ 1048576) : ∀ x ∈ l.map cNode, x.f0.length ≤ 1048576 ∧ x.f1.length ≤ 1048576 := by
  intro x hx
  obtain ⟨y, hy, rfl⟩ := List.mem_map.mp hx
  exact hs y hy


/-- all are truth values -/
def truths (l : List Int) : Bool := decide (∀ i : Nat, i < l.length → 0 ≤ rd l (i : Int) ∧ rd l (i : Int) ≤ 2)

theorem isT (a : Int) : spec_IsTruth.f a = some (decide (0 ≤ a ∧ a ≤ 2)) := by
  unfold spec_IsTruth.f
  rw [in_eq]
  simp only [Option.bind_some, Bool.decide_and]

theorem isT' (a : Int) : impl_IsTruth.f a = some (decide (0 ≤ a ∧ a ≤ 2)) := by
  unfold impl_IsTruth.f
  rw [wi_eq]
  simp only [Option.bind_some, Bool.decide_and]

theorem ev_specTruths (l : List Int) (h : l.length ≤ 1099511627776) : Ev (fun k => spec_l12Truths.f k l) (truths l) := by
  have hc := all_loop l.length (by omega) (fun i => 0 ≤ rd l (i : Int) ∧ rd l (i : Int) ≤ 2) (fun k i => spec_l12Truths.l0 k l i) true false
    (fun i hi hT => ⟨0, fun k _ => by simp only [spec_l12Truths.l0]; rw [if_pos (by omega), if_pos (by omega), isT, decide_eq_true hT]; simp only [Option.bind_some, if_true]⟩)
    (fun i hi hT => ⟨0, fun k _ => by simp only [spec_l12Truths.l0]; rw [if_pos (by omega), if_pos (by omega), isT, decide_eq_false hT]; simp only [Option.bind_some]; rw [if_neg (by decide)]⟩)
    ⟨0, fun k _ => by simp only [spec_l12Truths.l0]; rw [if_neg (by omega)]⟩ (truths l) (by rw [if_and_false, Bool.and_true]; rfl)
  exact Ev.congr (fun k => rfl) hc

theorem ev_areTruths (l : List Int) (h : l.length ≤ 1099511627776) : Ev (fun k => impl_areTruths.f k l) (truths l) := by
  obtain ⟨r, ⟨K, hK⟩, hr⟩ := index_loop l.length (by omega) (fun i => 0 ≤ rd l (i : Int) ∧ rd l (i : Int) ≤ 2) (fun k i => slices_IndexFunc_int_int_areTruths_1.l0 k l (l.length : Int) i)
    (fun i hi hT => ⟨0, fun k _ => by simp only [slices_IndexFunc_int_int_areTruths_1.l0]; rw [if_pos (by omega), if_pos (by omega), if_pos (by omega)]; simp only [impl_areTruths_1.f, isT', decide_eq_true hT, Option.bind_some]; rw [if_neg (by decide)]⟩)
    (fun i hi hT => ⟨0, fun k _ => by simp only [slices_IndexFunc_int_int_areTruths_1.l0]; rw [if_pos (by omega), if_pos (by omega), if_pos (by omega)]; simp only [impl_areTruths_1.f, isT', decide_eq_false hT, Option.bind_some]; rw [if_pos (by decide)]⟩)
    ⟨0, fun k _ => by simp only [slices_IndexFunc_int_int_areTruths_1.l0]; rw [if_neg (by omega)]⟩
  refine ⟨K, fun k hk => ?_⟩
  have g := hK k hk
  dsimp only at g ⊢
  unfold impl_areTruths.f slices_ContainsFunc_int_int_areTruths_1.f slices_IndexFunc_int_int_areTruths_1.f
  rw [g]
  simp only [Option.bind_some, hr, Bool.not_not]
  rfl

/-- a node of so many variables -/
def nodeB (a : Int) (x : S123) : Bool := decide ((x.f0.length : Int) = a) && (decide ((x.f1.length : Int) = a) && (truths x.f0 && (truths x.f1 && (decide (0 ≤ x.f2 ∧ x.f2 ≤ 2) && decide (0 ≤ x.f3 ∧ x.f3 ≤ 1)))))

theorem rdN (l : List S123) (i : Nat) : rd_T123 l (i : Int) = l.getD i z123 := by unfold rd_T123; rw [Int.toNat_natCast]

theorem ev_captured (a : Int) (x : S123) (h0 : x.f0.length ≤ 1048576) (h1 : x.f1.length ≤ 1048576) : Ev (fun k => impl_IsStructure_1_captured.f k x.f0 x.f1 x.f2 x.f3 a) (!(nodeB a x)) := by
  obtain ⟨K, hK⟩ := Evt.and (ev_areTruths x.f0 (by omega)) (ev_areTruths x.f1 (by omega))
  refine ⟨K, fun k hk => ?_⟩
  obtain ⟨g1, g2⟩ := hK k hk
  dsimp only at g1 g2 ⊢
  unfold impl_IsStructure_1_captured.f nodeB
  rw [g1, g2]
  simp only [Option.bind_some, isT']
  by_cases c1 : (x.f0.length : Int) = a <;> by_cases c2 : (x.f1.length : Int) = a <;> by_cases c3 : truths x.f0 = true <;> by_cases c4 : truths x.f1 = true <;> by_cases c5 : 0 ≤ x.f2 ∧ x.f2 ≤ 2 <;> simp only [c1, c2, c3, c4, c5, if_true, if_false, decide_true, decide_false, Bool.true_and, Bool.false_and, Bool.not_false]
  all_goals first | (rw [if_pos (by simp)]; done) | (simp; done) | skip
  by_cases c6 : x.f3 = 0
  · rw [if_pos c6, c6]; simp
  · rw [if_neg c6]
    by_cases c7 : x.f3 = 1
    · rw [c7]; simp
    · have : ¬ (0 ≤ x.f3 ∧ x.f3 ≤ 1) := by omega
      rw [decide_eq_false this]
      simp [c7]

def nodesB (a : Int) (l : List S123) : Bool := decide (∀ i : Nat, i < l.length → nodeB a (l.getD i z123) = true)

/-- all that isn't asked of a node -/
def restB (a : Int) (l : List S123) (n : List Int) : Bool := (decide (1 ≤ a) && decide (a ≤ 4)) && (decide ((l.length : Int) ≤ 10) && (decide ((n.length : Int) = wrap64 ((l.length : Int) * (l.length : Int))) && truths n))

theorem ev_specIsStructure (a : Int) (l : List S123) (n : List Int) (hl : l.length ≤ 1048576) (hn : n.length ≤ 1048576) (hs : ∀ x ∈ l, x.f0.length ≤ 1048576 ∧ x.f1.length ≤ 1048576) : Ev (fun k => spec_IsStructure.f k a l n) (nodesB a l && restB a l n) := by
  obtain ⟨K, hK⟩ := ev_specTruths n (by omega)
  have hc := all_loop l.length (by omega) (fun i => nodeB a (l.getD i z123) = true) (fun k i => spec_IsStructure.l0 k a (l.length : Int) i l n) (restB a l n) false
    (fun i hi hT => by
      have hm := hs _ (getD_mem z123 l i hi)
      obtain ⟨K1, h1⟩ := Evt.and (ev_specTruths (l.getD i z123).f0 (by omega)) (ev_specTruths (l.getD i z123).f1 (by omega))
      refine ⟨K1, fun k hk => ?_⟩
      obtain ⟨g1, g2⟩ := h1 k hk
      dsimp only at g1 g2
      unfold nodeB at hT
      simp only [Bool.and_eq_true, decide_eq_true_eq] at hT
      obtain ⟨t1, t2, t3, t4, t5, t6⟩ := hT
      simp only [spec_IsStructure.l0]
      rw [if_pos (by omega), if_pos (by omega), if_pos (by omega), rdN, if_pos t1, if_pos t2, g1, g2, isT, in_eq, t3, t4, decide_eq_true t5]
      simp only [Option.bind_some, if_true, ← Bool.decide_and]
      rw [if_pos (decide_eq_true t6)])
    (fun i hi hT => by
      have hm := hs _ (getD_mem z123 l i hi)
      obtain ⟨K1, h1⟩ := Evt.and (ev_specTruths (l.getD i z123).f0 (by omega)) (ev_specTruths (l.getD i z123).f1 (by omega))
      refine ⟨K1, fun k hk => ?_⟩
      obtain ⟨g1, g2⟩ := h1 k hk
      dsimp only at g1 g2
      simp only [spec_IsStructure.l0]
      rw [if_pos (by omega), if_pos (by omega), if_pos (by omega), rdN]
      unfold nodeB at hT
      generalize l.getD i z123 = x at *
      by_cases c1 : (x.f0.length : Int) = a
      · rw [if_pos c1]
        by_cases c2 : (x.f1.length : Int) = a
        · rw [if_pos c2, g1, g2, isT, in_eq]
          simp only [Option.bind_some]
          by_cases c3 : truths x.f0 = true
          · rw [if_pos c3]
            by_cases c4 : truths x.f1 = true
            · rw [if_pos c4]
              by_cases c5 : 0 ≤ x.f2 ∧ x.f2 ≤ 2
              · rw [if_pos (decide_eq_true c5)]
                rw [decide_eq_true c1, decide_eq_true c2, c3, c4, decide_eq_true c5] at hT
                simp only [Bool.true_and] at hT
                rw [← Bool.decide_and, if_neg hT]
              · rw [decide_eq_false c5, if_neg (by decide)]
            · rw [if_neg c4]
          · rw [if_neg c3]
        · rw [if_neg c2]
      · rw [if_neg c1])
    ⟨K, fun k hk => by
      have g := hK k hk
      dsimp only at g
      simp only [spec_IsStructure.l0]
      rw [if_neg (by omega), in_eq, g]
      unfold restB
      simp only [Option.bind_some]
      by_cases c1 : (decide ((1 : Int) ≤ a) && decide (a ≤ 4)) = true <;> by_cases c2 : (l.length : Int) ≤ 10 <;> by_cases c3 : (n.length : Int) = wrap64 ((l.length : Int) * (l.length : Int)) <;> simp [c1, c2, c3]⟩
    (nodesB a l && restB a l n) (by
      unfold nodesB
      by_cases c : ∀ i : Nat, i < l.length → nodeB a (l.getD i z123) = true
      · rw [if_pos c, decide_eq_true c, Bool.true_and]
      · rw [if_neg c, decide_eq_false c, Bool.false_and])
  exact Ev.congr (fun k => rfl) hc

theorem ev_implIsStructure (a : Int) (l : List S123) (n : List Int) (hl : l.length ≤ 1048576) (hn : n.length ≤ 1048576) (hs : ∀ x ∈ l, x.f0.length ≤ 1048576 ∧ x.f1.length ≤ 1048576) : Ev (fun k => impl_IsStructure.f k a l n) (nodesB a l && restB a l n) := by
  obtain ⟨r, hi, hr⟩ := index_loop l.length (by omega) (fun i => nodeB a (l.getD i z123) = true) (fun k i => impl_Node_IsStructure_1_146.l0 k l (l.length : Int) i a)
    (fun i hi hT => by
      have hm := hs _ (getD_mem z123 l i hi)
      obtain ⟨K1, h1⟩ := ev_captured a (l.getD i z123) hm.1 hm.2
      refine ⟨K1, fun k hk => ?_⟩
      have g := h1 k hk
      dsimp only at g
      simp only [impl_Node_IsStructure_1_146.l0]
      rw [if_pos (by omega), if_pos (by omega), if_pos (by omega), rdN, g, hT]
      simp only [Option.bind_some]
      rw [if_neg (by decide)])
    (fun i hi hT => by
      have hm := hs _ (getD_mem z123 l i hi)
      obtain ⟨K1, h1⟩ := ev_captured a (l.getD i z123) hm.1 hm.2
      refine ⟨K1, fun k hk => ?_⟩
      have g := h1 k hk
      dsimp only at g
      simp only [impl_Node_IsStructure_1_146.l0]
      rw [if_pos (by omega), if_pos (by omega), if_pos (by omega), rdN, g, Bool.eq_false_iff.mpr hT]
      simp only [Option.bind_some]
      rw [if_pos (by decide)])
    ⟨0, fun k _ => by simp only [impl_Node_IsStructure_1_146.l0]; rw [if_neg (by omega)]⟩
  obtain ⟨K, hK⟩ := Evt.and hi (ev_areTruths n (by omega))
  refine ⟨K, fun k hk => ?_⟩
  obtain ⟨g1, g2⟩ := hK k hk
  dsimp only at g1 g2 ⊢
  unfold impl_IsStructure.f impl_Node_IsStructure_1_114.f impl_Node_IsStructure_1_146.f
  rw [g1, g2, wi_eq]
  simp only [Option.bind_some, hr]
  unfold restB nodesB
  by_cases c1 : (decide ((1 : Int) ≤ a) && decide (a ≤ 4)) = true
  · rw [if_pos c1, c1, Bool.true_and]
    by_cases c2 : (l.length : Int) ≤ 10
    · rw [if_neg (by omega), decide_eq_true c2, Bool.true_and]
      by_cases c3 : (n.length : Int) = wrap64 ((l.length : Int) * (l.length : Int))
      · rw [if_pos c3, decide_eq_true c3, Bool.true_and]
        by_cases c4 : truths n = true
        · rw [if_pos c4, c4, Bool.and_true, Bool.not_not]
        · rw [if_neg c4, Bool.eq_false_iff.mpr c4, Bool.and_false]
      · rw [if_neg c3, decide_eq_false c3, Bool.false_and, Bool.and_false]
    · rw [if_pos (by omega), decide_eq_false c2, Bool.false_and, Bool.and_false]
  · rw [if_neg c1, Bool.eq_false_iff.mpr c1, Bool.false_and, Bool.and_false]

theorem FnExactIsStructure : laws_FnExactIsStructure.Pure := by
  intro a l n _ hB
  have hm : maxLen = 9223372036854775807 := rfl
  obtain ⟨r, e1, hr⟩ := ev_szStructure l n (by have := hB.1.1; dsimp only at this; omega) (by have := hB.2.1; dsimp only at this; omega) (fun x hx => by
    have := hB.1.2 x hx
    exact ⟨by have := this.1.1; omega, by have := this.2.1.1; omega⟩)
  rcases hr with hr | ⟨r0, hl, hn, hs⟩
  · obtain ⟨k, h1⟩ := Evt.ex e1
    dsimp only at h1
    exact ⟨k, by unfold laws_FnExactIsStructure.f; rw [h1]; simp only [Option.bind_some]; rw [if_pos hr]⟩
  · have hl' : (l.map cNode).length ≤ 1048576 := by simpa using hl
    obtain ⟨k, h1, h2, h3, h4, h5⟩ := (Evt.and e1 (Evt.and (ev_toStructure l n hl hn hs) (Evt.and (ev_eqStructure (l.map cNode) n hl' hn (small_map hs)) (Evt.and (ev_specIsStructure a (l.map cNode) n hl' hn (small_map hs)) (ev_implIsStructure a (l.map cNode) n hl' hn (small_map hs)))))).ex
    dsimp only at h1 h2 h3 h4 h5
    refine ⟨k, ?_⟩
    unfold laws_FnExactIsStructure.f
    rw [h1]
    simp only [Option.bind_some]
    rw [if_neg (by omega)]
    simp only [h2, h3, h4, h5, Option.bind_some, if_true]
    simp

end Go.Proofs.Ytfmepkfigdobaaa.Pure.LFnExactIsStructure
namespace Go.Proofs.Ytfmepkfigdobaaa.Pure
open Go.Proofs.Ytfmepkfigdobaaa.PFnExactIsStructure
theorem FnExactIsStructure : laws_FnExactIsStructure.Pure := LFnExactIsStructure.FnExactIsStructure
end Go.Proofs.Ytfmepkfigdobaaa.Pure
