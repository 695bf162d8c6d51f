/-
  The pure statement of laws.FnExactEqualProgram: what the printed functions compute makes the law answer true, for every argument of its kinds (no further condition).
-/
import Derived.Test.YtfmepkfigdobaaaPFnExactEqualProgramx6
import Derived.Test.YtfmepkfigdobaaaXPure
namespace Go.Proofs.Ytfmepkfigdobaaa.Pure.LFnExactEqualProgram
open Go.RowKit Go.Proofs.Ytfmepkfigdobaaa.PFnExactEqualProgram Go.Proofs.YtfmepkfigdobaaaW.PrintWords Go.Proofs.YtfmepkfigdobaaaW.PrintLast Go.Proofs.YtfmepkfigdobaaaX
set_option linter.unusedVariables false
set_option linter.unusedSimpArgs false

def wS (l : List ByteArray) : Int := l.length + ((l.map fun s => (s.size : Int)).foldr (· + ·) 0)

theorem sums_nonneg (l : List ByteArray) : 0 ≤ (l.map fun s => (s.size : Int)).foldr (· + ·) 0 := by
  induction l with
  | nil => simp
  | cons a l ih => simp only [List.map_cons, List.foldr_cons]; omega

theorem sums_take (l : List ByteArray) (i : Nat) (h : i < l.length) : ((l.take (i + 1)).map fun s => (s.size : Int)).foldr (· + ·) 0 = ((l.take i).map fun s => (s.size : Int)).foldr (· + ·) 0 + ((rdOf ByteArray.empty l (i : Int)).size : Int) := by
  rw [rdOf_at _ _ _ h]
  induction l generalizing i with
  | nil => simp at h
  | cons a l ih =>
    cases i with
    | zero => simp
    | succ i =>
      simp only [List.take_succ_cons, List.map_cons, List.foldr_cons, List.getElem_cons_succ]
      rw [ih i (by simpa using h)]
      omega

theorem sums_le (l : List ByteArray) (i : Nat) : ((l.take i).map fun s => (s.size : Int)).foldr (· + ·) 0 ≤ (l.map fun s => (s.size : Int)).foldr (· + ·) 0 := by
  induction l generalizing i with
  | nil => simp
  | cons a l ih =>
    cases i with
    | zero => simp only [List.take_zero, List.map_nil, List.foldr_nil]; exact sums_nonneg _
    | succ i => simp only [List.take_succ_cons, List.map_cons, List.foldr_cons]; have := ih i; omega

/-- What is left of a, or -1. -/
theorem ev_szStringS (l : List ByteArray) (a : Int) (h0 : 0 ≤ a) (h1 : a ≤ 1048576) (hl : l.length ≤ 9223372036854775807) (hs : ∀ s ∈ l, s.size ≤ 9223372036854775807) :
    Ev (fun k => laws_szStringS.f k l a) (if wS l ≤ a then a - wS l else -1) := by
  have hn := sums_nonneg l
  have hw : wrap64 (a - (l.length : Int)) = a - l.length := w64 (by omega) (by omega)
  by_cases c : a - (l.length : Int) < 0
  · have e : (if wS l ≤ a then a - wS l else -1) = -1 := if_neg (by unfold wS; omega)
    rw [e]
    exact Ev.one (fun k => by unfold laws_szStringS.f; rw [hw, if_pos c])
  · have hc := loop_is (σ := Int) l.length (fun k s i => laws_szStringS.l0 k l s i) (fun i s => s = a - l.length - ((l.take i).map fun s => (s.size : Int)).foldr (· + ·) 0 ∧ 0 ≤ s) (if wS l ≤ a then a - wS l else -1)
      (fun i s hi ⟨hs', hs0⟩ => by
        have ht := sums_take l i hi
        have hsz : (rdOf ByteArray.empty l (i : Int)).size ≤ 9223372036854775807 := by
          rw [rdOf_at _ _ _ hi]
          exact hs _ (List.getElem_mem hi)
        have hs2 : s ≤ 1048576 := by have := sums_nonneg (l.take i); omega
        have hw2 : wrap64 (s - ((rdOf ByteArray.empty l (i : Int)).size : Int)) = s - (rdOf ByteArray.empty l (i : Int)).size := w64 (by omega) (by omega)
        by_cases c2 : s - ((rdOf ByteArray.empty l (i : Int)).size : Int) < 0
        · refine Or.inr ⟨0, fun k _ => ?_⟩
          simp only [laws_szStringS.l0]
          rw [if_pos (by omega), if_pos (by omega), hw2, if_pos c2, if_neg]
          have := sums_le l (i + 1)
          unfold wS
          omega
        · refine Or.inl ⟨s - (rdOf ByteArray.empty l (i : Int)).size, ⟨by omega, by omega⟩, 0, fun k _ => ?_⟩
          simp only [laws_szStringS.l0]
          rw [if_pos (by omega), if_pos (by omega), hw2, if_neg c2, up64 (by omega)])
      (fun s ⟨hs', hs0⟩ => ⟨0, fun k _ => by
        rw [List.take_length] at hs'
        simp only [laws_szStringS.l0]
        rw [if_neg (by omega), if_pos (by unfold wS; omega)]
        congr 1
        unfold wS
        omega⟩)
      (a - l.length) ⟨by simp, by omega⟩
    refine Ev.congr (fun k => ?_) hc
    unfold laws_szStringS.f
    rw [hw, if_neg c]


theorem ev_toStringS (l : List ByteArray) (h : l.length ≤ 17592186044416) : Ev (fun k => laws_toStringS.f k l) l := by
  have hc := copy_loop l.length (by omega) (fun i => rdOf ByteArray.empty l (i : Int)) (⟨#[]⟩ : ByteArray) (fun k ys i => laws_toStringS.l0 k l ys i)
    (fun i ys hi hl => ⟨0, fun k _ => by simp only [laws_toStringS.l0]; rw [if_pos (by omega), if_pos (by omega), if_pos (by omega), Int.toNat_natCast]⟩)
    (fun ys hl => ⟨0, fun k _ => by simp only [laws_toStringS.l0]; rw [if_neg (by omega)]⟩)
  have e : ((List.range l.length).map fun i => rdOf ByteArray.empty l ((i : Nat) : Int)) = l := by
    have := map_range_id ByteArray.empty l
    simpa [rdOf] using this
  rw [e] at hc
  refine Ev.congr (fun k => ?_) hc
  unfold laws_toStringS.f
  rw [if_pos (by omega), if_pos (by rw [Int.toNat_natCast]; omega), Int.toNat_natCast]


theorem ev_eqStringS (l : List ByteArray) (h : l.length ≤ 9223372036854775807) : Ev (fun k => laws_eqStringS.f k l l) true := by
  have hc := all_true l.length h (fun k i => laws_eqStringS.l0 k l l i) true
    (fun i hi => ⟨0, fun k _ => by simp only [laws_eqStringS.l0]; rw [if_pos (by omega), if_pos (by omega), if_pos (by omega)]; simp only [if_true]⟩)
    ⟨0, fun k _ => by simp only [laws_eqStringS.l0]; rw [if_neg (by omega)]⟩
  refine Ev.congr (fun k => ?_) hc
  unfold laws_eqStringS.f
  rw [if_pos rfl]


def cEdge (x : S157) : S134 := ⟨x.f0, x.f1, (⟨x.f2.f0, x.f2.f1, x.f2.f2⟩ : S71)⟩

theorem szEdge_eq (p q r : Int) (s t : ByteArray) (a : Int) (h0 : 0 ≤ a) (h1 : a ≤ 1048576) (hs : s.size ≤ 9223372036854775807) (ht : t.size ≤ 9223372036854775807) :
    ∃ z, laws_szEdge.f p q r s t a = some z ∧ (z < 0 ∨ (0 ≤ z ∧ z ≤ a ∧ (s.size : Int) ≤ a ∧ (t.size : Int) ≤ a)) := by
  unfold laws_szEdge.f laws_szStmt.f
  rw [w64 (x := a - (s.size : Int)) (by omega) (by omega)]
  by_cases c : a - (s.size : Int) < 0
  · rw [if_pos c]
    exact ⟨-1, by simp, Or.inl (by omega)⟩
  · rw [if_neg c, w64 (by omega) (by omega)]
    by_cases c2 : a - (s.size : Int) - (t.size : Int) < 0
    · rw [if_pos c2]
      exact ⟨-1, by simp, Or.inl (by omega)⟩
    · rw [if_neg c2]
      simp only [Option.bind_some]
      rw [if_neg c2]
      exact ⟨_, rfl, Or.inr (by omega)⟩

theorem ev_szEdgeS (l : List S157) (a : Int) (h0 : 0 ≤ a) (h1 : a ≤ 1048576) (hl : l.length ≤ 9223372036854775807) (hs : ∀ x ∈ l, x.f2.f1.size ≤ 9223372036854775807 ∧ x.f2.f2.size ≤ 9223372036854775807) :
    ∃ r, Ev (fun k => laws_szEdgeS.f k l a) r ∧ (r < 0 ∨ (0 ≤ r ∧ r ≤ a ∧ (l.length : Int) ≤ a ∧ ∀ x ∈ l, x.f2.f1.size ≤ 1048576 ∧ x.f2.f2.size ≤ 1048576)) := by
  have hw : wrap64 (a - (l.length : Int)) = a - l.length := w64 (by omega) (by omega)
  by_cases c : a - (l.length : Int) < 0
  · exact ⟨-1, Ev.one (fun k => by unfold laws_szEdgeS.f; rw [hw, if_pos c]), Or.inl (by omega)⟩
  · obtain ⟨r, hr, he⟩ := loop_ev (σ := Int) l.length (fun k s i => laws_szEdgeS.l0 k l s i) (fun i s => 0 ≤ s ∧ s ≤ a - l.length ∧ ∀ j, j < i → (l.getD j z157).f2.f1.size ≤ 1048576 ∧ (l.getD j z157).f2.f2.size ≤ 1048576)
      (fun r => r < 0 ∨ (0 ≤ r ∧ r ≤ a ∧ (l.length : Int) ≤ a ∧ ∀ x ∈ l, x.f2.f1.size ≤ 1048576 ∧ x.f2.f2.size ≤ 1048576))
      (fun i s hi ⟨s0, s1, hj⟩ => by
        have hm := hs _ (getD_mem z157 l i hi)
        have e : rd_T157 l (i : Int) = l.getD i z157 := by unfold rd_T157; rw [Int.toNat_natCast]
        obtain ⟨r, h1', h2'⟩ := szEdge_eq (l.getD i z157).f0 (l.getD i z157).f1 (l.getD i z157).f2.f0 (l.getD i z157).f2.f1 (l.getD i z157).f2.f2 s s0 (by omega) hm.1 hm.2
        rcases h2' with h2' | ⟨g0, g1, g2, g3⟩
        · refine Or.inr ⟨-1, Or.inl (by omega), 0, fun k _ => ?_⟩
          simp only [laws_szEdgeS.l0]
          rw [if_pos (by omega), if_pos (by omega), e, h1']
          simp only [Option.bind_some]
          rw [if_pos h2']
        · refine Or.inl ⟨r, ⟨g0, by omega, fun j hj' => ?_⟩, 0, fun k _ => ?_⟩
          · by_cases ej : j = i
            · subst ej; omega
            · exact hj j (by omega)
          · simp only [laws_szEdgeS.l0]
            rw [if_pos (by omega), if_pos (by omega), e, h1']
            simp only [Option.bind_some]
            rw [if_neg (by omega), up64 (by omega)])
      (fun s ⟨s0, s1, hj⟩ => ⟨s, Or.inr ⟨s0, by omega, by omega, fun x hx => by
        obtain ⟨j, hj1, rfl⟩ := List.getElem_of_mem hx
        have := hj j hj1
        rwa [get_rep _ _ _ hj1] at this⟩, 0, fun k _ => by simp only [laws_szEdgeS.l0]; rw [if_neg (by omega)]⟩)
      l.length 0 (a - l.length) (by omega) (by omega) ⟨by omega, by omega, fun j hj => by omega⟩
    exact ⟨r, Ev.congr (fun k => by unfold laws_szEdgeS.f; rw [hw, if_neg c]; rfl) he, hr⟩

theorem ev_toEdgeS (l : List S157) (h : l.length ≤ 1048576) : Ev (fun k => laws_toEdgeS.f k l) (l.map cEdge) := by
  have hc := copy_loop l.length (by omega) (fun i => cEdge (l.getD i z157)) z134 (fun k ys i => laws_toEdgeS.l0 k l ys i)
    (fun i ys hi hl => by
      have e : rd_T157 l (i : Int) = l.getD i z157 := by unfold rd_T157; rw [Int.toNat_natCast]
      refine ⟨0, fun k hk => ?_⟩
      simp only [laws_toEdgeS.l0]
      rw [if_pos (by omega), if_pos (by omega), e]
      simp only [laws_toEdge.f, laws_toStmt.f, Option.bind_some]
      rw [if_pos (by omega), Int.toNat_natCast]
      rfl)
    (fun ys hl => ⟨0, fun k _ => by simp only [laws_toEdgeS.l0]; rw [if_neg (by omega)]⟩)
  rw [map_range cEdge z157 l] at hc
  refine Ev.congr (fun k => ?_) hc
  unfold laws_toEdgeS.f
  rw [if_pos (by omega), if_pos (by rw [Int.toNat_natCast]; omega), Int.toNat_natCast]

theorem ev_eqEdgeS (l : List S134) (h : l.length ≤ 1048576) : Ev (fun k => laws_eqEdgeS.f k l l) true := by
  have hc := all_true l.length (by omega) (fun k i => laws_eqEdgeS.l0 k l l i) true
    (fun i hi => by
      refine ⟨0, fun k hk => ?_⟩
      simp only [laws_eqEdgeS.l0]
      rw [if_pos (by omega), if_pos (by omega), if_pos (by omega)]
      simp only [laws_eqEdge.f, laws_eqStmt.f, Option.bind_some, if_true])
    ⟨0, fun k _ => by simp only [laws_eqEdgeS.l0]; rw [if_neg (by omega)]⟩
  refine Ev.congr (fun k => ?_) hc
  unfold laws_eqEdgeS.f
  rw [if_pos rfl]

theorem ev_szProgram (v : List ByteArray) (p : Int) (l : List S157) (a : Int) (h0 : 0 ≤ a) (h1 : a ≤ 1048576) (hv : v.length ≤ 9223372036854775807) (hvs : ∀ s ∈ v, s.size ≤ 9223372036854775807) (hl : l.length ≤ 9223372036854775807) (hs : ∀ x ∈ l, x.f2.f1.size ≤ 9223372036854775807 ∧ x.f2.f2.size ≤ 9223372036854775807) :
    ∃ r, Ev (fun k => laws_szProgram.f k v p l a) r ∧ (r < 0 ∨ (0 ≤ r ∧ r ≤ a ∧ wS v ≤ a ∧ v.length ≤ 1048576 ∧ l.length ≤ 1048576 ∧ ∀ x ∈ l, x.f2.f1.size ≤ 1048576 ∧ x.f2.f2.size ≤ 1048576)) := by
  obtain ⟨K, hK⟩ := ev_szStringS v a h0 h1 hv hvs
  have hn := sums_nonneg v
  by_cases c : wS v ≤ a
  · rw [if_pos c] at hK
    have hvl : (v.length : Int) ≤ a := by unfold wS at c; omega
    have hw0 : 0 ≤ wS v := by unfold wS; omega
    obtain ⟨r, ⟨K', hK'⟩, hr⟩ := ev_szEdgeS l (a - wS v) (by omega) (by omega) hl hs
    rcases hr with hr | ⟨r0, r1, r2, r3⟩
    · refine ⟨-1, ⟨K + K', fun k hk => ?_⟩, Or.inl (by omega)⟩
      have g1 := hK k (by omega)
      have g2 := hK' k (by omega)
      dsimp only at g1 g2 ⊢
      unfold laws_szProgram.f
      rw [g1]
      simp only [Option.bind_some]
      rw [if_neg (by omega), g2]
      simp only [Option.bind_some]
      rw [if_pos hr]
    · refine ⟨r, ⟨K + K', fun k hk => ?_⟩, Or.inr ⟨r0, by omega, c, by omega, by omega, r3⟩⟩
      have g1 := hK k (by omega)
      have g2 := hK' k (by omega)
      dsimp only at g1 g2 ⊢
      unfold laws_szProgram.f
      rw [g1]
      simp only [Option.bind_some]
      rw [if_neg (by omega), g2]
      simp only [Option.bind_some]
      rw [if_neg (by omega)]
  · rw [if_neg c] at hK
    refine ⟨-1, ⟨K, fun k hk => ?_⟩, Or.inl (by omega)⟩
    have g1 := hK k hk
    dsimp only at g1 ⊢
    unfold laws_szProgram.f
    rw [g1]
    rfl

theorem ev_toProgram (v : List ByteArray) (p : Int) (l : List S157) (hv : v.length ≤ 1048576) (hl : l.length ≤ 1048576) : Ev (fun k => laws_toProgram.f k v p l) (v, p, l.map cEdge) := by
  obtain ⟨K, hK⟩ := Evt.and (ev_toStringS v (by omega)) (ev_toEdgeS l hl)
  refine ⟨K, fun k hk => ?_⟩
  obtain ⟨h1, h2⟩ := hK k hk
  dsimp only at h1 h2
  unfold laws_toProgram.f
  simp only [h1, h2, Option.bind_some]


theorem ev_eqProgram (v : List ByteArray) (p : Int) (l : List S134) (hv : v.length ≤ 1048576) (hl : l.length ≤ 1048576) : Ev (fun k => laws_eqProgram.f k v p l v p l) true := by
  obtain ⟨K, hK⟩ := Evt.and (ev_eqStringS v (by omega)) (ev_eqEdgeS l hl)
  refine ⟨K, fun k hk => ?_⟩
  obtain ⟨h1, h2⟩ := hK k hk
  dsimp only at h1 h2
  unfold laws_eqProgram.f
  simp only [h1, h2, Option.bind_some, if_true]


/-- two edges are one, as the program asks it -/
def sameE (x y : S134) : Bool := !(!((x.f0) == (y.f0)) || (!((x.f1) == (y.f1)) || ((!((x.f2.f0) == (y.f2.f0)) || (!(((x.f2.f1).toList) == ((y.f2.f1).toList)) || (!(((x.f2.f2).toList) == ((y.f2.f2).toList))))))))

theorem rdE (l : List S134) (i : Nat) : rd_T134 l (i : Int) = l.getD i z134 := by unfold rd_T134; rw [Int.toNat_natCast]

theorem rdB (l : List ByteArray) (i : Nat) : rdOf ByteArray.empty l (i : Int) = l.getD i ByteArray.empty := by unfold rdOf; rw [Int.toNat_natCast]

def samesE (l l' : List S134) : Bool := decide (∀ i : Nat, i < l.length → sameE (l.getD i z134) (l'.getD i z134) = true)

def samesB (v v' : List ByteArray) : Bool := decide (∀ i : Nat, i < v.length → (v.getD i ByteArray.empty).toList = (v'.getD i ByteArray.empty).toList)

theorem ev_implEdges (l l' : List S134) (h : l.length ≤ 1048576) : Ev (fun k => impl_Edge.f k l l') (decide ((l.length : Int) = l'.length) && samesE l l') := by
  by_cases c : (l.length : Int) = (l'.length : Int)
  · have hc := all_loop l.length (by omega) (fun i => sameE (l.getD i z134) (l'.getD i z134) = true) (fun k i => impl_Edge.l0 k l l' (l.length : Int) i) true false
      (fun i hi hT => ⟨0, fun k _ => by
        simp only [impl_Edge.l0]
        rw [if_pos (by omega), if_pos (by omega), if_pos (by omega), if_pos (by omega), rdE, rdE, if_neg]
        unfold sameE at hT
        rw [Bool.not_eq_true'] at hT
        rw [hT]
        decide⟩)
      (fun i hi hT => ⟨0, fun k _ => by
        simp only [impl_Edge.l0]
        rw [if_pos (by omega), if_pos (by omega), if_pos (by omega), if_pos (by omega), rdE, rdE, if_pos]
        unfold sameE at hT
        rw [Bool.not_eq_true', Bool.not_eq_false] at hT
        exact hT⟩)
      ⟨0, fun k _ => by simp only [impl_Edge.l0]; rw [if_neg (by omega)]⟩ (decide ((l.length : Int) = l'.length) && samesE l l') (by rw [decide_eq_true c, Bool.true_and, if_and_false, Bool.and_true]; rfl)
    refine Ev.congr (fun k => ?_) hc
    unfold impl_Edge.f
    rw [if_pos c]
  · rw [decide_eq_false c, Bool.false_and]
    exact Ev.one (fun k => by unfold impl_Edge.f; rw [if_neg c])

theorem ev_implStrings (v v' : List ByteArray) (h : v.length ≤ 1048576) : Ev (fun k => slices_Equal_string_string.f k v v') (decide ((v.length : Int) = v'.length) && samesB v v') := by
  by_cases c : (v.length : Int) = (v'.length : Int)
  · have hc := all_loop v.length (by omega) (fun i => (v.getD i ByteArray.empty).toList = (v'.getD i ByteArray.empty).toList) (fun k i => slices_Equal_string_string.l0 k v v' (v.length : Int) i) true false
      (fun i hi hT => ⟨0, fun k _ => by
        simp only [slices_Equal_string_string.l0]
        rw [if_pos (by omega), if_pos (by omega), if_pos (by omega), if_pos (by omega), rdB, rdB, if_pos hT]⟩)
      (fun i hi hT => ⟨0, fun k _ => by
        simp only [slices_Equal_string_string.l0]
        rw [if_pos (by omega), if_pos (by omega), if_pos (by omega), if_pos (by omega), rdB, rdB, if_neg hT]⟩)
      ⟨0, fun k _ => by simp only [slices_Equal_string_string.l0]; rw [if_neg (by omega)]⟩ (decide ((v.length : Int) = v'.length) && samesB v v') (by rw [decide_eq_true c, Bool.true_and, if_and_false, Bool.and_true]; rfl)
    refine Ev.congr (fun k => ?_) hc
    unfold slices_Equal_string_string.f
    rw [if_pos c]
  · rw [decide_eq_false c, Bool.false_and]
    exact Ev.one (fun k => by unfold slices_Equal_string_string.f; rw [if_neg c])

/-- what both come to -/
def sameP (v : List ByteArray) (p : Int) (l : List S134) (v' : List ByteArray) (p' : Int) (l' : List S134) : Bool :=
  decide (p = p') && (decide ((v.length : Int) = v'.length) && (decide ((l.length : Int) = l'.length) && (samesB v v' && samesE l l')))

theorem ev_implEqualProgram (v v' : List ByteArray) (p p' : Int) (l l' : List S134) (hv : v.length ≤ 1048576) (hl : l.length ≤ 1048576) : Ev (fun k => impl_EqualProgram.f k v p l v' p' l') (sameP v p l v' p' l') := by
  obtain ⟨K, hK⟩ := Evt.and (ev_implStrings v v' hv) (ev_implEdges l l' hl)
  refine ⟨K, fun k hk => ?_⟩
  obtain ⟨h1, h2⟩ := hK k hk
  dsimp only at h1 h2 ⊢
  unfold impl_EqualProgram.f
  rw [h1]
  simp only [Option.bind_some, h2]
  unfold sameP
  by_cases c1 : p = p' <;> by_cases c2 : (v.length : Int) = v'.length <;> by_cases c3 : samesB v v' = true <;> simp [c1, c2, c3]

theorem ev_edges (v v' : List ByteArray) (p p' : Int) (l l' : List S134) (hl : l.length ≤ 1048576) (c : (l.length : Int) = l'.length) : Ev (fun k => spec_EqualProgram.l1 k 0 v p l v' p' l') (samesE l l') := by
  refine all_loop l.length (by omega) (fun i => sameE (l.getD i z134) (l'.getD i z134) = true) (fun k i => spec_EqualProgram.l1 k i v p l v' p' l') true false
      (fun i hi hT => ⟨0, fun k _ => by
        simp only [spec_EqualProgram.l1]
        rw [if_pos (by omega), if_pos (by omega), if_pos (by omega), rdE, rdE, if_neg]
        unfold sameE at hT
        rw [Bool.not_eq_true'] at hT
        rw [hT]
        decide⟩)
      (fun i hi hT => ⟨0, fun k _ => by
        simp only [spec_EqualProgram.l1]
        rw [if_pos (by omega), if_pos (by omega), if_pos (by omega), rdE, rdE, if_pos]
        unfold sameE at hT
        rw [Bool.not_eq_true', Bool.not_eq_false] at hT
        exact hT⟩)
      ⟨0, fun k _ => by simp only [spec_EqualProgram.l1]; rw [if_neg (by omega)]⟩ (samesE l l') (by rw [if_and_false, Bool.and_true]; rfl)

theorem ev_strings (v v' : List ByteArray) (p p' : Int) (l l' : List S134) (hv : v.length ≤ 1048576) (hl : l.length ≤ 1048576) (c : (l.length : Int) = l'.length) (c2 : (v.length : Int) = v'.length) : Ev (fun k => spec_EqualProgram.l0 k 0 v p l v' p' l') (samesB v v' && samesE l l') := by
  obtain ⟨K, hE⟩ := ev_edges v v' p p' l l' hl c
  refine all_loop v.length (by omega) (fun i => (v.getD i ByteArray.empty).toList = (v'.getD i ByteArray.empty).toList) (fun k i => spec_EqualProgram.l0 k i v p l v' p' l') (samesE l l') false
      (fun i hi hT => ⟨0, fun k _ => by
        simp only [spec_EqualProgram.l0]
        rw [if_pos (by omega), if_pos (by omega), if_pos (by omega), rdB, rdB, if_pos hT]⟩)
      (fun i hi hT => ⟨0, fun k _ => by
        simp only [spec_EqualProgram.l0]
        rw [if_pos (by omega), if_pos (by omega), if_pos (by omega), rdB, rdB, if_neg hT]⟩)
      ⟨K, fun k hk => by have := hE k hk; dsimp only at this; simp only [spec_EqualProgram.l0]; rw [if_neg (by omega)]; exact this⟩ (samesB v v' && samesE l l') (by rw [if_and_false]; rfl)

theorem ev_specEqualProgram (v v' : List ByteArray) (p p' : Int) (l l' : List S134) (hv : v.length ≤ 1048576) (hl : l.length ≤ 1048576) : Ev (fun k => spec_EqualProgram.f k v p l v' p' l') (sameP v p l v' p' l') := by
  unfold sameP
  by_cases c1 : p = p'
  · by_cases c2 : (v.length : Int) = v'.length
    · by_cases c3 : (l.length : Int) = l'.length
      · rw [decide_eq_true c1, decide_eq_true c2, decide_eq_true c3, Bool.true_and, Bool.true_and, Bool.true_and]
        obtain ⟨K, hK⟩ := ev_strings v v' p p' l l' hv hl c3 c2
        refine Ev.next (f := fun k => spec_EqualProgram.l0 k 0 v p l v' p' l') ⟨0, fun k _ => ?_⟩ ⟨K, hK⟩
        have e : ((l.length : Int) != (l'.length : Int)) = false := bne_eq_false_iff_eq.mpr c3
        unfold spec_EqualProgram.f
        rw [if_pos c1, if_pos c2, e]
        simp only [spec_EqualProgram.j0]
        rw [if_neg (by decide)]
      · rw [decide_eq_false c3, Bool.false_and, Bool.and_false, Bool.and_false]
        have e : ((l.length : Int) != (l'.length : Int)) = true := bne_iff_ne.mpr c3
        exact Ev.last ⟨0, fun k _ => by unfold spec_EqualProgram.f; rw [if_pos c1, if_pos c2, e]; simp only [spec_EqualProgram.j0, if_true]⟩
    · rw [decide_eq_false c2, Bool.false_and, Bool.and_false]
      exact Ev.last ⟨0, fun k _ => by unfold spec_EqualProgram.f; rw [if_pos c1, if_neg c2]; simp only [spec_EqualProgram.j0, if_true]⟩
  · rw [decide_eq_false c1, Bool.false_and]
    exact Ev.last ⟨0, fun k _ => by unfold spec_EqualProgram.f; rw [if_neg c1]; simp only [spec_EqualProgram.j0, if_true]⟩

theorem FnExactEqualProgram : laws_FnExactEqualProgram.Pure := by
  intro v p l v' p' l' hB hB'
  have hm : maxLen = 9223372036854775807 := rfl
  obtain ⟨r, e1, hr⟩ := ev_szProgram v p l 1048576 (by omega) (by omega) (by have := hB.1.1; dsimp only at this; omega) (fun s hs => by have := hB.1.2 s hs; omega) (by have := hB.2.2.1; dsimp only at this; omega) (fun x hx => by
    have := (hB.2.2.2 x hx).2.2
    exact ⟨by have := this.2.1; omega, by have := this.2.2; omega⟩)
  rcases hr with hr | ⟨r0, r1, hw, hv, hl, hs⟩
  · obtain ⟨k, h1⟩ := Evt.ex e1
    dsimp only at h1
    exact ⟨k, by unfold laws_FnExactEqualProgram.f; rw [h1]; simp only [Option.bind_some]; rw [if_pos hr]⟩
  obtain ⟨r', e2, hr'⟩ := ev_szProgram v' p' l' r r0 (by omega) (by have := hB'.1.1; dsimp only at this; omega) (fun s hs => by have := hB'.1.2 s hs; omega) (by have := hB'.2.2.1; dsimp only at this; omega) (fun x hx => by
    have := (hB'.2.2.2 x hx).2.2
    exact ⟨by have := this.2.1; omega, by have := this.2.2; omega⟩)
  rcases hr' with hr' | ⟨r0', r1', hw', hv', hl', hs'⟩
  · obtain ⟨k, h1, h2⟩ := (Evt.and e1 e2).ex
    dsimp only at h1 h2
    exact ⟨k, by unfold laws_FnExactEqualProgram.f; rw [h1]; simp only [Option.bind_some]; rw [if_neg (by omega), h2]; simp only [Option.bind_some]; rw [if_pos hr']⟩
  obtain ⟨k, h1, h2, h3, h4, h5, h6, h7, h8⟩ := (Evt.and e1 (Evt.and e2 (Evt.and (ev_toProgram v p l hv hl) (Evt.and (ev_toProgram v' p' l' hv' hl') (Evt.and (ev_specEqualProgram v v' p p' (l.map cEdge) (l'.map cEdge) hv (by simpa using hl)) (Evt.and (ev_implEqualProgram v v' p p' (l.map cEdge) (l'.map cEdge) hv (by simpa using hl)) (Evt.and (ev_eqProgram v p (l.map cEdge) hv (by simpa using hl)) (ev_eqProgram v' p' (l'.map cEdge) hv' (by simpa using hl'))))))))).ex
  dsimp only at h1 h2 h3 h4 h5 h6 h7 h8
  refine ⟨k, ?_⟩
  unfold laws_FnExactEqualProgram.f
  rw [h1]
  simp only [Option.bind_some]
  rw [if_neg (by omega), h2]
  simp only [Option.bind_some]
  rw [if_neg (by omega)]
  simp only [h3, h4, h5, h6, h7, h8, Option.bind_some, if_true]
  simp

end Go.Proofs.Ytfmepkfigdobaaa.Pure.LFnExactEqualProgram
namespace Go.Proofs.Ytfmepkfigdobaaa.Pure
open Go.Proofs.Ytfmepkfigdobaaa.PFnExactEqualProgram
theorem FnExactEqualProgram : laws_FnExactEqualProgram.Pure := LFnExactEqualProgram.FnExactEqualProgram
end Go.Proofs.Ytfmepkfigdobaaa.Pure
