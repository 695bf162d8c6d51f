/-
  The pure statement of laws.FnExactEdgesFrom: what the printed functions compute makes the law answer true, for every argument of its kinds (no further condition).
-/
import Derived.Test.YtfmepkfigdobaaaPFnExactEdgesFromx5
import Derived.Test.YtfmepkfigdobaaaXPure
namespace Go.Proofs.Ytfmepkfigdobaaa.Pure.LFnExactEdgesFrom
open Go.RowKit Go.Proofs.Ytfmepkfigdobaaa.PFnExactEdgesFrom Go.Proofs.YtfmepkfigdobaaaW.PrintWords Go.Proofs.YtfmepkfigdobaaaW.PrintLast Go.Proofs.YtfmepkfigdobaaaX
set_option linter.unusedVariables false
set_option linter.unusedSimpArgs false

def wS (l : List ByteArray) : Int := l.length + ((l.map fun s => (s.size : Int)).foldr (· + ·) 0)

theorem sums_nonneg (l : List ByteArray) : 0 ≤ (l.map fun s => (s.size : Int)).foldr (· + ·) 0 := by
  induction l with
  | nil => simp
  | cons a l ih => simp only [List.map_cons, List.foldr_cons]; omega

theorem sums_take (l : List ByteArray) (i : Nat) (h : i < l.length) : ((l.take (i + 1)).map fun s => (s.size : Int)).foldr (· + ·) 0 = ((l.take i).map fun s => (s.size : Int)).foldr (· + ·) 0 + ((rdOf ByteArray.empty l (i : Int)).size : Int) := by
  rw [rdOf_at _ _ _ h]
  induction l generalizing i with
  | nil => simp at h
  | cons a l ih =>
    cases i with
    | zero => simp
    | succ i =>
      simp only [List.take_succ_cons, List.map_cons, List.foldr_cons, List.getElem_cons_succ]
      rw [ih i (by simpa using h)]
      omega

theorem sums_le (l : List ByteArray) (i : Nat) : ((l.take i).map fun s => (s.size : Int)).foldr (· + ·) 0 ≤ (l.map fun s => (s.size : Int)).foldr (· + ·) 0 := by
  induction l generalizing i with
  | nil => simp
  | cons a l ih =>
    cases i with
    | zero => simp only [List.take_zero, List.map_nil, List.foldr_nil]; exact sums_nonneg _
    | succ i => simp only [List.take_succ_cons, List.map_cons, List.foldr_cons]; have := ih i; omega

/-- What is left of a, or -1. -/
theorem ev_szStringS (l : List ByteArray) (a : Int) (h0 : 0 ≤ a) (h1 : a ≤ 1048576) (hl : l.length ≤ 9223372036854775807) (hs : ∀ s ∈ l, s.size ≤ 9223372036854775807) :
    Ev (fun k => laws_szStringS.f k l a) (if wS l ≤ a then a - wS l else -1) := by
  have hn := sums_nonneg l
  have hw : wrap64 (a - (l.length : Int)) = a - l.length := w64 (by omega) (by omega)
  by_cases c : a - (l.length : Int) < 0
  · have e : (if wS l ≤ a then a - wS l else -1) = -1 := if_neg (by unfold wS; omega)
    rw [e]
    exact Ev.one (fun k => by unfold laws_szStringS.f; rw [hw, if_pos c])
  · have hc := loop_is (σ := Int) l.length (fun k s i => laws_szStringS.l0 k l s i) (fun i s => s = a - l.length - ((l.take i).map fun s => (s.size : Int)).foldr (· + ·) 0 ∧ 0 ≤ s) (if wS l ≤ a then a - wS l else -1)
      (fun i s hi ⟨hs', hs0⟩ => by
        have ht := sums_take l i hi
        have hsz : (rdOf ByteArray.empty l (i : Int)).size ≤ 9223372036854775807 := by
          rw [rdOf_at _ _ _ hi]
          exact hs _ (List.getElem_mem hi)
        have hs2 : s ≤ 1048576 := by have := sums_nonneg (l.take i); omega
        have hw2 : wrap64 (s - ((rdOf ByteArray.empty l (i : Int)).size : Int)) = s - (rdOf ByteArray.empty l (i : Int)).size := w64 (by omega) (by omega)
        by_cases c2 : s - ((rdOf ByteArray.empty l (i : Int)).size : Int) < 0
        · refine Or.inr ⟨0, fun k _ => ?_⟩
          simp only [laws_szStringS.l0]
          rw [if_pos (by omega), if_pos (by omega), hw2, if_pos c2, if_neg]
          have := sums_le l (i + 1)
          unfold wS
          omega
        · refine Or.inl ⟨s - (rdOf ByteArray.empty l (i : Int)).size, ⟨by omega, by omega⟩, 0, fun k _ => ?_⟩
          simp only [laws_szStringS.l0]
          rw [if_pos (by omega), if_pos (by omega), hw2, if_neg c2, up64 (by omega)])
      (fun s ⟨hs', hs0⟩ => ⟨0, fun k _ => by
        rw [List.take_length] at hs'
        simp only [laws_szStringS.l0]
        rw [if_neg (by omega), if_pos (by unfold wS; omega)]
        congr 1
        unfold wS
        omega⟩)
      (a - l.length) ⟨by simp, by omega⟩
    refine Ev.congr (fun k => ?_) hc
    unfold laws_szStringS.f
    rw [hw, if_neg c]


theorem ev_toStringS (l : List ByteArray) (h : l.length ≤ 17592186044416) : Ev (fun k => laws_toStringS.f k l) l := by
  have hc := copy_loop l.length (by omega) (fun i => rdOf ByteArray.empty l (i : Int)) (⟨#[]⟩ : ByteArray) (fun k ys i => laws_toStringS.l0 k l ys i)
    (fun i ys hi hl => ⟨0, fun k _ => by simp only [laws_toStringS.l0]; rw [if_pos (by omega), if_pos (by omega), if_pos (by omega), Int.toNat_natCast]⟩)
    (fun ys hl => ⟨0, fun k _ => by simp only [laws_toStringS.l0]; rw [if_neg (by omega)]⟩)
  have e : ((List.range l.length).map fun i => rdOf ByteArray.empty l ((i : Nat) : Int)) = l := by
    have := map_range_id ByteArray.empty l
    simpa [rdOf] using this
  rw [e] at hc
  refine Ev.congr (fun k => ?_) hc
  unfold laws_toStringS.f
  rw [if_pos (by omega), if_pos (by rw [Int.toNat_natCast]; omega), Int.toNat_natCast]


theorem ev_eqStringS (l : List ByteArray) (h : l.length ≤ 9223372036854775807) : Ev (fun k => laws_eqStringS.f k l l) true := by
  have hc := all_true l.length h (fun k i => laws_eqStringS.l0 k l l i) true
    (fun i hi => ⟨0, fun k _ => by simp only [laws_eqStringS.l0]; rw [if_pos (by omega), if_pos (by omega), if_pos (by omega)]; simp only [if_true]⟩)
    ⟨0, fun k _ => by simp only [laws_eqStringS.l0]; rw [if_neg (by omega)]⟩
  refine Ev.congr (fun k => ?_) hc
  unfold laws_eqStringS.f
  rw [if_pos rfl]


def cEdge (x : S157) : S134 := ⟨x.f0, x.f1, (⟨x.f2.f0, x.f2.f1, x.f2.f2⟩ : S71)⟩

theorem szEdge_eq (p q r : Int) (s t : ByteArray) (a : Int) (h0 : 0 ≤ a) (h1 : a ≤ 1048576) (hs : s.size ≤ 9223372036854775807) (ht : t.size ≤ 9223372036854775807) :
    ∃ z, laws_szEdge.f p q r s t a = some z ∧ (z < 0 ∨ (0 ≤ z ∧ z ≤ a ∧ (s.size : Int) ≤ a ∧ (t.size : Int) ≤ a)) := by
  unfold laws_szEdge.f laws_szStmt.f
  rw [w64 (x := a - (s.size : Int)) (by omega) (by omega)]
  by_cases c : a - (s.size : Int) < 0
  · rw [if_pos c]
    exact ⟨-1, by simp, Or.inl (by omega)⟩
  · rw [if_neg c, w64 (by omega) (by omega)]
    by_cases c2 : a - (s.size : Int) - (t.size : Int) < 0
    · rw [if_pos c2]
      exact ⟨-1, by simp, Or.inl (by omega)⟩
    · rw [if_neg c2]
      simp only [Option.bind_some]
      rw [if_neg c2]
      exact ⟨_, rfl, Or.inr (by omega)⟩

theorem ev_szEdgeS (l : List S157) (a : Int) (h0 : 0 ≤ a) (h1 : a ≤ 1048576) (hl : l.length ≤ 9223372036854775807) (hs : ∀ x ∈ l, x.f2.f1.size ≤ 9223372036854775807 ∧ x.f2.f2.size ≤ 9223372036854775807) :
    ∃ r, Ev (fun k => laws_szEdgeS.f k l a) r ∧ (r < 0 ∨ (0 ≤ r ∧ r ≤ a ∧ (l.length : Int) ≤ a ∧ ∀ x ∈ l, x.f2.f1.size ≤ 1048576 ∧ x.f2.f2.size ≤ 1048576)) := by
  have hw : wrap64 (a - (l.length : Int)) = a - l.length := w64 (by omega) (by omega)
  by_cases c : a - (l.length : Int) < 0
  · exact ⟨-1, Ev.one (fun k => by unfold laws_szEdgeS.f; rw [hw, if_pos c]), Or.inl (by omega)⟩
  · obtain ⟨r, hr, he⟩ := loop_ev (σ := Int) l.length (fun k s i => laws_szEdgeS.l0 k l s i) (fun i s => 0 ≤ s ∧ s ≤ a - l.length ∧ ∀ j, j < i → (l.getD j z157).f2.f1.size ≤ 1048576 ∧ (l.getD j z157).f2.f2.size ≤ 1048576)
      (fun r => r < 0 ∨ (0 ≤ r ∧ r ≤ a ∧ (l.length : Int) ≤ a ∧ ∀ x ∈ l, x.f2.f1.size ≤ 1048576 ∧ x.f2.f2.size ≤ 1048576))
      (fun i s hi ⟨s0, s1, hj⟩ => by
        have hm := hs _ (getD_mem z157 l i hi)
        have e : rd_T157 l (i : Int) = l.getD i z157 := by unfold rd_T157; rw [Int.toNat_natCast]
        obtain ⟨r, h1', h2'⟩ := szEdge_eq (l.getD i z157).f0 (l.getD i z157).f1 (l.getD i z157).f2.f0 (l.getD i z157).f2.f1 (l.getD i z157).f2.f2 s s0 (by omega) hm.1 hm.2
        rcases h2' with h2' | ⟨g0, g1, g2, g3⟩
        · refine Or.inr ⟨-1, Or.inl (by omega), 0, fun k _ => ?_⟩
          simp only [laws_szEdgeS.l0]
          rw [if_pos (by omega), if_pos (by omega), e, h1']
          simp only [Option.bind_some]
          rw [if_pos h2']
        · refine Or.inl ⟨r, ⟨g0, by omega, fun j hj' => ?_⟩, 0, fun k _ => ?_⟩
          · by_cases ej : j = i
            · subst ej; omega
            · exact hj j (by omega)
          · simp only [laws_szEdgeS.l0]
            rw [if_pos (by omega), if_pos (by omega), e, h1']
            simp only [Option.bind_some]
            rw [if_neg (by omega), up64 (by omega)])
      (fun s ⟨s0, s1, hj⟩ => ⟨s, Or.inr ⟨s0, by omega, by omega, fun x hx => by
        obtain ⟨j, hj1, rfl⟩ := List.getElem_of_mem hx
        have := hj j hj1
        rwa [get_rep _ _ _ hj1] at this⟩, 0, fun k _ => by simp only [laws_szEdgeS.l0]; rw [if_neg (by omega)]⟩)
      l.length 0 (a - l.length) (by omega) (by omega) ⟨by omega, by omega, fun j hj => by omega⟩
    exact ⟨r, Ev.congr (fun k => by unfold laws_szEdgeS.f; rw [hw, if_neg c]; rfl) he, hr⟩

theorem ev_toEdgeS (l : List S157) (h : l.length ≤ 1048576) : Ev (fun k => laws_toEdgeS.f k l) (l.map cEdge) := by
  have hc := copy_loop l.length (by omega) (fun i => cEdge (l.getD i z157)) z134 (fun k ys i => laws_toEdgeS.l0 k l ys i)
    (fun i ys hi hl => by
      have e : rd_T157 l (i : Int) = l.getD i z157 := by unfold rd_T157; rw [Int.toNat_natCast]
      refine ⟨0, fun k hk => ?_⟩
      simp only [laws_toEdgeS.l0]
      rw [if_pos (by omega), if_pos (by omega), e]
      simp only [laws_toEdge.f, laws_toStmt.f, Option.bind_some]
      rw [if_pos (by omega), Int.toNat_natCast]
      rfl)
    (fun ys hl => ⟨0, fun k _ => by simp only [laws_toEdgeS.l0]; rw [if_neg (by omega)]⟩)
  rw [map_range cEdge z157 l] at hc
  refine Ev.congr (fun k => ?_) hc
  unfold laws_toEdgeS.f
  rw [if_pos (by omega), if_pos (by rw [Int.toNat_natCast]; omega), Int.toNat_natCast]

theorem ev_eqEdgeS (l : List S134) (h : l.length ≤ 1048576) : Ev (fun k => laws_eqEdgeS.f k l l) true := by
  have hc := all_true l.length (by omega) (fun k i => laws_eqEdgeS.l0 k l l i) true
    (fun i hi => by
      refine ⟨0, fun k hk => ?_⟩
      simp only [laws_eqEdgeS.l0]
      rw [if_pos (by omega), if_pos (by omega), if_pos (by omega)]
      simp only [laws_eqEdge.f, laws_eqStmt.f, Option.bind_some, if_true])
    ⟨0, fun k _ => by simp only [laws_eqEdgeS.l0]; rw [if_neg (by omega)]⟩
  refine Ev.congr (fun k => ?_) hc
  unfold laws_eqEdgeS.f
  rw [if_pos rfl]

theorem ev_szProgram (v : List ByteArray) (p : Int) (l : List S157) (a : Int) (h0 : 0 ≤ a) (h1 : a ≤ 1048576) (hv : v.length ≤ 9223372036854775807) (hvs : ∀ s ∈ v, s.size ≤ 9223372036854775807) (hl : l.length ≤ 9223372036854775807) (hs : ∀ x ∈ l, x.f2.f1.size ≤ 9223372036854775807 ∧ x.f2.f2.size ≤ 9223372036854775807) :
    ∃ r, Ev (fun k => laws_szProgram.f k v p l a) r ∧ (r < 0 ∨ (0 ≤ r ∧ r ≤ a ∧ wS v ≤ a ∧ v.length ≤ 1048576 ∧ l.length ≤ 1048576 ∧ ∀ x ∈ l, x.f2.f1.size ≤ 1048576 ∧ x.f2.f2.size ≤ 1048576)) := by
  obtain ⟨K, hK⟩ := ev_szStringS v a h0 h1 hv hvs
  have hn := sums_nonneg v
  by_cases c : wS v ≤ a
  · rw [if_pos c] at hK
    have hvl : (v.length : Int) ≤ a := by unfold wS at c; omega
    have hw0 : 0 ≤ wS v := by unfold wS; omega
    obtain ⟨r, ⟨K', hK'⟩, hr⟩ := ev_szEdgeS l (a - wS v) (by omega) (by omega) hl hs
    rcases hr with hr | ⟨r0, r1, r2, r3⟩
    · refine ⟨-1, ⟨K + K', fun k hk => ?_⟩, Or.inl (by omega)⟩
      have g1 := hK k (by omega)
      have g2 := hK' k (by omega)
      dsimp only at g1 g2 ⊢
      unfold laws_szProgram.f
      rw [g1]
      simp only [Option.bind_some]
      rw [if_neg (by omega), g2]
      simp only [Option.bind_some]
      rw [if_pos hr]
    · refine ⟨r, ⟨K + K', fun k hk => ?_⟩, Or.inr ⟨r0, by omega, c, by omega, by omega, r3⟩⟩
      have g1 := hK k (by omega)
      have g2 := hK' k (by omega)
      dsimp only at g1 g2 ⊢
      unfold laws_szProgram.f
      rw [g1]
      simp only [Option.bind_some]
      rw [if_neg (by omega), g2]
      simp only [Option.bind_some]
      rw [if_neg (by omega)]
  · rw [if_neg c] at hK
    refine ⟨-1, ⟨K, fun k hk => ?_⟩, Or.inl (by omega)⟩
    have g1 := hK k hk
    dsimp only at g1 ⊢
    unfold laws_szProgram.f
    rw [g1]
    rfl

theorem ev_toProgram (v : List ByteArray) (p : Int) (l : List S157) (hv : v.length ≤ 1048576) (hl : l.length ≤ 1048576) : Ev (fun k => laws_toProgram.f k v p l) (v, p, l.map cEdge) := by
  obtain ⟨K, hK⟩ := Evt.and (ev_toStringS v (by omega)) (ev_toEdgeS l hl)
  refine ⟨K, fun k hk => ?_⟩
  obtain ⟨h1, h2⟩ := hK k hk
  dsimp only at h1 h2
  unfold laws_toProgram.f
  simp only [h1, h2, Option.bind_some]


theorem ev_eqProgram (v : List ByteArray) (p : Int) (l : List S134) (hv : v.length ≤ 1048576) (hl : l.length ≤ 1048576) : Ev (fun k => laws_eqProgram.f k v p l v p l) true := by
  obtain ⟨K, hK⟩ := Evt.and (ev_eqStringS v (by omega)) (ev_eqEdgeS l hl)
  refine ⟨K, fun k hk => ?_⟩
  obtain ⟨h1, h2⟩ := hK k hk
  dsimp only at h1 h2
  unfold laws_eqProgram.f
  simp only [h1, h2, Option.bind_some, if_true]


theorem ev_eqIntS (l : List Int) (h : l.length ≤ 9223372036854775807) : Ev (fun k => laws_eqIntS.f k l l) true := by
  have hc := all_true l.length h (fun k i => laws_eqIntS.l0 k l l i) true
    (fun i hi => ⟨0, fun k _ => by simp only [laws_eqIntS.l0]; rw [if_pos (by omega), if_pos (by omega), if_pos (by omega)]; simp only [if_true]⟩)
    ⟨0, fun k _ => by simp only [laws_eqIntS.l0]; rw [if_neg (by omega)]⟩
  refine Ev.congr (fun k => ?_) hc
  unfold laws_eqIntS.f
  rw [if_pos rfl]


theorem ev_markIntS (l : List Int) (h : l.length ≤ 4611686018427387904) : Ev (fun k => laws_markIntS.f k l 1) ((1 + l.length : Int), marks l.length) := by
  have hc := loop_is (σ := List Int × Int) l.length (fun k s i => laws_markIntS.l0 k s.1 s.2 i) (fun i s => s.1.length = l.length ∧ s.2 = 1 + i ∧ ∀ j, j < i → s.1[j]? = some (1 + j : Int)) ((1 + l.length : Int), marks l.length)
    (fun i s hi ⟨hl, hs, hy⟩ => Or.inl ⟨(s.1.set i s.2, s.2 + 1), ⟨by simp [hl], by simp only [hs]; omega, fun j hj => by
      by_cases e : j = i
      · subst e; rw [List.getElem?_set_self (by omega), hs]
      · rw [List.getElem?_set_ne (by omega)]; exact hy j (by omega)⟩, 0, fun k _ => by
      simp only [laws_markIntS.l0]; rw [if_pos (by omega), if_pos (by omega), Int.toNat_natCast, up64 (by omega), w64 (by omega) (by omega)]⟩)
    (fun s ⟨hl, hs, hy⟩ => ⟨0, fun k _ => by
      simp only [laws_markIntS.l0]; rw [if_neg (by omega), hs]
      have e : s.1 = marks l.length := by
        apply List.ext_getElem?
        intro j
        by_cases hj : j < l.length
        · rw [hy j hj]; simp [marks, hj]
        · rw [List.getElem?_eq_none (by omega), List.getElem?_eq_none (by rw [marks_length]; omega)]
      rw [e]⟩)
    (l, 1) ⟨rfl, by omega, fun j hj => by omega⟩
  exact Ev.congr (fun k => by unfold laws_markIntS.f; rfl) hc


theorem ev_heldIntS (n : Nat) (h : n ≤ 4611686018427387904) : Ev (fun k => laws_heldIntS.f k (marks n) 1) (1 + n : Int) := by
  have hc := loop_is (σ := Int) n (fun k s i => laws_heldIntS.l0 k (marks n) s i) (fun i s => s = 1 + i) (1 + n : Int)
    (fun i s hi hs => Or.inl ⟨s + 1, by omega, 0, fun k _ => by
      simp only [laws_heldIntS.l0]; rw [if_pos (by rw [marks_length]; omega), if_pos (by omega), marks_at _ _ hi, if_pos hs.symm, up64 (by omega), w64 (by omega) (by omega)]⟩)
    (fun s hs => ⟨0, fun k _ => by simp only [laws_heldIntS.l0]; rw [if_neg (by rw [marks_length]; omega), hs]⟩) 1 (by omega)
  exact Ev.congr (fun k => by unfold laws_heldIntS.f; rfl) hc


theorem strOfNums_one (a : Int) : (strOfNums [a]).size = 1 := by
  first | rfl | simp [strOfNums]

theorem ev_markTextGo : ∀ (m n : Nat), n ≤ m → ∀ s : ByteArray, s.size + n ≤ 1000000000000 → ∃ r, Ev (fun k => laws_markText.l0 k (n : Int) s) r := by
  intro m
  induction m with
  | zero =>
    intro n hn s hs
    exact ⟨_, Ev.last ⟨0, fun k _ => by simp only [laws_markText.l0]; rw [if_neg (by omega), if_pos (by omega)]⟩⟩
  | succ m ih =>
    intro n hn s hs
    by_cases c : n = 0
    · exact ⟨_, Ev.last ⟨0, fun k _ => by simp only [laws_markText.l0]; rw [if_neg (by omega), if_pos (by omega)]⟩⟩
    · have hd : n / 10 ≤ n - 1 := by omega
      obtain ⟨r, hr⟩ := ih (n / 10) (by omega) (strOfNums [(wrap64 (48 + (Int.tmod (n : Int) 10))) % 256] ++ s) (by rw [ByteArray.size_append, strOfNums_one]; omega)
      refine ⟨r, Ev.next ⟨0, fun k _ => ?_⟩ hr⟩
      simp only [laws_markText.l0, Option.bind_some]
      rw [if_pos (by omega), if_pos (by rw [strOfNums_one]; omega), show Int.tdiv (n : Int) 10 = ((n / 10 : Nat) : Int) from by rw [Int.tdiv_eq_ediv_of_nonneg (by omega)]; omega, w64 (by omega) (by omega)]

theorem ev_markText (x : Int) (h0 : 0 ≤ x) (h1 : x ≤ 100000000000) : ∃ r, Ev (fun k => laws_markText.f k x) r := by
  obtain ⟨n, rfl⟩ := Int.eq_ofNat_of_zero_le h0
  by_cases c : (n : Int) ≤ 0
  · exact ⟨_, Ev.one (fun k => by unfold laws_markText.f; rw [if_pos c])⟩
  · obtain ⟨r, hr⟩ := ev_markTextGo n n (by omega) ⟨#[]⟩ (by show 0 + n ≤ _; omega)
    exact ⟨r, Ev.congr (fun k => by unfold laws_markText.f; rw [if_neg c]) hr⟩

theorem ev_markStringAny (l : List ByteArray) (a : Int) (h0 : 0 ≤ a) (h1 : l.length ≤ 1048576) (h2 : a ≤ 1000000000) : ∃ l', Ev (fun k => laws_markStringS.f k l a) (a + l.length, l') := by
  obtain ⟨r, ⟨l', hr⟩, he⟩ := loop_ev (σ := List ByteArray × Int) l.length (fun k s i => laws_markStringS.l0 k s.1 s.2 i) (fun i s => s.1.length = l.length ∧ s.2 = a + i) (fun r => ∃ l', r = (a + l.length, l'))
    (fun i s hi ⟨hl, hs⟩ => by
      obtain ⟨t, K, hK⟩ := ev_markText s.2 (by omega) (by omega)
      refine Or.inl ⟨(s.1.set i t, s.2 + 1), ⟨by simp [hl], by simp only [hs]; omega⟩, K, fun k hk => ?_⟩
      have g := hK k hk
      dsimp only at g
      simp only [laws_markStringS.l0]
      rw [if_pos (by omega), g]
      simp only [Option.bind_some]
      rw [if_pos (by omega), Int.toNat_natCast, up64 (by omega), w64 (by omega) (by omega)])
    (fun s ⟨hl, hs⟩ => ⟨_, ⟨s.1, rfl⟩, 0, fun k _ => by simp only [laws_markStringS.l0]; rw [if_neg (by omega), hs]⟩)
    l.length 0 (l, a) (by omega) (by omega) ⟨rfl, by omega⟩
  subst hr
  exact ⟨l', Ev.congr (fun k => by unfold laws_markStringS.f; rfl) he⟩


theorem ev_markEdgeAny (l : List S134) (a : Int) (h0 : 0 ≤ a) (h1 : l.length ≤ 1048576) (h2 : a ≤ 1000000000) : ∃ l', Ev (fun k => laws_markEdgeS.f k l a) (a + 5 * l.length, l') := by
  obtain ⟨r, ⟨l', hr⟩, he⟩ := loop_ev (σ := List S134 × Int) l.length (fun k s i => laws_markEdgeS.l0 k s.1 s.2 i) (fun i s => s.1.length = l.length ∧ s.2 = a + 5 * i) (fun r => ∃ l', r = (a + 5 * l.length, l'))
    (fun i s hi ⟨hl, hs⟩ => by
      obtain ⟨t, K, hK⟩ := ev_markText (s.2 + 1 + 1 + 1) (by omega) (by omega)
      obtain ⟨t', K', hK'⟩ := ev_markText (s.2 + 1 + 1 + 1 + 1) (by omega) (by omega)
      have e1 : wrap64 (s.2 + 1) = s.2 + 1 := w64 (by omega) (by omega)
      have e2 : wrap64 (s.2 + 1 + 1) = s.2 + 1 + 1 := w64 (by omega) (by omega)
      have e3 : wrap64 (s.2 + 1 + 1 + 1) = s.2 + 1 + 1 + 1 := w64 (by omega) (by omega)
      have e4 : wrap64 (s.2 + 1 + 1 + 1 + 1) = s.2 + 1 + 1 + 1 + 1 := w64 (by omega) (by omega)
      have e5 : wrap64 (s.2 + 1 + 1 + 1 + 1 + 1) = s.2 + 1 + 1 + 1 + 1 + 1 := w64 (by omega) (by omega)
      refine Or.inl ⟨(?st, s.2 + 1 + 1 + 1 + 1 + 1), ⟨?len, by simp only [hs]; omega⟩, K + K', fun k hk => ?go⟩
      case go =>
        have g := hK k (by omega)
        have g' := hK' k (by omega)
        dsimp only at g g'
        simp only [laws_markEdgeS.l0]
        rw [if_pos (by omega), if_pos (by omega)]
        simp only [Option.bind_some, e1, e2, e3, e4, e5, g, g']
        rw [up64 (by omega)]
      case len => simp [hl])
    (fun s ⟨hl, hs⟩ => ⟨_, ⟨s.1, rfl⟩, 0, fun k _ => by simp only [laws_markEdgeS.l0]; rw [if_neg (by omega), hs]⟩)
    l.length 0 (l, a) (by omega) (by omega) ⟨rfl, by omega⟩
  subst hr
  exact ⟨l', Ev.congr (fun k => by unfold laws_markEdgeS.f; rfl) he⟩

theorem ev_markProgram (v : List ByteArray) (p : Int) (l : List S134) (hv : v.length ≤ 1048576) (hl : l.length ≤ 1048576) : ∃ z, 0 ≤ z ∧ ∃ v' l', Ev (fun k => laws_markProgram.f k v p l 1) (z, v', l') := by
  obtain ⟨v', K, hK⟩ := ev_markStringAny v 1 (by omega) hv (by omega)
  obtain ⟨l', K', hK'⟩ := ev_markEdgeAny l (1 + v.length) (by omega) hl (by omega)
  refine ⟨1 + v.length + 5 * l.length, by omega, v', l', K + K', fun k hk => ?_⟩
  have g1 := hK k (by omega)
  have g2 := hK' k (by omega)
  dsimp only at g1 g2 ⊢
  unfold laws_markProgram.f
  rw [g1]
  simp only [Option.bind_some]
  rw [g2]
  rfl


/-- the places of the edges that begin at a point -/
def froms (l : List S134) (n : Int) (i : Nat) : List Int := ((List.range i).filter fun j => decide ((rd_T134 l ((j : Nat) : Int)).f0 = n)).map fun (j : Nat) => (j : Int)

theorem froms_succ (l : List S134) (n : Int) (i : Nat) : froms l n (i + 1) = if (rd_T134 l (i : Int)).f0 = n then froms l n i ++ [(i : Int)] else froms l n i := by
  unfold froms
  rw [List.range_succ, List.filter_append]
  by_cases c : (rd_T134 l (i : Int)).f0 = n
  · rw [if_pos c]; simp [c]
  · rw [if_neg c]; simp [c]

theorem froms_len (l : List S134) (n : Int) (i : Nat) : (froms l n i).length ≤ i := by
  unfold froms
  rw [List.length_map]
  have := List.length_filter_le (fun j => decide ((rd_T134 l ((j : Nat) : Int)).f0 = n)) (List.range i)
  rw [List.length_range] at this
  exact this

theorem ev_specFrom (v : List ByteArray) (p : Int) (l : List S134) (n : Int) (h : l.length ≤ 1048576) : Ev (fun k => spec_EdgesFrom.f k v p l n) (froms l n l.length) := by
  have hc := loop_is (σ := List Int) l.length (fun k s i => spec_EdgesFrom.l0 k n s i v p l) (fun i s => s = froms l n i) (froms l n l.length)
    (fun i s hi hs => by
      have hp := froms_len l n i
      refine Or.inl ⟨froms l n (i + 1), rfl, 0, fun k _ => ?_⟩
      subst hs
      simp only [spec_EdgesFrom.l0]
      rw [if_pos (by omega), if_pos (by omega), froms_succ, up64 (by omega)]
      by_cases c : (rd_T134 l (i : Int)).f0 = n
      · rw [if_pos c, if_pos c, if_pos (by omega)]
      · rw [if_neg c, if_neg c])
    (fun s hs => ⟨0, fun k _ => by simp only [spec_EdgesFrom.l0]; rw [if_neg (by omega), hs]⟩) [] rfl
  exact Ev.congr (fun k => rfl) hc

theorem ev_implFrom (v : List ByteArray) (p : Int) (l : List S134) (n : Int) (h : l.length ≤ 1048576) : Ev (fun k => impl_EdgesFrom.f k v p l n) (froms l n l.length) := by
  have hc := loop_is (σ := List Int) l.length (fun k s i => impl_EdgesFrom.l0 k n s l (l.length : Int) i) (fun i s => s = froms l n i) (froms l n l.length)
    (fun i s hi hs => by
      have hp := froms_len l n i
      refine Or.inl ⟨froms l n (i + 1), rfl, 0, fun k _ => ?_⟩
      subst hs
      simp only [impl_EdgesFrom.l0]
      rw [if_pos (by omega), if_pos (by omega), if_pos (by omega), froms_succ, up64 (by omega)]
      by_cases c : (rd_T134 l (i : Int)).f0 = n
      · rw [if_pos c, if_pos c, if_pos (by omega)]
      · rw [if_neg c, if_neg c])
    (fun s hs => ⟨0, fun k _ => by simp only [impl_EdgesFrom.l0]; rw [if_neg (by omega), hs]⟩) [] rfl
  exact Ev.congr (fun k => rfl) hc

theorem FnExactEdgesFrom : laws_FnExactEdgesFrom.Pure := by
  intro v p l n hB _
  have hm : maxLen = 9223372036854775807 := rfl
  obtain ⟨r, e1, hr⟩ := ev_szProgram v p l 1048576 (by omega) (by omega) (by have := hB.1.1; dsimp only at this; omega) (fun s hs => by have := hB.1.2 s hs; omega) (by have := hB.2.2.1; dsimp only at this; omega) (fun x hx => by
    have := (hB.2.2.2 x hx).2.2
    exact ⟨by have := this.2.1; omega, by have := this.2.2; omega⟩)
  rcases hr with hr | ⟨r0, r1, hw, hv, hl, hs⟩
  · obtain ⟨k, h1⟩ := Evt.ex e1
    dsimp only at h1
    exact ⟨k, by unfold laws_FnExactEdgesFrom.f; rw [h1]; simp only [Option.bind_some]; rw [if_pos hr]⟩
  have hl' : (l.map cEdge).length ≤ 1048576 := by simpa using hl
  have hp := froms_len (l.map cEdge) n (l.map cEdge).length
  generalize ho : froms (l.map cEdge) n (l.map cEdge).length = o at hp
  have hp2 : o.length ≤ 1048576 := by omega
  obtain ⟨z, hz, v', l', hmk⟩ := ev_markProgram v p (l.map cEdge) hv hl'
  have hs1 := ev_specFrom v p (l.map cEdge) n hl'
  have hi1 := ev_implFrom v p (l.map cEdge) n hl'
  rw [ho] at hs1 hi1
  obtain ⟨K, hK⟩ := Evt.and e1 (Evt.and (ev_toProgram v p l hv hl) (Evt.and hs1 (Evt.and hi1 (Evt.and (ev_eqProgram v p (l.map cEdge) hv hl') (Evt.and hmk (Evt.and (ev_eqIntS o (by omega)) (Evt.and (ev_markIntS o (by omega)) (ev_heldIntS o.length (by omega)))))))))
  obtain ⟨h1, h2, h3, h4, h5, h6, h7, h8, h9⟩ := hK (K + 1) (by omega)
  obtain ⟨g1, g2, g3, g4, g5, g6, g7, g8, g9⟩ := hK K (by omega)
  dsimp only at h1 h2 h3 h4 h5 h6 h7 h8 h9 g1 g2 g3 g4 g5 g6 g7 g8 g9
  refine ⟨K + 1, ?_⟩
  unfold laws_FnExactEdgesFrom.f
  rw [h1]
  simp only [Option.bind_some]
  rw [if_neg (by omega)]
  simp only [h2, h3, h4, h5, h6, h7, Option.bind_some, if_true]
  rw [if_neg (by omega)]
  simp only [laws_FnExactEdgesFrom.j0, g2, g4, g7, g8, g9, Option.bind_some, Bool.not_true, if_true]
  rw [if_neg (by decide), if_neg (by omega), if_neg (by omega)]

end Go.Proofs.Ytfmepkfigdobaaa.Pure.LFnExactEdgesFrom
namespace Go.Proofs.Ytfmepkfigdobaaa.Pure
open Go.Proofs.Ytfmepkfigdobaaa.PFnExactEdgesFrom
theorem FnExactEdgesFrom : laws_FnExactEdgesFrom.Pure := LFnExactEdgesFrom.FnExactEdgesFrom
end Go.Proofs.Ytfmepkfigdobaaa.Pure
