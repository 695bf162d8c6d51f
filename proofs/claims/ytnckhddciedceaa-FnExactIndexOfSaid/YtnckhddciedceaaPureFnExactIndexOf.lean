/-
  The pure statement of laws.FnExactIndexOf: what the printed functions compute makes the law answer true, for every argument of its kinds (no further condition).
-/
import Derived.Test.YtnckhddciedceaaPFnExactIndexOfx1
import Derived.Test.YtnckhddciedceaaXPure
namespace Go.Proofs.Ytnckhddciedceaa.Pure.LFnExactIndexOf
open Go.RowKit Go.Proofs.Ytnckhddciedceaa.PFnExactIndexOf Go.Proofs.YtnckhddciedceaaW.PrintWords Go.Proofs.YtnckhddciedceaaW.PrintLast Go.Proofs.YtnckhddciedceaaX
set_option linter.unusedVariables false
set_option linter.unusedSimpArgs false

def wS (l : List ByteArray) : Int := l.length + ((l.map fun s => (s.size : Int)).foldr (· + ·) 0)

theorem sums_nonneg (l : List ByteArray) : 0 ≤ (l.map fun s => (s.size : Int)).foldr (· + ·) 0 := by
  induction l with
  | nil => simp
  | cons a l ih => simp only [List.map_cons, List.foldr_cons]; omega

theorem sums_take (l : List ByteArray) (i : Nat) (h : i < l.length) : ((l.take (i + 1)).map fun s => (s.size : Int)).foldr (· + ·) 0 = ((l.take i).map fun s => (s.size : Int)).foldr (· + ·) 0 + ((rdOf ByteArray.empty l (i : Int)).size : Int) := by
  rw [rdOf_at _ _ _ h]
  induction l generalizing i with
  | nil => simp at h
  | cons a l ih =>
    cases i with
    | zero => simp
    | succ i =>
      simp only [List.take_succ_cons, List.map_cons, List.foldr_cons, List.getElem_cons_succ]
      rw [ih i (by simpa using h)]
      omega

theorem sums_le (l : List ByteArray) (i : Nat) : ((l.take i).map fun s => (s.size : Int)).foldr (· + ·) 0 ≤ (l.map fun s => (s.size : Int)).foldr (· + ·) 0 := by
  induction l generalizing i with
  | nil => simp
  | cons a l ih =>
    cases i with
    | zero => simp only [List.take_zero, List.map_nil, List.foldr_nil]; exact sums_nonneg _
    | succ i => simp only [List.take_succ_cons, List.map_cons, List.foldr_cons]; have := ih i; omega

/-- What is left of a, or -1. -/
theorem ev_szStringS (l : List ByteArray) (a : Int) (h0 : 0 ≤ a) (h1 : a ≤ 1048576) (hl : l.length ≤ 9223372036854775807) (hs : ∀ s ∈ l, s.size ≤ 9223372036854775807) :
    Ev (fun k => laws_szStringS.f k l a) (if wS l ≤ a then a - wS l else -1) := by
  have hn := sums_nonneg l
  have hw : wrap64 (a - (l.length : Int)) = a - l.length := w64 (by omega) (by omega)
  by_cases c : a - (l.length : Int) < 0
  · have e : (if wS l ≤ a then a - wS l else -1) = -1 := if_neg (by unfold wS; omega)
    rw [e]
    exact Ev.one (fun k => by unfold laws_szStringS.f; rw [hw, if_pos c])
  · have hc := loop_is (σ := Int) l.length (fun k s i => laws_szStringS.l0 k l s i) (fun i s => s = a - l.length - ((l.take i).map fun s => (s.size : Int)).foldr (· + ·) 0 ∧ 0 ≤ s) (if wS l ≤ a then a - wS l else -1)
      (fun i s hi ⟨hs', hs0⟩ => by
        have ht := sums_take l i hi
        have hsz : (rdOf ByteArray.empty l (i : Int)).size ≤ 9223372036854775807 := by
          rw [rdOf_at _ _ _ hi]
          exact hs _ (List.getElem_mem hi)
        have hs2 : s ≤ 1048576 := by have := sums_nonneg (l.take i); omega
        have hw2 : wrap64 (s - ((rdOf ByteArray.empty l (i : Int)).size : Int)) = s - (rdOf ByteArray.empty l (i : Int)).size := w64 (by omega) (by omega)
        by_cases c2 : s - ((rdOf ByteArray.empty l (i : Int)).size : Int) < 0
        · refine Or.inr ⟨0, fun k _ => ?_⟩
          simp only [laws_szStringS.l0]
          rw [if_pos (by omega), if_pos (by omega), hw2, if_pos c2, if_neg]
          have := sums_le l (i + 1)
          unfold wS
          omega
        · refine Or.inl ⟨s - (rdOf ByteArray.empty l (i : Int)).size, ⟨by omega, by omega⟩, 0, fun k _ => ?_⟩
          simp only [laws_szStringS.l0]
          rw [if_pos (by omega), if_pos (by omega), hw2, if_neg c2, up64 (by omega)])
      (fun s ⟨hs', hs0⟩ => ⟨0, fun k _ => by
        rw [List.take_length] at hs'
        simp only [laws_szStringS.l0]
        rw [if_neg (by omega), if_pos (by unfold wS; omega)]
        congr 1
        unfold wS
        omega⟩)
      (a - l.length) ⟨by simp, by omega⟩
    refine Ev.congr (fun k => ?_) hc
    unfold laws_szStringS.f
    rw [hw, if_neg c]


theorem ev_toStringS (l : List ByteArray) (h : l.length ≤ 17592186044416) : Ev (fun k => laws_toStringS.f k l) l := by
  have hc := copy_loop l.length (by omega) (fun i => rdOf ByteArray.empty l (i : Int)) (⟨#[]⟩ : ByteArray) (fun k ys i => laws_toStringS.l0 k l ys i)
    (fun i ys hi hl => ⟨0, fun k _ => by simp only [laws_toStringS.l0]; rw [if_pos (by omega), if_pos (by omega), if_pos (by omega), Int.toNat_natCast]⟩)
    (fun ys hl => ⟨0, fun k _ => by simp only [laws_toStringS.l0]; rw [if_neg (by omega)]⟩)
  have e : ((List.range l.length).map fun i => rdOf ByteArray.empty l ((i : Nat) : Int)) = l := by
    have := map_range_id ByteArray.empty l
    simpa [rdOf] using this
  rw [e] at hc
  refine Ev.congr (fun k => ?_) hc
  unfold laws_toStringS.f
  rw [if_pos (by omega), if_pos (by rw [Int.toNat_natCast]; omega), Int.toNat_natCast]


theorem ev_eqStringS (l : List ByteArray) (h : l.length ≤ 9223372036854775807) : Ev (fun k => laws_eqStringS.f k l l) true := by
  have hc := all_true l.length h (fun k i => laws_eqStringS.l0 k l l i) true
    (fun i hi => ⟨0, fun k _ => by simp only [laws_eqStringS.l0]; rw [if_pos (by omega), if_pos (by omega), if_pos (by omega)]; simp only [if_true]⟩)
    ⟨0, fun k _ => by simp only [laws_eqStringS.l0]; rw [if_neg (by omega)]⟩
  refine Ev.congr (fun k => ?_) hc
  unfold laws_eqStringS.f
  rw [if_pos rfl]


theorem both (l : List ByteArray) (s : ByteArray) (h : l.length ≤ 9223372036854775807) : ∃ r, Ev (fun k => spec_IndexOf.f k l s) r ∧ Ev (fun k => impl_IndexOf.f k l s) r := by
  obtain ⟨r, h1, h2⟩ := two_loops (σ := Unit) (τ := Unit) l.length (fun k _ i => spec_IndexOf.l0 k l s i) (fun k _ i => slices_Index_string_string.l0 k l s (l.length : Int) i) (fun _ _ _ => True)
    (fun i _ _ hi _ => by
      by_cases c : (rdOf ByteArray.empty l (i : Int)).toList = s.toList
      · refine Or.inr ⟨(i : Int), ⟨0, fun k _ => ?_⟩, ⟨0, fun k _ => ?_⟩⟩
        · simp only [spec_IndexOf.l0]; rw [if_pos (by omega), if_pos (by omega), if_pos c]
        · simp only [slices_Index_string_string.l0]; rw [if_pos (by omega), if_pos (by omega), if_pos (by omega), if_pos c.symm]
      · refine Or.inl ⟨(), (), trivial, ⟨0, fun k _ => ?_⟩, ⟨0, fun k _ => ?_⟩⟩
        · simp only [spec_IndexOf.l0]; rw [if_pos (by omega), if_pos (by omega), if_neg c, up64 (by omega)]
        · simp only [slices_Index_string_string.l0]; rw [if_pos (by omega), if_pos (by omega), if_pos (by omega), if_neg (fun e => c e.symm), up64 (by omega)])
    (fun _ _ _ => ⟨-1, ⟨0, fun k _ => by simp only [spec_IndexOf.l0]; rw [if_neg (by omega)]⟩, ⟨0, fun k _ => by simp only [slices_Index_string_string.l0]; rw [if_neg (by omega)]⟩⟩)
    l.length 0 () () (by omega) (by omega) trivial
  refine ⟨r, Ev.congr (fun k => rfl) h1, Ev.congr (fun k => ?_) h2⟩
  unfold impl_IndexOf.f slices_Index_string_string.f
  cases slices_Index_string_string.l0 k l s (l.length : Int) 0 <;> rfl

theorem FnExactIndexOf : laws_FnExactIndexOf.Pure := by
  intro l s hl hs
  have hm : maxLen = 9223372036854775807 := rfl
  have e1 := ev_szStringS l 1048576 (by omega) (by omega) (by have := hl.1; omega) (fun x hx => by have := hl.2 x hx; omega)
  by_cases c0 : (s.size : Int) > 1048576
  · exact ⟨0, by unfold laws_FnExactIndexOf.f; rw [if_pos c0]⟩
  by_cases c : wS l ≤ 1048576
  · rw [if_pos c] at e1
    have hn := sums_nonneg l
    have hlen : l.length ≤ 1048576 := by unfold wS at c; omega
    obtain ⟨r, e2, e3⟩ := both l s (by omega)
    obtain ⟨k, h1, h2, h3, h4, h5⟩ := (Evt.and e1 (Evt.and e2 (Evt.and e3 (Evt.and (ev_toStringS l (by omega)) (ev_eqStringS l (by omega)))))).ex
    dsimp only at h1 h2 h3 h4 h5
    refine ⟨k, ?_⟩
    unfold laws_FnExactIndexOf.f
    rw [if_neg c0, h1]
    simp only [Option.bind_some]
    rw [if_neg (by omega), h4]
    simp only [Option.bind_some, h2, h3, h5, if_true]
  · rw [if_neg c] at e1
    obtain ⟨k, h1⟩ := Evt.ex e1
    dsimp only at h1
    exact ⟨k, by unfold laws_FnExactIndexOf.f; rw [if_neg c0, h1]; rfl⟩

end Go.Proofs.Ytnckhddciedceaa.Pure.LFnExactIndexOf
namespace Go.Proofs.Ytnckhddciedceaa.Pure
open Go.Proofs.Ytnckhddciedceaa.PFnExactIndexOf
theorem FnExactIndexOf : laws_FnExactIndexOf.Pure := LFnExactIndexOf.FnExactIndexOf
end Go.Proofs.Ytnckhddciedceaa.Pure
