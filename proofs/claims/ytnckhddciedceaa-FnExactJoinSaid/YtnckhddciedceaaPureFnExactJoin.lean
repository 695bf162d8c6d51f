/-
  The pure statement of laws.FnExactJoin: what the printed functions compute makes the law answer true, for every argument of its kinds (no further condition).
-/
import Derived.Test.YtnckhddciedceaaPFnExactJoinx1
import Derived.Test.YtnckhddciedceaaXPure
namespace Go.Proofs.Ytnckhddciedceaa.Pure.LFnExactJoin
open Go.RowKit Go.Proofs.Ytnckhddciedceaa.PFnExactJoin Go.Proofs.YtnckhddciedceaaW.PrintWords Go.Proofs.YtnckhddciedceaaW.PrintLast Go.Proofs.YtnckhddciedceaaX
set_option linter.unusedVariables false
set_option linter.unusedSimpArgs false

def wS (l : List ByteArray) : Int := l.length + ((l.map fun s => (s.size : Int)).foldr (· + ·) 0)

theorem sums_nonneg (l : List ByteArray) : 0 ≤ (l.map fun s => (s.size : Int)).foldr (· + ·) 0 := by
  induction l with
  | nil => simp
  | cons a l ih => simp only [List.map_cons, List.foldr_cons]; omega

theorem sums_take (l : List ByteArray) (i : Nat) (h : i < l.length) : ((l.take (i + 1)).map fun s => (s.size : Int)).foldr (· + ·) 0 = ((l.take i).map fun s => (s.size : Int)).foldr (· + ·) 0 + ((rdOf ByteArray.empty l (i : Int)).size : Int) := by
  rw [rdOf_at _ _ _ h]
  induction l generalizing i with
  | nil => simp at h
  | cons a l ih =>
    cases i with
    | zero => simp
    | succ i =>
      simp only [List.take_succ_cons, List.map_cons, List.foldr_cons, List.getElem_cons_succ]
      rw [ih i (by simpa using h)]
      omega

theorem sums_le (l : List ByteArray) (i : Nat) : ((l.take i).map fun s => (s.size : Int)).foldr (· + ·) 0 ≤ (l.map fun s => (s.size : Int)).foldr (· + ·) 0 := by
  induction l generalizing i with
  | nil => simp
  | cons a l ih =>
    cases i with
    | zero => simp only [List.take_zero, List.map_nil, List.foldr_nil]; exact sums_nonneg _
    | succ i => simp only [List.take_succ_cons, List.map_cons, List.foldr_cons]; have := ih i; omega

/-- What is left of a, or -1. -/
theorem ev_szStringS (l : List ByteArray) (a : Int) (h0 : 0 ≤ a) (h1 : a ≤ 1048576) (hl : l.length ≤ 9223372036854775807) (hs : ∀ s ∈ l, s.size ≤ 9223372036854775807) :
    Ev (fun k => laws_szStringS.f k l a) (if wS l ≤ a then a - wS l else -1) := by
  have hn := sums_nonneg l
  have hw : wrap64 (a - (l.length : Int)) = a - l.length := w64 (by omega) (by omega)
  by_cases c : a - (l.length : Int) < 0
  · have e : (if wS l ≤ a then a - wS l else -1) = -1 := if_neg (by unfold wS; omega)
    rw [e]
    exact Ev.one (fun k => by unfold laws_szStringS.f; rw [hw, if_pos c])
  · have hc := loop_is (σ := Int) l.length (fun k s i => laws_szStringS.l0 k l s i) (fun i s => s = a - l.length - ((l.take i).map fun s => (s.size : Int)).foldr (· + ·) 0 ∧ 0 ≤ s) (if wS l ≤ a then a - wS l else -1)
      (fun i s hi ⟨hs', hs0⟩ => by
        have ht := sums_take l i hi
        have hsz : (rdOf ByteArray.empty l (i : Int)).size ≤ 9223372036854775807 := by
          rw [rdOf_at _ _ _ hi]
          exact hs _ (List.getElem_mem hi)
        have hs2 : s ≤ 1048576 := by have := sums_nonneg (l.take i); omega
        have hw2 : wrap64 (s - ((rdOf ByteArray.empty l (i : Int)).size : Int)) = s - (rdOf ByteArray.empty l (i : Int)).size := w64 (by omega) (by omega)
        by_cases c2 : s - ((rdOf ByteArray.empty l (i : Int)).size : Int) < 0
        · refine Or.inr ⟨0, fun k _ => ?_⟩
          simp only [laws_szStringS.l0]
          rw [if_pos (by omega), if_pos (by omega), hw2, if_pos c2, if_neg]
          have := sums_le l (i + 1)
          unfold wS
          omega
        · refine Or.inl ⟨s - (rdOf ByteArray.empty l (i : Int)).size, ⟨by omega, by omega⟩, 0, fun k _ => ?_⟩
          simp only [laws_szStringS.l0]
          rw [if_pos (by omega), if_pos (by omega), hw2, if_neg c2, up64 (by omega)])
      (fun s ⟨hs', hs0⟩ => ⟨0, fun k _ => by
        rw [List.take_length] at hs'
        simp only [laws_szStringS.l0]
        rw [if_neg (by omega), if_pos (by unfold wS; omega)]
        congr 1
        unfold wS
        omega⟩)
      (a - l.length) ⟨by simp, by omega⟩
    refine Ev.congr (fun k => ?_) hc
    unfold laws_szStringS.f
    rw [hw, if_neg c]


theorem ev_toStringS (l : List ByteArray) (h : l.length ≤ 17592186044416) : Ev (fun k => laws_toStringS.f k l) l := by
  have hc := copy_loop l.length (by omega) (fun i => rdOf ByteArray.empty l (i : Int)) (⟨#[]⟩ : ByteArray) (fun k ys i => laws_toStringS.l0 k l ys i)
    (fun i ys hi hl => ⟨0, fun k _ => by simp only [laws_toStringS.l0]; rw [if_pos (by omega), if_pos (by omega), if_pos (by omega), Int.toNat_natCast]⟩)
    (fun ys hl => ⟨0, fun k _ => by simp only [laws_toStringS.l0]; rw [if_neg (by omega)]⟩)
  have e : ((List.range l.length).map fun i => rdOf ByteArray.empty l ((i : Nat) : Int)) = l := by
    have := map_range_id ByteArray.empty l
    simpa [rdOf] using this
  rw [e] at hc
  refine Ev.congr (fun k => ?_) hc
  unfold laws_toStringS.f
  rw [if_pos (by omega), if_pos (by rw [Int.toNat_natCast]; omega), Int.toNat_natCast]


theorem ev_eqStringS (l : List ByteArray) (h : l.length ≤ 9223372036854775807) : Ev (fun k => laws_eqStringS.f k l l) true := by
  have hc := all_true l.length h (fun k i => laws_eqStringS.l0 k l l i) true
    (fun i hi => ⟨0, fun k _ => by simp only [laws_eqStringS.l0]; rw [if_pos (by omega), if_pos (by omega), if_pos (by omega)]; simp only [if_true]⟩)
    ⟨0, fun k _ => by simp only [laws_eqStringS.l0]; rw [if_neg (by omega)]⟩
  refine Ev.congr (fun k => ?_) hc
  unfold laws_eqStringS.f
  rw [if_pos rfl]


/-- bytes, as numbers -/
def nb (l : List UInt8) : List Int := l.map fun b => (b.toNat : Int)

theorem nb_append (a b : List UInt8) : nb (a ++ b) = nb a ++ nb b := List.map_append

theorem strOf (l : List UInt8) : strOfNums (nb l) = ⟨l.toArray⟩ := by
  unfold strOfNums nb
  rw [List.map_map]
  have : ((fun n : Int => UInt8.ofNat n.toNat) ∘ fun b : UInt8 => (b.toNat : Int)) = id := by
    funext b
    simp
  rw [this, List.map_id]

def ds (l : List ByteArray) : List (List UInt8) := l.map (·.data.toList)

theorem join_succ (l : List (List UInt8)) (s : List UInt8) (i : Nat) (h : i < l.length) : Go.Lib.join (l.take (i + 1)) s = if 0 < i then Go.Lib.join (l.take i) s ++ s ++ l[i] else l[i] := by
  cases l with
  | nil => simp at h
  | cons x r =>
    cases i with
    | zero => rw [if_neg (by omega)]; simp [Go.Lib.join_one]
    | succ i =>
      have hi : i < r.length := by simpa using h
      rw [if_pos (by omega)]
      have e : r.take (i + 1) = r.take i ++ [r[i]] := by rw [List.take_append_getElem]
      simp only [List.take_succ_cons, List.getElem_cons_succ]
      rw [Go.Lib.join_cons, Go.Lib.join_cons, e]
      unfold Go.Lib.joinTail
      rw [List.map_append, List.flatten_append]
      simp

theorem size_rd (l : List ByteArray) (i : Nat) (h : i < l.length) : ((rdOf ByteArray.empty l (i : Int)).size : Int) = ((ds l)[i]'(by simpa [ds] using h)).length := by
  rw [rdOf_at _ _ _ h]
  simp only [ds, List.getElem_map, Array.length_toList]
  rfl

theorem join_len (l : List ByteArray) (s : ByteArray) (hs : s.size ≤ 1048576) : ∀ i, i ≤ l.length → ((Go.Lib.join ((ds l).take i) s.data.toList).length : Int) ≤ i * 1048576 + ((l.take i).map fun s => (s.size : Int)).foldr (· + ·) 0 := by
  intro i
  induction i with
  | zero => intro _; simp [Go.Lib.join_nil]
  | succ i ih =>
    intro h
    have hi := ih (by omega)
    have hz : s.data.toList.length ≤ 1048576 := by rw [Array.length_toList]; exact hs
    rw [join_succ _ _ _ (by simp only [ds, List.length_map]; omega), sums_take l i (by omega), size_rd l i (by omega)]
    split
    · rw [List.length_append, List.length_append]
      omega
    · have := sums_nonneg (l.take i)
      omega

theorem ev_specJoin (l : List ByteArray) (s : ByteArray) (hs : s.size ≤ 1048576) (hw : wS l ≤ 1048576) : Ev (fun k => spec_Join.f k l s) ⟨(Go.Lib.join (ds l) s.data.toList).toArray⟩ := by
  have hl : l.length ≤ 1048576 := by have := sums_nonneg l; unfold wS at hw; omega
  have hc := loop_is (σ := List Int) l.length (fun k x i => spec_Join.l0 k l s x i) (fun i x => x = nb (Go.Lib.join ((ds l).take i) s.data.toList)) ⟨(Go.Lib.join (ds l) s.data.toList).toArray⟩
    (fun i x hi hx => by
      have hd : i < (ds l).length := by simpa [ds] using hi
      have b1 := join_len l s hs i (by omega)
      have b2 := sums_le l i
      have b3 := sums_take l i hi
      have b4 := sums_le l (i + 1)
      have hxl : x.length = (Go.Lib.join ((ds l).take i) s.data.toList).length := by rw [hx]; simp [nb]
      have e2 : bytesOf (rdOf ByteArray.empty l (i : Int)) = nb ((ds l)[i]) := by rw [rdOf_at _ _ _ hi]; simp only [ds, List.getElem_map]; rfl
      have e3 : bytesOf s = nb s.data.toList := rfl
      have b5 := sums_nonneg (l.take i)
      unfold wS at hw
      have hxb : (x.length : Int) ≤ 1099512676352 := by omega
      have hyb : ((rdOf ByteArray.empty l (i : Int)).size : Int) ≤ 1048576 := by omega
      refine Or.inl ⟨nb (Go.Lib.join ((ds l).take (i + 1)) s.data.toList), rfl, 0, fun k _ => ?_⟩
      simp only [spec_Join.l0]
      rw [if_pos (by omega), join_succ _ _ _ hd]
      by_cases c : 0 < i
      · rw [if_pos c, if_pos (by omega), if_pos (by omega)]
        simp only [Option.bind_some]
        rw [if_pos (by omega), if_pos (by rw [List.length_append, bytesOf_length]; omega), up64 (by omega), e2, e3, hx, nb_append, nb_append]
      · rw [if_neg c, if_neg (by omega), if_pos (by omega), if_pos (by omega), up64 (by omega), e2]
        obtain rfl : i = 0 := by omega
        have : x = [] := by rw [hx]; simp [Go.Lib.join_nil, nb]
        rw [this, List.nil_append])
    (fun x hx => ⟨0, fun k _ => by
      simp only [spec_Join.l0]
      rw [if_neg (by omega), hx, List.take_of_length_le (by simp [ds]), strOf]⟩)
    [] (by simp [Go.Lib.join_nil, nb])
  exact Ev.congr (fun k => rfl) hc

theorem implJoin_eq (l : List ByteArray) (s : ByteArray) (hs : s.size ≤ 1048576) (hw : wS l ≤ 1048576) : impl_Join.f l s = some ⟨(Go.Lib.join (ds l) s.data.toList).toArray⟩ := by
  have hl : l.length ≤ 1048576 := by have := sums_nonneg l; unfold wS at hw; omega
  have b1 := join_len l s hs l.length (by omega)
  rw [List.take_of_length_le (by simp [ds]), List.take_of_length_le (by omega)] at b1
  unfold wS at hw
  unfold impl_Join.f strings_Join.f
  rw [if_pos]
  · rfl
  · constructor
    · omega
    · have b2 : ((Go.Lib.join (l.map (·.data.toList)) s.data.toList).length : Int) ≤ 1099512676352 := by
        have b3 : ((Go.Lib.join (ds l) s.data.toList).length : Int) ≤ 1099512676352 := by omega
        exact b3
      omega

theorem FnExactJoin : laws_FnExactJoin.Pure := by
  intro v s hv hsz
  have hm : maxLen = 9223372036854775807 := rfl
  have hl : v.length ≤ 9223372036854775807 := by have := hv.1; omega
  have hs : ∀ s ∈ v, s.size ≤ 9223372036854775807 := fun s hs => by have := hv.2 s hs; omega
  by_cases c0 : (s.size : Int) > 1048576
  · exact ⟨0, by unfold laws_FnExactJoin.f; rw [if_pos c0]⟩
  have e1 := ev_szStringS v 1048576 (by omega) (by omega) hl hs
  generalize hr : (if wS v ≤ 1048576 then (1048576 - wS v : Int) else -1) = r at e1
  by_cases c : r < 0
  · obtain ⟨k, h1⟩ := Evt.ex e1
    dsimp only at h1
    exact ⟨k, by unfold laws_FnExactJoin.f; rw [if_neg c0, h1]; simp only [Option.bind_some]; rw [if_pos c]⟩
  have hw : wS v ≤ 1048576 := by
    by_cases c2 : wS v ≤ 1048576
    · exact c2
    · rw [if_neg c2] at hr; omega
  have hvl : v.length ≤ 1048576 := by have := sums_nonneg v; unfold wS at hw; omega
  obtain ⟨k, h1, h2, h3, h4⟩ := (Evt.and e1 (Evt.and (ev_toStringS v (by omega)) (Evt.and (ev_eqStringS v (by omega)) (ev_specJoin v s (by omega) hw)))).ex
  dsimp only at h1 h2 h3 h4
  refine ⟨k, ?_⟩
  unfold laws_FnExactJoin.f
  rw [if_neg c0, h1]
  simp only [Option.bind_some]
  rw [if_neg c]
  simp only [h2, h3, h4, implJoin_eq v s (by omega) hw, Option.bind_some, if_true]

end Go.Proofs.Ytnckhddciedceaa.Pure.LFnExactJoin
namespace Go.Proofs.Ytnckhddciedceaa.Pure
open Go.Proofs.Ytnckhddciedceaa.PFnExactJoin
theorem FnExactJoin : laws_FnExactJoin.Pure := LFnExactJoin.FnExactJoin
end Go.Proofs.Ytnckhddciedceaa.Pure
