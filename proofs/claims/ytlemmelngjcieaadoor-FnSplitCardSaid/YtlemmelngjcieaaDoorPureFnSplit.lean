/-
  The pure statement of laws.FnSplit: what the printed functions compute makes the law answer true, for every argument of its kinds (no further condition).
-/
import Derived.Test.YtlemmelngjcieaaDoorPFnSplitx2
import Derived.Test.YtlemmelngjcieaaDoorXPure
namespace Go.Proofs.YtlemmelngjcieaaDoor.Pure.LFnSplit
open Go.RowKit Go.Proofs.YtlemmelngjcieaaDoor.PFnSplit Go.Proofs.YtlemmelngjcieaaDoorW.PrintWords Go.Proofs.YtlemmelngjcieaaDoorW.PrintLast Go.Proofs.YtlemmelngjcieaaDoorX
set_option linter.unusedVariables false
set_option linter.unusedSimpArgs false

theorem and255 (x : Int) : 0 ≤ Go.bits .and .i64 x 255 ∧ Go.bits .and .i64 x 255 ≤ 255 := by
  have h : (BitVec.ofInt 64 (255 : Int)).toNat = 255 := by decide
  have hl : (BitVec.ofInt 64 x).toNat &&& 255 ≤ 255 := Nat.and_le_right
  have e : Go.bits .and .i64 x 255 = IntKind.i64.wrap (((BitVec.ofInt 64 x) &&& (BitVec.ofInt 64 (255 : Int)) : BitVec 64).toNat : Int) := rfl
  rw [BitVec.toNat_and, h] at e
  rw [e, IntKind.wrap_i64]
  omega

/-- where a reader stands -/
def St (i : Int) : Prop := 0 ≤ i ∧ i ≤ 1048576

theorem l1Byte_ok (b : List Int) (i h : Int) (hb : b.length ≤ 1048576) (hi : St i) : ∃ r i' h', spec_l1Byte.f b i h = some (r, i', h') ∧ 0 ≤ r ∧ r ≤ 255 ∧ St i' := by
  unfold spec_l1Byte.f
  have hi0 := hi.1
  by_cases c : i < (b.length : Int)
  · rw [if_pos c, if_pos hi0]
    refine ⟨_, _, _, rfl, (and255 _).1, (and255 _).2, ?_⟩
    rw [w64 (by omega) (by omega)]
    exact ⟨by omega, by omega⟩
  · rw [if_neg c]
    exact ⟨_, _, _, rfl, (and255 _).1, (and255 _).2, hi⟩

theorem l1Below_ok (b : List Int) (i h n : Int) (hb : b.length ≤ 1048576) (hi : St i) : ∃ r i' h', spec_l1Below.f b i h n = some (r, i', h') ∧ 0 ≤ r ∧ (0 < n → r < n) ∧ (n ≤ 0 → r = 0) ∧ St i' := by
  unfold spec_l1Below.f
  by_cases c : n ≤ 0
  · rw [if_pos c]
    exact ⟨_, _, _, rfl, by omega, fun h => by omega, fun _ => rfl, hi⟩
  · rw [if_neg c]
    obtain ⟨r1, i1, h1, e1, p1, q1, s1⟩ := l1Byte_ok b i h hb hi
    by_cases c2 : n ≤ 256
    · rw [if_pos c2, e1]
      simp only [Option.bind_some]
      rw [if_neg (by omega)]
      exact ⟨_, _, _, rfl, Int.tmod_nonneg _ p1, fun h => Int.tmod_lt_of_pos _ h, fun h => by omega, s1⟩
    · obtain ⟨r2, i2, h2, e2, p2, q2, s2⟩ := l1Byte_ok b i1 h1 hb s1
      obtain ⟨r3, i3, h3, e3, p3, q3, s3⟩ := l1Byte_ok b i2 h2 hb s2
      obtain ⟨r4, i4, h4, e4, p4, q4, s4⟩ := l1Byte_ok b i3 h3 hb s3
      rw [if_neg c2, e1]
      simp only [Option.bind_some, e2, e3, e4]
      rw [if_neg (by omega)]
      refine ⟨_, _, _, rfl, Int.tmod_nonneg _ ?_, fun h => Int.tmod_lt_of_pos _ h, fun h => by omega, s4⟩
      rw [w64 (x := r1 * 16777216) (by omega) (by omega), w64 (x := r2 * 65536) (by omega) (by omega), w64 (x := r3 * 256) (by omega) (by omega), w64 (x := r1 * 16777216 + r2 * 65536) (by omega) (by omega), w64 (x := r1 * 16777216 + r2 * 65536 + r3 * 256) (by omega) (by omega), w64 (by omega) (by omega)]
      omega

theorem ev_l1New (l : List Int) (h : l.length ≤ 1048576) : ∃ g, Ev (fun k => spec_l1New.f k l) (l, 0, g) := by
  obtain ⟨r, hr, he⟩ := loop_ev (σ := Int) l.length (fun k s i => spec_l1New.l0 k l s i) (fun _ _ => True) (fun r => ∃ g, r = (l, 0, g))
    (fun i s hi _ => by
      by_cases c : (i : Int) < 4000
      · exact Or.inl ⟨_, trivial, 0, fun k _ => by simp only [spec_l1New.l0]; rw [if_pos (by omega), if_pos c, if_pos (by omega), up64 (by omega)]⟩
      · exact Or.inr ⟨_, ⟨s, rfl⟩, 0, fun k _ => by simp only [spec_l1New.l0]; rw [if_pos (by omega), if_neg c]⟩)
    (fun s _ => ⟨_, ⟨s, rfl⟩, 0, fun k _ => by simp only [spec_l1New.l0]; rw [if_neg (by omega)]⟩)
    l.length 0 (wrap64 (26583 + (l.length : Int))) (by omega) (by omega) trivial
  obtain ⟨g, rfl⟩ := hr
  exact ⟨g, Ev.congr (fun k => rfl) he⟩

theorem st0 : St 0 := ⟨by omega, by omega⟩


theorem l1Pick_ok (b : List Int) (i h : Int) (l : List ByteArray) (hb : b.length ≤ 1048576) (hi : St i) (hl : 0 < l.length) : ∃ r i' h', spec_l1Pick.f b i h l = some (r, i', h') ∧ r ∈ l ∧ St i' := by
  unfold spec_l1Pick.f
  obtain ⟨r, i', h', e, p, q, _, s⟩ := l1Below_ok b i h (l.length : Int) hb hi
  have q' := q (by omega)
  rw [e]
  simp only [Option.bind_some]
  rw [if_pos p, if_pos q']
  refine ⟨_, _, _, rfl, ?_, s⟩
  obtain ⟨m, rfl⟩ := Int.eq_ofNat_of_zero_le p
  rw [rdOf_at _ _ _ (by omega)]
  exact List.getElem_mem _


theorem l1PickInt_ok (b : List Int) (i h : Int) (l : List Int) (hb : b.length ≤ 1048576) (hi : St i) (hl : 0 < l.length) : ∃ r i' h', spec_l1PickInt.f b i h l = some (r, i', h') ∧ r ∈ l ∧ St i' := by
  unfold spec_l1PickInt.f
  obtain ⟨r, i', h', e, p, q, _, s⟩ := l1Below_ok b i h (l.length : Int) hb hi
  have q' := q (by omega)
  rw [e]
  simp only [Option.bind_some]
  rw [if_pos p, if_pos q']
  refine ⟨_, _, _, rfl, ?_, s⟩
  obtain ⟨m, rfl⟩ := Int.eq_ofNat_of_zero_le p
  rw [rd_at _ _ (by omega)]
  exact List.getElem_mem _

theorem ext_list (s : ByteArray) (a b : Nat) : (s.extract a b).data.toList = (s.data.toList.drop a).take (b - a) := by
  simp [ByteArray.data_extract, List.extract_eq_drop_take']

theorem len_list (s : ByteArray) : s.data.toList.length = s.size := by
  rw [Array.length_toList]
  rfl

theorem tl (s : ByteArray) (a : Nat) : (s.extract a s.size).data.toList = s.data.toList.drop a := by
  rw [ext_list, List.take_of_length_le (by rw [List.length_drop, len_list]; omega)]

theorem bext {a b : ByteArray} (h : a.data.toList = b.data.toList) : a = b := by
  apply ByteArray.ext
  exact Array.toList_inj.mp h

theorem ee1 (s : ByteArray) (f i : Nat) (h : f ≤ i) (h2 : i ≤ s.size) : (s.extract f s.size).extract 0 (i - f + 0) = s.extract f i := by
  apply bext
  rw [ext_list, ext_list, ext_list, List.drop_zero, List.take_take]
  congr 1
  omega

theorem ee2 (s : ByteArray) (f i : Nat) (h : f ≤ i) : (s.extract f s.size).extract (i - f + 1) (s.extract f s.size).size = s.extract (i + 1) s.size := by
  apply bext
  rw [tl, tl, tl, List.drop_drop]
  congr 1
  omega

theorem ib_hit (c : UInt8) : ∀ (l : List UInt8) (d : Nat) (hd : d < l.length), l[d] = c → (∀ j (hj : j < d), l[j]'(by omega) ≠ c) → Go.Lib.indexByte l c = d
  | [], d, hd, _, _ => by simp at hd
  | b :: l, 0, _, h, _ => by
    have hb : b = c := h
    unfold Go.Lib.indexByte
    simp [hb]
  | b :: l, d + 1, hd, h, hn => by
    have h0 : b ≠ c := hn 0 (by omega)
    have ih := ib_hit c l d (by simpa using hd) (by simpa using h) (fun j hj => by simpa using hn (j + 1) (by omega))
    unfold Go.Lib.indexByte
    rw [if_neg (by simpa using h0), ih, if_neg (by simp)]
    omega

theorem ib_miss (c : UInt8) : ∀ (l : List UInt8), (∀ j (hj : j < l.length), l[j] ≠ c) → Go.Lib.indexByte l c = -1
  | [], _ => rfl
  | b :: l, hn => by
    have h0 : b ≠ c := hn 0 (by simp)
    have ih := ib_miss c l (fun j hj => hn (j + 1) (by simpa using hj))
    unfold Go.Lib.indexByte
    rw [if_neg (by simpa using h0), ih, if_pos (by decide)]

/-- what is still to be cut, from a place on -/
def cuts (s sep : ByteArray) (f : Nat) : List ByteArray := Go.Lib.splitB sep 0 (Go.Lib.countB (s.extract f s.size) sep) (s.extract f s.size)

theorem cuts_hit (s : ByteArray) (c : UInt8) (f i : Nat) (h : f ≤ i) (h2 : i < s.size) (hc : s.data.toList[i]'(by rw [len_list]; exact h2) = c) (hn : ∀ j (hj : f ≤ j) (hj2 : j < i), s.data.toList[j]'(by rw [len_list]; omega) ≠ c) :
    cuts s ⟨#[c]⟩ f = s.extract f i :: cuts s ⟨#[c]⟩ (i + 1) := by
  have hlen : (s.data.toList.drop f).length = s.size - f := by rw [List.length_drop, len_list]
  have hidx : Go.Lib.indexB (s.extract f s.size) ⟨#[c]⟩ = ((i - f : Nat) : Int) := by
    show Go.Lib.index (s.extract f s.size).data.toList [c] = _
    rw [tl, Go.Lib.index_one]
    refine ib_hit c _ (i - f) (by omega) ?_ (fun j hj => ?_)
    · rw [List.getElem_drop]
      simp only [show f + (i - f) = i by omega]
      exact hc
    · rw [List.getElem_drop]
      exact hn (f + j) (by omega) (by omega)
  unfold cuts
  rw [Go.Lib.countB_hit _ _ (i - f) (show 1 ≤ (⟨#[c]⟩ : ByteArray).size from Nat.le_refl 1) hidx, Nat.add_comm 1, Go.Lib.splitB_hit _ _ _ _ (i - f) hidx, ee1 s f i h (by omega)]
  rw [show (⟨#[c]⟩ : ByteArray).size = 1 from rfl, ee2 s f i h]

theorem cuts_miss (s : ByteArray) (c : UInt8) (f : Nat) (hn : ∀ j (hj : f ≤ j) (hj2 : j < s.size), s.data.toList[j]'(by rw [len_list]; omega) ≠ c) :
    cuts s ⟨#[c]⟩ f = [s.extract f s.size] := by
  have hlen : (s.data.toList.drop f).length = s.size - f := by rw [List.length_drop, len_list]
  have hidx : Go.Lib.indexB (s.extract f s.size) ⟨#[c]⟩ = -1 := by
    show Go.Lib.index (s.extract f s.size).data.toList [c] = _
    rw [tl, Go.Lib.index_one]
    refine ib_miss c _ (fun j hj => ?_)
    rw [List.getElem_drop]
    exact hn (f + j) (by omega) (by omega)
  unfold cuts
  exact Go.Lib.splitB_miss _ _ _ _ hidx

theorem bt_list (s : ByteArray) (i : Nat) (h : i < s.size) : bt s (i : Int) = ((s.data.toList[i]'(by rw [len_list]; exact h)).toNat : Int) := by
  unfold bt
  rw [dif_pos (by rw [Int.toNat_natCast]; exact h)]
  simp only [Int.toNat_natCast, Array.getElem_toList]
  rfl

theorem ev_specSplit (s : ByteArray) (c : UInt8) (hs : s.size ≤ 1048576) : Ev (fun k => spec_SplitByte.f k s (c.toNat : Int)) (cuts s ⟨#[c]⟩ 0) := by
  have hc := loop_is (σ := List ByteArray × Int) (s.size + 1) (fun k st i => spec_SplitByte.l0 k s (c.toNat : Int) st.1 st.2 i)
    (fun i st => (i ≤ s.size → ∃ f : Nat, st.2 = (f : Int) ∧ f ≤ i ∧ (∀ j (hj : f ≤ j) (hj2 : j < i) (h3 : j < s.size), s.data.toList[j]'(by rw [len_list]; exact h3) ≠ c) ∧ st.1 ++ cuts s ⟨#[c]⟩ f = cuts s ⟨#[c]⟩ 0 ∧ st.1.length ≤ i) ∧ (s.size < i → st.1 = cuts s ⟨#[c]⟩ 0)) (cuts s ⟨#[c]⟩ 0)
    (fun i st hi ⟨hI, _⟩ => by
      obtain ⟨f, hf, hfi, hn, ho, hl⟩ := hI (by omega)
      by_cases e : i = s.size
      · refine Or.inl ⟨(st.1 ++ [s.extract f i], ((i + 1 : Nat) : Int)), ⟨fun h => by omega, fun _ => ?_⟩, 0, fun k _ => ?_⟩
        · have := cuts_miss s c f (fun j hj hj2 => hn j hj (by omega) hj2)
          rw [this] at ho
          subst e
          exact ho
        · simp only [spec_SplitByte.l0]
          rw [if_pos (by omega), if_pos (by omega), hf, if_pos (by omega), if_pos (by omega), if_pos (by omega), up64 (by omega), Int.toNat_natCast, Int.toNat_natCast]
      · have hlt : i < s.size := by omega
        by_cases e2 : s.data.toList[i]'(by rw [len_list]; exact hlt) = c
        · refine Or.inl ⟨(st.1 ++ [s.extract f i], ((i + 1 : Nat) : Int)), ⟨fun h => ⟨i + 1, rfl, Nat.le_refl _, fun j hj hj2 _ => by omega, ?_, by simp; omega⟩, fun h => by omega⟩, 0, fun k _ => ?_⟩
          · rw [cuts_hit s c f i hfi hlt e2 (fun j hj hj2 => hn j hj hj2 (by omega))] at ho
            simpa using ho
          · simp only [spec_SplitByte.l0]
            rw [if_pos (by omega), if_neg (by omega), if_pos (by omega), if_pos (by omega), bt_list s i hlt, e2, if_pos rfl, hf, if_pos (by omega), if_pos (by omega), if_pos (by omega), up64 (by omega), Int.toNat_natCast, Int.toNat_natCast]
        · refine Or.inl ⟨st, ⟨fun h => ⟨f, hf, by omega, fun j hj hj2 h3 => ?_, ho, by omega⟩, fun h => by omega⟩, 0, fun k _ => ?_⟩
          · by_cases ej : j = i
            · subst ej; exact e2
            · exact hn j hj (by omega) h3
          · simp only [spec_SplitByte.l0]
            have hne : ¬ bt s (i : Int) = (c.toNat : Int) := by
              rw [bt_list s i hlt]
              intro h
              exact e2 (UInt8.toNat_inj.mp (by omega))
            rw [if_pos (by omega), if_neg (by omega), if_pos (by omega), if_pos (by omega), if_neg hne, up64 (by omega)])
    (fun st ⟨_, hI⟩ => ⟨0, fun k _ => by simp only [spec_SplitByte.l0]; rw [if_neg (by omega), hI (by omega)]⟩)
    ([], 0) ⟨fun _ => ⟨0, rfl, Nat.le_refl _, fun j hj hj2 _ => by omega, rfl, Nat.le_refl _⟩, fun h => by omega⟩
  exact Ev.congr (fun k => rfl) hc
theorem all_cuts (s : ByteArray) (c : UInt8) : (cuts s ⟨#[c]⟩ 0) = Go.Lib.splitB ⟨#[c]⟩ 0 (Go.Lib.countB s ⟨#[c]⟩) s := by
  have : s.extract 0 s.size = s := by
    apply bext
    rw [tl, List.drop_zero]
  unfold cuts
  rw [this]

theorem cuts_length (s : ByteArray) (c : UInt8) : (cuts s ⟨#[c]⟩ 0).length = Go.Lib.countB s ⟨#[c]⟩ + 1 := by
  rw [all_cuts]
  exact Go.Lib.splitB_all _ (show 1 ≤ (⟨#[c]⟩ : ByteArray).size from Nat.le_refl 1) 0 _ s rfl

theorem implSplit (s : ByteArray) (c : UInt8) (hs : s.size ≤ 1048576) : impl_SplitByte.f s (c.toNat : Int) = some (cuts s ⟨#[c]⟩ 0) := by
  have hm : maxLen = 9223372036854775807 := rfl
  have e : strOfNums (([(c.toNat : Int)] : List Int)) = ⟨#[c]⟩ := by
    unfold strOfNums
    simp
  have hcl := Go.Lib.countB_le ⟨#[c]⟩ (show 1 ≤ (⟨#[c]⟩ : ByteArray).size from Nat.le_refl 1) s.size s (Nat.le_refl _)
  unfold impl_SplitByte.f strings_Split.f
  rw [e, if_pos ⟨by omega, (show 1 ≤ (⟨#[c]⟩ : ByteArray).size from Nat.le_refl 1), by rw [← all_cuts]; exact cuts_length s c, by omega⟩, ← all_cuts]
  rfl


def texts : List ByteArray := [(⟨#[]⟩ : ByteArray), (⟨#[97]⟩ : ByteArray), (⟨#[97, 44, 98]⟩ : ByteArray), (⟨#[44]⟩ : ByteArray), (⟨#[97, 44, 44, 98, 44]⟩ : ByteArray), (⟨#[97, 10, 98, 10]⟩ : ByteArray)]

theorem all_texts : ∀ s ∈ texts, ∀ c ∈ ([44, 10] : List UInt8), s.size ≤ 5 ∧ (Go.Lib.splitB ⟨#[c]⟩ 0 (Go.Lib.countB s ⟨#[c]⟩) s).length ≤ 6 ∧ Go.Lib.join ((Go.Lib.splitB ⟨#[c]⟩ 0 (Go.Lib.countB s ⟨#[c]⟩) s).map (·.data.toList)) [c] = s.data.toList ∧ ∀ p ∈ Go.Lib.splitB ⟨#[c]⟩ 0 (Go.Lib.countB s ⟨#[c]⟩) s, p.size ≤ 5 ∧ Go.Lib.countB p ⟨#[c]⟩ = 0 := by decide +kernel

theorem FnSplit : laws_FnSplit.Pure := by
  intro l hl
  by_cases c0 : l.length > 1048576
  · refine ⟨0, ?_⟩
    unfold laws_FnSplit.f laws_big.f
    rw [decide_eq_true (show (l.length : Int) > 1048576 by omega)]
    simp only [Option.bind_some, if_true]
  have h : l.length ≤ 1048576 := by omega
  obtain ⟨g, hnew⟩ := ev_l1New l h
  obtain ⟨s, i1, h1, e1, hs, s1⟩ := l1Pick_ok l 0 g texts h st0 (by decide)
  obtain ⟨b, i2, h2, e2, hb, s2⟩ := l1PickInt_ok l i1 h1 [44, 10] h s1 (by decide)
  obtain ⟨c, hc, hbc⟩ : ∃ c ∈ ([44, 10] : List UInt8), b % 256 = (c.toNat : Int) := by
    rcases List.mem_cons.mp hb with rfl | hb
    · exact ⟨44, by decide, by decide⟩
    · rw [List.mem_singleton.mp hb]
      exact ⟨10, by decide, by decide⟩
  obtain ⟨t1, t2, t3, t4⟩ := all_texts s hs c hc
  rw [← all_cuts] at t2 t3 t4
  have hstr : strOfNums (([(c.toNat : Int)] : List Int)) = ⟨#[c]⟩ := by
    unfold strOfNums
    simp
  have hjoin : impl_Join.f (cuts s ⟨#[c]⟩ 0) ⟨#[c]⟩ = some s := by
    unfold impl_Join.f strings_Join.f
    have e : (⟨#[c]⟩ : ByteArray).data.toList = [c] := rfl
    rw [e, t3, if_pos ⟨by omega, by rw [len_list]; omega⟩]
    simp only [Option.bind_some]
  have hloop := all_true (cuts s ⟨#[c]⟩ 0).length (by omega) (fun k i => laws_FnSplit.l0 k (c.toNat : Int) (cuts s ⟨#[c]⟩ 0) i) true
    (fun i hi => by
      have hm := t4 _ (List.getElem_mem hi)
      refine ⟨0, fun k _ => ?_⟩
      simp only [laws_FnSplit.l0]
      rw [if_pos (by omega), if_pos (by omega), rdOf_at _ _ _ hi, implSplit _ c (by omega)]
      simp only [Option.bind_some]
      rw [if_pos (by rw [cuts_length, hm.2]; rfl)])
    ⟨0, fun k _ => by simp only [laws_FnSplit.l0]; rw [if_neg (by omega)]⟩
  obtain ⟨K, hK⟩ := Evt.and hnew (Evt.and (ev_specSplit s c (by omega)) hloop)
  obtain ⟨_, _, g3⟩ := hK K (Nat.le_refl _)
  obtain ⟨g1, g2, _⟩ := hK (K + 1) (by omega)
  dsimp only at g1 g2 g3
  refine ⟨K + 1, ?_⟩
  unfold laws_FnSplit.f laws_big.f spec_DrawSplitByte.f
  have cb : decide ((l.length : Int) > 1048576) = false := decide_eq_false (by omega)
  unfold texts at e1
  rw [cb]
  simp only [Option.bind_some, g1, e1, e2, hbc, implSplit s c (by omega), hstr, hjoin, g2, laws_FnSplit.j0, g3, if_true]
  simp

end Go.Proofs.YtlemmelngjcieaaDoor.Pure.LFnSplit
namespace Go.Proofs.YtlemmelngjcieaaDoor.Pure
open Go.Proofs.YtlemmelngjcieaaDoor.PFnSplit
theorem FnSplit : laws_FnSplit.Pure := LFnSplit.FnSplit
end Go.Proofs.YtlemmelngjcieaaDoor.Pure
