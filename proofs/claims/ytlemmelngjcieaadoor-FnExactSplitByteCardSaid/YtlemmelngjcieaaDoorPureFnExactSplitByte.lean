/-
  The pure statement of laws.FnExactSplitByte: what the printed functions compute makes the law answer true, for every argument of its kinds (no further condition).
-/
import Derived.Test.YtlemmelngjcieaaDoorPFnExactSplitBytex2
import Derived.Test.YtlemmelngjcieaaDoorXPure
namespace Go.Proofs.YtlemmelngjcieaaDoor.Pure.LFnExactSplitByte
open Go.RowKit Go.Proofs.YtlemmelngjcieaaDoor.PFnExactSplitByte Go.Proofs.YtlemmelngjcieaaDoorW.PrintWords Go.Proofs.YtlemmelngjcieaaDoorW.PrintLast Go.Proofs.YtlemmelngjcieaaDoorX
set_option linter.unusedVariables false
set_option linter.unusedSimpArgs false

theorem ev_eqStringS (l : List ByteArray) (h : l.length ≤ 9223372036854775807) : Ev (fun k => laws_eqStringS.f k l l) true := by
  have hc := all_true l.length h (fun k i => laws_eqStringS.l0 k l l i) true
    (fun i hi => ⟨0, fun k _ => by simp only [laws_eqStringS.l0]; rw [if_pos (by omega), if_pos (by omega), if_pos (by omega)]; simp only [if_true]⟩)
    ⟨0, fun k _ => by simp only [laws_eqStringS.l0]; rw [if_neg (by omega)]⟩
  refine Ev.congr (fun k => ?_) hc
  unfold laws_eqStringS.f
  rw [if_pos rfl]


theorem strOfNums_one (a : Int) : (strOfNums [a]).size = 1 := by
  first | rfl | simp [strOfNums]

theorem ev_markTextGo : ∀ (m n : Nat), n ≤ m → ∀ s : ByteArray, s.size + n ≤ 1000000000000 → ∃ r, Ev (fun k => laws_markText.l0 k (n : Int) s) r := by
  intro m
  induction m with
  | zero =>
    intro n hn s hs
    exact ⟨_, Ev.last ⟨0, fun k _ => by simp only [laws_markText.l0]; rw [if_neg (by omega), if_pos (by omega)]⟩⟩
  | succ m ih =>
    intro n hn s hs
    by_cases c : n = 0
    · exact ⟨_, Ev.last ⟨0, fun k _ => by simp only [laws_markText.l0]; rw [if_neg (by omega), if_pos (by omega)]⟩⟩
    · have hd : n / 10 ≤ n - 1 := by omega
      obtain ⟨r, hr⟩ := ih (n / 10) (by omega) (strOfNums [(wrap64 (48 + (Int.tmod (n : Int) 10))) % 256] ++ s) (by rw [ByteArray.size_append, strOfNums_one]; omega)
      refine ⟨r, Ev.next ⟨0, fun k _ => ?_⟩ hr⟩
      simp only [laws_markText.l0, Option.bind_some]
      rw [if_pos (by omega), if_pos (by rw [strOfNums_one]; omega), show Int.tdiv (n : Int) 10 = ((n / 10 : Nat) : Int) from by rw [Int.tdiv_eq_ediv_of_nonneg (by omega)]; omega, w64 (by omega) (by omega)]

theorem ev_markText (x : Int) (h0 : 0 ≤ x) (h1 : x ≤ 100000000000) : ∃ r, Ev (fun k => laws_markText.f k x) r := by
  obtain ⟨n, rfl⟩ := Int.eq_ofNat_of_zero_le h0
  by_cases c : (n : Int) ≤ 0
  · exact ⟨_, Ev.one (fun k => by unfold laws_markText.f; rw [if_pos c])⟩
  · obtain ⟨r, hr⟩ := ev_markTextGo n n (by omega) ⟨#[]⟩ (by show 0 + n ≤ _; omega)
    exact ⟨r, Ev.congr (fun k => by unfold laws_markText.f; rw [if_neg c]) hr⟩

theorem ev_markStringAny (l : List ByteArray) (a : Int) (h0 : 0 ≤ a) (h1 : l.length ≤ 1048576) (h2 : a ≤ 1000000000) : ∃ l', Ev (fun k => laws_markStringS.f k l a) (a + l.length, l') := by
  obtain ⟨r, ⟨l', hr⟩, he⟩ := loop_ev (σ := List ByteArray × Int) l.length (fun k s i => laws_markStringS.l0 k s.1 s.2 i) (fun i s => s.1.length = l.length ∧ s.2 = a + i) (fun r => ∃ l', r = (a + l.length, l'))
    (fun i s hi ⟨hl, hs⟩ => by
      obtain ⟨t, K, hK⟩ := ev_markText s.2 (by omega) (by omega)
      refine Or.inl ⟨(s.1.set i t, s.2 + 1), ⟨by simp [hl], by simp only [hs]; omega⟩, K, fun k hk => ?_⟩
      have g := hK k hk
      dsimp only at g
      simp only [laws_markStringS.l0]
      rw [if_pos (by omega), g]
      simp only [Option.bind_some]
      rw [if_pos (by omega), Int.toNat_natCast, up64 (by omega), w64 (by omega) (by omega)])
    (fun s ⟨hl, hs⟩ => ⟨_, ⟨s.1, rfl⟩, 0, fun k _ => by simp only [laws_markStringS.l0]; rw [if_neg (by omega), hs]⟩)
    l.length 0 (l, a) (by omega) (by omega) ⟨rfl, by omega⟩
  subst hr
  exact ⟨l', Ev.congr (fun k => by unfold laws_markStringS.f; rfl) he⟩

theorem ext_list (s : ByteArray) (a b : Nat) : (s.extract a b).data.toList = (s.data.toList.drop a).take (b - a) := by
  simp [ByteArray.data_extract, List.extract_eq_drop_take']

theorem len_list (s : ByteArray) : s.data.toList.length = s.size := by
  rw [Array.length_toList]
  rfl

theorem tl (s : ByteArray) (a : Nat) : (s.extract a s.size).data.toList = s.data.toList.drop a := by
  rw [ext_list, List.take_of_length_le (by rw [List.length_drop, len_list]; omega)]

theorem bext {a b : ByteArray} (h : a.data.toList = b.data.toList) : a = b := by
  apply ByteArray.ext
  exact Array.toList_inj.mp h

theorem ee1 (s : ByteArray) (f i : Nat) (h : f ≤ i) (h2 : i ≤ s.size) : (s.extract f s.size).extract 0 (i - f + 0) = s.extract f i := by
  apply bext
  rw [ext_list, ext_list, ext_list, List.drop_zero, List.take_take]
  congr 1
  omega

theorem ee2 (s : ByteArray) (f i : Nat) (h : f ≤ i) : (s.extract f s.size).extract (i - f + 1) (s.extract f s.size).size = s.extract (i + 1) s.size := by
  apply bext
  rw [tl, tl, tl, List.drop_drop]
  congr 1
  omega

theorem ib_hit (c : UInt8) : ∀ (l : List UInt8) (d : Nat) (hd : d < l.length), l[d] = c → (∀ j (hj : j < d), l[j]'(by omega) ≠ c) → Go.Lib.indexByte l c = d
  | [], d, hd, _, _ => by simp at hd
  | b :: l, 0, _, h, _ => by
    have hb : b = c := h
    unfold Go.Lib.indexByte
    simp [hb]
  | b :: l, d + 1, hd, h, hn => by
    have h0 : b ≠ c := hn 0 (by omega)
    have ih := ib_hit c l d (by simpa using hd) (by simpa using h) (fun j hj => by simpa using hn (j + 1) (by omega))
    unfold Go.Lib.indexByte
    rw [if_neg (by simpa using h0), ih, if_neg (by simp)]
    omega

theorem ib_miss (c : UInt8) : ∀ (l : List UInt8), (∀ j (hj : j < l.length), l[j] ≠ c) → Go.Lib.indexByte l c = -1
  | [], _ => rfl
  | b :: l, hn => by
    have h0 : b ≠ c := hn 0 (by simp)
    have ih := ib_miss c l (fun j hj => hn (j + 1) (by simpa using hj))
    unfold Go.Lib.indexByte
    rw [if_neg (by simpa using h0), ih, if_pos (by decide)]

/-- what is still to be cut, from a place on -/
def cuts (s sep : ByteArray) (f : Nat) : List ByteArray := Go.Lib.splitB sep 0 (Go.Lib.countB (s.extract f s.size) sep) (s.extract f s.size)

theorem cuts_hit (s : ByteArray) (c : UInt8) (f i : Nat) (h : f ≤ i) (h2 : i < s.size) (hc : s.data.toList[i]'(by rw [len_list]; exact h2) = c) (hn : ∀ j (hj : f ≤ j) (hj2 : j < i), s.data.toList[j]'(by rw [len_list]; omega) ≠ c) :
    cuts s ⟨#[c]⟩ f = s.extract f i :: cuts s ⟨#[c]⟩ (i + 1) := by
  have hlen : (s.data.toList.drop f).length = s.size - f := by rw [List.length_drop, len_list]
  have hidx : Go.Lib.indexB (s.extract f s.size) ⟨#[c]⟩ = ((i - f : Nat) : Int) := by
    show Go.Lib.index (s.extract f s.size).data.toList [c] = _
    rw [tl, Go.Lib.index_one]
    refine ib_hit c _ (i - f) (by omega) ?_ (fun j hj => ?_)
    · rw [List.getElem_drop]
      simp only [show f + (i - f) = i by omega]
      exact hc
    · rw [List.getElem_drop]
      exact hn (f + j) (by omega) (by omega)
  unfold cuts
  rw [Go.Lib.countB_hit _ _ (i - f) (show 1 ≤ (⟨#[c]⟩ : ByteArray).size from Nat.le_refl 1) hidx, Nat.add_comm 1, Go.Lib.splitB_hit _ _ _ _ (i - f) hidx, ee1 s f i h (by omega)]
  rw [show (⟨#[c]⟩ : ByteArray).size = 1 from rfl, ee2 s f i h]

theorem cuts_miss (s : ByteArray) (c : UInt8) (f : Nat) (hn : ∀ j (hj : f ≤ j) (hj2 : j < s.size), s.data.toList[j]'(by rw [len_list]; omega) ≠ c) :
    cuts s ⟨#[c]⟩ f = [s.extract f s.size] := by
  have hlen : (s.data.toList.drop f).length = s.size - f := by rw [List.length_drop, len_list]
  have hidx : Go.Lib.indexB (s.extract f s.size) ⟨#[c]⟩ = -1 := by
    show Go.Lib.index (s.extract f s.size).data.toList [c] = _
    rw [tl, Go.Lib.index_one]
    refine ib_miss c _ (fun j hj => ?_)
    rw [List.getElem_drop]
    exact hn (f + j) (by omega) (by omega)
  unfold cuts
  exact Go.Lib.splitB_miss _ _ _ _ hidx

theorem bt_list (s : ByteArray) (i : Nat) (h : i < s.size) : bt s (i : Int) = ((s.data.toList[i]'(by rw [len_list]; exact h)).toNat : Int) := by
  unfold bt
  rw [dif_pos (by rw [Int.toNat_natCast]; exact h)]
  simp only [Int.toNat_natCast, Array.getElem_toList]
  rfl

theorem ev_specSplit (s : ByteArray) (c : UInt8) (hs : s.size ≤ 1048576) : Ev (fun k => spec_SplitByte.f k s (c.toNat : Int)) (cuts s ⟨#[c]⟩ 0) := by
  have hc := loop_is (σ := List ByteArray × Int) (s.size + 1) (fun k st i => spec_SplitByte.l0 k s (c.toNat : Int) st.1 st.2 i)
    (fun i st => (i ≤ s.size → ∃ f : Nat, st.2 = (f : Int) ∧ f ≤ i ∧ (∀ j (hj : f ≤ j) (hj2 : j < i) (h3 : j < s.size), s.data.toList[j]'(by rw [len_list]; exact h3) ≠ c) ∧ st.1 ++ cuts s ⟨#[c]⟩ f = cuts s ⟨#[c]⟩ 0 ∧ st.1.length ≤ i) ∧ (s.size < i → st.1 = cuts s ⟨#[c]⟩ 0)) (cuts s ⟨#[c]⟩ 0)
    (fun i st hi ⟨hI, _⟩ => by
      obtain ⟨f, hf, hfi, hn, ho, hl⟩ := hI (by omega)
      by_cases e : i = s.size
      · refine Or.inl ⟨(st.1 ++ [s.extract f i], ((i + 1 : Nat) : Int)), ⟨fun h => by omega, fun _ => ?_⟩, 0, fun k _ => ?_⟩
        · have := cuts_miss s c f (fun j hj hj2 => hn j hj (by omega) hj2)
          rw [this] at ho
          subst e
          exact ho
        · simp only [spec_SplitByte.l0]
          rw [if_pos (by omega), if_pos (by omega), hf, if_pos (by omega), if_pos (by omega), if_pos (by omega), up64 (by omega), Int.toNat_natCast, Int.toNat_natCast]
      · have hlt : i < s.size := by omega
        by_cases e2 : s.data.toList[i]'(by rw [len_list]; exact hlt) = c
        · refine Or.inl ⟨(st.1 ++ [s.extract f i], ((i + 1 : Nat) : Int)), ⟨fun h => ⟨i + 1, rfl, Nat.le_refl _, fun j hj hj2 _ => by omega, ?_, by simp; omega⟩, fun h => by omega⟩, 0, fun k _ => ?_⟩
          · rw [cuts_hit s c f i hfi hlt e2 (fun j hj hj2 => hn j hj hj2 (by omega))] at ho
            simpa using ho
          · simp only [spec_SplitByte.l0]
            rw [if_pos (by omega), if_neg (by omega), if_pos (by omega), if_pos (by omega), bt_list s i hlt, e2, if_pos rfl, hf, if_pos (by omega), if_pos (by omega), if_pos (by omega), up64 (by omega), Int.toNat_natCast, Int.toNat_natCast]
        · refine Or.inl ⟨st, ⟨fun h => ⟨f, hf, by omega, fun j hj hj2 h3 => ?_, ho, by omega⟩, fun h => by omega⟩, 0, fun k _ => ?_⟩
          · by_cases ej : j = i
            · subst ej; exact e2
            · exact hn j hj (by omega) h3
          · simp only [spec_SplitByte.l0]
            have hne : ¬ bt s (i : Int) = (c.toNat : Int) := by
              rw [bt_list s i hlt]
              intro h
              exact e2 (UInt8.toNat_inj.mp (by omega))
            rw [if_pos (by omega), if_neg (by omega), if_pos (by omega), if_pos (by omega), if_neg hne, up64 (by omega)])
    (fun st ⟨_, hI⟩ => ⟨0, fun k _ => by simp only [spec_SplitByte.l0]; rw [if_neg (by omega), hI (by omega)]⟩)
    ([], 0) ⟨fun _ => ⟨0, rfl, Nat.le_refl _, fun j hj hj2 _ => by omega, rfl, Nat.le_refl _⟩, fun h => by omega⟩
  exact Ev.congr (fun k => rfl) hc

theorem all_cuts (s : ByteArray) (c : UInt8) : (cuts s ⟨#[c]⟩ 0) = Go.Lib.splitB ⟨#[c]⟩ 0 (Go.Lib.countB s ⟨#[c]⟩) s := by
  have : s.extract 0 s.size = s := by
    apply bext
    rw [tl, List.drop_zero]
  unfold cuts
  rw [this]

theorem cuts_length (s : ByteArray) (c : UInt8) : (cuts s ⟨#[c]⟩ 0).length = Go.Lib.countB s ⟨#[c]⟩ + 1 := by
  rw [all_cuts]
  exact Go.Lib.splitB_all _ (show 1 ≤ (⟨#[c]⟩ : ByteArray).size from Nat.le_refl 1) 0 _ s rfl

theorem implSplit (s : ByteArray) (c : UInt8) (hs : s.size ≤ 1048576) : impl_SplitByte.f s (c.toNat : Int) = some (cuts s ⟨#[c]⟩ 0) := by
  have hm : maxLen = 9223372036854775807 := rfl
  have e : strOfNums (([(c.toNat : Int)] : List Int)) = ⟨#[c]⟩ := by
    unfold strOfNums
    simp
  have hcl := Go.Lib.countB_le ⟨#[c]⟩ (show 1 ≤ (⟨#[c]⟩ : ByteArray).size from Nat.le_refl 1) s.size s (Nat.le_refl _)
  unfold impl_SplitByte.f strings_Split.f
  rw [e, if_pos ⟨by omega, (show 1 ≤ (⟨#[c]⟩ : ByteArray).size from Nat.le_refl 1), by rw [← all_cuts]; exact cuts_length s c, by omega⟩, ← all_cuts]
  rfl

theorem ev_marksS (n : Nat) (mt : Nat → ByteArray) (hmt : ∀ i, i < n → Ev (fun k => laws_markText.f k (1 + (i : Int))) (mt i)) (hn : n ≤ 4194304) (l : List ByteArray) (hl : l.length = n) : Ev (fun k => laws_markStringS.f k l 1) ((1 + n : Int), (List.range n).map mt) := by
  have hc := loop_is (σ := List ByteArray × Int) n (fun k s i => laws_markStringS.l0 k s.1 s.2 i) (fun i s => s.1.length = n ∧ s.2 = 1 + i ∧ ∀ j, j < i → s.1[j]? = some (mt j)) ((1 + n : Int), (List.range n).map mt)
    (fun i s hi ⟨hl', hs, hy⟩ => by
      obtain ⟨K, hK⟩ := hmt i hi
      refine Or.inl ⟨(s.1.set i (mt i), s.2 + 1), ⟨by simp [hl'], by simp only [hs]; omega, fun j hj => ?_⟩, K, fun k hk => ?_⟩
      · by_cases e : j = i
        · subst e; rw [List.getElem?_set_self (by omega)]
        · rw [List.getElem?_set_ne (by omega)]; exact hy j (by omega)
      · have g := hK k hk
        dsimp only at g
        simp only [laws_markStringS.l0]
        rw [if_pos (by omega), hs, g]
        simp only [Option.bind_some]
        rw [if_pos (by omega), Int.toNat_natCast, up64 (by omega), w64 (by omega) (by omega)])
    (fun s ⟨hl', hs, hy⟩ => ⟨0, fun k _ => by
      simp only [laws_markStringS.l0]
      rw [if_neg (by omega), hs]
      have e : s.1 = (List.range n).map mt := by
        apply List.ext_getElem?
        intro j
        by_cases hj : j < n
        · rw [hy j hj]; simp [hj]
        · rw [List.getElem?_eq_none (by omega), List.getElem?_eq_none (by simp; omega)]
      rw [e]⟩)
    (l, 1) ⟨hl, by omega, fun j hj => by omega⟩
  exact Ev.congr (fun k => by unfold laws_markStringS.f; rfl) hc

theorem ev_heldS (n : Nat) (mt : Nat → ByteArray) (hmt : ∀ i, i < n → Ev (fun k => laws_markText.f k (1 + (i : Int))) (mt i)) (hn : n ≤ 4194304) : Ev (fun k => laws_heldStringS.f k ((List.range n).map mt) 1) (1 + n : Int) := by
  have hlen : ((List.range n).map mt).length = n := by simp
  have hc := loop_is (σ := Int) n (fun k s i => laws_heldStringS.l0 k ((List.range n).map mt) s i) (fun i s => s = 1 + i) (1 + n : Int)
    (fun i s hi hs => by
      obtain ⟨K, hK⟩ := hmt i hi
      refine Or.inl ⟨s + 1, by omega, K, fun k hk => ?_⟩
      have g := hK k hk
      dsimp only at g
      simp only [laws_heldStringS.l0]
      rw [if_pos (by omega), if_pos (by omega), hs, g]
      simp only [Option.bind_some]
      rw [rdOf_at _ _ _ (by omega), if_pos (by simp), up64 (by omega), w64 (by omega) (by omega)])
    (fun s hs => ⟨0, fun k _ => by simp only [laws_heldStringS.l0]; rw [if_neg (by omega), hs]⟩) 1 (by omega)
  exact Ev.congr (fun k => by unfold laws_heldStringS.f; rfl) hc

theorem FnExactSplitByte : laws_FnExactSplitByte.Pure := by
  intro s a hsz hwf
  by_cases c0 : (s.size : Int) > 1048576
  · exact ⟨0, by unfold laws_FnExactSplitByte.f; rw [if_pos c0]⟩
  have hs : s.size ≤ 1048576 := by omega
  obtain ⟨c, rfl⟩ : ∃ c : UInt8, a = (c.toNat : Int) := by
    have h1 : (decide (IntKind.u8.min ≤ a) && decide (a ≤ IntKind.u8.max)) = true := hwf
    have e1 : IntKind.u8.min = 0 := by decide
    have e2 : IntKind.u8.max = 255 := by decide
    rw [e1, e2] at h1
    have h2 : 0 ≤ a ∧ a ≤ 255 := by simpa using h1
    exact ⟨UInt8.ofNat a.toNat, by rw [UInt8.toNat_ofNat']; omega⟩
  have hcl := Go.Lib.countB_le ⟨#[c]⟩ (show 1 ≤ (⟨#[c]⟩ : ByteArray).size from Nat.le_refl 1) s.size s (Nat.le_refl _)
  have hlen := cuts_length s c
  generalize hn : (cuts s ⟨#[c]⟩ 0).length = n at hlen
  obtain ⟨mt, hmt⟩ := chosen (α := ByteArray) (p := fun i r => Ev (fun k => laws_markText.f k (1 + (i : Int))) r) (n := n) (fun i hi => ev_markText (1 + (i : Int)) (by omega) (by omega))
  obtain ⟨k, h1, h2, h3, h4⟩ := (Evt.and (ev_specSplit s c hs) (Evt.and (ev_eqStringS (cuts s ⟨#[c]⟩ 0) (by omega)) (Evt.and (ev_marksS n mt hmt (by omega) (cuts s ⟨#[c]⟩ 0) hn) (ev_heldS n mt hmt (by omega))))).ex
  dsimp only at h1 h2 h3 h4
  refine ⟨k, ?_⟩
  unfold laws_FnExactSplitByte.f
  rw [if_neg c0]
  simp only [h1, h2, h3, h4, implSplit s c hs, Option.bind_some, if_true]
  rw [if_neg (by omega), if_neg (by omega)]

end Go.Proofs.YtlemmelngjcieaaDoor.Pure.LFnExactSplitByte
namespace Go.Proofs.YtlemmelngjcieaaDoor.Pure
open Go.Proofs.YtlemmelngjcieaaDoor.PFnExactSplitByte
theorem FnExactSplitByte : laws_FnExactSplitByte.Pure := LFnExactSplitByte.FnExactSplitByte
end Go.Proofs.YtlemmelngjcieaaDoor.Pure
