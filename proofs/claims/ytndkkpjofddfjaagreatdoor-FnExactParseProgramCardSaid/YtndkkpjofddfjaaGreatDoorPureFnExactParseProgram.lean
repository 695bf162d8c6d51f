/-
 The pure statement of laws.FnExactParseProgram: what the printed functions compute makes the law answer true, for every argument of its kinds (no further condition).
-/
import Derived.Test.YtndkkpjofddfjaaGreatDoorPFnExactParseProgramx16
import Derived.Test.YtndkkpjofddfjaaGreatDoorXPure
import Derived.Lib.ItoaLen
namespace Go.Proofs.YtndkkpjofddfjaaGreatDoor.Pure.LFnExactParseProgram
open Go.RowKit Go.Proofs.YtndkkpjofddfjaaGreatDoor.PFnExactParseProgram Go.Proofs.YtndkkpjofddfjaaGreatDoorW.PrintWords Go.Proofs.YtndkkpjofddfjaaGreatDoorW.PrintLast Go.Proofs.YtndkkpjofddfjaaGreatDoorX
open Go.Proofs.YtndkkpjofddfjaaGreatDoorRepl
theorem obs.{u, v} {α : Type u} {β : Type v} {a : α} {f : α → Option β} : (some a).bind f = f a := rfl
set_option linter.unusedVariables false
set_option linter.unusedSimpArgs false
theorem in_eq (a b c : Int) : spec_l1In.f a b c = some (decide (b ≤ a) && decide (a ≤ c)) := by
 unfold spec_l1In.f; by_cases h : b ≤ a <;> simp [h]
theorem wi_eq (a b c : Int) : impl_within.f a b c = some (decide (b ≤ a) && decide (a ≤ c)) := by
 unfold impl_within.f; by_cases h : b ≤ a <;> simp [h]
def wS (l : List ByteArray) : Int := l.length + ((l.map fun s => (s.size : Int)).foldr (· + ·) 0)
theorem sums_nonneg (l : List ByteArray) : 0 ≤ (l.map fun s => (s.size : Int)).foldr (· + ·) 0 := by
 induction l with
 | nil => simp
 | cons a l ih => simp only [List.map_cons, List.foldr_cons]; omega
theorem sums_take (l : List ByteArray) (i : Nat) (h : i < l.length) : ((l.take (i + 1)).map fun s => (s.size : Int)).foldr (· + ·) 0 = ((l.take i).map fun s => (s.size : Int)).foldr (· + ·) 0 + ((rdOf ByteArray.empty l (i : Int)).size : Int) := by
 rw [rdOf_at _ _ _ h]; induction l generalizing i with
 | nil => simp at h
 | cons a l ih =>
  cases i with
  | zero => simp
  | succ i =>
   simp only [List.take_succ_cons, List.map_cons, List.foldr_cons, List.getElem_cons_succ]; rw [ih i (by simpa using h)]; omega
theorem sums_le (l : List ByteArray) (i : Nat) : ((l.take i).map fun s => (s.size : Int)).foldr (· + ·) 0 ≤ (l.map fun s => (s.size : Int)).foldr (· + ·) 0 := by
 induction l generalizing i with
 | nil => simp
 | cons a l ih =>
  cases i with
  | zero => simp only [List.take_zero, List.map_nil, List.foldr_nil]; exact sums_nonneg _
  | succ i => simp only [List.take_succ_cons, List.map_cons, List.foldr_cons]; have := ih i; omega
theorem ev_eqStringS (l : List ByteArray) (h : l.length ≤ 9223372036854775807) : Ev (fun k => laws_eqStringS.f k l l) true := by
 have hc := all_true l.length h (fun k i => laws_eqStringS.l0 k l l i) true
  (fun i hi => ⟨0, fun k _ => by simp only [laws_eqStringS.l0]; rw [if_pos (by omega), if_pos (by omega), if_pos (by omega)]; simp only [if_true]⟩)
  ⟨0, fun k _ => by simp only [laws_eqStringS.l0]; rw [if_neg (by omega)]⟩
 refine Ev.congr (fun k => ?_) hc; unfold laws_eqStringS.f; rw [if_pos rfl]
theorem ev_eqEdgeS (l : List S52) (h : l.length ≤ 1048576) : Ev (fun k => laws_eqEdgeS.f k l l) true := by
 have hc := all_true l.length (by omega) (fun k i => laws_eqEdgeS.l0 k l l i) true
  (fun i hi => by
   refine ⟨0, fun k hk => ?_⟩; simp only [laws_eqEdgeS.l0]; rw [if_pos (by omega), if_pos (by omega), if_pos (by omega)]; simp only [laws_eqEdge.f, laws_eqStmt.f, obs, if_true])
  ⟨0, fun k _ => by simp only [laws_eqEdgeS.l0]; rw [if_neg (by omega)]⟩
 refine Ev.congr (fun k => ?_) hc; unfold laws_eqEdgeS.f; rw [if_pos rfl]
theorem ev_eqProgram (v : List ByteArray) (p : Int) (l : List S52) (hv : v.length ≤ 1048576) (hl : l.length ≤ 1048576) : Ev (fun k => laws_eqProgram.f k v p l v p l) true := by
 obtain ⟨K, hK⟩ := Evt.and (ev_eqStringS v (by omega)) (ev_eqEdgeS l hl); refine ⟨K, fun k hk => ?_⟩; obtain ⟨h1, h2⟩ := hK k hk; dsimp only at h1 h2; unfold laws_eqProgram.f; simp only [h1, h2, obs, if_true]
theorem ev_specIsName (s : ByteArray) (h : s.size ≤ 9223372036854775807) : Ev (fun k => spec_IsName.f k s) (nameB s) := by
 have hc := all_loop s.size h (fun i => 97 ≤ bt s (i : Int) ∧ bt s (i : Int) ≤ 122) (fun k i => spec_IsName.l0 k s i) (decide ((1 : Int) ≤ (s.size : Int)) && decide ((s.size : Int) ≤ 2)) false
  (fun i hi hT => ⟨0, fun k _ => by simp only [spec_IsName.l0]; rw [if_pos (by omega), if_pos (by omega), if_neg (by omega), if_neg (by omega)]⟩)
  (fun i hi hT => ⟨0, fun k _ => by
   simp only [spec_IsName.l0]; rw [if_pos (by omega), if_pos (by omega)]; by_cases c : bt s (i : Int) < 97
   ·rw [if_pos c]
   ·rw [if_neg c, if_pos (by omega)]⟩)
  ⟨0, fun k _ => by simp only [spec_IsName.l0]; rw [if_neg (by omega), in_eq]; rfl⟩ (nameB s) (by rw [if_and_false]; rfl)
 exact Ev.congr (fun k => rfl) hc
theorem ev_implIsName (s : ByteArray) (h : s.size ≤ 9223372036854775807) : Ev (fun k => impl_IsName.f k s) (nameB s) := by
 have hc := all_loop s.size h (fun i => 97 ≤ bt s (i : Int) ∧ bt s (i : Int) ≤ 122) (fun k i => impl_IsName.l0 k s (s.size : Int) i) (decide ((1 : Int) ≤ (s.size : Int)) && decide ((s.size : Int) ≤ 2)) false
  (fun i hi hT => ⟨0, fun k _ => by simp only [impl_IsName.l0]; rw [if_pos (by omega), if_pos (by omega), if_pos (by omega), if_neg (by omega), if_neg (by omega)]⟩)
  (fun i hi hT => ⟨0, fun k _ => by
   simp only [impl_IsName.l0]; rw [if_pos (by omega), if_pos (by omega), if_pos (by omega)]; by_cases c : bt s (i : Int) < 97
   ·rw [if_pos c]
   ·rw [if_neg c, if_pos (by omega)]⟩)
  ⟨0, fun k _ => by simp only [impl_IsName.l0]; rw [if_neg (by omega), wi_eq]; rfl⟩ (nameB s) (by rw [if_and_false]; rfl)
 exact Ev.congr (fun k => rfl) hc
theorem ev_specIndexOf (l : List ByteArray) (s : ByteArray) (h : l.length ≤ 9223372036854775807) : Ev (fun k => spec_IndexOf.f k l s) (idx l s) := by
 have hc := loop_is (σ := Unit) l.length (fun k _ i => spec_IndexOf.l0 k l s i) (fun i _ => idx l s = idxFrom s (l.drop i) i) (idx l s)
  (fun i _ hi hI => by
   rw [idx_go s l i hi] at hI; by_cases c : l[i].toList = s.toList
   ·rw [if_pos c] at hI; exact Or.inr ⟨0, fun k _ => by simp only [spec_IndexOf.l0]; rw [if_pos (by omega), if_pos (by omega), rdOf_at _ _ _ hi, if_pos c, hI]⟩
   ·rw [if_neg c] at hI; exact Or.inl ⟨(), hI, 0, fun k _ => by simp only [spec_IndexOf.l0]; rw [if_pos (by omega), if_pos (by omega), rdOf_at _ _ _ hi, if_neg c, up64 (by omega)]⟩)
  (fun _ hI => ⟨0, fun k _ => by rw [List.drop_length] at hI; simp only [spec_IndexOf.l0]; rw [if_neg (by omega), hI]; rfl⟩) () (by rfl)
 exact Ev.congr (fun k => rfl) hc
theorem ev_slicesIndex (l : List ByteArray) (s : ByteArray) (h : l.length ≤ 9223372036854775807) : Ev (fun k => slices_Index_string_string.f k l s) (idx l s) := by
 have hc := loop_is (σ := Unit) l.length (fun k _ i => slices_Index_string_string.l0 k l s (l.length : Int) i) (fun i _ => idx l s = idxFrom s (l.drop i) i) (idx l s)
  (fun i _ hi hI => by
   rw [idx_go s l i hi] at hI; by_cases c : l[i].toList = s.toList
   ·rw [if_pos c] at hI; exact Or.inr ⟨0, fun k _ => by simp only [slices_Index_string_string.l0]; rw [if_pos (by omega), if_pos (by omega), if_pos (by omega), rdOf_at _ _ _ hi, if_pos c.symm, hI]⟩
   ·rw [if_neg c] at hI; exact Or.inl ⟨(), hI, 0, fun k _ => by simp only [slices_Index_string_string.l0]; rw [if_pos (by omega), if_pos (by omega), if_pos (by omega), rdOf_at _ _ _ hi, if_neg (fun e => c e.symm), up64 (by omega)]⟩)
  (fun _ hI => ⟨0, fun k _ => by rw [List.drop_length] at hI; simp only [slices_Index_string_string.l0]; rw [if_neg (by omega), hI]; rfl⟩) () (by rfl)
 exact Ev.congr (fun k => rfl) hc
theorem ev_implIndexOf (l : List ByteArray) (s : ByteArray) (h : l.length ≤ 9223372036854775807) : Ev (fun k => impl_IndexOf.f k l s) (idx l s) := by
 refine Ev.congr (fun k => ?_) (ev_slicesIndex l s h); unfold impl_IndexOf.f; cases slices_Index_string_string.f k l s <;> rfl
theorem ev_specAreVars (l : List ByteArray) (h : l.length ≤ 9223372036854775807) (hs : ∀ s ∈ l, s.size ≤ 9223372036854775807) : Ev (fun k => spec_AreVars.f k l) (varsB l) := by
 have hc := all_loop l.length h (fun i => nameB (l.getD i ByteArray.empty) = true ∧ idx l (l.getD i ByteArray.empty) = (i : Int)) (fun k i => spec_AreVars.l0 k l i) (decide ((1 : Int) ≤ (l.length : Int)) && decide ((l.length : Int) ≤ 4)) false
  (fun i hi hT => by
   have e : rdOf ByteArray.empty l (i : Int) = l.getD i ByteArray.empty := by unfold rdOf; rw [Int.toNat_natCast]
   obtain ⟨K, hK⟩ := Evt.and (ev_specIsName (l.getD i ByteArray.empty) (hs _ (getD_mem _ _ _ hi))) (ev_specIndexOf l (l.getD i ByteArray.empty) h); refine ⟨K, fun k hk => ?_⟩; obtain ⟨h1, h2⟩ := hK k hk; dsimp only at h1 h2; simp only [spec_AreVars.l0]; rw [if_pos (by omega), if_pos (by omega), e, h1]; simp only [obs]; rw [if_pos hT.1, h2]; simp only [obs]; rw [if_pos hT.2])
  (fun i hi hT => by
   have e : rdOf ByteArray.empty l (i : Int) = l.getD i ByteArray.empty := by unfold rdOf; rw [Int.toNat_natCast]
   obtain ⟨K, hK⟩ := Evt.and (ev_specIsName (l.getD i ByteArray.empty) (hs _ (getD_mem _ _ _ hi))) (ev_specIndexOf l (l.getD i ByteArray.empty) h); refine ⟨K, fun k hk => ?_⟩; obtain ⟨h1, h2⟩ := hK k hk; dsimp only at h1 h2; simp only [spec_AreVars.l0]; rw [if_pos (by omega), if_pos (by omega), e, h1]; simp only [obs]; by_cases c : nameB (l.getD i ByteArray.empty) = true
   ·rw [if_pos c, h2]; simp only [obs]; rw [if_neg (fun c2 => hT ⟨c, c2⟩)]
   ·rw [if_neg c])
  ⟨0, fun k _ => by simp only [spec_AreVars.l0]; rw [if_neg (by omega), in_eq]; rfl⟩ (varsB l) (by rw [if_and_false]; rfl)
 exact Ev.congr (fun k => rfl) hc
theorem ev_implAreVars (l : List ByteArray) (h : l.length ≤ 9223372036854775807) (hs : ∀ s ∈ l, s.size ≤ 9223372036854775807) : Ev (fun k => impl_AreVars.f k l) (varsB l) := by
 have hc := all_loop l.length h (fun i => nameB (l.getD i ByteArray.empty) = true ∧ idx l (l.getD i ByteArray.empty) = (i : Int)) (fun k i => impl_AreVars.l0 k l l (l.length : Int) i) (decide ((1 : Int) ≤ (l.length : Int)) && decide ((l.length : Int) ≤ 4)) false
  (fun i hi hT => by
   have e : rdOf ByteArray.empty l (i : Int) = l.getD i ByteArray.empty := by unfold rdOf; rw [Int.toNat_natCast]
   obtain ⟨K, hK⟩ := Evt.and (ev_implIsName (l.getD i ByteArray.empty) (hs _ (getD_mem _ _ _ hi))) (ev_implIndexOf l (l.getD i ByteArray.empty) h); refine ⟨K, fun k hk => ?_⟩; obtain ⟨h1, h2⟩ := hK k hk; dsimp only at h1 h2; simp only [impl_AreVars.l0]; rw [if_pos (by omega), if_pos (by omega), if_pos (by omega), e, h1]; simp only [obs]; rw [if_pos hT.1, h2]; simp only [obs]; rw [if_pos hT.2])
  (fun i hi hT => by
   have e : rdOf ByteArray.empty l (i : Int) = l.getD i ByteArray.empty := by unfold rdOf; rw [Int.toNat_natCast]
   obtain ⟨K, hK⟩ := Evt.and (ev_implIsName (l.getD i ByteArray.empty) (hs _ (getD_mem _ _ _ hi))) (ev_implIndexOf l (l.getD i ByteArray.empty) h); refine ⟨K, fun k hk => ?_⟩; obtain ⟨h1, h2⟩ := hK k hk; dsimp only at h1 h2; simp only [impl_AreVars.l0]; rw [if_pos (by omega), if_pos (by omega), if_pos (by omega), e, h1]; simp only [obs]; by_cases c : nameB (l.getD i ByteArray.empty) = true
   ·rw [if_pos c, h2]; simp only [obs]; rw [if_neg (fun c2 => hT ⟨c, c2⟩)]
   ·rw [if_neg c])
  ⟨0, fun k _ => by simp only [impl_AreVars.l0]; rw [if_neg (by omega), wi_eq]; rfl⟩ (varsB l) (by rw [if_and_false]; rfl)
 exact Ev.congr (fun k => rfl) hc
def nm (a : Int) : Int := if a = 1 then 0 else if a = 2 ∨ a = 3 ∨ a = 6 ∨ a = 8 ∨ a = 9 ∨ a = 10 then 1 else if a = 4 ∨ a = 5 ∨ a = 7 ∨ a = 11 ∨ a = 12 then 2 else -1
theorem nm_cases (a : Int) : nm a = -1 ∨ nm a = 0 ∨ nm a = 1 ∨ nm a = 2 := by
 unfold nm; split
 ·omega
 ·split
  ·omega
  ·split <;> omega
theorem specNames (k : Nat) (a : Int) : spec_NamesOf.f (k + 1) a = some (nm a) := by
 by_cases h : 1 ≤ a ∧ a ≤ 12
 ·have h2 : a = 1 ∨ a = 2 ∨ a = 3 ∨ a = 4 ∨ a = 5 ∨ a = 6 ∨ a = 7 ∨ a = 8 ∨ a = 9 ∨ a = 10 ∨ a = 11 ∨ a = 12 := by omega
  rcases h2 with rfl | rfl | rfl | rfl | rfl | rfl | rfl | rfl | rfl | rfl | rfl | rfl <;> simp [spec_NamesOf.f, spec_NamesOf.j0, nm]
 ·have e : nm a = -1 := by
   unfold nm; rw [if_neg (by omega), if_neg (by omega), if_neg (by omega)]
  unfold spec_NamesOf.f; rw [if_neg (by omega), if_neg (by omega), if_neg (by omega), if_neg (by omega), if_neg (by omega), if_neg (by omega)]; have h10 : (a == 10) = false := beq_eq_false_iff_ne.mpr (by omega); simp only [spec_NamesOf.j0]; rw [h10, if_neg (by decide), if_neg (by omega), if_neg (by omega), if_neg (by omega), if_neg (by omega), if_neg (by omega), e]
theorem implNames (a : Int) : impl_NamesOf.f a = some (nm a) := by
 by_cases h : 1 ≤ a ∧ a ≤ 12
 ·have h2 : a = 1 ∨ a = 2 ∨ a = 3 ∨ a = 4 ∨ a = 5 ∨ a = 6 ∨ a = 7 ∨ a = 8 ∨ a = 9 ∨ a = 10 ∨ a = 11 ∨ a = 12 := by omega
  rcases h2 with rfl | rfl | rfl | rfl | rfl | rfl | rfl | rfl | rfl | rfl | rfl | rfl <;> decide +kernel
 ·have e : nm a = -1 := by
   unfold nm; rw [if_neg (by omega), if_neg (by omega), if_neg (by omega)]
  have h3 : (decide (1 ≤ a) && decide (a ≤ 12)) = false := by simpa using h
  rw [e]; simp [impl_NamesOf.f, wi_eq, h3]
def namesB (v : List ByteArray) (m : Int) (s t : ByteArray) : Bool :=
 (if 0 < m then decide (idx v s ≥ 0) else decide (s.toList = [])) && ((if 1 < m then decide (idx v t ≥ 0) else decide (t.toList = [])) && decide (m ≥ 0))
theorem ev_specIsStmt (v : List ByteArray) (a : Int) (s t : ByteArray) (h : v.length ≤ 9223372036854775807) (hs : ∀ s ∈ v, s.size ≤ 9223372036854775807) : Ev (fun k => spec_IsStmt.f k v a s t) (varsB v && namesB v (nm a) s t) := by
 obtain ⟨K, hK⟩ := Evt.and (ev_specAreVars v h hs) (Evt.and (ev_specIndexOf v s h) (ev_specIndexOf v t h)); refine ⟨K + 1, fun k hk => ?_⟩; obtain ⟨k, rfl⟩ : ∃ m, k = m + 1 := ⟨k - 1, by omega⟩; obtain ⟨g1, _, _⟩ := hK (k + 1) (by omega); obtain ⟨_, g2, g3⟩ := hK k (by omega); dsimp only at g1 g2 g3 ⊢; unfold spec_IsStmt.f; rw [specNames]; simp only [obs]; rw [g1]; simp only [obs, spec_IsStmt.j0, g2, g3]; cases hv : varsB v with
 | false => simp
 | true =>
  unfold namesB; rcases nm_cases a with e | e | e | e <;> rw [e]
  ·simp
  ·by_cases c1 : s.toList = [] <;> by_cases c2 : t.toList = [] <;> simp [c1, c2]
  ·by_cases c1 : idx v s ≥ 0 <;> by_cases c2 : t.toList = [] <;> simp [c1, c2]
  ·by_cases c1 : idx v s ≥ 0 <;> by_cases c2 : idx v t ≥ 0 <;> simp [c1, c2]
theorem ev_hasNames (v : List ByteArray) (a : Int) (s t : ByteArray) (h : v.length ≤ 9223372036854775807) : Ev (fun k => impl_Stmt_hasNames_IsStmt_1.f k a s t v) (namesB v (nm a) s t) := by
 obtain ⟨K, hK⟩ := Evt.and (ev_slicesIndex v s h) (ev_slicesIndex v t h); refine ⟨K + 3, fun k hk => ?_⟩; obtain ⟨k, rfl⟩ : ∃ m, k = m + 3 := ⟨k - 3, by omega⟩; obtain ⟨a1, _⟩ := hK (k + 2) (by omega); obtain ⟨_, b2⟩ := hK (k + 1) (by omega); dsimp only at a1 b2 ⊢; have l2 : (([s, t] : List ByteArray).length : Int) = 2 := rfl; have r0 : rdOf ByteArray.empty [s, t] 0 = s := rfl; have r1 : rdOf ByteArray.empty [s, t] 1 = t := rfl; have w0 : wrap64 (0 + 1) = 1 := by unfold wrap64; omega
 have w1 : wrap64 (1 + 1) = 2 := by unfold wrap64; omega
 have i0 : (0 : Int) < 2 := by decide
 have i1 : (1 : Int) < 2 := by decide
 have i2 : ¬ (2 : Int) < 2 := by decide
 have j0 : (0 : Int) ≤ 0 := by decide
 have j1 : (0 : Int) ≤ 1 := by decide
 unfold impl_Stmt_hasNames_IsStmt_1.f; rw [implNames]; simp only [obs, impl_Stmt_hasNames_IsStmt_1.l0, impl_IsStmt_1_captured.f, slices_Contains_string_string.f, l2, i0, i1, i2, j0, j1, if_true, if_false, r0, r1, w0, w1, a1, b2]; unfold namesB; rcases nm_cases a with e | e | e | e <;> rw [e]
 ·by_cases c1 : s.toList = [] <;> by_cases c2 : t.toList = [] <;> simp [c1, c2]
 ·by_cases c1 : s.toList = [] <;> by_cases c2 : t.toList = [] <;> simp [c1, c2]
 ·by_cases c1 : idx v s ≥ 0 <;> by_cases c2 : t.toList = [] <;> simp [c1, c2]
 ·by_cases c1 : idx v s ≥ 0 <;> by_cases c2 : idx v t ≥ 0 <;> simp [c1, c2]
theorem ev_implIsStmt (v : List ByteArray) (a : Int) (s t : ByteArray) (h : v.length ≤ 9223372036854775807) (hs : ∀ s ∈ v, s.size ≤ 9223372036854775807) : Ev (fun k => impl_IsStmt.f k v a s t) (varsB v && namesB v (nm a) s t) := by
 obtain ⟨K, hK⟩ := Evt.and (ev_implAreVars v h hs) (ev_hasNames v a s t h); refine ⟨K, fun k hk => ?_⟩; obtain ⟨g1, g2⟩ := hK k hk; dsimp only at g1 g2 ⊢; unfold impl_IsStmt.f; rw [g1, g2]; cases hv : varsB v <;> simp
theorem strOfNums_one (a : Int) : (strOfNums [a]).size = 1 := by
 first | rfl | simp [strOfNums]
theorem ev_markTextGo : ∀ (m n : Nat), n ≤ m → ∀ s : ByteArray, s.size + n ≤ 1000000000000 → ∃ r, Ev (fun k => laws_markText.l0 k (n : Int) s) r := by
 intro m; induction m with
 | zero =>
  intro n hn s hs; exact ⟨_, Ev.last ⟨0, fun k _ => by simp only [laws_markText.l0]; rw [if_neg (by omega), if_pos (by omega)]⟩⟩
 | succ m ih =>
  intro n hn s hs; by_cases c : n = 0
  ·exact ⟨_, Ev.last ⟨0, fun k _ => by simp only [laws_markText.l0]; rw [if_neg (by omega), if_pos (by omega)]⟩⟩
  ·have hd : n / 10 ≤ n - 1 := by omega
   obtain ⟨r, hr⟩ := ih (n / 10) (by omega) (strOfNums [(wrap64 (48 + (Int.tmod (n : Int) 10))) % 256] ++ s) (by rw [ByteArray.size_append, strOfNums_one]; omega); refine ⟨r, Ev.next ⟨0, fun k _ => ?_⟩ hr⟩; simp only [laws_markText.l0, obs]; rw [if_pos (by omega), if_pos (by rw [strOfNums_one]; omega), show Int.tdiv (n : Int) 10 = ((n / 10 : Nat) : Int) from by rw [Int.tdiv_eq_ediv_of_nonneg (by omega)]; omega, w64 (by omega) (by omega)]
theorem ev_markText (x : Int) (h0 : 0 ≤ x) (h1 : x ≤ 100000000000) : ∃ r, Ev (fun k => laws_markText.f k x) r := by
 obtain ⟨n, rfl⟩ := Int.eq_ofNat_of_zero_le h0; by_cases c : (n : Int) ≤ 0
 ·exact ⟨_, Ev.one (fun k => by unfold laws_markText.f; rw [if_pos c])⟩
 ·obtain ⟨r, hr⟩ := ev_markTextGo n n (by omega) ⟨#[]⟩ (by show 0 + n ≤ _; omega); exact ⟨r, Ev.congr (fun k => by unfold laws_markText.f; rw [if_neg c]) hr⟩
theorem ext_list (s : ByteArray) (a b : Nat) : (s.extract a b).data.toList = (s.data.toList.drop a).take (b - a) := by
 simp [ByteArray.data_extract, List.extract_eq_drop_take']
theorem len_list (s : ByteArray) : s.data.toList.length = s.size := by
 rw [Array.length_toList]; rfl
theorem tl (s : ByteArray) (a : Nat) : (s.extract a s.size).data.toList = s.data.toList.drop a := by
 rw [ext_list, List.take_of_length_le (by rw [List.length_drop, len_list]; omega)]
theorem bext {a b : ByteArray} (h : a.data.toList = b.data.toList) : a = b := by
 apply ByteArray.ext; exact Array.toList_inj.mp h
theorem ee1 (s : ByteArray) (f i : Nat) (h : f ≤ i) (h2 : i ≤ s.size) : (s.extract f s.size).extract 0 (i - f + 0) = s.extract f i := by
 apply bext; rw [ext_list, ext_list, ext_list, List.drop_zero, List.take_take]; congr 1
 omega
theorem ee2 (s : ByteArray) (f i : Nat) (h : f ≤ i) : (s.extract f s.size).extract (i - f + 1) (s.extract f s.size).size = s.extract (i + 1) s.size := by
 apply bext; rw [tl, tl, tl, List.drop_drop]; congr 1
 omega
theorem ib_hit (c : UInt8) : ∀ (l : List UInt8) (d : Nat) (hd : d < l.length), l[d] = c → (∀ j (hj : j < d), l[j]'(by omega) ≠ c) → Go.Lib.indexByte l c = d
 | [], d, hd, _, _ => by simp at hd
 | b :: l, 0, _, h, _ => by
  have hb : b = c := h; unfold Go.Lib.indexByte; simp [hb]
 | b :: l, d + 1, hd, h, hn => by
  have h0 : b ≠ c := hn 0 (by omega); have ih := ib_hit c l d (by simpa using hd) (by simpa using h) (fun j hj => by simpa using hn (j + 1) (by omega)); unfold Go.Lib.indexByte; rw [if_neg (by simpa using h0), ih, if_neg (by simp)]; omega
theorem ib_miss (c : UInt8) : ∀ (l : List UInt8), (∀ j (hj : j < l.length), l[j] ≠ c) → Go.Lib.indexByte l c = -1
 | [], _ => rfl
 | b :: l, hn => by
  have h0 : b ≠ c := hn 0 (by simp); have ih := ib_miss c l (fun j hj => hn (j + 1) (by simpa using hj)); unfold Go.Lib.indexByte; rw [if_neg (by simpa using h0), ih, if_pos (by decide)]
def cuts (s sep : ByteArray) (f : Nat) : List ByteArray := Go.Lib.splitB sep 0 (Go.Lib.countB (s.extract f s.size) sep) (s.extract f s.size)
theorem cuts_hit (s : ByteArray) (c : UInt8) (f i : Nat) (h : f ≤ i) (h2 : i < s.size) (hc : s.data.toList[i]'(by rw [len_list]; exact h2) = c) (hn : ∀ j (hj : f ≤ j) (hj2 : j < i), s.data.toList[j]'(by rw [len_list]; omega) ≠ c) :
  cuts s ⟨#[c]⟩ f = s.extract f i :: cuts s ⟨#[c]⟩ (i + 1) := by
 have hlen : (s.data.toList.drop f).length = s.size - f := by rw [List.length_drop, len_list]
 have hidx : Go.Lib.indexB (s.extract f s.size) ⟨#[c]⟩ = ((i - f : Nat) : Int) := by
  show Go.Lib.index (s.extract f s.size).data.toList [c] = _
  rw [tl, Go.Lib.index_one]; refine ib_hit c _ (i - f) (by omega) ?_ (fun j hj => ?_)
  ·rw [List.getElem_drop]; simp only [show f + (i - f) = i by omega]; exact hc
  ·rw [List.getElem_drop]; exact hn (f + j) (by omega) (by omega)
 unfold cuts; rw [Go.Lib.countB_hit _ _ (i - f) (show 1 ≤ (⟨#[c]⟩ : ByteArray).size from Nat.le_refl 1) hidx, Nat.add_comm 1, Go.Lib.splitB_hit _ _ _ _ (i - f) hidx, ee1 s f i h (by omega)]; rw [show (⟨#[c]⟩ : ByteArray).size = 1 from rfl, ee2 s f i h]
theorem cuts_miss (s : ByteArray) (c : UInt8) (f : Nat) (hn : ∀ j (hj : f ≤ j) (hj2 : j < s.size), s.data.toList[j]'(by rw [len_list]; omega) ≠ c) :
  cuts s ⟨#[c]⟩ f = [s.extract f s.size] := by
 have hlen : (s.data.toList.drop f).length = s.size - f := by rw [List.length_drop, len_list]
 have hidx : Go.Lib.indexB (s.extract f s.size) ⟨#[c]⟩ = -1 := by
  show Go.Lib.index (s.extract f s.size).data.toList [c] = _
  rw [tl, Go.Lib.index_one]; refine ib_miss c _ (fun j hj => ?_); rw [List.getElem_drop]; exact hn (f + j) (by omega) (by omega)
 unfold cuts; exact Go.Lib.splitB_miss _ _ _ _ hidx
def dd (u : Nat) (l : List UInt8) : List UInt8 := if u = 0 then l else Go.Lib.decDigits u ++ l
theorem dd_step (u : Nat) (h : 0 < u) (l : List UInt8) : dd u l = dd (u / 10) (UInt8.ofNat (48 + u % 10) :: l) := by
 unfold dd; rw [if_neg (by omega), Go.Lib.decDigits]; by_cases c : u < 10
 ·rw [dif_pos c, if_pos (by omega), Nat.mod_eq_of_lt c]; rfl
 ·rw [dif_neg c, if_neg (by omega)]; simp
theorem cat (a l : List UInt8) : (⟨a.toArray⟩ : ByteArray) ++ ⟨l.toArray⟩ = ⟨(a ++ l).toArray⟩ := by
 apply ByteArray.ext; simp [ByteArray.data_append]
theorem sz (l : List UInt8) : (⟨l.toArray⟩ : ByteArray).size = l.length := by
 simp [ByteArray.size]
theorem str1 (n : Nat) (h : n < 10) : strOfNums [(48 + (n : Int)) % 256] = ⟨[UInt8.ofNat (48 + n)].toArray⟩ := by
 unfold strOfNums; have : ((48 + (n : Int)) % 256).toNat = 48 + n := by omega
 simp [this]
theorem endF (b : Bool) (l : List UInt8) (h : l.length ≤ 4611686018427387904) : Ev (fun k => spec_FormatInt.l0 k 0 b ⟨l.toArray⟩) ⟨((if b then [45] else []) ++ dd 0 l).toArray⟩ := by
 refine Ev.last ⟨0, fun k _ => ?_⟩; simp only [spec_FormatInt.l0, if_true]; cases b with
 | false => rfl
 | true =>
  rw [if_pos rfl, if_pos (by rw [sz]; omega)]; have := cat [45] l; exact congrArg some this
theorem loopP (b : Bool) : ∀ (m u : Nat), u ≤ m → u ≤ 9223372036854775807 → ∀ l : List UInt8, l.length = 0 ∨ l.length + u ≤ 4611686018427387904 → Ev (fun k => spec_FormatInt.l0 k (u : Int) b ⟨l.toArray⟩) ⟨((if b then [45] else []) ++ dd u l).toArray⟩ := by
 intro m; induction m with
 | zero =>
  intro u hu h1 l hl; obtain rfl : u = 0 := by omega
  exact endF b l (by omega)
 | succ m ih =>
  intro u hu h1 l hl; by_cases c : u = 0
  ·subst c; exact endF b l (by omega)
  ·have hr := ih (u / 10) (by omega) (by omega) (UInt8.ofNat (48 + u % 10) :: l) (by simp only [List.length_cons]; omega); rw [dd_step u (by omega)]; refine Ev.next ⟨0, fun k _ => ?_⟩ hr; have e1 : Int.tmod (u : Int) 10 = ((u % 10 : Nat) : Int) := by rw [Int.tmod_eq_emod_of_nonneg (by omega)]; rfl
   have e2 : Int.tdiv (u : Int) 10 = ((u / 10 : Nat) : Int) := by rw [Int.tdiv_eq_ediv_of_nonneg (by omega)]; rfl
   have hlt : u % 10 < 10 := Nat.mod_lt _ (by omega); simp only [spec_FormatInt.l0]; rw [if_neg (by omega), e1, e2, if_neg (by omega), w64 (x := 48 + ((u % 10 : Nat) : Int)) (by omega) (by omega)]; simp only [obs]; rw [str1 _ hlt, cat, if_pos (by rw [sz, sz]; simp only [List.length_cons, List.length_nil]; omega), w64 (by omega) (by omega)]; rfl
theorem loopN (b : Bool) : ∀ (m u : Nat), u ≤ m → u ≤ 9223372036854775808 → ∀ l : List UInt8, l.length = 0 ∨ l.length + u ≤ 4611686018427387904 → Ev (fun k => spec_FormatInt.l0 k (-(u : Int)) b ⟨l.toArray⟩) ⟨((if b then [45] else []) ++ dd u l).toArray⟩ := by
 intro m; induction m with
 | zero =>
  intro u hu h1 l hl; obtain rfl : u = 0 := by omega
  exact endF b l (by omega)
 | succ m ih =>
  intro u hu h1 l hl; by_cases c : u = 0
  ·subst c; exact endF b l (by omega)
  ·have hr := ih (u / 10) (by omega) (by omega) (UInt8.ofNat (48 + u % 10) :: l) (by simp only [List.length_cons]; omega); rw [dd_step u (by omega)]; refine Ev.next ⟨0, fun k _ => ?_⟩ hr; have e1 : Int.tmod (-(u : Int)) 10 = -((u % 10 : Nat) : Int) := by rw [Int.neg_tmod, Int.tmod_eq_emod_of_nonneg (by omega)]; rfl
   have e2 : Int.tdiv (-(u : Int)) 10 = -((u / 10 : Nat) : Int) := by rw [Int.neg_tdiv, Int.tdiv_eq_ediv_of_nonneg (by omega)]; rfl
   have hlt : u % 10 < 10 := Nat.mod_lt _ (by omega); simp only [spec_FormatInt.l0]; rw [if_neg (by omega), e1, e2]; by_cases c2 : u % 10 = 0
   ·rw [if_neg (by omega), w64 (x := 48 + -((u % 10 : Nat) : Int)) (by omega) (by omega), show (48 : Int) + -((u % 10 : Nat) : Int) = 48 + ((u % 10 : Nat) : Int) by omega]; simp only [obs]; rw [str1 _ hlt, cat, if_pos (by rw [sz, sz]; simp only [List.length_cons, List.length_nil]; omega), w64 (by omega) (by omega)]; rfl
   ·rw [if_pos (by omega), Int.neg_neg, w64 (x := ((u % 10 : Nat) : Int)) (by omega) (by omega), w64 (x := 48 + ((u % 10 : Nat) : Int)) (by omega) (by omega)]; simp only [obs]; rw [str1 _ hlt, cat, if_pos (by rw [sz, sz]; simp only [List.length_cons, List.length_nil]; omega), w64 (by omega) (by omega)]; rfl
theorem ev_specFormatInt (a : Int) (h0 : -9223372036854775808 ≤ a) (h1 : a ≤ 9223372036854775807) : Ev (fun k => spec_FormatInt.f k a) ⟨(Go.Lib.itoa a).toArray⟩ := by
 by_cases c : a = 0
 ·subst c; refine Ev.one (fun k => ?_); unfold spec_FormatInt.f; rw [if_pos rfl]; have : Go.Lib.itoa 0 = [48] := by
   unfold Go.Lib.itoa; rw [if_neg (by omega), Go.Lib.decDigits, dif_pos (by decide)]; rfl
  rw [this]
 ·by_cases cn : a < 0
  ·obtain ⟨u, hu⟩ : ∃ u : Nat, a = -(u : Int) := ⟨a.natAbs, by omega⟩; have hr := loopN true u u (Nat.le_refl _) (by omega) [] (Or.inl rfl); have e : Go.Lib.itoa a = (if true then [45] else []) ++ dd u [] := by
    unfold Go.Lib.itoa dd; rw [if_pos cn, if_pos rfl, if_neg (by omega), show a.natAbs = u by omega]; simp
   rw [e]; refine Ev.congr (fun k => ?_) hr; unfold spec_FormatInt.f; rw [if_neg c, decide_eq_true cn, hu]
  ·obtain ⟨u, hu⟩ : ∃ u : Nat, a = (u : Int) := ⟨a.toNat, by omega⟩; have hr := loopP false u u (Nat.le_refl _) (by omega) [] (Or.inl rfl); have e : Go.Lib.itoa a = (if false then [45] else []) ++ dd u [] := by
    unfold Go.Lib.itoa dd; rw [if_neg cn, if_neg (by decide), if_neg (by omega), show a.toNat = u by omega]; simp
   rw [e]; refine Ev.congr (fun k => ?_) hr; unfold spec_FormatInt.f; rw [if_neg c, decide_eq_false cn, hu]
def dv : Nat → List UInt8 → Nat
 | acc, [] => acc
 | acc, c :: r => dv (acc * 10 + (c.toNat - 48)) r
theorem dv_ge : ∀ (l : List UInt8) (acc : Nat), acc ≤ dv acc l
 | [], acc => Nat.le_refl _
 | c :: r, acc => Nat.le_trans (by omega) (dv_ge r (acc * 10 + (c.toNat - 48)))
theorem dv_app : ∀ (l : List UInt8) (c : UInt8) (acc : Nat), dv acc (l ++ [c]) = dv acc l * 10 + (c.toNat - 48)
 | [], c, acc => rfl
 | b :: r, c, acc => dv_app r c _
theorem dig_of (n : Nat) (h : n < 10) : (UInt8.ofNat (48 + n)).toNat = 48 + n := by
 rw [UInt8.toNat_ofNat']; omega
theorem dv_dec (u : Nat) : dv 0 (Go.Lib.decDigits u) = u := by
 induction u using Nat.strongRecOn with
 | ind u ih =>
  rw [Go.Lib.decDigits]; by_cases c : u < 10
  ·rw [dif_pos c]; show 0 * 10 + ((UInt8.ofNat (48 + u)).toNat - 48) = u
   rw [dig_of u c]; omega
  ·rw [dif_neg c, dv_app, ih (u / 10) (by omega), dig_of (u % 10) (by omega)]; omega
theorem dig_dec (u : Nat) : ∀ c ∈ Go.Lib.decDigits u, 48 ≤ c.toNat ∧ c.toNat ≤ 57 := by
 induction u using Nat.strongRecOn with
 | ind u ih =>
  rw [Go.Lib.decDigits]; by_cases c : u < 10
  ·rw [dif_pos c]; intro x hx; obtain rfl := List.mem_singleton.mp hx; rw [dig_of u c]; omega
  ·rw [dif_neg c]; intro x hx; rcases List.mem_append.mp hx with h | h
   ·exact ih (u / 10) (by omega) x h
   ·obtain rfl := List.mem_singleton.mp h; rw [dig_of (u % 10) (by omega)]; omega
theorem len_dec (m : Nat) : ∀ u : Nat, (Go.Lib.decDigits u).length ≤ m + 1 ↔ u < 10 ^ (m + 1) := by
 induction m with
 | zero =>
  intro u; rw [Go.Lib.decDigits]; by_cases c : u < 10
  ·rw [dif_pos c]; simp [c]
  ·rw [dif_neg c]; have h1 : 1 ≤ (Go.Lib.decDigits (u / 10)).length := by
    rw [Go.Lib.decDigits]; split <;> simp
   simp only [List.length_append, List.length_cons, List.length_nil]; omega
 | succ m ih =>
  intro u; rw [Go.Lib.decDigits]; have hp : (10 : Nat) ^ (m + 1 + 1) = 10 ^ (m + 1) * 10 := Nat.pow_succ ..; have hq : 0 < (10 : Nat) ^ (m + 1) := Nat.pow_pos (by decide); by_cases c : u < 10
  ·rw [dif_pos c]; simp only [List.length_cons, List.length_nil]; omega
  ·rw [dif_neg c]; have h := ih (u / 10); simp only [List.length_append, List.length_cons, List.length_nil]; omega
theorem pu_ok : ∀ (l : List UInt8) (acc : Nat), (∀ c ∈ l, 48 ≤ c.toNat ∧ c.toNat ≤ 57) → dv acc l < 18446744073709551616 → Go.Lib.parseUint10 acc l = .ok (dv acc l)
 | [], acc, _, _ => rfl
 | c :: r, acc, hd, hb => by
  have h0 := hd c (List.mem_cons_self ..); have hb' : dv (acc * 10 + (c.toNat - 48)) r < 18446744073709551616 := hb; have h1 := dv_ge r (acc * 10 + (c.toNat - 48)); unfold Go.Lib.parseUint10; rw [if_pos h0, if_neg (by omega), if_neg (by omega)]; exact pu_ok r _ (fun x hx => hd x (List.mem_cons_of_mem _ hx)) hb'
theorem dec_ne (u : Nat) : Go.Lib.decDigits u ≠ [] := by
 rw [Go.Lib.decDigits]; split <;> simp
theorem mag_dec (u : Nat) (h : u < 18446744073709551616) : Go.Lib.parseMag (Go.Lib.decDigits u) = .ok u := by
 have hv := dv_dec u; have := pu_ok (Go.Lib.decDigits u) 0 (dig_dec u) (by omega); unfold Go.Lib.parseMag; rw [if_neg (dec_ne u), this, hv]
theorem atoi_itoa (v : Int) (h0 : -9223372036854775808 ≤ v) (h1 : v ≤ 9223372036854775807) : Go.Lib.atoiAll (Go.Lib.itoa v) = .ok v := by
 unfold Go.Lib.itoa; by_cases c : v < 0
 ·rw [if_pos c]; show Go.Lib.atoiAll (45 :: _) = _
  rw [Go.Lib.atoiAll_minus, mag_dec _ (by omega)]; simp only [Go.Lib.signed]; rw [if_neg (by omega)]; congr 1
  omega
 ·rw [if_neg c]; have hd := dig_dec v.toNat; have hm := mag_dec v.toNat (by omega); cases e : Go.Lib.decDigits v.toNat with
  | nil => exact absurd e (dec_ne _)
  | cons b r =>
   rw [e] at hd hm; have hb := hd b (List.mem_cons_self ..); rw [Go.Lib.atoiAll_plain b r (by omega) (by omega), hm]; simp only [Go.Lib.signless]; rw [if_neg (by omega)]; congr 1
   omega
def fin (s : ByteArray) (b : Bool) (u : Nat) : Int × Bool := if (⟨(Go.Lib.itoa (if b then -(u : Int) else u)).toArray⟩ : ByteArray).toList = s.toList then ((if b then -(u : Int) else u), true) else (0, false)
def gl (s : ByteArray) (b : Bool) : Nat → List UInt8 → Int × Bool
 | acc, [] => fin s b acc
 | acc, c :: r => if c.toNat < 48 ∨ 57 < c.toNat then (0, false) else gl s b (acc * 10 + (c.toNat - 48)) r
theorem gl_dig (s : ByteArray) (b : Bool) : ∀ (l : List UInt8) (acc : Nat), (∀ c ∈ l, 48 ≤ c.toNat ∧ c.toNat ≤ 57) → gl s b acc l = fin s b (dv acc l)
 | [], acc, _ => rfl
 | c :: r, acc, hd => by
  have h0 := hd c (List.mem_cons_self ..); unfold gl; rw [if_neg (by omega)]; exact gl_dig s b r _ (fun x hx => hd x (List.mem_cons_of_mem _ hx))
theorem gl_cases (s : ByteArray) (b : Bool) : ∀ (l : List UInt8) (acc : Nat), gl s b acc l = (0, false) ∨ ∃ u, u < (acc + 1) * 10 ^ l.length ∧ gl s b acc l = fin s b u
 | [], acc => Or.inr ⟨acc, by simp, rfl⟩
 | c :: r, acc => by
  unfold gl; by_cases h : c.toNat < 48 ∨ 57 < c.toNat
  ·rw [if_pos h]; exact Or.inl rfl
  ·rw [if_neg h]; rcases gl_cases s b r (acc * 10 + (c.toNat - 48)) with e | ⟨u, hu, e⟩
   ·exact Or.inl e
   ·refine Or.inr ⟨u, Nat.lt_of_lt_of_le hu ?_, e⟩; have : (acc * 10 + (c.toNat - 48) + 1) * 10 ^ r.length ≤ ((acc + 1) * 10) * 10 ^ r.length := Nat.mul_le_mul_right _ (by omega); rw [List.length_cons, Nat.pow_succ, Nat.mul_comm (10 ^ r.length) 10, ← Nat.mul_assoc]; exact this
theorem bt_list (s : ByteArray) (i : Nat) (h : i < s.size) : bt s (i : Int) = ((s.data.toList[i]'(by rw [len_list]; exact h)).toNat : Int) := by
 unfold bt; rw [dif_pos (by rw [Int.toNat_natCast]; exact h)]; simp only [Int.toNat_natCast, Array.getElem_toList]; rfl
theorem pow12 (i : Nat) (h : i ≤ 12) : 10 ^ i ≤ 1000000000000 := Nat.pow_le_pow_right (n := 10) (by decide) h
theorem ev_fin (s : ByteArray) (b : Bool) (t : ByteArray) (acc : Nat) (ha : acc < 10000000000000) : Ev (fun k => spec_l1Read.l0 k s b t (acc : Int) (t.size : Int)) (fin s b acc) := by
 cases b with
 | true =>
  obtain ⟨K, hK⟩ := ev_specFormatInt (-(acc : Int)) (by omega) (by omega); refine Ev.last ⟨K, fun k hk => ?_⟩; have g := hK k hk; dsimp only at g; simp only [spec_l1Read.l0]; rw [if_neg (by omega), if_pos trivial, w64 (x := -(acc : Int)) (by omega) (by omega), g]; unfold fin; simp only [obs, if_true]; split <;> rfl
 | false =>
  obtain ⟨K, hK⟩ := ev_specFormatInt (acc : Int) (by omega) (by omega); refine Ev.last ⟨K, fun k hk => ?_⟩; have g := hK k hk; dsimp only at g; simp only [spec_l1Read.l0]; rw [if_neg (by omega), if_neg (by decide), g]; unfold fin; simp only [obs]; rw [if_neg (show ¬ (false = true) by decide)]; split <;> rfl
theorem ev_l0 (s : ByteArray) (b : Bool) (t : ByteArray) (ht : t.size ≤ 12) : ∀ (d i acc : Nat), i ≤ t.size → t.size - i = d → acc < 10 ^ i → Ev (fun k => spec_l1Read.l0 k s b t (acc : Int) (i : Int)) (gl s b acc (t.data.toList.drop i)) := by
 intro d; induction d with
 | zero =>
  intro i acc hi hd ha; obtain rfl : i = t.size := by omega
  rw [List.drop_eq_nil_of_le (by rw [len_list]; omega)]; exact ev_fin s b t acc (Nat.lt_of_lt_of_le ha (Nat.le_trans (pow12 _ ht) (by decide)))
 | succ d ih =>
  intro i acc hi hd ha; have hlt : i < t.size := by omega
  have hl : i < t.data.toList.length := by rw [len_list]; exact hlt
  have hp := pow12 (i + 1) (by omega); rw [Nat.pow_succ] at hp; rw [List.drop_eq_getElem_cons hl]; have eb := bt_list t i hlt; by_cases c : (t.data.toList[i]).toNat < 48 ∨ 57 < (t.data.toList[i]).toNat
  ·refine Ev.last ⟨0, fun k _ => ?_⟩; simp only [spec_l1Read.l0, gl]; rw [if_pos (by omega), if_pos (by omega), eb, if_pos c]; rcases c with c | c
   ·rw [if_pos (by omega)]
   ·rw [if_neg (by omega), if_pos (by omega)]
  ·have h := ih (i + 1) (acc * 10 + ((t.data.toList[i]).toNat - 48)) (by omega) (by omega) (by rw [Nat.pow_succ]; omega); have e : gl s b acc (t.data.toList[i] :: t.data.toList.drop (i + 1)) = gl s b (acc * 10 + ((t.data.toList[i]).toNat - 48)) (t.data.toList.drop (i + 1)) := by
    rw [gl, if_neg c]
   rw [e]; refine Ev.next ⟨0, fun k _ => ?_⟩ h; simp only [spec_l1Read.l0]; rw [if_pos (by omega), if_pos (by omega), eb, if_neg (by omega), if_neg (by omega), up64 (by omega), w64 (x := 10 * (acc : Int)) (by omega) (by omega)]; congr 1
   unfold wrap64; omega
def bel (s : ByteArray) : Bool := if 0 < s.size then bt s 0 == 45 else false
def mag (s : ByteArray) : ByteArray := if bel s = true then s.extract 1 s.size else s
def G (s : ByteArray) (m : Nat) : Int × Bool := if (mag s).size < 1 ∨ m < (mag s).size then (0, false) else gl s (bel s) 0 (mag s).data.toList
theorem ev_l1Read (s : ByteArray) (m : Nat) (hm : m ≤ 12) : Ev (fun k => spec_l1Read.f k s (m : Int)) (G s m) := by
 have h2 : ∀ (b : Bool) (t : ByteArray), Ev (fun k => spec_l1Read.j1 k s (m : Int) b t) (if t.size < 1 ∨ m < t.size then (0, false) else gl s b 0 t.data.toList) := by
  intro b t; by_cases c1 : t.size < 1
  ·rw [if_pos (Or.inl c1)]; refine Ev.next (f := fun k => spec_l1Read.j2 k s b t true) ⟨0, fun k _ => ?_⟩ (Ev.last ⟨0, fun k _ => ?_⟩)
   ·simp only [spec_l1Read.j1]; rw [if_pos (by omega)]
   ·simp only [spec_l1Read.j2]; rw [if_pos trivial]
  ·by_cases c2 : m < t.size
   ·rw [if_pos (Or.inr c2)]; refine Ev.next (f := fun k => spec_l1Read.j2 k s b t true) ⟨0, fun k _ => ?_⟩ (Ev.last ⟨0, fun k _ => ?_⟩)
    ·simp only [spec_l1Read.j1]; rw [if_neg (by omega), decide_eq_true (by omega)]
    ·simp only [spec_l1Read.j2]; rw [if_pos trivial]
   ·rw [if_neg (by omega)]; have h := ev_l0 s b t (by omega) t.size 0 0 (by omega) (by omega) (by decide); rw [List.drop_zero] at h; refine Ev.next (f := fun k => spec_l1Read.j2 k s b t false) ⟨0, fun k _ => ?_⟩ (Ev.next ⟨0, fun k _ => ?_⟩ h)
    ·simp only [spec_l1Read.j1]; rw [if_neg (by omega), decide_eq_false (by omega)]
    ·simp only [spec_l1Read.j2]; rw [if_neg (by decide)]; rfl
 have h1 : Ev (fun k => spec_l1Read.j0 k s (m : Int) (bel s)) (G s m) := by
  refine Ev.next ⟨0, fun k _ => ?_⟩ (h2 (bel s) (mag s)); simp only [spec_l1Read.j0]; unfold mag; by_cases c : bel s = true
  ·have hs : 0 < s.size := by
    unfold bel at c; split at c
    ·assumption
    ·cases c
   rw [if_pos c, if_pos (by omega), if_pos c]
  ·rw [if_neg c, if_neg c]
 refine Ev.congr (fun k => ?_) h1; unfold spec_l1Read.f bel; by_cases c : 0 < s.size
 ·rw [if_pos (by omega), if_pos (by omega), if_pos c]
 ·rw [if_neg (by omega), if_neg c]
def R (s : ByteArray) (lo hi : Int) : Int × Bool := match Go.Lib.atoiAll s.data.toList with
  | .ok v => if (⟨(Go.Lib.itoa v).toArray⟩ : ByteArray).toList = s.toList ∧ lo ≤ v ∧ v ≤ hi then (v, true) else (0, false)
  | _ => (0, false)
theorem same_list (l : List UInt8) (s : ByteArray) : (⟨l.toArray⟩ : ByteArray).toList = s.toList ↔ l = s.data.toList := by
 have e : s.toList = s.data.toList := Go.ByteArray.toList_mk s.data.toList; rw [Go.ByteArray.toList_mk, e]
theorem R_at (s : ByteArray) (lo hi v : Int) (e : Go.Lib.itoa v = s.data.toList) (h0 : -9223372036854775808 ≤ v) (h1 : v ≤ 9223372036854775807) : R s lo hi = if lo ≤ v ∧ v ≤ hi then (v, true) else (0, false) := by
 have h := atoi_itoa v h0 h1; rw [e] at h; unfold R; rw [h]; dsimp only; by_cases c : lo ≤ v ∧ v ≤ hi
 ·rw [if_pos ⟨(same_list _ _).mpr e, c⟩, if_pos c]
 ·rw [if_neg (fun hh => c hh.2), if_neg c]
theorem R_no (s : ByteArray) (lo hi : Int) (h : ∀ v : Int, lo ≤ v → v ≤ hi → Go.Lib.itoa v ≠ s.data.toList) : R s lo hi = (0, false) := by
 unfold R; split
 ·rename_i v hv
  rw [if_neg (fun hh => h v hh.2.1 hh.2.2 ((same_list _ _).mp hh.1))]
 ·rfl
theorem R_or (s : ByteArray) (lo hi : Int) : R s lo hi = (0, false) ∨ ∃ v, R s lo hi = (v, true) ∧ Go.Lib.itoa v = s.data.toList ∧ lo ≤ v ∧ v ≤ hi := by
 unfold R; split
 ·rename_i v hv
  split
  ·rename_i c
   exact Or.inr ⟨v, rfl, (same_list _ _).mp c.1, c.2⟩
  ·exact Or.inl rfl
 ·exact Or.inl rfl
theorem G_R (s : ByteArray) (m : Nat) (h1 : 1 ≤ m) (h2 : m ≤ 12) : G s m = R s (-(((10 ^ m - 1 : Nat)) : Int)) ((10 ^ m - 1 : Nat) : Int) := by
 have hp := pow12 m h2; have hp0 : 0 < 10 ^ m := Nat.pow_pos (by decide); by_cases c : ∃ v : Int, -(((10 ^ m - 1 : Nat)) : Int) ≤ v ∧ v ≤ ((10 ^ m - 1 : Nat) : Int) ∧ Go.Lib.itoa v = s.data.toList
 ·obtain ⟨v, hv0, hv1, e⟩ := c; rw [R_at s _ _ v e (by omega) (by omega), if_pos ⟨hv0, hv1⟩]; have hb : bel s = decide (v < 0) ∧ (mag s).data.toList = Go.Lib.decDigits v.natAbs := by
   have hn := len_list s; unfold Go.Lib.itoa at e; by_cases cn : v < 0
   ·rw [if_pos cn] at e; rw [← e] at hn; have hs : 0 < s.size := by simp at hn; omega
    have hbel : bel s = true := by
     unfold bel; rw [if_pos hs]; have := bt_list s 0 hs; have e0 : s.data.toList[0]'(by rw [len_list]; exact hs) = 45 := by simp [← e]
     rw [e0] at this; rw [show (0 : Int) = ((0 : Nat) : Int) from rfl, this]; rfl
    refine ⟨by rw [hbel, decide_eq_true cn], ?_⟩; unfold mag; rw [if_pos hbel, tl, ← e]; rfl
   ·rw [if_neg cn] at e; have hd := dig_dec v.toNat; have hne := dec_ne v.toNat; rw [e] at hd hne; have hs : 0 < s.size := by
     rw [← hn]; exact List.length_pos_iff.mpr hne
    have hbel : bel s = false := by
     unfold bel; rw [if_pos hs]; have := bt_list s 0 hs; have h0 := hd (s.data.toList[0]'(by rw [len_list]; exact hs)) (List.getElem_mem _); rw [show (0 : Int) = ((0 : Nat) : Int) from rfl, this]; simp only [beq_eq_false_iff_ne, ne_eq]; omega
    refine ⟨by rw [hbel, decide_eq_false cn], ?_⟩; unfold mag; rw [if_neg (by rw [hbel]; decide), ← e]; congr 1
    omega
  obtain ⟨hb, hl⟩ := hb; have hsz : (mag s).size = (Go.Lib.decDigits v.natAbs).length := by rw [← len_list, hl]
  have h1' : 1 ≤ (Go.Lib.decDigits v.natAbs).length := List.length_pos_iff.mpr (dec_ne _); obtain ⟨m', rfl⟩ : ∃ m', m = m' + 1 := ⟨m - 1, by omega⟩; have hlen := (len_dec m' v.natAbs).mpr (by omega); unfold G; rw [if_neg (by omega), hl, gl_dig _ _ _ _ (dig_dec _), dv_dec, hb]; unfold fin; have ev : (if decide (v < 0) = true then -((v.natAbs : Nat) : Int) else ((v.natAbs : Nat) : Int)) = v := by
   by_cases cn : v < 0
   ·rw [if_pos (decide_eq_true cn)]; omega
   ·rw [if_neg (by simpa using cn)]; omega
  rw [ev, if_pos ((same_list _ _).mpr e)]
 ·rw [R_no s _ _ (fun v h0 h1 e => c ⟨v, h0, h1, e⟩)]; unfold G; split
  ·rfl
  ·rename_i hs
   rcases gl_cases s (bel s) (mag s).data.toList 0 with e | ⟨u, hu, e⟩
   ·exact e
   ·rw [e]; unfold fin; rw [len_list] at hu; have h3 : 10 ^ (mag s).size ≤ 10 ^ m := Nat.pow_le_pow_right (by decide) (by omega); refine if_neg (fun hh => c ⟨(if bel s = true then -(u : Int) else u), ?_, ?_, (same_list _ _).mp hh⟩)
    ·split <;> omega
    ·split <;> omega
theorem readR (s : ByteArray) (lo hi : Int) (h : s.size ≤ 1048576) : impl_readInt.f s lo hi = some (R s lo hi) := by
 unfold impl_readInt.f; rw [if_pos (by omega)]; rfl
theorem ev_specNumber (s : ByteArray) : Ev (fun k => spec_ParseNumber.f k s) (R s 0 999999) := by
 have h := ev_l1Read s 6 (by decide); rw [G_R s 6 (by decide) (by decide)] at h; obtain ⟨K, hK⟩ := h; refine ⟨K, fun k hk => ?_⟩; have g : spec_l1Read.f k s 6 = some (R s (-999999) 999999) := hK k hk; show spec_ParseNumber.f k s = some (R s 0 999999)
 unfold spec_ParseNumber.f; rw [g]; simp only [obs]; by_cases c : ∃ v : Int, -999999 ≤ v ∧ v ≤ 999999 ∧ Go.Lib.itoa v = s.data.toList
 ·obtain ⟨v, h0, h1, e⟩ := c; have e6 := R_at s (-999999) 999999 v e (by omega) (by omega); rw [if_pos ⟨h0, h1⟩] at e6; rw [e6, R_at s 0 999999 v e (by omega) (by omega)]; by_cases cn : v < 0
  ·rw [if_pos rfl, if_pos cn, if_neg (by omega)]
  ·rw [if_pos rfl, if_neg cn, if_pos (by omega)]
 ·rw [R_no s (-999999) _ (fun v h0 h1 e => c ⟨v, h0, h1, e⟩), R_no s 0 _ (fun v h0 h1 e => c ⟨v, by omega, h1, e⟩)]; rw [if_neg (by decide)]
theorem ev_specSplit (s : ByteArray) (c : UInt8) (hs : s.size ≤ 1048576) : Ev (fun k => spec_SplitByte.f k s (c.toNat : Int)) (cuts s ⟨#[c]⟩ 0) := by
 have hc := loop_is (σ := List ByteArray × Int) (s.size + 1) (fun k st i => spec_SplitByte.l0 k s (c.toNat : Int) st.1 st.2 i)
  (fun i st => (i ≤ s.size → ∃ f : Nat, st.2 = (f : Int) ∧ f ≤ i ∧ (∀ j (hj : f ≤ j) (hj2 : j < i) (h3 : j < s.size), s.data.toList[j]'(by rw [len_list]; exact h3) ≠ c) ∧ st.1 ++ cuts s ⟨#[c]⟩ f = cuts s ⟨#[c]⟩ 0 ∧ st.1.length ≤ i) ∧ (s.size < i → st.1 = cuts s ⟨#[c]⟩ 0)) (cuts s ⟨#[c]⟩ 0)
  (fun i st hi ⟨hI, _⟩ => by
   obtain ⟨f, hf, hfi, hn, ho, hl⟩ := hI (by omega); by_cases e : i = s.size
   ·refine Or.inl ⟨(st.1 ++ [s.extract f i], ((i + 1 : Nat) : Int)), ⟨fun h => by omega, fun _ => ?_⟩, 0, fun k _ => ?_⟩
    ·have := cuts_miss s c f (fun j hj hj2 => hn j hj (by omega) hj2); rw [this] at ho; subst e; exact ho
    ·simp only [spec_SplitByte.l0]; rw [if_pos (by omega), if_pos (by omega), hf, if_pos (by omega), if_pos (by omega), if_pos (by omega), up64 (by omega), Int.toNat_natCast, Int.toNat_natCast]
   ·have hlt : i < s.size := by omega
    by_cases e2 : s.data.toList[i]'(by rw [len_list]; exact hlt) = c
    ·refine Or.inl ⟨(st.1 ++ [s.extract f i], ((i + 1 : Nat) : Int)), ⟨fun h => ⟨i + 1, rfl, Nat.le_refl _, fun j hj hj2 _ => by omega, ?_, by simp; omega⟩, fun h => by omega⟩, 0, fun k _ => ?_⟩
     ·rw [cuts_hit s c f i hfi hlt e2 (fun j hj hj2 => hn j hj hj2 (by omega))] at ho; simpa using ho
     ·simp only [spec_SplitByte.l0]; rw [if_pos (by omega), if_neg (by omega), if_pos (by omega), if_pos (by omega), bt_list s i hlt, e2, if_pos rfl, hf, if_pos (by omega), if_pos (by omega), if_pos (by omega), up64 (by omega), Int.toNat_natCast, Int.toNat_natCast]
    ·refine Or.inl ⟨st, ⟨fun h => ⟨f, hf, by omega, fun j hj hj2 h3 => ?_, ho, by omega⟩, fun h => by omega⟩, 0, fun k _ => ?_⟩
     ·by_cases ej : j = i
      ·subst ej; exact e2
      ·exact hn j hj (by omega) h3
     ·simp only [spec_SplitByte.l0]; have hne : ¬ bt s (i : Int) = (c.toNat : Int) := by
       rw [bt_list s i hlt]; intro h; exact e2 (UInt8.toNat_inj.mp (by omega))
      rw [if_pos (by omega), if_neg (by omega), if_pos (by omega), if_pos (by omega), if_neg hne, up64 (by omega)])
  (fun st ⟨_, hI⟩ => ⟨0, fun k _ => by simp only [spec_SplitByte.l0]; rw [if_neg (by omega), hI (by omega)]⟩)
  ([], 0) ⟨fun _ => ⟨0, rfl, Nat.le_refl _, fun j hj hj2 _ => by omega, rfl, Nat.le_refl _⟩, fun h => by omega⟩
 exact Ev.congr (fun k => rfl) hc
def nb (l : List UInt8) : List Int := l.map fun b => (b.toNat : Int)
theorem nb_append (a b : List UInt8) : nb (a ++ b) = nb a ++ nb b := List.map_append
theorem strOf (l : List UInt8) : strOfNums (nb l) = ⟨l.toArray⟩ := by
 unfold strOfNums nb; rw [List.map_map]; have : ((fun n : Int => UInt8.ofNat n.toNat) ∘ fun b : UInt8 => (b.toNat : Int)) = id := by
  funext b
  simp
 rw [this, List.map_id]
def ds (l : List ByteArray) : List (List UInt8) := l.map (·.data.toList)
theorem join_succ (l : List (List UInt8)) (s : List UInt8) (i : Nat) (h : i < l.length) : Go.Lib.join (l.take (i + 1)) s = if 0 < i then Go.Lib.join (l.take i) s ++ s ++ l[i] else l[i] := by
 cases l with
 | nil => simp at h
 | cons x r =>
  cases i with
  | zero => rw [if_neg (by omega)]; simp [Go.Lib.join_one]
  | succ i =>
   have hi : i < r.length := by simpa using h
   rw [if_pos (by omega)]; have e : r.take (i + 1) = r.take i ++ [r[i]] := by rw [List.take_append_getElem]
   simp only [List.take_succ_cons, List.getElem_cons_succ]; rw [Go.Lib.join_cons, Go.Lib.join_cons, e]; unfold Go.Lib.joinTail; rw [List.map_append, List.flatten_append]; simp
theorem size_rd (l : List ByteArray) (i : Nat) (h : i < l.length) : ((rdOf ByteArray.empty l (i : Int)).size : Int) = ((ds l)[i]'(by simpa [ds] using h)).length := by
 rw [rdOf_at _ _ _ h]; simp only [ds, List.getElem_map, Array.length_toList]; rfl
theorem join_len (l : List ByteArray) (s : ByteArray) (hs : s.size ≤ 1048576) : ∀ i, i ≤ l.length → ((Go.Lib.join ((ds l).take i) s.data.toList).length : Int) ≤ i * 1048576 + ((l.take i).map fun s => (s.size : Int)).foldr (· + ·) 0 := by
 intro i; induction i with
 | zero => intro _; simp [Go.Lib.join_nil]
 | succ i ih =>
  intro h; have hi := ih (by omega); have hz : s.data.toList.length ≤ 1048576 := by rw [Array.length_toList]; exact hs
  rw [join_succ _ _ _ (by simp only [ds, List.length_map]; omega), sums_take l i (by omega), size_rd l i (by omega)]; split
  ·rw [List.length_append, List.length_append]; omega
  ·have := sums_nonneg (l.take i); omega
theorem ev_specJoin (l : List ByteArray) (s : ByteArray) (hs : s.size ≤ 1048576) (hw : wS l ≤ 1048576) : Ev (fun k => spec_Join.f k l s) ⟨(Go.Lib.join (ds l) s.data.toList).toArray⟩ := by
 have hl : l.length ≤ 1048576 := by have := sums_nonneg l; unfold wS at hw; omega
 have hc := loop_is (σ := List Int) l.length (fun k x i => spec_Join.l0 k l s x i) (fun i x => x = nb (Go.Lib.join ((ds l).take i) s.data.toList)) ⟨(Go.Lib.join (ds l) s.data.toList).toArray⟩
  (fun i x hi hx => by
   have hd : i < (ds l).length := by simpa [ds] using hi
   have b1 := join_len l s hs i (by omega); have b2 := sums_le l i; have b3 := sums_take l i hi; have b4 := sums_le l (i + 1); have hxl : x.length = (Go.Lib.join ((ds l).take i) s.data.toList).length := by rw [hx]; simp [nb]
   have e2 : bytesOf (rdOf ByteArray.empty l (i : Int)) = nb ((ds l)[i]) := by rw [rdOf_at _ _ _ hi]; simp only [ds, List.getElem_map]; rfl
   have e3 : bytesOf s = nb s.data.toList := rfl; have b5 := sums_nonneg (l.take i); unfold wS at hw; have hxb : (x.length : Int) ≤ 1099512676352 := by omega
   have hyb : ((rdOf ByteArray.empty l (i : Int)).size : Int) ≤ 1048576 := by omega
   refine Or.inl ⟨nb (Go.Lib.join ((ds l).take (i + 1)) s.data.toList), rfl, 0, fun k _ => ?_⟩; simp only [spec_Join.l0]; rw [if_pos (by omega), join_succ _ _ _ hd]; by_cases c : 0 < i
   ·rw [if_pos c, if_pos (by omega), if_pos (by omega)]; simp only [obs]; rw [if_pos (by omega), if_pos (by rw [List.length_append, bytesOf_length]; omega), up64 (by omega), e2, e3, hx, nb_append, nb_append]
   ·rw [if_neg c, if_neg (by omega), if_pos (by omega), if_pos (by omega), up64 (by omega), e2]; obtain rfl : i = 0 := by omega
    have : x = [] := by rw [hx]; simp [Go.Lib.join_nil, nb]
    rw [this, List.nil_append])
  (fun x hx => ⟨0, fun k _ => by
   simp only [spec_Join.l0]; rw [if_neg (by omega), hx, List.take_of_length_le (by simp [ds]), strOf]⟩)
  [] (by simp [Go.Lib.join_nil, nb])
 exact Ev.congr (fun k => rfl) hc
theorem implJoin_eq (l : List ByteArray) (s : ByteArray) (hs : s.size ≤ 1048576) (hw : wS l ≤ 1048576) : impl_Join.f l s = some ⟨(Go.Lib.join (ds l) s.data.toList).toArray⟩ := by
 have hl : l.length ≤ 1048576 := by have := sums_nonneg l; unfold wS at hw; omega
 have b1 := join_len l s hs l.length (by omega); rw [List.take_of_length_le (by simp [ds]), List.take_of_length_le (by omega)] at b1; unfold wS at hw; unfold impl_Join.f strings_Join.f; rw [if_pos]
 ·rfl
 ·constructor
  ·omega
  ·have b2 : ((Go.Lib.join (l.map (·.data.toList)) s.data.toList).length : Int) ≤ 1099512676352 := by
    have b3 : ((Go.Lib.join (ds l) s.data.toList).length : Int) ≤ 1099512676352 := by omega
    exact b3
   omega
theorem rdE (l : List S52) (i : Nat) : rd_T52 l (i : Int) = l.getD i z52 := by unfold rd_T52; rw [Int.toNat_natCast]
def stmtB (v : List ByteArray) (x : S50) : Bool := varsB v && namesB v (nm x.f0) x.f1 x.f2
def edgeB (v : List ByteArray) (p : Int) (x : S52) : Bool := (decide (0 ≤ x.f0) && decide (x.f0 ≤ wrap64 (p - 1))) && ((decide (0 ≤ x.f1) && decide (x.f1 ≤ wrap64 (p - 1))) && stmtB v x.f2)
def edgesB (v : List ByteArray) (p : Int) (l : List S52) : Bool := decide (∀ i : Nat, i < l.length → edgeB v p (l.getD i z52) = true)
def restB (v : List ByteArray) (p : Int) (l : List S52) : Bool := varsB v && ((decide (1 ≤ p) && decide (p ≤ 12)) && decide ((l.length : Int) ≤ 24))
theorem ev_specIsProgram (v : List ByteArray) (p : Int) (l : List S52) (hv : v.length ≤ 1048576) (hs : ∀ s ∈ v, s.size ≤ 9223372036854775807) (hl : l.length ≤ 1048576) : Ev (fun k => spec_IsProgram.f k v p l) (edgesB v p l && restB v p l) := by
 obtain ⟨K, hK⟩ := ev_specAreVars v (by omega) hs; have hc := all_loop l.length (by omega) (fun i => edgeB v p (l.getD i z52) = true) (fun k i => spec_IsProgram.l0 k i v p l) (restB v p l) false
  (fun i hi hT => by
   obtain ⟨K1, h1⟩ := ev_specIsStmt v (l.getD i z52).f2.f0 (l.getD i z52).f2.f1 (l.getD i z52).f2.f2 (by omega) hs; refine ⟨K1, fun k hk => ?_⟩; have g := h1 k hk; dsimp only at g; simp only [spec_IsProgram.l0]; rw [if_pos (by omega), if_pos (by omega), rdE, in_eq, in_eq, g]; unfold edgeB stmtB at hT; obtain ⟨t1, t2⟩ := Bool.and_eq_true_iff.mp hT; obtain ⟨t2, t3⟩ := Bool.and_eq_true_iff.mp t2; simp only [obs]; rw [if_pos t1, if_pos t2, if_pos t3])
  (fun i hi hT => by
   obtain ⟨K1, h1⟩ := ev_specIsStmt v (l.getD i z52).f2.f0 (l.getD i z52).f2.f1 (l.getD i z52).f2.f2 (by omega) hs; refine ⟨K1, fun k hk => ?_⟩; have g := h1 k hk; dsimp only at g; simp only [spec_IsProgram.l0]; rw [if_pos (by omega), if_pos (by omega), rdE, in_eq, in_eq, g]; unfold edgeB stmtB at hT; simp only [obs]; generalize l.getD i z52 = x at *; by_cases c1 : (decide (0 ≤ x.f0) && decide (x.f0 ≤ wrap64 (p - 1))) = true
   ·rw [if_pos c1]; by_cases c2 : (decide (0 ≤ x.f1) && decide (x.f1 ≤ wrap64 (p - 1))) = true
    ·rw [if_pos c2, if_neg (fun c3 => hT (Bool.and_eq_true_iff.mpr ⟨c1, Bool.and_eq_true_iff.mpr ⟨c2, c3⟩⟩))]
    ·rw [if_neg c2]
   ·rw [if_neg c1])
  ⟨K, fun k hk => by
   have g := hK k hk; dsimp only at g; simp only [spec_IsProgram.l0]; rw [if_neg (by omega), in_eq, g]; unfold restB; simp only [obs]; by_cases c1 : (decide ((1 : Int) ≤ p) && decide (p ≤ 12)) = true <;> by_cases c2 : varsB v = true <;> simp [c1, c2]⟩
  (edgesB v p l && restB v p l) (by
   unfold edgesB; by_cases c : ∀ i : Nat, i < l.length → edgeB v p (l.getD i z52) = true
   ·rw [if_pos c, decide_eq_true c, Bool.true_and]
   ·rw [if_neg c, decide_eq_false c, Bool.false_and])
 exact Ev.congr (fun k => rfl) hc
theorem ev_captured (v : List ByteArray) (p : Int) (l : List S52) (x : S52) (hv : v.length ≤ 1048576) (hs : ∀ s ∈ v, s.size ≤ 9223372036854775807) : Ev (fun k => impl_IsProgram_1_captured.f k x.f0 x.f1 x.f2.f0 x.f2.f1 x.f2.f2 v p l) (!(edgeB v p x)) := by
 obtain ⟨K, hK⟩ := ev_implIsStmt v x.f2.f0 x.f2.f1 x.f2.f2 (by omega) hs; refine ⟨K, fun k hk => ?_⟩; have g := hK k hk; dsimp only at g ⊢; unfold impl_IsProgram_1_captured.f edgeB stmtB; rw [wi_eq, wi_eq, g]; simp only [obs]; by_cases c1 : (decide (0 ≤ x.f0) && decide (x.f0 ≤ wrap64 (p - 1))) = true
 ·rw [if_pos c1, c1]; by_cases c2 : (decide (0 ≤ x.f1) && decide (x.f1 ≤ wrap64 (p - 1))) = true
  ·rw [if_pos c2, c2]; rfl
  ·rw [if_neg c2, Bool.eq_false_iff.mpr c2]; rfl
 ·rw [if_neg c1, Bool.eq_false_iff.mpr c1]; rfl
theorem ev_implIsProgram (v : List ByteArray) (p : Int) (l : List S52) (hv : v.length ≤ 1048576) (hs : ∀ s ∈ v, s.size ≤ 9223372036854775807) (hl : l.length ≤ 1048576) : Ev (fun k => impl_IsProgram.f k v p l) (edgesB v p l && restB v p l) := by
 obtain ⟨r, hi, hr⟩ := index_loop l.length (by omega) (fun i => edgeB v p (l.getD i z52) = true) (fun k i => impl_Edge_IsProgram_1_88.l0 k l (l.length : Int) i v p l)
  (fun i hi hT => by
   obtain ⟨K1, h1⟩ := ev_captured v p l (l.getD i z52) hv hs; refine ⟨K1, fun k hk => ?_⟩; have g := h1 k hk; dsimp only at g; simp only [impl_Edge_IsProgram_1_88.l0]; rw [if_pos (by omega), if_pos (by omega), if_pos (by omega), rdE, g, hT]; simp only [obs]; rw [if_neg (by decide)])
  (fun i hi hT => by
   obtain ⟨K1, h1⟩ := ev_captured v p l (l.getD i z52) hv hs; refine ⟨K1, fun k hk => ?_⟩; have g := h1 k hk; dsimp only at g; simp only [impl_Edge_IsProgram_1_88.l0]; rw [if_pos (by omega), if_pos (by omega), if_pos (by omega), rdE, g, Bool.eq_false_iff.mpr hT]; simp only [obs]; rw [if_pos (by decide)])
  ⟨0, fun k _ => by simp only [impl_Edge_IsProgram_1_88.l0]; rw [if_neg (by omega)]⟩
 obtain ⟨K, hK⟩ := Evt.and hi (ev_implAreVars v (by omega) hs); refine ⟨K, fun k hk => ?_⟩; obtain ⟨g1, g2⟩ := hK k hk; dsimp only at g1 g2 ⊢; unfold impl_IsProgram.f impl_Edge_IsProgram_1_54.f impl_Edge_IsProgram_1_88.f; rw [g1, g2, wi_eq]; simp only [obs, hr]; unfold restB edgesB; by_cases c1 : varsB v = true
 ·rw [if_pos c1, c1, Bool.true_and]; by_cases c2 : (decide ((1 : Int) ≤ p) && decide (p ≤ 12)) = true
  ·rw [if_pos c2, c2, Bool.true_and]; by_cases c3 : (l.length : Int) ≤ 24
   ·rw [if_neg (by omega), decide_eq_true c3, Bool.and_true, Bool.not_not]
   ·rw [if_pos (by omega), decide_eq_false c3, Bool.and_false]
  ·rw [if_neg c2, Bool.eq_false_iff.mpr c2, Bool.false_and, Bool.and_false]
 ·rw [if_neg c1, Bool.eq_false_iff.mpr c1, Bool.false_and, Bool.and_false]
def namesN (m : Int) (s t : ByteArray) : Bool :=
 (if 0 < m then nameB s else decide (s.toList = [])) && ((if 1 < m then nameB t else decide (t.toList = [])) && decide (m ≥ 0))
theorem ev_hasNames0 (a : Int) (s t : ByteArray) (hs : s.size ≤ 9223372036854775807) (ht : t.size ≤ 9223372036854775807) : Ev (fun k => impl_Stmt_hasNames_IsName.f k a s t) (namesN (nm a) s t) := by
 obtain ⟨K, hK⟩ := Evt.and (ev_implIsName s hs) (ev_implIsName t ht); refine ⟨K + 3, fun k hk => ?_⟩; obtain ⟨k, rfl⟩ : ∃ m, k = m + 3 := ⟨k - 3, by omega⟩; obtain ⟨a1, _⟩ := hK (k + 2) (by omega); obtain ⟨_, b2⟩ := hK (k + 1) (by omega); dsimp only at a1 b2 ⊢; have l2 : (([s, t] : List ByteArray).length : Int) = 2 := rfl; have r0 : rdOf ByteArray.empty [s, t] 0 = s := rfl; have r1 : rdOf ByteArray.empty [s, t] 1 = t := rfl; have w0 : wrap64 (0 + 1) = 1 := by unfold wrap64; omega
 have w1 : wrap64 (1 + 1) = 2 := by unfold wrap64; omega
 have i0 : (0 : Int) < 2 := by decide
 have i1 : (1 : Int) < 2 := by decide
 have i2 : ¬ (2 : Int) < 2 := by decide
 have j0 : (0 : Int) ≤ 0 := by decide
 have j1 : (0 : Int) ≤ 1 := by decide
 unfold impl_Stmt_hasNames_IsName.f; rw [implNames]; simp only [obs, impl_Stmt_hasNames_IsName.l0, l2, i0, i1, i2, j0, j1, if_true, if_false, r0, r1, w0, w1, a1, b2]; unfold namesN; rcases nm_cases a with e | e | e | e <;> rw [e]
 ·by_cases c1 : s.toList = [] <;> by_cases c2 : t.toList = [] <;> simp [c1, c2]
 ·by_cases c1 : s.toList = [] <;> by_cases c2 : t.toList = [] <;> simp [c1, c2]
 ·by_cases c1 : nameB s = true <;> by_cases c2 : t.toList = [] <;> simp [c1, c2]
 ·by_cases c1 : nameB s = true <;> by_cases c2 : nameB t = true <;> simp [c1, c2]
theorem nameB_size (s : ByteArray) (h : nameB s = true) : 1 ≤ s.size ∧ s.size ≤ 2 := by
 unfold nameB at h; simp only [Bool.and_eq_true, decide_eq_true_eq] at h; omega
theorem toList_nil (s : ByteArray) : s.toList = [] ↔ s.size = 0 := by
 have e : s.toList = s.data.toList := Go.ByteArray.toList_mk s.data.toList; have l : s.data.toList.length = s.size := Array.length_toList; rw [e, ← l]; exact List.length_eq_zero_iff.symm
theorem nil_name (s : ByteArray) (h : s.toList = []) : nameB s = false := by
 cases hb : nameB s with
 | false => rfl
 | true => have := nameB_size s hb; have := (toList_nil s).mp h; omega
theorem name_nil (s : ByteArray) (h : nameB s = true) : s.toList ≠ [] := fun e => by rw [nil_name s e] at h; cases h
theorem nil_eq (s : ByteArray) (h : s.toList = []) : s = ⟨#[]⟩ := by
 have h := (toList_nil s).mp h; obtain ⟨d⟩ := s; obtain ⟨l⟩ := d; match l, h with
 | [], _ => rfl
def formT (a : Int) (s t : ByteArray) : ByteArray := ⟨(repl s.data.toList t.data.toList (formList.getD (a - 1).toNat ByteArray.empty).data.toList).toArray⟩
def stText (a : Int) (s t : ByteArray) : ByteArray := if namesN (nm a) s t = true then formT a s t else ⟨#[]⟩
theorem names_sizes (m : Int) (s t : ByteArray) (h : namesN m s t = true) : 0 ≤ m ∧ s.size ≤ 2 ∧ t.size ≤ 2 := by
 unfold namesN at h; simp only [Bool.and_eq_true, decide_eq_true_eq] at h; obtain ⟨h1, h2, h3⟩ := h; refine ⟨h3, ?_, ?_⟩
 ·split at h1
  ·exact (nameB_size s h1).2
  ·have := (toList_nil s).mp (of_decide_eq_true h1); omega
 ·split at h2
  ·exact (nameB_size t h2).2
  ·have := (toList_nil t).mp (of_decide_eq_true h2); omega
theorem nm_range (a : Int) (h : 0 ≤ nm a) : a = 1 ∨ a = 2 ∨ a = 3 ∨ a = 4 ∨ a = 5 ∨ a = 6 ∨ a = 7 ∨ a = 8 ∨ a = 9 ∨ a = 10 ∨ a = 11 ∨ a = 12 := by
 unfold nm at h; split at h
 ·omega
 ·split at h
  ·omega
  ·split at h
   ·omega
   ·omega
theorem ev_implText (a : Int) (s t : ByteArray) (hs : s.size ≤ 9223372036854775807) (ht : t.size ≤ 9223372036854775807) : Ev (fun k => impl_StmtText.f k a s t) (stText a s t) := by
 obtain ⟨K, hK⟩ := ev_hasNames0 a s t hs ht; refine ⟨K, fun k hk => ?_⟩; have h1 := hK k hk; dsimp only at h1; show impl_StmtText.f k a s t = _
 unfold impl_StmtText.f stText; rw [h1]; simp only [obs]; by_cases c : namesN (nm a) s t = true
 ·obtain ⟨h2, h3, h4⟩ := names_sizes _ _ _ c; have h5 := nm_range a h2; rw [if_pos c, if_pos c, if_pos ⟨by omega, by omega, h3, h4⟩]; rfl
 ·rw [if_neg c, if_neg c]
theorem cat_eq (l : List UInt8) (s : ByteArray) (h : s.data.toList = l) : s = ⟨l.toArray⟩ := by
 subst h; rfl
theorem form_of (a : Int) (s t x : ByteArray) (h : x.data.toList = repl s.data.toList t.data.toList (formList.getD (a - 1).toNat ByteArray.empty).data.toList) : some x = some (formT a s t) := congrArg some (cat_eq _ _ h)
theorem spec_j0_true (k : Nat) (a : Int) (s t : ByteArray) : spec_StmtText.j0 (k + 1) true a s t = some ⟨#[]⟩ := by
 simp only [spec_StmtText.j0]; rw [if_pos trivial]
theorem spec_j0_false (k : Nat) (a : Int) (s t : ByteArray) (h : 0 ≤ nm a) (hs : s.size ≤ 2) (ht : t.size ≤ 2) : spec_StmtText.j0 (k + 1) false a s t = some (formT a s t) := by
 have e1 : (⟨#[61]⟩ : ByteArray).size = 1 := rfl; have e2 : (⟨#[46, 110, 61]⟩ : ByteArray).size = 3 := rfl; have e3 : (⟨#[61, 61]⟩ : ByteArray).size = 2 := rfl; have e4 : (⟨#[33, 61]⟩ : ByteArray).size = 2 := rfl; have h1 : (s.size + 1 ≤ 9223372036854775807) = True := eq_true (by omega); have h2 : (s.size + 2 ≤ 9223372036854775807) = True := eq_true (by omega); have h3 : (s.size + 3 ≤ 9223372036854775807) = True := eq_true (by omega); have h4 : (s.size + 4 ≤ 9223372036854775807) = True := eq_true (by omega); have h5 : (s.size + 5 ≤ 9223372036854775807) = True := eq_true (by omega); have h5' : (5 + s.size ≤ 9223372036854775807) = True := eq_true (by omega); have h6 : (s.size + 6 ≤ 9223372036854775807) = True := eq_true (by omega); have h7 : (s.size + 7 ≤ 9223372036854775807) = True := eq_true (by omega); have g1 : ((s ++ (⟨#[61]⟩ : ByteArray)).size + t.size ≤ 9223372036854775807) = True := eq_true (by rw [ByteArray.size_append, e1]; omega); have g2 : ((s ++ (⟨#[46, 110, 61]⟩ : ByteArray)).size + t.size ≤ 9223372036854775807) = True := eq_true (by rw [ByteArray.size_append, e2]; omega); have g3 : ((s ++ (⟨#[61, 61]⟩ : ByteArray)).size + t.size ≤ 9223372036854775807) = True := eq_true (by rw [ByteArray.size_append, e3]; omega); have g4 : ((s ++ (⟨#[33, 61]⟩ : ByteArray)).size + t.size ≤ 9223372036854775807) = True := eq_true (by rw [ByteArray.size_append, e4]; omega); have g5 : (((s ++ (⟨#[61]⟩ : ByteArray)) ++ t).size + 2 ≤ 9223372036854775807) = True := eq_true (by rw [ByteArray.size_append, ByteArray.size_append, e1]; omega); rcases nm_range a h with rfl | rfl | rfl | rfl | rfl | rfl | rfl | rfl | rfl | rfl | rfl | rfl; all_goals
  simp only [spec_StmtText.j0, h1, h2, h3, h4, h5, h5', h6, h7, g1, g2, g3, g4, g5, if_true, if_false, reduceIte, Int.reduceEq, Bool.false_eq_true]; refine form_of _ _ _ _ ?_; simp [repl, rep1, formList]
theorem ev_specText (a : Int) (s t : ByteArray) (hs : s.size ≤ 9223372036854775807) (ht : t.size ≤ 9223372036854775807) : Ev (fun k => spec_StmtText.f k a s t) (stText a s t) := by
 obtain ⟨K, hK⟩ := Evt.and (ev_specIsName s hs) (ev_specIsName t ht); refine ⟨K + 1, fun k hk => ?_⟩; obtain ⟨k, rfl⟩ : ∃ m, k = m + 1 := ⟨k - 1, by omega⟩; obtain ⟨g1, g2⟩ := hK (k + 1) (by omega); dsimp only at g1 g2 ⊢; unfold spec_StmtText.f; rw [specNames]; simp only [obs]; rw [g1, g2]; simp only [obs]; by_cases c : namesN (nm a) s t = true
 ·obtain ⟨h2, h3, h4⟩ := names_sizes _ _ _ c; have hj := spec_j0_false k a s t h2 h3 h4; unfold stText; rw [if_pos c]; unfold namesN at c; rcases nm_cases a with e | e | e | e <;> rw [e] at c ⊢
  ·simp at c
  ·simp at c; have n1 := nil_name s c.1; have n2 := nil_name t c.2; simp [n1, n2, c.1, c.2, hj]
  ·simp at c; have n2 := nil_name t c.2; simp [c.1, n2, c.2, hj]
  ·simp at c; simp [c.1, c.2, hj]
 ·unfold stText; rw [if_neg c]; have hj := spec_j0_true k a s t; unfold namesN at c; rcases nm_cases a with e | e | e | e <;> rw [e] at c ⊢
  ·simp [hj]
  ·by_cases c1 : s.toList = [] <;> by_cases c2 : t.toList = []
   ·simp [c1, c2] at c
   ·have d2 : (t.toList != ([] : List UInt8)) = true := by simpa using c2
    cases hn : nameB t <;> simp [c1, d2, nil_name s c1, hj]
   ·cases hn : nameB s <;> simp [c1, nil_name t c2, hj]
   ·cases hn : nameB s <;> cases hm : nameB t <;> simp [c1, hj]
  ·cases hn : nameB s
   ·simp [hj]
   ·by_cases c2 : t.toList = []
    ·simp [hn, c2] at c
    ·have d2 : (t.toList != ([] : List UInt8)) = true := by simpa using c2
     cases hm : nameB t <;> simp [d2, hj]
  ·cases hn : nameB s
   ·simp [hj]
   ·cases hm : nameB t
    ·simp [hj]
    ·simp [hn, hm] at c
def itoB (a : Int) : ByteArray := ⟨(Go.Lib.itoa a).toArray⟩
theorem itoB_size (a : Int) (h0 : -9223372036854775808 ≤ a) (h1 : a ≤ 9223372036854775807) : (itoB a).size ≤ 21 := by
 have := Go.Lib.itoa_length_le a h0 h1; unfold itoB; rw [sz]; exact this
theorem impl_fmt (a : Int) (h0 : -9223372036854775808 ≤ a) (h1 : a ≤ 9223372036854775807) : impl_FormatInt.f a = some (itoB a) := by
 unfold impl_FormatInt.f strconv_Itoa.f; rw [if_pos ⟨h0, h1⟩]; rfl
theorem formT_size (a : Int) (s t : ByteArray) (h : 0 ≤ nm a) (hs : s.size ≤ 2) (ht : t.size ≤ 2) : (formT a s t).size ≤ 20 := by
 have hx : s.data.toList.length ≤ 2 := by simpa using hs
 have hy : t.data.toList.length ≤ 2 := by simpa using ht
 unfold formT; rw [sz]; rcases nm_range a h with rfl | rfl | rfl | rfl | rfl | rfl | rfl | rfl | rfl | rfl | rfl | rfl; all_goals
  simp [repl, rep1, formList]; try omega
theorem stText_sizeP (a : Int) (s t : ByteArray) : (stText a s t).size ≤ 20 := by
 unfold stText; by_cases c : namesN (nm a) s t = true
 ·obtain ⟨h2, h3, h4⟩ := names_sizes _ _ _ c; rw [if_pos c]; exact formT_size a s t h2 h3 h4
 ·rw [if_neg c]; show 0 ≤ _
  omega
def edT (x : S52) : ByteArray := (((itoB x.f0 ++ (⟨#[32]⟩ : ByteArray)) ++ itoB x.f1) ++ (⟨#[32]⟩ : ByteArray)) ++ stText x.f2.f0 x.f2.f1 x.f2.f2
theorem size1 (b : UInt8) : (⟨#[b]⟩ : ByteArray).size = 1 := rfl
def Fits (x : S52) : Prop := (-9223372036854775808 ≤ x.f0 ∧ x.f0 ≤ 9223372036854775807) ∧ (-9223372036854775808 ≤ x.f1 ∧ x.f1 ≤ 9223372036854775807) ∧ x.f2.f1.size ≤ 1048576 ∧ x.f2.f2.size ≤ 1048576
theorem edT_size (x : S52) (h : Fits x) : (edT x).size ≤ 64 := by
 have h1 := itoB_size x.f0 h.1.1 h.1.2; have h2 := itoB_size x.f1 h.2.1.1 h.2.1.2; have h3 := stText_sizeP x.f2.f0 x.f2.f1 x.f2.f2; unfold edT; simp only [ByteArray.size_append, size1]; omega
def partsL (A P : ByteArray) (l : List S52) (i : Nat) : List ByteArray := [A, P] ++ ((List.range i).map fun j => edT (l.getD j z52))
theorem parts_succ (A P : ByteArray) (l : List S52) (i : Nat) : partsL A P l (i + 1) = partsL A P l i ++ [edT (l.getD i z52)] := by
 unfold partsL; rw [List.range_succ, List.map_append, List.append_assoc]; rfl
theorem parts_len (A P : ByteArray) (l : List S52) (i : Nat) : (partsL A P l i).length = i + 2 := by
 unfold partsL; simp
theorem join_snoc (l : List (List UInt8)) (y s : List UInt8) (h : 0 < l.length) : Go.Lib.join (l ++ [y]) s = Go.Lib.join l s ++ s ++ y := by
 have := join_succ (l ++ [y]) s l.length (by simp); rw [if_pos h, List.take_of_length_le (by simp), List.take_left, List.getElem_append_right (Nat.le_refl _)] at this; simpa using this
def progT (A P : ByteArray) (l : List S52) (i : Nat) : ByteArray := ⟨(Go.Lib.join (ds (partsL A P l i)) [59]).toArray⟩
theorem eq_of_data (a b : ByteArray) (h : a.data.toList = b.data.toList) : a = b := by
 obtain ⟨⟨a⟩⟩ := a; obtain ⟨⟨b⟩⟩ := b; dsimp only at h; rw [h]
theorem progT_zero (A P : ByteArray) (l : List S52) : progT A P l 0 = (A ++ (⟨#[59]⟩ : ByteArray)) ++ P := by
 apply eq_of_data; have e : ds (partsL A P l 0) = [A.data.toList] ++ [P.data.toList] := rfl; unfold progT; rw [e, join_snoc _ _ _ (by simp), Go.Lib.join_one]; simp [ByteArray.data_append]
theorem progT_succ (A P : ByteArray) (l : List S52) (i : Nat) : progT A P l (i + 1) = (progT A P l i ++ (⟨#[59]⟩ : ByteArray)) ++ edT (l.getD i z52) := by
 apply eq_of_data; have e : ds (partsL A P l (i + 1)) = ds (partsL A P l i) ++ [(edT (l.getD i z52)).data.toList] := by
  rw [parts_succ]; unfold ds; rw [List.map_append]; rfl
 unfold progT; rw [e, join_snoc _ _ _ (by unfold ds; rw [List.length_map, parts_len]; omega)]; simp [ByteArray.data_append]
theorem cat5 (T a b c : ByteArray) : ((((((T ++ (⟨#[59]⟩ : ByteArray)) ++ a) ++ (⟨#[32]⟩ : ByteArray)) ++ b) ++ (⟨#[32]⟩ : ByteArray)) ++ c) = (T ++ (⟨#[59]⟩ : ByteArray)) ++ ((((a ++ (⟨#[32]⟩ : ByteArray)) ++ b) ++ (⟨#[32]⟩ : ByteArray)) ++ c) := by
 apply eq_of_data; simp [ByteArray.data_append]
theorem progT_size (A P : ByteArray) (l : List S52) (hf : ∀ i : Nat, i < l.length → Fits (l.getD i z52)) (hA : A.size ≤ 1099512676352) (hP : P.size ≤ 21) : ∀ i : Nat, i ≤ l.length → (progT A P l i).size ≤ 1099512676352 + 22 + i * 65 := by
 intro i; induction i with
 | zero =>
  intro _; rw [progT_zero]; simp only [ByteArray.size_append, size1]; omega
 | succ i ih =>
  intro h; have h1 := ih (by omega); have h2 := edT_size _ (hf i (by omega)); rw [progT_succ]; simp only [ByteArray.size_append, size1]; omega
theorem ev_specLoop (v : List ByteArray) (p : Int) (l : List S52) (A P : ByteArray) (hl : l.length ≤ 1048576) (hf : ∀ i : Nat, i < l.length → Fits (l.getD i z52)) (hA : A.size ≤ 1099512676352) (hP : P.size ≤ 21) : Ev (fun k => spec_ProgramText.l0 k ((A ++ (⟨#[59]⟩ : ByteArray)) ++ P) 0 v p l) (progT A P l l.length) := by
 rw [← progT_zero A P l]; exact loop_is (σ := ByteArray) l.length (fun k x i => spec_ProgramText.l0 k x i v p l) (fun i x => x = progT A P l i) (progT A P l l.length)
  (fun i x hi hx => by
   subst hx; have hF := hf i hi; obtain ⟨⟨a0, a1⟩, ⟨b0, b1⟩, s0, s1⟩ := hf i hi; obtain ⟨K, hK⟩ := Evt.and (ev_specFormatInt _ a0 a1) (Evt.and (ev_specFormatInt _ b0 b1) (ev_specText (l.getD i z52).f2.f0 (l.getD i z52).f2.f1 (l.getD i z52).f2.f2 (by omega) (by omega))); have z0 := progT_size A P l hf hA hP i (by omega); have z1 := itoB_size _ a0 a1; have z2 := itoB_size _ b0 b1; have z3 := stText_sizeP (l.getD i z52).f2.f0 (l.getD i z52).f2.f1 (l.getD i z52).f2.f2; refine Or.inl ⟨progT A P l (i + 1), rfl, K, fun k hk => ?_⟩; obtain ⟨g1, g2, g3⟩ := hK k hk; have g1 : spec_FormatInt.f k (l.getD i z52).f0 = some (itoB (l.getD i z52).f0) := g1; have g2 : spec_FormatInt.f k (l.getD i z52).f1 = some (itoB (l.getD i z52).f1) := g2; dsimp only at g3; rw [progT_succ]; unfold edT; rw [← cat5]; simp only [spec_ProgramText.l0]; rw [if_pos (by omega), if_pos (by omega), if_pos (by omega), rdE, g1]; simp only [obs]; rw [if_pos (by simp only [ByteArray.size_append, size1]; omega), if_pos (by simp only [ByteArray.size_append, size1]; omega), g2]; simp only [obs]; rw [if_pos (by simp only [ByteArray.size_append, size1]; omega), if_pos (by simp only [ByteArray.size_append, size1]; omega), g3]; simp only [obs]; rw [if_pos (by simp only [ByteArray.size_append, size1]; omega), up64 (by omega)])
  (fun x hx => ⟨0, fun k _ => by
   simp only [spec_ProgramText.l0]; rw [if_neg (by omega), hx]⟩)
  (progT A P l 0) rfl
theorem ev_implLoop (v : List ByteArray) (p : Int) (l : List S52) (A P : ByteArray) (hl : l.length ≤ 1048576) (hf : ∀ i : Nat, i < l.length → Fits (l.getD i z52)) (hA : A.size ≤ 1099512676352) (hP : P.size ≤ 21) : Ev (fun k => impl_ProgramText.l0 k [A, P] l (l.length : Int) 0) (progT A P l l.length) := by
 exact loop_is (σ := List ByteArray) l.length (fun k x i => impl_ProgramText.l0 k x l (l.length : Int) i) (fun i x => x = partsL A P l i) (progT A P l l.length)
  (fun i x hi hx => by
   subst hx; obtain ⟨⟨a0, a1⟩, ⟨b0, b1⟩, s0, s1⟩ := hf i hi; obtain ⟨K, hK⟩ := ev_implText (l.getD i z52).f2.f0 (l.getD i z52).f2.f1 (l.getD i z52).f2.f2 (by omega) (by omega); have z1 := itoB_size _ a0 a1; have z2 := itoB_size _ b0 b1; have z3 := stText_sizeP (l.getD i z52).f2.f0 (l.getD i z52).f2.f1 (l.getD i z52).f2.f2; have z4 := parts_len A P l i; refine Or.inl ⟨partsL A P l (i + 1), rfl, K, fun k hk => ?_⟩; have g3 := hK k hk; dsimp only at g3; rw [parts_succ]; unfold edT; simp only [impl_ProgramText.l0]; rw [if_pos (by omega), if_pos (by omega), if_pos (by omega), rdE, impl_fmt _ a0 a1]; simp only [obs]; rw [if_pos (by omega), impl_fmt _ b0 b1]; simp only [obs]; rw [if_pos (by simp only [ByteArray.size_append, size1]; omega), if_pos (by simp only [ByteArray.size_append, size1]; omega), g3]; simp only [obs]; rw [if_pos (by simp only [ByteArray.size_append, size1]; omega), if_pos (by omega), up64 (by omega)])
  (fun x hx => ⟨0, fun k _ => by
   have z0 := progT_size A P l hf hA hP l.length (Nat.le_refl _); have z4 := parts_len A P l l.length; have z5 : (Go.Lib.join (ds (partsL A P l l.length)) [59]).length = (progT A P l l.length).size := by unfold progT; rw [sz]
   simp only [impl_ProgramText.l0]; rw [if_neg (by omega), hx]; unfold impl_Join.f strings_Join.f; have e : (Go.Lib.join ((partsL A P l l.length).map (·.data.toList)) (⟨#[59]⟩ : ByteArray).data.toList) = Go.Lib.join (ds (partsL A P l l.length)) [59] := rfl; rw [e, if_pos ⟨by omega, by omega⟩]; rfl⟩)
  [A, P] rfl
def progB (v : List ByteArray) (p : Int) (l : List S52) : Bool := edgesB v p l && restB v p l
def proT (v : List ByteArray) (p : Int) (l : List S52) : ByteArray := if progB v p l = true then progT ⟨(Go.Lib.join (ds v) [32]).toArray⟩ (itoB p) l l.length else ⟨#[]⟩
theorem joinA_size (v : List ByteArray) (hw : wS v ≤ 1048576) : (⟨(Go.Lib.join (ds v) [32]).toArray⟩ : ByteArray).size ≤ 1099512676352 := by
 have hl : v.length ≤ 1048576 := by have := sums_nonneg v; unfold wS at hw; omega
 have b1 := join_len v (⟨#[32]⟩ : ByteArray) (by decide) v.length (by omega); rw [List.take_of_length_le (by simp [ds]), List.take_of_length_le (by omega)] at b1; have e : (⟨#[32]⟩ : ByteArray).data.toList = [32] := rfl; rw [e] at b1; unfold wS at hw; rw [sz]; omega
theorem ev_both (v : List ByteArray) (p : Int) (l : List S52) (hw : wS v ≤ 1048576) (hl : l.length ≤ 1048576) (hp : -9223372036854775808 ≤ p ∧ p ≤ 9223372036854775807) (hs : ∀ s ∈ v, s.size ≤ 9223372036854775807) (hf : ∀ i : Nat, i < l.length → Fits (l.getD i z52)) :
  Ev (fun k => impl_ProgramText.f k v p l) (proT v p l) ∧ Ev (fun k => spec_ProgramText.f k v p l) (proT v p l) := by
 have hv : v.length ≤ 1048576 := by have := sums_nonneg v; unfold wS at hw; omega
 have hA := joinA_size v hw; have hP := itoB_size p hp.1 hp.2; have e : (⟨#[32]⟩ : ByteArray).data.toList = [32] := rfl; have j1 := ev_specJoin v (⟨#[32]⟩ : ByteArray) (by decide) hw; have j2 := implJoin_eq v (⟨#[32]⟩ : ByteArray) (by decide) hw; rw [e] at j1 j2; constructor
 ·obtain ⟨K, hK⟩ := Evt.and (ev_implIsProgram v p l hv hs hl) (ev_implLoop v p l _ _ hl hf hA hP); refine ⟨K, fun k hk => ?_⟩; obtain ⟨g1, g2⟩ := hK k hk; dsimp only at g1 g2 ⊢; unfold impl_ProgramText.f proT progB; rw [g1]; simp only [obs]; by_cases c : (edgesB v p l && restB v p l) = true
  ·rw [if_pos c, if_pos c, j2, impl_fmt p hp.1 hp.2]; simp only [obs]; exact g2
  ·rw [if_neg c, if_neg c]
 ·obtain ⟨K, hK⟩ := Evt.and (ev_specIsProgram v p l hv hs hl) (Evt.and j1 (Evt.and (ev_specFormatInt p hp.1 hp.2) (ev_specLoop v p l _ _ hl hf hA hP))); refine ⟨K, fun k hk => ?_⟩; obtain ⟨g1, g2, g3, g4⟩ := hK k hk; have g3 : spec_FormatInt.f k p = some (itoB p) := g3; dsimp only at g1 g2 g4 ⊢; unfold spec_ProgramText.f proT progB; rw [g1]; simp only [obs]; by_cases c : (edgesB v p l && restB v p l) = true
  ·rw [if_pos c, if_pos c, g2]; simp only [obs]; rw [if_pos (by omega), g3]; simp only [obs]; rw [if_pos (by simp only [ByteArray.size_append, size1]; omega)]; exact g4
  ·rw [if_neg c, if_neg c]
def isL (c : UInt8) : Bool := decide (97 ≤ c.toNat) && decide (c.toNat ≤ 122)
def words : List UInt8 → List UInt8 → List (List UInt8)
 | [], cur => if cur = [] then [] else [cur]
 | c :: l, cur => if isL c = true then words l (cur ++ [c]) else if cur = [] then words l [] else cur :: words l []
theorem words_run : ∀ (a l cur : List UInt8), (∀ c ∈ a, isL c = true) → words (a ++ l) cur = words l (cur ++ a)
 | [], l, cur, _ => by simp
 | c :: a, l, cur, h => by
  have h1 := h c (List.mem_cons_self ..); have h2 := words_run a l (cur ++ [c]) (fun x hx => h x (List.mem_cons_of_mem _ hx)); simp only [List.cons_append, words]; rw [if_pos h1, h2, List.append_assoc]; rfl
theorem words_stop (a l : List UInt8) (c : UInt8) (h : ∀ c ∈ a, isL c = true) (hn : a ≠ []) (hc : isL c = false) : words (a ++ c :: l) [] = a :: words l [] := by
 rw [words_run a _ _ h, List.nil_append]; simp only [words]; rw [if_neg (by rw [hc]; decide), if_neg hn]
theorem words_end (a : List UInt8) (h : ∀ c ∈ a, isL c = true) (hn : a ≠ []) : words a [] = [a] := by
 have := words_run a [] [] h; rw [List.append_nil] at this; rw [this]; simp [words, hn]
theorem words_skip (l : List UInt8) (c : UInt8) (hc : isL c = false) : words (c :: l) [] = words l [] := by
 simp only [words]; rw [if_neg (by rw [hc]; decide), if_pos trivial]
theorem scan {ρ : Type} (n : Nat) (b : Int) (L : Nat → Int → Option ρ) (N : Nat → Prop) (F : ρ → Prop) (r' : ρ)
  (hstep : ∀ i, i < n → ∀ r1, Ev (fun k => L k (b + ((i + 1 : Nat) : Int))) r1 → ∃ r, Ev (fun k => L k (b + (i : Int))) r ∧ (F r ∨ (r = r1 ∧ N i)))
  (hend : Ev (fun k => L k (b + (n : Int))) r') : ∀ d i, i ≤ n → n - i = d → ∃ r, Ev (fun k => L k (b + (i : Int))) r ∧ (F r ∨ (r = r' ∧ ∀ j, i ≤ j → j < n → N j)) := by
 intro d; induction d with
 | zero =>
  intro i hi hd; obtain rfl : i = n := by omega
  exact ⟨r', hend, .inr ⟨rfl, fun j h1 h2 => by omega⟩⟩
 | succ d ih =>
  intro i hi hd; obtain ⟨r1, e1, h1⟩ := ih (i + 1) (by omega) (by omega); obtain ⟨r, e, h⟩ := hstep i (by omega) r1 e1; refine ⟨r, e, ?_⟩; rcases h with h | ⟨rfl, h⟩
  ·exact .inl h
  ·rcases h1 with h1 | ⟨rfl, h1⟩
   ·exact .inl h1
   ·refine .inr ⟨rfl, fun j h2 h3 => ?_⟩; by_cases e : j = i
    ·subst e; exact h
    ·exact h1 j (by omega) h3
theorem scan0 {ρ : Type} (n : Nat) (L : Nat → Int → Option ρ) (N : Nat → Prop) (F : ρ → Prop) (r' : ρ) (hn : n < 9223372036854775807)
  (hstep : ∀ i, i < n → ∀ r1, Ev (fun k => L k (wrap64 ((i : Int) + 1))) r1 → ∃ r, Ev (fun k => L k (i : Int)) r ∧ (F r ∨ (r = r1 ∧ N i)))
  (hend : Ev (fun k => L k (n : Int)) r') : ∃ r, Ev (fun k => L k 0) r ∧ (F r ∨ (r = r' ∧ ∀ j, j < n → N j)) := by
 obtain ⟨r, e, h⟩ := scan n 0 L N F r' (fun i hi r1 h1 => by
  rw [Int.zero_add] at h1 ⊢; exact hstep i hi r1 (by rw [up64 (by omega)]; exact h1)) (by rw [Int.zero_add]; exact hend) n 0 (by omega) (by omega)
 refine ⟨r, by simpa using e, ?_⟩; rcases h with h | ⟨h1, h2⟩
 ·exact .inl h
 ·exact .inr ⟨h1, fun j hj => h2 j (by omega) hj⟩
theorem scan1 {ρ : Type} (L : Nat → Int → Option ρ) (N : Nat → Prop) (F : ρ → Prop) (r' : ρ)
  (hstep : ∀ i : Nat, i < 12 → ∀ r1, Ev (fun k => L k (wrap64 ((1 + (i : Int)) + 1))) r1 → ∃ r, Ev (fun k => L k (1 + (i : Int))) r ∧ (F r ∨ (r = r1 ∧ N i)))
  (hend : Ev (fun k => L k 13) r') : ∃ r, Ev (fun k => L k 1) r ∧ (F r ∨ (r = r' ∧ ∀ j, j < 12 → N j)) := by
 obtain ⟨r, e, h⟩ := scan 12 1 L N F r' (fun i hi r1 h1 => hstep i hi r1 (by rw [show wrap64 ((1 + (i : Int)) + 1) = 1 + ((i + 1 : Nat) : Int) by unfold wrap64; omega]; exact h1)) hend 12 0 (by omega) (by omega); refine ⟨r, e, ?_⟩; rcases h with h | ⟨h1, h2⟩
 ·exact .inl h
 ·exact .inr ⟨h1, fun j hj => h2 j (by omega) hj⟩
abbrev Ans := Int × ByteArray × ByteArray × Bool
def noAns : Ans := (0, (⟨#[]⟩ : ByteArray), (⟨#[]⟩ : ByteArray), false)
def Match (s : ByteArray) (a : Int) (x y : ByteArray) : Prop := s.toList ≠ [] ∧ (stText a x y).toList = s.toList
def Found (s : ByteArray) (r : Ans) : Prop := ∃ a x y, r = (a, x, y, true) ∧ Match s a x y
theorem toL (s : ByteArray) : s.toList = s.data.toList := Go.ByteArray.toList_mk s.data.toList
theorem name_letters (s : ByteArray) (h : nameB s = true) : ∀ c ∈ s.data.toList, isL c = true := by
 intro c hc; obtain ⟨i, hi, rfl⟩ := List.getElem_of_mem hc; unfold nameB at h; simp only [Bool.and_eq_true, decide_eq_true_eq] at h; have hi' : i < s.size := by simpa using hi
 have h1 := h.1 i hi'; have e : bt s (i : Int) = ((s.data.toList[i]).toNat : Int) := by
  unfold bt; rw [dif_pos (by rw [Int.toNat_natCast]; exact hi')]; simp only [Int.toNat_natCast, Array.getElem_toList]; rfl
 rw [e] at h1; unfold isL; rw [decide_eq_true (by omega), decide_eq_true (by omega)]; rfl
def undo (l : List UInt8) : Int × List UInt8 × List UInt8 :=
 if l.dropWhile isL = [] then (1, [], []) else
 if (l.dropWhile isL).take 1 = [32] then (8, (l.dropWhile isL).drop 1, []) else
 if (l.dropWhile isL).take 2 = [33, 61] then (if (l.dropWhile isL).drop 2 = [110, 117, 108, 108] then (10, l.takeWhile isL, []) else (12, l.takeWhile isL, (l.dropWhile isL).drop 2)) else
 if (l.dropWhile isL).take 3 = [46, 110, 61] then (if (l.dropWhile isL).drop 3 = [110, 117, 108, 108] then (6, l.takeWhile isL, []) else (7, l.takeWhile isL, (l.dropWhile isL).drop 3)) else
 if (l.dropWhile isL).take 2 = [61, 61] then (if (l.dropWhile isL).drop 2 = [110, 117, 108, 108] then (9, l.takeWhile isL, []) else (11, l.takeWhile isL, (l.dropWhile isL).drop 2)) else
 if (l.dropWhile isL).drop 1 = [110, 117, 108, 108] then (2, l.takeWhile isL, []) else
 if (l.dropWhile isL).drop 1 = [110, 101, 119] then (3, l.takeWhile isL, []) else
 if ((l.dropWhile isL).drop 1).dropWhile isL = [] then (4, l.takeWhile isL, (l.dropWhile isL).drop 1) else (5, l.takeWhile isL, ((l.dropWhile isL).drop 1).takeWhile isL)
theorem tw (a r : List UInt8) (c : UInt8) (h : ∀ x ∈ a, isL x = true) (hc : isL c = false) : (a ++ c :: r).takeWhile isL = a ∧ (a ++ c :: r).dropWhile isL = c :: r := by
 constructor
 ·rw [List.takeWhile_append_of_pos h, List.takeWhile_cons, hc]; simp
 ·rw [List.dropWhile_append_of_pos h, List.dropWhile_cons, hc]; simp
theorem tw0 (a : List UInt8) (h : ∀ x ∈ a, isL x = true) : a.takeWhile isL = a ∧ a.dropWhile isL = [] := by
 have h1 := List.takeWhile_append_of_pos (p := isL) (l₁ := a) (l₂ := []) h; have h2 := List.dropWhile_append_of_pos (p := isL) (l₁ := a) (l₂ := []) h; rw [List.append_nil] at h1 h2; exact ⟨by simpa using h1, by simpa using h2⟩
theorem short (l : List UInt8) (h : l.length ≤ 2) : l ≠ [110, 117, 108, 108] ∧ l ≠ [110, 101, 119] := by
 constructor <;> (rintro rfl; simp at h)
theorem short2 (l : List UInt8) : l ++ [46, 110] ≠ [110, 117, 108, 108] ∧ l ++ [46, 110] ≠ [110, 101, 119] := by
 constructor <;> (intro e; have := congrArg List.getLast? e; simp at this)
theorem form_list (a : Int) (x y : ByteArray) (h : 0 ≤ nm a) : (formT a x y).data.toList = repl x.data.toList y.data.toList (formList.getD (a - 1).toNat ByteArray.empty).data.toList := rfl
theorem undo_form (a : Int) (x y : ByteArray) (h : namesN (nm a) x y = true) : undo (formT a x y).data.toList = (a, x.data.toList, y.data.toList) := by
 obtain ⟨h2, h3, h4⟩ := names_sizes _ _ _ h; have hx3 : x.data.toList.length ≤ 2 := by simpa using h3
 have hy3 : y.data.toList.length ≤ 2 := by simpa using h4
 have hn := h; unfold namesN at hn; simp only [Bool.and_eq_true, decide_eq_true_eq] at hn; obtain ⟨k1, k2, _⟩ := hn; rw [form_list a x y h2]; have L61 : isL 61 = false := by decide
 have L33 : isL 33 = false := by decide
 have L46 : isL 46 = false := by decide
 have L32 : isL 32 = false := by decide
 have one : 0 < nm a → ∀ c ∈ x.data.toList, isL c = true := fun hm => by rw [if_pos hm] at k1; exact name_letters x k1
 have two : 1 < nm a → ∀ c ∈ y.data.toList, isL c = true := fun hm => by rw [if_pos hm] at k2; exact name_letters y k2
 have non1 : ¬ 0 < nm a → x.data.toList = [] := fun hm => by rw [if_neg hm] at k1; rw [← toL]; exact of_decide_eq_true k1
 have non2 : ¬ 1 < nm a → y.data.toList = [] := fun hm => by rw [if_neg hm] at k2; rw [← toL]; exact of_decide_eq_true k2
 have sx := short _ hx3; have sy := short _ hy3; have hy0 : 1 < nm a → y.data.toList ≠ [] := fun hm e => by
  rw [if_pos hm] at k2; exact name_nil y k2 ((toL y).trans e)
 clear k1 k2 h hx3 hy3 h3 h4; generalize x.data.toList = X at *; generalize y.data.toList = Y at *; have form : ∀ (m : Int) (l : List UInt8), repl X Y (formList.getD (m - 1).toNat ByteArray.empty).data.toList = l → undo l = (m, X, Y) → undo (repl X Y (formList.getD (m - 1).toNat ByteArray.empty).data.toList) = (m, X, Y) := fun m l e h => by rw [e]; exact h
 have und : ∀ (c : UInt8) (r : List UInt8), isL c = false → (∀ x ∈ X, isL x = true) → (X ++ c :: r).takeWhile isL = X ∧ (X ++ c :: r).dropWhile isL = c :: r := fun c r hc hX => tw X r c hX hc
 rcases nm_range a h2 with rfl | rfl | rfl | rfl | rfl | rfl | rfl | rfl | rfl | rfl | rfl | rfl
 ·rw [non1 (by decide), non2 (by decide)]; decide
 ·refine form 2 (X ++ 61 :: [110, 117, 108, 108]) (by simp [repl, rep1, formList]) ?_; unfold undo; rw [(und 61 _ L61 (one (by decide))).1, (und 61 _ L61 (one (by decide))).2, non2 (by decide)]; simp
 ·refine form 3 (X ++ 61 :: [110, 101, 119]) (by simp [repl, rep1, formList]) ?_; unfold undo; rw [(und 61 _ L61 (one (by decide))).1, (und 61 _ L61 (one (by decide))).2, non2 (by decide)]; simp
 ·refine form 4 (X ++ 61 :: Y) (by simp [repl, rep1, formList]) ?_; unfold undo; rw [(und 61 _ L61 (one (by decide))).1, (und 61 _ L61 (one (by decide))).2]; have t1 := tw0 Y (two (by decide)); cases Y with
  | nil => exact absurd rfl (hy0 (by decide))
  | cons y0 Y =>
   have d0 : y0 ≠ 61 := fun e => by have := two (by decide) y0 (List.mem_cons_self ..); rw [e, L61] at this; cases this
   simp only [List.drop_succ_cons, List.drop_zero, List.take_succ_cons, List.take_zero, t1.2]; simp [d0, sy.1, sy.2]
 ·refine form 5 (X ++ 61 :: (Y ++ [46, 110])) (by simp [repl, rep1, formList]) ?_; unfold undo; rw [(und 61 _ L61 (one (by decide))).1, (und 61 _ L61 (one (by decide))).2]; have t1 := tw Y [110] 46 (two (by decide)) L46; have t2 := short2 Y; cases Y with
  | nil => exact absurd rfl (hy0 (by decide))
  | cons y0 Y =>
   have d0 : y0 ≠ 61 := fun e => by have := two (by decide) y0 (List.mem_cons_self ..); rw [e, L61] at this; cases this
   simp only [List.drop_succ_cons, List.drop_zero, List.take_succ_cons, List.take_zero, List.cons_append] at t1 t2 ⊢; rw [t1.1, t1.2]; simp only [if_neg t2.1, if_neg t2.2]; simp [d0]
 ·refine form 6 (X ++ 46 :: [110, 61, 110, 117, 108, 108]) (by simp [repl, rep1, formList]) ?_; unfold undo; rw [(und 46 _ L46 (one (by decide))).1, (und 46 _ L46 (one (by decide))).2, non2 (by decide)]; simp
 ·refine form 7 (X ++ 46 :: (110 :: 61 :: Y)) (by simp [repl, rep1, formList]) ?_; unfold undo; rw [(und 46 _ L46 (one (by decide))).1, (und 46 _ L46 (one (by decide))).2]; simp [sy.1]
 ·refine form 8 ([102, 114, 101, 101] ++ 32 :: X) (by simp [repl, rep1, formList]) ?_; unfold undo; rw [(tw [102, 114, 101, 101] X 32 (by decide) L32).2, non2 (by decide)]; simp
 ·refine form 9 (X ++ 61 :: [61, 110, 117, 108, 108]) (by simp [repl, rep1, formList]) ?_; unfold undo; rw [(und 61 _ L61 (one (by decide))).1, (und 61 _ L61 (one (by decide))).2, non2 (by decide)]; simp
 ·refine form 10 (X ++ 33 :: [61, 110, 117, 108, 108]) (by simp [repl, rep1, formList]) ?_; unfold undo; rw [(und 33 _ L33 (one (by decide))).1, (und 33 _ L33 (one (by decide))).2, non2 (by decide)]; simp
 ·refine form 11 (X ++ 61 :: (61 :: Y)) (by simp [repl, rep1, formList]) ?_; unfold undo; rw [(und 61 _ L61 (one (by decide))).1, (und 61 _ L61 (one (by decide))).2]; simp [sy.1]
 ·refine form 12 (X ++ 33 :: (61 :: Y)) (by simp [repl, rep1, formList]) ?_; unfold undo; rw [(und 33 _ L33 (one (by decide))).1, (und 33 _ L33 (one (by decide))).2]; simp [sy.1]
theorem match_names (s : ByteArray) (a : Int) (x y : ByteArray) (h : Match s a x y) : namesN (nm a) x y = true ∧ (formT a x y).data.toList = s.data.toList := by
 obtain ⟨h1, h2⟩ := h; unfold stText at h2; by_cases c : namesN (nm a) x y = true
 ·rw [if_pos c, toL, toL] at h2; exact ⟨c, h2⟩
 ·rw [if_neg c, show (⟨#[]⟩ : ByteArray).toList = [] from Go.ByteArray.toList_mk []] at h2; exact absurd h2.symm h1
theorem bytes_ext {x y : ByteArray} (h : x.data.toList = y.data.toList) : x = y := by
 obtain ⟨⟨l⟩⟩ := x; obtain ⟨⟨m⟩⟩ := y; have h : l = m := h; rw [h]
theorem match_one (s : ByteArray) (a b : Int) (x y x' y' : ByteArray) (h : Match s a x y) (h' : Match s b x' y') : a = b ∧ x = x' ∧ y = y' := by
 obtain ⟨h1, h2⟩ := match_names s a x y h; obtain ⟨h1', h2'⟩ := match_names s b x' y' h'; have e := undo_form a x y h1; rw [h2, ← h2', undo_form b x' y' h1'] at e; simp only [Prod.mk.injEq] at e; exact ⟨e.1.symm, bytes_ext e.2.1.symm, bytes_ext e.2.2.symm⟩
theorem form_parts (a : Int) (x y : ByteArray) (h : namesN (nm a) x y = true) :
  (x.data.toList = [] ∨ x.data.toList ∈ (words (formT a x y).data.toList []).take 3) ∧ (y.data.toList = [] ∨ y.data.toList ∈ (words (formT a x y).data.toList []).take 3) ∧ (∀ c ∈ (formT a x y).data.toList, c.toNat < 128) ∧ (formT a x y).data.toList.length ≤ 20 := by
 obtain ⟨h2, h3, h4⟩ := names_sizes _ _ _ h; have hx3 : x.data.toList.length ≤ 2 := by simpa using h3
 have hy3 : y.data.toList.length ≤ 2 := by simpa using h4
 have hn := h; unfold namesN at hn; simp only [Bool.and_eq_true, decide_eq_true_eq] at hn; obtain ⟨k1, k2, _⟩ := hn; rw [form_list a x y h2]; have L61 : isL 61 = false := by decide
 have L33 : isL 33 = false := by decide
 have L46 : isL 46 = false := by decide
 have L32 : isL 32 = false := by decide
 have one : 0 < nm a → (∀ c ∈ x.data.toList, isL c = true) ∧ x.data.toList ≠ [] := fun hm => by
  rw [if_pos hm] at k1; exact ⟨name_letters x k1, fun e => name_nil x k1 ((toL x).trans e)⟩
 have two : 1 < nm a → (∀ c ∈ y.data.toList, isL c = true) ∧ y.data.toList ≠ [] := fun hm => by
  rw [if_pos hm] at k2; exact ⟨name_letters y k2, fun e => name_nil y k2 ((toL y).trans e)⟩
 have non1 : ¬ 0 < nm a → x.data.toList = [] := fun hm => by rw [if_neg hm] at k1; rw [← toL]; exact of_decide_eq_true k1
 have non2 : ¬ 1 < nm a → y.data.toList = [] := fun hm => by rw [if_neg hm] at k2; rw [← toL]; exact of_decide_eq_true k2
 have asc : ∀ l : List UInt8, (∀ c ∈ l, isL c = true) → ∀ c ∈ l, c.toNat < 128 := fun l hl c hc => by
  have := hl c hc; unfold isL at this; simp only [Bool.and_eq_true, decide_eq_true_eq] at this; omega
 clear k1 k2 h h3 h4; generalize x.data.toList = X at *; generalize y.data.toList = Y at *; have form : ∀ (m : Int) (l : List UInt8), repl X Y (formList.getD (m - 1).toNat ByteArray.empty).data.toList = l → ((X = [] ∨ X ∈ (words l []).take 3) ∧ (Y = [] ∨ Y ∈ (words l []).take 3)) → (∀ c ∈ l, c.toNat < 128) ∧ l.length ≤ 20 →
   (X = [] ∨ X ∈ (words (repl X Y (formList.getD (m - 1).toNat ByteArray.empty).data.toList) []).take 3) ∧ (Y = [] ∨ Y ∈ (words (repl X Y (formList.getD (m - 1).toNat ByteArray.empty).data.toList) []).take 3) ∧ (∀ c ∈ repl X Y (formList.getD (m - 1).toNat ByteArray.empty).data.toList, c.toNat < 128) ∧ (repl X Y (formList.getD (m - 1).toNat ByteArray.empty).data.toList).length ≤ 20 := fun m l e h1 h2 => by
  rw [e]; exact ⟨h1.1, h1.2, h2.1, h2.2⟩
 have wX : ∀ (c : UInt8) (r : List UInt8), isL c = false → ((∀ c ∈ X, isL c = true) ∧ X ≠ []) → words (X ++ c :: r) [] = X :: words r [] := fun c r hc hX => words_stop X r c hX.1 hX.2 hc
 have lst : ∀ (c : UInt8) (r : List UInt8), c.toNat < 128 → (∀ d ∈ r, d.toNat < 128) → (∀ c ∈ X, isL c = true) → ∀ d ∈ X ++ c :: r, d.toNat < 128 := fun c r hc hr hX d hd => by
  rcases List.mem_append.mp hd with hd | hd
  ·exact asc X hX d hd
  ·rcases List.mem_cons.mp hd with rfl | hd
   ·exact hc
   ·exact hr d hd
 rcases nm_range a h2 with rfl | rfl | rfl | rfl | rfl | rfl | rfl | rfl | rfl | rfl | rfl | rfl
 ·rw [non1 (by decide), non2 (by decide)]; exact ⟨.inl rfl, .inl rfl, by decide, by decide⟩
 ·refine form 2 (X ++ 61 :: [110, 117, 108, 108]) (by simp [repl, rep1, formList]) ⟨.inr ?_, .inl (non2 (by decide))⟩ ⟨lst 61 _ (by decide) (by decide) (one (by decide)).1, by simp; omega⟩; rw [wX 61 _ L61 (one (by decide))]; simp
 ·refine form 3 (X ++ 61 :: [110, 101, 119]) (by simp [repl, rep1, formList]) ⟨.inr ?_, .inl (non2 (by decide))⟩ ⟨lst 61 _ (by decide) (by decide) (one (by decide)).1, by simp; omega⟩; rw [wX 61 _ L61 (one (by decide))]; simp
 ·have ht := two (by decide); refine form 4 (X ++ 61 :: Y) (by simp [repl, rep1, formList]) ?_ ⟨lst 61 _ (by decide) (asc Y ht.1) (one (by decide)).1, by simp; omega⟩; rw [wX 61 _ L61 (one (by decide)), words_end Y ht.1 ht.2]; simp
 ·have ht := two (by decide); refine form 5 (X ++ 61 :: (Y ++ 46 :: [110])) (by simp [repl, rep1, formList]) ?_ ⟨lst 61 _ (by decide) (fun d hd => by
   rcases List.mem_append.mp hd with hd | hd
   ·exact asc Y ht.1 d hd
   ·have h46 : ∀ d ∈ ([46, 110] : List UInt8), d.toNat < 128 := by decide
    exact h46 d hd) (one (by decide)).1, by simp; omega⟩
  rw [wX 61 _ L61 (one (by decide)), words_stop Y [110] 46 ht.1 ht.2 L46]; simp
 ·refine form 6 (X ++ 46 :: [110, 61, 110, 117, 108, 108]) (by simp [repl, rep1, formList]) ⟨.inr ?_, .inl (non2 (by decide))⟩ ⟨lst 46 _ (by decide) (by decide) (one (by decide)).1, by simp; omega⟩; rw [wX 46 _ L46 (one (by decide))]; simp
 ·have ht := two (by decide); refine form 7 (X ++ 46 :: ([110] ++ 61 :: Y)) (by simp [repl, rep1, formList]) ?_ ⟨lst 46 _ (by decide) (fun d hd => by
   simp only [List.cons_append, List.nil_append, List.mem_cons] at hd; rcases hd with rfl | rfl | hd
   ·decide
   ·decide
   ·exact asc Y ht.1 d hd) (one (by decide)).1, by simp; omega⟩
  rw [wX 46 _ L46 (one (by decide)), words_stop [110] Y 61 (by decide) (by decide) L61, words_end Y ht.1 ht.2]; simp
 ·have ho := one (by decide); refine form 8 ([102, 114, 101, 101] ++ 32 :: X) (by simp [repl, rep1, formList]) ⟨.inr ?_, .inl (non2 (by decide))⟩ ⟨fun d hd => by
   simp only [List.cons_append, List.nil_append, List.mem_cons] at hd; rcases hd with rfl | rfl | rfl | rfl | rfl | hd
   ·decide
   ·decide
   ·decide
   ·decide
   ·decide
   ·exact asc X ho.1 d hd, by simp; omega⟩
  rw [words_stop [102, 114, 101, 101] X 32 (by decide) (by decide) L32, words_end X ho.1 ho.2]; simp
 ·refine form 9 (X ++ 61 :: [61, 110, 117, 108, 108]) (by simp [repl, rep1, formList]) ⟨.inr ?_, .inl (non2 (by decide))⟩ ⟨lst 61 _ (by decide) (by decide) (one (by decide)).1, by simp; omega⟩; rw [wX 61 _ L61 (one (by decide))]; simp
 ·refine form 10 (X ++ 33 :: [61, 110, 117, 108, 108]) (by simp [repl, rep1, formList]) ⟨.inr ?_, .inl (non2 (by decide))⟩ ⟨lst 33 _ (by decide) (by decide) (one (by decide)).1, by simp; omega⟩; rw [wX 33 _ L33 (one (by decide))]; simp
 ·have ht := two (by decide); refine form 11 (X ++ 61 :: (61 :: Y)) (by simp [repl, rep1, formList]) ?_ ⟨lst 61 _ (by decide) (fun d hd => by
   rcases List.mem_cons.mp hd with rfl | hd
   ·decide
   ·exact asc Y ht.1 d hd) (one (by decide)).1, by simp; omega⟩
  rw [wX 61 _ L61 (one (by decide)), words_skip _ 61 L61, words_end Y ht.1 ht.2]; simp
 ·have ht := two (by decide); refine form 12 (X ++ 33 :: (61 :: Y)) (by simp [repl, rep1, formList]) ?_ ⟨lst 33 _ (by decide) (fun d hd => by
   rcases List.mem_cons.mp hd with rfl | hd
   ·decide
   ·exact asc Y ht.1 d hd) (one (by decide)).1, by simp; omega⟩
  rw [wX 33 _ L33 (one (by decide)), words_skip _ 61 L61, words_end Y ht.1 ht.2]; simp
theorem match_parts (s : ByteArray) (a : Int) (x y : ByteArray) (h : Match s a x y) :
  (x.data.toList = [] ∨ x.data.toList ∈ (words s.data.toList []).take 3) ∧ (y.data.toList = [] ∨ y.data.toList ∈ (words s.data.toList []).take 3) ∧ (∀ c ∈ s.data.toList, c.toNat < 128) ∧ s.size ≤ 20 := by
 obtain ⟨h1, h2⟩ := match_names s a x y h; have := form_parts a x y h1; rw [h2] at this; exact ⟨this.1, this.2.1, this.2.2.1, by simpa using this.2.2.2⟩
theorem btL (s : ByteArray) (i : Nat) (h : i < s.data.toList.length) : bt s (i : Int) = ((s.data.toList[i]).toNat : Int) := by
 have hi' : i < s.size := by simpa using h
 unfold bt; rw [dif_pos (by rw [Int.toNat_natCast]; exact hi')]; simp only [Int.toNat_natCast, Array.getElem_toList]; rfl
theorem extract_one (s : ByteArray) (i : Nat) (h : i < s.data.toList.length) : (s.extract i (i + 1)).data.toList = [s.data.toList[i]] := by
 have := Go.Lib.extract_toList s i (i + 1); rw [toL] at this; rw [this, show i + 1 - i = 1 by omega, List.drop_eq_getElem_cons h]; rfl
theorem nil_iff (s : ByteArray) : s.toList = [] ↔ s.data.toList = [] := by rw [toL]
theorem ev_words (s : ByteArray) (hs : s.size ≤ 1048576) : ∀ (d i : Nat) (out : List ByteArray) (cur : ByteArray), i ≤ s.size → s.size - i = d → out.length ≤ i → cur.size ≤ i →
  ∃ W, Ev (fun k => spec_l5Words.l0 k s out cur (i : Int)) W ∧ W.map (·.data.toList) = out.map (·.data.toList) ++ words (s.data.toList.drop i) cur.data.toList ∧ W.length ≤ s.size + 1 ∧ ((∀ x ∈ out, x.size ≤ s.size) → ∀ x ∈ W, x.size ≤ s.size) := by
 have hl : s.data.toList.length = s.size := by simp
 intro d; induction d with
 | zero =>
  intro i out cur hi hd ho hc; obtain rfl : i = s.size := by omega
  have stop : ∀ (o : List ByteArray) (c : ByteArray), Ev (fun k => spec_l5Words.l0 k s o c (wrap64 ((s.size : Int) + 1))) o := fun o c => Ev.last ⟨0, fun k _ => by
   simp only [spec_l5Words.l0]; rw [up64 (by omega), if_neg (by omega)]⟩
  have first : ∀ k, spec_l5Words.l0 (k + 1) s out cur (s.size : Int) = spec_l5Words.j1 k s out cur (s.size : Int) false := fun k => by
   simp only [spec_l5Words.l0]; rw [if_pos (by omega), if_neg (by omega)]
  by_cases c : cur.toList = []
  ·refine ⟨out, Ev.next ⟨0, fun k _ => first k⟩ (Ev.next (f := fun k => spec_l5Words.l0 k s out (⟨#[]⟩ : ByteArray) (wrap64 ((s.size : Int) + 1))) ⟨0, fun k _ => ?_⟩ (stop _ _)), ?_, by omega, fun h => h⟩
   ·simp only [spec_l5Words.j1]; rw [if_neg (by decide), if_pos c]
   ·rw [List.drop_of_length_le (by omega), (nil_iff cur).mp c]; simp [words]
  ·refine ⟨out ++ [cur], Ev.next ⟨0, fun k _ => first k⟩ (Ev.next (f := fun k => spec_l5Words.l0 k s (out ++ [cur]) (⟨#[]⟩ : ByteArray) (wrap64 ((s.size : Int) + 1))) ⟨0, fun k _ => ?_⟩ (stop _ _)), ?_, by simp; omega, fun h x hx => ?_⟩
   ·simp only [spec_l5Words.j1]; rw [if_neg (by decide), if_neg c, if_pos (by omega)]
   ·rw [List.drop_of_length_le (by omega)]; have : cur.data.toList ≠ [] := fun e => c ((nil_iff cur).mpr e)
    simp [words, this]
   ·rcases List.mem_append.mp hx with hx | hx
    ·exact h x hx
    ·rw [List.mem_singleton.mp hx]; omega
 | succ d ih =>
  intro i out cur hi hd ho hc; have hlt : i < s.data.toList.length := by omega
  have hb := btL s i hlt; have hdr : s.data.toList.drop i = s.data.toList[i] :: s.data.toList.drop (i + 1) := List.drop_eq_getElem_cons hlt; by_cases cl : isL s.data.toList[i] = true
  ·have hex := extract_one s i hlt; have hsz : (cur ++ s.extract i (i + 1)).size = cur.size + 1 := by
    rw [ByteArray.size_append]; have h2 : (s.extract i (i + 1)).size = 1 := by rw [ByteArray.size_extract]; omega
    omega
   have h1sz : (s.extract i (i + 1)).size = 1 := by rw [ByteArray.size_append] at hsz; omega
   obtain ⟨W, e, h1, h2, h3⟩ := ih (i + 1) out (cur ++ s.extract i (i + 1)) (by omega) (by omega) (by omega) (by omega); have cl' := cl; unfold isL at cl'; simp only [Bool.and_eq_true, decide_eq_true_eq] at cl'; refine ⟨W, Ev.next (f := fun k => spec_l5Words.j1 k s out cur (i : Int) true) ⟨0, fun k _ => ?_⟩ (Ev.next (f := fun k => spec_l5Words.l0 k s out (cur ++ s.extract i (i + 1)) ((i + 1 : Nat) : Int)) ⟨0, fun k _ => ?_⟩ e), ?_, h2, h3⟩
   ·simp only [spec_l5Words.l0]; rw [if_pos (by omega), if_pos (by omega), if_pos (by omega), if_pos (by omega), decide_eq_true (show bt s (i : Int) ≤ 122 by omega)]
   ·simp only [spec_l5Words.j1]; rw [up64 (by omega), if_pos trivial, if_pos (by omega), if_pos (by omega), if_pos (by omega), Int.toNat_natCast, Int.toNat_natCast, if_pos (by rw [h1sz]; omega)]
   ·rw [h1, hdr]; simp only [words]; rw [if_pos cl]; simp only [ByteArray.data_append, Array.toList_append, hex]
  ·have first : ∀ k, spec_l5Words.l0 (k + 1) s out cur (i : Int) = spec_l5Words.j1 k s out cur (i : Int) false := fun k => by
    simp only [spec_l5Words.l0]; rw [if_pos (by omega), if_pos (by omega), if_pos (by omega)]; by_cases g : bt s (i : Int) ≥ 97
    ·rw [if_pos g]; have : ¬ bt s (i : Int) ≤ 122 := fun g2 => cl (by
      unfold isL; rw [decide_eq_true (by omega), decide_eq_true (by omega)]; rfl)
     rw [decide_eq_false this]
    ·rw [if_neg g]
   by_cases c : cur.toList = []
   ·obtain ⟨W, e, h1, h2, h3⟩ := ih (i + 1) out ⟨#[]⟩ (by omega) (by omega) (by omega) (by show 0 ≤ _; omega); refine ⟨W, Ev.next ⟨0, fun k _ => first k⟩ (Ev.next (f := fun k => spec_l5Words.l0 k s out (⟨#[]⟩ : ByteArray) ((i + 1 : Nat) : Int)) ⟨0, fun k _ => ?_⟩ e), ?_, h2, h3⟩
    ·simp only [spec_l5Words.j1]; rw [up64 (by omega), if_neg (by decide), if_pos c]
    ·rw [h1, hdr, (nil_iff cur).mp c]; simp only [words]; rw [if_neg cl, if_pos trivial]
   ·obtain ⟨W, e, h1, h2, h3⟩ := ih (i + 1) (out ++ [cur]) ⟨#[]⟩ (by omega) (by omega) (by simp; omega) (by show 0 ≤ _; omega); refine ⟨W, Ev.next ⟨0, fun k _ => first k⟩ (Ev.next (f := fun k => spec_l5Words.l0 k s (out ++ [cur]) (⟨#[]⟩ : ByteArray) ((i + 1 : Nat) : Int)) ⟨0, fun k _ => ?_⟩ e), ?_, h2, fun h => h3 (fun x hx => ?_)⟩
    ·simp only [spec_l5Words.j1]; rw [up64 (by omega), if_neg (by decide), if_neg c, if_pos (by omega)]
    ·rw [h1, hdr]; simp only [words]; rw [if_neg cl, if_neg (fun e => c ((nil_iff cur).mpr e))]; simp
    ·rcases List.mem_append.mp hx with hx | hx
     ·exact h x hx
     ·rw [List.mem_singleton.mp hx]; omega
theorem rdB (l : List ByteArray) (i : Nat) : rdOf ByteArray.empty l (i : Int) = l.getD i ByteArray.empty := by unfold rdOf; rw [Int.toNat_natCast]
theorem spec_search (s : ByteArray) (D : List ByteArray) (hD : D.length ≤ 1048576) (hz : ∀ x ∈ D, x.size ≤ 1048576) :
  ∃ r, Ev (fun k => spec_ParseStmt.l1 k s D 0) r ∧ (Found s r ∨ (r = noAns ∧ ∀ i, i < D.length → ∀ j, j < D.length → ∀ a : Nat, a < 12 → ¬ Match s (1 + (a : Int)) (D.getD i ByteArray.empty) (D.getD j ByteArray.empty))) := by
 refine scan0 D.length (fun k i => spec_ParseStmt.l1 k s D i) (fun i => ∀ j, j < D.length → ∀ a : Nat, a < 12 → ¬ Match s (1 + (a : Int)) (D.getD i ByteArray.empty) (D.getD j ByteArray.empty)) (Found s) noAns (by omega) (fun i hi r1 h1 => ?_) (Ev.last ⟨0, fun k _ => by simp only [spec_ParseStmt.l1]; rw [if_neg (by omega)]; rfl⟩); obtain ⟨r, e, h⟩ := scan0 D.length (fun k j => spec_ParseStmt.l2 k s D i j) (fun j => ∀ a : Nat, a < 12 → ¬ Match s (1 + (a : Int)) (D.getD i ByteArray.empty) (D.getD j ByteArray.empty)) (Found s) r1 (by omega) (fun j hj r2 h2 => by
  obtain ⟨r, e, h⟩ := scan1 (fun k a => spec_ParseStmt.l3 k s D i j a) (fun a => ¬ Match s (1 + (a : Int)) (D.getD i ByteArray.empty) (D.getD j ByteArray.empty)) (Found s) r2 (fun a ha r3 h3 => by
   by_cases c : s.toList = []
   ·exact ⟨r3, Ev.next ⟨0, fun k _ => by
     simp only [spec_ParseStmt.l3]; rw [if_pos (by omega), if_pos (by omega), if_pos (by omega), if_pos (by omega), if_pos (by omega), if_pos c]⟩ h3, .inr ⟨rfl, fun hm => hm.1 c⟩⟩
   ·obtain ⟨K, hK⟩ := ev_specText (1 + (a : Int)) (D.getD i ByteArray.empty) (D.getD j ByteArray.empty) (by have := hz _ (getD_mem ByteArray.empty D i hi); omega) (by have := hz _ (getD_mem ByteArray.empty D j hj); omega); by_cases m : (stText (1 + (a : Int)) (D.getD i ByteArray.empty) (D.getD j ByteArray.empty)).toList = s.toList
    ·refine ⟨(1 + (a : Int), D.getD i ByteArray.empty, D.getD j ByteArray.empty, true), Ev.last ⟨K, fun k hk => ?_⟩, .inl ⟨_, _, _, rfl, c, m⟩⟩; have hk' := hK k hk; dsimp only at hk'; simp only [spec_ParseStmt.l3]; rw [if_pos (by omega), if_pos (by omega), if_pos (by omega), if_pos (by omega), if_pos (by omega), if_neg c, rdB, rdB, hk']; simp only [obs]; rw [if_pos m]
    ·refine ⟨r3, Ev.next ⟨K, fun k hk => ?_⟩ h3, .inr ⟨rfl, fun hm => m hm.2⟩⟩; have hk' := hK k hk; dsimp only at hk'; simp only [spec_ParseStmt.l3]; rw [if_pos (by omega), if_pos (by omega), if_pos (by omega), if_pos (by omega), if_pos (by omega), if_neg c, rdB, rdB, hk']; simp only [obs]; rw [if_neg m]) (Ev.next ⟨0, fun k _ => by simp only [spec_ParseStmt.l3]; rw [if_neg (by omega)]⟩ h2)
  exact ⟨r, Ev.next ⟨0, fun k _ => by simp only [spec_ParseStmt.l2]; rw [if_pos (by omega)]⟩ e, h⟩) (Ev.next ⟨0, fun k _ => by simp only [spec_ParseStmt.l2]; rw [if_neg (by omega)]⟩ h1)
 exact ⟨r, Ev.next ⟨0, fun k _ => by simp only [spec_ParseStmt.l1]; rw [if_pos (by omega)]⟩ e, h⟩
theorem impl_search (s : ByteArray) (D : List ByteArray) (hD : D.length ≤ 1048576) (hz : ∀ x ∈ D, x.size ≤ 1048576) :
  ∃ r, Ev (fun k => impl_ParseStmt.l0 k s D 1) r ∧ (Found s r ∨ (r = noAns ∧ ∀ a : Nat, a < 12 → ∀ i, i < D.length → ∀ j, j < D.length → ¬ Match s (1 + (a : Int)) (D.getD i ByteArray.empty) (D.getD j ByteArray.empty))) := by
 refine scan1 (fun k a => impl_ParseStmt.l0 k s D a) (fun a => ∀ i, i < D.length → ∀ j, j < D.length → ¬ Match s (1 + (a : Int)) (D.getD i ByteArray.empty) (D.getD j ByteArray.empty)) (Found s) noAns (fun a ha r1 h1 => ?_) (Ev.last ⟨0, fun k _ => by simp only [impl_ParseStmt.l0]; rw [if_neg (by omega)]; rfl⟩); obtain ⟨r, e, h⟩ := scan0 D.length (fun k i => impl_ParseStmt.l1 k s D (1 + (a : Int)) D (D.length : Int) i) (fun i => ∀ j, j < D.length → ¬ Match s (1 + (a : Int)) (D.getD i ByteArray.empty) (D.getD j ByteArray.empty)) (Found s) r1 (by omega) (fun i hi r2 h2 => by
  obtain ⟨r, e, h⟩ := scan0 D.length (fun k j => impl_ParseStmt.l2 k s D (1 + (a : Int)) (rdOf ByteArray.empty D (i : Int)) D (D.length : Int) (i : Int) D (D.length : Int) j) (fun j => ¬ Match s (1 + (a : Int)) (D.getD i ByteArray.empty) (D.getD j ByteArray.empty)) (Found s) r2 (by omega) (fun j hj r3 h3 => by
   obtain ⟨K, hK⟩ := ev_implText (1 + (a : Int)) (D.getD i ByteArray.empty) (D.getD j ByteArray.empty) (by have := hz _ (getD_mem ByteArray.empty D i hi); omega) (by have := hz _ (getD_mem ByteArray.empty D j hj); omega); by_cases m : (stText (1 + (a : Int)) (D.getD i ByteArray.empty) (D.getD j ByteArray.empty)).toList = s.toList
   ·by_cases c : s.toList = []
    ·refine ⟨r3, Ev.next ⟨K, fun k hk => ?_⟩ h3, .inr ⟨rfl, fun hm => hm.1 c⟩⟩; have hk' := hK k hk; dsimp only at hk'; simp only [impl_ParseStmt.l2]; rw [if_pos (by omega), if_pos (by omega), if_pos (by omega), rdB, rdB, hk']; simp only [obs]; rw [if_pos m, if_pos c]
    ·refine ⟨(1 + (a : Int), D.getD i ByteArray.empty, D.getD j ByteArray.empty, true), Ev.last ⟨K, fun k hk => ?_⟩, .inl ⟨_, _, _, rfl, c, m⟩⟩; have hk' := hK k hk; dsimp only at hk'; simp only [impl_ParseStmt.l2]; rw [if_pos (by omega), if_pos (by omega), if_pos (by omega), rdB, rdB, hk']; simp only [obs]; rw [if_pos m, if_neg c]
   ·refine ⟨r3, Ev.next ⟨K, fun k hk => ?_⟩ h3, .inr ⟨rfl, fun hm => m hm.2⟩⟩; have hk' := hK k hk; dsimp only at hk'; simp only [impl_ParseStmt.l2]; rw [if_pos (by omega), if_pos (by omega), if_pos (by omega), rdB, rdB, hk']; simp only [obs]; rw [if_neg m]) (Ev.next ⟨0, fun k _ => by simp only [impl_ParseStmt.l2]; rw [if_neg (by omega)]⟩ h2)
  exact ⟨r, Ev.next ⟨0, fun k _ => by simp only [impl_ParseStmt.l1]; rw [if_pos (by omega), if_pos (by omega), if_pos (by omega)]⟩ e, h⟩) (Ev.next ⟨0, fun k _ => by simp only [impl_ParseStmt.l1]; rw [if_neg (by omega)]⟩ h1)
 exact ⟨r, Ev.next ⟨0, fun k _ => by simp only [impl_ParseStmt.l0]; rw [if_pos (by omega)]⟩ e, h⟩
theorem spec_parse (s : ByteArray) (hs : s.size ≤ 1048576) :
  ∃ r, Ev (fun k => spec_ParseStmt.f k s) r ∧ (Found s r ∨ (r = noAns ∧ ∀ a x y, ¬ Match s a x y)) := by
 obtain ⟨W, eW, h1, h2, h3⟩ := ev_words s hs s.size 0 [] ⟨#[]⟩ (by omega) (by omega) (by simp) (by show 0 ≤ _; omega); have h3 := h3 (fun x hx => by cases hx); obtain ⟨D, hD⟩ : ∃ D, ([(⟨#[]⟩ : ByteArray), (⟨#[]⟩ : ByteArray)] : List ByteArray) ++ W.take 3 = D := ⟨_, rfl⟩; have hDl : D.length ≤ 5 := by rw [← hD]; simp; omega
 have hDz : ∀ x ∈ D, x.size ≤ 1048576 := fun x hx => by
  rw [← hD] at hx; rcases List.mem_append.mp hx with hx | hx
  ·have : x = ⟨#[]⟩ := by simpa using hx
   rw [this]; show 0 ≤ _
   omega
  ·have := h3 x (List.mem_of_mem_take hx); omega
 obtain ⟨r, er, hr⟩ := spec_search s D (by omega) hDz; have lead : ∀ d i, i ≤ 3 → 3 - i = d → Ev (fun k => spec_ParseStmt.l0 k s W (([(⟨#[]⟩ : ByteArray), (⟨#[]⟩ : ByteArray)] : List ByteArray) ++ W.take i) (i : Int)) r := by
  have done : ∀ i, W.take i = W.take 3 → (¬ (i : Int) < (W.length : Int) ∨ ¬ (i : Int) < 3) → Ev (fun k => spec_ParseStmt.l0 k s W (([(⟨#[]⟩ : ByteArray), (⟨#[]⟩ : ByteArray)] : List ByteArray) ++ W.take i) (i : Int)) r := fun i hi hc => by
   rw [hi, hD]; refine Ev.next (f := fun k => spec_ParseStmt.j1 k s D) ⟨0, fun k _ => ?_⟩ (Ev.next (f := fun k => spec_ParseStmt.l1 k s D 0) ⟨0, fun k _ => rfl⟩ er); simp only [spec_ParseStmt.l0]; by_cases c : (i : Int) < (W.length : Int)
   ·rw [if_pos c, if_neg (by rcases hc with h | h; exact absurd c h; exact h)]
   ·rw [if_neg c]
  intro d; induction d with
  | zero =>
   intro i hi hd; obtain rfl : i = 3 := by omega
   exact done 3 rfl (.inr (by omega))
  | succ d ih =>
   intro i hi hd; by_cases c : i < W.length
   ·have hx := ih (i + 1) (by omega) (by omega); refine Ev.next ⟨0, fun k _ => ?_⟩ hx; simp only [spec_ParseStmt.l0]; rw [if_pos (by omega), if_pos (by omega), if_pos (by omega), if_pos (by simp; omega), up64 (by omega), rdB, List.append_assoc, List.take_succ_eq_append_getElem c, get_rep _ _ _ c]
   ·exact done i (by rw [List.take_of_length_le (by omega), List.take_of_length_le (by omega)]) (.inl (by omega))
 have l0 := lead 3 0 (by omega) (by omega); refine ⟨r, ?_, ?_⟩
 ·obtain ⟨K, hK⟩ := Evt.and eW l0; refine ⟨K, fun k hk => ?_⟩; obtain ⟨g1, g2⟩ := hK k hk; dsimp only at g1 g2 ⊢; show spec_ParseStmt.f k s = _
  unfold spec_ParseStmt.f spec_l5Words.f; rw [show spec_l5Words.l0 k s [] (⟨#[]⟩ : ByteArray) 0 = some W from g1]; simp only [obs]; exact g2
 ·rcases hr with hr | ⟨hr, hno⟩
  ·exact .inl hr
  ·refine .inr ⟨hr, fun a x y hm => ?_⟩; obtain ⟨hx, hy, _, _⟩ := match_parts s a x y hm; obtain ⟨hn, _⟩ := match_names s a x y hm; have ha := nm_range a (names_sizes _ _ _ hn).1; rw [List.drop_zero, List.map_nil, List.nil_append] at h1; have inD : ∀ z : ByteArray, (z.data.toList = [] ∨ z.data.toList ∈ (words s.data.toList []).take 3) → ∃ i, i < D.length ∧ D.getD i ByteArray.empty = z := fun z hz => by
    have : z ∈ D := by
     rw [← hD]; rcases hz with hz | hz
     ·exact List.mem_append_left _ (by rw [nil_eq z ((nil_iff z).mpr hz)]; simp)
     ·refine List.mem_append_right _ ?_; rw [← h1, ← List.map_take] at hz; obtain ⟨q, hq, he⟩ := List.mem_map.mp hz; rw [← bytes_ext he]; exact hq
    obtain ⟨i, hi, rfl⟩ := List.getElem_of_mem this; exact ⟨i, hi, get_rep _ _ _ hi⟩
   obtain ⟨i, hi, rfl⟩ := inD x hx; obtain ⟨j, hj, rfl⟩ := inD y hy; refine hno i hi j hj (a - 1).toNat (by omega) ?_; rw [show 1 + (((a - 1).toNat : Nat) : Int) = a by omega]; exact hm
theorem spans_len (p : Nat → Bool) (s : ByteArray) : ∀ (f pos : Nat) (st : Option Nat) (acc : List (Nat × Nat)), (Go.Lib.spansFromP p s f pos st acc).1.length ≤ acc.length + f := by
 intro f; induction f with
 | zero => intro pos st acc; simp [Go.Lib.spansFromP]
 | succ f ih =>
  intro pos st acc; unfold Go.Lib.spansFromP; split
  ·split
   ·cases st with
    | none => have := ih (pos + (Go.Utf8.decode s pos).2) none acc; show _ ≤ _; simp only; omega
    | some a => have := ih (pos + (Go.Utf8.decode s pos).2) none (acc ++ [(a, pos)]); rw [List.length_append] at this; simp only [List.length_singleton] at this; simp only; omega
   ·cases st with
    | none => have := ih (pos + (Go.Utf8.decode s pos).2) (some pos) acc; simp only; omega
    | some a => have := ih (pos + (Go.Utf8.decode s pos).2) (some a) acc; simp only; omega
  ·show acc.length ≤ _; omega
theorem fields_len (p : Nat → Bool) (s : ByteArray) : (Go.Lib.goFieldsP p s).length ≤ s.size + 1 := by
 have h := spans_len p s s.size 0 none []; unfold Go.Lib.goFieldsP Go.Lib.spansOfP Go.Lib.closeSpans; rw [List.length_map]; generalize Go.Lib.spansFromP p s s.size 0 none [] = x at h ⊢; simp only [List.length_nil, Nat.zero_add] at h; split
 ·rw [List.length_append, List.length_singleton]; omega
 ·omega
theorem fields_size (p : Nat → Bool) (s : ByteArray) : ∀ x ∈ Go.Lib.goFieldsP p s, x.size ≤ s.size := by
 intro x hx; obtain ⟨q, _, rfl⟩ := List.mem_map.mp hx; rw [ByteArray.size_extract]; omega
theorem spans_words (s : ByteArray) (hs : ∀ c ∈ s.data.toList, c.toNat < 128) : ∀ (f pos : Nat) (st : Option Nat) (acc : List (Nat × Nat)), s.size ≤ pos + f → pos ≤ s.size → (∀ a, st = some a → a < pos) →
  (Go.Lib.closeSpans s (Go.Lib.spansFromP strings_FieldsFunc_names_1.p s f pos st acc)).map (fun x => (s.extract x.1 x.2).data.toList) = acc.map (fun x => (s.extract x.1 x.2).data.toList) ++ words (s.data.toList.drop pos) (match st with | none => [] | some a => (s.data.toList.drop a).take (pos - a)) := by
 have hl : s.data.toList.length = s.size := by simp
 have ex : ∀ a b, (s.extract a b).data.toList = (s.data.toList.drop a).take (b - a) := fun a b => by rw [← toL]; exact Go.Lib.extract_toList s a b
 have fin : ∀ (pos : Nat) (st : Option Nat) (acc : List (Nat × Nat)), ¬ pos < s.size → pos ≤ s.size → (∀ a, st = some a → a < pos) →
   (Go.Lib.closeSpans s (acc, st)).map (fun x => (s.extract x.1 x.2).data.toList) = acc.map (fun x => (s.extract x.1 x.2).data.toList) ++ words (s.data.toList.drop pos) (match st with | none => [] | some a => (s.data.toList.drop a).take (pos - a)) := fun pos st acc h1 h2 h3 => by
  obtain rfl : pos = s.size := by omega
  rw [List.drop_of_length_le (by omega)]; cases st with
  | none => simp [Go.Lib.closeSpans, words]
  | some a =>
   have ha := h3 a rfl; have hne : (s.data.toList.drop a).take (s.size - a) ≠ [] := fun e => by
    have := congrArg List.length e; rw [List.length_take, List.length_drop, List.length_nil] at this; omega
   simp only [Go.Lib.closeSpans, List.map_append, List.map_cons, List.map_nil, words]; rw [if_neg hne, ex]
 intro f; induction f with
 | zero =>
  intro pos st acc h1 h2 h3; exact fin pos st acc (by omega) h2 h3
 | succ f ih =>
  intro pos st acc h1 h2 h3; by_cases hp : pos < s.size
  ·have hlt : pos < s.data.toList.length := by omega
   have hc := hs _ (List.getElem_mem hlt); have hdec := Go.decode_ascii s pos hp hc; have hdr : s.data.toList.drop pos = s.data.toList[pos] :: s.data.toList.drop (pos + 1) := List.drop_eq_getElem_cons hlt; have hsp : s[pos] = s.data.toList[pos] := rfl; have hpp : strings_FieldsFunc_names_1.p (s.data.toList[pos]).toNat = !(isL s.data.toList[pos]) := by
    unfold strings_FieldsFunc_names_1.p isL; generalize (s.data.toList[pos]).toNat = n; rw [Bool.eq_iff_iff]; simp only [Bool.or_eq_true, decide_eq_true_eq, Bool.not_eq_true', Bool.and_eq_false_iff, decide_eq_false_iff_not]; omega
   unfold Go.Lib.spansFromP; rw [if_pos hp, hdec, hsp, hpp, hdr]; cases cl : isL s.data.toList[pos] with
   | true =>
    simp only [Bool.not_true, Bool.false_eq_true, if_false]; cases st with
    | none =>
     simp only; rw [ih (pos + 1) (some pos) acc (by omega) (by omega) (fun a h => by cases h; omega)]; simp only [words]; rw [if_pos cl, hdr, show pos + 1 - pos = 1 by omega]; rfl
    | some a =>
     have ha := h3 a rfl; simp only; rw [ih (pos + 1) (some a) acc (by omega) (by omega) (fun b h => by cases h; omega)]; simp only [words]; rw [if_pos cl]; congr 2
     rw [show pos + 1 - a = (pos - a) + 1 by omega, List.take_succ_eq_append_getElem (by rw [List.length_drop]; omega)]; congr 2
     rw [List.getElem_drop]; congr 1
     omega
   | false =>
    simp only [Bool.not_false, if_true]; cases st with
    | none =>
     simp only; rw [ih (pos + 1) none acc (by omega) (by omega) (fun a h => by cases h)]; simp only [words]; rw [if_neg (by rw [cl]; decide), if_pos trivial]
    | some a =>
     have ha := h3 a rfl; simp only; rw [ih (pos + 1) none (acc ++ [(a, pos)]) (by omega) (by omega) (fun b h => by cases h)]; have hne : (s.data.toList.drop a).take (pos - a) ≠ [] := fun e => by
      have := congrArg List.length e; rw [List.length_take, List.length_drop, List.length_nil] at this; omega
     simp only [words, List.map_append, List.map_cons, List.map_nil]; rw [if_neg (by rw [cl]; decide), if_neg hne, ex]; simp
  ·have hend : Go.Lib.spansFromP strings_FieldsFunc_names_1.p s (f + 1) pos st acc = (acc, st) := by
    unfold Go.Lib.spansFromP; rw [if_neg hp]
   rw [hend]; exact fin pos st acc hp h2 h3
theorem fields_words (s : ByteArray) (hs : ∀ c ∈ s.data.toList, c.toNat < 128) : (Go.Lib.goFieldsP strings_FieldsFunc_names_1.p s).map (·.data.toList) = words s.data.toList [] := by
 have := spans_words s hs s.size 0 none [] (by omega) (by omega) (fun a h => by cases h); unfold Go.Lib.goFieldsP Go.Lib.spansOfP; rw [List.map_map]; simp only [List.drop_zero, List.map_nil, List.nil_append] at this; exact this
theorem ev_implNames (s : ByteArray) (hs : s.size ≤ 20) : Ev (fun k => impl_names.f k s) ((Go.Lib.goFieldsP strings_FieldsFunc_names_1.p s).filter nameB ++ [⟨#[]⟩]) := by
 obtain ⟨F, hF⟩ : ∃ F, Go.Lib.goFieldsP strings_FieldsFunc_names_1.p s = F := ⟨_, rfl⟩; have hl := fields_len strings_FieldsFunc_names_1.p s; have hz := fields_size strings_FieldsFunc_names_1.p s; rw [hF] at hl hz ⊢; have hc := loop_is (σ := List ByteArray) F.length (fun k o i => impl_names.l0 k o F (F.length : Int) i) (fun i o => o = (F.take i).filter nameB) (F.filter nameB ++ [⟨#[]⟩])
  (fun i o hi ho => by
   obtain ⟨K, hK⟩ := ev_implIsName (F.getD i ByteArray.empty) (by have := hz _ (getD_mem ByteArray.empty F i hi); omega); have hol : o.length ≤ i := by rw [ho]; exact Nat.le_trans (List.length_filter_le _ _) (List.length_take_le _ _)
   refine Or.inl ⟨(F.take (i + 1)).filter nameB, rfl, K, fun k hk => ?_⟩; have hk' := hK k hk; dsimp only at hk'; simp only [impl_names.l0]; rw [if_pos (by omega), if_pos (by omega), if_pos (by omega), rdB, hk', up64 (by omega), List.take_succ_eq_append_getElem hi, List.filter_append, ← ho, ← get_rep ByteArray.empty F i hi]; simp only [obs]; cases hb : nameB (F.getD i ByteArray.empty) with
   | true =>
    have hf : List.filter nameB [F.getD i ByteArray.empty] = [F.getD i ByteArray.empty] := by rw [List.filter_cons, if_pos hb]; rfl
    rw [if_pos rfl, if_pos (by omega), hf]
   | false =>
    have hf : List.filter nameB [F.getD i ByteArray.empty] = [] := by rw [List.filter_cons, if_neg (by rw [hb]; decide)]; rfl
    rw [if_neg (by decide), hf, List.append_nil])
  (fun o ho => ⟨0, fun k _ => by
   have hol : o.length ≤ F.length := by rw [ho]; exact Nat.le_trans (List.length_filter_le _ _) (List.length_take_le' ..)
   simp only [impl_names.l0]; rw [if_neg (by omega), if_pos (by omega), ho, List.take_length]⟩)
  [] (by simp)
 obtain ⟨K, hK⟩ := hc; refine ⟨K, fun k hk => ?_⟩; have hk' := hK k hk; dsimp only at hk'; show impl_names.f k s = _
 unfold impl_names.f strings_FieldsFunc_names_1.f; rw [if_pos (by omega), hF]; simp only [obs]; exact hk'
theorem impl_parse (s : ByteArray) : ∃ r, Ev (fun k => impl_ParseStmt.f k s) r ∧ (Found s r ∨ (r = noAns ∧ ∀ a x y, ¬ Match s a x y)) := by
 by_cases hs : s.size ≤ 20
 ·obtain ⟨D, hD⟩ : ∃ D, (Go.Lib.goFieldsP strings_FieldsFunc_names_1.p s).filter nameB ++ [(⟨#[]⟩ : ByteArray)] = D := ⟨_, rfl⟩; have hl := fields_len strings_FieldsFunc_names_1.p s; have hz := fields_size strings_FieldsFunc_names_1.p s; have hDl : D.length ≤ 22 := by
   rw [← hD, List.length_append, List.length_singleton]; have := List.length_filter_le nameB (Go.Lib.goFieldsP strings_FieldsFunc_names_1.p s); omega
  have hDz : ∀ x ∈ D, x.size ≤ 1048576 := fun x hx => by
   rw [← hD] at hx; rcases List.mem_append.mp hx with hx | hx
   ·have := hz x (List.mem_filter.mp hx).1; omega
   ·rw [List.mem_singleton.mp hx]; show 0 ≤ _; omega
  obtain ⟨r, er, hr⟩ := impl_search s D (by omega) hDz; have en := ev_implNames s hs; rw [hD] at en; refine ⟨r, ?_, ?_⟩
  ·obtain ⟨K, hK⟩ := Evt.and en er; refine ⟨K, fun k hk => ?_⟩; obtain ⟨g1, g2⟩ := hK k hk; dsimp only at g1 g2; show impl_ParseStmt.f k s = _
   unfold impl_ParseStmt.f; rw [if_neg (by omega), g1]; simp only [obs]; exact g2
  ·rcases hr with hr | ⟨hr, hno⟩
   ·exact .inl hr
   ·refine .inr ⟨hr, fun a x y hm => ?_⟩; obtain ⟨hx, hy, hasc, _⟩ := match_parts s a x y hm; obtain ⟨hn, _⟩ := match_names s a x y hm; have ha := nm_range a (names_sizes _ _ _ hn).1; have hw := fields_words s hasc; have hnn := hn; unfold namesN at hnn; simp only [Bool.and_eq_true, decide_eq_true_eq] at hnn; have inD : ∀ z : ByteArray, (nameB z = true ∨ z.toList = []) → (z.data.toList = [] ∨ z.data.toList ∈ (words s.data.toList []).take 3) → ∃ i, i < D.length ∧ D.getD i ByteArray.empty = z := fun z hb hz => by
     have : z ∈ D := by
      rw [← hD]; by_cases e : z.toList = []
      ·exact List.mem_append_right _ (by rw [nil_eq z e]; simp)
      ·refine List.mem_append_left _ (List.mem_filter.mpr ⟨?_, ?_⟩)
       ·rcases hz with hz | hz
        ·exact absurd ((nil_iff z).mpr hz) e
        ·have hz := List.mem_of_mem_take hz; rw [← hw] at hz; obtain ⟨q, hq, he⟩ := List.mem_map.mp hz; rw [← bytes_ext he]; exact hq
       ·rcases hb with hb | hb
        ·exact hb
        ·exact absurd hb e
     obtain ⟨i, hi, rfl⟩ := List.getElem_of_mem this; exact ⟨i, hi, get_rep _ _ _ hi⟩
    obtain ⟨i, hi, rfl⟩ := inD x (by
     have h1 := hnn.1; split at h1
     ·exact .inl h1
     ·exact .inr (of_decide_eq_true h1)) hx
    obtain ⟨j, hj, rfl⟩ := inD y (by
     have h1 := hnn.2.1; split at h1
     ·exact .inl h1
     ·exact .inr (of_decide_eq_true h1)) hy
    refine hno (a - 1).toNat (by omega) i hi j hj ?_; rw [show 1 + (((a - 1).toNat : Nat) : Int) = a by omega]; exact hm
 ·refine ⟨noAns, Ev.one fun k => ?_, .inr ⟨rfl, fun a x y hm => hs (match_parts s a x y hm).2.2.2⟩⟩; show impl_ParseStmt.f k s = _
  unfold impl_ParseStmt.f; rw [if_pos (by omega)]; rfl
theorem parse_both (s : ByteArray) (hs : s.size ≤ 1048576) : ∃ r, Ev (fun k => impl_ParseStmt.f k s) r ∧ Ev (fun k => spec_ParseStmt.f k s) r ∧ (Found s r ∨ (r = noAns ∧ ∀ a x y, ¬ Match s a x y)) := by
 obtain ⟨r, e, h⟩ := impl_parse s; obtain ⟨q, e', h'⟩ := spec_parse s hs; have : q = r := by
  rcases h with ⟨a, x, y, rfl, hm⟩ | ⟨rfl, hno⟩
  ·rcases h' with ⟨b, x', y', rfl, hm'⟩ | ⟨_, hno'⟩
   ·obtain ⟨rfl, rfl, rfl⟩ := match_one s a b x y x' y' hm hm'; rfl
   ·exact absurd hm (hno' a x y)
  ·rcases h' with ⟨b, x', y', rfl, hm'⟩ | ⟨rfl, _⟩
   ·exact absurd hm' (hno b x' y')
   ·rfl
 subst this; exact ⟨q, e, e', h⟩
theorem ib_spec (c : UInt8) : ∀ (l : List UInt8) (d : Nat), Go.Lib.indexByte l c = (d : Int) → d < l.length ∧ l = l.take d ++ c :: l.drop (d + 1) := by
 intro l; induction l with
 | nil =>
  intro d h; simp only [Go.Lib.indexByte] at h; omega
 | cons b r ih =>
  intro d h; simp only [Go.Lib.indexByte] at h; have hg := Go.Lib.indexByte_ge r c; by_cases e : b == c
  ·rw [if_pos e] at h; obtain rfl : d = 0 := by omega
   have : b = c := by simpa using e
   subst this; exact ⟨by simp, by simp⟩
  ·rw [if_neg e] at h; by_cases e2 : (Go.Lib.indexByte r c == -1) = true
   ·rw [if_pos e2] at h; omega
   ·rw [if_neg e2] at h; have e3 : ¬ Go.Lib.indexByte r c = -1 := by simpa using e2
    obtain ⟨d, rfl⟩ : ∃ m, d = m + 1 := ⟨d - 1, by omega⟩; obtain ⟨h1, h2⟩ := ih d (by omega); refine ⟨by simp only [List.length_cons]; omega, ?_⟩; simp only [List.take_succ_cons, List.drop_succ_cons, List.cons_append]; rw [← h2]
theorem k_miss (c : UInt8) (k : Nat) (l : List UInt8) (h : Go.Lib.index l [c] = -1) : Go.Lib.splitK [c] 0 k l = [l] := by
 cases k with
 | zero => rfl
 | succ k => unfold Go.Lib.splitK; rw [if_pos (beq_iff_eq.2 h)]
theorem k_hit (c : UInt8) (k : Nat) (l : List UInt8) (i : Nat) (h : Go.Lib.index l [c] = i) : Go.Lib.splitK [c] 0 (k + 1) l = l.take i :: Go.Lib.splitK [c] 0 k (l.drop (i + 1)) := by
 have hm : ¬ (Go.Lib.index l [c] == -1) = true := fun e => by have := beq_iff_eq.1 e; omega
 have e : (Go.Lib.index l [c]).toNat = i := by omega
 rw [Go.Lib.splitK, if_neg hm, e]; rfl
theorem ix_cases (c : UInt8) (l : List UInt8) : Go.Lib.index l [c] = -1 ∨ ∃ i : Nat, Go.Lib.index l [c] = i := by
 rw [Go.Lib.index_one]; have := Go.Lib.indexByte_ge l c; by_cases h : Go.Lib.indexByte l c = -1
 ·exact .inl h
 ·exact .inr ⟨(Go.Lib.indexByte l c).toNat, by omega⟩
theorem ix_spec (c : UInt8) (l : List UInt8) (i : Nat) (h : Go.Lib.index l [c] = i) : i < l.length ∧ l = l.take i ++ c :: l.drop (i + 1) := by
 rw [Go.Lib.index_one] at h; exact ib_spec c l i h
theorem join_two (x : List UInt8) (r : List (List UInt8)) (s : List UInt8) (h : r ≠ []) : Go.Lib.join (x :: r) s = x ++ s ++ Go.Lib.join r s := by
 cases r with
 | nil => exact absurd rfl h
 | cons y r =>
  rw [Go.Lib.join_cons, Go.Lib.join_cons]; unfold Go.Lib.joinTail; simp
theorem k_ne (c : UInt8) (k : Nat) (l : List UInt8) : Go.Lib.splitK [c] 0 k l ≠ [] := by
 cases k with
 | zero => simp [Go.Lib.splitK]
 | succ k => unfold Go.Lib.splitK; split <;> simp
theorem k_join (c : UInt8) : ∀ (k : Nat) (l : List UInt8), Go.Lib.join (Go.Lib.splitK [c] 0 k l) [c] = l := by
 intro k; induction k with
 | zero => intro l; exact Go.Lib.join_one l [c]
 | succ k ih =>
  intro l; rcases ix_cases c l with h | ⟨i, h⟩
  ·rw [k_miss c _ l h]; exact Go.Lib.join_one l [c]
  ·obtain ⟨_, h2⟩ := ix_spec c l i h; rw [k_hit c k l i h, join_two _ _ _ (k_ne c k _), ih]; conv => rhs; rw [h2]
   simp
theorem k_lens (c : UInt8) (k : Nat) (l : List UInt8) : Go.Lib.lens (Go.Lib.splitK [c] 0 k l) + (Go.Lib.splitK [c] 0 k l).length = l.length + 1 := by
 have h := congrArg List.length (k_join c k l); cases e : Go.Lib.splitK [c] 0 k l with
 | nil => exact absurd e (k_ne c k l)
 | cons x r =>
  rw [e, Go.Lib.join_length] at h; simp only [List.length_cons, List.length_nil] at h ⊢; omega
theorem lens_mem (xs : List (List UInt8)) (x : List UInt8) (h : x ∈ xs) : x.length ≤ Go.Lib.lens xs := by
 induction xs with
 | nil => cases h
 | cons y r ih =>
  have e : Go.Lib.lens (y :: r) = y.length + Go.Lib.lens r := by simp [Go.Lib.lens]
  rcases List.mem_cons.mp h with rfl | h
  ·omega
  ·have := ih h; omega
theorem lens_sum (v : List ByteArray) : ((v.map fun s => (s.size : Int)).foldr (· + ·) 0 : Int) = ((Go.Lib.lens (ds v) : Nat) : Int) := by
 induction v with
 | nil => rfl
 | cons x r ih =>
  have e : Go.Lib.lens (ds (x :: r)) = x.size + Go.Lib.lens (ds r) := by simp [Go.Lib.lens, ds]
  simp only [List.map_cons, List.foldr_cons]; rw [ih, e]; omega
theorem lens_wS (v : List ByteArray) : wS v = (v.length : Int) + ((Go.Lib.lens (ds v) : Nat) : Int) := by
 unfold wS; rw [lens_sum]
theorem lens_drop (xs : List (List UInt8)) (n : Nat) : Go.Lib.lens (xs.drop n) ≤ Go.Lib.lens xs := by
 induction xs generalizing n with
 | nil => simp
 | cons y r ih =>
  have e : Go.Lib.lens (y :: r) = y.length + Go.Lib.lens r := by simp [Go.Lib.lens]
  cases n with
  | zero => simp
  | succ n =>
   have := ih n; rw [List.drop_succ_cons, e]; omega
theorem k_three (c : UInt8) (l : List UInt8) :
  ((Go.Lib.splitK [c] 0 (Go.Lib.count l [c]) l).length < 3 ∧ (Go.Lib.splitK [c] 0 (min 3 (l.length + 1) - 1) l).length < 3) ∨
  ∃ x y r, r ≠ [] ∧ Go.Lib.splitK [c] 0 (Go.Lib.count l [c]) l = x :: y :: r ∧ Go.Lib.splitK [c] 0 (min 3 (l.length + 1) - 1) l = [x, y, Go.Lib.join r [c]] := by
 have hne : ([c] : List UInt8) ≠ [] := by simp
 rcases ix_cases c l with h | ⟨i, h⟩
 ·left; rw [k_miss c _ l h, k_miss c _ l h]; exact ⟨by simp, by simp⟩
 ·obtain ⟨h1, h2⟩ := ix_spec c l i h; rw [Go.Lib.count_hit hne h, Nat.add_comm 1, k_hit c _ l i h]; obtain ⟨n, hn⟩ : ∃ n, min 3 (l.length + 1) - 1 = n + 1 := ⟨min 3 (l.length + 1) - 2, by omega⟩; rw [hn, k_hit c _ l i h]; show _ ∨ _
  rw [show ([c] : List UInt8).length = 1 from rfl]; generalize hq : l.drop (i + 1) = q; have hql : q.length = l.length - (i + 1) := by rw [← hq, List.length_drop]
  rcases ix_cases c q with g | ⟨j, g⟩
  ·left; rw [k_miss c _ q g, k_miss c _ q g]; exact ⟨by simp, by simp⟩
  ·obtain ⟨g1, g2⟩ := ix_spec c q j g; right; obtain rfl : n = 1 := by omega
   rw [Go.Lib.count_hit hne g, Nat.add_comm 1, k_hit c _ q j g, k_hit c 0 q j g]; refine ⟨_, _, _, k_ne c _ _, rfl, ?_⟩; rw [k_join]; rfl
theorem all_cuts (s : ByteArray) (c : UInt8) : (cuts s ⟨#[c]⟩ 0) = Go.Lib.splitB ⟨#[c]⟩ 0 (Go.Lib.countB s ⟨#[c]⟩) s := by
 have : s.extract 0 s.size = s := by
  apply bext; rw [tl, List.drop_zero]
 unfold cuts; rw [this]
def cutA (s : ByteArray) (c : UInt8) : List ByteArray := cuts s ⟨#[c]⟩ 0
theorem ds_cutA (s : ByteArray) (c : UInt8) : ds (cutA s c) = Go.Lib.splitK [c] 0 (Go.Lib.count s.data.toList [c]) s.data.toList := by
 unfold cutA ds; rw [all_cuts]; exact Go.Lib.splitB_data _ 0 _ s
theorem cutA_wS (s : ByteArray) (c : UInt8) : wS (cutA s c) = (s.size : Int) + 1 := by
 have h := k_lens c (Go.Lib.count s.data.toList [c]) s.data.toList; rw [← ds_cutA] at h; have h2 : (ds (cutA s c)).length = (cutA s c).length := by simp [ds]
 rw [lens_wS]; simp only [Array.length_toList] at h; show _ = ((s.data.size : Nat) : Int) + 1
 omega
theorem cutA_len (s : ByteArray) (c : UInt8) : 1 ≤ (cutA s c).length ∧ (cutA s c).length ≤ s.size + 1 := by
 have h := cutA_wS s c; have hn := sums_nonneg (cutA s c); have : (cutA s c) ≠ [] := fun e => by
  have := ds_cutA s c; rw [e] at this; exact k_ne c _ _ this.symm
 have := List.length_pos_iff.mpr this; unfold wS at h; omega
theorem cutA_mem (s : ByteArray) (c : UInt8) (x : ByteArray) (h : x ∈ cutA s c) : x.size + (cutA s c).length ≤ s.size + 1 := by
 have h1 := cutA_wS s c; rw [lens_wS] at h1; have h2 := lens_mem (ds (cutA s c)) x.data.toList (List.mem_map_of_mem h); simp only [Array.length_toList] at h2; have : x.size = x.data.size := rfl; omega
theorem impl_split (s : ByteArray) (c : UInt8) (hs : s.size ≤ 1048576) : strings_Split.f s ⟨#[c]⟩ = some (cutA s c) := by
 have hm : maxLen = 9223372036854775807 := rfl; have hcl := Go.Lib.countB_le ⟨#[c]⟩ (show 1 ≤ (⟨#[c]⟩ : ByteArray).size from Nat.le_refl 1) s.size s (Nat.le_refl _); unfold strings_Split.f cutA; rw [if_pos ⟨by omega, (show 1 ≤ (⟨#[c]⟩ : ByteArray).size from Nat.le_refl 1), Go.Lib.splitB_all _ (show 1 ≤ (⟨#[c]⟩ : ByteArray).size from Nat.le_refl 1) 0 _ s rfl, by omega⟩, ← all_cuts]
theorem impl_three (s : ByteArray) (hs : s.size ≤ 1048576) : ∃ t, strings_SplitN.f s ⟨#[32]⟩ 3 = some t ∧ ((cutA s 32).length < 3 ∧ t.length < 3 ∨ 3 ≤ (cutA s 32).length ∧ t = [rdOf ByteArray.empty (cutA s 32) 0, rdOf ByteArray.empty (cutA s 32) 1, ⟨(Go.Lib.join (ds ((cutA s 32).drop 2)) [32]).toArray⟩]) := by
 have hm : maxLen = 9223372036854775807 := rfl; refine ⟨Go.Lib.splitB ⟨#[32]⟩ 0 (min 3 (s.size + 1) - 1) s, ?_, ?_⟩
 ·have := Go.Lib.splitB_length_le ⟨#[32]⟩ 0 (min 3 (s.size + 1) - 1) s; unfold strings_SplitN.f; have e : (3 : Int).toNat = 3 := rfl; rw [e, if_pos ⟨by omega, (show 1 ≤ (⟨#[32]⟩ : ByteArray).size from Nat.le_refl 1), by omega, by omega, by omega, by omega⟩]
 ·have hd := Go.Lib.splitB_data ⟨#[32]⟩ 0 (min 3 (s.size + 1) - 1) s; have hl : s.data.toList.length = s.size := by simp
  generalize Go.Lib.splitB ⟨#[32]⟩ 0 (min 3 (s.size + 1) - 1) s = t at hd ⊢; have h3 := k_three 32 s.data.toList; rw [hl, ← ds_cutA] at h3; have hd : ds t = Go.Lib.splitK [32] 0 (min 3 (s.size + 1) - 1) s.data.toList := hd; rw [← hd] at h3; rcases h3 with ⟨a, b⟩ | ⟨x, y, r, hr, a, b⟩
  ·exact .inl ⟨by simpa [ds] using a, by simpa [ds] using b⟩
  ·right; generalize cutA s 32 = A at a ⊢; match A, a with
   | [], a => cases a
   | [_], a => simp [ds] at a
   | x' :: y' :: r', a =>
    simp only [ds, List.map_cons, List.cons.injEq] at a; obtain ⟨a1, a2, a3⟩ := a; have hr' : r' ≠ [] := fun e => by subst e; exact hr (by simpa using a3.symm)
    have := List.length_pos_iff.mpr hr'; refine ⟨by simp only [List.length_cons]; omega, ?_⟩; match t, b with
    | [], b => cases b
    | [_], b => simp [ds] at b
    | [_, _], b => simp [ds] at b
    | [p, q, u], b =>
     simp only [ds, List.map_cons, List.map_nil, List.cons.injEq, and_true] at b; obtain ⟨b1, b2, b3⟩ := b; have e1 : p = x' := bext (b1.trans a1.symm); have e2 : q = y' := bext (b2.trans a2.symm); have e3 : u = ⟨(Go.Lib.join (ds r') [32]).toArray⟩ := bext (by rw [b3, ← a3]; rfl); subst e1 e2 e3; rfl
    | _ :: _ :: _ :: _ :: _, b => simp [ds] at b
abbrev PAns := List ByteArray × Int × List S52 × Bool
def noProg : PAns := (([] : List ByteArray), 0, ([] : List S52), false)
theorem num_both (x : ByteArray) (hx : x.size ≤ 1048576) : impl_ParseNumber.f x = some (R x 0 999999) ∧ Ev (fun k => spec_ParseNumber.f k x) (R x 0 999999) ∧ 0 ≤ (R x 0 999999).1 ∧ (R x 0 999999).1 ≤ 999999 := by
 refine ⟨?_, ev_specNumber x, ?_⟩
 ·unfold impl_ParseNumber.f; rw [readR x 0 999999 hx]; rfl
 ·rcases R_or x 0 999999 with h | ⟨v, h, _, h0, h1⟩
  ·rw [h]; exact ⟨by decide, by decide⟩
  ·rw [h]; exact ⟨h0, h1⟩
theorem join_le (v : List ByteArray) (c : UInt8) : ((Go.Lib.join (ds v) [c]).length : Int) ≤ wS v := by
 rw [lens_wS]; cases v with
 | nil => simp [ds, Go.Lib.join_nil]
 | cons x r =>
  have e : ds (x :: r) = x.data.toList :: ds r := rfl; have e2 : (ds r).length = r.length := by simp [ds]
  rw [e, Go.Lib.join_length]; simp only [List.length_cons, List.length_nil]; omega
theorem wS_drop (v : List ByteArray) (n : Nat) : wS (v.drop n) ≤ wS v := by
 have h := lens_drop (ds v) n; have e : ds (v.drop n) = (ds v).drop n := by simp [ds, List.map_drop]
 rw [lens_wS, lens_wS, e, List.length_drop]; omega
theorem edge_both (x : ByteArray) (hx : x.size + 1 ≤ 1048576) : ∃ (ok : Bool) (e : S52), (ok = true → Fits e) ∧
  Ev (fun k => spec_l6Edge.f k x) (e.f0, e.f1, e.f2.f0, e.f2.f1, e.f2.f2, ok) ∧
  ∃ t, strings_SplitN.f x ⟨#[32]⟩ 3 = some t ∧ ((t.length < 3 ∧ ok = false) ∨ (t.length = 3 ∧ ∃ (n1 n2 : Int × Bool) (r : Int × ByteArray × ByteArray × Bool),
   impl_ParseNumber.f (rdOf ByteArray.empty t 0) = some n1 ∧ impl_ParseNumber.f (rdOf ByteArray.empty t 1) = some n2 ∧ Ev (fun k => impl_ParseStmt.f k (rdOf ByteArray.empty t 2)) r ∧
   ok = (n1.2 && (n2.2 && r.2.2.2)) ∧ e = ⟨n1.1, n2.1, (⟨r.1, r.2.1, r.2.2.1⟩ : S50)⟩)) := by
 obtain ⟨t, ht, hc⟩ := impl_three x (by omega); have hsp : Ev (fun k => spec_SplitByte.f k x 32) (cutA x 32) := ev_specSplit x 32 (by omega); have hw := cutA_wS x 32; rcases hc with ⟨a, b⟩ | ⟨a, b⟩
 ·refine ⟨false, ⟨0, 0, (⟨0, ⟨#[]⟩, ⟨#[]⟩⟩ : S50)⟩, fun h => (by cases h), ?_, t, ht, .inl ⟨b, rfl⟩⟩; obtain ⟨K, hK⟩ := hsp; refine ⟨K, fun k hk => ?_⟩; have g := hK k hk; dsimp only at g ⊢; unfold spec_l6Edge.f; rw [g]; simp only [obs]; rw [if_pos (by omega)]
 ·have hm0 : rdOf ByteArray.empty (cutA x 32) 0 ∈ cutA x 32 := by
   rw [show (0 : Int) = ((0 : Nat) : Int) from rfl, rdOf_at _ _ _ (by omega)]; exact List.getElem_mem _
  have hm1 : rdOf ByteArray.empty (cutA x 32) 1 ∈ cutA x 32 := by
   rw [show (1 : Int) = ((1 : Nat) : Int) from rfl, rdOf_at _ _ _ (by omega)]; exact List.getElem_mem _
  have hz0 := cutA_mem x 32 _ hm0; have hz1 := cutA_mem x 32 _ hm1; have hwd := wS_drop (cutA x 32) 2; have hjl := join_le ((cutA x 32).drop 2) 32; generalize hJ : (⟨(Go.Lib.join (ds ((cutA x 32).drop 2)) [32]).toArray⟩ : ByteArray) = J at b; have hJs : J.size = (Go.Lib.join (ds ((cutA x 32).drop 2)) [32]).length := by rw [← hJ, sz]
  obtain ⟨p1, p2, p3, p4⟩ := num_both (rdOf ByteArray.empty (cutA x 32) 0) (by omega); obtain ⟨q1, q2, q3, q4⟩ := num_both (rdOf ByteArray.empty (cutA x 32) 1) (by omega); obtain ⟨r, i1, i2, hr⟩ := parse_both J (by omega); have hj := ev_specJoin ((cutA x 32).drop 2) (⟨#[32]⟩ : ByteArray) (by decide) (by omega); have ej : (⟨#[32]⟩ : ByteArray).data.toList = [32] := rfl; rw [ej, hJ] at hj; generalize hn1 : R (rdOf ByteArray.empty (cutA x 32) 0) 0 999999 = n1 at p1 p2 p3 p4; generalize hn2 : R (rdOf ByteArray.empty (cutA x 32) 1) 0 999999 = n2 at q1 q2 q3 q4; refine ⟨n1.2 && (n2.2 && r.2.2.2), ⟨n1.1, n2.1, (⟨r.1, r.2.1, r.2.2.1⟩ : S50)⟩, fun hok => ?_, ?_, t, ht, .inr ⟨by rw [b]; rfl, n1, n2, r, by rw [b]; exact p1, by rw [b]; exact q1, by rw [b]; exact i1, rfl, rfl⟩⟩
  ·have h3 : r.2.2.2 = true := by
    have := (Bool.and_eq_true_iff.mp hok).2; exact (Bool.and_eq_true_iff.mp this).2
   rcases hr with ⟨a', y, z, rfl, hm⟩ | ⟨rfl, _⟩
   ·obtain ⟨hn, _⟩ := match_names J a' y z hm; obtain ⟨_, h4, h5⟩ := names_sizes _ _ _ hn; exact ⟨⟨by dsimp only; omega, by dsimp only; omega⟩, ⟨by dsimp only; omega, by dsimp only; omega⟩, by dsimp only; omega, by dsimp only; omega⟩
   ·cases h3
  ·obtain ⟨K, hK⟩ := Evt.and hsp (Evt.and p2 (Evt.and q2 (Evt.and hj i2))); refine ⟨K, fun k hk => ?_⟩; obtain ⟨g1, g2, g3, g4, g5⟩ := hK k hk; dsimp only at g1 g2 g3 g4 g5 ⊢; unfold spec_l6Edge.f; rw [g1]; simp only [obs]; rw [if_neg (by omega), if_pos (by omega), g2]; simp only [obs]; rw [if_pos (by omega), g3]; simp only [obs]; rw [if_pos (by omega), g4]; simp only [obs]; rw [g5]; simp only [obs]; cases n1.2 <;> cases n2.2 <;> simp
def GoodP (s : ByteArray) (r : PAns) : Prop := r = noProg ∨ ∃ v p l, r = (v, p, l, true) ∧ v.length ≤ 1048576 ∧ l.length ≤ 1048576 ∧ progB v p l = true ∧ (proT v p l).toList = s.toList ∧ wS v ≤ 1048576 ∧ (0 ≤ p ∧ p ≤ 999999) ∧ (∀ x ∈ v, x.size ≤ 1048576) ∧ (∀ e ∈ l, Fits e)
theorem rd_mem {α : Type} (d : α) (P : List α) (i : Nat) (h : i < P.length) : rdOf d P (i : Int) ∈ P := by
 rw [rdOf_at _ _ _ h]; exact List.getElem_mem _
theorem rd_drop {α : Type} (d : α) (P : List α) (i : Nat) (h : i + 2 < P.length) : rdOf d (P.drop 2) (i : Int) = rdOf d P ((i + 2 : Nat) : Int) := by
 rw [rdOf_at _ _ _ (by rw [List.length_drop]; omega), rdOf_at _ _ _ h, List.getElem_drop]; simp only [Nat.add_comm 2 i]
theorem loop_both (s : ByteArray) (P v : List ByteArray) (p : Int) (hne : s.toList ≠ []) (hP : 2 ≤ P.length) (hPl : P.length ≤ 1048577) (hx : ∀ x ∈ P, x.size + 1 ≤ 1048576) (hv : wS v ≤ 1048576) (hvs : ∀ x ∈ v, x.size ≤ 1048576) (hp : 0 ≤ p ∧ p ≤ 999999) :
  ∀ (d i : Nat) (acc : List S52), i + 2 ≤ P.length → P.length - 2 - i = d → acc.length = i → (∀ e ∈ acc, Fits e) →
  ∃ r : PAns, Ev (fun k => spec_ParseProgram.l0 k s P ((i + 2 : Nat) : Int) v p acc) r ∧ Ev (fun k => impl_ParseProgram.l0 k s (P.drop 2) ((P.drop 2).length : Int) (i : Int) v p acc) r ∧ GoodP s r := by
 intro d; have hvl : v.length ≤ 1048576 := by have := sums_nonneg v; unfold wS at hv; omega
 have hdl : (P.drop 2).length = P.length - 2 := List.length_drop; induction d with
 | zero =>
  intro i acc hi hd hl hf; obtain ⟨t1, t2⟩ := ev_both v p acc hv (by omega) ⟨by omega, by omega⟩ (fun x h => by have := hvs x h; omega) (fun j hj => hf _ (getD_mem z52 acc j hj)); have hI := ev_specIsProgram v p acc hvl (fun x h => by have := hvs x h; omega) (by omega); refine ⟨if progB v p acc = true ∧ (proT v p acc).toList = s.toList then (v, p, acc, true) else noProg, ?_, ?_, ?_⟩
  ·obtain ⟨K, hK⟩ := Evt.and hI t2; refine Ev.last ⟨K, fun k hk => ?_⟩; obtain ⟨g1, g2⟩ := hK k hk; have g1 : spec_IsProgram.f k v p acc = some (progB v p acc) := g1; dsimp only at g2; simp only [spec_ParseProgram.l0]; rw [if_neg (by omega), g1]; simp only [obs]; by_cases c : progB v p acc = true
   ·rw [if_pos c, g2]; simp only [obs]; by_cases c2 : (proT v p acc).toList = s.toList
    ·rw [if_pos c2, if_pos ⟨c, c2⟩]
    ·rw [if_neg c2, if_neg (fun h => c2 h.2)]; rfl
   ·rw [if_neg c, if_neg (fun h => c h.1)]; rfl
  ·obtain ⟨K, hK⟩ := t1; refine Ev.last ⟨K, fun k hk => ?_⟩; have g2 := hK k hk; dsimp only at g2; simp only [impl_ParseProgram.l0]; rw [if_neg (by omega), g2]; simp only [obs]; by_cases c2 : (proT v p acc).toList = s.toList
   ·have c : progB v p acc = true := by
     by_cases c : progB v p acc = true
     ·exact c
     ·exfalso; unfold proT at c2; rw [if_neg c] at c2; exact hne (c2.symm.trans ((toList_nil _).mpr rfl))
    rw [if_pos c2, if_pos ⟨c, c2⟩]
   ·rw [if_neg c2, if_neg (fun h => c2 h.2)]; rfl
  ·by_cases c : progB v p acc = true ∧ (proT v p acc).toList = s.toList
   ·rw [if_pos c]; exact .inr ⟨v, p, acc, rfl, hvl, by omega, c.1, c.2, hv, hp, hvs, hf⟩
   ·rw [if_neg c]; exact .inl rfl
 | succ d ih =>
  intro i acc hi hd hl hf; have hin : i + 2 < P.length := by omega
  obtain ⟨ok, e, hE, hS, t, ht, hI⟩ := edge_both (rdOf ByteArray.empty P ((i + 2 : Nat) : Int)) (hx _ (rd_mem _ P (i + 2) hin)); by_cases c : ok = true
  ·subst c; obtain ⟨r, r1, r2, r3⟩ := ih (i + 1) (acc ++ [e]) (by omega) (by omega) (by simp [hl]) (fun y hy => by
    rcases List.mem_append.mp hy with h | h
    ·exact hf y h
    ·rw [List.mem_singleton.mp h]; exact hE rfl)
   refine ⟨r, ?_, ?_, r3⟩
   ·obtain ⟨K, hK⟩ := hS; refine Ev.next ⟨K, fun k hk => ?_⟩ r1; have g := hK k hk; dsimp only at g; simp only [spec_ParseProgram.l0]; rw [if_pos (by omega), if_pos (by omega), g]; simp only [obs, if_true]; rw [if_pos (by omega), up64 (by omega)]
   ·rcases hI with ⟨_, h⟩ | ⟨h3, n1, n2, q, a1, a2, a3, a4, a5⟩
    ·cases h
    ·obtain ⟨b1, b2⟩ := Bool.and_eq_true_iff.mp a4.symm; obtain ⟨b2, b3⟩ := Bool.and_eq_true_iff.mp b2; obtain ⟨K, hK⟩ := a3; refine Ev.next ⟨K, fun k hk => ?_⟩ r2; have g := hK k hk; dsimp only at g; simp only [impl_ParseProgram.l0]; rw [if_pos (by omega), if_pos (by omega), if_pos (by omega), rd_drop _ P i hin, ht]; simp only [obs]; rw [if_neg (by omega), if_pos (by omega), a1]; simp only [obs]; rw [if_pos (by omega), a2]; simp only [obs]; rw [if_pos (by omega), g]; simp only [obs]; rw [if_pos b1, if_pos b2, if_pos b3, if_pos (by omega), up64 (by omega), ← a5]
  ·have c : ok = false := by simpa using c
   subst c; refine ⟨noProg, ?_, ?_, .inl rfl⟩
   ·obtain ⟨K, hK⟩ := hS; refine Ev.last ⟨K, fun k hk => ?_⟩; have g := hK k hk; dsimp only at g; simp only [spec_ParseProgram.l0]; rw [if_pos (by omega), if_pos (by omega), g]; rfl
   ·rcases hI with ⟨h, _⟩ | ⟨h3, n1, n2, q, a1, a2, a3, a4, a5⟩
    ·refine Ev.last ⟨0, fun k _ => ?_⟩; simp only [impl_ParseProgram.l0]; rw [if_pos (by omega), if_pos (by omega), if_pos (by omega), rd_drop _ P i hin, ht]; simp only [obs]; rw [if_pos (by omega)]; rfl
    ·obtain ⟨K, hK⟩ := a3; refine Ev.last ⟨K, fun k hk => ?_⟩; have g := hK k hk; dsimp only at g; simp only [impl_ParseProgram.l0]; rw [if_pos (by omega), if_pos (by omega), if_pos (by omega), rd_drop _ P i hin, ht]; simp only [obs]; rw [if_neg (by omega), if_pos (by omega), a1]; simp only [obs]; rw [if_pos (by omega), a2]; simp only [obs]; rw [if_pos (by omega), g]; simp only [obs]; by_cases b1 : n1.2 = true
     ·rw [if_pos b1]; by_cases b2 : n2.2 = true
      ·rw [if_pos b2]; by_cases b3 : q.2.2.2 = true
       ·rw [b1, b2, b3] at a4; cases a4
       ·rw [if_neg b3]; rfl
      ·rw [if_neg b2]; rfl
     ·rw [if_neg b1]; rfl
theorem program_both (s : ByteArray) (hs : s.size ≤ 1048576) : ∃ r : PAns, Ev (fun k => impl_ParseProgram.f k s) r ∧ Ev (fun k => spec_ParseProgram.f k s) r ∧ GoodP s r := by
 have h1 := impl_split s 59 hs; have h2 : Ev (fun k => spec_SplitByte.f k s 59) (cutA s 59) := ev_specSplit s 59 hs; have hl := cutA_len s 59; have hmm := cutA_mem s 59; generalize cutA s 59 = P at h1 h2 hl hmm; by_cases c : (P.length : Int) < 2
 ·refine ⟨noProg, Ev.one (fun k => ?_), ?_, .inl rfl⟩
  ·unfold impl_ParseProgram.f; rw [h1]; simp only [obs]; rw [if_pos c]; rfl
  ·obtain ⟨K, hK⟩ := h2; refine ⟨K, fun k hk => ?_⟩; have g := hK k hk; dsimp only at g ⊢; unfold spec_ParseProgram.f; rw [g]; simp only [obs]; rw [if_pos c]; rfl
 ·have hx : ∀ x ∈ P, x.size + 1 ≤ 1048576 := fun x h => by have := hmm x h; omega
  have hne : s.toList ≠ [] := fun e => by
   have := (toList_nil s).mp e; omega
  have z0 := hx _ (rd_mem ByteArray.empty P 0 (by omega)); have z1 := hx _ (rd_mem ByteArray.empty P 1 (by omega)); have e0 : ((0 : Nat) : Int) = 0 := rfl; have e1 : ((1 : Nat) : Int) = 1 := rfl; rw [e0] at z0; rw [e1] at z1; have v1 := impl_split (rdOf ByteArray.empty P 0) 32 (by omega); have v2 : Ev (fun k => spec_SplitByte.f k (rdOf ByteArray.empty P 0) 32) (cutA (rdOf ByteArray.empty P 0) 32) := ev_specSplit _ 32 (by omega); have v3 := cutA_wS (rdOf ByteArray.empty P 0) 32; have v4 := cutA_mem (rdOf ByteArray.empty P 0) 32; have v5 := cutA_len (rdOf ByteArray.empty P 0) 32; obtain ⟨p1, p2, p3, p4⟩ := num_both (rdOf ByteArray.empty P 1) (by omega); obtain ⟨r, r1, r2, r3⟩ := loop_both s P (cutA (rdOf ByteArray.empty P 0) 32) (R (rdOf ByteArray.empty P 1) 0 999999).1 hne (by omega) (by omega) hx (by omega) (fun x h => by have := v4 x h; omega) ⟨p3, p4⟩ (P.length - 2 - 0) 0 [] (by omega) rfl rfl (fun e h => by cases h); refine ⟨r, ?_, ?_, r3⟩
  ·refine Ev.congr (fun k => ?_) r2; unfold impl_ParseProgram.f; rw [h1]; simp only [obs]; rw [if_neg c, if_pos (by omega), v1]; simp only [obs]; rw [if_pos (by omega), p1]; simp only [obs]; rw [if_pos (by omega)]; rfl
  ·obtain ⟨K, hK⟩ := Evt.and h2 (Evt.and v2 (Evt.and p2 r1)); refine ⟨K, fun k hk => ?_⟩; obtain ⟨g1, g2, g3, g4⟩ := hK k hk; dsimp only at g1 g2 g3 g4 ⊢; unfold spec_ParseProgram.f; rw [g1]; simp only [obs]; rw [if_neg c, if_pos (by omega), g2]; simp only [obs]; rw [if_pos (by omega), g3]; simp only [obs]; exact g4
theorem mt_all : ∃ f : Int → ByteArray, ∀ x, 0 ≤ x → x ≤ 100000000000 → Ev (fun k => laws_markText.f k x) (f x) :=
 ⟨fun x => if h : 0 ≤ x ∧ x ≤ 100000000000 then Classical.choose (ev_markText x h.1 h.2) else ⟨#[]⟩, fun x h0 h1 => by
  dsimp only; rw [dif_pos ⟨h0, h1⟩]; exact Classical.choose_spec (ev_markText x h0 h1)⟩
def mS (f : Int → ByteArray) (n : Nat) (a : Int) : List ByteArray := (List.range n).map fun (i : Nat) => f (a + i)
def mEd (f : Int → ByteArray) (a : Int) : S52 := ⟨a, a + 1, (⟨a + 1 + 1, f (a + 1 + 1 + 1), f (a + 1 + 1 + 1 + 1)⟩ : S50)⟩
def mE (f : Int → ByteArray) (n : Nat) (a : Int) : List S52 := (List.range n).map fun (i : Nat) => mEd f (a + 5 * i)
theorem ev_mS (f : Int → ByteArray) (hf : ∀ x, 0 ≤ x → x ≤ 100000000000 → Ev (fun k => laws_markText.f k x) (f x)) (l : List ByteArray) (a : Int) (h0 : 0 ≤ a) (h1 : l.length ≤ 1048576) (h2 : a ≤ 1000000000) : Ev (fun k => laws_markStringS.f k l a) (a + l.length, mS f l.length a) := by
 have hc := loop_is (σ := List ByteArray × Int) l.length (fun k s i => laws_markStringS.l0 k s.1 s.2 i) (fun i s => s.1.length = l.length ∧ s.2 = a + i ∧ ∀ j : Nat, j < i → s.1[j]? = some (f (a + j))) (a + l.length, mS f l.length a)
  (fun i s hi ⟨hl', hs, hy⟩ => by
   obtain ⟨K, hK⟩ := hf (a + i) (by omega) (by omega); refine Or.inl ⟨(s.1.set i (f (a + i)), s.2 + 1), ⟨by simp [hl'], by simp only [hs]; omega, fun j hj => ?_⟩, K, fun k hk => ?_⟩
   ·by_cases e : j = i
    ·subst e; rw [List.getElem?_set_self (by omega)]
    ·rw [List.getElem?_set_ne (by omega)]; exact hy j (by omega)
   ·have g := hK k hk; dsimp only at g; simp only [laws_markStringS.l0]; rw [if_pos (by omega), hs, g]; simp only [obs]; rw [if_pos (by omega), Int.toNat_natCast, up64 (by omega), w64 (by omega) (by omega)])
  (fun s ⟨hl', hs, hy⟩ => ⟨0, fun k _ => by
   simp only [laws_markStringS.l0]; rw [if_neg (by omega), hs]; have e : s.1 = mS f l.length a := by
    apply List.ext_getElem?; intro j; by_cases hj : j < l.length
    ·rw [hy j hj]; simp [mS, hj]
    ·rw [List.getElem?_eq_none (by omega), List.getElem?_eq_none (by simp [mS]; omega)]
   rw [e]⟩)
  (l, a) ⟨rfl, by omega, fun j hj => by omega⟩
 exact Ev.congr (fun k => by unfold laws_markStringS.f; rfl) hc
theorem ev_hS (f : Int → ByteArray) (hf : ∀ x, 0 ≤ x → x ≤ 100000000000 → Ev (fun k => laws_markText.f k x) (f x)) (n : Nat) (a : Int) (h0 : 0 ≤ a) (h1 : n ≤ 1048576) (h2 : a ≤ 1000000000) : Ev (fun k => laws_heldStringS.f k (mS f n a) a) (a + n) := by
 have hlen : (mS f n a).length = n := by simp [mS]
 have hc := loop_is (σ := Int) n (fun k s i => laws_heldStringS.l0 k (mS f n a) s i) (fun i s => s = a + i) (a + n)
  (fun i s hi hs => by
   obtain ⟨K, hK⟩ := hf (a + i) (by omega) (by omega); refine Or.inl ⟨s + 1, by omega, K, fun k hk => ?_⟩; have g := hK k hk; dsimp only at g; have e : rdOf ByteArray.empty (mS f n a) (i : Int) = f (a + i) := by rw [rdOf_at _ _ _ (by omega)]; simp [mS]
   simp only [laws_heldStringS.l0]; rw [if_pos (by omega), if_pos (by omega), hs, g]; simp only [obs]; rw [e, if_pos rfl, up64 (by omega), w64 (by omega) (by omega)])
  (fun s hs => ⟨0, fun k _ => by simp only [laws_heldStringS.l0]; rw [if_neg (by omega), hs]⟩) a (by omega)
 exact Ev.congr (fun k => by unfold laws_heldStringS.f; rfl) hc
theorem rd_set (l : List S52) (i : Nat) (h : i < l.length) (x : S52) : rd_T52 (l.set i x) (i : Int) = x := by
 unfold rd_T52; rw [Int.toNat_natCast, List.getD_eq_getElem?_getD, List.getElem?_set_self h]; rfl
theorem ev_mE (f : Int → ByteArray) (hf : ∀ x, 0 ≤ x → x ≤ 100000000000 → Ev (fun k => laws_markText.f k x) (f x)) (l : List S52) (a : Int) (h0 : 0 ≤ a) (h1 : l.length ≤ 1048576) (h2 : a ≤ 1000000000) : Ev (fun k => laws_markEdgeS.f k l a) (a + 5 * l.length, mE f l.length a) := by
 have hc := loop_is (σ := List S52 × Int) l.length (fun k s i => laws_markEdgeS.l0 k s.1 s.2 i) (fun i s => s.1.length = l.length ∧ s.2 = a + 5 * i ∧ ∀ j : Nat, j < i → s.1[j]? = some (mEd f (a + 5 * j))) (a + 5 * l.length, mE f l.length a)
  (fun i s hi ⟨hl', hs, hy⟩ => by
   obtain ⟨K, hK⟩ := hf (s.2 + 1 + 1 + 1) (by omega) (by omega); obtain ⟨K', hK'⟩ := hf (s.2 + 1 + 1 + 1 + 1) (by omega) (by omega); have e1 : wrap64 (s.2 + 1) = s.2 + 1 := w64 (by omega) (by omega); have e2 : wrap64 (s.2 + 1 + 1) = s.2 + 1 + 1 := w64 (by omega) (by omega); have e3 : wrap64 (s.2 + 1 + 1 + 1) = s.2 + 1 + 1 + 1 := w64 (by omega) (by omega); have e4 : wrap64 (s.2 + 1 + 1 + 1 + 1) = s.2 + 1 + 1 + 1 + 1 := w64 (by omega) (by omega); have e5 : wrap64 (s.2 + 1 + 1 + 1 + 1 + 1) = s.2 + 1 + 1 + 1 + 1 + 1 := w64 (by omega) (by omega); have hi' : i < s.1.length := by omega
   refine Or.inl ⟨(s.1.set i (mEd f s.2), s.2 + 1 + 1 + 1 + 1 + 1), ⟨by simp [hl'], by simp only [hs]; omega, fun j hj => ?_⟩, K + K', fun k hk => ?_⟩
   ·by_cases e : j = i
    ·subst e; rw [List.getElem?_set_self (by omega), hs]
    ·rw [List.getElem?_set_ne (by omega)]; exact hy j (by omega)
   ·have g := hK k (by omega); have g' := hK' k (by omega); dsimp only at g g'; simp only [laws_markEdgeS.l0]; rw [if_pos (by omega), if_pos (by omega)]; simp only [obs, e1, e2, e3, e4, e5, g, g', Int.toNat_natCast, rd_set s.1 i hi', List.set_set]; rw [up64 (by omega)]; rfl)
  (fun s ⟨hl', hs, hy⟩ => ⟨0, fun k _ => by
   simp only [laws_markEdgeS.l0]; rw [if_neg (by omega), hs]; have e : s.1 = mE f l.length a := by
    apply List.ext_getElem?; intro j; by_cases hj : j < l.length
    ·rw [hy j hj]; simp [mE, hj]
    ·rw [List.getElem?_eq_none (by omega), List.getElem?_eq_none (by simp [mE]; omega)]
   rw [e]⟩)
  (l, a) ⟨rfl, by omega, fun j hj => by omega⟩
 exact Ev.congr (fun k => by unfold laws_markEdgeS.f; rfl) hc
theorem ev_hE (f : Int → ByteArray) (hf : ∀ x, 0 ≤ x → x ≤ 100000000000 → Ev (fun k => laws_markText.f k x) (f x)) (n : Nat) (a : Int) (h0 : 0 ≤ a) (h1 : n ≤ 1048576) (h2 : a ≤ 1000000000) : Ev (fun k => laws_heldEdgeS.f k (mE f n a) a) (a + 5 * n) := by
 have hlen : (mE f n a).length = n := by simp [mE]
 have hc := loop_is (σ := Int) n (fun k s i => laws_heldEdgeS.l0 k (mE f n a) s i) (fun i s => s = a + 5 * i) (a + 5 * n)
  (fun i s hi hs => by
   obtain ⟨K, hK⟩ := hf (s + 1 + 1 + 1) (by omega) (by omega); obtain ⟨K', hK'⟩ := hf (s + 1 + 1 + 1 + 1) (by omega) (by omega); have e1 : wrap64 (s + 1) = s + 1 := w64 (by omega) (by omega); have e2 : wrap64 (s + 1 + 1) = s + 1 + 1 := w64 (by omega) (by omega); have e3 : wrap64 (s + 1 + 1 + 1) = s + 1 + 1 + 1 := w64 (by omega) (by omega); have e4 : wrap64 (s + 1 + 1 + 1 + 1) = s + 1 + 1 + 1 + 1 := w64 (by omega) (by omega); have e5 : wrap64 (s + 1 + 1 + 1 + 1 + 1) = s + 1 + 1 + 1 + 1 + 1 := w64 (by omega) (by omega); refine Or.inl ⟨s + 1 + 1 + 1 + 1 + 1, by omega, K + K', fun k hk => ?_⟩; have g := hK k (by omega); have g' := hK' k (by omega); dsimp only at g g'; have e : rd_T52 (mE f n a) (i : Int) = mEd f s := by
    unfold rd_T52; rw [Int.toNat_natCast, get_rep _ _ _ (by omega), hs]; simp [mE]
   simp only [laws_heldEdgeS.l0]; rw [if_pos (by omega), if_pos (by omega), e]; simp only [mEd, e1, e2, e3, e4, e5, g, g', obs, if_true]; rw [up64 (by omega)])
  (fun s hs => ⟨0, fun k _ => by simp only [laws_heldEdgeS.l0]; rw [if_neg (by omega), hs]⟩) a (by omega)
 exact Ev.congr (fun k => by unfold laws_heldEdgeS.f; rfl) hc
theorem ev_marksP (v : List ByteArray) (p : Int) (l : List S52) (hv : v.length ≤ 1048576) (hl : l.length ≤ 1048576) : ∃ (z : Int) (v' : List ByteArray) (l' : List S52), 0 ≤ z ∧ Ev (fun k => laws_markProgram.f k v p l 1) (z, v', l') ∧ Ev (fun k => laws_heldProgram.f k v' p l' 1) z := by
 obtain ⟨f, hf⟩ := mt_all; obtain ⟨K, hK⟩ := Evt.and (ev_mS f hf v 1 (by omega) hv (by omega)) (ev_mE f hf l (1 + v.length) (by omega) hl (by omega)); obtain ⟨K', hK'⟩ := Evt.and (ev_hS f hf v.length 1 (by omega) hv (by omega)) (ev_hE f hf l.length (1 + v.length) (by omega) hl (by omega)); refine ⟨1 + v.length + 5 * l.length, mS f v.length 1, mE f l.length (1 + v.length), by omega, ⟨K, fun k hk => ?_⟩, ⟨K', fun k hk => ?_⟩⟩
 ·obtain ⟨g1, g2⟩ := hK k hk; dsimp only at g1 g2 ⊢; unfold laws_markProgram.f; rw [g1]; simp only [obs]; rw [g2]; rfl
 ·obtain ⟨g1, g2⟩ := hK' k hk; dsimp only at g1 g2 ⊢; unfold laws_heldProgram.f; rw [g1]; simp only [obs]; rw [if_neg (by omega), g2]; simp only [obs]; rw [if_neg (by omega)]
theorem FnExactParseProgram : laws_FnExactParseProgram.Pure := by
 intro s hB; by_cases cb : (s.size : Int) > 1048576
 ·refine ⟨0, ?_⟩; unfold laws_FnExactParseProgram.f; rw [if_pos cb]
 obtain ⟨r, e1, e2, hr⟩ := program_both s (by omega); obtain ⟨v, p, l, b⟩ := r; have hb : v.length ≤ 1048576 ∧ l.length ≤ 1048576 := by
  rcases hr with h | ⟨v', p', l', h, h1, h2, _⟩
  ·cases h
   exact ⟨by decide, by decide⟩
  ·cases h
   exact ⟨h1, h2⟩
 obtain ⟨z, v', l', z0, m1, m2⟩ := ev_marksP v p l hb.1 hb.2; obtain ⟨K, hK⟩ := Evt.and e1 (Evt.and e2 (Evt.and (ev_eqProgram v p l hb.1 hb.2) (Evt.and m1 m2))); obtain ⟨g1, g2, g3, g4, g5⟩ := hK K (Nat.le_refl _); obtain ⟨h1, h2, h3, h4, h5⟩ := hK (K + 1) (by omega); obtain ⟨i1, i2, i3, i4, i5⟩ := hK (K + 2) (by omega); dsimp only at g1 g2 g3 g4 g5 h1 h2 h3 h4 h5 i1 i2 i3 i4 i5; have j1 : laws_FnExactParseProgram.j1 (K + 1) z false v' p l' = some true := by
  simp only [laws_FnExactParseProgram.j1]; rw [if_neg (by decide), g5]; simp only [obs]; rw [if_neg (by omega), if_pos trivial]
 refine ⟨K + 2, ?_⟩; unfold laws_FnExactParseProgram.f; rw [if_neg cb, i2]; simp only [obs]; rw [i1]; simp only [obs]; rw [i3]; simp only [obs, if_true]; simp only [laws_FnExactParseProgram.j0]; rw [if_neg (by simp), h4]; simp only [obs]; rw [h5]; simp only [obs]; rw [if_neg (by omega), if_pos trivial, h1]; simp only [obs]; rw [h3]; simp only [obs, if_true]; rw [bne_self_eq_false]; exact j1
end Go.Proofs.YtndkkpjofddfjaaGreatDoor.Pure.LFnExactParseProgram
namespace Go.Proofs.YtndkkpjofddfjaaGreatDoor.Pure
open Go.Proofs.YtndkkpjofddfjaaGreatDoor.PFnExactParseProgram
theorem FnExactParseProgram : laws_FnExactParseProgram.Pure := LFnExactParseProgram.FnExactParseProgram
end Go.Proofs.YtndkkpjofddfjaaGreatDoor.Pure
