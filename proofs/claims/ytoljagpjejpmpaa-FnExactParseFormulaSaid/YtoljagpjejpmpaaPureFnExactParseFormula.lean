/-
 The pure statement of laws.FnExactParseFormula: what the printed functions compute makes the law answer true, for every argument of its kinds (no further condition).
-/
import Derived.Test.YtoljagpjejpmpaaPFnExactParseFormulax0
import Derived.Test.YtoljagpjejpmpaaPFnExactParseFormulax1
import Derived.Test.YtoljagpjejpmpaaPFnExactParseFormulax2
import Derived.Test.YtoljagpjejpmpaaPFnExactParseFormulax3
import Derived.Test.YtoljagpjejpmpaaPFnExactParseFormulax4
import Derived.Test.YtoljagpjejpmpaaPFnExactParseFormulax5
import Derived.Test.YtoljagpjejpmpaaPFnExactParseFormulax6
import Derived.Test.YtoljagpjejpmpaaPFnExactParseFormulax7
import Derived.Test.YtoljagpjejpmpaaPFnExactParseFormulax8
import Derived.Test.YtoljagpjejpmpaaPFnExactParseFormulax9
import Derived.Test.YtoljagpjejpmpaaPFnExactParseFormulax10
import Derived.Test.YtoljagpjejpmpaaPFnExactParseFormulax11
import Derived.Test.YtoljagpjejpmpaaPFnExactParseFormulax12
import Derived.Test.YtoljagpjejpmpaaPFnExactParseFormulax13
import Derived.Test.YtoljagpjejpmpaaPFnExactParseFormulax14
import Derived.Test.YtoljagpjejpmpaaPFnExactParseFormulax15
import Derived.Test.YtoljagpjejpmpaaPFnExactParseFormulax16
import Derived.Test.YtoljagpjejpmpaaXPure
namespace Go.Proofs.Ytoljagpjejpmpaa.Pure.LFnExactParseFormula
open Go.RowKit Go.Proofs.Ytoljagpjejpmpaa.PFnExactParseFormula Go.Proofs.YtoljagpjejpmpaaW.PrintWords Go.Proofs.YtoljagpjejpmpaaW.PrintLast Go.Proofs.YtoljagpjejpmpaaX
theorem obs.{u, v} {α : Type u} {β : Type v} {a : α} {f : α → Option β} : (some a).bind f = f a := rfl
set_option linter.unusedVariables false
set_option linter.unusedSimpArgs false
theorem in_eq (a b c : Int) : spec_l1In.f a b c = some (decide (b ≤ a) && decide (a ≤ c)) := by
 unfold spec_l1In.f; by_cases h : b ≤ a <;> simp [h]
theorem wi_eq (a b c : Int) : impl_within.f a b c = some (decide (b ≤ a) && decide (a ≤ c)) := by
 unfold impl_within.f; by_cases h : b ≤ a <;> simp [h]
theorem ev_specIsName (s : ByteArray) (h : s.size ≤ 9223372036854775807) : Ev (fun k => spec_IsName.f k s) (nameB s) := by
 have hc := all_loop s.size h (fun i => 97 ≤ bt s (i : Int) ∧ bt s (i : Int) ≤ 122) (fun k i => spec_IsName.l0 k s i) (decide ((1 : Int) ≤ (s.size : Int)) && decide ((s.size : Int) ≤ 2)) false
  (fun i hi hT => ⟨0, fun k _ => by simp only [spec_IsName.l0]; rw [if_pos (by omega), if_pos (by omega), if_neg (by omega), if_neg (by omega)]⟩)
  (fun i hi hT => ⟨0, fun k _ => by
   simp only [spec_IsName.l0]; rw [if_pos (by omega), if_pos (by omega)]; by_cases c : bt s (i : Int) < 97
   ·rw [if_pos c]
   ·rw [if_neg c, if_pos (by omega)]⟩)
  ⟨0, fun k _ => by simp only [spec_IsName.l0]; rw [if_neg (by omega), in_eq]; rfl⟩ (nameB s) (by rw [if_and_false]; rfl)
 exact Ev.congr (fun k => rfl) hc
theorem ev_implIsName (s : ByteArray) (h : s.size ≤ 9223372036854775807) : Ev (fun k => impl_IsName.f k s) (nameB s) := by
 have hc := all_loop s.size h (fun i => 97 ≤ bt s (i : Int) ∧ bt s (i : Int) ≤ 122) (fun k i => impl_IsName.l0 k s (s.size : Int) i) (decide ((1 : Int) ≤ (s.size : Int)) && decide ((s.size : Int) ≤ 2)) false
  (fun i hi hT => ⟨0, fun k _ => by simp only [impl_IsName.l0]; rw [if_pos (by omega), if_pos (by omega), if_pos (by omega), if_neg (by omega), if_neg (by omega)]⟩)
  (fun i hi hT => ⟨0, fun k _ => by
   simp only [impl_IsName.l0]; rw [if_pos (by omega), if_pos (by omega), if_pos (by omega)]; by_cases c : bt s (i : Int) < 97
   ·rw [if_pos c]
   ·rw [if_neg c, if_pos (by omega)]⟩)
  ⟨0, fun k _ => by simp only [impl_IsName.l0]; rw [if_neg (by omega), wi_eq]; rfl⟩ (nameB s) (by rw [if_and_false]; rfl)
 exact Ev.congr (fun k => rfl) hc
theorem ev_specIndexOf (l : List ByteArray) (s : ByteArray) (h : l.length ≤ 9223372036854775807) : Ev (fun k => spec_IndexOf.f k l s) (idx l s) := by
 have hc := loop_is (σ := Unit) l.length (fun k _ i => spec_IndexOf.l0 k l s i) (fun i _ => idx l s = idxFrom s (l.drop i) i) (idx l s)
  (fun i _ hi hI => by
   rw [idx_go s l i hi] at hI; by_cases c : l[i].toList = s.toList
   ·rw [if_pos c] at hI; exact Or.inr ⟨0, fun k _ => by simp only [spec_IndexOf.l0]; rw [if_pos (by omega), if_pos (by omega), rdOf_at _ _ _ hi, if_pos c, hI]⟩
   ·rw [if_neg c] at hI; exact Or.inl ⟨(), hI, 0, fun k _ => by simp only [spec_IndexOf.l0]; rw [if_pos (by omega), if_pos (by omega), rdOf_at _ _ _ hi, if_neg c, up64 (by omega)]⟩)
  (fun _ hI => ⟨0, fun k _ => by rw [List.drop_length] at hI; simp only [spec_IndexOf.l0]; rw [if_neg (by omega), hI]; rfl⟩) () (by rfl)
 exact Ev.congr (fun k => rfl) hc
theorem ev_slicesIndex (l : List ByteArray) (s : ByteArray) (h : l.length ≤ 9223372036854775807) : Ev (fun k => slices_Index_string_string.f k l s) (idx l s) := by
 have hc := loop_is (σ := Unit) l.length (fun k _ i => slices_Index_string_string.l0 k l s (l.length : Int) i) (fun i _ => idx l s = idxFrom s (l.drop i) i) (idx l s)
  (fun i _ hi hI => by
   rw [idx_go s l i hi] at hI; by_cases c : l[i].toList = s.toList
   ·rw [if_pos c] at hI; exact Or.inr ⟨0, fun k _ => by simp only [slices_Index_string_string.l0]; rw [if_pos (by omega), if_pos (by omega), if_pos (by omega), rdOf_at _ _ _ hi, if_pos c.symm, hI]⟩
   ·rw [if_neg c] at hI; exact Or.inl ⟨(), hI, 0, fun k _ => by simp only [slices_Index_string_string.l0]; rw [if_pos (by omega), if_pos (by omega), if_pos (by omega), rdOf_at _ _ _ hi, if_neg (fun e => c e.symm), up64 (by omega)]⟩)
  (fun _ hI => ⟨0, fun k _ => by rw [List.drop_length] at hI; simp only [slices_Index_string_string.l0]; rw [if_neg (by omega), hI]; rfl⟩) () (by rfl)
 exact Ev.congr (fun k => rfl) hc
theorem ev_implIndexOf (l : List ByteArray) (s : ByteArray) (h : l.length ≤ 9223372036854775807) : Ev (fun k => impl_IndexOf.f k l s) (idx l s) := by
 refine Ev.congr (fun k => ?_) (ev_slicesIndex l s h); unfold impl_IndexOf.f; cases slices_Index_string_string.f k l s <;> rfl
theorem ev_specAreVars (l : List ByteArray) (h : l.length ≤ 9223372036854775807) (hs : ∀ s ∈ l, s.size ≤ 9223372036854775807) : Ev (fun k => spec_AreVars.f k l) (varsB l) := by
 have hc := all_loop l.length h (fun i => nameB (l.getD i ByteArray.empty) = true ∧ idx l (l.getD i ByteArray.empty) = (i : Int)) (fun k i => spec_AreVars.l0 k l i) (decide ((1 : Int) ≤ (l.length : Int)) && decide ((l.length : Int) ≤ 4)) false
  (fun i hi hT => by
   have e : rdOf ByteArray.empty l (i : Int) = l.getD i ByteArray.empty := by unfold rdOf; rw [Int.toNat_natCast]
   obtain ⟨K, hK⟩ := Evt.and (ev_specIsName (l.getD i ByteArray.empty) (hs _ (getD_mem _ _ _ hi))) (ev_specIndexOf l (l.getD i ByteArray.empty) h); refine ⟨K, fun k hk => ?_⟩; obtain ⟨h1, h2⟩ := hK k hk; dsimp only at h1 h2; simp only [spec_AreVars.l0]; rw [if_pos (by omega), if_pos (by omega), e, h1]; simp only [obs]; rw [if_pos hT.1, h2]; simp only [obs]; rw [if_pos hT.2])
  (fun i hi hT => by
   have e : rdOf ByteArray.empty l (i : Int) = l.getD i ByteArray.empty := by unfold rdOf; rw [Int.toNat_natCast]
   obtain ⟨K, hK⟩ := Evt.and (ev_specIsName (l.getD i ByteArray.empty) (hs _ (getD_mem _ _ _ hi))) (ev_specIndexOf l (l.getD i ByteArray.empty) h); refine ⟨K, fun k hk => ?_⟩; obtain ⟨h1, h2⟩ := hK k hk; dsimp only at h1 h2; simp only [spec_AreVars.l0]; rw [if_pos (by omega), if_pos (by omega), e, h1]; simp only [obs]; by_cases c : nameB (l.getD i ByteArray.empty) = true
   ·rw [if_pos c, h2]; simp only [obs]; rw [if_neg (fun c2 => hT ⟨c, c2⟩)]
   ·rw [if_neg c])
  ⟨0, fun k _ => by simp only [spec_AreVars.l0]; rw [if_neg (by omega), in_eq]; rfl⟩ (varsB l) (by rw [if_and_false]; rfl)
 exact Ev.congr (fun k => rfl) hc
theorem ev_implAreVars (l : List ByteArray) (h : l.length ≤ 9223372036854775807) (hs : ∀ s ∈ l, s.size ≤ 9223372036854775807) : Ev (fun k => impl_AreVars.f k l) (varsB l) := by
 have hc := all_loop l.length h (fun i => nameB (l.getD i ByteArray.empty) = true ∧ idx l (l.getD i ByteArray.empty) = (i : Int)) (fun k i => impl_AreVars.l0 k l l (l.length : Int) i) (decide ((1 : Int) ≤ (l.length : Int)) && decide ((l.length : Int) ≤ 4)) false
  (fun i hi hT => by
   have e : rdOf ByteArray.empty l (i : Int) = l.getD i ByteArray.empty := by unfold rdOf; rw [Int.toNat_natCast]
   obtain ⟨K, hK⟩ := Evt.and (ev_implIsName (l.getD i ByteArray.empty) (hs _ (getD_mem _ _ _ hi))) (ev_implIndexOf l (l.getD i ByteArray.empty) h); refine ⟨K, fun k hk => ?_⟩; obtain ⟨h1, h2⟩ := hK k hk; dsimp only at h1 h2; simp only [impl_AreVars.l0]; rw [if_pos (by omega), if_pos (by omega), if_pos (by omega), e, h1]; simp only [obs]; rw [if_pos hT.1, h2]; simp only [obs]; rw [if_pos hT.2])
  (fun i hi hT => by
   have e : rdOf ByteArray.empty l (i : Int) = l.getD i ByteArray.empty := by unfold rdOf; rw [Int.toNat_natCast]
   obtain ⟨K, hK⟩ := Evt.and (ev_implIsName (l.getD i ByteArray.empty) (hs _ (getD_mem _ _ _ hi))) (ev_implIndexOf l (l.getD i ByteArray.empty) h); refine ⟨K, fun k hk => ?_⟩; obtain ⟨h1, h2⟩ := hK k hk; dsimp only at h1 h2; simp only [impl_AreVars.l0]; rw [if_pos (by omega), if_pos (by omega), if_pos (by omega), e, h1]; simp only [obs]; by_cases c : nameB (l.getD i ByteArray.empty) = true
   ·rw [if_pos c, h2]; simp only [obs]; rw [if_neg (fun c2 => hT ⟨c, c2⟩)]
   ·rw [if_neg c])
  ⟨0, fun k _ => by simp only [impl_AreVars.l0]; rw [if_neg (by omega), wi_eq]; rfl⟩ (varsB l) (by rw [if_and_false]; rfl)
 exact Ev.congr (fun k => rfl) hc
def wS (l : List ByteArray) : Int := l.length + ((l.map fun s => (s.size : Int)).foldr (· + ·) 0)
theorem sums_nonneg (l : List ByteArray) : 0 ≤ (l.map fun s => (s.size : Int)).foldr (· + ·) 0 := by
 induction l with
 | nil => simp
 | cons a l ih => simp only [List.map_cons, List.foldr_cons]; omega
theorem sums_take (l : List ByteArray) (i : Nat) (h : i < l.length) : ((l.take (i + 1)).map fun s => (s.size : Int)).foldr (· + ·) 0 = ((l.take i).map fun s => (s.size : Int)).foldr (· + ·) 0 + ((rdOf ByteArray.empty l (i : Int)).size : Int) := by
 rw [rdOf_at _ _ _ h]; induction l generalizing i with
 | nil => simp at h
 | cons a l ih =>
  cases i with
  | zero => simp
  | succ i =>
   simp only [List.take_succ_cons, List.map_cons, List.foldr_cons, List.getElem_cons_succ]; rw [ih i (by simpa using h)]; omega
theorem sums_le (l : List ByteArray) (i : Nat) : ((l.take i).map fun s => (s.size : Int)).foldr (· + ·) 0 ≤ (l.map fun s => (s.size : Int)).foldr (· + ·) 0 := by
 induction l generalizing i with
 | nil => simp
 | cons a l ih =>
  cases i with
  | zero => simp only [List.take_zero, List.map_nil, List.foldr_nil]; exact sums_nonneg _
  | succ i => simp only [List.take_succ_cons, List.map_cons, List.foldr_cons]; have := ih i; omega
theorem ev_szStringS (l : List ByteArray) (a : Int) (h0 : 0 ≤ a) (h1 : a ≤ 1048576) (hl : l.length ≤ 9223372036854775807) (hs : ∀ s ∈ l, s.size ≤ 9223372036854775807) :
  Ev (fun k => laws_szStringS.f k l a) (if wS l ≤ a then a - wS l else -1) := by
 have hn := sums_nonneg l; have hw : wrap64 (a - (l.length : Int)) = a - l.length := w64 (by omega) (by omega); by_cases c : a - (l.length : Int) < 0
 ·have e : (if wS l ≤ a then a - wS l else -1) = -1 := if_neg (by unfold wS; omega); rw [e]; exact Ev.one (fun k => by unfold laws_szStringS.f; rw [hw, if_pos c])
 ·have hc := loop_is (σ := Int) l.length (fun k s i => laws_szStringS.l0 k l s i) (fun i s => s = a - l.length - ((l.take i).map fun s => (s.size : Int)).foldr (· + ·) 0 ∧ 0 ≤ s) (if wS l ≤ a then a - wS l else -1)
   (fun i s hi ⟨hs', hs0⟩ => by
    have ht := sums_take l i hi; have hsz : (rdOf ByteArray.empty l (i : Int)).size ≤ 9223372036854775807 := by
     rw [rdOf_at _ _ _ hi]; exact hs _ (List.getElem_mem hi)
    have hs2 : s ≤ 1048576 := by have := sums_nonneg (l.take i); omega
    have hw2 : wrap64 (s - ((rdOf ByteArray.empty l (i : Int)).size : Int)) = s - (rdOf ByteArray.empty l (i : Int)).size := w64 (by omega) (by omega); by_cases c2 : s - ((rdOf ByteArray.empty l (i : Int)).size : Int) < 0
    ·refine Or.inr ⟨0, fun k _ => ?_⟩; simp only [laws_szStringS.l0]; rw [if_pos (by omega), if_pos (by omega), hw2, if_pos c2, if_neg]; have := sums_le l (i + 1); unfold wS; omega
    ·refine Or.inl ⟨s - (rdOf ByteArray.empty l (i : Int)).size, ⟨by omega, by omega⟩, 0, fun k _ => ?_⟩; simp only [laws_szStringS.l0]; rw [if_pos (by omega), if_pos (by omega), hw2, if_neg c2, up64 (by omega)])
   (fun s ⟨hs', hs0⟩ => ⟨0, fun k _ => by
    rw [List.take_length] at hs'; simp only [laws_szStringS.l0]; rw [if_neg (by omega), if_pos (by unfold wS; omega)]; congr 1
    unfold wS; omega⟩)
   (a - l.length) ⟨by simp, by omega⟩
  refine Ev.congr (fun k => ?_) hc; unfold laws_szStringS.f; rw [hw, if_neg c]
theorem ev_toStringS (l : List ByteArray) (h : l.length ≤ 17592186044416) : Ev (fun k => laws_toStringS.f k l) l := by
 have hc := copy_loop l.length (by omega) (fun i => rdOf ByteArray.empty l (i : Int)) (⟨#[]⟩ : ByteArray) (fun k ys i => laws_toStringS.l0 k l ys i)
  (fun i ys hi hl => ⟨0, fun k _ => by simp only [laws_toStringS.l0]; rw [if_pos (by omega), if_pos (by omega), if_pos (by omega), Int.toNat_natCast]⟩)
  (fun ys hl => ⟨0, fun k _ => by simp only [laws_toStringS.l0]; rw [if_neg (by omega)]⟩)
 have e : ((List.range l.length).map fun i => rdOf ByteArray.empty l ((i : Nat) : Int)) = l := by
  have := map_range_id ByteArray.empty l; simpa [rdOf] using this
 rw [e] at hc; refine Ev.congr (fun k => ?_) hc; unfold laws_toStringS.f; rw [if_pos (by omega), if_pos (by rw [Int.toNat_natCast]; omega), Int.toNat_natCast]
theorem ev_eqStringS (l : List ByteArray) (h : l.length ≤ 9223372036854775807) : Ev (fun k => laws_eqStringS.f k l l) true := by
 have hc := all_true l.length h (fun k i => laws_eqStringS.l0 k l l i) true
  (fun i hi => ⟨0, fun k _ => by simp only [laws_eqStringS.l0]; rw [if_pos (by omega), if_pos (by omega), if_pos (by omega)]; simp only [if_true]⟩)
  ⟨0, fun k _ => by simp only [laws_eqStringS.l0]; rw [if_neg (by omega)]⟩
 refine Ev.congr (fun k => ?_) hc; unfold laws_eqStringS.f; rw [if_pos rfl]
theorem strOfNums_one (a : Int) : (strOfNums [a]).size = 1 := by
 first | rfl | simp [strOfNums]
theorem ev_markTextGo : ∀ (m n : Nat), n ≤ m → ∀ s : ByteArray, s.size + n ≤ 1000000000000 → ∃ r, Ev (fun k => laws_markText.l0 k (n : Int) s) r := by
 intro m; induction m with
 | zero =>
  intro n hn s hs; exact ⟨_, Ev.last ⟨0, fun k _ => by simp only [laws_markText.l0]; rw [if_neg (by omega), if_pos (by omega)]⟩⟩
 | succ m ih =>
  intro n hn s hs; by_cases c : n = 0
  ·exact ⟨_, Ev.last ⟨0, fun k _ => by simp only [laws_markText.l0]; rw [if_neg (by omega), if_pos (by omega)]⟩⟩
  ·have hd : n / 10 ≤ n - 1 := by omega
   obtain ⟨r, hr⟩ := ih (n / 10) (by omega) (strOfNums [(wrap64 (48 + (Int.tmod (n : Int) 10))) % 256] ++ s) (by rw [ByteArray.size_append, strOfNums_one]; omega); refine ⟨r, Ev.next ⟨0, fun k _ => ?_⟩ hr⟩; simp only [laws_markText.l0, obs]; rw [if_pos (by omega), if_pos (by rw [strOfNums_one]; omega), show Int.tdiv (n : Int) 10 = ((n / 10 : Nat) : Int) from by rw [Int.tdiv_eq_ediv_of_nonneg (by omega)]; omega, w64 (by omega) (by omega)]
theorem ev_markText (x : Int) (h0 : 0 ≤ x) (h1 : x ≤ 100000000000) : ∃ r, Ev (fun k => laws_markText.f k x) r := by
 obtain ⟨n, rfl⟩ := Int.eq_ofNat_of_zero_le h0; by_cases c : (n : Int) ≤ 0
 ·exact ⟨_, Ev.one (fun k => by unfold laws_markText.f; rw [if_pos c])⟩
 ·obtain ⟨r, hr⟩ := ev_markTextGo n n (by omega) ⟨#[]⟩ (by show 0 + n ≤ _; omega); exact ⟨r, Ev.congr (fun k => by unfold laws_markText.f; rw [if_neg c]) hr⟩
theorem ev_markStringAny (l : List ByteArray) (a : Int) (h0 : 0 ≤ a) (h1 : l.length ≤ 1048576) (h2 : a ≤ 1000000000) : ∃ l', Ev (fun k => laws_markStringS.f k l a) (a + l.length, l') := by
 obtain ⟨r, ⟨l', hr⟩, he⟩ := loop_ev (σ := List ByteArray × Int) l.length (fun k s i => laws_markStringS.l0 k s.1 s.2 i) (fun i s => s.1.length = l.length ∧ s.2 = a + i) (fun r => ∃ l', r = (a + l.length, l'))
  (fun i s hi ⟨hl, hs⟩ => by
   obtain ⟨t, K, hK⟩ := ev_markText s.2 (by omega) (by omega); refine Or.inl ⟨(s.1.set i t, s.2 + 1), ⟨by simp [hl], by simp only [hs]; omega⟩, K, fun k hk => ?_⟩; have g := hK k hk; dsimp only at g; simp only [laws_markStringS.l0]; rw [if_pos (by omega), g]; simp only [obs]; rw [if_pos (by omega), Int.toNat_natCast, up64 (by omega), w64 (by omega) (by omega)])
  (fun s ⟨hl, hs⟩ => ⟨_, ⟨s.1, rfl⟩, 0, fun k _ => by simp only [laws_markStringS.l0]; rw [if_neg (by omega), hs]⟩)
  l.length 0 (l, a) (by omega) (by omega) ⟨rfl, by omega⟩
 subst hr; exact ⟨l', Ev.congr (fun k => by unfold laws_markStringS.f; rfl) he⟩
theorem rdG (l : List S32) (i : Nat) : rd_T32 l (i : Int) = l.getD i z32 := by unfold rd_T32; rw [Int.toNat_natCast]
theorem etaG (y : S32) : (⟨y.f0, y.f1, y.f2, y.f3, y.f4⟩ : S32) = y := by cases y; rfl
def LG : Nat → S32 → Prop
 | 0, _ => False
 | n + 1, x => x.f4.length ≤ 1048576 ∧ ∀ y ∈ x.f4, LG n y
instance : Inhabited S32 := ⟨z32⟩
def csum {α : Type} (f : α → Nat) : List α → Nat
 | [] => 0
 | a :: l => f a + csum f l
theorem csum_take {α : Type} (f : α → Nat) (d : α) : ∀ (l : List α) (i : Nat), i < l.length → csum f (l.take (i + 1)) = csum f (l.take i) + f (l.getD i d)
 | [], i, h => by simp at h
 | a :: l, 0, _ => by simp [csum]
 | a :: l, i + 1, h => by
  simp only [List.take_succ_cons, csum]; have := csum_take f d l i (by simpa using h); rw [this]; simp only [List.getD_cons_succ]; omega
theorem csum_map {α β : Type} (f : α → Nat) (g : β → Nat) (d : α) (e : β) : ∀ (l : List α) (m : List β), l.length = m.length → (∀ i, i < l.length → f (l.getD i d) = g (m.getD i e)) → csum f l = csum g m
 | [], [], _, _ => rfl
 | a :: l, [], h, _ => by simp at h
 | [], b :: m, h, _ => by simp at h
 | a :: l, b :: m, h, hf => by
  have h0 : f a = g b := hf 0 (by simp); have h1 := csum_map f g d e l m (by simpa using h) (fun i hi => hf (i + 1) (by simpa using hi)); simp only [csum, h0, h1]
theorem csum_mem {α : Type} (f : α → Nat) : ∀ (l : List α) (x : α), x ∈ l → f x ≤ csum f l
 | a :: l, x, h => by
  simp only [csum]; rcases List.mem_cons.mp h with rfl | h
  ·omega
  ·have := csum_mem f l x h; omega
def cntG : Nat → S32 → Nat
 | 0, _ => 0
 | n + 1, x => x.f4.length + csum (cntG n) x.f4
theorem deep : ∀ (m n : Nat) (y : S32), LG n y → cntG n y ≤ m → LG (m + 1) y := by
 intro m; induction m with
 | zero =>
  intro n y h hc; cases n with
  | zero => exact h.elim
  | succ n =>
   refine ⟨h.1, fun z hz => ?_⟩; have hl : 0 < y.f4.length := List.length_pos_of_mem hz; simp only [cntG] at hc; omega
 | succ m ih =>
  intro n y h hc; cases n with
  | zero => exact h.elim
  | succ n =>
   refine ⟨h.1, fun z hz => ?_⟩; have hl : 0 < y.f4.length := List.length_pos_of_mem hz; have := csum_mem (cntG n) y.f4 z hz; simp only [cntG] at hc; exact ih n z (h.2 z hz) (by omega)
theorem max_eq (a b : Int) : spec_l1Max.f a b = some (mx a b) := by
 unfold spec_l1Max.f mx; split <;> congr 1 <;> omega
theorem ev_DepthOf : ∀ (n : Nat) (x : S32), LG n x → ∃ r, Ev (fun k => spec_DepthOf.f k x.f0 x.f1 x.f2 x.f3 x.f4) r ∧ Ev (fun k => impl_DepthOf.f k x.f0 x.f1 x.f2 x.f3 x.f4) r := by
 intro n; induction n with
 | zero => intro x h; exact h.elim
 | succ n ih =>
  intro x hx; obtain ⟨s, hs⟩ := chosen (α := Int) (p := fun i r => Ev (fun k => spec_DepthOf.f k (x.f4.getD i z32).f0 (x.f4.getD i z32).f1 (x.f4.getD i z32).f2 (x.f4.getD i z32).f3 (x.f4.getD i z32).f4) r ∧ Ev (fun k => impl_DepthOf.f k (x.f4.getD i z32).f0 (x.f4.getD i z32).f1 (x.f4.getD i z32).f2 (x.f4.getD i z32).f3 (x.f4.getD i z32).f4) r) (n := x.f4.length) (fun i hi => ih _ (hx.2 _ (getD_mem _ _ _ hi))); obtain ⟨r, h1, h2⟩ := two_loops (σ := Int) (τ := Int) x.f4.length (fun k s i => spec_DepthOf.l0 k s i x.f0 x.f1 x.f2 x.f3 x.f4) (fun k s i => impl_DepthOf.l0 k s x.f4 (x.f4.length : Int) i) (fun _ s t => s = t)
   (fun i a b hi hab => by
    subst hab; obtain ⟨⟨K, hK⟩, ⟨K', hK'⟩⟩ := hs i hi; have hl := hx.1; refine Or.inl ⟨mx a (s i), mx a (s i), rfl, ⟨K, fun k hk => ?_⟩, ⟨K', fun k hk => ?_⟩⟩
    ·have e := hK k hk; dsimp only at e; simp only [spec_DepthOf.l0]; rw [if_pos (by omega), if_pos (by omega), rdG, e]; simp only [obs, max_eq]; rw [up64 (by omega)]
    ·have e := hK' k hk; dsimp only at e; simp only [impl_DepthOf.l0]; rw [if_pos (by omega), if_pos (by omega), if_pos (by omega), rdG, e]; simp only [obs]; rw [up64 (by omega)])
   (fun a b hab => by
    subst hab; exact ⟨wrap64 (a + 1), ⟨0, fun k _ => by simp only [spec_DepthOf.l0]; rw [if_neg (by omega)]⟩, ⟨0, fun k _ => by simp only [impl_DepthOf.l0]; rw [if_neg (by omega)]⟩⟩)
   x.f4.length 0 0 0 (by omega) (by omega) rfl
  exact ⟨r, Ev.next (f := fun k => spec_DepthOf.l0 k 0 0 x.f0 x.f1 x.f2 x.f3 x.f4) ⟨0, fun k _ => by simp only [spec_DepthOf.f]⟩ h1, Ev.next (f := fun k => impl_DepthOf.l0 k 0 x.f4 (x.f4.length : Int) 0) ⟨0, fun k _ => by simp only [impl_DepthOf.f]⟩ h2⟩
theorem ev_left : ∀ (n : Nat) (y : S32), LG n y → ∀ a : Int, 0 ≤ a → a ≤ 1000 → ∃ r, Ev (fun k => spec_l10Left.f k y.f0 y.f1 y.f2 y.f3 y.f4 a) r ∧ ((0 ≤ r ∧ r = a - 1 - cntG n y) ∨ (r < 0 ∧ a < 1 + cntG n y)) := by
 intro n; induction n with
 | zero => intro y h; exact h.elim
 | succ n ih =>
  intro y hy a h0 h1; have hlen := hy.1; have hsum : ∀ i, i < y.f4.length → i + 1 + csum (cntG n) (y.f4.take (i + 1)) ≤ cntG (n + 1) y := fun i hi => by
   simp only [cntG]; have : ∀ (l : List S32) (j : Nat), csum (cntG n) (l.take j) ≤ csum (cntG n) l := by
    intro l; induction l with
    | nil => intro j; simp [csum]
    | cons b l ihl =>
     intro j; cases j with
     | zero => simp [csum]
     | succ j => simp only [List.take_succ_cons, csum]; have := ihl j; omega
   have := this y.f4 (i + 1); omega
  obtain ⟨r, hr, he⟩ := loop_ev (σ := Int) y.f4.length (fun k s i => spec_l10Left.l0 k s i y.f0 y.f1 y.f2 y.f3 y.f4)
   (fun i s => (0 ≤ s ∧ s = a - 1 - i - csum (cntG n) (y.f4.take i)) ∨ (s < 0 ∧ a < 1 + cntG (n + 1) y))
   (fun r => (0 ≤ r ∧ r = a - 1 - cntG (n + 1) y) ∨ (r < 0 ∧ a < 1 + cntG (n + 1) y))
   (fun i s hi hs => by
    rcases hs with ⟨s0, s1⟩ | ⟨s0, s1⟩
    ·obtain ⟨r, ⟨K, hK⟩, hr⟩ := ih (y.f4.getD i z32) (hy.2 _ (getD_mem _ _ _ hi)) s s0 (by omega); have ht := csum_take (cntG n) z32 y.f4 i hi; have hs := hsum i hi; refine Or.inl ⟨r, ?_, K, fun k hk => ?_⟩
     ·rcases hr with ⟨r0, r1⟩ | ⟨r0, r1⟩
      ·exact Or.inl ⟨r0, by omega⟩
      ·exact Or.inr ⟨r0, by omega⟩
     ·have e := hK k hk; dsimp only at e; simp only [spec_l10Left.l0]; rw [if_pos (by omega), if_pos (by omega), if_pos (by omega), rdG, e]; simp only [obs]; rw [up64 (by omega)]
    ·refine Or.inr ⟨s, Or.inr ⟨s0, s1⟩, 0, fun k _ => ?_⟩; simp only [spec_l10Left.l0]; rw [if_pos (by omega), if_neg (by omega)])
   (fun s hs => ⟨s, by
    rw [List.take_length] at hs; simp only [cntG] at hs ⊢; rcases hs with ⟨s0, s1⟩ | ⟨s0, s1⟩
    ·exact Or.inl ⟨s0, by omega⟩
    ·exact Or.inr ⟨s0, by omega⟩, 0, fun k _ => by simp only [spec_l10Left.l0]; rw [if_neg (by omega)]⟩)
   y.f4.length 0 (a - 1) (by omega) (by omega) (by
    by_cases c : 0 ≤ a - 1
    ·exact Or.inl ⟨c, by simp [csum]⟩
    ·exact Or.inr ⟨by omega, by omega⟩)
  exact ⟨r, Ev.next (f := fun k => spec_l10Left.l0 k (a - 1) 0 y.f0 y.f1 y.f2 y.f3 y.f4) ⟨0, fun k _ => by simp only [spec_l10Left.f]; rw [w64 (by omega) (by omega)]⟩ he, hr⟩
theorem ev_size : ∀ (n : Nat) (y : S32), LG n y → cntG n y ≤ 1048576 → Ev (fun k => impl_SizeOf.f k y.f0 y.f1 y.f2 y.f3 y.f4) (1 + cntG n y : Int) := by
 intro n; induction n with
 | zero => intro y h; exact h.elim
 | succ n ih =>
  intro y hy hc; have hlen := hy.1; have hle : ∀ (l : List S32) (j : Nat), csum (cntG n) (l.take j) ≤ csum (cntG n) l := by
   intro l; induction l with
   | nil => intro j; simp [csum]
   | cons b l ihl =>
    intro j; cases j with
    | zero => simp [csum]
    | succ j => simp only [List.take_succ_cons, csum]; have := ihl j; omega
  have hcn : y.f4.length + csum (cntG n) y.f4 ≤ 1048576 := by simpa only [cntG] using hc
  have he := loop_is (σ := Int) y.f4.length (fun k s i => impl_SizeOf.l0 k s y.f4 (y.f4.length : Int) i)
   (fun i s => s = 1 + i + csum (cntG n) (y.f4.take i)) (1 + cntG (n + 1) y : Int)
   (fun i s hi hs => by
    have hm := csum_mem (cntG n) y.f4 _ (getD_mem z32 _ _ hi); obtain ⟨K, hK⟩ := ih (y.f4.getD i z32) (hy.2 _ (getD_mem _ _ _ hi)) (by omega); have ht := csum_take (cntG n) z32 y.f4 i hi; have h1 := hle y.f4 i; refine Or.inl ⟨s + (1 + cntG n (y.f4.getD i z32)), by omega, K, fun k hk => ?_⟩; have e := hK k hk; dsimp only at e; simp only [impl_SizeOf.l0]; rw [if_pos (by omega), if_pos (by omega), if_pos (by omega), rdG, e]; simp only [obs]; rw [up64 (by omega), w64 (by omega) (by omega)])
   (fun s hs => ⟨0, fun k _ => by
    rw [List.take_length] at hs; simp only [impl_SizeOf.l0, cntG]; rw [if_neg (by omega)]; congr 1
    omega⟩)
   1 (by simp [csum])
  exact Ev.next (f := fun k => impl_SizeOf.l0 k 1 y.f4 (y.f4.length : Int) 0) ⟨0, fun k _ => by simp only [impl_SizeOf.f]⟩ he
def arN (a : Int) : Int := if 1 ≤ a ∧ a ≤ 7 then 0 else if a = 8 ∨ a = 11 ∨ a = 12 then 1 else if a = 9 ∨ a = 10 then 2 else -1
theorem ar_spec (k : Nat) (a : Int) : spec_ArityOf.f (k + 1) a = some (arN a) := by
 unfold spec_ArityOf.f arN; rw [in_eq]; simp only [obs, spec_ArityOf.j0]; by_cases c : 1 ≤ a ∧ a ≤ 7
 ·rw [if_pos (by simp [c.1, c.2]), if_pos c]
 ·rw [if_neg (by simp; omega), if_neg c]; by_cases c8 : a = 8
  ·subst c8; rfl
  by_cases c11 : a = 11
  ·subst c11; rfl
  by_cases c12 : a = 12
  ·subst c12; rfl
  rw [if_neg c8, if_neg c11, if_neg (by simpa using c12), if_neg (show ¬ (a = 8 ∨ a = 11 ∨ a = 12) by omega)]; by_cases c9 : a = 9
  ·subst c9; rfl
  by_cases c10 : a = 10
  ·subst c10; rfl
  rw [if_neg c9, if_neg c10, if_neg (by omega)]
theorem ar_impl (k : Nat) (a : Int) : impl_ArityOf.f (k + 1) a = some (arN a) := by
 unfold impl_ArityOf.f arN; rw [wi_eq]; simp only [obs, impl_ArityOf.j0]; by_cases c : 1 ≤ a ∧ a ≤ 7
 ·rw [if_pos (by simp [c.1, c.2]), if_pos c]
 ·rw [if_neg (by simp; omega), if_neg c]; by_cases c8 : a = 8
  ·subst c8; rfl
  by_cases c11 : a = 11
  ·subst c11; rfl
  by_cases c12 : a = 12
  ·subst c12; rfl
  rw [if_neg c8, if_neg c11, if_neg (by simpa using c12), if_neg (show ¬ (a = 8 ∨ a = 11 ∨ a = 12) by omega)]; by_cases c9 : a = 9
  ·subst c9; rfl
  by_cases c10 : a = 10
  ·subst c10; rfl
  rw [if_neg c9, if_neg c10, if_neg (by omega)]
def ukB (a : Int) : Bool := decide (a = 2 ∨ a = 3)
def uuB (a : Int) : Bool := decide ((2 ≤ a ∧ a ≤ 7) ∨ a = 11 ∨ a = 12)
def uvB (a : Int) : Bool := decide (5 ≤ a ∧ a ≤ 7)
def fieldB (x : Int) (b : Bool) (n : Int) : Bool := if b = true then decide (0 ≤ x ∧ x < n) else decide (x = 0)
def nodeB (v a k u w len : Int) : Bool := decide (len = arN a) && (fieldB k (ukB a) v && (fieldB u (uuB a) 4 && fieldB w (uvB a) 4))
theorem field_eq (x : Int) (b : Bool) (n : Int) (h0 : 0 ≤ n) (h1 : n ≤ 1000000) : impl_isField.f x b n = some (fieldB x b n) := by
 unfold impl_isField.f fieldB; cases b with
 | false => simp [BEq.beq]
 | true =>
  rw [if_pos rfl, if_pos rfl, wi_eq, w64 (by omega) (by omega)]; simp only [obs]; by_cases c : 0 ≤ x ∧ x < n
  ·rw [if_pos (by simp; omega), decide_eq_true c]
  ·rw [if_neg (by simp; omega), decide_eq_false c]
theorem uk_eq (a : Int) : impl_usesK.f a = some (ukB a) := by
 unfold impl_usesK.f ukB; by_cases c : a = 2
 ·rw [if_pos c]; simp [c]
 ·rw [if_neg c]; simp [c]; rfl
theorem uu_eq (a : Int) : impl_usesU.f a = some (uuB a) := by
 unfold impl_usesU.f uuB impl_isBinder.f; rw [wi_eq]; simp only [obs]; by_cases c : 2 ≤ a ∧ a ≤ 7
 ·rw [if_pos (by simp [c.1, c.2]), decide_eq_true (Or.inl c)]
 ·rw [if_neg (by simp; omega)]; by_cases c2 : a = 11
  ·rw [if_pos c2]; simp [c2]
  ·rw [if_neg c2]; by_cases c3 : a = 12
   ·subst c3; rfl
   ·rw [decide_eq_false (by omega)]; simp [c3]
theorem uv_eq (a : Int) : impl_usesV.f a = some (uvB a) := by
 unfold impl_usesV.f uvB; rw [wi_eq]; simp only [obs]; by_cases c : 5 ≤ a ∧ a ≤ 7
 ·rw [decide_eq_true c, decide_eq_true c.1, decide_eq_true c.2]; rfl
 ·rw [decide_eq_false c]; simp; omega
def WF (v : Int) : Nat → S32 → Bool
 | 0, _ => false
 | n + 1, y => nodeB v y.f0 y.f1 y.f2 y.f3 (y.f4.length : Int) && y.f4.all (WF v n)
theorem ev_bad (v : Int) (n : Nat) : ∀ l : List S32, (∀ z ∈ l, Ev (fun k => impl_Formula_isWell.f k z.f0 z.f1 z.f2 z.f3 z.f4 v) (WF v n z)) → Ev (fun k => impl_Formula_isWell.bad (fun x => impl_Formula_isWell.f k x.f0 x.f1 x.f2 x.f3 x.f4 v) l) (!(l.all (WF v n))) := by
 intro l; induction l with
 | nil => intro _; exact ⟨0, fun k _ => rfl⟩
 | cons z l ih =>
  intro h; obtain ⟨K1, h1⟩ := h z (List.mem_cons_self ..); obtain ⟨K2, h2⟩ := ih (fun x hx => h x (List.mem_cons_of_mem _ hx)); refine ⟨K1 + K2, fun k hk => ?_⟩; have e1 := h1 k (by omega); have e2 := h2 k (by omega); dsimp only at e1 e2; simp only [impl_Formula_isWell.bad]; rw [e1]; simp only [obs, List.all_cons]; cases WF v n z with
  | false => rfl
  | true => rw [if_pos rfl, e2]; rfl
theorem ev_well (v : Int) (v0 : 0 ≤ v) (v1 : v ≤ 1000000) : ∀ (n : Nat) (y : S32), LG n y → Ev (fun k => impl_Formula_isWell.f k y.f0 y.f1 y.f2 y.f3 y.f4 v) (WF v n y) := by
 intro n; induction n with
 | zero => intro y h; exact h.elim
 | succ n ih =>
  intro y hy; have hlen := hy.1; obtain ⟨K, hK⟩ := ev_bad v n y.f4 (fun z hz => ih z (hy.2 z hz)); refine ⟨K + 2, fun k hk => ?_⟩; obtain ⟨m, rfl⟩ : ∃ m, k = m + 2 := ⟨k - 2, by omega⟩; have e := hK (m + 1) (by omega); dsimp only at e; show impl_Formula_isWell.f (m + 1 + 1) _ _ _ _ _ _ = _
  rw [impl_Formula_isWell.f]; simp only [WF, nodeB]; rw [if_pos (by omega), ar_impl]; simp only [obs, uk_eq, uu_eq, uv_eq, field_eq _ _ v v0 v1, field_eq _ _ 4 (by omega) (by omega)]; by_cases c : (y.f4.length : Int) = arN y.f0
  ·rw [if_pos c, decide_eq_true c]; cases fieldB y.f1 (ukB y.f0) v with
   | false => simp
   | true =>
    cases fieldB y.f2 (uuB y.f0) 4 with
    | false => simp
    | true =>
     cases fieldB y.f3 (uvB y.f0) 4 with
     | false => simp
     | true =>
      simp only [if_true]; have e' : impl_Formula_isWell.bad (fun x => impl_Formula_isWell.f (m + 1) x.f0 x.f1 x.f2 x.f3 x.f4 v) y.f4 = some (!(y.f4.all (WF v n))) := e; rw [e']; simp
  ·rw [if_neg c, decide_eq_false c]; rfl
def usN (a : Int) : Int := if a = 2 ∨ a = 3 ∨ a = 4 ∨ a = 11 ∨ a = 12 then 1 else if a = 5 ∨ a = 6 ∨ a = 7 then 2 else 0
theorem us_eq (k : Nat) (a : Int) : spec_l10Uses.f (k + 1) a = some (usN a) := by
 unfold spec_l10Uses.f usN; simp only [spec_l10Uses.j0]; by_cases c2 : a = 2
 ·subst c2; rfl
 by_cases c3 : a = 3
 ·subst c3; rfl
 by_cases c4 : a = 4
 ·subst c4; rfl
 by_cases c11 : a = 11
 ·subst c11; rfl
 by_cases c12 : a = 12
 ·subst c12; rfl
 rw [if_neg c2, if_neg c3, if_neg c4, if_neg c11, if_neg (by simpa using c12), if_neg (show ¬ (a = 2 ∨ a = 3 ∨ a = 4 ∨ a = 11 ∨ a = 12) by omega)]; by_cases c5 : a = 5
 ·subst c5; rfl
 by_cases c6 : a = 6
 ·subst c6; rfl
 by_cases c7 : a = 7
 ·subst c7; rfl
 rw [if_neg c5, if_neg c6, if_neg c7, if_neg (by omega)]
theorem j2_eq (k : Nat) (b : Bool) (a p u w : Int) (l : List S32) : spec_l10Form.j2 (k + 2) b a p u w l = some (!b && (decide (0 ≤ u ∧ u < 4) && (decide (0 ≤ w ∧ w < 4) && decide ((l.length : Int) = arN a)))) := by
 simp only [spec_l10Form.j2, in_eq, ar_spec, obs]; cases b with
 | true => rfl
 | false =>
  rw [if_neg (by decide)]; by_cases c : 0 ≤ u ∧ u < 4
  ·rw [if_pos (by simp; omega), decide_eq_true c]; by_cases d : 0 ≤ w ∧ w < 4
   ·rw [if_pos (by simp; omega), decide_eq_true d]; by_cases f : (l.length : Int) = arN a <;> simp [f]
   ·rw [if_neg (by simp; omega), decide_eq_false d]; rfl
  ·rw [if_neg (by simp; omega), decide_eq_false c]; rfl
theorem node_spec (k : Nat) (v : Int) (v0 : 0 ≤ v) (a p u w : Int) (l : List S32) : ((spec_l10Uses.f (k + 4) a).bind fun t117 => (if a = 2 then (spec_l10Form.j1 (k + 4) v t117 true a p u w l) else (spec_l10Form.j1 (k + 4) v t117 (a == 3) a p u w l))) = some (nodeB v a p u w (l.length : Int)) := by
 rw [us_eq]; simp only [obs]; have e : (if a = 2 then (spec_l10Form.j1 (k + 4) v (usN a) true a p u w l) else (spec_l10Form.j1 (k + 4) v (usN a) (a == 3) a p u w l)) = spec_l10Form.j1 (k + 4) v (usN a) (ukB a) a p u w l := by
  by_cases c : a = 2
  ·rw [if_pos c]; simp [ukB, c]
  ·rw [if_neg c]; congr 1
   by_cases d : a = 3
   ·simp [ukB, d]
   ·simp [ukB, c, d]
 rw [e]; simp only [spec_l10Form.j1, j2_eq]; unfold nodeB fieldB; have hu : uuB a = decide (¬ usN a < 1) := by
  unfold uuB usN; by_cases c1 : a = 2 ∨ a = 3 ∨ a = 4 ∨ a = 11 ∨ a = 12
  ·rw [if_pos c1]; simp; omega
  ·rw [if_neg c1]; by_cases c2 : a = 5 ∨ a = 6 ∨ a = 7
   ·rw [if_pos c2]; simp; omega
   ·rw [if_neg c2]; simp; omega
 have hv : uvB a = decide (¬ usN a < 2) := by
  unfold uvB usN; by_cases c1 : a = 2 ∨ a = 3 ∨ a = 4 ∨ a = 11 ∨ a = 12
  ·rw [if_pos c1]; simp; omega
  ·rw [if_neg c1]; by_cases c2 : a = 5 ∨ a = 6 ∨ a = 7
   ·rw [if_pos c2]; simp; omega
   ·rw [if_neg c2]; simp; omega
 rw [hu, hv]; generalize decide ((l.length : Int) = arN a) = L; have hz : decide (0 ≤ (0 : Int) ∧ (0 : Int) < 4) = true := rfl; cases ukB a with
 | true =>
  by_cases p0 : p < 0
  ·have hp : decide (0 ≤ p ∧ p < v) = false := decide_eq_false (by omega); by_cases c1 : usN a < 1 <;> by_cases c2 : usN a < 2 <;> by_cases u0 : u = 0 <;> by_cases w0 : w = 0 <;> simp [c1, c2, u0, w0, p0, hp]
  ·have hp : decide (0 ≤ p ∧ p < v) = !(decide (v ≤ p)) := by
    by_cases q : v ≤ p
    ·rw [decide_eq_true q, decide_eq_false (by omega)]; rfl
    ·rw [decide_eq_false q, decide_eq_true (by omega)]; rfl
   by_cases c1 : usN a < 1 <;> by_cases c2 : usN a < 2 <;> by_cases u0 : u = 0 <;> by_cases w0 : w = 0 <;> by_cases q : v ≤ p <;> cases L <;> simp [c1, c2, u0, w0, p0, hp, q]
 | false =>
  by_cases p0 : p = 0 <;> by_cases c1 : usN a < 1 <;> by_cases c2 : usN a < 2 <;> by_cases u0 : u = 0 <;> by_cases w0 : w = 0 <;> cases L <;> simp [c1, c2, u0, w0, p0]
theorem all_at (p : S32 → Bool) (l : List S32) : (∀ i, i < l.length → p (l.getD i z32) = true) ↔ l.all p = true := by
 rw [List.all_eq_true]; constructor
 ·intro h x hx; obtain ⟨i, hi, rfl⟩ := List.getElem_of_mem hx; have := h i hi; rwa [get_rep _ _ _ hi] at this
 ·intro h i hi; exact h _ (getD_mem _ _ _ hi)
theorem ev_form (v : Int) (v0 : 0 ≤ v) : ∀ (n : Nat) (y : S32), LG n y → Ev (fun k => spec_l10Form.f k v y.f0 y.f1 y.f2 y.f3 y.f4) (WF v n y) := by
 intro n; induction n with
 | zero => intro y h; exact h.elim
 | succ n ih =>
  intro y hy; have hlen := hy.1; have hc := all_loop y.f4.length (by omega) (fun i => WF v n (y.f4.getD i z32) = true) (fun k i => spec_l10Form.l0 k v i y.f0 y.f1 y.f2 y.f3 y.f4) (nodeB v y.f0 y.f1 y.f2 y.f3 (y.f4.length : Int)) false
   (fun i hi hT => by
    obtain ⟨K, hK⟩ := ih (y.f4.getD i z32) (hy.2 _ (getD_mem _ _ _ hi)); refine ⟨K, fun k hk => ?_⟩; have e := hK k hk; dsimp only at e; simp only [spec_l10Form.l0]; rw [if_pos (by omega), if_pos (by omega), rdG, e]; simp only [obs]; rw [if_pos hT])
   (fun i hi hT => by
    obtain ⟨K, hK⟩ := ih (y.f4.getD i z32) (hy.2 _ (getD_mem _ _ _ hi)); refine ⟨K, fun k hk => ?_⟩; have e := hK k hk; dsimp only at e; simp only [spec_l10Form.l0]; rw [if_pos (by omega), if_pos (by omega), rdG, e]; simp only [obs]; rw [if_neg hT])
   ⟨4, fun k hk => by
    obtain ⟨m, rfl⟩ : ∃ m, k = m + 4 := ⟨k - 4, by omega⟩; rw [spec_l10Form.l0, if_neg (by omega)]; exact node_spec m v v0 _ _ _ _ _⟩
   (WF v (n + 1) y) (by
    simp only [WF]; by_cases c : y.f4.all (WF v n) = true
    ·rw [if_pos ((all_at _ _).mpr c), c, Bool.and_true]
    ·have c' : y.f4.all (WF v n) = false := by simpa using c
     rw [if_neg (fun h => c ((all_at _ _).mp h)), c', Bool.and_false])
  exact Ev.next (f := fun k => spec_l10Form.l0 k v 0 y.f0 y.f1 y.f2 y.f3 y.f4) ⟨0, fun k _ => by rw [spec_l10Form.f]⟩ hc
theorem ev_isFormula (v : Int) (v0 : 0 ≤ v) (v1 : v ≤ 1000000) (n : Nat) (y : S32) (hy : LG n y) (hc : cntG n y ≤ 1048576) : ∃ b, Ev (fun k => spec_IsFormula.f k v y.f0 y.f1 y.f2 y.f3 y.f4) b ∧ Ev (fun k => impl_IsFormula.f k v y.f0 y.f1 y.f2 y.f3 y.f4) b ∧ (b = true → WF v n y = true) := by
 obtain ⟨r, e1, hr⟩ := ev_left n y hy 40 (by omega) (by omega); have e2 := ev_size n y hy hc; obtain ⟨d, e3, e4⟩ := ev_DepthOf n y hy; have e5 := ev_form v v0 n y hy; have e6 := ev_well v v0 v1 n y hy; obtain ⟨K, hK⟩ := Evt.and e1 (Evt.and e2 (Evt.and e3 (Evt.and e4 (Evt.and e5 e6)))); refine ⟨decide (r ≥ 0) && (decide (d ≤ 12) && WF v n y), ⟨K, fun k hk => ?_⟩, ⟨K, fun k hk => ?_⟩, fun h => ?_⟩
 ·obtain ⟨h1, h2, h3, h4, h5, h6⟩ := hK k hk; dsimp only at h1 h2 h3 h4 h5 h6 ⊢; unfold spec_IsFormula.f; rw [h1]; simp only [obs]; by_cases c : r ≥ 0
  ·rw [if_pos c, decide_eq_true c, h3]; simp only [obs]; by_cases c2 : d ≤ 12
   ·rw [if_pos c2, decide_eq_true c2, h5]; rfl
   ·rw [if_neg c2, decide_eq_false c2]; rfl
  ·rw [if_neg c, decide_eq_false c]; rfl
 ·obtain ⟨h1, h2, h3, h4, h5, h6⟩ := hK k hk; dsimp only at h1 h2 h3 h4 h5 h6 ⊢; unfold impl_IsFormula.f; rw [h2]; simp only [obs]; by_cases c : r ≥ 0
  ·rw [if_pos (by omega), decide_eq_true c, h4]; simp only [obs]; by_cases c2 : d ≤ 12
   ·rw [if_pos c2, decide_eq_true c2, h6]; rfl
   ·rw [if_neg c2, decide_eq_false c2]; rfl
  ·rw [if_neg (by omega), decide_eq_false c]; rfl
 ·simp only [Bool.and_eq_true] at h; exact h.2.2
abbrev R3 := S32 × Bool × ByteArray
def zeroF : S32 := ⟨0, 0, 0, 0, []⟩
def dropB (a s : ByteArray) : ByteArray := s.extract a.size s.size
def lgD (u : Int) : ByteArray := (⟨#[117, 118, 119, 122]⟩ : ByteArray).extract u.toNat ((wrap64 (u + 1)) : Int).toNat
def logI (s : ByteArray) : Int × Bool × ByteArray :=
 if pfxB (lgD 0) s = true then (0, true, dropB (lgD 0) s) else if pfxB (lgD 1) s = true then (1, true, dropB (lgD 1) s) else if pfxB (lgD 2) s = true then (2, true, dropB (lgD 2) s) else if pfxB (lgD 3) s = true then (3, true, dropB (lgD 3) s) else (0, false, s)
def varFrom (s : ByteArray) : List ByteArray → Int → Int × Bool × ByteArray
 | [], _ => (0, false, s)
 | n :: r, i => if pfxB (n ++ (⟨#[58]⟩ : ByteArray)) s = true then (i, true, dropB (n ++ (⟨#[58]⟩ : ByteArray)) s) else varFrom s r (i + 1)
def uk (a : Int) : Bool := decide (a = 2 ∨ a = 3)
def uu (a : Int) : Bool := decide ((2 ≤ a ∧ a ≤ 7) ∨ a = 11 ∨ a = 12)
def uv (a : Int) : Bool := decide (5 ≤ a ∧ a ≤ 7)
def bi (a : Int) : Bool := decide (a = 11 ∨ a = 12)
def kI (v : List ByteArray) (s : ByteArray) (a : Int) : Int × Bool × ByteArray := if uk a = true then varFrom s v 0 else (0, true, s)
def uI (p : Bool × ByteArray) (a : Int) : Int × Bool × ByteArray := if (p.1 && uu a) = true then logI p.2 else (0, p.1, p.2)
def vI (p : Bool × ByteArray) (a : Int) : Int × Bool × ByteArray := if (p.1 && uv a) = true then logI p.2 else (0, p.1, p.2)
def endI (R : ByteArray → R3) (a K U V : Int) (p : Bool × ByteArray) : R3 :=
 if (p.1 && bi a) = true then (if pfxB (⟨#[46]⟩ : ByteArray) p.2 = true then (⟨a, K, U, V, [(R (dropB (⟨#[46]⟩ : ByteArray) p.2)).1]⟩, (R (dropB (⟨#[46]⟩ : ByteArray) p.2)).2) else (⟨a, K, U, V, []⟩, false, p.2)) else (⟨a, K, U, V, []⟩, p.1, p.2)
def restI (R : ByteArray → R3) (v : List ByteArray) (s : ByteArray) (a : Int) : R3 :=
 endI R a (kI v s a).1 (uI (kI v s a).2 a).1 (vI (uI (kI v s a).2 a).2 a).1 (vI (uI (kI v s a).2 a).2 a).2
def secondI (R : ByteArray → R3) (a : Int) (x : S32) (s : ByteArray) : R3 :=
 if (R s).2.1 = true then (⟨a, 0, 0, 0, [x, (R s).1]⟩, pfxB (⟨#[41]⟩ : ByteArray) (R s).2.2, if pfxB (⟨#[41]⟩ : ByteArray) (R s).2.2 = true then dropB (⟨#[41]⟩ : ByteArray) (R s).2.2 else (R s).2.2) else (⟨a, 0, 0, 0, [x, (R s).1]⟩, false, (R s).2.2)
def pairI (R : ByteArray → R3) (s : ByteArray) : R3 :=
 if (R s).2.1 = true then (if pfxB (⟨#[38]⟩ : ByteArray) (R s).2.2 = true then secondI R 9 (R s).1 (dropB (⟨#[38]⟩ : ByteArray) (R s).2.2) else if pfxB (⟨#[124]⟩ : ByteArray) (R s).2.2 = true then secondI R 10 (R s).1 (dropB (⟨#[124]⟩ : ByteArray) (R s).2.2) else (zeroF, false, (R s).2.2)) else (zeroF, false, (R s).2.2)
def RI (v : List ByteArray) : Nat → ByteArray → R3
 | 0, s => (zeroF, false, s)
 | n + 1, s =>
  if pfxB (⟨#[33]⟩ : ByteArray) s = true then (⟨8, 0, 0, 0, [(RI v n (dropB (⟨#[33]⟩ : ByteArray) s)).1]⟩, (RI v n (dropB (⟨#[33]⟩ : ByteArray) s)).2)
  else if pfxB (⟨#[40]⟩ : ByteArray) s = true then pairI (RI v n) (dropB (⟨#[40]⟩ : ByteArray) s)
  else if kindOf s = 0 then (zeroF, false, s)
  else restI (RI v n) v (dropB (headB (kindOf s)) s) (kindOf s)
def enc (r : R3) (d : Int) : Int × Int × Int × Int × List S32 × Bool × ByteArray × Int := (r.1.f0, r.1.f1, r.1.f2, r.1.f3, r.1.f4, r.2.1, r.2.2, d)
theorem cutN (s0 : List ByteArray) (s : ByteArray) (d : Int) (a : ByteArray) (h : pfxB a s = false) : impl_formulaReader_cut.f s0 s d a = some (false, s, d) := by rw [cut_is, h]; rfl
theorem cutY (s0 : List ByteArray) (s : ByteArray) (d : Int) (a : ByteArray) (h : pfxB a s = true) : impl_formulaReader_cut.f s0 s d a = some (true, dropB a s, d) := by rw [cut_is, h]; rfl
theorem lgD_eq (u : Int) (h0 : 0 ≤ u) (h1 : u < 4) : impl_logicName.f u = some (lgD u) := by
 have e : wrap64 (u + 1) = u + 1 := w64 (by omega) (by omega); unfold impl_logicName.f lgD; rw [e, if_pos h0, if_pos (by omega), if_pos (by omega)]
theorem log_step (v : List ByteArray) (s : ByteArray) (d u : Int) (k : Nat) (h0 : 0 ≤ u) (h1 : u < 4) : impl_formulaReader_logic.l0 (k + 1) u v s d = if pfxB (lgD u) s = true then some (u, true, dropB (lgD u) s, d) else impl_formulaReader_logic.l0 k (u + 1) v s d := by
 simp only [impl_formulaReader_logic.l0]; rw [if_pos h1, lgD_eq u h0 h1, obs]; cases h : pfxB (lgD u) s with
 | true => rw [cutY _ _ _ _ h, obs, if_pos rfl, if_pos rfl]
 | false => rw [cutN _ _ _ _ h, obs, if_neg (by simp), if_neg (by simp), w64 (by omega) (by omega)]
theorem ev_logic (v : List ByteArray) (s : ByteArray) (d : Int) : Ev (fun k => impl_formulaReader_logic.f k v s d) ((logI s).1, (logI s).2.1, (logI s).2.2, d) := by
 refine ⟨5, fun k hk => ?_⟩; obtain ⟨k, rfl⟩ : ∃ m, k = m + 5 := ⟨k - 5, by omega⟩; show impl_formulaReader_logic.l0 (k + 5) 0 v s d = _
 rw [log_step v s d 0 (k + 4) (by omega) (by omega)]; unfold logI; split
 ·rfl
 rw [show (0 : Int) + 1 = 1 from rfl, log_step v s d 1 (k + 3) (by omega) (by omega)]; split
 ·rfl
 rw [show (1 : Int) + 1 = 2 from rfl, log_step v s d 2 (k + 2) (by omega) (by omega)]; split
 ·rfl
 rw [show (2 : Int) + 1 = 3 from rfl, log_step v s d 3 (k + 1) (by omega) (by omega)]; split
 ·rfl
 rw [show (3 : Int) + 1 = 4 from rfl]; simp only [impl_formulaReader_logic.l0]; rw [if_neg (by omega)]
theorem ev_var (v : List ByteArray) (s : ByteArray) (d : Int) (hl : v.length ≤ 1048576) (hs : ∀ x ∈ v, x.size ≤ 1048576) : ∀ (m i : Nat), i + m = v.length → ∀ k, m < k → impl_formulaReader_variable.l0 k v (v.length : Int) (i : Int) v s d = some ((varFrom s (v.drop i) (i : Int)).1, (varFrom s (v.drop i) (i : Int)).2.1, (varFrom s (v.drop i) (i : Int)).2.2, d) := by
 intro m; induction m with
 | zero =>
  intro i hi k hk; obtain ⟨k, rfl⟩ : ∃ q, k = q + 1 := ⟨k - 1, by omega⟩; simp only [impl_formulaReader_variable.l0]; rw [if_neg (by omega), List.drop_eq_nil_of_le (by omega)]; rfl
 | succ m ih =>
  intro i hi k hk; obtain ⟨k, rfl⟩ : ∃ q, k = q + 1 := ⟨k - 1, by omega⟩; have hlt : i < v.length := by omega
  simp only [impl_formulaReader_variable.l0]; rw [if_pos (by omega), if_pos (by omega), if_pos (by omega), rdOf_at _ _ _ hlt, if_pos (by have := hs v[i] (List.getElem_mem hlt); omega)]; rw [List.drop_eq_getElem_cons hlt]; simp only [varFrom]; cases h : pfxB (v[i] ++ (⟨#[58]⟩ : ByteArray)) s with
  | true => rw [cutY _ _ _ _ h, obs, if_pos rfl, if_pos rfl]
  | false =>
   rw [cutN _ _ _ _ h, obs, if_neg (by simp), if_neg (by simp), up64 (by omega), ih (i + 1) (by omega) k (by omega)]; rfl
theorem ev_variable (v : List ByteArray) (s : ByteArray) (d : Int) (hl : v.length ≤ 1048576) (hs : ∀ x ∈ v, x.size ≤ 1048576) : Ev (fun k => impl_formulaReader_variable.f k v s d) ((varFrom s v 0).1, (varFrom s v 0).2.1, (varFrom s v 0).2.2, d) :=
 ⟨v.length + 1, fun k hk => ev_var v s d hl hs v.length 0 (by omega) k (by omega)⟩
theorem ukI (a : Int) : impl_usesK.f a = some (uk a) := by
 unfold impl_usesK.f uk; by_cases h : a = 2 <;> by_cases h' : a = 3 <;> simp [h, h']
theorem biI (a : Int) : impl_isBinder.f a = some (bi a) := by
 unfold impl_isBinder.f bi; by_cases h : a = 11 <;> by_cases h' : a = 12 <;> simp [h, h']
theorem wiI (a b c : Int) : impl_within.f a b c = some (decide (b ≤ a ∧ a ≤ c)) := by
 unfold impl_within.f; by_cases h : b ≤ a <;> by_cases h' : a ≤ c <;> simp [h, h'] <;> omega
theorem uuI (a : Int) : impl_usesU.f a = some (uu a) := by
 unfold impl_usesU.f uu; rw [wiI, obs, biI, obs]; unfold bi; by_cases h : 2 ≤ a ∧ a ≤ 7 <;> by_cases h' : a = 11 ∨ a = 12 <;> simp [h, h']
theorem uvI (a : Int) : impl_usesV.f a = some (uv a) := by
 unfold impl_usesV.f uv; rw [wiI, obs]
theorem etaS (y : S32) : (⟨y.f0, y.f1, y.f2, y.f3, y.f4⟩ : S32) = y := by cases y; rfl
theorem Ev.now' {α : Type} {r r' : α} (h : r = r') : Ev (fun _ => some r) r' := h ▸ Ev.now r
theorem ev_j5 (R : ByteArray → R3) (v : List ByteArray) (d a K U V : Int) (ok : Bool) (s : ByteArray) (hR : ∀ s, Ev (fun k => impl_formulaReader_read.f k v s d) (enc (R s) d)) (b : Bool) :
  Ev (fun k => impl_formulaReader_rest.j5 k ok (!b) v s d a K U V) (enc (if b = true then (if pfxB (⟨#[46]⟩ : ByteArray) s = true then (⟨a, K, U, V, [(R (dropB (⟨#[46]⟩ : ByteArray) s)).1]⟩, (R (dropB (⟨#[46]⟩ : ByteArray) s)).2) else (⟨a, K, U, V, []⟩, false, s)) else (⟨a, K, U, V, []⟩, ok, s)) d) := by
 refine Ev.step (fun k => by rw [impl_formulaReader_rest.j5]) ?_; cases b with
 | false =>
  simp only [Bool.not_false, if_true, Bool.false_eq_true, if_false]; exact Ev.now _
 | true =>
  simp only [Bool.not_true, Bool.false_eq_true, if_false, if_true]; cases h : pfxB (⟨#[46]⟩ : ByteArray) s with
  | false =>
   refine Ev.congr (fun k => by rw [cutN _ _ _ _ h, obs, if_neg (by simp)]) ?_; simp only [Bool.false_eq_true, if_false]; exact Ev.now _
  | true =>
   refine Ev.congr (fun k => by rw [cutY _ _ _ _ h, obs, if_pos rfl]) ?_; simp only [if_true]; exact Ev.bind (hR _) (Ev.now' (by simp only [enc, etaS]))
theorem ev_j4 (R : ByteArray → R3) (v : List ByteArray) (d a K U V : Int) (p : Bool × ByteArray) (hR : ∀ s, Ev (fun k => impl_formulaReader_read.f k v s d) (enc (R s) d)) : Ev (fun k => impl_formulaReader_rest.j4 k a p.1 v p.2 d a K U V) (enc (endI R a K U V p) d) := by
 obtain ⟨ok, s⟩ := p; refine Ev.step (fun k => by rw [impl_formulaReader_rest.j4]) ?_; cases ok with
 | false =>
  simp only [Bool.false_eq_true, if_false]; have h := ev_j5 R v d a K U V false s hR false; simpa [endI] using h
 | true =>
  simp only [if_true]; refine Ev.congr (fun k => by rw [biI, obs]) ?_; have h := ev_j5 R v d a K U V true s hR (bi a); simpa [endI] using h
theorem ev_j3 (R : ByteArray → R3) (v : List ByteArray) (d a K U : Int) (p : Bool × ByteArray) (hR : ∀ s, Ev (fun k => impl_formulaReader_read.f k v s d) (enc (R s) d)) : Ev (fun k => impl_formulaReader_rest.j2 k a p.1 v p.2 d a K U 0) (enc (endI R a K U (vI p a).1 (vI p a).2) d) := by
 obtain ⟨ok, s⟩ := p; refine Ev.step (fun k => by rw [impl_formulaReader_rest.j2]) ?_; have g : ∀ b : Bool, Ev (fun k => impl_formulaReader_rest.j3 k a ok b v s d a K U 0) (enc (if b = true then endI R a K U (logI s).1 (logI s).2 else endI R a K U 0 (ok, s)) d) := by
  intro b; refine Ev.step (fun k => by rw [impl_formulaReader_rest.j3]) ?_; cases b with
  | false => simp only [Bool.false_eq_true, if_false]; exact ev_j4 R v d a K U 0 (ok, s) hR
  | true => simp only [if_true]; exact Ev.bind (ev_logic v s d) (ev_j4 R v d a K U (logI s).1 (logI s).2 hR)
 cases ok with
 | false =>
  simp only [Bool.false_eq_true, if_false]; have h := g false; simpa [vI] using h
 | true =>
  simp only [if_true]; refine Ev.congr (fun k => by rw [uvI, obs]) ?_; have h := g (uv a); unfold vI; cases hu : uv a <;> simpa [hu] using h
theorem ev_j1 (R : ByteArray → R3) (v : List ByteArray) (d a K : Int) (p : Bool × ByteArray) (hR : ∀ s, Ev (fun k => impl_formulaReader_read.f k v s d) (enc (R s) d)) : Ev (fun k => impl_formulaReader_rest.j0 k a p.1 v p.2 d a K 0 0) (enc (endI R a K (uI p a).1 (vI (uI p a).2 a).1 (vI (uI p a).2 a).2) d) := by
 obtain ⟨ok, s⟩ := p; refine Ev.step (fun k => by rw [impl_formulaReader_rest.j0]) ?_; have g : ∀ b : Bool, Ev (fun k => impl_formulaReader_rest.j1 k a ok b v s d a K 0 0) (enc (if b = true then endI R a K (logI s).1 (vI (logI s).2 a).1 (vI (logI s).2 a).2 else endI R a K 0 (vI (ok, s) a).1 (vI (ok, s) a).2) d) := by
  intro b; refine Ev.step (fun k => by rw [impl_formulaReader_rest.j1]) ?_; cases b with
  | false => simp only [Bool.false_eq_true, if_false]; exact ev_j3 R v d a K 0 (ok, s) hR
  | true => simp only [if_true]; exact Ev.bind (ev_logic v s d) (ev_j3 R v d a K (logI s).1 (logI s).2 hR)
 cases ok with
 | false =>
  simp only [Bool.false_eq_true, if_false]; have h := g false; simpa [uI] using h
 | true =>
  simp only [if_true]; refine Ev.congr (fun k => by rw [uuI, obs]) ?_; have h := g (uu a); unfold uI; cases hu : uu a <;> simpa [hu] using h
theorem ev_rest (R : ByteArray → R3) (v : List ByteArray) (s : ByteArray) (d a : Int) (hl : v.length ≤ 1048576) (hs : ∀ x ∈ v, x.size ≤ 1048576) (hR : ∀ s, Ev (fun k => impl_formulaReader_read.f k v s d) (enc (R s) d)) : Ev (fun k => impl_formulaReader_rest.f k v s d a) (enc (restI R v s a) d) := by
 refine Ev.step (fun k => by rw [impl_formulaReader_rest.f]) ?_; refine Ev.congr (fun k => by rw [ukI, obs]) ?_; unfold restI kI; cases hu : uk a with
 | false => simp only [Bool.false_eq_true, if_false]; exact ev_j1 R v d a 0 (true, s) hR
 | true => simp only [if_true]; exact Ev.bind (ev_variable v s d hl hs) (ev_j1 R v d a (varFrom s v 0).1 (varFrom s v 0).2 hR)
theorem ev_second (R : ByteArray → R3) (v : List ByteArray) (d a : Int) (x : S32) (hR : ∀ s, Ev (fun k => impl_formulaReader_read.f k v s d) (enc (R s) d)) (s : ByteArray) :
  Ev (fun k => (impl_formulaReader_read.f k v s d).bind fun t => ((some ([(⟨x.f0, x.f1, x.f2, x.f3, x.f4⟩ : S32), (⟨t.1, t.2.1, t.2.2.1, t.2.2.2.1, t.2.2.2.2.1⟩ : S32)] : List S32)).bind fun y => (if t.2.2.2.2.2.1 = true then ((impl_formulaReader_cut.f v t.2.2.2.2.2.2.1 t.2.2.2.2.2.2.2 (⟨#[41]⟩ : ByteArray)).bind fun b => (some (a, (0 : Int), (0 : Int), (0 : Int), y, b.1, b.2.1, b.2.2))) else (some (a, 0, 0, 0, y, false, t.2.2.2.2.2.2.1, t.2.2.2.2.2.2.2))))) (enc (secondI R a x s) d) := by
 refine Ev.bind (hR s) ?_; refine Ev.congr (fun k => Option.bind_some _ _) ?_; simp only [enc, etaS]; unfold secondI; cases h : (R s).2.1 with
 | false => simp only [Bool.false_eq_true, if_false]; exact Ev.now' rfl
 | true =>
  simp only [if_true]; refine Ev.congr (fun k => by rw [cut_is, obs]) ?_; exact Ev.now' rfl
theorem ev_pair (R : ByteArray → R3) (v : List ByteArray) (s : ByteArray) (d : Int) (hR : ∀ s, Ev (fun k => impl_formulaReader_read.f k v s d) (enc (R s) d)) : Ev (fun k => impl_formulaReader_pair.f k v s d) (enc (pairI R s) d) := by
 refine Ev.step (fun k => by rw [impl_formulaReader_pair.f]) ?_; refine Ev.bind (hR s) ?_; show Ev (fun k => if (R s).2.1 = true then ((impl_formulaReader_cut.f v (R s).2.2 d (⟨#[38]⟩ : ByteArray)).bind fun b => (impl_formulaReader_pair.j0 k (R s).2.1 10 b.1 v b.2.1 b.2.2 (R s).1.f0 (R s).1.f1 (R s).1.f2 (R s).1.f3 (R s).1.f4)) else (impl_formulaReader_pair.j0 k (R s).2.1 10 false v (R s).2.2 d (R s).1.f0 (R s).1.f1 (R s).1.f2 (R s).1.f3 (R s).1.f4)) _
 unfold pairI; cases h : (R s).2.1 with
 | false =>
  simp only [Bool.false_eq_true, if_false]; refine Ev.step (fun k => by rw [impl_formulaReader_pair.j0]) ?_; simp only [Bool.false_eq_true, if_false]; refine Ev.step (fun k => by rw [impl_formulaReader_pair.j1]) ?_; simp only [if_true]; exact Ev.now' rfl
 | true =>
  simp only [if_true]; refine Ev.congr (fun k => by rw [cut_is, obs]) ?_; refine Ev.step (fun k => by rw [impl_formulaReader_pair.j0]) ?_; cases h2 : pfxB (⟨#[38]⟩ : ByteArray) (R s).2.2 with
  | true =>
   simp only [if_true]; exact ev_second R v d 9 (R s).1 hR _
  | false =>
   simp only [Bool.false_eq_true, if_false, if_true]; refine Ev.congr (fun k => by rw [cut_is, obs]) ?_; refine Ev.step (fun k => by rw [impl_formulaReader_pair.j1]) ?_; cases h3 : pfxB (⟨#[124]⟩ : ByteArray) (R s).2.2 with
   | true =>
    simp only [Bool.not_true, Bool.false_eq_true, if_false, if_true]; exact ev_second R v d 10 (R s).1 hR _
   | false =>
    simp only [Bool.not_false, Bool.false_eq_true, if_false, if_true]; exact Ev.now' rfl
theorem ev_read (v : List ByteArray) (hl : v.length ≤ 1048576) (hs : ∀ x ∈ v, x.size ≤ 1048576) : ∀ (n : Nat), n ≤ 12 → ∀ s, Ev (fun k => impl_formulaReader_read.f k v s (12 - n : Int)) (enc (RI v n s) (12 - n : Int)) := by
 intro n; induction n with
 | zero =>
  intro _ s; refine Ev.step (fun k => by rw [impl_formulaReader_read.f]) ?_; have e : wrap64 ((12 - (0 : Nat) : Int) + 1) = 13 := by unfold wrap64; omega
  rw [e]; refine Ev.congr (fun k => if_pos (by omega)) ?_; refine Ev.now' ?_; have e2 : wrap64 ((13 : Int) - 1) = 12 := by unfold wrap64; omega
  rw [e2]; rfl
 | succ n ih =>
  intro hn s; have ih := ih (by omega); refine Ev.step (fun k => by rw [impl_formulaReader_read.f]) ?_; have e : wrap64 ((12 - (n + 1 : Nat) : Int) + 1) = 12 - n := by unfold wrap64; omega
  have e2 : wrap64 ((12 - n : Int) - 1) = 12 - (n + 1 : Nat) := by unfold wrap64; omega
  rw [e]; refine Ev.congr (fun k => if_neg (by omega)) ?_; unfold RI; cases h1 : pfxB (⟨#[33]⟩ : ByteArray) s with
  | true =>
   simp only [if_true]; refine Ev.bind (ih _) (Ev.now' ?_); simp only [enc, etaS]; rw [e2]; rfl
  | false =>
   simp only [Bool.false_eq_true, if_false]; cases h2 : pfxB (⟨#[40]⟩ : ByteArray) s with
   | true =>
    simp only [if_true]; refine Ev.bind (ev_pair (RI v n) v _ _ ih) (Ev.now' ?_); simp only [enc]; rw [e2]; rfl
   | false =>
    simp only [Bool.false_eq_true, if_false]; by_cases h3 : kindOf s = 0
    ·rw [if_pos h3]; refine Ev.congr (fun k => if_pos h3) ?_; rw [e2]; exact Ev.now' rfl
    ·rw [if_neg h3]; refine Ev.congr (fun k => if_neg h3) ?_; refine Ev.bind (ev_rest (RI v n) v _ _ _ hl hs ih) (Ev.now' ?_); simp only [enc]; rw [e2]; rfl
abbrev TS := S32 × Nat × Bool
def tk (s : ByteArray) (p : Nat) (bad : Bool) (a : ByteArray) : Bool × Nat := if bad = true then (false, p) else if p + a.size ≤ s.size ∧ (s.extract p (p + a.size)).toList = a.toList then (true, p + a.size) else (false, p)
def mu (s : ByteArray) (p : Nat) (bad : Bool) (a : ByteArray) : Nat × Bool := if bad = true then (p, true) else ((tk s p false a).2, !(tk s p false a).1)
def vrS (s : ByteArray) (p : Nat) (bad : Bool) : Int × Nat × Bool :=
 if (tk s p bad (lgD 0)).1 = true then (0, (tk s p bad (lgD 0)).2, bad) else if (tk s p bad (lgD 1)).1 = true then (1, (tk s p bad (lgD 1)).2, bad) else if (tk s p bad (lgD 2)).1 = true then (2, (tk s p bad (lgD 2)).2, bad) else if (tk s p bad (lgD 3)).1 = true then (3, (tk s p bad (lgD 3)).2, bad) else (0, p, true)
def nmEnd (s : ByteArray) : Nat → Nat → Nat
 | 0, p => p
 | m + 1, p => if 97 ≤ bt s (p : Int) ∧ bt s (p : Int) ≤ 122 then nmEnd s m (p + 1) else p
def nmS (v : List ByteArray) (s : ByteArray) (p : Nat) (bad : Bool) : Int × Nat × Bool :=
 (idx v (s.extract p (nmEnd s (s.size - p) p)), mu s (nmEnd s (s.size - p) p) (bad || decide (idx v (s.extract p (nmEnd s (s.size - p) p)) < 0)) (⟨#[58]⟩ : ByteArray))
def nvS (v : List ByteArray) (s : ByteArray) (a : Int) (p : Nat) : TS := (⟨a, (nmS v s p false).1, (vrS s (nmS v s p false).2.1 (nmS v s p false).2.2).1, 0, []⟩, (vrS s (nmS v s p false).2.1 (nmS v s p false).2.2).2)
def prS (s : ByteArray) (a : Int) (p : Nat) : TS := (⟨a, 0, (vrS s p false).1, (vrS s (vrS s p false).2.1 (vrS s p false).2.2).1, []⟩, (vrS s (vrS s p false).2.1 (vrS s p false).2.2).2)
def bdS (s : ByteArray) (R : Nat → Bool → TS) (a : Int) (p : Nat) : TS :=
 (⟨a, 0, (vrS s p false).1, 0, [(R (mu s (vrS s p false).2.1 (vrS s p false).2.2 (⟨#[46]⟩ : ByteArray)).1 (mu s (vrS s p false).2.1 (vrS s p false).2.2 (⟨#[46]⟩ : ByteArray)).2).1]⟩, (R (mu s (vrS s p false).2.1 (vrS s p false).2.2 (⟨#[46]⟩ : ByteArray)).1 (mu s (vrS s p false).2.1 (vrS s p false).2.2 (⟨#[46]⟩ : ByteArray)).2).2)
def t2S (s : ByteArray) (R : Nat → Bool → TS) (a : Int) (x : S32) (q : Nat × Bool) : TS :=
 if q.2 = true then (⟨a, 0, 0, 0, []⟩, q) else (⟨a, 0, 0, 0, [x, (R q.1 false).1]⟩, mu s (R q.1 false).2.1 (R q.1 false).2.2 (⟨#[41]⟩ : ByteArray))
def twS (s : ByteArray) (R : Nat → Bool → TS) (p : Nat) : TS :=
 if (tk s (R p false).2.1 (R p false).2.2 (⟨#[38]⟩ : ByteArray)).1 = true then t2S s R 9 (R p false).1 ((tk s (R p false).2.1 (R p false).2.2 (⟨#[38]⟩ : ByteArray)).2, (R p false).2.2)
 else t2S s R 10 (R p false).1 (mu s (R p false).2.1 (R p false).2.2 (⟨#[124]⟩ : ByteArray))
def aS (v : List ByteArray) (s : ByteArray) : Nat → Nat → Bool → TS
 | 0, p, _ => (zeroF, p, true)
 | n + 1, p, bad =>
  if bad = true then (zeroF, p, true)
  else if (tk s p false (headB 1)).1 = true then (⟨1, 0, 0, 0, []⟩, (tk s p false (headB 1)).2, false)
  else if (tk s p false (headB 2)).1 = true then nvS v s 2 (tk s p false (headB 2)).2
  else if (tk s p false (headB 3)).1 = true then nvS v s 3 (tk s p false (headB 3)).2
  else if (tk s p false (headB 4)).1 = true then (⟨4, 0, (vrS s (tk s p false (headB 4)).2 false).1, 0, []⟩, (vrS s (tk s p false (headB 4)).2 false).2)
  else if (tk s p false (headB 5)).1 = true then prS s 5 (tk s p false (headB 5)).2
  else if (tk s p false (headB 6)).1 = true then prS s 6 (tk s p false (headB 6)).2
  else if (tk s p false (headB 7)).1 = true then prS s 7 (tk s p false (headB 7)).2
  else if (tk s p false (⟨#[33]⟩ : ByteArray)).1 = true then (⟨8, 0, 0, 0, [(aS v s n (tk s p false (⟨#[33]⟩ : ByteArray)).2 false).1]⟩, (aS v s n (tk s p false (⟨#[33]⟩ : ByteArray)).2 false).2)
  else if (tk s p false (headB 11)).1 = true then bdS s (aS v s n) 11 (tk s p false (headB 11)).2
  else if (tk s p false (headB 12)).1 = true then bdS s (aS v s n) 12 (tk s p false (headB 12)).2
  else if (mu s p false (⟨#[40]⟩ : ByteArray)).2 = true then (zeroF, mu s p false (⟨#[40]⟩ : ByteArray))
  else twS s (aS v s n) (mu s p false (⟨#[40]⟩ : ByteArray)).1
def encS (r : TS) (s : ByteArray) : Int × Int × Int × Int × List S32 × ByteArray × Int × Bool := (r.1.f0, r.1.f1, r.1.f2, r.1.f3, r.1.f4, s, (r.2.1 : Int), r.2.2)
theorem tk_le (s : ByteArray) (p : Nat) (bad : Bool) (a : ByteArray) (h : p ≤ s.size) : (tk s p bad a).2 ≤ s.size := by
 unfold tk; split
 ·exact h
 split
 ·rename_i c; exact c.1
 ·exact h
theorem mu_le (s : ByteArray) (p : Nat) (bad : Bool) (a : ByteArray) (h : p ≤ s.size) : (mu s p bad a).1 ≤ s.size := by
 unfold mu; split
 ·exact h
 ·exact tk_le s p false a h
theorem vrS_le (s : ByteArray) (p : Nat) (bad : Bool) (h : p ≤ s.size) : (vrS s p bad).2.1 ≤ s.size := by
 unfold vrS; repeat' split
 all_goals first | exact tk_le _ _ _ _ h | exact h
theorem take_is (v : List ByteArray) (s : ByteArray) (p : Nat) (bad : Bool) (a : ByteArray) (h : p ≤ s.size) (hs : s.size ≤ 1099511627776) (ha : a.size ≤ 1099511627776) : spec_l11Take.f v s (p : Int) bad a = some ((tk s p bad a).1, s, ((tk s p bad a).2 : Int), bad) := by
 unfold spec_l11Take.f tk; cases bad with
 | true => rfl
 | false =>
  simp only [Bool.false_eq_true, if_false]; have e : wrap64 ((p : Int) + (a.size : Int)) = ((p + a.size : Nat) : Int) := by unfold wrap64; omega
  rw [e]; by_cases c : p + a.size ≤ s.size
  ·rw [if_neg (by omega), if_pos (by omega), if_pos (by omega), if_pos (by omega)]; rw [Int.toNat_natCast, Int.toNat_natCast]; by_cases c2 : (s.extract p (p + a.size)).toList = a.toList
   ·rw [if_pos c2, if_pos ⟨c, c2⟩]
   ·rw [if_neg c2, if_neg (fun z => c2 z.2)]
  ·rw [if_pos (by omega), if_neg (fun z => c z.1)]
theorem must_is (v : List ByteArray) (s : ByteArray) (p : Nat) (bad : Bool) (a : ByteArray) (h : p ≤ s.size) (hs : s.size ≤ 1099511627776) (ha : a.size ≤ 1099511627776) : spec_l11Must.f v s (p : Int) bad a = some (s, ((mu s p bad a).1 : Int), (mu s p bad a).2) := by
 unfold spec_l11Must.f mu; cases bad with
 | true => rfl
 | false =>
  simp only [Bool.false_eq_true, if_false]; rw [take_is v s p false a h hs ha, obs]
theorem lgS_eq (u : Int) (h0 : 0 ≤ u) (h1 : u < 4) : spec_l11Logic.f u = some (lgD u) := by
 have e : wrap64 (u + 1) = u + 1 := w64 (by omega) (by omega); unfold spec_l11Logic.f lgD; rw [e, if_pos h0, if_pos (by omega), if_pos (by omega)]
theorem lgD_size (u : Int) : (lgD u).size ≤ 4 := by
 unfold lgD; rw [ByteArray.size_extract]; show min _ 4 - _ ≤ 4
 omega
theorem var_step (v : List ByteArray) (s : ByteArray) (p : Nat) (bad : Bool) (u : Int) (k : Nat) (h : p ≤ s.size) (hs : s.size ≤ 1099511627776) (h0 : 0 ≤ u) (h1 : u < 4) : spec_l11Var.l0 (k + 1) u v s (p : Int) bad = if (tk s p bad (lgD u)).1 = true then some (u, s, ((tk s p bad (lgD u)).2 : Int), bad) else spec_l11Var.l0 k (u + 1) v s (p : Int) bad := by
 simp only [spec_l11Var.l0]; rw [if_pos h1, lgS_eq u h0 h1, obs, take_is v s p bad _ h hs (by have := lgD_size u; omega), obs]; split
 ·rfl
 ·rename_i c
  have e : (tk s p bad (lgD u)).2 = p := by
   unfold tk at c ⊢; split
   ·rfl
   split
   ·rename_i c1 c2; rw [if_neg c1, if_pos c2] at c; exact absurd rfl c
   ·rfl
  rw [e, w64 (by omega) (by omega)]
theorem ev_vr (v : List ByteArray) (s : ByteArray) (p : Nat) (bad : Bool) (h : p ≤ s.size) (hs : s.size ≤ 1099511627776) : Ev (fun k => spec_l11Var.f k v s (p : Int) bad) ((vrS s p bad).1, s, ((vrS s p bad).2.1 : Int), (vrS s p bad).2.2) := by
 refine ⟨5, fun k hk => ?_⟩; obtain ⟨k, rfl⟩ : ∃ m, k = m + 5 := ⟨k - 5, by omega⟩; show spec_l11Var.l0 (k + 5) 0 v s (p : Int) bad = _
 rw [var_step v s p bad 0 (k + 4) h hs (by omega) (by omega)]; unfold vrS; split
 ·rfl
 rw [show (0 : Int) + 1 = 1 from rfl, var_step v s p bad 1 (k + 3) h hs (by omega) (by omega)]; split
 ·rfl
 rw [show (1 : Int) + 1 = 2 from rfl, var_step v s p bad 2 (k + 2) h hs (by omega) (by omega)]; split
 ·rfl
 rw [show (2 : Int) + 1 = 3 from rfl, var_step v s p bad 3 (k + 1) h hs (by omega) (by omega)]; split
 ·rfl
 rw [show (3 : Int) + 1 = 4 from rfl]; simp only [spec_l11Var.l0]; rw [if_neg (by omega)]
theorem nmEnd_le (s : ByteArray) : ∀ (m p : Nat), p + m ≤ s.size → nmEnd s m p ≤ s.size ∧ p ≤ nmEnd s m p := by
 intro m; induction m with
 | zero => intro p h; simp only [nmEnd]; omega
 | succ m ih =>
  intro p h; simp only [nmEnd]; split
  ·have := ih (p + 1) (by omega); omega
  ·omega
theorem ev_fin (v : List ByteArray) (s : ByteArray) (f e : Nat) (bad : Bool) (hv : v.length ≤ 1048576) (h1 : f ≤ e) (h2 : e ≤ s.size) (hs : s.size ≤ 1099511627776) :
  Ev (fun k => if 0 ≤ (f : Int) then (if (f : Int) ≤ (e : Int) then (if (e : Int) ≤ (s.size : Int) then ((spec_IndexOf.f k v (s.extract (f : Int).toNat (e : Int).toNat)).bind fun t => (if bad = true then ((spec_l11Must.f v s (e : Int) true (⟨#[58]⟩ : ByteArray)).bind fun b => (some (t, b.1, b.2.1, b.2.2))) else ((spec_l11Must.f v s (e : Int) (decide (t < 0)) (⟨#[58]⟩ : ByteArray)).bind fun b => (some (t, b.1, b.2.1, b.2.2))))) else (none)) else (none)) else (none))
   (idx v (s.extract f e), s, ((mu s e (bad || decide (idx v (s.extract f e) < 0)) (⟨#[58]⟩ : ByteArray)).1 : Int), (mu s e (bad || decide (idx v (s.extract f e) < 0)) (⟨#[58]⟩ : ByteArray)).2) := by
 refine Ev.congr (fun k => by rw [if_pos (by omega), if_pos (by omega), if_pos (by omega), Int.toNat_natCast, Int.toNat_natCast]) ?_; refine Ev.bind (ev_specIndexOf v _ (by omega)) ?_; have hz : (⟨#[58]⟩ : ByteArray).size ≤ 1099511627776 := by decide
 cases bad with
 | true =>
  simp only [if_true, Bool.true_or]; refine Ev.congr (fun k => by rw [must_is v s e true _ h2 hs hz, obs]) (Ev.now' rfl)
 | false =>
  simp only [Bool.false_eq_true, if_false, Bool.false_or]; refine Ev.congr (fun k => by rw [must_is v s e _ _ h2 hs hz, obs]) (Ev.now' rfl)
theorem ev_nm (v : List ByteArray) (s : ByteArray) (f : Nat) (bad : Bool) (hv : v.length ≤ 1048576) (hs : s.size ≤ 1099511627776) : ∀ (m p : Nat), f ≤ p → p + m = s.size → Ev (fun k => spec_l11Name.l0 k (f : Int) v s (p : Int) bad)
  (idx v (s.extract f (nmEnd s m p)), s, ((mu s (nmEnd s m p) (bad || decide (idx v (s.extract f (nmEnd s m p)) < 0)) (⟨#[58]⟩ : ByteArray)).1 : Int), (mu s (nmEnd s m p) (bad || decide (idx v (s.extract f (nmEnd s m p)) < 0)) (⟨#[58]⟩ : ByteArray)).2) := by
 intro m; induction m with
 | zero =>
  intro p hf hp; refine Ev.step (fun k => by rw [spec_l11Name.l0]) ?_; refine Ev.congr (fun k => if_neg (by omega)) ?_; simp only [nmEnd]; exact ev_fin v s f p bad hv hf (by omega) hs
 | succ m ih =>
  intro p hf hp; refine Ev.step (fun k => by rw [spec_l11Name.l0]) ?_; refine Ev.congr (fun k => by rw [if_pos (show (p : Int) < (s.size : Int) by omega), if_pos (show (0 : Int) ≤ (p : Int) by omega)]) ?_; by_cases c1 : bt s (p : Int) ≥ 97
  ·refine Ev.congr (fun k => if_pos c1) ?_; by_cases c2 : bt s (p : Int) ≤ 122
   ·refine Ev.congr (fun k => if_pos c2) ?_; have e : nmEnd s (m + 1) p = nmEnd s m (p + 1) := by simp only [nmEnd]; rw [if_pos ⟨c1, c2⟩]
    rw [e, up64 (by omega)]; exact ih (p + 1) (by omega) (by omega)
   ·refine Ev.congr (fun k => if_neg c2) ?_; have e : nmEnd s (m + 1) p = p := by simp only [nmEnd]; rw [if_neg (fun z => c2 z.2)]
    rw [e]; exact ev_fin v s f p bad hv hf (by omega) hs
  ·refine Ev.congr (fun k => if_neg c1) ?_; have e : nmEnd s (m + 1) p = p := by simp only [nmEnd]; rw [if_neg (fun z => c1 z.1)]
   rw [e]; exact ev_fin v s f p bad hv hf (by omega) hs
theorem ev_name (v : List ByteArray) (s : ByteArray) (p : Nat) (bad : Bool) (hv : v.length ≤ 1048576) (h : p ≤ s.size) (hs : s.size ≤ 1099511627776) : Ev (fun k => spec_l11Name.f k v s (p : Int) bad) ((nmS v s p bad).1, s, ((nmS v s p bad).2.1 : Int), (nmS v s p bad).2.2) :=
 ev_nm v s p bad hv hs (s.size - p) p (Nat.le_refl _) (by omega)
theorem nmS_le (v : List ByteArray) (s : ByteArray) (p : Nat) (bad : Bool) (h : p ≤ s.size) : (nmS v s p bad).2.1 ≤ s.size := mu_le s _ _ _ (nmEnd_le s (s.size - p) p (by omega)).1
theorem tk_no (s : ByteArray) (p : Nat) (bad : Bool) (a : ByteArray) (c : (tk s p bad a).1 = false) : (tk s p bad a).2 = p := by
 unfold tk at c ⊢; split
 ·rfl
 split
 ·rename_i c1 c2; rw [if_neg c1, if_pos c2] at c; cases c
 ·rfl
theorem ev_nv (v : List ByteArray) (s : ByteArray) (hv : v.length ≤ 1048576) (hs : s.size ≤ 1099511627776) (a : Int) (p : Nat) (h : p ≤ s.size) : Ev (fun k => (spec_l11Name.f k v s (p : Int) false).bind fun b => ((spec_l11Var.f k v b.2.1 b.2.2.1 b.2.2.2).bind fun c => (some (a, b.1, c.1, (0 : Int), ([] : List S32), c.2.1, c.2.2.1, c.2.2.2)))) (encS (nvS v s a p) s) :=
 Ev.bind (ev_name v s p false hv h hs) (Ev.bind (ev_vr v s _ _ (nmS_le v s p false h) hs) (Ev.now' rfl))
theorem ev_pr (v : List ByteArray) (s : ByteArray) (hv : v.length ≤ 1048576) (hs : s.size ≤ 1099511627776) (a : Int) (p : Nat) (h : p ≤ s.size) : Ev (fun k => spec_l11Pair.f k v s (p : Int) false a) (encS (prS s a p) s) :=
 Ev.bind (ev_vr v s p false h hs) (Ev.bind (ev_vr v s _ _ (vrS_le s p false h) hs) (Ev.now' rfl))
theorem ev_bd (v : List ByteArray) (s : ByteArray) (hv : v.length ≤ 1048576) (hs : s.size ≤ 1099511627776) (R : Nat → Bool → TS) (d a : Int) (hR : ∀ p bad, p ≤ s.size → Ev (fun k => spec_l11All.f k v s (p : Int) bad d) (encS (R p bad) s)) (p : Nat) (h : p ≤ s.size) : Ev (fun k => spec_l11Bind.f k v s (p : Int) false a d) (encS (bdS s R a p) s) := by
 refine Ev.step (fun k => by rw [spec_l11Bind.f]) ?_; refine Ev.bind (ev_vr v s p false h hs) ?_; refine Ev.congr (fun k => by rw [must_is v s _ _ _ (vrS_le s p false h) hs (by decide), obs]) ?_; refine Ev.bind (hR _ _ (mu_le s _ _ _ (vrS_le s p false h))) (Ev.now' ?_); simp only [encS, etaS]; rfl
theorem ev_t2 (v : List ByteArray) (s : ByteArray) (hv : v.length ≤ 1048576) (hs : s.size ≤ 1099511627776) (R : Nat → Bool → TS) (d a : Int) (x : S32) (hR : ∀ p bad, p ≤ s.size → Ev (fun k => spec_l11All.f k v s (p : Int) bad d) (encS (R p bad) s)) (hRle : ∀ p bad, p ≤ s.size → (R p bad).2.1 ≤ s.size) (q : Nat × Bool) (h : q.1 ≤ s.size) :
  Ev (fun k => spec_l11Two.j0 k d v s (q.1 : Int) q.2 x.f0 x.f1 x.f2 x.f3 x.f4 a 0 0 0) (encS (t2S s R a x q) s) := by
 obtain ⟨p, bad⟩ := q; refine Ev.step (fun k => by rw [spec_l11Two.j0]) ?_; unfold t2S; cases bad with
 | true => simp only [if_true]; exact Ev.now' rfl
 | false =>
  simp only [Bool.false_eq_true, if_false]; refine Ev.bind (hR p false h) ?_; refine Ev.congr (fun k => by rw [show (encS (R p false) s).2.2.2.2.2.1 = s from rfl, show (encS (R p false) s).2.2.2.2.2.2.1 = ((R p false).2.1 : Int) from rfl, must_is v s _ _ _ (hRle p false h) hs (by decide), obs]) (Ev.now' ?_); simp only [encS, etaS]
theorem ev_two (v : List ByteArray) (s : ByteArray) (hv : v.length ≤ 1048576) (hs : s.size ≤ 1099511627776) (R : Nat → Bool → TS) (d : Int) (hR : ∀ p bad, p ≤ s.size → Ev (fun k => spec_l11All.f k v s (p : Int) bad d) (encS (R p bad) s)) (hRle : ∀ p bad, p ≤ s.size → (R p bad).2.1 ≤ s.size) (p : Nat) (h : p ≤ s.size) :
  Ev (fun k => spec_l11Two.f k v s (p : Int) false d) (encS (twS s R p) s) := by
 refine Ev.step (fun k => by rw [spec_l11Two.f]) ?_; refine Ev.bind (hR p false h) ?_; have hl := hRle p false h; refine Ev.congr (fun k => by rw [show (encS (R p false) s).2.2.2.2.2.1 = s from rfl, show (encS (R p false) s).2.2.2.2.2.2.1 = ((R p false).2.1 : Int) from rfl, take_is v s _ _ _ hl hs (by decide), obs]) ?_; unfold twS; cases c : (tk s (R p false).2.1 (encS (R p false) s).2.2.2.2.2.2.2 (⟨#[38]⟩ : ByteArray)).1 with
 | true =>
  have c' : (tk s (R p false).2.1 (R p false).2.2 (⟨#[38]⟩ : ByteArray)).1 = true := c; rw [if_pos c']; refine Ev.congr (fun k => if_pos rfl) ?_; exact ev_t2 v s hv hs R d 9 (R p false).1 hR hRle ((tk s (R p false).2.1 (R p false).2.2 (⟨#[38]⟩ : ByteArray)).2, (R p false).2.2) (tk_le s _ _ _ hl)
 | false =>
  have c' : (tk s (R p false).2.1 (R p false).2.2 (⟨#[38]⟩ : ByteArray)).1 = false := c; rw [if_neg (by rw [c']; decide)]; refine Ev.congr (fun k => if_neg (by decide)) ?_; have e2 : (tk s (R p false).2.1 (R p false).2.2 (⟨#[38]⟩ : ByteArray)).2 = (R p false).2.1 := tk_no s _ _ _ c'; refine Ev.congr (fun k => by rw [show (tk s (R p false).2.1 (encS (R p false) s).2.2.2.2.2.2.2 (⟨#[38]⟩ : ByteArray)).2 = (R p false).2.1 from e2, must_is v s _ _ _ hl hs (by decide), obs]) ?_; exact ev_t2 v s hv hs R d 10 (R p false).1 hR hRle (mu s (R p false).2.1 (R p false).2.2 (⟨#[124]⟩ : ByteArray)) (mu_le s _ _ _ hl)
theorem ite_le {c : Prop} [Decidable c] {a b : TS} {N : Nat} (ha : a.2.1 ≤ N) (hb : b.2.1 ≤ N) : (if c then a else b).2.1 ≤ N := by split <;> assumption
theorem t2S_le (s : ByteArray) (R : Nat → Bool → TS) (a : Int) (x : S32) (q : Nat × Bool) (h : q.1 ≤ s.size) (hR : ∀ p bad, p ≤ s.size → (R p bad).2.1 ≤ s.size) : (t2S s R a x q).2.1 ≤ s.size := by
 unfold t2S; split
 ·exact h
 ·exact mu_le s _ _ _ (hR _ _ h)
theorem twS_le (s : ByteArray) (R : Nat → Bool → TS) (p : Nat) (h : p ≤ s.size) (hR : ∀ p bad, p ≤ s.size → (R p bad).2.1 ≤ s.size) : (twS s R p).2.1 ≤ s.size := by
 unfold twS; split
 ·exact t2S_le s R _ _ _ (tk_le s _ _ _ (hR _ _ h)) hR
 ·exact t2S_le s R _ _ _ (mu_le s _ _ _ (hR _ _ h)) hR
theorem aS_le (v : List ByteArray) (s : ByteArray) : ∀ (n p : Nat) (bad : Bool), p ≤ s.size → (aS v s n p bad).2.1 ≤ s.size := by
 intro n; induction n with
 | zero => intro p bad h; exact h
 | succ n ih =>
  intro p bad h; rw [aS]; repeat' (with_reducible refine ite_le ?_ ?_)
  all_goals first
   | exact h
   | exact tk_le s _ _ _ h
   | exact vrS_le s _ _ (nmS_le v s _ _ (tk_le s _ _ _ h))
   | exact vrS_le s _ _ (tk_le s _ _ _ h)
   | exact vrS_le s _ _ (vrS_le s _ _ (tk_le s _ _ _ h))
   | exact ih _ _ (tk_le s _ _ _ h)
   | exact ih _ _ (mu_le s _ _ _ (vrS_le s _ _ (tk_le s _ _ _ h)))
   | exact mu_le s _ _ _ h
   | exact twS_le s _ _ (mu_le s _ _ _ h) ih
theorem ev_all (v : List ByteArray) (s : ByteArray) (hv : v.length ≤ 1048576) (hs : s.size ≤ 1099511627776) : ∀ (n : Nat), n ≤ 12 → ∀ (p : Nat) (bad : Bool), p ≤ s.size → Ev (fun k => spec_l11All.f k v s (p : Int) bad (13 - n : Int)) (encS (aS v s n p bad) s) := by
 intro n; induction n with
 | zero =>
  intro _ p bad h; refine Ev.step (fun k => by rw [spec_l11All.f]) ?_; have g : Ev (fun k => spec_l11All.j0 k (13 - (0 : Nat) : Int) v s (p : Int) true) (encS (aS v s 0 p bad) s) := by
   refine Ev.step (fun k => by rw [spec_l11All.j0]) ?_; refine Ev.congr (fun k => if_pos rfl) (Ev.now' rfl)
  cases bad with
  | true => exact Ev.congr (fun k => if_pos rfl) g
  | false => exact Ev.congr (fun k => by rw [if_neg (by simp), show decide ((13 - (0 : Nat) : Int) > 12) = true from by decide]) g
 | succ n ih =>
  intro hn p bad h; have ih := ih (by omega); have e : wrap64 ((13 - (n + 1 : Nat) : Int) + 1) = 13 - n := by unfold wrap64; omega
  refine Ev.step (fun k => by rw [spec_l11All.f]) ?_; cases bad with
  | true =>
   refine Ev.congr (fun k => if_pos rfl) ?_; refine Ev.step (fun k => by rw [spec_l11All.j0]) ?_; refine Ev.congr (fun k => if_pos rfl) (Ev.now' ?_); rw [aS]; rfl
  | false =>
   refine Ev.congr (fun k => by rw [if_neg (by simp), show decide ((13 - (n + 1 : Nat) : Int) > 12) = false from decide_eq_false (by omega)]) ?_; refine Ev.step (fun k => by rw [spec_l11All.j0]) ?_; refine Ev.congr (fun k => if_neg (by simp)) ?_; rw [aS, if_neg (by simp)]; have T : ∀ a : ByteArray, a.size ≤ 1099511627776 → spec_l11Take.f v s (p : Int) false a = some ((tk s p false a).1, s, ((tk s p false a).2 : Int), false) := fun a ha => take_is v s p false a h hs ha
   refine Ev.congr (fun k => by rw [show (⟨#[116, 114, 117, 101]⟩ : ByteArray) = headB 1 from rfl, T (headB 1) (by decide), obs]) ?_; by_cases c0 : (tk s p false (headB 1)).1 = true
   ·rw [if_pos c0]; refine Ev.congr (fun k => if_pos c0) ?_; exact Ev.now' rfl
   rw [if_neg c0]; refine Ev.congr (fun k => by rw [if_neg c0, tk_no s p false _ (by simpa using c0)]) ?_; refine Ev.congr (fun k => by rw [show (⟨#[111, 110, 32]⟩ : ByteArray) = headB 2 from rfl, T (headB 2) (by decide), obs]) ?_; by_cases c1 : (tk s p false (headB 2)).1 = true
   ·rw [if_pos c1]; refine Ev.congr (fun k => if_pos c1) ?_; exact ev_nv v s hv hs 2 _ (tk_le s _ _ _ h)
   rw [if_neg c1]; refine Ev.congr (fun k => by rw [if_neg c1, tk_no s p false _ (by simpa using c1)]) ?_; refine Ev.congr (fun k => by rw [show (⟨#[102, 114, 111, 109, 32]⟩ : ByteArray) = headB 3 from rfl, T (headB 3) (by decide), obs]) ?_; by_cases c2 : (tk s p false (headB 3)).1 = true
   ·rw [if_pos c2]; refine Ev.congr (fun k => if_pos c2) ?_; exact ev_nv v s hv hs 3 _ (tk_le s _ _ _ h)
   rw [if_neg c2]; refine Ev.congr (fun k => by rw [if_neg c2, tk_no s p false _ (by simpa using c2)]) ?_; refine Ev.congr (fun k => by rw [show (⟨#[115, 104, 97, 114, 101, 100, 58]⟩ : ByteArray) = headB 4 from rfl, T (headB 4) (by decide), obs]) ?_; by_cases c3 : (tk s p false (headB 4)).1 = true
   ·rw [if_pos c3]; refine Ev.congr (fun k => if_pos c3) ?_; exact Ev.bind (ev_vr v s _ _ (tk_le s _ _ _ h) hs) (Ev.now' rfl)
   rw [if_neg c3]; refine Ev.congr (fun k => by rw [if_neg c3, tk_no s p false _ (by simpa using c3)]) ?_; refine Ev.congr (fun k => by rw [show (⟨#[110, 101, 120, 116, 58]⟩ : ByteArray) = headB 5 from rfl, T (headB 5) (by decide), obs]) ?_; by_cases c4 : (tk s p false (headB 5)).1 = true
   ·rw [if_pos c4]; refine Ev.congr (fun k => if_pos c4) ?_; exact Ev.bind (ev_pr v s hv hs 5 _ (tk_le s _ _ _ h)) (Ev.now' rfl)
   rw [if_neg c4]; refine Ev.congr (fun k => by rw [if_neg c4, tk_no s p false _ (by simpa using c4)]) ?_; refine Ev.congr (fun k => by rw [show (⟨#[115, 97, 109, 101, 58]⟩ : ByteArray) = headB 6 from rfl, T (headB 6) (by decide), obs]) ?_; by_cases c5 : (tk s p false (headB 6)).1 = true
   ·rw [if_pos c5]; refine Ev.congr (fun k => if_pos c5) ?_; exact Ev.bind (ev_pr v s hv hs 6 _ (tk_le s _ _ _ h)) (Ev.now' rfl)
   rw [if_neg c5]; refine Ev.congr (fun k => by rw [if_neg c5, tk_no s p false _ (by simpa using c5)]) ?_; refine Ev.congr (fun k => by rw [show (⟨#[112, 97, 116, 104, 58]⟩ : ByteArray) = headB 7 from rfl, T (headB 7) (by decide), obs]) ?_; by_cases c6 : (tk s p false (headB 7)).1 = true
   ·rw [if_pos c6]; refine Ev.congr (fun k => if_pos c6) ?_; exact Ev.bind (ev_pr v s hv hs 7 _ (tk_le s _ _ _ h)) (Ev.now' rfl)
   rw [if_neg c6]; refine Ev.congr (fun k => by rw [if_neg c6, tk_no s p false _ (by simpa using c6)]) ?_; refine Ev.congr (fun k => by rw [show (⟨#[33]⟩ : ByteArray) = (⟨#[33]⟩ : ByteArray) from rfl, T ((⟨#[33]⟩ : ByteArray)) (by decide), obs]) ?_; by_cases c7 : (tk s p false ((⟨#[33]⟩ : ByteArray))).1 = true
   ·rw [if_pos c7]; refine Ev.congr (fun k => if_pos c7) ?_; rw [e]; exact Ev.bind (ih _ _ (tk_le s _ _ _ h)) (Ev.now' (by simp only [encS, etaS]))
   rw [if_neg c7]; refine Ev.congr (fun k => by rw [if_neg c7, tk_no s p false _ (by simpa using c7)]) ?_; refine Ev.congr (fun k => by rw [show (⟨#[115, 111, 109, 101, 32]⟩ : ByteArray) = headB 11 from rfl, T (headB 11) (by decide), obs]) ?_; by_cases c8 : (tk s p false (headB 11)).1 = true
   ·rw [if_pos c8]; refine Ev.congr (fun k => if_pos c8) ?_; rw [e]; exact Ev.bind (ev_bd v s hv hs (aS v s n) _ 11 ih _ (tk_le s _ _ _ h)) (Ev.now' rfl)
   rw [if_neg c8]; refine Ev.congr (fun k => by rw [if_neg c8, tk_no s p false _ (by simpa using c8)]) ?_; refine Ev.congr (fun k => by rw [show (⟨#[97, 108, 108, 32]⟩ : ByteArray) = headB 12 from rfl, T (headB 12) (by decide), obs]) ?_; by_cases c9 : (tk s p false (headB 12)).1 = true
   ·rw [if_pos c9]; refine Ev.congr (fun k => if_pos c9) ?_; rw [e]; exact Ev.bind (ev_bd v s hv hs (aS v s n) _ 12 ih _ (tk_le s _ _ _ h)) (Ev.now' rfl)
   rw [if_neg c9]; refine Ev.congr (fun k => by rw [if_neg c9, tk_no s p false _ (by simpa using c9)]) ?_; refine Ev.congr (fun k => by rw [must_is v s p false _ h hs (by decide), obs]) ?_; by_cases cm : (mu s p false (⟨#[40]⟩ : ByteArray)).2 = true
   ·rw [if_pos cm]; refine Ev.congr (fun k => if_pos cm) (Ev.now' ?_); rfl
   ·rw [if_neg cm]; refine Ev.congr (fun k => by rw [if_neg cm, show (mu s p false (⟨#[40]⟩ : ByteArray)).2 = false from by simpa using cm, e]) ?_; exact Ev.bind (ev_two v s hv hs (aS v s n) _ ih (fun p bad h => aS_le v s n p bad h) _ (mu_le s _ _ _ h)) (Ev.now' rfl)
theorem toL_ext {a b : ByteArray} (h : a.toList = b.toList) : a = b := by
 rw [ByteArray.toList_eq, ByteArray.toList_eq] at h; cases a; cases b
 simp only at h; congr 1
 exact Array.toList_inj.1 h
theorem size_toL (a : ByteArray) : a.toList.length = a.size := by rw [ByteArray.toList_eq]; rfl
theorem ext_toL (s : ByteArray) (i j : Nat) : (s.extract i j).toList = (s.toList.take j).drop i := by
 simp [ByteArray.toList_eq, ByteArray.data_extract, List.extract_eq_take_drop, List.drop_take]
theorem pfx_of {a s : ByteArray} {rest : List UInt8} (h : s.toList = a.toList ++ rest) : pfxB a s = true ∧ (dropB a s).toList = rest := by
 have hl : s.size = a.size + rest.length := by rw [← size_toL, h, List.length_append, size_toL]
 refine ⟨?_, ?_⟩
 ·unfold pfxB; rw [Bool.and_eq_true, decide_eq_true_eq, beq_iff_eq, ext_toL, h]; refine ⟨by omega, ?_⟩; rw [List.drop_zero, ← size_toL, List.take_left']; rfl
 ·unfold dropB; rw [ext_toL, h, ← size_toL a, List.take_of_length_le (by rw [List.length_append, hl, size_toL]; omega), List.drop_left']; rfl
theorem pfx_to {a s : ByteArray} (h : pfxB a s = true) : s.toList = a.toList ++ (dropB a s).toList := by
 unfold pfxB at h; rw [Bool.and_eq_true, decide_eq_true_eq, beq_iff_eq, ext_toL] at h; obtain ⟨h1, h2⟩ := h; unfold dropB; rw [ext_toL, List.take_of_length_le (by rw [size_toL]; omega), ← h2, List.drop_zero, List.take_append_drop]
theorem pfx_ne {a s : ByteArray} {x y : UInt8} {p q : List UInt8} (ha : a.toList = x :: p) (hs : s.toList = y :: q) (h : x ≠ y) : pfxB a s = false := by
 rw [Bool.eq_false_iff]; intro c; have e := pfx_to c; rw [ha, hs, List.cons_append] at e; injection e with e _; exact h e.symm
theorem toL_lit (l : List UInt8) : (⟨l.toArray⟩ : ByteArray).toList = l := by rw [ByteArray.toList_eq]
theorem toL_app (a b : ByteArray) : (a ++ b).toList = a.toList ++ b.toList := by simp [ByteArray.toList_eq, ByteArray.data_append]
theorem head_toL (a : Int) : (headB a).toList = headS a := toL_lit _
def lgC (u : Int) : UInt8 := if u = 0 then 117 else if u = 1 then 118 else if u = 2 then 119 else 122
theorem lgD_toL (u : Int) (h0 : 0 ≤ u) (h1 : u < 4) : (lgD u).toList = [lgC u] := by
 have e : wrap64 (u + 1) = u + 1 := w64 (by omega) (by omega); unfold lgD; rw [e, ext_toL]; have : u = 0 ∨ u = 1 ∨ u = 2 ∨ u = 3 := by omega
 rcases this with rfl | rfl | rfl | rfl <;> decide +kernel
theorem log_text {s : ByteArray} {u : Int} {rest : List UInt8} (h0 : 0 ≤ u) (h1 : u < 4) (h : s.toList = lgC u :: rest) : ∃ s', logI s = (u, true, s') ∧ s'.toList = rest := by
 have hy := pfx_of (a := lgD u) (s := s) (rest := rest) (by rw [lgD_toL u h0 h1, h]; rfl); refine ⟨dropB (lgD u) s, ?_, hy.2⟩; have hn : ∀ w : Int, 0 ≤ w → w < 4 → w ≠ u → pfxB (lgD w) s = false := fun w w0 w1 hw => pfx_ne (lgD_toL w w0 w1) h (by
  have a : w = 0 ∨ w = 1 ∨ w = 2 ∨ w = 3 := by omega
  have b : u = 0 ∨ u = 1 ∨ u = 2 ∨ u = 3 := by omega
  rcases a with rfl | rfl | rfl | rfl <;> rcases b with rfl | rfl | rfl | rfl <;> first | exact absurd rfl hw | decide)
 unfold logI; have b : u = 0 ∨ u = 1 ∨ u = 2 ∨ u = 3 := by omega
 rcases b with rfl | rfl | rfl | rfl
 ·rw [if_pos hy.1]
 ·rw [if_neg (by rw [hn 0 (by omega) (by omega) (by omega)]; decide), if_pos hy.1]
 ·rw [if_neg (by rw [hn 0 (by omega) (by omega) (by omega)]; decide), if_neg (by rw [hn 1 (by omega) (by omega) (by omega)]; decide), if_pos hy.1]
 ·rw [if_neg (by rw [hn 0 (by omega) (by omega) (by omega)]; decide), if_neg (by rw [hn 1 (by omega) (by omega) (by omega)]; decide), if_neg (by rw [hn 2 (by omega) (by omega) (by omega)]; decide), if_pos hy.1]
def Names (v : List ByteArray) : Prop := ∀ (i j : Nat) (hi : i < v.length) (hj : j < v.length), i ≠ j → ∀ (s : ByteArray) (rest : List UInt8), s.toList = (v[j] ++ (⟨#[58]⟩ : ByteArray)).toList ++ rest → pfxB (v[i] ++ (⟨#[58]⟩ : ByteArray)) s = false
theorem var_go {v : List ByteArray} (hN : Names v) {s : ByteArray} {j : Nat} (hj : j < v.length) {rest : List UInt8} (h : s.toList = (v[j] ++ (⟨#[58]⟩ : ByteArray)).toList ++ rest) : ∀ (m i : Nat), i + m = j → varFrom s (v.drop i) (i : Int) = ((j : Int), true, dropB (v[j] ++ (⟨#[58]⟩ : ByteArray)) s) := by
 intro m; induction m with
 | zero =>
  intro i hi; obtain rfl : i = j := by omega
  rw [List.drop_eq_getElem_cons hj]; simp only [varFrom]; rw [if_pos (pfx_of h).1]
 | succ m ih =>
  intro i hi; rw [List.drop_eq_getElem_cons (show i < v.length by omega)]; simp only [varFrom]; rw [if_neg (by rw [hN i j (by omega) hj (by omega) s rest h]; decide)]; exact ih (i + 1) (by omega)
theorem var_text {v : List ByteArray} (hN : Names v) {s : ByteArray} {j : Nat} (hj : j < v.length) {rest : List UInt8} (h : s.toList = (v[j] ++ (⟨#[58]⟩ : ByteArray)).toList ++ rest) : ∃ s', varFrom s v 0 = ((j : Int), true, s') ∧ s'.toList = rest :=
 ⟨_, var_go hN hj h j 0 (by omega), (pfx_of h).2⟩
inductive TX (v : List ByteArray) : Nat → S32 → List UInt8 → Prop
 | tt (n : Nat) : TX v (n + 1) ⟨1, 0, 0, 0, []⟩ (headS 1)
 | nv (n : Nat) (a : Int) (j : Nat) (u : Int) (ha : a = 2 ∨ a = 3) (hj : j < v.length) (h0 : 0 ≤ u) (h1 : u < 4) : TX v (n + 1) ⟨a, (j : Int), u, 0, []⟩ (headS a ++ ((v[j] ++ (⟨#[58]⟩ : ByteArray)).toList ++ [lgC u]))
 | sh (n : Nat) (u : Int) (h0 : 0 ≤ u) (h1 : u < 4) : TX v (n + 1) ⟨4, 0, u, 0, []⟩ (headS 4 ++ [lgC u])
 | pr (n : Nat) (a u w : Int) (ha : a = 5 ∨ a = 6 ∨ a = 7) (h0 : 0 ≤ u) (h1 : u < 4) (h2 : 0 ≤ w) (h3 : w < 4) : TX v (n + 1) ⟨a, 0, u, w, []⟩ (headS a ++ [lgC u, lgC w])
 | no (n : Nat) (x : S32) (t : List UInt8) (h : TX v n x t) : TX v (n + 1) ⟨8, 0, 0, 0, [x]⟩ (33 :: t)
 | an (n : Nat) (a : Int) (x y : S32) (t u : List UInt8) (ha : a = 9 ∨ a = 10) (h : TX v n x t) (k : TX v n y u) : TX v (n + 1) ⟨a, 0, 0, 0, [x, y]⟩ (40 :: (t ++ ((if a = 9 then 38 else 124) :: (u ++ [41]))))
 | bd (n : Nat) (a u : Int) (x : S32) (t : List UInt8) (ha : a = 11 ∨ a = 12) (h0 : 0 ≤ u) (h1 : u < 4) (h : TX v n x t) : TX v (n + 1) ⟨a, 0, u, 0, [x]⟩ (headS a ++ (lgC u :: (46 :: t)))
theorem head_first {a : Int} (ha : isHead a) : ∃ x p, headS a = x :: p ∧ x ≠ 33 ∧ x ≠ 40 := by
 rcases ha with rfl | rfl | rfl | rfl | rfl | rfl | rfl | rfl | rfl <;> exact ⟨_, _, rfl, by decide, by decide⟩
theorem RI_head {v : List ByteArray} {N : Nat} {a : Int} {s : ByteArray} {rest : List UInt8} (ha : isHead a) (h : s.toList = headS a ++ rest) : ∃ s1, RI v (N + 1) s = restI (RI v N) v s1 a ∧ s1.toList = rest := by
 obtain ⟨x, p, e, n1, n2⟩ := head_first ha; have hs : s.toList = x :: (p ++ rest) := by rw [h, e]; rfl
 have hp := pfx_of (a := headB a) (s := s) (rest := rest) (by rw [head_toL, h]); have hk := kindOf_pfx ha hp.1; have hne : a ≠ 0 := by unfold isHead at ha; omega
 refine ⟨dropB (headB a) s, ?_, hp.2⟩; rw [RI, if_neg (by rw [pfx_ne (toL_lit [33]) hs (Ne.symm n1)]; decide), if_neg (by rw [pfx_ne (toL_lit [40]) hs (Ne.symm n2)]; decide), hk, if_neg hne]
theorem RI_text {v : List ByteArray} (hN : Names v) {n : Nat} {y : S32} {t : List UInt8} (h : TX v n y t) : ∀ N, n ≤ N → ∀ (s : ByteArray) (rest : List UInt8), s.toList = t ++ rest → ∃ s', RI v N s = (y, true, s') ∧ s'.toList = rest := by
 induction h with
 | tt n =>
  intro N hn s rest hs; obtain ⟨N, rfl⟩ : ∃ m, N = m + 1 := ⟨N - 1, by omega⟩; obtain ⟨s1, e1, h1⟩ := RI_head (v := v) (N := N) (a := 1) (by simp [isHead]) hs; exact ⟨s1, by rw [e1]; rfl, h1⟩
 | nv n a j u ha hj h0 h1 =>
  intro N hn s rest hs; obtain ⟨N, rfl⟩ : ∃ m, N = m + 1 := ⟨N - 1, by omega⟩; rw [List.append_assoc] at hs; obtain ⟨s1, e1, hs1⟩ := RI_head (v := v) (N := N) (a := a) (by rcases ha with rfl | rfl <;> simp [isHead]) hs; rw [List.append_assoc] at hs1; obtain ⟨s2, e2, hs2⟩ := var_text hN hj hs1; obtain ⟨s3, e3, hs3⟩ := log_text (rest := rest) h0 h1 hs2; refine ⟨s3, ?_, hs3⟩; rw [e1]; rcases ha with rfl | rfl
  ·have k1 : kI v s1 2 = ((j : Int), true, s2) := e2; have k2 : uI (kI v s1 2).2 2 = (u, true, s3) := by rw [k1]; exact e3
   have k3 : vI (uI (kI v s1 2).2 2).2 2 = (0, true, s3) := by rw [k2]; rfl
   unfold restI; rw [k3, k2, k1]; rfl
  ·have k1 : kI v s1 3 = ((j : Int), true, s2) := e2; have k2 : uI (kI v s1 3).2 3 = (u, true, s3) := by rw [k1]; exact e3
   have k3 : vI (uI (kI v s1 3).2 3).2 3 = (0, true, s3) := by rw [k2]; rfl
   unfold restI; rw [k3, k2, k1]; rfl
 | sh n u h0 h1 =>
  intro N hn s rest hs; obtain ⟨N, rfl⟩ : ∃ m, N = m + 1 := ⟨N - 1, by omega⟩; rw [List.append_assoc] at hs; obtain ⟨s1, e1, hs1⟩ := RI_head (v := v) (N := N) (a := 4) (by simp [isHead]) hs; obtain ⟨s3, e3, hs3⟩ := log_text (rest := rest) h0 h1 hs1; refine ⟨s3, ?_, hs3⟩; rw [e1]; have k1 : kI v s1 4 = (0, true, s1) := rfl; have k2 : uI (kI v s1 4).2 4 = (u, true, s3) := by rw [k1]; exact e3
  have k3 : vI (uI (kI v s1 4).2 4).2 4 = (0, true, s3) := by rw [k2]; rfl
  unfold restI; rw [k3, k2, k1]; rfl
 | pr n a u w ha h0 h1 h2 h3 =>
  intro N hn s rest hs; obtain ⟨N, rfl⟩ : ∃ m, N = m + 1 := ⟨N - 1, by omega⟩; rw [List.append_assoc] at hs; obtain ⟨s1, e1, hs1⟩ := RI_head (v := v) (N := N) (a := a) (by rcases ha with rfl | rfl | rfl <;> simp [isHead]) hs; obtain ⟨s2, e2, hs2⟩ := log_text (rest := lgC w :: rest) h0 h1 hs1; obtain ⟨s3, e3, hs3⟩ := log_text (rest := rest) h2 h3 hs2; refine ⟨s3, ?_, hs3⟩; rw [e1]; rcases ha with rfl | rfl | rfl
  ·have k1 : kI v s1 5 = (0, true, s1) := rfl; have k2 : uI (kI v s1 5).2 5 = (u, true, s2) := by rw [k1]; exact e2
   have k3 : vI (uI (kI v s1 5).2 5).2 5 = (w, true, s3) := by rw [k2]; exact e3
   unfold restI; rw [k3, k2, k1]; rfl
  ·have k1 : kI v s1 6 = (0, true, s1) := rfl; have k2 : uI (kI v s1 6).2 6 = (u, true, s2) := by rw [k1]; exact e2
   have k3 : vI (uI (kI v s1 6).2 6).2 6 = (w, true, s3) := by rw [k2]; exact e3
   unfold restI; rw [k3, k2, k1]; rfl
  ·have k1 : kI v s1 7 = (0, true, s1) := rfl; have k2 : uI (kI v s1 7).2 7 = (u, true, s2) := by rw [k1]; exact e2
   have k3 : vI (uI (kI v s1 7).2 7).2 7 = (w, true, s3) := by rw [k2]; exact e3
   unfold restI; rw [k3, k2, k1]; rfl
 | no n x t h ih =>
  intro N hn s rest hs; obtain ⟨N, rfl⟩ : ∃ m, N = m + 1 := ⟨N - 1, by omega⟩; have hp := pfx_of (a := (⟨#[33]⟩ : ByteArray)) (s := s) (rest := t ++ rest) (by rw [show (⟨#[33]⟩ : ByteArray).toList = [33] from toL_lit [33], hs]; rfl); obtain ⟨s', e, hs'⟩ := ih N (by omega) _ rest hp.2; refine ⟨s', ?_, hs'⟩; rw [RI, if_pos hp.1, e]
 | an n a x y t u ha h k ihx ihy =>
  intro N hn s rest hs; obtain ⟨N, rfl⟩ : ∃ m, N = m + 1 := ⟨N - 1, by omega⟩; have hs0 : s.toList = 40 :: (t ++ ((if a = 9 then 38 else 124) :: (u ++ (41 :: rest)))) := by rw [hs]; simp
  have hp := pfx_of (a := (⟨#[40]⟩ : ByteArray)) (s := s) (rest := t ++ ((if a = 9 then 38 else 124) :: (u ++ (41 :: rest)))) (by rw [show (⟨#[40]⟩ : ByteArray).toList = [40] from toL_lit [40], hs0]; rfl); obtain ⟨s1, e1, hs1⟩ := ihx N (by omega) _ _ hp.2; have hp1 : pfxB (⟨#[33]⟩ : ByteArray) s = false := pfx_ne (toL_lit [33]) hs0 (by decide); rw [RI, if_neg (by rw [hp1]; decide), if_pos hp.1]; unfold pairI; rw [e1]; rcases ha with rfl | rfl
  ·have hq := pfx_of (a := (⟨#[38]⟩ : ByteArray)) (s := s1) (rest := u ++ (41 :: rest)) (by rw [show (⟨#[38]⟩ : ByteArray).toList = [38] from toL_lit [38], hs1]; rfl); obtain ⟨s2, e2, hs2⟩ := ihy N (by omega) _ _ hq.2; have hr := pfx_of (a := (⟨#[41]⟩ : ByteArray)) (s := s2) (rest := rest) (by rw [show (⟨#[41]⟩ : ByteArray).toList = [41] from toL_lit [41], hs2]; rfl); refine ⟨dropB (⟨#[41]⟩ : ByteArray) s2, ?_, hr.2⟩; dsimp only; rw [if_pos rfl, if_pos hq.1]; unfold secondI; rw [e2]; dsimp only; rw [if_pos rfl, if_pos hr.1, hr.1]
  ·have hq := pfx_of (a := (⟨#[124]⟩ : ByteArray)) (s := s1) (rest := u ++ (41 :: rest)) (by rw [show (⟨#[124]⟩ : ByteArray).toList = [124] from toL_lit [124], hs1]; rfl); have hq0 : pfxB (⟨#[38]⟩ : ByteArray) s1 = false := pfx_ne (y := 124) (q := u ++ (41 :: rest)) (toL_lit [38]) (by rw [hs1]; rfl) (by decide); obtain ⟨s2, e2, hs2⟩ := ihy N (by omega) _ _ hq.2; have hr := pfx_of (a := (⟨#[41]⟩ : ByteArray)) (s := s2) (rest := rest) (by rw [show (⟨#[41]⟩ : ByteArray).toList = [41] from toL_lit [41], hs2]; rfl); refine ⟨dropB (⟨#[41]⟩ : ByteArray) s2, ?_, hr.2⟩; dsimp only; rw [if_pos rfl, if_neg (by rw [hq0]; decide), if_pos hq.1]; unfold secondI; rw [e2]; dsimp only; rw [if_pos rfl, if_pos hr.1, hr.1]
 | bd n a u x t ha h0 h1 h ih =>
  intro N hn s rest hs; obtain ⟨N, rfl⟩ : ∃ m, N = m + 1 := ⟨N - 1, by omega⟩; rw [List.append_assoc] at hs; obtain ⟨s1, e1, hs1⟩ := RI_head (v := v) (N := N) (a := a) (by rcases ha with rfl | rfl <;> simp [isHead]) hs; obtain ⟨s2, e2, hs2⟩ := log_text (rest := 46 :: (t ++ rest)) h0 h1 hs1; have hp := pfx_of (a := (⟨#[46]⟩ : ByteArray)) (s := s2) (rest := t ++ rest) (by rw [show (⟨#[46]⟩ : ByteArray).toList = [46] from toL_lit [46], hs2]; rfl); obtain ⟨s3, e3, hs3⟩ := ih N (by omega) _ rest hp.2; refine ⟨s3, ?_, hs3⟩; rw [e1]; rcases ha with rfl | rfl
  ·have k1 : kI v s1 11 = (0, true, s1) := rfl; have k2 : uI (kI v s1 11).2 11 = (u, true, s2) := by rw [k1]; exact e2
   have k3 : vI (uI (kI v s1 11).2 11).2 11 = (0, true, s2) := by rw [k2]; rfl
   unfold restI; rw [k3, k2, k1]; unfold endI; dsimp only; rw [if_pos (show (true && bi 11) = true by decide), if_pos hp.1, e3]
  ·have k1 : kI v s1 12 = (0, true, s1) := rfl; have k2 : uI (kI v s1 12).2 12 = (u, true, s2) := by rw [k1]; exact e2
   have k3 : vI (uI (kI v s1 12).2 12).2 12 = (0, true, s2) := by rw [k2]; rfl
   unfold restI; rw [k3, k2, k1]; unfold endI; dsimp only; rw [if_pos (show (true && bi 12) = true by decide), if_pos hp.1, e3]
theorem drop_len {s : ByteArray} {p : Nat} {x : List UInt8} (hp : p ≤ s.size) (h : s.toList.drop p = x) : p + x.length = s.size := by rw [← h, List.length_drop, size_toL]; omega
theorem tk_of {s a : ByteArray} {p : Nat} {rest : List UInt8} (hp : p ≤ s.size) (h : s.toList.drop p = a.toList ++ rest) : tk s p false a = (true, p + a.size) ∧ s.toList.drop (p + a.size) = rest ∧ p + a.size ≤ s.size := by
 have hl := drop_len hp h; rw [List.length_append, size_toL] at hl; have hd : s.toList.drop (p + a.size) = rest := by rw [← List.drop_drop, h, ← size_toL, List.drop_left']; rfl
 have c : (s.extract p (p + a.size)).toList = a.toList := by
  rw [ext_toL, List.drop_take, h]; exact List.take_left' (by rw [size_toL]; omega)
 refine ⟨?_, hd, by omega⟩; unfold tk; rw [if_neg (by decide), if_pos ⟨by omega, c⟩]
theorem tk_to {s a : ByteArray} {p : Nat} (h : (tk s p false a).1 = true) : (s.toList.drop p).take a.size = a.toList := by
 unfold tk at h; rw [if_neg (by decide)] at h; split at h
 ·rename_i c
  rw [← c.2, ext_toL, List.drop_take]; congr 1
  omega
 ·cases h
theorem tk_ne {s a : ByteArray} {p : Nat} {x y : UInt8} {r q : List UInt8} (ha : a.toList = x :: r) (hs : s.toList.drop p = y :: q) (h : x ≠ y) : (tk s p false a).1 = false := by
 rw [Bool.eq_false_iff]; intro c; have e := tk_to c; rw [hs, ha, show a.size = r.length + 1 by rw [← size_toL, ha]; rfl, List.take_succ_cons] at e; injection e with e _; exact h e.symm
theorem tk_head {s : ByteArray} {p : Nat} {a x : Int} {rest : List UInt8} (ha : isHead a) (hx : isHead x) (hne : x ≠ a) (hs : s.toList.drop p = headS a ++ rest) : (tk s p false (headB x)).1 = false := by
 rw [Bool.eq_false_iff]; intro c; have e := tk_to c; rw [head_toL, hs] at e; have l1 : 2 ≤ (headB x).size := by rcases hx with rfl | rfl | rfl | rfl | rfl | rfl | rfl | rfl | rfl <;> decide
 have l2 : 2 ≤ (headS a).length := by rcases ha with rfl | rfl | rfl | rfl | rfl | rfl | rfl | rfl | rfl <;> decide
 have e2 := congrArg (List.take 2) e; rw [List.take_take, Nat.min_eq_left l1, List.take_append_of_le_length l2] at e2; exact hne (head_inj hx ha e2.symm)
theorem vr_text {s : ByteArray} {p : Nat} {u : Int} {rest : List UInt8} (hp : p ≤ s.size) (h0 : 0 ≤ u) (h1 : u < 4) (h : s.toList.drop p = lgC u :: rest) : vrS s p false = (u, p + 1, false) ∧ s.toList.drop (p + 1) = rest ∧ p + 1 ≤ s.size := by
 have hz : (lgD u).size = 1 := by rw [← size_toL, lgD_toL u h0 h1]; rfl
 have hy := tk_of (a := lgD u) (s := s) (p := p) (rest := rest) hp (by rw [lgD_toL u h0 h1, h]; rfl); rw [hz] at hy; refine ⟨?_, hy.2⟩; have hn : ∀ w : Int, 0 ≤ w → w < 4 → w ≠ u → (tk s p false (lgD w)).1 = false := fun w w0 w1 hw => tk_ne (lgD_toL w w0 w1) h (by
  have a : w = 0 ∨ w = 1 ∨ w = 2 ∨ w = 3 := by omega
  have b : u = 0 ∨ u = 1 ∨ u = 2 ∨ u = 3 := by omega
  rcases a with rfl | rfl | rfl | rfl <;> rcases b with rfl | rfl | rfl | rfl <;> first | exact absurd rfl hw | decide)
 unfold vrS; have b : u = 0 ∨ u = 1 ∨ u = 2 ∨ u = 3 := by omega
 rcases b with rfl | rfl | rfl | rfl
 ·rw [hy.1]; rfl
 ·rw [if_neg (by rw [hn 0 (by omega) (by omega) (by omega)]; decide), hy.1]; rfl
 ·rw [if_neg (by rw [hn 0 (by omega) (by omega) (by omega)]; decide), if_neg (by rw [hn 1 (by omega) (by omega) (by omega)]; decide), hy.1]; rfl
 ·rw [if_neg (by rw [hn 0 (by omega) (by omega) (by omega)]; decide), if_neg (by rw [hn 1 (by omega) (by omega) (by omega)]; decide), if_neg (by rw [hn 2 (by omega) (by omega) (by omega)]; decide), hy.1]; rfl
theorem mu_of {s a : ByteArray} {p : Nat} {rest : List UInt8} (hp : p ≤ s.size) (h : s.toList.drop p = a.toList ++ rest) : mu s p false a = (p + a.size, false) ∧ s.toList.drop (p + a.size) = rest ∧ p + a.size ≤ s.size := by
 have hy := tk_of hp h; refine ⟨?_, hy.2⟩; unfold mu; rw [if_neg (by decide), hy.1]; rfl
theorem bt_at {s : ByteArray} {p : Nat} {c : UInt8} {rest : List UInt8} (h : s.toList.drop p = c :: rest) : bt s (p : Int) = (c.toNat : Int) := by
 have hl : p < s.size := by
  have := congrArg List.length h; rw [List.length_drop, size_toL, List.length_cons] at this; omega
 unfold bt; rw [Int.toNat_natCast, dif_pos hl]; have e : s.toList[p]? = some c := by rw [← List.head?_drop, h]; rfl
 rw [ByteArray.toList_eq] at e; have e2 : s[p] = c := by
  rw [Array.getElem?_toList] at e; have := (Array.getElem?_eq_some_iff.1 e).2; exact this
 rw [e2]
def VN (v : List ByteArray) : Prop := ∀ (j : Nat) (hj : j < v.length), (∀ c ∈ v[j].toList, 97 ≤ c.toNat ∧ c.toNat ≤ 122) ∧ idx v v[j] = (j : Int)
theorem colon_inj : ∀ (l m : List UInt8) (r q : List UInt8), (∀ c ∈ l, 97 ≤ c.toNat ∧ c.toNat ≤ 122) → (∀ c ∈ m, 97 ≤ c.toNat ∧ c.toNat ≤ 122) → l ++ 58 :: r = m ++ 58 :: q → l = m := by
 intro l; induction l with
 | nil =>
  intro m r q _ hm h; cases m with
  | nil => rfl
  | cons y m =>
   injection h with h1 _; have := hm y (by simp); rw [← h1] at this; exact absurd this (by decide)
 | cons x l ih =>
  intro m r q hl hm h; cases m with
  | nil =>
   injection h with h1 _; have := hl x (by simp); rw [h1] at this; exact absurd this (by decide)
  | cons y m =>
   injection h with h1 h2; rw [h1, ih m r q (fun c hc => hl c (by simp [hc])) (fun c hc => hm c (by simp [hc])) h2]
theorem VN_names {v : List ByteArray} (hv : VN v) : Names v := by
 intro i j hi hj hne s rest h; rw [Bool.eq_false_iff]; intro c; have e := pfx_to c; rw [h, toL_app, toL_app, show (⟨#[58]⟩ : ByteArray).toList = [58] from toL_lit [58], List.append_assoc, List.append_assoc] at e; have e2 := colon_inj _ _ _ _ (hv j hj).1 (hv i hi).1 e; have e3 := toL_ext e2; have h1 := (hv i hi).2; rw [← e3, (hv j hj).2] at h1; omega
theorem nmEnd_go {s : ByteArray} : ∀ (l : List UInt8) (m p : Nat) (rest : List UInt8), (∀ c ∈ l, 97 ≤ c.toNat ∧ c.toNat ≤ 122) → s.toList.drop p = l ++ 58 :: rest → l.length < m → nmEnd s m p = p + l.length := by
 intro l; induction l with
 | nil =>
  intro m p rest _ h hm; obtain ⟨m, rfl⟩ : ∃ q, m = q + 1 := ⟨m - 1, by simp at hm; omega⟩; simp only [nmEnd]; rw [bt_at (c := 58) (rest := rest) h, if_neg (by decide)]; rfl
 | cons x l ih =>
  intro m p rest hl h hm; obtain ⟨m, rfl⟩ : ∃ q, m = q + 1 := ⟨m - 1, by simp at hm; omega⟩; simp only [nmEnd]; have hx := hl x (by simp); rw [bt_at (c := x) (rest := l ++ 58 :: rest) h, if_pos (by omega), ih m (p + 1) rest (fun c hc => hl c (by simp [hc])) (by rw [← List.drop_drop, h]; rfl) (by simp at hm; omega), List.length_cons]; omega
theorem nm_text {v : List ByteArray} (hv : VN v) {s : ByteArray} {p j : Nat} (hj : j < v.length) {rest : List UInt8} (hp : p ≤ s.size) (h : s.toList.drop p = v[j].toList ++ 58 :: rest) : nmS v s p false = ((j : Int), p + v[j].size + 1, false) ∧ s.toList.drop (p + v[j].size + 1) = rest ∧ p + v[j].size + 1 ≤ s.size := by
 have hl := drop_len hp h; simp only [List.length_append, List.length_cons] at hl; have hz : v[j].toList.length = v[j].size := size_toL _; have h1 : s.toList.drop (p + v[j].size) = 58 :: rest := by rw [← List.drop_drop, h, ← hz, List.drop_left']; rfl
 have hn : nmEnd s (s.size - p) p = p + v[j].size := by
  rw [nmEnd_go v[j].toList (s.size - p) p rest (hv j hj).1 h (by omega), hz]
 have hx : s.extract p (p + v[j].size) = v[j] := toL_ext (by
  rw [ext_toL, List.drop_take, h]; exact List.take_left' (by rw [hz]; omega))
 have hm := mu_of (a := (⟨#[58]⟩ : ByteArray)) (s := s) (p := p + v[j].size) (rest := rest) (by omega) (by rw [show (⟨#[58]⟩ : ByteArray).toList = [58] from toL_lit [58], h1]; rfl); refine ⟨?_, hm.2⟩; unfold nmS; rw [hn, hx, (hv j hj).2, show (false || decide ((j : Int) < 0)) = false from by rw [Bool.false_or]; exact decide_eq_false (by omega), hm.1]; rfl
theorem aS_text {v : List ByteArray} (hv : VN v) {n : Nat} {y : S32} {t : List UInt8} (h : TX v n y t) : ∀ N, n ≤ N → ∀ (s : ByteArray) (p : Nat) (rest : List UInt8), p ≤ s.size → s.toList.drop p = t ++ rest → aS v s N p false = (y, p + t.length, false) ∧ s.toList.drop (p + t.length) = rest ∧ p + t.length ≤ s.size := by
 have Z : ∀ (s : ByteArray) (p : Nat) (b : Bool × Nat), b.1 = false → ¬ b.1 = true := fun _ _ b h => by rw [h]; decide
 have H33 : ∀ (s : ByteArray) (p : Nat) (a : Int) (rest : List UInt8), isHead a → s.toList.drop p = headS a ++ rest → (tk s p false (⟨#[33]⟩ : ByteArray)).1 = false := fun s p a rest ha h => by
  obtain ⟨x, q, e, n1, _⟩ := head_first ha; exact tk_ne (toL_lit [33]) (by rw [h, e]; rfl) (Ne.symm n1)
 have H1 : isHead 1 := by simp [isHead]
 have H2 : isHead 2 := by simp [isHead]
 have H3 : isHead 3 := by simp [isHead]
 have H4 : isHead 4 := by simp [isHead]
 have H5 : isHead 5 := by simp [isHead]
 have H6 : isHead 6 := by simp [isHead]
 have H7 : isHead 7 := by simp [isHead]
 have H11 : isHead 11 := by simp [isHead]
 have H12 : isHead 12 := by simp [isHead]
 have HZ : ∀ a, (headB a).size = (headS a).length := fun a => by rw [← size_toL, head_toL]
 induction h with
 | tt n =>
  intro N hn s p rest hp hs; obtain ⟨N, rfl⟩ : ∃ m, N = m + 1 := ⟨N - 1, by omega⟩; have hy := tk_of (a := headB 1) hp (by rw [head_toL]; exact hs); rw [HZ] at hy; refine ⟨?_, hy.2⟩; rw [aS, if_neg (by decide), hy.1]; rfl
 | nv n a j u ha hj h0 h1 =>
  intro N hn s p rest hp hs; obtain ⟨N, rfl⟩ : ∃ m, N = m + 1 := ⟨N - 1, by omega⟩; rw [toL_app, show (⟨#[58]⟩ : ByteArray).toList = [58] from toL_lit [58], List.append_assoc] at hs; have hl : (headS a ++ ((v[j] ++ (⟨#[58]⟩ : ByteArray)).toList ++ [lgC u])).length = (headS a).length + v[j].size + 2 := by rw [toL_app, show (⟨#[58]⟩ : ByteArray).toList = [58] from toL_lit [58]]; simp [size_toL]; omega
  rw [hl]; have hy := tk_of (a := headB a) hp (by rw [head_toL]; exact hs); rw [HZ] at hy; obtain ⟨e1, d1, b1⟩ := hy; obtain ⟨e2, d2, b2⟩ := nm_text hv hj b1 (rest := lgC u :: rest) (by rw [d1]; simp); obtain ⟨e3, d3, b3⟩ := vr_text b2 h0 h1 d2; rw [show p + ((headS a).length + v[j].size + 2) = p + (headS a).length + v[j].size + 1 + 1 by omega]; refine ⟨?_, d3, by omega⟩; rcases ha with rfl | rfl
  ·rw [aS, if_neg (by decide), if_neg (by rw [tk_head H2 H1 (by decide) hs]; decide), if_pos (by rw [e1]), e1]; unfold nvS; rw [e2]; dsimp only; rw [e3]
  ·rw [aS, if_neg (by decide), if_neg (by rw [tk_head H3 H1 (by decide) hs]; decide), if_neg (by rw [tk_head H3 H2 (by decide) hs]; decide), if_pos (by rw [e1]), e1]; unfold nvS; rw [e2]; dsimp only; rw [e3]
 | sh n u h0 h1 =>
  intro N hn s p rest hp hs; obtain ⟨N, rfl⟩ : ∃ m, N = m + 1 := ⟨N - 1, by omega⟩; rw [List.append_assoc] at hs; have hy := tk_of (a := headB 4) hp (by rw [head_toL]; exact hs); rw [HZ] at hy; obtain ⟨e1, d1, b1⟩ := hy; obtain ⟨e3, d3, b3⟩ := vr_text b1 h0 h1 (rest := rest) (by rw [d1]; rfl); have hl : (headS 4 ++ [lgC u]).length = (headS 4).length + 1 := by simp
  rw [hl]; refine ⟨?_, by rw [← Nat.add_assoc]; exact d3, by omega⟩; rw [aS, if_neg (by decide), if_neg (by rw [tk_head H4 H1 (by decide) hs]; decide), if_neg (by rw [tk_head H4 H2 (by decide) hs]; decide), if_neg (by rw [tk_head H4 H3 (by decide) hs]; decide), if_pos (by rw [e1]), e1]; dsimp only; rw [e3]; rfl
 | pr n a u w ha h0 h1 h2 h3 =>
  intro N hn s p rest hp hs; obtain ⟨N, rfl⟩ : ∃ m, N = m + 1 := ⟨N - 1, by omega⟩; rw [List.append_assoc] at hs; have hy := tk_of (a := headB a) hp (by rw [head_toL]; exact hs); rw [HZ] at hy; obtain ⟨e1, d1, b1⟩ := hy; obtain ⟨e2, d2, b2⟩ := vr_text b1 h0 h1 (rest := lgC w :: rest) (by rw [d1]; rfl); obtain ⟨e3, d3, b3⟩ := vr_text b2 h2 h3 d2; have hl : (headS a ++ [lgC u, lgC w]).length = (headS a).length + 2 := by simp
  rw [hl]; refine ⟨?_, by rw [show p + ((headS a).length + 2) = p + (headS a).length + 1 + 1 by omega]; exact d3, by omega⟩; rcases ha with rfl | rfl | rfl
  ·rw [aS, if_neg (by decide), if_neg (by rw [tk_head H5 H1 (by decide) hs]; decide), if_neg (by rw [tk_head H5 H2 (by decide) hs]; decide), if_neg (by rw [tk_head H5 H3 (by decide) hs]; decide), if_neg (by rw [tk_head H5 H4 (by decide) hs]; decide), if_pos (by rw [e1]), e1]; unfold prS; dsimp only; rw [e2]; dsimp only; rw [e3]; rfl
  ·rw [aS, if_neg (by decide), if_neg (by rw [tk_head H6 H1 (by decide) hs]; decide), if_neg (by rw [tk_head H6 H2 (by decide) hs]; decide), if_neg (by rw [tk_head H6 H3 (by decide) hs]; decide), if_neg (by rw [tk_head H6 H4 (by decide) hs]; decide), if_neg (by rw [tk_head H6 H5 (by decide) hs]; decide), if_pos (by rw [e1]), e1]; unfold prS; dsimp only; rw [e2]; dsimp only; rw [e3]; rfl
  ·rw [aS, if_neg (by decide), if_neg (by rw [tk_head H7 H1 (by decide) hs]; decide), if_neg (by rw [tk_head H7 H2 (by decide) hs]; decide), if_neg (by rw [tk_head H7 H3 (by decide) hs]; decide), if_neg (by rw [tk_head H7 H4 (by decide) hs]; decide), if_neg (by rw [tk_head H7 H5 (by decide) hs]; decide), if_neg (by rw [tk_head H7 H6 (by decide) hs]; decide), if_pos (by rw [e1]), e1]; unfold prS; dsimp only; rw [e2]; dsimp only; rw [e3]; rfl
 | no n x t h ih =>
  intro N hn s p rest hp hs; obtain ⟨N, rfl⟩ : ∃ m, N = m + 1 := ⟨N - 1, by omega⟩; have hk : ∀ a, isHead a → (tk s p false (headB a)).1 = false := fun a ha => by
   obtain ⟨q, r, e, n1, _⟩ := head_first ha; exact tk_ne (by rw [head_toL]; exact e) hs n1
  obtain ⟨e1, d1, b1⟩ := tk_of (a := (⟨#[33]⟩ : ByteArray)) (rest := t ++ rest) hp (by rw [show (⟨#[33]⟩ : ByteArray).toList = [33] from toL_lit [33], hs]; rfl); have hz : (⟨#[33]⟩ : ByteArray).size = 1 := rfl; rw [hz] at e1 d1 b1; obtain ⟨e2, d2, b2⟩ := ih N (by omega) s (p + 1) rest b1 d1; rw [List.length_cons, show p + (t.length + 1) = p + 1 + t.length by omega]; refine ⟨?_, d2, b2⟩; rw [aS, if_neg (by decide), if_neg (by rw [hk 1 H1]; decide), if_neg (by rw [hk 2 H2]; decide), if_neg (by rw [hk 3 H3]; decide), if_neg (by rw [hk 4 H4]; decide), if_neg (by rw [hk 5 H5]; decide), if_neg (by rw [hk 6 H6]; decide), if_neg (by rw [hk 7 H7]; decide), if_pos (by rw [e1]), e1]; dsimp only; rw [e2]
 | an n a x y t u ha h k ihx ihy =>
  intro N hn s p rest hp hs; obtain ⟨N, rfl⟩ : ∃ m, N = m + 1 := ⟨N - 1, by omega⟩; have hs0 : s.toList.drop p = 40 :: (t ++ ((if a = 9 then 38 else 124) :: (u ++ (41 :: rest)))) := by rw [hs]; simp
  have hk : ∀ a, isHead a → (tk s p false (headB a)).1 = false := fun a ha => by
   obtain ⟨q, r, e, _, n1⟩ := head_first ha; exact tk_ne (by rw [head_toL]; exact e) hs0 n1
  have h33 : (tk s p false (⟨#[33]⟩ : ByteArray)).1 = false := tk_ne (toL_lit [33]) hs0 (by decide); obtain ⟨e1, d1, b1⟩ := mu_of (a := (⟨#[40]⟩ : ByteArray)) (rest := t ++ ((if a = 9 then 38 else 124) :: (u ++ (41 :: rest)))) hp (by rw [show (⟨#[40]⟩ : ByteArray).toList = [40] from toL_lit [40], hs0]; rfl); have hz : (⟨#[40]⟩ : ByteArray).size = 1 := rfl; rw [hz] at e1 d1 b1; obtain ⟨e2, d2, b2⟩ := ihx N (by omega) s (p + 1) _ b1 d1; have hL : p + (40 :: (t ++ ((if a = 9 then 38 else 124) :: (u ++ [41])))).length = p + 1 + t.length + 1 + u.length + 1 := by simp only [List.length_cons, List.length_append, List.length_nil]; omega
  rw [hL]; have hS : aS v s (N + 1) p false = twS s (aS v s N) (p + 1) := by
   rw [aS, if_neg (by decide), if_neg (by rw [hk 1 H1]; decide), if_neg (by rw [hk 2 H2]; decide), if_neg (by rw [hk 3 H3]; decide), if_neg (by rw [hk 4 H4]; decide), if_neg (by rw [hk 5 H5]; decide), if_neg (by rw [hk 6 H6]; decide), if_neg (by rw [hk 7 H7]; decide), if_neg (by rw [h33]; decide), if_neg (by rw [hk 11 H11]; decide), if_neg (by rw [hk 12 H12]; decide), if_neg (by rw [e1]; simp), e1]
  rw [hS]; unfold twS; rw [e2]; dsimp only; rcases ha with rfl | rfl
  ·obtain ⟨e3, d3, b3⟩ := tk_of (a := (⟨#[38]⟩ : ByteArray)) (rest := u ++ (41 :: rest)) b2 (by rw [show (⟨#[38]⟩ : ByteArray).toList = [38] from toL_lit [38], d2]; rfl); have hz3 : (⟨#[38]⟩ : ByteArray).size = 1 := rfl; rw [hz3] at e3 d3 b3; obtain ⟨e4, d4, b4⟩ := ihy N (by omega) s _ _ b3 d3; obtain ⟨e5, d5, b5⟩ := mu_of (a := (⟨#[41]⟩ : ByteArray)) (rest := rest) b4 (by rw [show (⟨#[41]⟩ : ByteArray).toList = [41] from toL_lit [41], d4]; rfl); have hz5 : (⟨#[41]⟩ : ByteArray).size = 1 := rfl; rw [hz5] at e5 d5 b5; refine ⟨?_, d5, b5⟩; rw [if_pos (by rw [e3]), e3]; unfold t2S; dsimp only; rw [if_neg (by decide), e4]; dsimp only; rw [e5]
  ·have h38 : (tk s (p + 1 + t.length) false (⟨#[38]⟩ : ByteArray)).1 = false := tk_ne (y := 124) (q := u ++ (41 :: rest)) (toL_lit [38]) (by rw [d2]; rfl) (by decide); obtain ⟨e3, d3, b3⟩ := mu_of (a := (⟨#[124]⟩ : ByteArray)) (rest := u ++ (41 :: rest)) b2 (by rw [show (⟨#[124]⟩ : ByteArray).toList = [124] from toL_lit [124], d2]; rfl); have hz3 : (⟨#[124]⟩ : ByteArray).size = 1 := rfl; rw [hz3] at e3 d3 b3; obtain ⟨e4, d4, b4⟩ := ihy N (by omega) s _ _ b3 d3; obtain ⟨e5, d5, b5⟩ := mu_of (a := (⟨#[41]⟩ : ByteArray)) (rest := rest) b4 (by rw [show (⟨#[41]⟩ : ByteArray).toList = [41] from toL_lit [41], d4]; rfl); have hz5 : (⟨#[41]⟩ : ByteArray).size = 1 := rfl; rw [hz5] at e5 d5 b5; refine ⟨?_, d5, b5⟩; rw [if_neg (by rw [h38]; decide), e3]; unfold t2S; dsimp only; rw [if_neg (by decide), e4]; dsimp only; rw [e5]
 | bd n a u x t ha h0 h1 h ih =>
  intro N hn s p rest hp hs; obtain ⟨N, rfl⟩ : ∃ m, N = m + 1 := ⟨N - 1, by omega⟩; rw [List.append_assoc] at hs; have hy := tk_of (a := headB a) hp (by rw [head_toL]; exact hs); rw [HZ] at hy; obtain ⟨e1, d1, b1⟩ := hy; obtain ⟨e2, d2, b2⟩ := vr_text b1 h0 h1 (rest := 46 :: (t ++ rest)) (by rw [d1]; rfl); obtain ⟨e3, d3, b3⟩ := mu_of (a := (⟨#[46]⟩ : ByteArray)) (rest := t ++ rest) b2 (by rw [show (⟨#[46]⟩ : ByteArray).toList = [46] from toL_lit [46], d2]; rfl); have hz3 : (⟨#[46]⟩ : ByteArray).size = 1 := rfl; rw [hz3] at e3 d3 b3; obtain ⟨e4, d4, b4⟩ := ih N (by omega) s _ rest b3 d3; have hL : p + (headS a ++ (lgC u :: (46 :: t))).length = p + (headS a).length + 1 + 1 + t.length := by simp only [List.length_append, List.length_cons]; omega
  rw [hL]; refine ⟨?_, d4, b4⟩; have h33 : (tk s p false (⟨#[33]⟩ : ByteArray)).1 = false := H33 s p a _ (by rcases ha with rfl | rfl <;> assumption) hs; rcases ha with rfl | rfl
  ·rw [aS, if_neg (by decide), if_neg (by rw [tk_head H11 H1 (by decide) hs]; decide), if_neg (by rw [tk_head H11 H2 (by decide) hs]; decide), if_neg (by rw [tk_head H11 H3 (by decide) hs]; decide), if_neg (by rw [tk_head H11 H4 (by decide) hs]; decide), if_neg (by rw [tk_head H11 H5 (by decide) hs]; decide), if_neg (by rw [tk_head H11 H6 (by decide) hs]; decide), if_neg (by rw [tk_head H11 H7 (by decide) hs]; decide), if_neg (by rw [h33]; decide), if_pos (by rw [e1]), e1]; unfold bdS; dsimp only; rw [e2]; dsimp only; rw [e3]; dsimp only; rw [e4]
  ·rw [aS, if_neg (by decide), if_neg (by rw [tk_head H12 H1 (by decide) hs]; decide), if_neg (by rw [tk_head H12 H2 (by decide) hs]; decide), if_neg (by rw [tk_head H12 H3 (by decide) hs]; decide), if_neg (by rw [tk_head H12 H4 (by decide) hs]; decide), if_neg (by rw [tk_head H12 H5 (by decide) hs]; decide), if_neg (by rw [tk_head H12 H6 (by decide) hs]; decide), if_neg (by rw [tk_head H12 H7 (by decide) hs]; decide), if_neg (by rw [h33]; decide), if_neg (by rw [tk_head H12 H11 (by decide) hs]; decide), if_pos (by rw [e1]), e1]; unfold bdS; dsimp only; rw [e2]; dsimp only; rw [e3]; dsimp only; rw [e4]
def LT2 : Nat → S32 → Prop
 | 0, _ => False
 | n + 1, x => x.f4.length ≤ 2 ∧ ∀ y ∈ x.f4, LT2 n y
theorem LT2_0 (n : Nat) (a b c d : Int) : LT2 (n + 1) ⟨a, b, c, d, []⟩ := ⟨by simp, by simp⟩
theorem LT2_1 {n : Nat} (a b c d : Int) {x : S32} (h : LT2 n x) : LT2 (n + 1) ⟨a, b, c, d, [x]⟩ := ⟨by simp, by simpa using h⟩
theorem LT2_2 {n : Nat} (a b c d : Int) {x y : S32} (h : LT2 n x) (k : LT2 n y) : LT2 (n + 1) ⟨a, b, c, d, [x, y]⟩ := ⟨by simp, by simpa using ⟨h, k⟩⟩
theorem RI_lev (v : List ByteArray) : ∀ (n : Nat) (s : ByteArray), (RI v n s).2.1 = true → LT2 n (RI v n s).1 := by
 intro n; induction n with
 | zero => intro s h; cases h
 | succ n ih =>
  intro s h; have sec : ∀ (a : Int) (x : S32) (s : ByteArray), LT2 n x → (secondI (RI v n) a x s).2.1 = true → LT2 (n + 1) (secondI (RI v n) a x s).1 := by
   intro a x s hx h; unfold secondI at h ⊢; by_cases c : (RI v n s).2.1 = true
   ·rw [if_pos c] at h ⊢; exact LT2_2 _ _ _ _ hx (ih s c)
   ·rw [if_neg c] at h; cases h
  rw [RI] at h ⊢; by_cases c1 : pfxB (⟨#[33]⟩ : ByteArray) s = true
  ·rw [if_pos c1] at h ⊢; exact LT2_1 _ _ _ _ (ih _ h)
  rw [if_neg c1] at h ⊢; by_cases c2 : pfxB (⟨#[40]⟩ : ByteArray) s = true
  ·rw [if_pos c2] at h ⊢; unfold pairI at h ⊢; by_cases c3 : (RI v n (dropB (⟨#[40]⟩ : ByteArray) s)).2.1 = true
   ·rw [if_pos c3] at h ⊢; by_cases c4 : pfxB (⟨#[38]⟩ : ByteArray) (RI v n (dropB (⟨#[40]⟩ : ByteArray) s)).2.2 = true
    ·rw [if_pos c4] at h ⊢; exact sec _ _ _ (ih _ c3) h
    ·rw [if_neg c4] at h ⊢; by_cases c5 : pfxB (⟨#[124]⟩ : ByteArray) (RI v n (dropB (⟨#[40]⟩ : ByteArray) s)).2.2 = true
     ·rw [if_pos c5] at h ⊢; exact sec _ _ _ (ih _ c3) h
     ·rw [if_neg c5] at h; cases h
   ·rw [if_neg c3] at h; cases h
  rw [if_neg c2] at h ⊢; by_cases c6 : kindOf s = 0
  ·rw [if_pos c6] at h; cases h
  rw [if_neg c6] at h ⊢; unfold restI at h ⊢; generalize (kI v (dropB (headB (kindOf s)) s) (kindOf s)).1 = K at h ⊢; generalize (uI (kI v (dropB (headB (kindOf s)) s) (kindOf s)).2 (kindOf s)).1 = U at h ⊢; generalize (vI (uI (kI v (dropB (headB (kindOf s)) s) (kindOf s)).2 (kindOf s)).2 (kindOf s)).1 = V at h ⊢; generalize (vI (uI (kI v (dropB (headB (kindOf s)) s) (kindOf s)).2 (kindOf s)).2 (kindOf s)).2 = q at h ⊢; unfold endI at h ⊢; by_cases c7 : (q.1 && bi (kindOf s)) = true
  ·rw [if_pos c7] at h ⊢; by_cases c8 : pfxB (⟨#[46]⟩ : ByteArray) q.2 = true
   ·rw [if_pos c8] at h ⊢; exact LT2_1 _ _ _ _ (ih _ h)
   ·rw [if_neg c8] at h; cases h
  ·rw [if_neg c7] at h ⊢; exact LT2_0 _ _ _ _ _
theorem tk_bad {s : ByteArray} {p : Nat} {a : ByteArray} (c : (tk s p true a).1 = true) : False := by unfold tk at c; rw [if_pos rfl] at c; cases c
theorem aS_bad (v : List ByteArray) (s : ByteArray) (n p : Nat) : (aS v s n p true).2.2 = true := by
 cases n with
 | zero => rfl
 | succ n => rw [aS, if_pos rfl]
theorem mu_bad (s : ByteArray) (p : Nat) (a : ByteArray) : (mu s p true a).2 = true := by unfold mu; rw [if_pos rfl]
theorem lev_ite {c : Prop} [Decidable c] {a b : TS} {n : Nat} (ha : a.2.2 = false → LT2 n a.1) (hb : b.2.2 = false → LT2 n b.1) : (if c then a else b).2.2 = false → LT2 n (if c then a else b).1 := by split <;> assumption
theorem aS_lev (v : List ByteArray) (s : ByteArray) : ∀ (n p : Nat), (aS v s n p false).2.2 = false → LT2 n (aS v s n p false).1 := by
 intro n; induction n with
 | zero => intro p h; cases h
 | succ n ih =>
  intro p h; have ih2 : ∀ (p : Nat) (b : Bool), (aS v s n p b).2.2 = false → LT2 n (aS v s n p b).1 := fun p b hb => by
   cases b with
   | false => exact ih p hb
   | true => rw [aS_bad] at hb; cases hb
  have bd : ∀ (a : Int) (p : Nat), (bdS s (aS v s n) a p).2.2 = false → LT2 (n + 1) (bdS s (aS v s n) a p).1 := fun a p hb => LT2_1 _ _ _ _ (ih2 _ _ hb)
  have t2 : ∀ (a : Int) (x : S32) (q : Nat × Bool), LT2 n x → (t2S s (aS v s n) a x q).2.2 = false → LT2 (n + 1) (t2S s (aS v s n) a x q).1 := fun a x q hx hb => by
   unfold t2S at hb ⊢; by_cases c : q.2 = true
   ·rw [if_pos c]; exact LT2_0 _ _ _ _ _
   ·rw [if_neg c] at hb ⊢; refine LT2_2 _ _ _ _ hx (ih2 _ _ ?_); cases hc : (aS v s n q.1 false).2.2 with
    | false => rfl
    | true => rw [hc, mu_bad] at hb; cases hb
  have tw : ∀ (p : Nat), (twS s (aS v s n) p).2.2 = false → LT2 (n + 1) (twS s (aS v s n) p).1 := fun p hb => by
   have hx : (aS v s n p false).2.2 = false := by
    cases hc : (aS v s n p false).2.2 with
    | false => rfl
    | true =>
     exfalso; unfold twS t2S at hb; rw [hc] at hb; have k1 : ¬ (tk s (aS v s n p false).2.1 true (⟨#[38]⟩ : ByteArray)).1 = true := fun c => tk_bad c
     rw [if_neg k1] at hb; rw [if_pos (mu_bad _ _ _)] at hb; rw [mu_bad] at hb; cases hb
   have lx := ih2 _ _ hx; unfold twS at hb ⊢; split at hb
   ·rename_i c; rw [if_pos c]; exact t2 _ _ _ lx hb
   ·rename_i c; rw [if_neg c]; exact t2 _ _ _ lx hb
  revert h; rw [aS]; repeat' (with_reducible refine lev_ite ?_ ?_)
  all_goals intro h
  all_goals first
   | exact LT2_0 _ _ _ _ _
   | exact LT2_1 _ _ _ _ (ih2 _ _ h)
   | exact bd _ _ h
   | exact tw _ h
   | exact absurd h (by simp)
def lgB (u : Int) : ByteArray := (⟨#[117, 118, 119, 122]⟩ : ByteArray).extract (u : Int).toNat ((wrap64 (u + 1)) : Int).toNat
theorem lg_cases (u : Int) (h0 : 0 ≤ u) (h1 : u < 4) : spec_l11Logic.f u = some (lgB u) ∧ impl_logicName.f u = some (lgB u) ∧ (lgB u).size = 1 := by
 have w : wrap64 (u + 1) = u + 1 := w64 (by omega) (by omega); refine ⟨?_, ?_, ?_⟩
 ·unfold spec_l11Logic.f; rw [if_pos h0, if_pos (by omega), if_pos (by omega)]; rfl
 ·unfold impl_logicName.f; rw [if_pos h0, if_pos (by omega), if_pos (by omega)]; rfl
 ·have : u = 0 ∨ u = 1 ∨ u = 2 ∨ u = 3 := by omega
  rcases this with rfl | rfl | rfl | rfl <;> decide +kernel
theorem kids (v : List ByteArray) (a p q w : Int) (l : List S32) (ts : List ByteArray) (hlen : ts.length = l.length) (hl : l.length ≤ 1048576)
  (h : ∀ i, i < l.length → Ev (fun k => spec_l11Text.f k v (l.getD i z32).f0 (l.getD i z32).f1 (l.getD i z32).f2 (l.getD i z32).f3 (l.getD i z32).f4) (ts.getD i ByteArray.empty)) (r : ByteArray)
  (hend : ∃ K, ∀ k, K ≤ k → spec_l11Text.l0 (k + 1) v ts (l.length : Int) a p q w l = some r) : Ev (fun k => spec_l11Text.f k v a p q w l) r := by
 have hc := loop_is (σ := List ByteArray) l.length (fun k s i => spec_l11Text.l0 k v s i a p q w l) (fun i s => s = ts.take i) r
  (fun i s hi hs => by
   obtain ⟨K, hK⟩ := h i hi; refine Or.inl ⟨ts.take (i + 1), rfl, K, fun k hk => ?_⟩; have e := hK k hk; dsimp only at e; rw [spec_l11Text.l0, if_pos (by omega), if_pos (by omega), rdG, e]; simp only [obs]; rw [if_pos (by rw [hs, List.length_take]; omega), up64 (by omega), hs]; congr 1
   rw [List.take_add_one, List.getElem?_eq_getElem (by omega), get_rep _ _ _ (show i < ts.length by omega)]; rfl)
  (fun s hs => by
   have e : s = ts := by rw [hs, ← hlen, List.take_length]
   rw [e]; exact hend)
  [] (by simp)
 exact Ev.next (f := fun k => spec_l11Text.l0 k v [] 0 a p q w l) ⟨0, fun k _ => by rw [spec_l11Text.f]⟩ hc
theorem tx1 (v : List ByteArray) (p q w : Int) : ∃ r : ByteArray, r = (⟨#[116, 114, 117, 101]⟩ : ByteArray) ∧ r.size ≤ 20 ∧ Ev (fun k => spec_l11Text.f k v 1 p q w ([] : List S32)) r ∧ Ev (fun k => impl_Formula_text.f k 1 p q w ([] : List S32) v) r := by
 have z0 : (⟨#[116, 114, 117, 101]⟩ : ByteArray).size = 4 := rfl; have z1 : (⟨#[124]⟩ : ByteArray).size = 1 := rfl; have z2 : (⟨#[33]⟩ : ByteArray).size = 1 := rfl; have z3 : (⟨#[38]⟩ : ByteArray).size = 1 := rfl; have z4 : (⟨#[40]⟩ : ByteArray).size = 1 := rfl; have z5 : (⟨#[41]⟩ : ByteArray).size = 1 := rfl; have z6 : (⟨#[46]⟩ : ByteArray).size = 1 := rfl; have z7 : (⟨#[58]⟩ : ByteArray).size = 1 := rfl; refine ⟨(⟨#[116, 114, 117, 101]⟩ : ByteArray), rfl, (by first | omega | (simp only [ByteArray.size_append, z0, z1, z2, z3, z4, z5, z6, z7]; omega)), kids v 1 p q w ([] : List S32) ([] : List ByteArray) rfl (by simp) ?_ _ ⟨0, fun k _ => ?_⟩, ⟨10, fun k hk => ?_⟩⟩
 ·intro i hi; exact absurd hi (by simp)
 ·rw [spec_l11Text.l0, if_neg (by simp), if_pos (by decide)]
 ·obtain ⟨m, rfl⟩ : ∃ m, k = m + 10 := ⟨k - 10, by omega⟩; show impl_Formula_text.f (m + 9 + 1) _ _ _ _ _ _ = _
  rw [impl_Formula_text.f, show headOf.f 1 = some (⟨#[116, 114, 117, 101]⟩ : ByteArray) from rfl]; simp only [obs]; rw [if_neg (by decide), impl_Formula_text.j0, if_neg (by decide), if_neg (by decide), if_neg (by decide), if_neg (by decide), impl_Formula_text.j1, if_neg (by decide), if_neg (by decide), if_neg (by decide), if_neg (by decide), if_neg (by decide), impl_Formula_text.j2, if_neg (by decide)]
theorem tx2 (v : List ByteArray) (p q w : Int) (p0 : 0 ≤ p) (p1 : p < (v.length : Int)) (ps : (rdOf ByteArray.empty v p).size ≤ 2) (q0 : 0 ≤ q) (q1 : q < 4) : ∃ r : ByteArray, r = (((⟨#[111, 110, 32]⟩ : ByteArray) ++ (rdOf ByteArray.empty v p)) ++ (⟨#[58]⟩ : ByteArray)) ++ lgB q ∧ r.size ≤ 20 ∧ Ev (fun k => spec_l11Text.f k v 2 p q w ([] : List S32)) r ∧ Ev (fun k => impl_Formula_text.f k 2 p q w ([] : List S32) v) r := by
 have z0 : (⟨#[111, 110, 32]⟩ : ByteArray).size = 3 := rfl; have z1 : (⟨#[124]⟩ : ByteArray).size = 1 := rfl; have z2 : (⟨#[33]⟩ : ByteArray).size = 1 := rfl; have z3 : (⟨#[38]⟩ : ByteArray).size = 1 := rfl; have z4 : (⟨#[40]⟩ : ByteArray).size = 1 := rfl; have z5 : (⟨#[41]⟩ : ByteArray).size = 1 := rfl; have z6 : (⟨#[46]⟩ : ByteArray).size = 1 := rfl; have z7 : (⟨#[58]⟩ : ByteArray).size = 1 := rfl; obtain ⟨q2, q3, q4⟩ := lg_cases q q0 q1; refine ⟨(((⟨#[111, 110, 32]⟩ : ByteArray) ++ (rdOf ByteArray.empty v p)) ++ (⟨#[58]⟩ : ByteArray)) ++ lgB q, rfl, (by first | omega | (simp only [ByteArray.size_append, z0, z1, z2, z3, z4, z5, z6, z7, q4]; omega)), kids v 2 p q w ([] : List S32) ([] : List ByteArray) rfl (by simp) ?_ _ ⟨0, fun k _ => ?_⟩, ⟨10, fun k hk => ?_⟩⟩
 ·intro i hi; exact absurd hi (by simp)
 ·rw [spec_l11Text.l0, if_neg (by simp), if_neg (by decide), if_pos (by decide), if_pos p0, if_pos p1, if_pos (by first | omega | (simp only [ByteArray.size_append, z0, z1, z2, z3, z4, z5, z6, z7, q4]; omega)), if_pos (by first | omega | (simp only [ByteArray.size_append, z0, z1, z2, z3, z4, z5, z6, z7, q4]; omega)), q2]; simp only [obs]; rw [if_pos (by first | omega | (simp only [ByteArray.size_append, z0, z1, z2, z3, z4, z5, z6, z7, q4]; omega))]
 ·obtain ⟨m, rfl⟩ : ∃ m, k = m + 10 := ⟨k - 10, by omega⟩; show impl_Formula_text.f (m + 9 + 1) _ _ _ _ _ _ = _
  rw [impl_Formula_text.f, show headOf.f 2 = some (⟨#[111, 110, 32]⟩ : ByteArray) from rfl]; simp only [obs]; rw [if_pos (by decide), impl_Formula_text.j0, if_pos (by decide), if_pos p0, if_pos p1, if_pos (by first | omega | (simp only [ByteArray.size_append, z0, z1, z2, z3, z4, z5, z6, z7, q4]; omega)), if_pos (by first | omega | (simp only [ByteArray.size_append, z0, z1, z2, z3, z4, z5, z6, z7, q4]; omega)), q3]; simp only [obs]; rw [if_pos (by first | omega | (simp only [ByteArray.size_append, z0, z1, z2, z3, z4, z5, z6, z7, q4]; omega))]
theorem tx3 (v : List ByteArray) (p q w : Int) (p0 : 0 ≤ p) (p1 : p < (v.length : Int)) (ps : (rdOf ByteArray.empty v p).size ≤ 2) (q0 : 0 ≤ q) (q1 : q < 4) : ∃ r : ByteArray, r = (((⟨#[102, 114, 111, 109, 32]⟩ : ByteArray) ++ (rdOf ByteArray.empty v p)) ++ (⟨#[58]⟩ : ByteArray)) ++ lgB q ∧ r.size ≤ 20 ∧ Ev (fun k => spec_l11Text.f k v 3 p q w ([] : List S32)) r ∧ Ev (fun k => impl_Formula_text.f k 3 p q w ([] : List S32) v) r := by
 have z0 : (⟨#[102, 114, 111, 109, 32]⟩ : ByteArray).size = 5 := rfl; have z1 : (⟨#[124]⟩ : ByteArray).size = 1 := rfl; have z2 : (⟨#[33]⟩ : ByteArray).size = 1 := rfl; have z3 : (⟨#[38]⟩ : ByteArray).size = 1 := rfl; have z4 : (⟨#[40]⟩ : ByteArray).size = 1 := rfl; have z5 : (⟨#[41]⟩ : ByteArray).size = 1 := rfl; have z6 : (⟨#[46]⟩ : ByteArray).size = 1 := rfl; have z7 : (⟨#[58]⟩ : ByteArray).size = 1 := rfl; obtain ⟨q2, q3, q4⟩ := lg_cases q q0 q1; refine ⟨(((⟨#[102, 114, 111, 109, 32]⟩ : ByteArray) ++ (rdOf ByteArray.empty v p)) ++ (⟨#[58]⟩ : ByteArray)) ++ lgB q, rfl, (by first | omega | (simp only [ByteArray.size_append, z0, z1, z2, z3, z4, z5, z6, z7, q4]; omega)), kids v 3 p q w ([] : List S32) ([] : List ByteArray) rfl (by simp) ?_ _ ⟨0, fun k _ => ?_⟩, ⟨10, fun k hk => ?_⟩⟩
 ·intro i hi; exact absurd hi (by simp)
 ·rw [spec_l11Text.l0, if_neg (by simp), if_neg (by decide), if_neg (by decide), if_pos (by decide), if_pos p0, if_pos p1, if_pos (by first | omega | (simp only [ByteArray.size_append, z0, z1, z2, z3, z4, z5, z6, z7, q4]; omega)), if_pos (by first | omega | (simp only [ByteArray.size_append, z0, z1, z2, z3, z4, z5, z6, z7, q4]; omega)), q2]; simp only [obs]; rw [if_pos (by first | omega | (simp only [ByteArray.size_append, z0, z1, z2, z3, z4, z5, z6, z7, q4]; omega))]
 ·obtain ⟨m, rfl⟩ : ∃ m, k = m + 10 := ⟨k - 10, by omega⟩; show impl_Formula_text.f (m + 9 + 1) _ _ _ _ _ _ = _
  rw [impl_Formula_text.f, show headOf.f 3 = some (⟨#[102, 114, 111, 109, 32]⟩ : ByteArray) from rfl]; simp only [obs]; rw [if_neg (by decide), impl_Formula_text.j0, if_pos (by decide), if_pos p0, if_pos p1, if_pos (by first | omega | (simp only [ByteArray.size_append, z0, z1, z2, z3, z4, z5, z6, z7, q4]; omega)), if_pos (by first | omega | (simp only [ByteArray.size_append, z0, z1, z2, z3, z4, z5, z6, z7, q4]; omega)), q3]; simp only [obs]; rw [if_pos (by first | omega | (simp only [ByteArray.size_append, z0, z1, z2, z3, z4, z5, z6, z7, q4]; omega))]
theorem tx4 (v : List ByteArray) (p q w : Int) (q0 : 0 ≤ q) (q1 : q < 4) : ∃ r : ByteArray, r = (⟨#[115, 104, 97, 114, 101, 100, 58]⟩ : ByteArray) ++ lgB q ∧ r.size ≤ 20 ∧ Ev (fun k => spec_l11Text.f k v 4 p q w ([] : List S32)) r ∧ Ev (fun k => impl_Formula_text.f k 4 p q w ([] : List S32) v) r := by
 have z0 : (⟨#[115, 104, 97, 114, 101, 100, 58]⟩ : ByteArray).size = 7 := rfl; have z1 : (⟨#[124]⟩ : ByteArray).size = 1 := rfl; have z2 : (⟨#[33]⟩ : ByteArray).size = 1 := rfl; have z3 : (⟨#[38]⟩ : ByteArray).size = 1 := rfl; have z4 : (⟨#[40]⟩ : ByteArray).size = 1 := rfl; have z5 : (⟨#[41]⟩ : ByteArray).size = 1 := rfl; have z6 : (⟨#[46]⟩ : ByteArray).size = 1 := rfl; have z7 : (⟨#[58]⟩ : ByteArray).size = 1 := rfl; obtain ⟨q2, q3, q4⟩ := lg_cases q q0 q1; refine ⟨(⟨#[115, 104, 97, 114, 101, 100, 58]⟩ : ByteArray) ++ lgB q, rfl, (by first | omega | (simp only [ByteArray.size_append, z0, z1, z2, z3, z4, z5, z6, z7, q4]; omega)), kids v 4 p q w ([] : List S32) ([] : List ByteArray) rfl (by simp) ?_ _ ⟨0, fun k _ => ?_⟩, ⟨10, fun k hk => ?_⟩⟩
 ·intro i hi; exact absurd hi (by simp)
 ·rw [spec_l11Text.l0, if_neg (by simp), if_neg (by decide), if_neg (by decide), if_neg (by decide), if_pos (by decide), q2]; simp only [obs]; rw [if_pos (by first | omega | (simp only [ByteArray.size_append, z0, z1, z2, z3, z4, z5, z6, z7, q4]; omega))]
 ·obtain ⟨m, rfl⟩ : ∃ m, k = m + 10 := ⟨k - 10, by omega⟩; show impl_Formula_text.f (m + 9 + 1) _ _ _ _ _ _ = _
  rw [impl_Formula_text.f, show headOf.f 4 = some (⟨#[115, 104, 97, 114, 101, 100, 58]⟩ : ByteArray) from rfl]; simp only [obs]; rw [if_neg (by decide), impl_Formula_text.j0, if_neg (by decide), if_pos (by decide), q3]; simp only [obs]; rw [if_pos (by first | omega | (simp only [ByteArray.size_append, z0, z1, z2, z3, z4, z5, z6, z7, q4]; omega))]
theorem tx5 (v : List ByteArray) (p q w : Int) (q0 : 0 ≤ q) (q1 : q < 4) (w0 : 0 ≤ w) (w1 : w < 4) : ∃ r : ByteArray, r = ((⟨#[110, 101, 120, 116, 58]⟩ : ByteArray) ++ lgB q) ++ lgB w ∧ r.size ≤ 20 ∧ Ev (fun k => spec_l11Text.f k v 5 p q w ([] : List S32)) r ∧ Ev (fun k => impl_Formula_text.f k 5 p q w ([] : List S32) v) r := by
 have z0 : (⟨#[110, 101, 120, 116, 58]⟩ : ByteArray).size = 5 := rfl; have z1 : (⟨#[124]⟩ : ByteArray).size = 1 := rfl; have z2 : (⟨#[33]⟩ : ByteArray).size = 1 := rfl; have z3 : (⟨#[38]⟩ : ByteArray).size = 1 := rfl; have z4 : (⟨#[40]⟩ : ByteArray).size = 1 := rfl; have z5 : (⟨#[41]⟩ : ByteArray).size = 1 := rfl; have z6 : (⟨#[46]⟩ : ByteArray).size = 1 := rfl; have z7 : (⟨#[58]⟩ : ByteArray).size = 1 := rfl; obtain ⟨q2, q3, q4⟩ := lg_cases q q0 q1; obtain ⟨w2, w3, w4⟩ := lg_cases w w0 w1; refine ⟨((⟨#[110, 101, 120, 116, 58]⟩ : ByteArray) ++ lgB q) ++ lgB w, rfl, (by first | omega | (simp only [ByteArray.size_append, z0, z1, z2, z3, z4, z5, z6, z7, q4, w4]; omega)), kids v 5 p q w ([] : List S32) ([] : List ByteArray) rfl (by simp) ?_ _ ⟨0, fun k _ => ?_⟩, ⟨10, fun k hk => ?_⟩⟩
 ·intro i hi; exact absurd hi (by simp)
 ·rw [spec_l11Text.l0, if_neg (by simp), if_neg (by decide), if_neg (by decide), if_neg (by decide), if_neg (by decide), if_pos (by decide), q2]; simp only [obs]; rw [if_pos (by first | omega | (simp only [ByteArray.size_append, z0, z1, z2, z3, z4, z5, z6, z7, q4, w4]; omega)), w2]; simp only [obs]; rw [if_pos (by first | omega | (simp only [ByteArray.size_append, z0, z1, z2, z3, z4, z5, z6, z7, q4, w4]; omega))]
 ·obtain ⟨m, rfl⟩ : ∃ m, k = m + 10 := ⟨k - 10, by omega⟩; show impl_Formula_text.f (m + 9 + 1) _ _ _ _ _ _ = _
  rw [impl_Formula_text.f, show headOf.f 5 = some (⟨#[110, 101, 120, 116, 58]⟩ : ByteArray) from rfl]; simp only [obs]; rw [if_neg (by decide), impl_Formula_text.j0, if_neg (by decide), if_neg (by decide), if_pos (by decide), impl_Formula_text.j1, if_pos (by decide), q3]; simp only [obs]; rw [if_pos (by first | omega | (simp only [ByteArray.size_append, z0, z1, z2, z3, z4, z5, z6, z7, q4, w4]; omega)), w3]; simp only [obs]; rw [if_pos (by first | omega | (simp only [ByteArray.size_append, z0, z1, z2, z3, z4, z5, z6, z7, q4, w4]; omega))]
theorem tx6 (v : List ByteArray) (p q w : Int) (q0 : 0 ≤ q) (q1 : q < 4) (w0 : 0 ≤ w) (w1 : w < 4) : ∃ r : ByteArray, r = ((⟨#[115, 97, 109, 101, 58]⟩ : ByteArray) ++ lgB q) ++ lgB w ∧ r.size ≤ 20 ∧ Ev (fun k => spec_l11Text.f k v 6 p q w ([] : List S32)) r ∧ Ev (fun k => impl_Formula_text.f k 6 p q w ([] : List S32) v) r := by
 have z0 : (⟨#[115, 97, 109, 101, 58]⟩ : ByteArray).size = 5 := rfl; have z1 : (⟨#[124]⟩ : ByteArray).size = 1 := rfl; have z2 : (⟨#[33]⟩ : ByteArray).size = 1 := rfl; have z3 : (⟨#[38]⟩ : ByteArray).size = 1 := rfl; have z4 : (⟨#[40]⟩ : ByteArray).size = 1 := rfl; have z5 : (⟨#[41]⟩ : ByteArray).size = 1 := rfl; have z6 : (⟨#[46]⟩ : ByteArray).size = 1 := rfl; have z7 : (⟨#[58]⟩ : ByteArray).size = 1 := rfl; obtain ⟨q2, q3, q4⟩ := lg_cases q q0 q1; obtain ⟨w2, w3, w4⟩ := lg_cases w w0 w1; refine ⟨((⟨#[115, 97, 109, 101, 58]⟩ : ByteArray) ++ lgB q) ++ lgB w, rfl, (by first | omega | (simp only [ByteArray.size_append, z0, z1, z2, z3, z4, z5, z6, z7, q4, w4]; omega)), kids v 6 p q w ([] : List S32) ([] : List ByteArray) rfl (by simp) ?_ _ ⟨0, fun k _ => ?_⟩, ⟨10, fun k hk => ?_⟩⟩
 ·intro i hi; exact absurd hi (by simp)
 ·rw [spec_l11Text.l0, if_neg (by simp), if_neg (by decide), if_neg (by decide), if_neg (by decide), if_neg (by decide), if_neg (by decide), if_pos (by decide), q2]; simp only [obs]; rw [if_pos (by first | omega | (simp only [ByteArray.size_append, z0, z1, z2, z3, z4, z5, z6, z7, q4, w4]; omega)), w2]; simp only [obs]; rw [if_pos (by first | omega | (simp only [ByteArray.size_append, z0, z1, z2, z3, z4, z5, z6, z7, q4, w4]; omega))]
 ·obtain ⟨m, rfl⟩ : ∃ m, k = m + 10 := ⟨k - 10, by omega⟩; show impl_Formula_text.f (m + 9 + 1) _ _ _ _ _ _ = _
  rw [impl_Formula_text.f, show headOf.f 6 = some (⟨#[115, 97, 109, 101, 58]⟩ : ByteArray) from rfl]; simp only [obs]; rw [if_neg (by decide), impl_Formula_text.j0, if_neg (by decide), if_neg (by decide), if_neg (by decide), if_pos (by decide), impl_Formula_text.j1, if_pos (by decide), q3]; simp only [obs]; rw [if_pos (by first | omega | (simp only [ByteArray.size_append, z0, z1, z2, z3, z4, z5, z6, z7, q4, w4]; omega)), w3]; simp only [obs]; rw [if_pos (by first | omega | (simp only [ByteArray.size_append, z0, z1, z2, z3, z4, z5, z6, z7, q4, w4]; omega))]
theorem tx7 (v : List ByteArray) (p q w : Int) (q0 : 0 ≤ q) (q1 : q < 4) (w0 : 0 ≤ w) (w1 : w < 4) : ∃ r : ByteArray, r = ((⟨#[112, 97, 116, 104, 58]⟩ : ByteArray) ++ lgB q) ++ lgB w ∧ r.size ≤ 20 ∧ Ev (fun k => spec_l11Text.f k v 7 p q w ([] : List S32)) r ∧ Ev (fun k => impl_Formula_text.f k 7 p q w ([] : List S32) v) r := by
 have z0 : (⟨#[112, 97, 116, 104, 58]⟩ : ByteArray).size = 5 := rfl; have z1 : (⟨#[124]⟩ : ByteArray).size = 1 := rfl; have z2 : (⟨#[33]⟩ : ByteArray).size = 1 := rfl; have z3 : (⟨#[38]⟩ : ByteArray).size = 1 := rfl; have z4 : (⟨#[40]⟩ : ByteArray).size = 1 := rfl; have z5 : (⟨#[41]⟩ : ByteArray).size = 1 := rfl; have z6 : (⟨#[46]⟩ : ByteArray).size = 1 := rfl; have z7 : (⟨#[58]⟩ : ByteArray).size = 1 := rfl; obtain ⟨q2, q3, q4⟩ := lg_cases q q0 q1; obtain ⟨w2, w3, w4⟩ := lg_cases w w0 w1; refine ⟨((⟨#[112, 97, 116, 104, 58]⟩ : ByteArray) ++ lgB q) ++ lgB w, rfl, (by first | omega | (simp only [ByteArray.size_append, z0, z1, z2, z3, z4, z5, z6, z7, q4, w4]; omega)), kids v 7 p q w ([] : List S32) ([] : List ByteArray) rfl (by simp) ?_ _ ⟨0, fun k _ => ?_⟩, ⟨10, fun k hk => ?_⟩⟩
 ·intro i hi; exact absurd hi (by simp)
 ·rw [spec_l11Text.l0, if_neg (by simp), if_neg (by decide), if_neg (by decide), if_neg (by decide), if_neg (by decide), if_neg (by decide), if_neg (by decide), if_pos (by decide), q2]; simp only [obs]; rw [if_pos (by first | omega | (simp only [ByteArray.size_append, z0, z1, z2, z3, z4, z5, z6, z7, q4, w4]; omega)), w2]; simp only [obs]; rw [if_pos (by first | omega | (simp only [ByteArray.size_append, z0, z1, z2, z3, z4, z5, z6, z7, q4, w4]; omega))]
 ·obtain ⟨m, rfl⟩ : ∃ m, k = m + 10 := ⟨k - 10, by omega⟩; show impl_Formula_text.f (m + 9 + 1) _ _ _ _ _ _ = _
  rw [impl_Formula_text.f, show headOf.f 7 = some (⟨#[112, 97, 116, 104, 58]⟩ : ByteArray) from rfl]; simp only [obs]; rw [if_neg (by decide), impl_Formula_text.j0, if_neg (by decide), if_neg (by decide), if_neg (by decide), if_neg (by decide), impl_Formula_text.j1, if_pos (by decide), q3]; simp only [obs]; rw [if_pos (by first | omega | (simp only [ByteArray.size_append, z0, z1, z2, z3, z4, z5, z6, z7, q4, w4]; omega)), w3]; simp only [obs]; rw [if_pos (by first | omega | (simp only [ByteArray.size_append, z0, z1, z2, z3, z4, z5, z6, z7, q4, w4]; omega))]
theorem tx8 (v : List ByteArray) (p q w : Int) (c : S32) (tc : ByteArray) (sc : tc.size ≤ 1000000000) (hc : Ev (fun k => spec_l11Text.f k v c.f0 c.f1 c.f2 c.f3 c.f4) tc) (gc : Ev (fun k => impl_Formula_text.f k c.f0 c.f1 c.f2 c.f3 c.f4 v) tc) : ∃ r : ByteArray, r = (⟨#[33]⟩ : ByteArray) ++ tc ∧ r.size ≤ 20 + tc.size ∧ Ev (fun k => spec_l11Text.f k v 8 p q w ([c] : List S32)) r ∧ Ev (fun k => impl_Formula_text.f k 8 p q w ([c] : List S32) v) r := by
 have z0 : (⟨#[124]⟩ : ByteArray).size = 1 := rfl; have z1 : (⟨#[33]⟩ : ByteArray).size = 1 := rfl; have z2 : (⟨#[38]⟩ : ByteArray).size = 1 := rfl; have z3 : (⟨#[40]⟩ : ByteArray).size = 1 := rfl; have z4 : (⟨#[41]⟩ : ByteArray).size = 1 := rfl; have z5 : (⟨#[46]⟩ : ByteArray).size = 1 := rfl; have z6 : (⟨#[58]⟩ : ByteArray).size = 1 := rfl; obtain ⟨Lc, kc⟩ := gc; refine ⟨(⟨#[33]⟩ : ByteArray) ++ tc, rfl, (by first | omega | (simp only [ByteArray.size_append, z0, z1, z2, z3, z4, z5, z6]; omega)), kids v 8 p q w ([c] : List S32) ([tc] : List ByteArray) rfl (by simp) ?_ _ ⟨0, fun k _ => ?_⟩, ⟨Lc + 10, fun k hk => ?_⟩⟩
 ·intro i hi; obtain rfl : i = 0 := by simp at hi; omega
  exact hc
 ·rw [spec_l11Text.l0, if_neg (by simp), if_neg (by decide), if_neg (by decide), if_neg (by decide), if_neg (by decide), if_neg (by decide), if_neg (by decide), if_neg (by decide), if_pos (by decide), if_pos (by simp), show rdOf ByteArray.empty ([tc] : List ByteArray) 0 = tc from rfl, if_pos (by first | omega | (simp only [ByteArray.size_append, z0, z1, z2, z3, z4, z5, z6]; omega))]
 ·obtain ⟨m, rfl⟩ : ∃ m, k = m + 10 := ⟨k - 10, by omega⟩; show impl_Formula_text.f (m + 9 + 1) _ _ _ _ _ _ = _
  rw [impl_Formula_text.f, show headOf.f 8 = some (⟨#[]⟩ : ByteArray) from rfl]; simp only [obs]; rw [if_neg (by decide), impl_Formula_text.j0, if_neg (by decide), if_neg (by decide), if_neg (by decide), if_neg (by decide), impl_Formula_text.j1, if_neg (by decide), if_pos (by decide), if_pos (by simp), show rd_T32 ([c] : List S32) 0 = c from rfl]; have ec : impl_Formula_text.f (m + 7) c.f0 c.f1 c.f2 c.f3 c.f4 v = some tc := kc (m + 7) (by omega); rw [ec]; simp only [obs]; rw [if_pos (by first | omega | (simp only [ByteArray.size_append, z0, z1, z2, z3, z4, z5, z6]; omega))]
theorem tx9 (v : List ByteArray) (p q w : Int) (c : S32) (tc : ByteArray) (sc : tc.size ≤ 1000000000) (hc : Ev (fun k => spec_l11Text.f k v c.f0 c.f1 c.f2 c.f3 c.f4) tc) (gc : Ev (fun k => impl_Formula_text.f k c.f0 c.f1 c.f2 c.f3 c.f4 v) tc) (d : S32) (td : ByteArray) (sd : td.size ≤ 1000000000) (hd : Ev (fun k => spec_l11Text.f k v d.f0 d.f1 d.f2 d.f3 d.f4) td) (gd : Ev (fun k => impl_Formula_text.f k d.f0 d.f1 d.f2 d.f3 d.f4 v) td) : ∃ r : ByteArray, r = ((((⟨#[40]⟩ : ByteArray) ++ tc) ++ (⟨#[38]⟩ : ByteArray)) ++ td) ++ (⟨#[41]⟩ : ByteArray) ∧ r.size ≤ 20 + tc.size + td.size ∧ Ev (fun k => spec_l11Text.f k v 9 p q w ([c, d] : List S32)) r ∧ Ev (fun k => impl_Formula_text.f k 9 p q w ([c, d] : List S32) v) r := by
 have z0 : (⟨#[124]⟩ : ByteArray).size = 1 := rfl; have z1 : (⟨#[33]⟩ : ByteArray).size = 1 := rfl; have z2 : (⟨#[38]⟩ : ByteArray).size = 1 := rfl; have z3 : (⟨#[40]⟩ : ByteArray).size = 1 := rfl; have z4 : (⟨#[41]⟩ : ByteArray).size = 1 := rfl; have z5 : (⟨#[46]⟩ : ByteArray).size = 1 := rfl; have z6 : (⟨#[58]⟩ : ByteArray).size = 1 := rfl; obtain ⟨Lc, kc⟩ := gc; obtain ⟨Ld, kd⟩ := gd; refine ⟨((((⟨#[40]⟩ : ByteArray) ++ tc) ++ (⟨#[38]⟩ : ByteArray)) ++ td) ++ (⟨#[41]⟩ : ByteArray), rfl, (by first | omega | (simp only [ByteArray.size_append, z0, z1, z2, z3, z4, z5, z6]; omega)), kids v 9 p q w ([c, d] : List S32) ([tc, td] : List ByteArray) rfl (by simp) ?_ _ ⟨0, fun k _ => ?_⟩, ⟨Lc + Ld + 10, fun k hk => ?_⟩⟩
 ·intro i hi; have h2 : i = 0 ∨ i = 1 := by simp at hi; omega
  rcases h2 with rfl | rfl
  ·exact hc
  ·exact hd
 ·rw [spec_l11Text.l0, if_neg (by simp), if_neg (by decide), if_neg (by decide), if_neg (by decide), if_neg (by decide), if_neg (by decide), if_neg (by decide), if_neg (by decide), if_neg (by decide), if_pos (by decide), if_pos (by simp), show rdOf ByteArray.empty ([tc, td] : List ByteArray) 0 = tc from rfl, if_pos (by first | omega | (simp only [ByteArray.size_append, z0, z1, z2, z3, z4, z5, z6]; omega)), if_pos (by first | omega | (simp only [ByteArray.size_append, z0, z1, z2, z3, z4, z5, z6]; omega)), if_pos (by simp), show rdOf ByteArray.empty ([tc, td] : List ByteArray) 1 = td from rfl, if_pos (by first | omega | (simp only [ByteArray.size_append, z0, z1, z2, z3, z4, z5, z6]; omega)), if_pos (by first | omega | (simp only [ByteArray.size_append, z0, z1, z2, z3, z4, z5, z6]; omega))]
 ·obtain ⟨m, rfl⟩ : ∃ m, k = m + 10 := ⟨k - 10, by omega⟩; show impl_Formula_text.f (m + 9 + 1) _ _ _ _ _ _ = _
  rw [impl_Formula_text.f, show headOf.f 9 = some (⟨#[]⟩ : ByteArray) from rfl]; simp only [obs]; rw [if_neg (by decide), impl_Formula_text.j0, if_neg (by decide), if_neg (by decide), if_neg (by decide), if_neg (by decide), impl_Formula_text.j1, if_neg (by decide), if_neg (by decide), if_pos (by decide), if_pos (by simp), show rd_T32 ([c, d] : List S32) 0 = c from rfl]; have ec : impl_Formula_text.f (m + 7) c.f0 c.f1 c.f2 c.f3 c.f4 v = some tc := kc (m + 7) (by omega); rw [ec]; simp only [obs]; rw [if_pos (by first | omega | (simp only [ByteArray.size_append, z0, z1, z2, z3, z4, z5, z6]; omega)), if_pos (by first | omega | (simp only [ByteArray.size_append, z0, z1, z2, z3, z4, z5, z6]; omega)), if_pos (by simp), show rd_T32 ([c, d] : List S32) 1 = d from rfl]; have ed : impl_Formula_text.f (m + 7) d.f0 d.f1 d.f2 d.f3 d.f4 v = some td := kd (m + 7) (by omega); rw [ed]; simp only [obs]; rw [if_pos (by first | omega | (simp only [ByteArray.size_append, z0, z1, z2, z3, z4, z5, z6]; omega)), if_pos (by first | omega | (simp only [ByteArray.size_append, z0, z1, z2, z3, z4, z5, z6]; omega))]
theorem tx10 (v : List ByteArray) (p q w : Int) (c : S32) (tc : ByteArray) (sc : tc.size ≤ 1000000000) (hc : Ev (fun k => spec_l11Text.f k v c.f0 c.f1 c.f2 c.f3 c.f4) tc) (gc : Ev (fun k => impl_Formula_text.f k c.f0 c.f1 c.f2 c.f3 c.f4 v) tc) (d : S32) (td : ByteArray) (sd : td.size ≤ 1000000000) (hd : Ev (fun k => spec_l11Text.f k v d.f0 d.f1 d.f2 d.f3 d.f4) td) (gd : Ev (fun k => impl_Formula_text.f k d.f0 d.f1 d.f2 d.f3 d.f4 v) td) : ∃ r : ByteArray, r = ((((⟨#[40]⟩ : ByteArray) ++ tc) ++ (⟨#[124]⟩ : ByteArray)) ++ td) ++ (⟨#[41]⟩ : ByteArray) ∧ r.size ≤ 20 + tc.size + td.size ∧ Ev (fun k => spec_l11Text.f k v 10 p q w ([c, d] : List S32)) r ∧ Ev (fun k => impl_Formula_text.f k 10 p q w ([c, d] : List S32) v) r := by
 have z0 : (⟨#[124]⟩ : ByteArray).size = 1 := rfl; have z1 : (⟨#[33]⟩ : ByteArray).size = 1 := rfl; have z2 : (⟨#[38]⟩ : ByteArray).size = 1 := rfl; have z3 : (⟨#[40]⟩ : ByteArray).size = 1 := rfl; have z4 : (⟨#[41]⟩ : ByteArray).size = 1 := rfl; have z5 : (⟨#[46]⟩ : ByteArray).size = 1 := rfl; have z6 : (⟨#[58]⟩ : ByteArray).size = 1 := rfl; obtain ⟨Lc, kc⟩ := gc; obtain ⟨Ld, kd⟩ := gd; refine ⟨((((⟨#[40]⟩ : ByteArray) ++ tc) ++ (⟨#[124]⟩ : ByteArray)) ++ td) ++ (⟨#[41]⟩ : ByteArray), rfl, (by first | omega | (simp only [ByteArray.size_append, z0, z1, z2, z3, z4, z5, z6]; omega)), kids v 10 p q w ([c, d] : List S32) ([tc, td] : List ByteArray) rfl (by simp) ?_ _ ⟨0, fun k _ => ?_⟩, ⟨Lc + Ld + 10, fun k hk => ?_⟩⟩
 ·intro i hi; have h2 : i = 0 ∨ i = 1 := by simp at hi; omega
  rcases h2 with rfl | rfl
  ·exact hc
  ·exact hd
 ·rw [spec_l11Text.l0, if_neg (by simp), if_neg (by decide), if_neg (by decide), if_neg (by decide), if_neg (by decide), if_neg (by decide), if_neg (by decide), if_neg (by decide), if_neg (by decide), if_neg (by decide), if_pos (by decide), if_pos (by simp), show rdOf ByteArray.empty ([tc, td] : List ByteArray) 0 = tc from rfl, if_pos (by first | omega | (simp only [ByteArray.size_append, z0, z1, z2, z3, z4, z5, z6]; omega)), if_pos (by first | omega | (simp only [ByteArray.size_append, z0, z1, z2, z3, z4, z5, z6]; omega)), if_pos (by simp), show rdOf ByteArray.empty ([tc, td] : List ByteArray) 1 = td from rfl, if_pos (by first | omega | (simp only [ByteArray.size_append, z0, z1, z2, z3, z4, z5, z6]; omega)), if_pos (by first | omega | (simp only [ByteArray.size_append, z0, z1, z2, z3, z4, z5, z6]; omega))]
 ·obtain ⟨m, rfl⟩ : ∃ m, k = m + 10 := ⟨k - 10, by omega⟩; show impl_Formula_text.f (m + 9 + 1) _ _ _ _ _ _ = _
  rw [impl_Formula_text.f, show headOf.f 10 = some (⟨#[]⟩ : ByteArray) from rfl]; simp only [obs]; rw [if_neg (by decide), impl_Formula_text.j0, if_neg (by decide), if_neg (by decide), if_neg (by decide), if_neg (by decide), impl_Formula_text.j1, if_neg (by decide), if_neg (by decide), if_neg (by decide), if_pos (by decide), if_pos (by simp), show rd_T32 ([c, d] : List S32) 0 = c from rfl]; have ec : impl_Formula_text.f (m + 7) c.f0 c.f1 c.f2 c.f3 c.f4 v = some tc := kc (m + 7) (by omega); rw [ec]; simp only [obs]; rw [if_pos (by first | omega | (simp only [ByteArray.size_append, z0, z1, z2, z3, z4, z5, z6]; omega)), if_pos (by first | omega | (simp only [ByteArray.size_append, z0, z1, z2, z3, z4, z5, z6]; omega)), if_pos (by simp), show rd_T32 ([c, d] : List S32) 1 = d from rfl]; have ed : impl_Formula_text.f (m + 7) d.f0 d.f1 d.f2 d.f3 d.f4 v = some td := kd (m + 7) (by omega); rw [ed]; simp only [obs]; rw [if_pos (by first | omega | (simp only [ByteArray.size_append, z0, z1, z2, z3, z4, z5, z6]; omega)), if_pos (by first | omega | (simp only [ByteArray.size_append, z0, z1, z2, z3, z4, z5, z6]; omega))]
theorem tx11 (v : List ByteArray) (p q w : Int) (c : S32) (tc : ByteArray) (sc : tc.size ≤ 1000000000) (hc : Ev (fun k => spec_l11Text.f k v c.f0 c.f1 c.f2 c.f3 c.f4) tc) (gc : Ev (fun k => impl_Formula_text.f k c.f0 c.f1 c.f2 c.f3 c.f4 v) tc) (q0 : 0 ≤ q) (q1 : q < 4) : ∃ r : ByteArray, r = (((⟨#[115, 111, 109, 101, 32]⟩ : ByteArray) ++ lgB q) ++ (⟨#[46]⟩ : ByteArray)) ++ tc ∧ r.size ≤ 20 + tc.size ∧ Ev (fun k => spec_l11Text.f k v 11 p q w ([c] : List S32)) r ∧ Ev (fun k => impl_Formula_text.f k 11 p q w ([c] : List S32) v) r := by
 have z0 : (⟨#[115, 111, 109, 101, 32]⟩ : ByteArray).size = 5 := rfl; have z1 : (⟨#[124]⟩ : ByteArray).size = 1 := rfl; have z2 : (⟨#[33]⟩ : ByteArray).size = 1 := rfl; have z3 : (⟨#[38]⟩ : ByteArray).size = 1 := rfl; have z4 : (⟨#[40]⟩ : ByteArray).size = 1 := rfl; have z5 : (⟨#[41]⟩ : ByteArray).size = 1 := rfl; have z6 : (⟨#[46]⟩ : ByteArray).size = 1 := rfl; have z7 : (⟨#[58]⟩ : ByteArray).size = 1 := rfl; obtain ⟨q2, q3, q4⟩ := lg_cases q q0 q1; obtain ⟨Lc, kc⟩ := gc; refine ⟨(((⟨#[115, 111, 109, 101, 32]⟩ : ByteArray) ++ lgB q) ++ (⟨#[46]⟩ : ByteArray)) ++ tc, rfl, (by first | omega | (simp only [ByteArray.size_append, z0, z1, z2, z3, z4, z5, z6, z7, q4]; omega)), kids v 11 p q w ([c] : List S32) ([tc] : List ByteArray) rfl (by simp) ?_ _ ⟨0, fun k _ => ?_⟩, ⟨Lc + 10, fun k hk => ?_⟩⟩
 ·intro i hi; obtain rfl : i = 0 := by simp at hi; omega
  exact hc
 ·rw [spec_l11Text.l0, if_neg (by simp), if_neg (by decide), if_neg (by decide), if_neg (by decide), if_neg (by decide), if_neg (by decide), if_neg (by decide), if_neg (by decide), if_neg (by decide), if_neg (by decide), if_neg (by decide), if_pos (by decide), q2]; simp only [obs]; rw [if_pos (by first | omega | (simp only [ByteArray.size_append, z0, z1, z2, z3, z4, z5, z6, z7, q4]; omega)), if_pos (by first | omega | (simp only [ByteArray.size_append, z0, z1, z2, z3, z4, z5, z6, z7, q4]; omega)), if_pos (by simp), show rdOf ByteArray.empty ([tc] : List ByteArray) 0 = tc from rfl, if_pos (by first | omega | (simp only [ByteArray.size_append, z0, z1, z2, z3, z4, z5, z6, z7, q4]; omega))]
 ·obtain ⟨m, rfl⟩ : ∃ m, k = m + 10 := ⟨k - 10, by omega⟩; show impl_Formula_text.f (m + 9 + 1) _ _ _ _ _ _ = _
  rw [impl_Formula_text.f, show headOf.f 11 = some (⟨#[115, 111, 109, 101, 32]⟩ : ByteArray) from rfl]; simp only [obs]; rw [if_neg (by decide), impl_Formula_text.j0, if_neg (by decide), if_neg (by decide), if_neg (by decide), if_neg (by decide), impl_Formula_text.j1, if_neg (by decide), if_neg (by decide), if_neg (by decide), if_neg (by decide), if_pos (by decide), impl_Formula_text.j2, if_pos (by decide), q3]; simp only [obs]; rw [if_pos (by first | omega | (simp only [ByteArray.size_append, z0, z1, z2, z3, z4, z5, z6, z7, q4]; omega)), if_pos (by first | omega | (simp only [ByteArray.size_append, z0, z1, z2, z3, z4, z5, z6, z7, q4]; omega)), if_pos (by simp), show rd_T32 ([c] : List S32) 0 = c from rfl]; have ec : impl_Formula_text.f (m + 6) c.f0 c.f1 c.f2 c.f3 c.f4 v = some tc := kc (m + 6) (by omega); rw [ec]; simp only [obs]; rw [if_pos (by first | omega | (simp only [ByteArray.size_append, z0, z1, z2, z3, z4, z5, z6, z7, q4]; omega))]
theorem tx12 (v : List ByteArray) (p q w : Int) (c : S32) (tc : ByteArray) (sc : tc.size ≤ 1000000000) (hc : Ev (fun k => spec_l11Text.f k v c.f0 c.f1 c.f2 c.f3 c.f4) tc) (gc : Ev (fun k => impl_Formula_text.f k c.f0 c.f1 c.f2 c.f3 c.f4 v) tc) (q0 : 0 ≤ q) (q1 : q < 4) : ∃ r : ByteArray, r = (((⟨#[97, 108, 108, 32]⟩ : ByteArray) ++ lgB q) ++ (⟨#[46]⟩ : ByteArray)) ++ tc ∧ r.size ≤ 20 + tc.size ∧ Ev (fun k => spec_l11Text.f k v 12 p q w ([c] : List S32)) r ∧ Ev (fun k => impl_Formula_text.f k 12 p q w ([c] : List S32) v) r := by
 have z0 : (⟨#[124]⟩ : ByteArray).size = 1 := rfl; have z1 : (⟨#[33]⟩ : ByteArray).size = 1 := rfl; have z2 : (⟨#[38]⟩ : ByteArray).size = 1 := rfl; have z3 : (⟨#[40]⟩ : ByteArray).size = 1 := rfl; have z4 : (⟨#[41]⟩ : ByteArray).size = 1 := rfl; have z5 : (⟨#[46]⟩ : ByteArray).size = 1 := rfl; have z6 : (⟨#[58]⟩ : ByteArray).size = 1 := rfl; have z7 : (⟨#[97, 108, 108, 32]⟩ : ByteArray).size = 4 := rfl; obtain ⟨q2, q3, q4⟩ := lg_cases q q0 q1; obtain ⟨Lc, kc⟩ := gc; refine ⟨(((⟨#[97, 108, 108, 32]⟩ : ByteArray) ++ lgB q) ++ (⟨#[46]⟩ : ByteArray)) ++ tc, rfl, (by first | omega | (simp only [ByteArray.size_append, z0, z1, z2, z3, z4, z5, z6, z7, q4]; omega)), kids v 12 p q w ([c] : List S32) ([tc] : List ByteArray) rfl (by simp) ?_ _ ⟨0, fun k _ => ?_⟩, ⟨Lc + 10, fun k hk => ?_⟩⟩
 ·intro i hi; obtain rfl : i = 0 := by simp at hi; omega
  exact hc
 ·rw [spec_l11Text.l0, if_neg (by simp), if_neg (by decide), if_neg (by decide), if_neg (by decide), if_neg (by decide), if_neg (by decide), if_neg (by decide), if_neg (by decide), if_neg (by decide), if_neg (by decide), if_neg (by decide), if_neg (by decide), q2]; simp only [obs]; rw [if_pos (by first | omega | (simp only [ByteArray.size_append, z0, z1, z2, z3, z4, z5, z6, z7, q4]; omega)), if_pos (by first | omega | (simp only [ByteArray.size_append, z0, z1, z2, z3, z4, z5, z6, z7, q4]; omega)), if_pos (by simp), show rdOf ByteArray.empty ([tc] : List ByteArray) 0 = tc from rfl, if_pos (by first | omega | (simp only [ByteArray.size_append, z0, z1, z2, z3, z4, z5, z6, z7, q4]; omega))]
 ·obtain ⟨m, rfl⟩ : ∃ m, k = m + 10 := ⟨k - 10, by omega⟩; show impl_Formula_text.f (m + 9 + 1) _ _ _ _ _ _ = _
  rw [impl_Formula_text.f, show headOf.f 12 = some (⟨#[97, 108, 108, 32]⟩ : ByteArray) from rfl]; simp only [obs]; rw [if_neg (by decide), impl_Formula_text.j0, if_neg (by decide), if_neg (by decide), if_neg (by decide), if_neg (by decide), impl_Formula_text.j1, if_neg (by decide), if_neg (by decide), if_neg (by decide), if_neg (by decide), if_neg (by decide), impl_Formula_text.j2, if_pos (by decide), q3]; simp only [obs]; rw [if_pos (by first | omega | (simp only [ByteArray.size_append, z0, z1, z2, z3, z4, z5, z6, z7, q4]; omega)), if_pos (by first | omega | (simp only [ByteArray.size_append, z0, z1, z2, z3, z4, z5, z6, z7, q4]; omega)), if_pos (by simp), show rd_T32 ([c] : List S32) 0 = c from rfl]; have ec : impl_Formula_text.f (m + 6) c.f0 c.f1 c.f2 c.f3 c.f4 v = some tc := kc (m + 6) (by omega); rw [ec]; simp only [obs]; rw [if_pos (by first | omega | (simp only [ByteArray.size_append, z0, z1, z2, z3, z4, z5, z6, z7, q4]; omega))]
theorem two_of : ∀ l : List S32, l.length = 2 → ∃ c d, l = [c, d]
 | [c, d], _ => ⟨c, d, rfl⟩
theorem field_t {x n : Int} {b : Bool} (hb : b = true) (h : fieldB x b n = true) : 0 ≤ x ∧ x < n := by
 unfold fieldB at h; rw [if_pos hb] at h; simpa using h
theorem name_size (v : List ByteArray) (hs : ∀ s ∈ v, s.size ≤ 2) (p : Int) (p0 : 0 ≤ p) (p1 : p < (v.length : Int)) : (rdOf ByteArray.empty v p).size ≤ 2 := by
 obtain ⟨i, rfl⟩ := Int.eq_ofNat_of_zero_le p0; have hi : i < v.length := by omega
 have e : rdOf ByteArray.empty v (i : Int) = v[i] := rdOf_at _ _ _ hi; rw [e]; exact hs _ (List.getElem_mem hi)
theorem field_z {x n : Int} {b : Bool} (hb : b = false) (h : fieldB x b n = true) : x = 0 := by
 unfold fieldB at h; rw [if_neg (by rw [hb]; decide)] at h; simpa using h
theorem ev_text (v : List ByteArray) (hs : ∀ s ∈ v, s.size ≤ 2) : ∀ (n : Nat) (y : S32), LG n y → WF (v.length : Int) n y = true → cntG n y ≤ 1048576 →
  ∃ r : ByteArray, r.size ≤ 20 * (1 + cntG n y) ∧ Ev (fun k => spec_l11Text.f k v y.f0 y.f1 y.f2 y.f3 y.f4) r ∧ Ev (fun k => impl_Formula_text.f k y.f0 y.f1 y.f2 y.f3 y.f4 v) r ∧ TX v n y r.toList := by
 intro n; induction n with
 | zero => intro y h; exact h.elim
 | succ n ih =>
  intro y hy hwf hcnt; obtain ⟨a, p, q, w, l⟩ := y; simp only [WF, nodeB, Bool.and_eq_true, decide_eq_true_eq] at hwf; obtain ⟨⟨ha, hp, hq, hw⟩, hall⟩ := hwf; have hk : ∀ z ∈ l, ∃ r : ByteArray, r.size ≤ 20 * (1 + cntG n z) ∧ Ev (fun k => spec_l11Text.f k v z.f0 z.f1 z.f2 z.f3 z.f4) r ∧ Ev (fun k => impl_Formula_text.f k z.f0 z.f1 z.f2 z.f3 z.f4 v) r ∧ TX v n z r.toList := fun z hz => by
   have h1 := csum_mem (cntG n) l z hz; simp only [cntG] at hcnt; exact ih z (hy.2 z hz) (List.all_eq_true.mp hall z hz) (by omega)
  have hcases : a = 1 ∨ a = 2 ∨ a = 3 ∨ a = 4 ∨ a = 5 ∨ a = 6 ∨ a = 7 ∨ a = 8 ∨ a = 9 ∨ a = 10 ∨ a = 11 ∨ a = 12 := by
   by_cases c : 1 ≤ a ∧ a ≤ 12
   ·omega
   ·have : arN a = -1 := by
     unfold arN; rw [if_neg (by omega), if_neg (by omega), if_neg (by omega)]
    omega
  rcases hcases with rfl | rfl | rfl | rfl | rfl | rfl | rfl | rfl | rfl | rfl | rfl | rfl
  ·have har : arN 1 = 0 := rfl; rw [har] at ha; obtain rfl : l = [] := List.eq_nil_of_length_eq_zero (by omega); simp only [cntG, csum, List.length_cons, List.length_nil] at hcnt ⊢; obtain rfl := field_z (b := ukB 1) rfl hp; obtain rfl := field_z (b := uuB 1) rfl hq; obtain rfl := field_z (b := uvB 1) rfl hw; obtain ⟨r, xe, x1, x2, x3⟩ := tx1 v 0 0 0; exact ⟨r, by omega, x2, x3, by rw [xe, show (⟨#[116, 114, 117, 101]⟩ : ByteArray).toList = headS 1 from toL_lit (headS 1)]; exact TX.tt n⟩
  ·have har : arN 2 = 0 := rfl; rw [har] at ha; obtain rfl : l = [] := List.eq_nil_of_length_eq_zero (by omega); simp only [cntG, csum, List.length_cons, List.length_nil] at hcnt ⊢; obtain ⟨p0, p1⟩ := field_t (b := ukB 2) rfl hp; obtain ⟨q0, q1⟩ := field_t (b := uuB 2) rfl hq; obtain rfl := field_z (b := uvB 2) rfl hw; obtain ⟨r, xe, x1, x2, x3⟩ := tx2 v p q 0 p0 p1 (name_size v hs p p0 p1) q0 q1; exact ⟨r, by omega, x2, x3, by obtain ⟨j, rfl⟩ := Int.eq_ofNat_of_zero_le p0; have hj : j < v.length := (by omega); rw [xe, toL_app, toL_app, toL_app, show (⟨#[111, 110, 32]⟩ : ByteArray).toList = headS 2 from toL_lit (headS 2), show (⟨#[58]⟩ : ByteArray).toList = [58] from toL_lit [58], show (lgB q).toList = [lgC q] from lgD_toL q q0 q1, rdOf_at _ _ _ hj]; have := TX.nv (v := v) n 2 j q (by omega) hj q0 q1; rw [toL_app, show (⟨#[58]⟩ : ByteArray).toList = [58] from toL_lit [58]] at this; simpa [List.append_assoc] using this⟩
  ·have har : arN 3 = 0 := rfl; rw [har] at ha; obtain rfl : l = [] := List.eq_nil_of_length_eq_zero (by omega); simp only [cntG, csum, List.length_cons, List.length_nil] at hcnt ⊢; obtain ⟨p0, p1⟩ := field_t (b := ukB 3) rfl hp; obtain ⟨q0, q1⟩ := field_t (b := uuB 3) rfl hq; obtain rfl := field_z (b := uvB 3) rfl hw; obtain ⟨r, xe, x1, x2, x3⟩ := tx3 v p q 0 p0 p1 (name_size v hs p p0 p1) q0 q1; exact ⟨r, by omega, x2, x3, by obtain ⟨j, rfl⟩ := Int.eq_ofNat_of_zero_le p0; have hj : j < v.length := (by omega); rw [xe, toL_app, toL_app, toL_app, show (⟨#[102, 114, 111, 109, 32]⟩ : ByteArray).toList = headS 3 from toL_lit (headS 3), show (⟨#[58]⟩ : ByteArray).toList = [58] from toL_lit [58], show (lgB q).toList = [lgC q] from lgD_toL q q0 q1, rdOf_at _ _ _ hj]; have := TX.nv (v := v) n 3 j q (by omega) hj q0 q1; rw [toL_app, show (⟨#[58]⟩ : ByteArray).toList = [58] from toL_lit [58]] at this; simpa [List.append_assoc] using this⟩
  ·have har : arN 4 = 0 := rfl; rw [har] at ha; obtain rfl : l = [] := List.eq_nil_of_length_eq_zero (by omega); simp only [cntG, csum, List.length_cons, List.length_nil] at hcnt ⊢; obtain ⟨q0, q1⟩ := field_t (b := uuB 4) rfl hq; obtain rfl := field_z (b := ukB 4) rfl hp; obtain rfl := field_z (b := uvB 4) rfl hw; obtain ⟨r, xe, x1, x2, x3⟩ := tx4 v 0 q 0 q0 q1; exact ⟨r, by omega, x2, x3, by rw [xe, toL_app, show (⟨#[115, 104, 97, 114, 101, 100, 58]⟩ : ByteArray).toList = headS 4 from toL_lit (headS 4), show (lgB q).toList = [lgC q] from lgD_toL q q0 q1]; exact TX.sh n q q0 q1⟩
  ·have har : arN 5 = 0 := rfl; rw [har] at ha; obtain rfl : l = [] := List.eq_nil_of_length_eq_zero (by omega); simp only [cntG, csum, List.length_cons, List.length_nil] at hcnt ⊢; obtain ⟨q0, q1⟩ := field_t (b := uuB 5) rfl hq; obtain ⟨w0, w1⟩ := field_t (b := uvB 5) rfl hw; obtain rfl := field_z (b := ukB 5) rfl hp; obtain ⟨r, xe, x1, x2, x3⟩ := tx5 v 0 q w q0 q1 w0 w1; exact ⟨r, by omega, x2, x3, by rw [xe, toL_app, toL_app, show (⟨#[110, 101, 120, 116, 58]⟩ : ByteArray).toList = headS 5 from toL_lit (headS 5), show (lgB q).toList = [lgC q] from lgD_toL q q0 q1, show (lgB w).toList = [lgC w] from lgD_toL w w0 w1, List.append_assoc]; exact TX.pr n 5 q w (by omega) q0 q1 w0 w1⟩
  ·have har : arN 6 = 0 := rfl; rw [har] at ha; obtain rfl : l = [] := List.eq_nil_of_length_eq_zero (by omega); simp only [cntG, csum, List.length_cons, List.length_nil] at hcnt ⊢; obtain ⟨q0, q1⟩ := field_t (b := uuB 6) rfl hq; obtain ⟨w0, w1⟩ := field_t (b := uvB 6) rfl hw; obtain rfl := field_z (b := ukB 6) rfl hp; obtain ⟨r, xe, x1, x2, x3⟩ := tx6 v 0 q w q0 q1 w0 w1; exact ⟨r, by omega, x2, x3, by rw [xe, toL_app, toL_app, show (⟨#[115, 97, 109, 101, 58]⟩ : ByteArray).toList = headS 6 from toL_lit (headS 6), show (lgB q).toList = [lgC q] from lgD_toL q q0 q1, show (lgB w).toList = [lgC w] from lgD_toL w w0 w1, List.append_assoc]; exact TX.pr n 6 q w (by omega) q0 q1 w0 w1⟩
  ·have har : arN 7 = 0 := rfl; rw [har] at ha; obtain rfl : l = [] := List.eq_nil_of_length_eq_zero (by omega); simp only [cntG, csum, List.length_cons, List.length_nil] at hcnt ⊢; obtain ⟨q0, q1⟩ := field_t (b := uuB 7) rfl hq; obtain ⟨w0, w1⟩ := field_t (b := uvB 7) rfl hw; obtain rfl := field_z (b := ukB 7) rfl hp; obtain ⟨r, xe, x1, x2, x3⟩ := tx7 v 0 q w q0 q1 w0 w1; exact ⟨r, by omega, x2, x3, by rw [xe, toL_app, toL_app, show (⟨#[112, 97, 116, 104, 58]⟩ : ByteArray).toList = headS 7 from toL_lit (headS 7), show (lgB q).toList = [lgC q] from lgD_toL q q0 q1, show (lgB w).toList = [lgC w] from lgD_toL w w0 w1, List.append_assoc]; exact TX.pr n 7 q w (by omega) q0 q1 w0 w1⟩
  ·have har : arN 8 = 1 := rfl; rw [har] at ha; obtain ⟨c, rfl⟩ : ∃ c, l = [c] := List.length_eq_one_iff.mp (by omega); obtain ⟨tc, sc, hc, gc, xc⟩ := hk c (by simp); simp only [cntG, csum, List.length_cons, List.length_nil] at hcnt ⊢; obtain rfl := field_z (b := ukB 8) rfl hp; obtain rfl := field_z (b := uuB 8) rfl hq; obtain rfl := field_z (b := uvB 8) rfl hw; obtain ⟨r, xe, x1, x2, x3⟩ := tx8 v 0 0 0 c tc (by omega) hc gc; exact ⟨r, by omega, x2, x3, by rw [xe, toL_app, show (⟨#[33]⟩ : ByteArray).toList = [33] from toL_lit [33]]; exact TX.no n c _ xc⟩
  ·have har : arN 9 = 2 := rfl; rw [har] at ha; obtain ⟨c, d, rfl⟩ : ∃ c d, l = [c, d] := two_of l (by omega); obtain ⟨tc, sc, hc, gc, xc⟩ := hk c (by simp); obtain ⟨td, sd, hd, gd, xd⟩ := hk d (by simp); simp only [cntG, csum, List.length_cons, List.length_nil] at hcnt ⊢; obtain rfl := field_z (b := ukB 9) rfl hp; obtain rfl := field_z (b := uuB 9) rfl hq; obtain rfl := field_z (b := uvB 9) rfl hw; obtain ⟨r, xe, x1, x2, x3⟩ := tx9 v 0 0 0 c tc (by omega) hc gc d td (by omega) hd gd; exact ⟨r, by omega, x2, x3, by rw [xe, toL_app, toL_app, toL_app, toL_app, show (⟨#[40]⟩ : ByteArray).toList = [40] from toL_lit [40], show (⟨#[38]⟩ : ByteArray).toList = [38] from toL_lit [38], show (⟨#[41]⟩ : ByteArray).toList = [41] from toL_lit [41]]; have := TX.an n 9 c d _ _ (by omega) xc xd; simpa using this⟩
  ·have har : arN 10 = 2 := rfl; rw [har] at ha; obtain ⟨c, d, rfl⟩ : ∃ c d, l = [c, d] := two_of l (by omega); obtain ⟨tc, sc, hc, gc, xc⟩ := hk c (by simp); obtain ⟨td, sd, hd, gd, xd⟩ := hk d (by simp); simp only [cntG, csum, List.length_cons, List.length_nil] at hcnt ⊢; obtain rfl := field_z (b := ukB 10) rfl hp; obtain rfl := field_z (b := uuB 10) rfl hq; obtain rfl := field_z (b := uvB 10) rfl hw; obtain ⟨r, xe, x1, x2, x3⟩ := tx10 v 0 0 0 c tc (by omega) hc gc d td (by omega) hd gd; exact ⟨r, by omega, x2, x3, by rw [xe, toL_app, toL_app, toL_app, toL_app, show (⟨#[40]⟩ : ByteArray).toList = [40] from toL_lit [40], show (⟨#[124]⟩ : ByteArray).toList = [124] from toL_lit [124], show (⟨#[41]⟩ : ByteArray).toList = [41] from toL_lit [41]]; have := TX.an n 10 c d _ _ (by omega) xc xd; simpa using this⟩
  ·have har : arN 11 = 1 := rfl; rw [har] at ha; obtain ⟨c, rfl⟩ : ∃ c, l = [c] := List.length_eq_one_iff.mp (by omega); obtain ⟨tc, sc, hc, gc, xc⟩ := hk c (by simp); simp only [cntG, csum, List.length_cons, List.length_nil] at hcnt ⊢; obtain ⟨q0, q1⟩ := field_t (b := uuB 11) rfl hq; obtain rfl := field_z (b := ukB 11) rfl hp; obtain rfl := field_z (b := uvB 11) rfl hw; obtain ⟨r, xe, x1, x2, x3⟩ := tx11 v 0 q 0 c tc (by omega) hc gc q0 q1; exact ⟨r, by omega, x2, x3, by rw [xe, toL_app, toL_app, toL_app, show (⟨#[115, 111, 109, 101, 32]⟩ : ByteArray).toList = headS 11 from toL_lit (headS 11), show (lgB q).toList = [lgC q] from lgD_toL q q0 q1, show (⟨#[46]⟩ : ByteArray).toList = [46] from toL_lit [46]]; have := TX.bd n 11 q c _ (by omega) q0 q1 xc; simpa using this⟩
  ·have har : arN 12 = 1 := rfl; rw [har] at ha; obtain ⟨c, rfl⟩ : ∃ c, l = [c] := List.length_eq_one_iff.mp (by omega); obtain ⟨tc, sc, hc, gc, xc⟩ := hk c (by simp); simp only [cntG, csum, List.length_cons, List.length_nil] at hcnt ⊢; obtain ⟨q0, q1⟩ := field_t (b := uuB 12) rfl hq; obtain rfl := field_z (b := ukB 12) rfl hp; obtain rfl := field_z (b := uvB 12) rfl hw; obtain ⟨r, xe, x1, x2, x3⟩ := tx12 v 0 q 0 c tc (by omega) hc gc q0 q1; exact ⟨r, by omega, x2, x3, by rw [xe, toL_app, toL_app, toL_app, show (⟨#[97, 108, 108, 32]⟩ : ByteArray).toList = headS 12 from toL_lit (headS 12), show (lgB q).toList = [lgC q] from lgD_toL q q0 q1, show (⟨#[46]⟩ : ByteArray).toList = [46] from toL_lit [46]]; have := TX.bd n 12 q c _ (by omega) q0 q1 xc; simpa using this⟩
theorem vars_ok (l : List ByteArray) (h : varsB l = true) : l.length ≤ 4 ∧ ∀ s ∈ l, s.size ≤ 2 := by
 unfold varsB at h; simp only [Bool.and_eq_true, decide_eq_true_eq] at h; refine ⟨by omega, fun s hs => ?_⟩; obtain ⟨i, hi, rfl⟩ := List.getElem_of_mem hs; have h1 := (h.1 i hi).1; rw [get_rep _ _ _ hi] at h1; unfold nameB at h1; simp only [Bool.and_eq_true, decide_eq_true_eq] at h1; omega
theorem ev_both (v : List ByteArray) (hl : v.length ≤ 1048576) (hs : ∀ s ∈ v, s.size ≤ 1048576) (n : Nat) (y : S32) (hy : LG n y) (hc : cntG n y ≤ 1048576) :
  ∃ r : ByteArray, Ev (fun k => spec_FormulaText.f k v y.f0 y.f1 y.f2 y.f3 y.f4) r ∧ Ev (fun k => impl_FormulaText.f k v y.f0 y.f1 y.f2 y.f3 y.f4) r ∧ (r.toList = [] ∨ TX v n y r.toList) ∧ r.size ≤ 20 * (1 + cntG n y) := by
 have a1 := ev_specAreVars v (by omega) (fun s h => by have := hs s h; omega); have a2 := ev_implAreVars v (by omega) (fun s h => by have := hs s h; omega); cases hv : varsB v with
 | false =>
  rw [hv] at a1 a2; obtain ⟨K, hK⟩ := Evt.and a1 a2; refine ⟨⟨#[]⟩, ⟨K, fun k hk => ?_⟩, ⟨K, fun k hk => ?_⟩, Or.inl (toL_lit []), Nat.zero_le _⟩
  ·have e := (hK k hk).1; dsimp only at e ⊢; unfold spec_FormulaText.f; rw [e]; rfl
  ·have e := (hK k hk).2; dsimp only at e ⊢; unfold impl_FormulaText.f; rw [e]; rfl
 | true =>
  rw [hv] at a1 a2; obtain ⟨v4, v2⟩ := vars_ok v hv; obtain ⟨b, f1, f2, hb⟩ := ev_isFormula (v.length : Int) (by omega) (by omega) n y hy hc; cases b with
  | false =>
   obtain ⟨K, hK⟩ := Evt.and (Evt.and a1 f1) (Evt.and a2 f2); refine ⟨⟨#[]⟩, ⟨K, fun k hk => ?_⟩, ⟨K, fun k hk => ?_⟩, Or.inl (toL_lit []), Nat.zero_le _⟩
   ·obtain ⟨e, e'⟩ := (hK k hk).1; dsimp only at e e' ⊢; unfold spec_FormulaText.f; rw [e]; simp only [obs, if_true]; rw [e']; rfl
   ·obtain ⟨e, e'⟩ := (hK k hk).2; dsimp only at e e' ⊢; unfold impl_FormulaText.f; rw [e]; simp only [obs, if_true]; rw [e']; rfl
  | true =>
   obtain ⟨r, hz_, t1, t2, tx_⟩ := ev_text v v2 n y hy (hb rfl) hc; obtain ⟨K, hK⟩ := Evt.and (Evt.and a1 (Evt.and f1 t1)) (Evt.and a2 (Evt.and f2 t2)); refine ⟨r, ⟨K, fun k hk => ?_⟩, ⟨K, fun k hk => ?_⟩, Or.inr tx_, hz_⟩
   ·obtain ⟨e, e', e2⟩ := (hK k hk).1; dsimp only at e e' e2 ⊢; unfold spec_FormulaText.f; rw [e]; simp only [obs, if_true]; rw [e']; simp only [obs, if_true]; rw [e2]; rfl
   ·obtain ⟨e, e', e2⟩ := (hK k hk).2; dsimp only at e e' e2 ⊢; unfold impl_FormulaText.f; rw [e]; simp only [obs, if_true]; rw [e']; simp only [obs, if_true]; rw [e2]; rfl
theorem LT2_LG : ∀ (n : Nat) (x : S32), LT2 n x → LG n x
 | 0, _, h => h
 | n + 1, x, h => ⟨by have := h.1; omega, fun y hy => LT2_LG n y (h.2 y hy)⟩
theorem LT2_cnt : ∀ (n : Nat) (x : S32), LT2 n x → cntG n x + 2 ≤ 2 ^ (n + 2)
 | 0, _, h => h.elim
 | n + 1, x, h => by
  obtain ⟨h1, h2⟩ := h; have e : 2 ^ (n + 1 + 2) = 2 * 2 ^ (n + 2) := by rw [Nat.pow_succ]; omega
  have p : 0 < 2 ^ (n + 2) := Nat.pos_of_ne_zero (by simp); have p4 : 4 ≤ 2 ^ (n + 2) := by rw [Nat.pow_add]; have : 0 < 2 ^ n := Nat.pos_of_ne_zero (by simp); omega
  obtain ⟨a, b, c, d, l⟩ := x; simp only at h1 h2; match l, h1, h2 with
  | [], _, _ => simp [cntG, csum]; omega
  | [y], _, h2 => have := LT2_cnt n y (h2 y (by simp)); simp [cntG, csum]; omega
  | [y, z], _, h2 => have := LT2_cnt n y (h2 y (by simp)); have := LT2_cnt n z (h2 z (by simp)); simp [cntG, csum]; omega
theorem LT2_small {x : S32} (h : LT2 12 x) : cntG 12 x ≤ 1048576 := by have := LT2_cnt 12 x h; omega
theorem VN_of {v : List ByteArray} (h : varsB v = true) : VN v := by
 unfold varsB at h; rw [Bool.and_eq_true, decide_eq_true_eq] at h; intro j hj; obtain ⟨h1, h2⟩ := h.1 j hj; have e : v.getD j ByteArray.empty = v[j] := by rw [List.getD_eq_getElem?_getD, List.getElem?_eq_getElem hj]; rfl
 rw [e] at h1 h2; refine ⟨fun c hc => ?_, h2⟩; unfold nameB at h1; rw [Bool.and_eq_true, decide_eq_true_eq] at h1; obtain ⟨i, hi, rfl⟩ := List.getElem_of_mem hc; have hz : i < v[j].size := by rw [← size_toL]; exact hi
 have hb := h1.1 i hz; have hd : v[j].toList.drop i = v[j].toList[i] :: v[j].toList.drop (i + 1) := List.drop_eq_getElem_cons hi; rw [bt_at hd] at hb; omega
theorem text_both {v : List ByteArray} (hv1 : v.length ≤ 1048576) (hv2 : ∀ x ∈ v, x.size ≤ 1048576) {n : Nat} {x : S32} (h : LG n x) (hc : cntG n x ≤ 1048576) : ∃ r : ByteArray, Ev (fun k => spec_FormulaText.f k v x.f0 x.f1 x.f2 x.f3 x.f4) r ∧ Ev (fun k => impl_FormulaText.f k v x.f0 x.f1 x.f2 x.f3 x.f4) r ∧ (r.toList = [] ∨ TX v n x r.toList) := by
 obtain ⟨r, a, b, c, _⟩ := ev_both v hv1 hv2 n x h hc; exact ⟨r, a, b, c⟩
theorem pfx_nil {a s : ByteArray} (ha : a.toList ≠ []) (h : s.toList = []) : pfxB a s = false := by
 rw [Bool.eq_false_iff]; intro c; have e := pfx_to c; rw [h] at e; exact ha (List.append_eq_nil_iff.1 e.symm).1
theorem RI_nil (v : List ByteArray) (n : Nat) {s : ByteArray} (h : s.toList = []) : (RI v n s).2.1 = false := by
 cases n with
 | zero => rfl
 | succ n =>
  have hk : kindOf s = 0 := by
   rcases kindOf_cases s with ⟨h0, _⟩ | ⟨h1, h2⟩
   ·exact h0
   ·have : (headB (kindOf s)).toList ≠ [] := by rw [head_toL]; obtain ⟨x, p, e, _⟩ := head_first h1; rw [e]; simp
    rw [pfx_nil this h] at h2; cases h2
  rw [RI, if_neg (by rw [pfx_nil (by rw [toL_lit [33]]; simp) h]; decide), if_neg (by rw [pfx_nil (by rw [toL_lit [40]]; simp) h]; decide), if_pos hk]
theorem parseI {v : List ByteArray} (hv1 : v.length ≤ 1048576) (hv2 : ∀ x ∈ v, x.size ≤ 1048576) (hv : VN v) (s : ByteArray) : ∃ (b : Bool) (x : S32), Ev (fun k => impl_ParseFormula.f k v s) (x.f0, x.f1, x.f2, x.f3, x.f4, b) ∧
  (b = true → LT2 12 x ∧ TX v 12 x s.toList ∧ Ev (fun k => impl_FormulaText.f k v x.f0 x.f1 x.f2 x.f3 x.f4) s) ∧
  (∀ (n : Nat) (y : S32), n ≤ 12 → TX v n y s.toList → Ev (fun k => impl_FormulaText.f k v y.f0 y.f1 y.f2 y.f3 y.f4) s → b = true ∧ x = y) ∧ (b = false → x = zeroF) := by
 have e := ev_read v hv1 hv2 12 (Nat.le_refl _) s; rw [show ((12 : Int) - (12 : Nat)) = 0 from rfl] at e; cases hok : (RI v 12 s).2.1 with
 | false =>
  refine ⟨false, zeroF, Ev.bind e ?_, (fun h => absurd h (by decide)), (fun n y hn hy _ => ?_), fun _ => rfl⟩
  ·refine Ev.congr (fun k => if_neg (by rw [show (enc (RI v 12 s) 0).2.2.2.2.2.1 = (RI v 12 s).2.1 from rfl, hok]; decide)) (Ev.now' rfl)
  ·obtain ⟨s', e2, _⟩ := RI_text (VN_names hv) hy 12 hn s [] (by rw [List.append_nil]); rw [e2] at hok; cases hok
 | true =>
  have hl := RI_lev v 12 s hok; obtain ⟨r, _, t2, tx⟩ := text_both hv1 hv2 (LT2_LG _ _ hl) (LT2_small hl); by_cases hr : r.toList = s.toList
  ·have hrs := toL_ext hr; subst hrs; refine ⟨true, (RI v 12 r).1, Ev.bind e ?_, fun _ => ⟨hl, ?_, t2⟩, (fun n y hn hy _ => ⟨rfl, ?_⟩), fun h => absurd h (by decide)⟩
   ·refine Ev.congr (fun k => if_pos hok) ?_; refine Ev.bind t2 ?_; exact Ev.congr (fun k => if_pos rfl) (Ev.now' rfl)
   ·rcases tx with h0 | h1
    ·rw [RI_nil v 12 h0] at hok; cases hok
    ·exact h1
   ·obtain ⟨s', e2, _⟩ := RI_text (VN_names hv) hy 12 hn r [] (by rw [List.append_nil]); rw [e2]
  ·refine ⟨false, zeroF, Ev.bind e ?_, (fun h => absurd h (by decide)), (fun n y hn hy ht => ?_), fun _ => rfl⟩
   ·refine Ev.congr (fun k => if_pos hok) ?_; refine Ev.bind t2 ?_; exact Ev.congr (fun k => if_neg hr) (Ev.now' rfl)
   ·obtain ⟨s', e2, _⟩ := RI_text (VN_names hv) hy 12 hn s [] (by rw [List.append_nil]); rw [e2] at t2; exact absurd (congrArg ByteArray.toList (Ev.uniq t2 ht)) hr
theorem TX_ne {v : List ByteArray} {n : Nat} {y : S32} {t : List UInt8} (h : TX v n y t) : t ≠ [] := by
 intro h0; cases h with
 | tt n => exact absurd h0 (by decide)
 | nv n a j u ha hj h0' h1 => simp at h0
 | sh n u h0' h1 => simp at h0
 | pr n a u w ha h0' h1 h2 h3 => simp at h0
 | no n x t h => simp at h0
 | an n a x y t u ha h k => simp at h0
 | bd n a u x t ha h0' h1 h => simp at h0
theorem parseS {v : List ByteArray} (hv1 : v.length ≤ 1048576) (hv2 : ∀ x ∈ v, x.size ≤ 1048576) (hv : VN v) (s : ByteArray) (hs : s.size ≤ 1099511627776) : ∃ (b : Bool) (x : S32), Ev (fun k => spec_ParseFormula.f k v s) (x.f0, x.f1, x.f2, x.f3, x.f4, b) ∧
  (b = true → LT2 12 x ∧ TX v 12 x s.toList ∧ Ev (fun k => spec_FormulaText.f k v x.f0 x.f1 x.f2 x.f3 x.f4) s) ∧
  (∀ (n : Nat) (y : S32), n ≤ 12 → TX v n y s.toList → s.toList ≠ [] → Ev (fun k => spec_FormulaText.f k v y.f0 y.f1 y.f2 y.f3 y.f4) s → b = true ∧ x = y) ∧ (b = false → x = zeroF) := by
 have e := ev_all v s hv1 hs 12 (Nat.le_refl _) 0 false (Nat.zero_le _); rw [show ((13 : Int) - (12 : Nat)) = 1 from rfl, show ((0 : Nat) : Int) = 0 from rfl] at e; have T : ∀ (n : Nat) (y : S32), n ≤ 12 → TX v n y s.toList → aS v s 12 0 false = (y, s.size, false) := fun n y hn hy => by
  have h := (aS_text hv hy 12 hn s 0 [] (Nat.zero_le _) (by rw [List.append_nil]; rfl)).1; rw [size_toL, Nat.zero_add] at h; exact h
 cases hb : (aS v s 12 0 false).2.2 with
 | true =>
  refine ⟨false, zeroF, Ev.bind e ?_, (fun h => absurd h (by decide)), (fun n y hn hy _ _ => ?_), fun _ => rfl⟩
  ·exact Ev.congr (fun k => if_pos hb) (Ev.now' rfl)
  ·rw [T n y hn hy] at hb; cases hb
 | false =>
  have hl := aS_lev v s 12 0 hb; by_cases hp : (aS v s 12 0 false).2.1 = s.size
  ·by_cases h0 : s.toList = []
   ·refine ⟨false, zeroF, Ev.bind e ?_, (fun h => absurd h (by decide)), (fun n y hn hy hne _ => absurd h0 hne), fun _ => rfl⟩; refine Ev.congr (fun k => if_neg (by rw [show (encS (aS v s 12 0 false) s).2.2.2.2.2.2.2 = (aS v s 12 0 false).2.2 from rfl, hb]; decide)) ?_; refine Ev.congr (fun k => if_pos (by rw [show (encS (aS v s 12 0 false) s).2.2.2.2.2.2.1 = ((aS v s 12 0 false).2.1 : Int) from rfl, hp])) ?_; exact Ev.congr (fun k => if_pos h0) (Ev.now' rfl)
   ·obtain ⟨r, t1, _, tx⟩ := text_both hv1 hv2 (LT2_LG _ _ hl) (LT2_small hl); have pre : ∀ (q : Int × Int × Int × Int × List S32 × Bool), Ev (fun k => (spec_FormulaText.f k v (aS v s 12 0 false).1.f0 (aS v s 12 0 false).1.f1 (aS v s 12 0 false).1.f2 (aS v s 12 0 false).1.f3 (aS v s 12 0 false).1.f4).bind fun t => (if t.toList = s.toList then (some ((aS v s 12 0 false).1.f0, (aS v s 12 0 false).1.f1, (aS v s 12 0 false).1.f2, (aS v s 12 0 false).1.f3, (aS v s 12 0 false).1.f4, true)) else (some (0, 0, 0, 0, ([] : List S32), false)))) q → Ev (fun k => spec_ParseFormula.f k v s) q := fun q hq => by
     refine Ev.bind e ?_; refine Ev.congr (fun k => if_neg (by rw [show (encS (aS v s 12 0 false) s).2.2.2.2.2.2.2 = (aS v s 12 0 false).2.2 from rfl, hb]; decide)) ?_; refine Ev.congr (fun k => if_pos (by rw [show (encS (aS v s 12 0 false) s).2.2.2.2.2.2.1 = ((aS v s 12 0 false).2.1 : Int) from rfl, hp])) ?_; exact Ev.congr (fun k => if_neg h0) hq
    by_cases hr : r.toList = s.toList
    ·have hrs := toL_ext hr; subst hrs; refine ⟨true, (aS v r 12 0 false).1, pre _ (Ev.bind t1 (Ev.congr (fun k => if_pos rfl) (Ev.now' rfl))), fun _ => ⟨hl, ?_, t1⟩, (fun n y hn hy _ _ => ⟨rfl, by rw [T n y hn hy]⟩), fun h => absurd h (by decide)⟩; rcases tx with h1 | h1
     ·exact absurd h1 h0
     ·exact h1
    ·refine ⟨false, zeroF, pre _ (Ev.bind t1 (Ev.congr (fun k => if_neg hr) (Ev.now' rfl))), (fun h => absurd h (by decide)), (fun n y hn hy _ ht => ?_), fun _ => rfl⟩; rw [T n y hn hy] at t1; exact absurd (congrArg ByteArray.toList (Ev.uniq t1 ht)) hr
  ·refine ⟨false, zeroF, Ev.bind e ?_, (fun h => absurd h (by decide)), (fun n y hn hy _ _ => ?_), fun _ => rfl⟩
   ·refine Ev.congr (fun k => if_neg (by rw [show (encS (aS v s 12 0 false) s).2.2.2.2.2.2.2 = (aS v s 12 0 false).2.2 from rfl, hb]; decide)) ?_; exact Ev.congr (fun k => if_neg (by rw [show (encS (aS v s 12 0 false) s).2.2.2.2.2.2.1 = ((aS v s 12 0 false).2.1 : Int) from rfl]; omega)) (Ev.now' rfl)
   ·rw [T n y hn hy] at hp; exact absurd rfl hp
theorem parse_good {v : List ByteArray} (hv1 : v.length ≤ 1048576) (hv2 : ∀ x ∈ v, x.size ≤ 1048576) (hv : VN v) (s : ByteArray) (hs : s.size ≤ 1099511627776) : ∃ (b : Bool) (x : S32), Ev (fun k => impl_ParseFormula.f k v s) (x.f0, x.f1, x.f2, x.f3, x.f4, b) ∧ Ev (fun k => spec_ParseFormula.f k v s) (x.f0, x.f1, x.f2, x.f3, x.f4, b) ∧
  (b = true → LT2 12 x) ∧ (b = false → x = zeroF) := by
 obtain ⟨b, x, e1, i1, i2, i3⟩ := parseI hv1 hv2 hv s; obtain ⟨c, z, e2, j1, j2, j3⟩ := parseS hv1 hv2 hv s hs; cases b with
 | true =>
  obtain ⟨h1, h2, h3⟩ := i1 rfl; obtain ⟨r, t1, t2, _⟩ := text_both hv1 hv2 (LT2_LG _ _ h1) (LT2_small h1); obtain rfl := Ev.uniq t2 h3; obtain ⟨rfl, rfl⟩ := j2 12 x (Nat.le_refl _) h2 (TX_ne h2) t1; exact ⟨true, z, e1, e2, fun _ => h1, fun h => absurd h (by decide)⟩
 | false =>
  obtain rfl := i3 rfl; cases c with
  | false =>
   obtain rfl := j3 rfl; exact ⟨false, zeroF, e1, e2, fun h => absurd h (by decide), fun _ => rfl⟩
  | true =>
   obtain ⟨h1, h2, h3⟩ := j1 rfl; obtain ⟨r, t1, t2, _⟩ := text_both hv1 hv2 (LT2_LG _ _ h1) (LT2_small h1); obtain rfl := Ev.uniq t1 h3; exact absurd (i2 12 z (Nat.le_refl _) h2 t2).1 (by decide)
theorem text_bad {v : List ByteArray} (hv1 : v.length ≤ 1048576) (hv2 : ∀ x ∈ v, x.size ≤ 1048576) (hv : varsB v = false) (a b c d : Int) (l : List S32) : Ev (fun k => impl_FormulaText.f k v a b c d l) (⟨#[]⟩ : ByteArray) ∧ Ev (fun k => spec_FormulaText.f k v a b c d l) (⟨#[]⟩ : ByteArray) := by
 have a1 := ev_specAreVars v (by omega) (fun s h => by have := hv2 s h; omega); have a2 := ev_implAreVars v (by omega) (fun s h => by have := hv2 s h; omega); rw [hv] at a1 a2; exact ⟨Ev.bind a2 (Ev.congr (fun k => if_neg (by decide)) (Ev.now' rfl)), Ev.bind a1 (Ev.congr (fun k => if_neg (by decide)) (Ev.now' rfl))⟩
theorem parse_bad {v : List ByteArray} (hv1 : v.length ≤ 1048576) (hv2 : ∀ x ∈ v, x.size ≤ 1048576) (hv : varsB v = false) (s : ByteArray) (hs : s.size ≤ 1099511627776) : Ev (fun k => impl_ParseFormula.f k v s) (0, 0, 0, 0, [], false) ∧ Ev (fun k => spec_ParseFormula.f k v s) (0, 0, 0, 0, [], false) := by
 constructor
 ·have e := ev_read v hv1 hv2 12 (Nat.le_refl _) s; rw [show ((12 : Int) - (12 : Nat)) = 0 from rfl] at e; refine Ev.bind e ?_; cases hok : (RI v 12 s).2.1 with
  | false => exact Ev.congr (fun k => if_neg (by rw [show (enc (RI v 12 s) 0).2.2.2.2.2.1 = (RI v 12 s).2.1 from rfl, hok]; decide)) (Ev.now' rfl)
  | true =>
   refine Ev.congr (fun k => if_pos hok) ?_; refine Ev.bind (text_bad hv1 hv2 hv _ _ _ _ _).1 ?_; refine Ev.congr (fun k => if_neg ?_) (Ev.now' rfl); intro h; rw [RI_nil v 12 (h.symm.trans (toL_lit []))] at hok; cases hok
 ·have e := ev_all v s hv1 hs 12 (Nat.le_refl _) 0 false (Nat.zero_le _); rw [show ((13 : Int) - (12 : Nat)) = 1 from rfl, show ((0 : Nat) : Int) = 0 from rfl] at e; refine Ev.bind e ?_; cases hb : (aS v s 12 0 false).2.2 with
  | true => exact Ev.congr (fun k => if_pos hb) (Ev.now' rfl)
  | false =>
   refine Ev.congr (fun k => if_neg (by rw [show (encS (aS v s 12 0 false) s).2.2.2.2.2.2.2 = (aS v s 12 0 false).2.2 from rfl, hb]; decide)) ?_; by_cases hp : (aS v s 12 0 false).2.1 = s.size
   ·refine Ev.congr (fun k => if_pos (by rw [show (encS (aS v s 12 0 false) s).2.2.2.2.2.2.1 = ((aS v s 12 0 false).2.1 : Int) from rfl, hp])) ?_; by_cases h0 : s.toList = []
    ·exact Ev.congr (fun k => if_pos h0) (Ev.now' rfl)
    ·refine Ev.congr (fun k => if_neg h0) ?_; refine Ev.bind (text_bad hv1 hv2 hv _ _ _ _ _).2 ?_; exact Ev.congr (fun k => if_neg (fun h => h0 (h.symm.trans (toL_lit [])))) (Ev.now' rfl)
   ·exact Ev.congr (fun k => if_neg (by rw [show (encS (aS v s 12 0 false) s).2.2.2.2.2.2.1 = ((aS v s 12 0 false).2.1 : Int) from rfl]; omega)) (Ev.now' rfl)
theorem parse_any {v : List ByteArray} (hv1 : v.length ≤ 1048576) (hv2 : ∀ x ∈ v, x.size ≤ 1048576) (s : ByteArray) (hs : s.size ≤ 1099511627776) : ∃ (b : Bool) (x : S32), Ev (fun k => impl_ParseFormula.f k v s) (x.f0, x.f1, x.f2, x.f3, x.f4, b) ∧ Ev (fun k => spec_ParseFormula.f k v s) (x.f0, x.f1, x.f2, x.f3, x.f4, b) ∧
  (LT2 12 x) := by
 have hz : LT2 12 zeroF := LT2_0 _ _ _ _ _; cases hv : varsB v with
 | true =>
  obtain ⟨b, x, e1, e2, h1, h2⟩ := parse_good hv1 hv2 (VN_of hv) s hs; refine ⟨b, x, e1, e2, ?_⟩; cases b with
  | true => exact h1 rfl
  | false => exact h2 rfl ▸ hz
 | false =>
  obtain ⟨e1, e2⟩ := parse_bad hv1 hv2 hv s hs; exact ⟨false, zeroF, e1, e2, hz⟩
theorem ev_eqF : ∀ (n : Nat) (x : S32), LG n x → Ev (fun k => laws_eqFormula.f k x.f0 x.f1 x.f2 x.f3 x.f4 x.f0 x.f1 x.f2 x.f3 x.f4) true := by
 intro n; induction n with
 | zero => intro x h; exact h.elim
 | succ n ih =>
  intro x hx; have hlen := hx.1; have hi := all_loop x.f4.length (by omega) (fun _ => True) (fun k i => laws_eqFormulaS.l0 k x.f4 x.f4 i) true false
   (fun i hi _ => by
    obtain ⟨K, hK⟩ := ih _ (hx.2 _ (getD_mem z32 _ _ hi)); refine ⟨K, fun k hk => ?_⟩; have e := hK k hk; dsimp only at e; simp only [laws_eqFormulaS.l0]; rw [if_pos (by omega), if_pos (by omega), if_pos (by omega), rdG, e]; simp only [obs]; rw [if_pos trivial])
   (fun i hi hT => absurd trivial hT)
   ⟨0, fun k _ => by simp only [laws_eqFormulaS.l0]; rw [if_neg (by omega)]⟩ true (by simp)
  refine Ev.next (f := fun k => (laws_eqFormulaS.f k x.f4 x.f4).bind fun t => if t = true then some true else some false) ⟨0, fun k _ => ?_⟩ ?_
  ·simp only [laws_eqFormula.f]; rw [if_pos trivial, if_pos trivial, if_pos trivial, if_pos trivial]
  ·refine Ev.bind (Ev.next (g := fun k => laws_eqFormulaS.f k x.f4 x.f4) (f := fun k => laws_eqFormulaS.l0 k x.f4 x.f4 0) ⟨0, fun k _ => by simp only [laws_eqFormulaS.f]; rw [if_pos trivial]⟩ hi) ?_; exact Ev.congr (fun k => if_pos rfl) (Ev.now' rfl)
inductive HM : List S32 → Int → Int → Prop
 | nil (a : Int) : HM [] a a
 | cons (a b r : Int) (zs ys : List S32) (h0 : a + 4 ≤ b) (h : Ev (fun k => laws_heldFormulaS.f k zs (a + 4)) b) (t : HM ys b r) : HM ((⟨a, a + 1, a + 2, a + 3, zs⟩ : S32) :: ys) a r
theorem HM_le {l : List S32} {a r : Int} (h : HM l a r) : a ≤ r := by
 induction h with
 | nil a => exact Int.le_refl _
 | cons a b r zs ys h0 _ _ ih => omega
theorem HM_held {l : List S32} {a r : Int} (hl : l.length ≤ 1048576) (h : HM l a r) (h0 : 0 ≤ a) (h1 : r ≤ 1000000000) : Ev (fun k => laws_heldFormulaS.f k l a) r := by
 refine Ev.next (f := fun k => laws_heldFormulaS.l0 k l a 0) ⟨0, fun k _ => by simp only [laws_heldFormulaS.f]⟩ ?_; refine loop_is (σ := Int) l.length (fun k s i => laws_heldFormulaS.l0 k l s i) (fun i s => HM (l.drop i) s r ∧ 0 ≤ s) r (fun i s hi ⟨hm, hs⟩ => ?_) (fun s ⟨hm, hs⟩ => ?_) a ⟨h, h0⟩
 ·rw [List.drop_eq_getElem_cons hi] at hm; have hle := HM_le hm; generalize hx : l[i] = x at hm; generalize hq : l.drop (i + 1) = q at hm; cases hm with
  | cons _ b _ zs ys g0 g1 g2 =>
   have hb := HM_le g2; obtain ⟨K, hK⟩ := g1; refine Or.inl ⟨b, ⟨g2, by omega⟩, K, fun k hk => ?_⟩; have e := hK k hk; dsimp only at e; have hr : rd_T32 l (i : Int) = ⟨s, s + 1, s + 2, s + 3, zs⟩ := by rw [rdG, get_rep _ _ _ hi, hx]
   have w1 : wrap64 (s + 1) = s + 1 := w64 (by omega) (by omega); have w2 : wrap64 (s + 1 + 1) = s + 2 := by rw [w64 (by omega) (by omega)]; omega
   have w3 : wrap64 (s + 2 + 1) = s + 3 := by rw [w64 (by omega) (by omega)]; omega
   have w4 : wrap64 (s + 3 + 1) = s + 4 := by rw [w64 (by omega) (by omega)]; omega
   simp only [laws_heldFormulaS.l0, hr, w1, w2, w3, w4]; rw [if_pos (by omega), if_pos (by omega), if_pos trivial, if_pos trivial, if_pos trivial, if_pos trivial, e]; simp only [obs]; rw [if_neg (by omega), up64 (by omega)]
 ·rw [List.drop_length] at hm; cases hm with
  | nil => exact ⟨0, fun k _ => by simp only [laws_heldFormulaS.l0]; rw [if_neg (by omega)]⟩
def mkC (n : Nat) (l : List S32) : Nat := l.length + csum (cntG n) l
theorem mark_fold (n : Nat) (ih : ∀ (l : List S32) (a : Int), (∀ y ∈ l, LG n y) → l.length ≤ 1048576 → 0 ≤ a → a + 4 * mkC n l ≤ 1000000000 → ∃ ys : List S32, ys.length = l.length ∧ Ev (fun k => laws_markFormulaS.f k l a) (ys, a + 4 * mkC n l) ∧ HM ys a (a + 4 * mkC n l)) :
  ∀ (l acc : List S32) (a : Int), (∀ y ∈ l, LG (n + 1) y) → 0 ≤ a → a + 4 * mkC (n + 1) l ≤ 1000000000 → ∃ ys : List S32, ys.length = l.length ∧ HM ys a (a + 4 * mkC (n + 1) l) ∧
   Ev (fun k => l.foldlM (fun (p : List S32 × Int) x => if 0 ≤ p.2 ∧ p.2 ≤ 4611686018427387904 then (laws_markFormulaS.f k x.f4 (p.2 + 4)).bind fun t => some (p.1 ++ [(⟨p.2, p.2 + 1, p.2 + 2, p.2 + 3, t.1⟩ : S32)], t.2) else none) (acc, a)) (acc ++ ys, a + 4 * mkC (n + 1) l) := by
 intro l; induction l with
 | nil =>
  intro acc a _ _ _; refine ⟨[], rfl, by simp only [mkC, csum]; simpa using HM.nil a, Ev.one (fun k => ?_)⟩; simp [mkC, csum]
 | cons x l il =>
  intro acc a hl h0 h1; have hx := hl x (by simp); have hc : mkC (n + 1) (x :: l) = 1 + mkC n x.f4 + mkC (n + 1) l := by simp only [mkC, csum, cntG, List.length_cons]; omega
  obtain ⟨zs, z0, z1, z2⟩ := ih x.f4 (a + 4) hx.2 hx.1 (by omega) (by omega); have hz := HM_held (by rw [z0]; exact hx.1) z2 (by omega) (by omega); obtain ⟨ys, y0, y1, y2⟩ := il (acc ++ [(⟨a, a + 1, a + 2, a + 3, zs⟩ : S32)]) (a + 4 + 4 * mkC n x.f4) (fun y hy => hl y (by simp [hy])) (by omega) (by omega); have e : a + 4 * mkC (n + 1) (x :: l) = a + 4 + 4 * mkC n x.f4 + 4 * mkC (n + 1) l := by omega
  refine ⟨(⟨a, a + 1, a + 2, a + 3, zs⟩ : S32) :: ys, by simp [y0], by rw [e]; exact HM.cons _ _ _ _ _ (by omega) hz y1, ?_⟩; rw [e]; rw [List.append_assoc] at y2; refine Ev.congr (fun k => by rw [List.foldlM_cons]) ?_; refine Ev.bind (a := (acc ++ [(⟨a, a + 1, a + 2, a + 3, zs⟩ : S32)], a + 4 + 4 * mkC n x.f4)) ?_ y2; refine Ev.congr (fun k => if_pos ⟨h0, by omega⟩) ?_; exact Ev.bind z1 (Ev.now' rfl)
theorem ev_markF : ∀ (n : Nat) (l : List S32) (a : Int), (∀ y ∈ l, LG n y) → l.length ≤ 1048576 → 0 ≤ a → a + 4 * mkC n l ≤ 1000000000 → ∃ ys : List S32, ys.length = l.length ∧ Ev (fun k => laws_markFormulaS.f k l a) (ys, a + 4 * mkC n l) ∧ HM ys a (a + 4 * mkC n l) := by
 intro n; induction n with
 | zero =>
  intro l a h _ _ _; have : l = [] := by
   cases l with
   | nil => rfl
   | cons x l => exact (h x (by simp)).elim
  subst this; refine ⟨[], rfl, Ev.next (f := fun k => some (([] : List S32), a)) ⟨0, fun k _ => by simp only [laws_markFormulaS.f, List.foldlM_nil]; rfl⟩ (Ev.now' (by simp [mkC, csum])), by simpa [mkC, csum] using HM.nil a⟩
 | succ n ih =>
  intro l a h hl h0 h1; obtain ⟨ys, y0, y1, y2⟩ := mark_fold n ih l [] a h h0 h1; refine ⟨ys, y0, ?_, y1⟩; rw [List.nil_append] at y2; exact Ev.next ⟨0, fun k _ => by simp only [laws_markFormulaS.f]⟩ y2
theorem LT2_mk {x : S32} (h : LT2 12 x) : mkC 11 x.f4 ≤ 1048576 := LT2_small h
theorem FnExactParseFormula : laws_FnExactParseFormula.Pure := by
 intro v s hv hs; have hm : maxLen = 9223372036854775807 := rfl; by_cases cs : (s.size : Int) > 1048576
 ·refine ⟨0, ?_⟩; unfold laws_FnExactParseFormula.f; rw [if_pos cs]
 have e1 := ev_szStringS v 1048576 (by omega) (by omega) (by have := hv.1; omega) (fun x hx => by have := hv.2 x hx; omega); suffices h : Ev (fun k => laws_FnExactParseFormula.f k v s) true from h.rounds
 refine Ev.congr (fun k => by unfold laws_FnExactParseFormula.f; rw [if_neg cs]) ?_; by_cases cw : wS v ≤ 1048576
 ·rw [if_pos cw] at e1; have hn := sums_nonneg v; have hv1 : v.length ≤ 1048576 := by unfold wS at cw; omega
  have hv2 : ∀ x ∈ v, x.size ≤ 1048576 := fun x hx => by
   obtain ⟨i, hi, rfl⟩ := List.getElem_of_mem hx; have h1 := sums_take v i hi; have h2 := sums_le v (i + 1); have h3 := sums_nonneg (v.take i); rw [rdOf_at _ _ _ hi] at h1; unfold wS at cw; omega
  obtain ⟨b, x, p1, p2, hl⟩ := parse_any hv1 hv2 s (by omega); have ht := ev_toStringS v (by omega); have hq := ev_eqStringS v (by omega); have he := ev_eqF 12 x (LT2_LG _ _ hl); obtain ⟨v', hk⟩ := ev_markStringAny v 1 (by omega) hv1 (by omega); have hc := LT2_mk hl; have hL := LT2_LG _ _ hl; obtain ⟨ys, y0, y1, y2⟩ := ev_markF 11 x.f4 1 hL.2 hL.1 (by omega) (by omega); have y3 := HM_held (by rw [y0]; exact hL.1) y2 (by omega) (by omega); have hle := HM_le y2; have yM : Ev (fun k => laws_markFormula.f k x.f0 x.f1 x.f2 x.f3 x.f4 1) (1 + 4 * (mkC 11 x.f4 : Int), ys) := Ev.bind y1 (Ev.now' rfl); have yH : Ev (fun k => laws_heldFormula.f k x.f0 x.f1 x.f2 x.f3 ys 1) (1 + 4 * (mkC 11 x.f4 : Int)) := by
   refine Ev.congr (fun k => by unfold laws_heldFormula.f; rfl) ?_; exact Ev.bind y3 (Ev.congr (fun k => if_neg (by omega)) (Ev.now' rfl))
  have J2 : Ev (fun k => laws_FnExactParseFormula.j2 k (1 + 4 * (mkC 11 x.f4 : Int)) false x.f0 x.f1 x.f2 x.f3 ys) true := by
   refine Ev.step (fun k => by rw [laws_FnExactParseFormula.j2]) ?_; refine Ev.congr (fun k => if_neg (by decide)) ?_; refine Ev.bind yH ?_; exact Ev.congr (fun k => if_neg (by omega)) (Ev.congr (fun k => if_pos rfl) (Ev.now' rfl))
  have J1 : Ev (fun k => laws_FnExactParseFormula.j1 k v s b false x.f0 x.f1 x.f2 x.f3 x.f4 x.f0 x.f1 x.f2 x.f3 x.f4) true := by
   refine Ev.step (fun k => by rw [laws_FnExactParseFormula.j1]) ?_; refine Ev.congr (fun k => if_neg (by decide)) ?_; refine Ev.bind yM (Ev.bind yH ?_); refine Ev.congr (fun k => if_neg (by omega)) (Ev.congr (fun k => if_pos rfl) ?_); refine Ev.bind ht (Ev.bind p1 (Ev.bind he ?_)); refine Ev.congr (fun k => if_pos rfl) ?_; refine Ev.congr (fun k => ?_) J2; simp
  have J0 : Ev (fun k => laws_FnExactParseFormula.j0 k v s b v b false x.f0 x.f1 x.f2 x.f3 x.f4 x.f0 x.f1 x.f2 x.f3 x.f4) true := by
   refine Ev.step (fun k => by rw [laws_FnExactParseFormula.j0]) ?_; refine Ev.congr (fun k => if_neg (by decide)) ?_; refine Ev.bind ht (Ev.bind hq ?_); refine Ev.congr (fun k => if_pos rfl) ?_; refine Ev.bind hk ?_; refine Ev.congr (fun k => if_neg (by show ¬ (1 + (v.length : Int) < 0); omega)) ?_; refine Ev.bind he ?_; refine Ev.congr (fun k => if_pos rfl) ?_; refine Ev.congr (fun k => ?_) J1; simp
  refine Ev.bind e1 ?_; refine Ev.congr (fun k => if_neg (by omega)) ?_; refine Ev.bind ht (Ev.bind p2 (Ev.bind ht (Ev.bind p1 (Ev.bind he ?_)))); refine Ev.congr (fun k => if_pos rfl) ?_; refine Ev.congr (fun k => ?_) J0; simp
 ·rw [if_neg cw] at e1; exact Ev.bind e1 (Ev.congr (fun k => if_pos (by decide)) (Ev.now' rfl))
end Go.Proofs.Ytoljagpjejpmpaa.Pure.LFnExactParseFormula
namespace Go.Proofs.Ytoljagpjejpmpaa.Pure
open Go.Proofs.Ytoljagpjejpmpaa.PFnExactParseFormula
theorem FnExactParseFormula : laws_FnExactParseFormula.Pure := LFnExactParseFormula.FnExactParseFormula
end Go.Proofs.Ytoljagpjejpmpaa.Pure
