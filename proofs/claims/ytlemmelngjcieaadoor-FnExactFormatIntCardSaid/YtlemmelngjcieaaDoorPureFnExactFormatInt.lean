/-
  The pure statement of laws.FnExactFormatInt: what the printed functions compute makes the law answer true, for every argument of its kinds (no further condition).
-/
import Derived.Test.YtlemmelngjcieaaDoorPFnExactFormatIntx1
import Derived.Test.YtlemmelngjcieaaDoorXPure
namespace Go.Proofs.YtlemmelngjcieaaDoor.Pure.LFnExactFormatInt
open Go.RowKit Go.Proofs.YtlemmelngjcieaaDoor.PFnExactFormatInt Go.Proofs.YtlemmelngjcieaaDoorW.PrintWords Go.Proofs.YtlemmelngjcieaaDoorW.PrintLast Go.Proofs.YtlemmelngjcieaaDoorX
set_option linter.unusedVariables false
set_option linter.unusedSimpArgs false

def dd (u : Nat) (l : List UInt8) : List UInt8 := if u = 0 then l else Go.Lib.decDigits u ++ l

theorem dd_step (u : Nat) (h : 0 < u) (l : List UInt8) : dd u l = dd (u / 10) (UInt8.ofNat (48 + u % 10) :: l) := by
  unfold dd
  rw [if_neg (by omega), Go.Lib.decDigits]
  by_cases c : u < 10
  · rw [dif_pos c, if_pos (by omega), Nat.mod_eq_of_lt c]
    rfl
  · rw [dif_neg c, if_neg (by omega)]
    simp

theorem cat (a l : List UInt8) : (⟨a.toArray⟩ : ByteArray) ++ ⟨l.toArray⟩ = ⟨(a ++ l).toArray⟩ := by
  apply ByteArray.ext
  simp [ByteArray.data_append]

theorem sz (l : List UInt8) : (⟨l.toArray⟩ : ByteArray).size = l.length := by
  simp [ByteArray.size]

theorem str1 (n : Nat) (h : n < 10) : strOfNums [(48 + (n : Int)) % 256] = ⟨[UInt8.ofNat (48 + n)].toArray⟩ := by
  unfold strOfNums
  have : ((48 + (n : Int)) % 256).toNat = 48 + n := by omega
  simp [this]

theorem endF (b : Bool) (l : List UInt8) (h : l.length ≤ 4611686018427387904) : Ev (fun k => spec_FormatInt.l0 k 0 b ⟨l.toArray⟩) ⟨((if b then [45] else []) ++ dd 0 l).toArray⟩ := by
  refine Ev.last ⟨0, fun k _ => ?_⟩
  simp only [spec_FormatInt.l0, if_true]
  cases b with
  | false => rfl
  | true =>
    rw [if_pos rfl, if_pos (by rw [sz]; omega)]
    have := cat [45] l
    exact congrArg some this

theorem loopP (b : Bool) : ∀ (m u : Nat), u ≤ m → u ≤ 9223372036854775807 → ∀ l : List UInt8, l.length = 0 ∨ l.length + u ≤ 4611686018427387904 → Ev (fun k => spec_FormatInt.l0 k (u : Int) b ⟨l.toArray⟩) ⟨((if b then [45] else []) ++ dd u l).toArray⟩ := by
  intro m
  induction m with
  | zero =>
    intro u hu h1 l hl
    obtain rfl : u = 0 := by omega
    exact endF b l (by omega)
  | succ m ih =>
    intro u hu h1 l hl
    by_cases c : u = 0
    · subst c
      exact endF b l (by omega)
    · have hr := ih (u / 10) (by omega) (by omega) (UInt8.ofNat (48 + u % 10) :: l) (by simp only [List.length_cons]; omega)
      rw [dd_step u (by omega)]
      refine Ev.next ⟨0, fun k _ => ?_⟩ hr
      have e1 : Int.tmod (u : Int) 10 = ((u % 10 : Nat) : Int) := by rw [Int.tmod_eq_emod_of_nonneg (by omega)]; rfl
      have e2 : Int.tdiv (u : Int) 10 = ((u / 10 : Nat) : Int) := by rw [Int.tdiv_eq_ediv_of_nonneg (by omega)]; rfl
      have hlt : u % 10 < 10 := Nat.mod_lt _ (by omega)
      simp only [spec_FormatInt.l0]
      rw [if_neg (by omega), e1, e2, if_neg (by omega), w64 (x := 48 + ((u % 10 : Nat) : Int)) (by omega) (by omega)]
      simp only [Option.bind_some]
      rw [str1 _ hlt, cat, if_pos (by rw [sz, sz]; simp only [List.length_cons, List.length_nil]; omega), w64 (by omega) (by omega)]
      rfl

theorem loopN (b : Bool) : ∀ (m u : Nat), u ≤ m → u ≤ 9223372036854775808 → ∀ l : List UInt8, l.length = 0 ∨ l.length + u ≤ 4611686018427387904 → Ev (fun k => spec_FormatInt.l0 k (-(u : Int)) b ⟨l.toArray⟩) ⟨((if b then [45] else []) ++ dd u l).toArray⟩ := by
  intro m
  induction m with
  | zero =>
    intro u hu h1 l hl
    obtain rfl : u = 0 := by omega
    exact endF b l (by omega)
  | succ m ih =>
    intro u hu h1 l hl
    by_cases c : u = 0
    · subst c
      exact endF b l (by omega)
    · have hr := ih (u / 10) (by omega) (by omega) (UInt8.ofNat (48 + u % 10) :: l) (by simp only [List.length_cons]; omega)
      rw [dd_step u (by omega)]
      refine Ev.next ⟨0, fun k _ => ?_⟩ hr
      have e1 : Int.tmod (-(u : Int)) 10 = -((u % 10 : Nat) : Int) := by rw [Int.neg_tmod, Int.tmod_eq_emod_of_nonneg (by omega)]; rfl
      have e2 : Int.tdiv (-(u : Int)) 10 = -((u / 10 : Nat) : Int) := by rw [Int.neg_tdiv, Int.tdiv_eq_ediv_of_nonneg (by omega)]; rfl
      have hlt : u % 10 < 10 := Nat.mod_lt _ (by omega)
      simp only [spec_FormatInt.l0]
      rw [if_neg (by omega), e1, e2]
      by_cases c2 : u % 10 = 0
      · rw [if_neg (by omega), w64 (x := 48 + -((u % 10 : Nat) : Int)) (by omega) (by omega), show (48 : Int) + -((u % 10 : Nat) : Int) = 48 + ((u % 10 : Nat) : Int) by omega]
        simp only [Option.bind_some]
        rw [str1 _ hlt, cat, if_pos (by rw [sz, sz]; simp only [List.length_cons, List.length_nil]; omega), w64 (by omega) (by omega)]
        rfl
      · rw [if_pos (by omega), Int.neg_neg, w64 (x := ((u % 10 : Nat) : Int)) (by omega) (by omega), w64 (x := 48 + ((u % 10 : Nat) : Int)) (by omega) (by omega)]
        simp only [Option.bind_some]
        rw [str1 _ hlt, cat, if_pos (by rw [sz, sz]; simp only [List.length_cons, List.length_nil]; omega), w64 (by omega) (by omega)]
        rfl

theorem ev_specFormatInt (a : Int) (h0 : -9223372036854775808 ≤ a) (h1 : a ≤ 9223372036854775807) : Ev (fun k => spec_FormatInt.f k a) ⟨(Go.Lib.itoa a).toArray⟩ := by
  by_cases c : a = 0
  · subst c
    refine Ev.one (fun k => ?_)
    unfold spec_FormatInt.f
    rw [if_pos rfl]
    have : Go.Lib.itoa 0 = [48] := by
      unfold Go.Lib.itoa
      rw [if_neg (by omega), Go.Lib.decDigits, dif_pos (by decide)]
      rfl
    rw [this]
  · by_cases cn : a < 0
    · obtain ⟨u, hu⟩ : ∃ u : Nat, a = -(u : Int) := ⟨a.natAbs, by omega⟩
      have hr := loopN true u u (Nat.le_refl _) (by omega) [] (Or.inl rfl)
      have e : Go.Lib.itoa a = (if true then [45] else []) ++ dd u [] := by
        unfold Go.Lib.itoa dd
        rw [if_pos cn, if_pos rfl, if_neg (by omega), show a.natAbs = u by omega]
        simp
      rw [e]
      refine Ev.congr (fun k => ?_) hr
      unfold spec_FormatInt.f
      rw [if_neg c, decide_eq_true cn, hu]
    · obtain ⟨u, hu⟩ : ∃ u : Nat, a = (u : Int) := ⟨a.toNat, by omega⟩
      have hr := loopP false u u (Nat.le_refl _) (by omega) [] (Or.inl rfl)
      have e : Go.Lib.itoa a = (if false then [45] else []) ++ dd u [] := by
        unfold Go.Lib.itoa dd
        rw [if_neg cn, if_neg (by decide), if_neg (by omega), show a.toNat = u by omega]
        simp
      rw [e]
      refine Ev.congr (fun k => ?_) hr
      unfold spec_FormatInt.f
      rw [if_neg c, decide_eq_false cn, hu]

theorem wf64 {a : Int} (h : (Lit.int .i64 a).wf = true) : -9223372036854775808 ≤ a ∧ a ≤ 9223372036854775807 := by
  have h1 : (decide (IntKind.i64.min ≤ a) && decide (a ≤ IntKind.i64.max)) = true := h
  have e1 : IntKind.i64.min = -9223372036854775808 := by decide
  have e2 : IntKind.i64.max = 9223372036854775807 := by decide
  rw [e1, e2] at h1
  simpa using h1

theorem FnExactFormatInt : laws_FnExactFormatInt.Pure := by
  intro a h
  have hb := wf64 h
  obtain ⟨k, h1⟩ := Evt.ex (ev_specFormatInt a hb.1 hb.2)
  dsimp only at h1
  refine ⟨k, ?_⟩
  unfold laws_FnExactFormatInt.f impl_FormatInt.f
  rw [h1]
  simp only [Option.bind_some]
  have e : strconv_Itoa.f a = some ⟨(Go.Lib.itoa a).toArray⟩ := by
    unfold strconv_Itoa.f
    rw [if_pos hb]
  rw [e]
  simp only [Option.bind_some, if_true]

end Go.Proofs.YtlemmelngjcieaaDoor.Pure.LFnExactFormatInt
namespace Go.Proofs.YtlemmelngjcieaaDoor.Pure
open Go.Proofs.YtlemmelngjcieaaDoor.PFnExactFormatInt
theorem FnExactFormatInt : laws_FnExactFormatInt.Pure := LFnExactFormatInt.FnExactFormatInt
end Go.Proofs.YtlemmelngjcieaaDoor.Pure
