/-
  The pure statement of laws.FnNumbers: what the printed functions compute makes the law answer true, for every argument of its kinds (no further condition).
-/
import Derived.Test.YtlemmelngjcieaaDoorPFnNumbersx3
import Derived.Test.YtlemmelngjcieaaDoorXPure
namespace Go.Proofs.YtlemmelngjcieaaDoor.Pure.LFnNumbers
open Go.RowKit Go.Proofs.YtlemmelngjcieaaDoor.PFnNumbers Go.Proofs.YtlemmelngjcieaaDoorW.PrintWords Go.Proofs.YtlemmelngjcieaaDoorW.PrintLast Go.Proofs.YtlemmelngjcieaaDoorX
set_option linter.unusedVariables false
set_option linter.unusedSimpArgs false

theorem and255 (x : Int) : 0 ≤ Go.bits .and .i64 x 255 ∧ Go.bits .and .i64 x 255 ≤ 255 := by
  have h : (BitVec.ofInt 64 (255 : Int)).toNat = 255 := by decide
  have hl : (BitVec.ofInt 64 x).toNat &&& 255 ≤ 255 := Nat.and_le_right
  have e : Go.bits .and .i64 x 255 = IntKind.i64.wrap (((BitVec.ofInt 64 x) &&& (BitVec.ofInt 64 (255 : Int)) : BitVec 64).toNat : Int) := rfl
  rw [BitVec.toNat_and, h] at e
  rw [e, IntKind.wrap_i64]
  omega

/-- where a reader stands -/
def St (i : Int) : Prop := 0 ≤ i ∧ i ≤ 1048576

theorem l1Byte_ok (b : List Int) (i h : Int) (hb : b.length ≤ 1048576) (hi : St i) : ∃ r i' h', spec_l1Byte.f b i h = some (r, i', h') ∧ 0 ≤ r ∧ r ≤ 255 ∧ St i' := by
  unfold spec_l1Byte.f
  have hi0 := hi.1
  by_cases c : i < (b.length : Int)
  · rw [if_pos c, if_pos hi0]
    refine ⟨_, _, _, rfl, (and255 _).1, (and255 _).2, ?_⟩
    rw [w64 (by omega) (by omega)]
    exact ⟨by omega, by omega⟩
  · rw [if_neg c]
    exact ⟨_, _, _, rfl, (and255 _).1, (and255 _).2, hi⟩

theorem l1Below_ok (b : List Int) (i h n : Int) (hb : b.length ≤ 1048576) (hi : St i) : ∃ r i' h', spec_l1Below.f b i h n = some (r, i', h') ∧ 0 ≤ r ∧ (0 < n → r < n) ∧ (n ≤ 0 → r = 0) ∧ St i' := by
  unfold spec_l1Below.f
  by_cases c : n ≤ 0
  · rw [if_pos c]
    exact ⟨_, _, _, rfl, by omega, fun h => by omega, fun _ => rfl, hi⟩
  · rw [if_neg c]
    obtain ⟨r1, i1, h1, e1, p1, q1, s1⟩ := l1Byte_ok b i h hb hi
    by_cases c2 : n ≤ 256
    · rw [if_pos c2, e1]
      simp only [Option.bind_some]
      rw [if_neg (by omega)]
      exact ⟨_, _, _, rfl, Int.tmod_nonneg _ p1, fun h => Int.tmod_lt_of_pos _ h, fun h => by omega, s1⟩
    · obtain ⟨r2, i2, h2, e2, p2, q2, s2⟩ := l1Byte_ok b i1 h1 hb s1
      obtain ⟨r3, i3, h3, e3, p3, q3, s3⟩ := l1Byte_ok b i2 h2 hb s2
      obtain ⟨r4, i4, h4, e4, p4, q4, s4⟩ := l1Byte_ok b i3 h3 hb s3
      rw [if_neg c2, e1]
      simp only [Option.bind_some, e2, e3, e4]
      rw [if_neg (by omega)]
      refine ⟨_, _, _, rfl, Int.tmod_nonneg _ ?_, fun h => Int.tmod_lt_of_pos _ h, fun h => by omega, s4⟩
      rw [w64 (x := r1 * 16777216) (by omega) (by omega), w64 (x := r2 * 65536) (by omega) (by omega), w64 (x := r3 * 256) (by omega) (by omega), w64 (x := r1 * 16777216 + r2 * 65536) (by omega) (by omega), w64 (x := r1 * 16777216 + r2 * 65536 + r3 * 256) (by omega) (by omega), w64 (by omega) (by omega)]
      omega

theorem ev_l1New (l : List Int) (h : l.length ≤ 1048576) : ∃ g, Ev (fun k => spec_l1New.f k l) (l, 0, g) := by
  obtain ⟨r, hr, he⟩ := loop_ev (σ := Int) l.length (fun k s i => spec_l1New.l0 k l s i) (fun _ _ => True) (fun r => ∃ g, r = (l, 0, g))
    (fun i s hi _ => by
      by_cases c : (i : Int) < 4000
      · exact Or.inl ⟨_, trivial, 0, fun k _ => by simp only [spec_l1New.l0]; rw [if_pos (by omega), if_pos c, if_pos (by omega), up64 (by omega)]⟩
      · exact Or.inr ⟨_, ⟨s, rfl⟩, 0, fun k _ => by simp only [spec_l1New.l0]; rw [if_pos (by omega), if_neg c]⟩)
    (fun s _ => ⟨_, ⟨s, rfl⟩, 0, fun k _ => by simp only [spec_l1New.l0]; rw [if_neg (by omega)]⟩)
    l.length 0 (wrap64 (26583 + (l.length : Int))) (by omega) (by omega) trivial
  obtain ⟨g, rfl⟩ := hr
  exact ⟨g, Ev.congr (fun k => rfl) he⟩

theorem st0 : St 0 := ⟨by omega, by omega⟩


theorem l1Pick_ok (b : List Int) (i h : Int) (l : List ByteArray) (hb : b.length ≤ 1048576) (hi : St i) (hl : 0 < l.length) : ∃ r i' h', spec_l1Pick.f b i h l = some (r, i', h') ∧ r ∈ l ∧ St i' := by
  unfold spec_l1Pick.f
  obtain ⟨r, i', h', e, p, q, _, s⟩ := l1Below_ok b i h (l.length : Int) hb hi
  have q' := q (by omega)
  rw [e]
  simp only [Option.bind_some]
  rw [if_pos p, if_pos q']
  refine ⟨_, _, _, rfl, ?_, s⟩
  obtain ⟨m, rfl⟩ := Int.eq_ofNat_of_zero_le p
  rw [rdOf_at _ _ _ (by omega)]
  exact List.getElem_mem _


theorem l1PickInt_ok (b : List Int) (i h : Int) (l : List Int) (hb : b.length ≤ 1048576) (hi : St i) (hl : 0 < l.length) : ∃ r i' h', spec_l1PickInt.f b i h l = some (r, i', h') ∧ r ∈ l ∧ St i' := by
  unfold spec_l1PickInt.f
  obtain ⟨r, i', h', e, p, q, _, s⟩ := l1Below_ok b i h (l.length : Int) hb hi
  have q' := q (by omega)
  rw [e]
  simp only [Option.bind_some]
  rw [if_pos p, if_pos q']
  refine ⟨_, _, _, rfl, ?_, s⟩
  obtain ⟨m, rfl⟩ := Int.eq_ofNat_of_zero_le p
  rw [rd_at _ _ (by omega)]
  exact List.getElem_mem _

theorem ext_list (s : ByteArray) (a b : Nat) : (s.extract a b).data.toList = (s.data.toList.drop a).take (b - a) := by
  simp [ByteArray.data_extract, List.extract_eq_drop_take']

theorem len_list (s : ByteArray) : s.data.toList.length = s.size := by
  rw [Array.length_toList]
  rfl

theorem tl (s : ByteArray) (a : Nat) : (s.extract a s.size).data.toList = s.data.toList.drop a := by
  rw [ext_list, List.take_of_length_le (by rw [List.length_drop, len_list]; omega)]

theorem bext {a b : ByteArray} (h : a.data.toList = b.data.toList) : a = b := by
  apply ByteArray.ext
  exact Array.toList_inj.mp h


def dd (u : Nat) (l : List UInt8) : List UInt8 := if u = 0 then l else Go.Lib.decDigits u ++ l

theorem dd_step (u : Nat) (h : 0 < u) (l : List UInt8) : dd u l = dd (u / 10) (UInt8.ofNat (48 + u % 10) :: l) := by
  unfold dd
  rw [if_neg (by omega), Go.Lib.decDigits]
  by_cases c : u < 10
  · rw [dif_pos c, if_pos (by omega), Nat.mod_eq_of_lt c]
    rfl
  · rw [dif_neg c, if_neg (by omega)]
    simp

theorem cat (a l : List UInt8) : (⟨a.toArray⟩ : ByteArray) ++ ⟨l.toArray⟩ = ⟨(a ++ l).toArray⟩ := by
  apply ByteArray.ext
  simp [ByteArray.data_append]

theorem sz (l : List UInt8) : (⟨l.toArray⟩ : ByteArray).size = l.length := by
  simp [ByteArray.size]

theorem str1 (n : Nat) (h : n < 10) : strOfNums [(48 + (n : Int)) % 256] = ⟨[UInt8.ofNat (48 + n)].toArray⟩ := by
  unfold strOfNums
  have : ((48 + (n : Int)) % 256).toNat = 48 + n := by omega
  simp [this]

theorem endF (b : Bool) (l : List UInt8) (h : l.length ≤ 4611686018427387904) : Ev (fun k => spec_FormatInt.l0 k 0 b ⟨l.toArray⟩) ⟨((if b then [45] else []) ++ dd 0 l).toArray⟩ := by
  refine Ev.last ⟨0, fun k _ => ?_⟩
  simp only [spec_FormatInt.l0, if_true]
  cases b with
  | false => rfl
  | true =>
    rw [if_pos rfl, if_pos (by rw [sz]; omega)]
    have := cat [45] l
    exact congrArg some this

theorem loopP (b : Bool) : ∀ (m u : Nat), u ≤ m → u ≤ 9223372036854775807 → ∀ l : List UInt8, l.length = 0 ∨ l.length + u ≤ 4611686018427387904 → Ev (fun k => spec_FormatInt.l0 k (u : Int) b ⟨l.toArray⟩) ⟨((if b then [45] else []) ++ dd u l).toArray⟩ := by
  intro m
  induction m with
  | zero =>
    intro u hu h1 l hl
    obtain rfl : u = 0 := by omega
    exact endF b l (by omega)
  | succ m ih =>
    intro u hu h1 l hl
    by_cases c : u = 0
    · subst c
      exact endF b l (by omega)
    · have hr := ih (u / 10) (by omega) (by omega) (UInt8.ofNat (48 + u % 10) :: l) (by simp only [List.length_cons]; omega)
      rw [dd_step u (by omega)]
      refine Ev.next ⟨0, fun k _ => ?_⟩ hr
      have e1 : Int.tmod (u : Int) 10 = ((u % 10 : Nat) : Int) := by rw [Int.tmod_eq_emod_of_nonneg (by omega)]; rfl
      have e2 : Int.tdiv (u : Int) 10 = ((u / 10 : Nat) : Int) := by rw [Int.tdiv_eq_ediv_of_nonneg (by omega)]; rfl
      have hlt : u % 10 < 10 := Nat.mod_lt _ (by omega)
      simp only [spec_FormatInt.l0]
      rw [if_neg (by omega), e1, e2, if_neg (by omega), w64 (x := 48 + ((u % 10 : Nat) : Int)) (by omega) (by omega)]
      simp only [Option.bind_some]
      rw [str1 _ hlt, cat, if_pos (by rw [sz, sz]; simp only [List.length_cons, List.length_nil]; omega), w64 (by omega) (by omega)]
      rfl

theorem loopN (b : Bool) : ∀ (m u : Nat), u ≤ m → u ≤ 9223372036854775808 → ∀ l : List UInt8, l.length = 0 ∨ l.length + u ≤ 4611686018427387904 → Ev (fun k => spec_FormatInt.l0 k (-(u : Int)) b ⟨l.toArray⟩) ⟨((if b then [45] else []) ++ dd u l).toArray⟩ := by
  intro m
  induction m with
  | zero =>
    intro u hu h1 l hl
    obtain rfl : u = 0 := by omega
    exact endF b l (by omega)
  | succ m ih =>
    intro u hu h1 l hl
    by_cases c : u = 0
    · subst c
      exact endF b l (by omega)
    · have hr := ih (u / 10) (by omega) (by omega) (UInt8.ofNat (48 + u % 10) :: l) (by simp only [List.length_cons]; omega)
      rw [dd_step u (by omega)]
      refine Ev.next ⟨0, fun k _ => ?_⟩ hr
      have e1 : Int.tmod (-(u : Int)) 10 = -((u % 10 : Nat) : Int) := by rw [Int.neg_tmod, Int.tmod_eq_emod_of_nonneg (by omega)]; rfl
      have e2 : Int.tdiv (-(u : Int)) 10 = -((u / 10 : Nat) : Int) := by rw [Int.neg_tdiv, Int.tdiv_eq_ediv_of_nonneg (by omega)]; rfl
      have hlt : u % 10 < 10 := Nat.mod_lt _ (by omega)
      simp only [spec_FormatInt.l0]
      rw [if_neg (by omega), e1, e2]
      by_cases c2 : u % 10 = 0
      · rw [if_neg (by omega), w64 (x := 48 + -((u % 10 : Nat) : Int)) (by omega) (by omega), show (48 : Int) + -((u % 10 : Nat) : Int) = 48 + ((u % 10 : Nat) : Int) by omega]
        simp only [Option.bind_some]
        rw [str1 _ hlt, cat, if_pos (by rw [sz, sz]; simp only [List.length_cons, List.length_nil]; omega), w64 (by omega) (by omega)]
        rfl
      · rw [if_pos (by omega), Int.neg_neg, w64 (x := ((u % 10 : Nat) : Int)) (by omega) (by omega), w64 (x := 48 + ((u % 10 : Nat) : Int)) (by omega) (by omega)]
        simp only [Option.bind_some]
        rw [str1 _ hlt, cat, if_pos (by rw [sz, sz]; simp only [List.length_cons, List.length_nil]; omega), w64 (by omega) (by omega)]
        rfl

theorem ev_specFormatInt (a : Int) (h0 : -9223372036854775808 ≤ a) (h1 : a ≤ 9223372036854775807) : Ev (fun k => spec_FormatInt.f k a) ⟨(Go.Lib.itoa a).toArray⟩ := by
  by_cases c : a = 0
  · subst c
    refine Ev.one (fun k => ?_)
    unfold spec_FormatInt.f
    rw [if_pos rfl]
    have : Go.Lib.itoa 0 = [48] := by
      unfold Go.Lib.itoa
      rw [if_neg (by omega), Go.Lib.decDigits, dif_pos (by decide)]
      rfl
    rw [this]
  · by_cases cn : a < 0
    · obtain ⟨u, hu⟩ : ∃ u : Nat, a = -(u : Int) := ⟨a.natAbs, by omega⟩
      have hr := loopN true u u (Nat.le_refl _) (by omega) [] (Or.inl rfl)
      have e : Go.Lib.itoa a = (if true then [45] else []) ++ dd u [] := by
        unfold Go.Lib.itoa dd
        rw [if_pos cn, if_pos rfl, if_neg (by omega), show a.natAbs = u by omega]
        simp
      rw [e]
      refine Ev.congr (fun k => ?_) hr
      unfold spec_FormatInt.f
      rw [if_neg c, decide_eq_true cn, hu]
    · obtain ⟨u, hu⟩ : ∃ u : Nat, a = (u : Int) := ⟨a.toNat, by omega⟩
      have hr := loopP false u u (Nat.le_refl _) (by omega) [] (Or.inl rfl)
      have e : Go.Lib.itoa a = (if false then [45] else []) ++ dd u [] := by
        unfold Go.Lib.itoa dd
        rw [if_neg cn, if_neg (by decide), if_neg (by omega), show a.toNat = u by omega]
        simp
      rw [e]
      refine Ev.congr (fun k => ?_) hr
      unfold spec_FormatInt.f
      rw [if_neg c, decide_eq_false cn, hu]

theorem wf64 {a : Int} (h : (Lit.int .i64 a).wf = true) : -9223372036854775808 ≤ a ∧ a ≤ 9223372036854775807 := by
  have h1 : (decide (IntKind.i64.min ≤ a) && decide (a ≤ IntKind.i64.max)) = true := h
  have e1 : IntKind.i64.min = -9223372036854775808 := by decide
  have e2 : IntKind.i64.max = 9223372036854775807 := by decide
  rw [e1, e2] at h1
  simpa using h1
/-- what a row of digits spells behind what was read before -/
def dv : Nat → List UInt8 → Nat
  | acc, [] => acc
  | acc, c :: r => dv (acc * 10 + (c.toNat - 48)) r

theorem dv_ge : ∀ (l : List UInt8) (acc : Nat), acc ≤ dv acc l
  | [], acc => Nat.le_refl _
  | c :: r, acc => Nat.le_trans (by omega) (dv_ge r (acc * 10 + (c.toNat - 48)))

theorem dv_app : ∀ (l : List UInt8) (c : UInt8) (acc : Nat), dv acc (l ++ [c]) = dv acc l * 10 + (c.toNat - 48)
  | [], c, acc => rfl
  | b :: r, c, acc => dv_app r c _

theorem dig_of (n : Nat) (h : n < 10) : (UInt8.ofNat (48 + n)).toNat = 48 + n := by
  rw [UInt8.toNat_ofNat']
  omega

theorem dv_dec (u : Nat) : dv 0 (Go.Lib.decDigits u) = u := by
  induction u using Nat.strongRecOn with
  | ind u ih =>
    rw [Go.Lib.decDigits]
    by_cases c : u < 10
    · rw [dif_pos c]
      show 0 * 10 + ((UInt8.ofNat (48 + u)).toNat - 48) = u
      rw [dig_of u c]
      omega
    · rw [dif_neg c, dv_app, ih (u / 10) (by omega), dig_of (u % 10) (by omega)]
      omega

theorem dig_dec (u : Nat) : ∀ c ∈ Go.Lib.decDigits u, 48 ≤ c.toNat ∧ c.toNat ≤ 57 := by
  induction u using Nat.strongRecOn with
  | ind u ih =>
    rw [Go.Lib.decDigits]
    by_cases c : u < 10
    · rw [dif_pos c]
      intro x hx
      obtain rfl := List.mem_singleton.mp hx
      rw [dig_of u c]
      omega
    · rw [dif_neg c]
      intro x hx
      rcases List.mem_append.mp hx with h | h
      · exact ih (u / 10) (by omega) x h
      · obtain rfl := List.mem_singleton.mp h
        rw [dig_of (u % 10) (by omega)]
        omega

theorem len_dec (m : Nat) : ∀ u : Nat, (Go.Lib.decDigits u).length ≤ m + 1 ↔ u < 10 ^ (m + 1) := by
  induction m with
  | zero =>
    intro u
    rw [Go.Lib.decDigits]
    by_cases c : u < 10
    · rw [dif_pos c]
      simp [c]
    · rw [dif_neg c]
      have h1 : 1 ≤ (Go.Lib.decDigits (u / 10)).length := by
        rw [Go.Lib.decDigits]
        split <;> simp
      simp only [List.length_append, List.length_cons, List.length_nil]
      omega
  | succ m ih =>
    intro u
    rw [Go.Lib.decDigits]
    have hp : (10 : Nat) ^ (m + 1 + 1) = 10 ^ (m + 1) * 10 := Nat.pow_succ ..
    have hq : 0 < (10 : Nat) ^ (m + 1) := Nat.pow_pos (by decide)
    by_cases c : u < 10
    · rw [dif_pos c]
      simp only [List.length_cons, List.length_nil]
      omega
    · rw [dif_neg c]
      have h := ih (u / 10)
      simp only [List.length_append, List.length_cons, List.length_nil]
      omega

theorem pu_ok : ∀ (l : List UInt8) (acc : Nat), (∀ c ∈ l, 48 ≤ c.toNat ∧ c.toNat ≤ 57) → dv acc l < 18446744073709551616 → Go.Lib.parseUint10 acc l = .ok (dv acc l)
  | [], acc, _, _ => rfl
  | c :: r, acc, hd, hb => by
    have h0 := hd c (List.mem_cons_self ..)
    have hb' : dv (acc * 10 + (c.toNat - 48)) r < 18446744073709551616 := hb
    have h1 := dv_ge r (acc * 10 + (c.toNat - 48))
    unfold Go.Lib.parseUint10
    rw [if_pos h0, if_neg (by omega), if_neg (by omega)]
    exact pu_ok r _ (fun x hx => hd x (List.mem_cons_of_mem _ hx)) hb'

theorem dec_ne (u : Nat) : Go.Lib.decDigits u ≠ [] := by
  rw [Go.Lib.decDigits]
  split <;> simp

theorem mag_dec (u : Nat) (h : u < 18446744073709551616) : Go.Lib.parseMag (Go.Lib.decDigits u) = .ok u := by
  have hv := dv_dec u
  have := pu_ok (Go.Lib.decDigits u) 0 (dig_dec u) (by omega)
  unfold Go.Lib.parseMag
  rw [if_neg (dec_ne u), this, hv]

theorem atoi_itoa (v : Int) (h0 : -9223372036854775808 ≤ v) (h1 : v ≤ 9223372036854775807) : Go.Lib.atoiAll (Go.Lib.itoa v) = .ok v := by
  unfold Go.Lib.itoa
  by_cases c : v < 0
  · rw [if_pos c]
    show Go.Lib.atoiAll (45 :: _) = _
    rw [Go.Lib.atoiAll_minus, mag_dec _ (by omega)]
    simp only [Go.Lib.signed]
    rw [if_neg (by omega)]
    congr 1
    omega
  · rw [if_neg c]
    have hd := dig_dec v.toNat
    have hm := mag_dec v.toNat (by omega)
    cases e : Go.Lib.decDigits v.toNat with
    | nil => exact absurd e (dec_ne _)
    | cons b r =>
      rw [e] at hd hm
      have hb := hd b (List.mem_cons_self ..)
      rw [Go.Lib.atoiAll_plain b r (by omega) (by omega), hm]
      simp only [Go.Lib.signless]
      rw [if_neg (by omega)]
      congr 1
      omega

/-- how spec's reading ends -/
def fin (s : ByteArray) (b : Bool) (u : Nat) : Int × Bool := if (⟨(Go.Lib.itoa (if b then -(u : Int) else u)).toArray⟩ : ByteArray).toList = s.toList then ((if b then -(u : Int) else u), true) else (0, false)
def gl (s : ByteArray) (b : Bool) : Nat → List UInt8 → Int × Bool
  | acc, [] => fin s b acc
  | acc, c :: r => if c.toNat < 48 ∨ 57 < c.toNat then (0, false) else gl s b (acc * 10 + (c.toNat - 48)) r

theorem gl_dig (s : ByteArray) (b : Bool) : ∀ (l : List UInt8) (acc : Nat), (∀ c ∈ l, 48 ≤ c.toNat ∧ c.toNat ≤ 57) → gl s b acc l = fin s b (dv acc l)
  | [], acc, _ => rfl
  | c :: r, acc, hd => by
    have h0 := hd c (List.mem_cons_self ..)
    unfold gl
    rw [if_neg (by omega)]
    exact gl_dig s b r _ (fun x hx => hd x (List.mem_cons_of_mem _ hx))

theorem gl_cases (s : ByteArray) (b : Bool) : ∀ (l : List UInt8) (acc : Nat), gl s b acc l = (0, false) ∨ ∃ u, u < (acc + 1) * 10 ^ l.length ∧ gl s b acc l = fin s b u
  | [], acc => Or.inr ⟨acc, by simp, rfl⟩
  | c :: r, acc => by
    unfold gl
    by_cases h : c.toNat < 48 ∨ 57 < c.toNat
    · rw [if_pos h]; exact Or.inl rfl
    · rw [if_neg h]
      rcases gl_cases s b r (acc * 10 + (c.toNat - 48)) with e | ⟨u, hu, e⟩
      · exact Or.inl e
      · refine Or.inr ⟨u, Nat.lt_of_lt_of_le hu ?_, e⟩
        have : (acc * 10 + (c.toNat - 48) + 1) * 10 ^ r.length ≤ ((acc + 1) * 10) * 10 ^ r.length := Nat.mul_le_mul_right _ (by omega)
        rw [List.length_cons, Nat.pow_succ, Nat.mul_comm (10 ^ r.length) 10, ← Nat.mul_assoc]
        exact this

theorem bt_list (s : ByteArray) (i : Nat) (h : i < s.size) : bt s (i : Int) = ((s.data.toList[i]'(by rw [len_list]; exact h)).toNat : Int) := by
  unfold bt
  rw [dif_pos (by rw [Int.toNat_natCast]; exact h)]
  simp only [Int.toNat_natCast, Array.getElem_toList]
  rfl

theorem pow12 (i : Nat) (h : i ≤ 12) : 10 ^ i ≤ 1000000000000 := Nat.pow_le_pow_right (n := 10) (by decide) h

theorem ev_fin (s : ByteArray) (b : Bool) (t : ByteArray) (acc : Nat) (ha : acc < 10000000000000) : Ev (fun k => spec_l1Read.l0 k s b t (acc : Int) (t.size : Int)) (fin s b acc) := by
  cases b with
  | true =>
    obtain ⟨K, hK⟩ := ev_specFormatInt (-(acc : Int)) (by omega) (by omega)
    refine Ev.last ⟨K, fun k hk => ?_⟩
    have g := hK k hk
    dsimp only at g
    simp only [spec_l1Read.l0]
    rw [if_neg (by omega), if_pos trivial, w64 (x := -(acc : Int)) (by omega) (by omega), g]
    unfold fin
    simp only [Option.bind_some, if_true]
    split <;> rfl
  | false =>
    obtain ⟨K, hK⟩ := ev_specFormatInt (acc : Int) (by omega) (by omega)
    refine Ev.last ⟨K, fun k hk => ?_⟩
    have g := hK k hk
    dsimp only at g
    simp only [spec_l1Read.l0]
    rw [if_neg (by omega), if_neg (by decide), g]
    unfold fin
    simp only [Option.bind_some]
    rw [if_neg (show ¬ (false = true) by decide)]
    split <;> rfl

theorem ev_l0 (s : ByteArray) (b : Bool) (t : ByteArray) (ht : t.size ≤ 12) : ∀ (d i acc : Nat), i ≤ t.size → t.size - i = d → acc < 10 ^ i → Ev (fun k => spec_l1Read.l0 k s b t (acc : Int) (i : Int)) (gl s b acc (t.data.toList.drop i)) := by
  intro d
  induction d with
  | zero =>
    intro i acc hi hd ha
    obtain rfl : i = t.size := by omega
    rw [List.drop_eq_nil_of_le (by rw [len_list]; omega)]
    exact ev_fin s b t acc (Nat.lt_of_lt_of_le ha (Nat.le_trans (pow12 _ ht) (by decide)))
  | succ d ih =>
    intro i acc hi hd ha
    have hlt : i < t.size := by omega
    have hl : i < t.data.toList.length := by rw [len_list]; exact hlt
    have hp := pow12 (i + 1) (by omega)
    rw [Nat.pow_succ] at hp
    rw [List.drop_eq_getElem_cons hl]
    have eb := bt_list t i hlt
    by_cases c : (t.data.toList[i]).toNat < 48 ∨ 57 < (t.data.toList[i]).toNat
    · refine Ev.last ⟨0, fun k _ => ?_⟩
      simp only [spec_l1Read.l0, gl]
      rw [if_pos (by omega), if_pos (by omega), eb, if_pos c]
      rcases c with c | c
      · rw [if_pos (by omega)]
      · rw [if_neg (by omega), if_pos (by omega)]
    · have h := ih (i + 1) (acc * 10 + ((t.data.toList[i]).toNat - 48)) (by omega) (by omega) (by rw [Nat.pow_succ]; omega)
      have e : gl s b acc (t.data.toList[i] :: t.data.toList.drop (i + 1)) = gl s b (acc * 10 + ((t.data.toList[i]).toNat - 48)) (t.data.toList.drop (i + 1)) := by
        rw [gl, if_neg c]
      rw [e]
      refine Ev.next ⟨0, fun k _ => ?_⟩ h
      simp only [spec_l1Read.l0]
      rw [if_pos (by omega), if_pos (by omega), eb, if_neg (by omega), if_neg (by omega), up64 (by omega), w64 (x := 10 * (acc : Int)) (by omega) (by omega)]
      congr 1
      unfold wrap64
      omega

/-- the sign, and what stands behind it -/
def bel (s : ByteArray) : Bool := if 0 < s.size then bt s 0 == 45 else false
def mag (s : ByteArray) : ByteArray := if bel s = true then s.extract 1 s.size else s
def G (s : ByteArray) (m : Nat) : Int × Bool := if (mag s).size < 1 ∨ m < (mag s).size then (0, false) else gl s (bel s) 0 (mag s).data.toList

theorem ev_l1Read (s : ByteArray) (m : Nat) (hm : m ≤ 12) : Ev (fun k => spec_l1Read.f k s (m : Int)) (G s m) := by
  have h2 : ∀ (b : Bool) (t : ByteArray), Ev (fun k => spec_l1Read.j1 k s (m : Int) b t) (if t.size < 1 ∨ m < t.size then (0, false) else gl s b 0 t.data.toList) := by
    intro b t
    by_cases c1 : t.size < 1
    · rw [if_pos (Or.inl c1)]
      refine Ev.next (f := fun k => spec_l1Read.j2 k s b t true) ⟨0, fun k _ => ?_⟩ (Ev.last ⟨0, fun k _ => ?_⟩)
      · simp only [spec_l1Read.j1]
        rw [if_pos (by omega)]
      · simp only [spec_l1Read.j2]
        rw [if_pos trivial]
    · by_cases c2 : m < t.size
      · rw [if_pos (Or.inr c2)]
        refine Ev.next (f := fun k => spec_l1Read.j2 k s b t true) ⟨0, fun k _ => ?_⟩ (Ev.last ⟨0, fun k _ => ?_⟩)
        · simp only [spec_l1Read.j1]
          rw [if_neg (by omega), decide_eq_true (by omega)]
        · simp only [spec_l1Read.j2]
          rw [if_pos trivial]
      · rw [if_neg (by omega)]
        have h := ev_l0 s b t (by omega) t.size 0 0 (by omega) (by omega) (by decide)
        rw [List.drop_zero] at h
        refine Ev.next (f := fun k => spec_l1Read.j2 k s b t false) ⟨0, fun k _ => ?_⟩ (Ev.next ⟨0, fun k _ => ?_⟩ h)
        · simp only [spec_l1Read.j1]
          rw [if_neg (by omega), decide_eq_false (by omega)]
        · simp only [spec_l1Read.j2]
          rw [if_neg (by decide)]
          rfl
  have h1 : Ev (fun k => spec_l1Read.j0 k s (m : Int) (bel s)) (G s m) := by
    refine Ev.next ⟨0, fun k _ => ?_⟩ (h2 (bel s) (mag s))
    simp only [spec_l1Read.j0]
    unfold mag
    by_cases c : bel s = true
    · have hs : 0 < s.size := by
        unfold bel at c
        split at c
        · assumption
        · cases c
      rw [if_pos c, if_pos (by omega), if_pos c]
    · rw [if_neg c, if_neg c]
  refine Ev.congr (fun k => ?_) h1
  unfold spec_l1Read.f bel
  by_cases c : 0 < s.size
  · rw [if_pos (by omega), if_pos (by omega), if_pos c]
  · rw [if_neg (by omega), if_neg c]

/-- what both come to -/
def R (s : ByteArray) (lo hi : Int) : Int × Bool := match Go.Lib.atoiAll s.data.toList with
    | .ok v => if (⟨(Go.Lib.itoa v).toArray⟩ : ByteArray).toList = s.toList ∧ lo ≤ v ∧ v ≤ hi then (v, true) else (0, false)
    | _ => (0, false)

theorem same_list (l : List UInt8) (s : ByteArray) : (⟨l.toArray⟩ : ByteArray).toList = s.toList ↔ l = s.data.toList := by
  have e : s.toList = s.data.toList := Go.ByteArray.toList_mk s.data.toList
  rw [Go.ByteArray.toList_mk, e]

theorem R_at (s : ByteArray) (lo hi v : Int) (e : Go.Lib.itoa v = s.data.toList) (h0 : -9223372036854775808 ≤ v) (h1 : v ≤ 9223372036854775807) : R s lo hi = if lo ≤ v ∧ v ≤ hi then (v, true) else (0, false) := by
  have h := atoi_itoa v h0 h1
  rw [e] at h
  unfold R
  rw [h]
  dsimp only
  by_cases c : lo ≤ v ∧ v ≤ hi
  · rw [if_pos ⟨(same_list _ _).mpr e, c⟩, if_pos c]
  · rw [if_neg (fun hh => c hh.2), if_neg c]

theorem R_no (s : ByteArray) (lo hi : Int) (h : ∀ v : Int, lo ≤ v → v ≤ hi → Go.Lib.itoa v ≠ s.data.toList) : R s lo hi = (0, false) := by
  unfold R
  split
  · rename_i v hv
    rw [if_neg (fun hh => h v hh.2.1 hh.2.2 ((same_list _ _).mp hh.1))]
  · rfl

theorem R_or (s : ByteArray) (lo hi : Int) : R s lo hi = (0, false) ∨ ∃ v, R s lo hi = (v, true) ∧ Go.Lib.itoa v = s.data.toList ∧ lo ≤ v ∧ v ≤ hi := by
  unfold R
  split
  · rename_i v hv
    split
    · rename_i c
      exact Or.inr ⟨v, rfl, (same_list _ _).mp c.1, c.2⟩
    · exact Or.inl rfl
  · exact Or.inl rfl

theorem G_R (s : ByteArray) (m : Nat) (h1 : 1 ≤ m) (h2 : m ≤ 12) : G s m = R s (-(((10 ^ m - 1 : Nat)) : Int)) ((10 ^ m - 1 : Nat) : Int) := by
  have hp := pow12 m h2
  have hp0 : 0 < 10 ^ m := Nat.pow_pos (by decide)
  by_cases c : ∃ v : Int, -(((10 ^ m - 1 : Nat)) : Int) ≤ v ∧ v ≤ ((10 ^ m - 1 : Nat) : Int) ∧ Go.Lib.itoa v = s.data.toList
  · obtain ⟨v, hv0, hv1, e⟩ := c
    rw [R_at s _ _ v e (by omega) (by omega), if_pos ⟨hv0, hv1⟩]
    have hb : bel s = decide (v < 0) ∧ (mag s).data.toList = Go.Lib.decDigits v.natAbs := by
      have hn := len_list s
      unfold Go.Lib.itoa at e
      by_cases cn : v < 0
      · rw [if_pos cn] at e
        rw [← e] at hn
        have hs : 0 < s.size := by simp at hn; omega
        have hbel : bel s = true := by
          unfold bel
          rw [if_pos hs]
          have := bt_list s 0 hs
          have e0 : s.data.toList[0]'(by rw [len_list]; exact hs) = 45 := by simp [← e]
          rw [e0] at this
          rw [show (0 : Int) = ((0 : Nat) : Int) from rfl, this]
          rfl
        refine ⟨by rw [hbel, decide_eq_true cn], ?_⟩
        unfold mag
        rw [if_pos hbel, tl, ← e]
        rfl
      · rw [if_neg cn] at e
        have hd := dig_dec v.toNat
        have hne := dec_ne v.toNat
        rw [e] at hd hne
        have hs : 0 < s.size := by
          rw [← hn]
          exact List.length_pos_iff.mpr hne
        have hbel : bel s = false := by
          unfold bel
          rw [if_pos hs]
          have := bt_list s 0 hs
          have h0 := hd (s.data.toList[0]'(by rw [len_list]; exact hs)) (List.getElem_mem _)
          rw [show (0 : Int) = ((0 : Nat) : Int) from rfl, this]
          simp only [beq_eq_false_iff_ne, ne_eq]
          omega
        refine ⟨by rw [hbel, decide_eq_false cn], ?_⟩
        unfold mag
        rw [if_neg (by rw [hbel]; decide), ← e]
        congr 1
        omega
    obtain ⟨hb, hl⟩ := hb
    have hsz : (mag s).size = (Go.Lib.decDigits v.natAbs).length := by rw [← len_list, hl]
    have h1' : 1 ≤ (Go.Lib.decDigits v.natAbs).length := List.length_pos_iff.mpr (dec_ne _)
    obtain ⟨m', rfl⟩ : ∃ m', m = m' + 1 := ⟨m - 1, by omega⟩
    have hlen := (len_dec m' v.natAbs).mpr (by omega)
    unfold G
    rw [if_neg (by omega), hl, gl_dig _ _ _ _ (dig_dec _), dv_dec, hb]
    unfold fin
    have ev : (if decide (v < 0) = true then -((v.natAbs : Nat) : Int) else ((v.natAbs : Nat) : Int)) = v := by
      by_cases cn : v < 0
      · rw [if_pos (decide_eq_true cn)]; omega
      · rw [if_neg (by simpa using cn)]; omega
    rw [ev, if_pos ((same_list _ _).mpr e)]
  · rw [R_no s _ _ (fun v h0 h1 e => c ⟨v, h0, h1, e⟩)]
    unfold G
    split
    · rfl
    · rename_i hs
      rcases gl_cases s (bel s) (mag s).data.toList 0 with e | ⟨u, hu, e⟩
      · exact e
      · rw [e]
        unfold fin
        rw [len_list] at hu
        have h3 : 10 ^ (mag s).size ≤ 10 ^ m := Nat.pow_le_pow_right (by decide) (by omega)
        refine if_neg (fun hh => c ⟨(if bel s = true then -(u : Int) else u), ?_, ?_, (same_list _ _).mp hh⟩)
        · split <;> omega
        · split <;> omega

theorem readR (s : ByteArray) (lo hi : Int) (h : s.size ≤ 1048576) : impl_readInt.f s lo hi = some (R s lo hi) := by
  unfold impl_readInt.f
  rw [if_pos (by omega)]
  rfl

theorem ev_specNumber (s : ByteArray) : Ev (fun k => spec_ParseNumber.f k s) (R s 0 999999) := by
  have h := ev_l1Read s 6 (by decide)
  rw [G_R s 6 (by decide) (by decide)] at h
  obtain ⟨K, hK⟩ := h
  refine ⟨K, fun k hk => ?_⟩
  have g : spec_l1Read.f k s 6 = some (R s (-999999) 999999) := hK k hk
  show spec_ParseNumber.f k s = some (R s 0 999999)
  unfold spec_ParseNumber.f
  rw [g]
  simp only [Option.bind_some]
  by_cases c : ∃ v : Int, -999999 ≤ v ∧ v ≤ 999999 ∧ Go.Lib.itoa v = s.data.toList
  · obtain ⟨v, h0, h1, e⟩ := c
    have e6 := R_at s (-999999) 999999 v e (by omega) (by omega)
    rw [if_pos ⟨h0, h1⟩] at e6
    rw [e6, R_at s 0 999999 v e (by omega) (by omega)]
    by_cases cn : v < 0
    · rw [if_pos rfl, if_pos cn, if_neg (by omega)]
    · rw [if_pos rfl, if_neg cn, if_pos (by omega)]
  · rw [R_no s (-999999) _ (fun v h0 h1 e => c ⟨v, h0, h1, e⟩), R_no s 0 _ (fun v h0 h1 e => c ⟨v, by omega, h1, e⟩)]
    rw [if_neg (by decide)]

theorem l1Whole_ok (b : List Int) (i h : Int) (hb : b.length ≤ 1048576) (hi : St i) : ∃ v i' h', spec_l1Whole.f b i h = some (v, i', h') ∧ -9223372036854775808 ≤ v ∧ v ≤ 9223372036854775807 ∧ St i' := by
  obtain ⟨r, i1, h1, e1, p1, q1, _, s1⟩ := l1Below_ok b i h 3 hb hi
  unfold spec_l1Whole.f
  rw [e1]
  simp only [Option.bind_some]
  by_cases c0 : r = 0
  · obtain ⟨v, i2, h2, e2, hv, s2⟩ := l1PickInt_ok b i1 h1 [0, 1, (-1), 9, 10, 999999, 1000000, 999999999999, 1000000000000, (-999999999999), 9223372036854775807, (-9223372036854775808)] hb s1 (by decide)
    rw [if_pos c0, e2]
    have hall : ∀ x ∈ ([0, 1, (-1), 9, 10, 999999, 1000000, 999999999999, 1000000000000, (-999999999999), 9223372036854775807, (-9223372036854775808)] : List Int), -9223372036854775808 ≤ x ∧ x ≤ 9223372036854775807 := by decide
    exact ⟨v, i2, h2, rfl, (hall v hv).1, (hall v hv).2, s2⟩
  · rw [if_neg c0]
    by_cases c1 : r = 1
    · obtain ⟨v, i2, h2, e2, p2, q2, _, s2⟩ := l1Below_ok b i1 h1 1000000 hb s1
      rw [if_pos c1, e2]
      have q2' := q2 (by decide)
      refine ⟨wrap64 (v - 500000), i2, h2, rfl, ?_, ?_, s2⟩
      · rw [w64 (by omega) (by omega)]; omega
      · rw [w64 (by omega) (by omega)]; omega
    · obtain ⟨v, i2, h2, e2, p2, q2, _, s2⟩ := l1Below_ok b i1 h1 20 hb s1
      rw [if_neg c1, e2]
      have q2' := q2 (by decide)
      exact ⟨v, i2, h2, rfl, by omega, by omega, s2⟩

theorem ev_drawInt (l : List Int) (h : l.length ≤ 1048576) : ∃ v : Int, Ev (fun k => spec_DrawFormatInt.f k l) v ∧ -9223372036854775808 ≤ v ∧ v ≤ 9223372036854775807 := by
  obtain ⟨g, K, hK⟩ := ev_l1New l h
  obtain ⟨v, i1, h1, e1, hv0, hv1, _⟩ := l1Whole_ok l 0 g h st0
  refine ⟨v, ⟨K, fun k hk => ?_⟩, hv0, hv1⟩
  have g1 := hK k hk
  dsimp only at g1
  show spec_DrawFormatInt.f k l = some v
  unfold spec_DrawFormatInt.f
  rw [g1]
  simp only [Option.bind_some]
  rw [e1]
  rfl

theorem itoa_size (v : Int) (h0 : -9223372036854775808 ≤ v) (h1 : v ≤ 9223372036854775807) : (⟨(Go.Lib.itoa v).toArray⟩ : ByteArray).size ≤ 1000 := by
  rw [sz]
  have hp : (10 : Nat) ^ (18 + 1) = 10000000000000000000 := by decide
  unfold Go.Lib.itoa
  split
  · have := (len_dec 18 v.natAbs).mpr (by omega)
    simp only [List.length_append, List.length_cons, List.length_nil]
    omega
  · have := (len_dec 18 v.toNat).mpr (by omega)
    omega

def texts : List ByteArray := [(⟨#[]⟩ : ByteArray), (⟨#[48, 48]⟩ : ByteArray), (⟨#[48, 49]⟩ : ByteArray), (⟨#[45, 49]⟩ : ByteArray), (⟨#[43, 49]⟩ : ByteArray), (⟨#[120]⟩ : ByteArray), (⟨#[57, 57, 57, 57, 57, 57]⟩ : ByteArray), (⟨#[49, 48, 48, 48, 48, 48, 48]⟩ : ByteArray), (⟨#[45, 48]⟩ : ByteArray), (⟨#[45]⟩ : ByteArray), (⟨#[32, 49]⟩ : ByteArray), (⟨#[49, 32]⟩ : ByteArray)]
theorem texts_small : ∀ s ∈ texts, s.size ≤ 1000 := by decide +kernel

theorem ev_drawNum (l : List Int) (h : l.length ≤ 1048576) : ∃ s : ByteArray, Ev (fun k => spec_DrawParseNumber.f k l) s ∧ s.size ≤ 1000 := by
  obtain ⟨g, K, hK⟩ := ev_l1New l h
  obtain ⟨r, i1, h1, e1, p1, q1, _, s1⟩ := l1Below_ok l 0 g 2 h st0
  by_cases c : r = 0
  · obtain ⟨v, i2, h2, e2, hv0, hv1, _⟩ := l1Whole_ok l i1 h1 h s1
    obtain ⟨K2, hK2⟩ := ev_specFormatInt v hv0 hv1
    refine ⟨_, ⟨K + K2, fun k hk => ?_⟩, itoa_size v hv0 hv1⟩
    have g1 := hK k (by omega)
    have g2 := hK2 k (by omega)
    dsimp only at g1 g2
    show spec_DrawParseNumber.f k l = _
    unfold spec_DrawParseNumber.f spec_l1Once.f
    rw [g1]
    simp only [Option.bind_some]
    rw [e1]
    simp only [Option.bind_some]
    rw [if_pos (by simp [c]), e2]
    simp only [Option.bind_some]
    rw [g2]
    rfl
  · obtain ⟨s, i2, h2, e2, hs, _⟩ := l1Pick_ok l i1 h1 texts h s1 (by decide)
    refine ⟨s, ⟨K, fun k hk => ?_⟩, texts_small s hs⟩
    have g1 := hK k hk
    dsimp only at g1
    unfold texts at e2
    show spec_DrawParseNumber.f k l = _
    unfold spec_DrawParseNumber.f spec_l1Once.f
    rw [g1]
    simp only [Option.bind_some]
    rw [e1]
    simp only [Option.bind_some]
    rw [if_neg (by simp [c]), e2]
    rfl

theorem FnNumbers : laws_FnNumbers.Pure := by
  intro l hl
  by_cases c0 : l.length > 1048576
  · refine ⟨0, ?_⟩
    unfold laws_FnNumbers.f laws_big.f
    rw [decide_eq_true (show (l.length : Int) > 1048576 by omega)]
    simp only [Option.bind_some, if_true]
  have h : l.length ≤ 1048576 := by omega
  obtain ⟨v, hv, hv0, hv1⟩ := ev_drawInt l h
  obtain ⟨t, ht, hts⟩ := ev_drawNum l h
  obtain ⟨K, hK⟩ := Evt.and (Evt.and hv (ev_specFormatInt v hv0 hv1)) (Evt.and ht (ev_specNumber t))
  obtain ⟨⟨g1, g2⟩, _⟩ := hK (K + 1) (by omega)
  obtain ⟨_, g3, g4⟩ := hK K (Nat.le_refl _)
  dsimp only at g1 g2 g3 g4
  have hj : laws_FnNumbers.j0 (K + 1) l false = some true := by
    simp only [laws_FnNumbers.j0]
    rw [if_neg (by decide), g3]
    simp only [Option.bind_some]
    unfold impl_ParseNumber.f
    rw [readR t _ _ (by omega)]
    simp only [Option.bind_some]
    rw [g4]
    simp only [Option.bind_some]
    rw [if_pos (by simp)]
    rcases R_or t 0 999999 with e | ⟨y, e, e1, e2, e3⟩
    · rw [e, if_neg (by decide)]
    · rw [e, if_pos rfl]
      unfold impl_FormatInt.f strconv_Itoa.f
      rw [if_pos (by omega)]
      simp only [Option.bind_some]
      rw [if_pos ((same_list _ _).mpr e1), decide_eq_true (by omega)]
  refine ⟨K + 1, ?_⟩
  unfold laws_FnNumbers.f laws_big.f
  rw [decide_eq_false (show ¬ (l.length : Int) > 1048576 by omega)]
  simp only [Option.bind_some]
  rw [if_neg (by decide), g1]
  simp only [Option.bind_some]
  have ei : impl_FormatInt.f v = some ⟨(Go.Lib.itoa v).toArray⟩ := by
    unfold impl_FormatInt.f strconv_Itoa.f
    rw [if_pos ⟨hv0, hv1⟩]
    rfl
  rw [ei]
  simp only [Option.bind_some]
  have hsz := itoa_size v hv0 hv1
  unfold impl_ParseInt.f
  rw [readR _ _ _ (by omega)]
  simp only [Option.bind_some]
  rw [g2]
  simp only [Option.bind_some]
  rw [if_pos trivial]
  have eR := R_at ⟨(Go.Lib.itoa v).toArray⟩ (-999999999999) 999999999999 v rfl hv0 hv1
  rw [sz]
  have hp : (10 : Nat) ^ (11 + 1) = 1000000000000 := by decide
  have hlen : (Go.Lib.itoa v).length = (Go.Lib.decDigits v.natAbs).length + (if v < 0 then 1 else 0) := by
    unfold Go.Lib.itoa
    by_cases c : v < 0
    · rw [if_pos c, if_pos c]; simp
    · rw [if_neg c, if_neg c, show v.toNat = v.natAbs by omega]; rfl
  have h12 := len_dec 11 v.natAbs
  rw [hp] at h12
  by_cases cr : -999999999999 ≤ v ∧ v ≤ 999999999999
  · have hd := h12.mpr (by omega)
    rw [if_pos cr] at eR
    rw [eR]
    by_cases cs : ((Go.Lib.itoa v).length : Int) ≤ 12
    · rw [if_pos cs, if_neg (by simp), if_pos rfl]
      simpa using hj
    · have cn : v < 0 := by
        by_cases c : v < 0
        · exact c
        · rw [if_neg c] at hlen; omega
      rw [if_pos cn] at hlen
      rw [if_neg cs, if_pos cn, decide_eq_true (by omega), if_neg (by simp), if_pos rfl]
      simpa using hj
  · have hd : ¬ (Go.Lib.decDigits v.natAbs).length ≤ 11 + 1 := fun hh => by
      have := h12.mp hh
      omega
    rw [if_neg cr] at eR
    rw [eR, if_neg (by split at hlen <;> omega)]
    by_cases cn : v < 0
    · rw [if_pos cn] at hlen
      rw [if_pos cn, decide_eq_false (by omega), if_neg (by simp), if_neg (by simp)]
      exact hj
    · rw [if_neg cn, if_neg (by simp), if_neg (by simp)]
      exact hj

end Go.Proofs.YtlemmelngjcieaaDoor.Pure.LFnNumbers
namespace Go.Proofs.YtlemmelngjcieaaDoor.Pure
open Go.Proofs.YtlemmelngjcieaaDoor.PFnNumbers
theorem FnNumbers : laws_FnNumbers.Pure := LFnNumbers.FnNumbers
end Go.Proofs.YtlemmelngjcieaaDoor.Pure
