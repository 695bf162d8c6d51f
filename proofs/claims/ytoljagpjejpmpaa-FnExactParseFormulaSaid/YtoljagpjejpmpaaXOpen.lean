/-
 What can be read as data of a type reads as the print's kinds: for numbers, bools, strings, slices; structs are put together from these, type by type, in the rows. No condition.
-/
import Derived.Test.YtoljagpjejpmpaaWWords
import Derived.ProofKit
import Derived.ChangeArms
import Derived.WideShapes
import Derived.Deep.Slices
namespace Go.Proofs.YtoljagpjejpmpaaX
open Go.RowKit Go.Proofs.YtoljagpjejpmpaaW.PrintWords
section
variable {H : Type} {enc : TypeId × Value → H} {P : Program} {w : World} {base : Nat} {spare : Nat → Bool} {held : Bool}
def Opens (enc : TypeId × Value → H) (P : Program) (w : World) (base : Nat) (spare : Nat → Bool) (held : Bool) (n : Nat) {α : Type} (d : Kd α) (B : α → Prop) (t : TypeId) : Prop :=
 ∀ cs x, DataW.trod enc P w base spare held n t cs = some x → ∃ a, d.K w a cs ∧ B a
theorem opens_string {n : Nat} {t : TypeId} (ht : P.underlying t = some .string) : Opens enc P w base spare held n Kd.string (fun a => a.size ≤ maxLen) t := by
 intro cs x h; obtain ⟨a, rfl, _, hw⟩ := DataW.trod_string ht h; exact ⟨a, rfl, hw⟩
theorem pick {α : Type} {p : Nat → α → Prop} : ∀ n, (∀ i, i < n → ∃ x, p i x) → ∃ l : List α, l.length = n ∧ ∀ i a, l[i]? = some a → p i a
 | 0, _ => ⟨[], rfl, fun i a h => by simp at h⟩
 | n + 1, h => by
  obtain ⟨l, hl, hp⟩ := pick n (fun i hi => h i (by omega)); obtain ⟨x, hx⟩ := h n (by omega); refine ⟨l ++ [x], by simp [hl], fun i a ha => ?_⟩; by_cases hi : i < l.length
  ·rw [List.getElem?_append_left hi] at ha; exact hp i a ha
  ·rw [List.getElem?_append_right (by omega)] at ha; have hi' : i - l.length = 0 := by
    by_cases h0 : i - l.length = 0
    ·exact h0
    ·rw [List.getElem?_eq_none (by simp; omega)] at ha; exact absurd ha (by simp)
   rw [hi'] at ha; obtain rfl : x = a := by simpa using ha
   obtain rfl : i = n := by omega
   exact hx
theorem opens_slice {n : Nat} {t e : TypeId} {α : Type} {d : Kd α} {B : α → Prop} (ht : P.underlying t = some (.slice e)) (hc : P.cellsOf e = d.sz) (h : ∀ m, m < n → Opens enc P w base spare held m d B e) :
  Opens enc P w base spare held n (Kd.slice e d) (fun l => l.length ≤ maxLen ∧ ∀ x_ ∈ l, B x_) t := by
 intro cs x hx; rcases DataW.trod_slice ht hx with ⟨rfl, _⟩ | ⟨a, len, cap, elems, rest, m, rfl, rfl, _, hb, hl, hm, hlen, hel, _⟩
 ·exact ⟨[], ⟨none, 0, rfl, Nat.le_refl _, rfl, by simp, fun h0 => absurd h0 (by simp)⟩, by simp, by simp⟩
 ·have key : ∀ i, i < len → ∃ y, (∃ c : List Value, c.length = d.sz ∧ d.K w y c ∧ ∀ j u, c[j]? = some u → w.cell? (a.add (i * d.sz + j)) = some u) ∧ B y := by
   intro i hi; have h1 := hel i hi; rw [List.getElem?_eq_getElem (by omega)] at h1; obtain ⟨c, hcs, ht'⟩ := Option.bind_eq_some_iff.mp h1; obtain ⟨y, hK, hB⟩ := h m (Nat.lt_succ_self m) _ _ ht'; obtain ⟨_, hcl, hcell⟩ := World.cells?_some hcs; refine ⟨y, ⟨c, hcl.trans hc, hK, fun j u hj => ?_⟩, hB⟩; have hj' : j < c.length := by
    by_cases hh : j < c.length
    ·exact hh
    ·rw [List.getElem?_eq_none (by omega)] at hj; exact absurd hj (by simp)
   have := hcell j (by omega); rw [hj] at this; rw [← this, hc, Go.Deep.add_add]
  obtain ⟨l, hll, hp⟩ := pick len key; have hmax : maxLen = 9223372036854775807 := rfl; refine ⟨l, ⟨some a, cap, by rw [hll], by omega, rfl, by omega, fun _ => ⟨a, rfl, fun j p hj => (hp j p hj).1⟩⟩, by omega, fun y hy => ?_⟩; obtain ⟨i, hi⟩ := List.getElem?_of_mem hy; exact (hp i y hi).2
end
end Go.Proofs.YtoljagpjejpmpaaX
