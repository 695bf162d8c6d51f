/-
 What the walks ask of the world: the strconv table that the row lists. It stays in all later worlds. No condition.
-/
import Derived.Test.YtndkkpjofddfjaaGreatDoorWWords
import Derived.Test.YtndkkpjofddfjaaGreatDoorProg
import Derived.Lib.LaidTab
import Derived.Lib.ItoaNum
import Derived.Lib.AppendIntMem
import Derived.Deep.RegionWith
namespace Go.Proofs.YtndkkpjofddfjaaGreatDoor
open Go.RowKit Go.Proofs.YtndkkpjofddfjaaGreatDoorW.PrintWords
def LaidI (w : World) : Prop := Lib.TabIs Tryz.prog w "internal/strconv.uint64pow10" .u64 Lib.pow10Tab
theorem tab_below {P : Program} {w w' : World} {name : String} {k : IntKind} {zs : List Int} (h : Lib.TabIs P w name k zs) (hb : Below w.heap.size w w') : Lib.TabIs P w' name k zs := by
 unfold Lib.TabIs World.var? at h ⊢; cases hg : P.globalNamed name with
 | none => rw [hg] at h; cases h
 | some g =>
  rw [hg] at h; simp only [Option.bind_some] at h ⊢; cases ho : w.heap[g]? with
  | none => rw [ho] at h; cases h
  | some o =>
   rw [blk_below ho hb]; rw [ho] at h; exact h
def LaidS (w : World) : Prop := ∃ m : Int, w.cell? ⟨0, 0, none⟩ = some (.int .i64 m)
theorem LaidS.below {w w' : World} (h : LaidS w) (hb : Below w.heap.size w w') : LaidS w' := by
 obtain ⟨m, h⟩ := h; exact ⟨m, (hb.cell (World.block_lt_of_cell? w _ h)).trans h⟩
theorem LaidS.drewN {w : World} (h : LaidS w) (n : Nat) : LaidS (w.drewN n) := h
def LaidE (w : World) : Prop := (∃ ev : Value, w.cell? ⟨4, 0, none⟩ = some ev ∧ (ev = .nilIface ∨ ∃ te pe, ev = .iface te pe)) ∧ (∃ ev : Value, w.cell? ⟨5, 0, none⟩ = some ev ∧ (ev = .nilIface ∨ ∃ te pe, ev = .iface te pe))
theorem LaidE.below {w w' : World} (h : LaidE w) (hb : Below w.heap.size w w') : LaidE w' := by
 obtain ⟨⟨e1, h1, i1⟩, ⟨e2, h2, i2⟩⟩ := h; exact ⟨⟨e1, (hb.cell (World.block_lt_of_cell? w _ h1)).trans h1, i1⟩, ⟨e2, (hb.cell (World.block_lt_of_cell? w _ h2)).trans h2, i2⟩⟩
theorem LaidE.drewN {w : World} (h : LaidE w) (n : Nat) : LaidE (w.drewN n) := h
theorem LaidI.below {w w' : World} (h : LaidI w) (hb : Below w.heap.size w w') : LaidI w' := tab_below h hb
theorem LaidI.drewN {w : World} (h : LaidI w) (n : Nat) : LaidI (w.drewN n) := h
end Go.Proofs.YtndkkpjofddfjaaGreatDoor
