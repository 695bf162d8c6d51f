/-
  What a row that lists the tables of strconv and its two error variables gives the walks. No condition.
-/
import Derived.Test.YtlemmelngjcieaaDoorWorld
import Derived.Test.YtlemmelngjcieaaDoorRows
import Derived.LaidMore
import Derived.Stop.Joined
import Derived.Stop.LaidErr
import Derived.ProofKit
namespace Go.Proofs.YtlemmelngjcieaaDoor
open Go.RowKit

theorem laid_tail_FnNumbers {P : Program} {W : World} {a : String × DataW Unit} {rest : List (String × DataW Unit)} (h : laidMet P (a :: rest) W) : laidMet P rest W := laidMet.tail h

theorem world_FnNumbers_LaidI {W : World} (h : laidMetH Tryd.prog Rows.fnNumbersRow.laid W) (_ : W.ShapedOpen Tryd.prog) : LaidI W := by
  rw [MakeChecks.laidMetH_plain _ _ _ (by kernel_rfl)] at h
  have h2 := laid_tail_FnNumbers (laid_tail_FnNumbers h)
  have e : (Rows.laid_internal_strconv_uint64pow10 : DataW Unit) = Lib.tabData .u64 Lib.pow10Tab := by kernel_rfl
  rw [e] at h2
  exact Lib.tabIs_of_head (g := 0) (t := 90) (e := 69) (n := 20) (by kernel_rfl) (by kernel_rfl) Tryd.underlying90 Tryd.underlying69 (by kernel_rfl) (by kernel_rfl) h2

theorem row_err_FnNumbers (u : TypeId) (h : Tryd.prog.typeName? 3 u = some "*errors.errorString") : u = 108 :=
  have star : "*" ++ "errors.errorString" = "*errors.errorString" := by decide
  typeName_ptr_named (nm := "errors.errorString") (by rw [star]; kernel_rfl) (by kernel_rfl) (by decide) u (by rw [star]; exact h)

theorem world_FnNumbers_LaidE {W : World} (h : laidMetH Tryd.prog Rows.fnNumbersRow.laid W) (_ : W.ShapedOpen Tryd.prog) : LaidE W := by
  rw [MakeChecks.laidMetH_plain _ _ _ (by kernel_rfl)] at h
  have h3 := laid_tail_FnNumbers (laid_tail_FnNumbers (laid_tail_FnNumbers h))
  obtain ⟨a0, s0, hv0, _, _, _⟩ := laid_sentinel (g := 3) (ti := 58) h3 (by kernel_rfl) (by kernel_rfl) Tryd.underlying58 row_err_FnNumbers Tryd.underlying108 Tryd.underlying110 rfl rfl Tryd.underlying9 (by kernel_rfl) (by kernel_rfl)
  obtain ⟨a1, s1, hv1, _, _, _⟩ := laid_sentinel (g := 2) (ti := 58) (laid_tail_FnNumbers h3) (by kernel_rfl) (by kernel_rfl) Tryd.underlying58 row_err_FnNumbers Tryd.underlying108 Tryd.underlying110 rfl rfl Tryd.underlying9 (by kernel_rfl) (by kernel_rfl)
  exact ⟨⟨_, by simpa using World.var?_cell (g := 2) (by kernel_rfl) hv1 0, Or.inr ⟨_, _, rfl⟩⟩, ⟨_, by simpa using World.var?_cell (g := 3) (by kernel_rfl) hv0 0, Or.inr ⟨_, _, rfl⟩⟩⟩
end Go.Proofs.YtlemmelngjcieaaDoor
