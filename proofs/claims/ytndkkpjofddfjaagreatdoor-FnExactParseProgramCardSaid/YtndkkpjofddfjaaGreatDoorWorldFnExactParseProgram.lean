/-
 What a row that lists the tables of strconv, utf8's ranges, strconv's two error variables and utf8's first bytes gives the walks. No condition.
-/
import Derived.Test.YtndkkpjofddfjaaGreatDoorWorld
import Derived.Test.YtndkkpjofddfjaaGreatDoorShelf
import Derived.Test.YtndkkpjofddfjaaGreatDoorRows
import Derived.LaidMore
import Derived.Stop.Joined
import Derived.Stop.LaidErr
import Derived.ProofKit
namespace Go.Proofs.YtndkkpjofddfjaaGreatDoor
open Go.RowKit
theorem laid_tail_FnExactParseProgram {P : Program} {W : World} {a : String × DataW Unit} {rest : List (String × DataW Unit)} (h : laidMet P (a :: rest) W) : laidMet P rest W := laidMet.tail h
theorem world_FnExactParseProgram_LaidI {W : World} (h : laidMetH Tryz.prog Rows.fnExactParseProgramRow.laid W) (_ : W.ShapedOpen Tryz.prog) : LaidI W := by
 rw [MakeChecks.laidMetH_plain _ _ _ (by kernel_rfl)] at h; have h2 := laid_tail_FnExactParseProgram (laid_tail_FnExactParseProgram h); have e : (Rows.laid_internal_strconv_uint64pow10 : DataW Unit) = Lib.tabData .u64 Lib.pow10Tab := by kernel_rfl
 rw [e] at h2; exact Lib.tabIs_of_head (g := 1) (t := 188) (e := 161) (n := 20) (by kernel_rfl) (by kernel_rfl) Tryz.underlying188 Tryz.underlying161 (by kernel_rfl) (by kernel_rfl) h2
theorem row_err_FnExactParseProgram (u : TypeId) (h : Tryz.prog.typeName? 3 u = some "*errors.errorString") : u = 228 :=
 have star : "*" ++ "errors.errorString" = "*errors.errorString" := by decide
 typeName_ptr_named (nm := "errors.errorString") (by rw [star]; kernel_rfl) (by kernel_rfl) (by decide) u (by rw [star]; exact h)
theorem world_FnExactParseProgram_LaidE {W : World} (h : laidMetH Tryz.prog Rows.fnExactParseProgramRow.laid W) (_ : W.ShapedOpen Tryz.prog) : LaidE W := by
 rw [MakeChecks.laidMetH_plain _ _ _ (by kernel_rfl)] at h; have h3 := laid_tail_FnExactParseProgram (laid_tail_FnExactParseProgram (laid_tail_FnExactParseProgram (laid_tail_FnExactParseProgram h))); obtain ⟨a0, s0, hv0, _, _, _⟩ := laid_sentinel (g := 5) (ti := 117) h3 (by kernel_rfl) (by kernel_rfl) Tryz.underlying117 row_err_FnExactParseProgram Tryz.underlying228 Tryz.underlying230 rfl rfl Tryz.underlying9 (by kernel_rfl) (by kernel_rfl); obtain ⟨a1, s1, hv1, _, _, _⟩ := laid_sentinel (g := 4) (ti := 117) (laid_tail_FnExactParseProgram h3) (by kernel_rfl) (by kernel_rfl) Tryz.underlying117 row_err_FnExactParseProgram Tryz.underlying228 Tryz.underlying230 rfl rfl Tryz.underlying9 (by kernel_rfl) (by kernel_rfl); exact ⟨⟨_, by simpa using World.var?_cell (g := 4) (by kernel_rfl) hv1 0, Or.inr ⟨_, _, rfl⟩⟩, ⟨_, by simpa using World.var?_cell (g := 5) (by kernel_rfl) hv0 0, Or.inr ⟨_, _, rfl⟩⟩⟩
theorem world_FnExactParseProgram_LaidS {W : World} (_ : laidMetH Tryz.prog Rows.fnExactParseProgramRow.laid W) (h : W.ShapedOpen Tryz.prog) : LaidS W := Go.Proofs.YtndkkpjofddfjaaGreatDoorShelf.laysM146.s1_3 W h
end Go.Proofs.YtndkkpjofddfjaaGreatDoor
