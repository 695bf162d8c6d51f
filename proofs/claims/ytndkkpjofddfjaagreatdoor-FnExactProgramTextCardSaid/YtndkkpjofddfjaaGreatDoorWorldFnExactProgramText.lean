/-
  What a row that lists the three tables of strconv gives the walks: the table of powers of ten. No condition.
-/
import Derived.Test.YtndkkpjofddfjaaGreatDoorWorld
import Derived.Test.YtndkkpjofddfjaaGreatDoorRows
import Derived.LaidMore
import Derived.Stop.Joined
import Derived.ProofKit
namespace Go.Proofs.YtndkkpjofddfjaaGreatDoor
open Go.RowKit
theorem laid_tail_FnExactProgramText {P : Program} {W : World} {a : String × DataW Unit} {rest : List (String × DataW Unit)} (h : laidMet P (a :: rest) W) : laidMet P rest W := by
  obtain ⟨ps, ⟨g, t, cs, f, p, q, h1, h2, h3, h4, hr, e⟩, hn, hc⟩ := h
  subst e
  exact ⟨q, hr, (List.nodup_append.mp hn).2.1, fun b off hm => hc b off (List.mem_append_right _ hm)⟩
theorem world_FnExactProgramText_LaidI {W : World} (h : laidMetH Tryz.prog Rows.fnExactProgramTextRow.laid W) (_ : W.ShapedOpen Tryz.prog) : LaidI W := by
  rw [MakeChecks.laidMetH_plain _ _ _ (by kernel_rfl)] at h
  have h2 := laid_tail_FnExactProgramText (laid_tail_FnExactProgramText h)
  have e : (Rows.laid_internal_strconv_uint64pow10 : DataW Unit) = Lib.tabData .u64 Lib.pow10Tab := by kernel_rfl
  rw [e] at h2
  exact Lib.tabIs_of_head (g := 1) (t := 188) (e := 161) (n := 20) (by kernel_rfl) (by kernel_rfl) Tryz.underlying188 Tryz.underlying161 (by kernel_rfl) (by kernel_rfl) h2
end Go.Proofs.YtndkkpjofddfjaaGreatDoor
