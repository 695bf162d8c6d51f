/-
  What a row that lists the three tables of strconv gives the walks: the table of powers of ten. No condition.
-/
import Derived.Test.YtlemmelngjcieaaDoorWorld
import Derived.Test.YtlemmelngjcieaaDoorRows
import Derived.LaidMore
import Derived.Stop.Joined
import Derived.ProofKit
namespace Go.Proofs.YtlemmelngjcieaaDoor
open Go.RowKit

theorem laid_tail_FnExactFormatInt {P : Program} {W : World} {a : String × DataW Unit} {rest : List (String × DataW Unit)} (h : laidMet P (a :: rest) W) : laidMet P rest W := by
  obtain ⟨ps, ⟨g, t, cs, f, p, q, h1, h2, h3, h4, hr, e⟩, hn, hc⟩ := h
  subst e
  exact ⟨q, hr, (List.nodup_append.mp hn).2.1, fun b off hm => hc b off (List.mem_append_right _ hm)⟩

theorem world_FnExactFormatInt_LaidI {W : World} (h : laidMetH Tryd.prog Rows.fnExactFormatIntRow.laid W) (_ : W.ShapedOpen Tryd.prog) : LaidI W := by
  rw [MakeChecks.laidMetH_plain _ _ _ (by kernel_rfl)] at h
  have h2 := laid_tail_FnExactFormatInt (laid_tail_FnExactFormatInt h)
  have e : (Rows.laid_internal_strconv_uint64pow10 : DataW Unit) = Lib.tabData .u64 Lib.pow10Tab := by kernel_rfl
  rw [e] at h2
  exact Lib.tabIs_of_head (g := 0) (t := 90) (e := 69) (n := 20) (by kernel_rfl) (by kernel_rfl) Tryd.underlying90 Tryd.underlying69 (by kernel_rfl) (by kernel_rfl) h2
end Go.Proofs.YtlemmelngjcieaaDoor
