/-
  What every row's world gives the walks that cut strings: the library's limit variable holds a whole number. No condition.
-/
import Derived.Test.YtlemmelngjcieaaDoorWorld
import Derived.Test.YtlemmelngjcieaaDoorShelf
import Derived.Test.YtlemmelngjcieaaDoorRows
import Derived.LaidMore
namespace Go.Proofs.YtlemmelngjcieaaDoor
open Go.RowKit
theorem world_FnSplit_LaidS {W : World} (_ : laidMetH Tryd.prog Rows.fnSplitRow.laid W) (h : W.ShapedOpen Tryd.prog) : LaidS W := Go.Proofs.YtlemmelngjcieaaDoorShelf.laysM146.s1_3 W h
end Go.Proofs.YtlemmelngjcieaaDoor
