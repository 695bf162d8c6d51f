/-
 What can be read as data of a type reads as the print's kinds: for numbers, bools, strings, slices; structs are put together from these, type by type, in the rows. No condition.
-/
import Derived.Test.YtndkkpjofddfjaaGreatDoorWWords
import Derived.ProofKit
import Derived.ChangeArms
import Derived.WideShapes
import Derived.Deep.Slices
namespace Go.Proofs.YtndkkpjofddfjaaGreatDoorX
open Go.RowKit Go.Proofs.YtndkkpjofddfjaaGreatDoorW.PrintWords
section
variable {H : Type} {enc : TypeId × Value → H} {P : Program} {w : World} {base : Nat} {spare : Nat → Bool} {held : Bool}
end
end Go.Proofs.YtndkkpjofddfjaaGreatDoorX
