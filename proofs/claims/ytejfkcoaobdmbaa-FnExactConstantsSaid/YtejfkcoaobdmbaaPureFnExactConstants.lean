/-
  The pure statement of laws.FnExactConstants: what the printed functions compute makes the law answer true, for every argument of its kinds (no further condition).
-/
import Derived.Test.YtejfkcoaobdmbaaPFnExactConstantsx1
namespace Go.Proofs.Ytejfkcoaobdmbaa.Pure
open Go.RowKit Go.Proofs.Ytejfkcoaobdmbaa.PFnExactConstants Go.Proofs.YtejfkcoaobdmbaaW.PrintWords Go.Proofs.YtejfkcoaobdmbaaW.PrintLast
theorem FnExactConstants : laws_FnExactConstants.Pure := rfl

end Go.Proofs.Ytejfkcoaobdmbaa.Pure
