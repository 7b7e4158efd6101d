/- The law FnExactConstants answers true: the program's limits are the document's numbers. It takes no argument, and there is no condition. -/
import Derived.Test.YtllgfkbgdjkjmaaPFnExactConstantsx1
namespace Go.Proofs.Ytllgfkbgdjkjmaa.Pure
open Go.RowKit Go.Proofs.Ytllgfkbgdjkjmaa.PFnExactConstants Go.Proofs.YtllgfkbgdjkjmaaW.PrintWords Go.Proofs.YtllgfkbgdjkjmaaW.PrintLast

theorem FnExactConstants : laws_FnExactConstants.Pure := rfl

end Go.Proofs.Ytllgfkbgdjkjmaa.Pure
