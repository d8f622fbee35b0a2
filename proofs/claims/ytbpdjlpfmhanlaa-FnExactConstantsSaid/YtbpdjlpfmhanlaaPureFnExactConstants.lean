/- The program's constants are the document's. No condition. -/
import Derived.Test.YtbpdjlpfmhanlaaPFFnExactConstants
namespace Go.Proofs.Ytbpdjlpfmhanlaa.Pure
open Go.RowKit Go.Proofs.Ytbpdjlpfmhanlaa.P
theorem FnExactConstants : laws_FnExactConstants.Pure := rfl
end Go.Proofs.Ytbpdjlpfmhanlaa.Pure
