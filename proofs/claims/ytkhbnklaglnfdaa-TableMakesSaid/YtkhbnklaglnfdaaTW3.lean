/- Walks: what sets ask for, by the document, job by job. -/
import Derived.Test.YtkhbnklaglnfdaaTW2
namespace Go.Proofs.Ytkhbnklaglnfdaa
open Go.RowKit


end Go.Proofs.Ytkhbnklaglnfdaa
