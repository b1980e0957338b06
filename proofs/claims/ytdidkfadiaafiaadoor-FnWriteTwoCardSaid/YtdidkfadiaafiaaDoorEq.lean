/- The laws' own equality: eqIntS, eqSib, eqSibS, eqFile, eqFileS. -/
import Derived.Test.YtdidkfadiaafiaaDoorSz
import Derived.Test.YtdidkfadiaafiaaDoorInfo
namespace Go.Proofs.YtdidkfadiaafiaaDoor
open Go Go.RowKit

end Go.Proofs.YtdidkfadiaafiaaDoor
