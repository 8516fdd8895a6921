import Derived.Test.YtgolnkankkegdaaVAuditsWords
import Derived.Laws.StructEq
namespace Go.Proofs.YtgolnkankkegdaaW.PrintWords
open Go.RowKit
end Go.Proofs.YtgolnkankkegdaaW.PrintWords
