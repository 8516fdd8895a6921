import Derived.Test.YtgolnkankkegdaaVAuditsInv
import Derived.Test.YtgolnkankkegdaaVAuditsFootNe
namespace Go.Proofs.YtgolnkankkegdaaW.PrintWords
open Go.RowKit
end Go.Proofs.YtgolnkankkegdaaW.PrintWords
namespace Go.Proofs.YtgolnkankkegdaaW.PrintLast
end Go.Proofs.YtgolnkankkegdaaW.PrintLast
