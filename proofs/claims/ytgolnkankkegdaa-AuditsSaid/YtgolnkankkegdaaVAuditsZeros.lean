import Derived.Test.YtgolnkankkegdaaVAuditsApart
import Derived.Test.YtgolnkankkegdaaVAuditsArr
namespace Go.Proofs.YtgolnkankkegdaaW.PrintWords
open Go.RowKit
namespace Kd
end Kd
end Go.Proofs.YtgolnkankkegdaaW.PrintWords
