import Derived.Test.YtgolnkankkegdaaVAuditsWords
import Derived.Test.YtgolnkankkegdaaVAuditsLast
namespace Go.Proofs.YtgolnkankkegdaaW.PrintWords
open Go.RowKit
namespace Kd
end Kd
end Go.Proofs.YtgolnkankkegdaaW.PrintWords
