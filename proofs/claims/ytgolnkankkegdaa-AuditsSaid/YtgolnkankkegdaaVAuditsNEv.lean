import Derived.Test.YtgolnkankkegdaaVAuditsN
namespace Go.Proofs.YtgolnkankkegdaaW.PrintWords
open Go.RowKit
namespace Kd
end Kd
end Go.Proofs.YtgolnkankkegdaaW.PrintWords
