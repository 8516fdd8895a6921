import Derived.Test.YtgolnkankkegdaaVAuditsTab
namespace Go.Proofs.YtgolnkankkegdaaW.PrintLast
end Go.Proofs.YtgolnkankkegdaaW.PrintLast
