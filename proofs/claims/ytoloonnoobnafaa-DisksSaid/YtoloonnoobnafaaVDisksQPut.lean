import Derived.Test.YtoloonnoobnafaaVDisksWords
import Derived.Test.YtoloonnoobnafaaVDisksLast
namespace Go.Proofs.YtoloonnoobnafaaW.PrintWords
open Go.RowKit
namespace Kd
end Kd
end Go.Proofs.YtoloonnoobnafaaW.PrintWords
