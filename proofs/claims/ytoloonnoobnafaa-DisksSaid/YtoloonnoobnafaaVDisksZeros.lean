import Derived.Test.YtoloonnoobnafaaVDisksApart
import Derived.Test.YtoloonnoobnafaaVDisksArr
namespace Go.Proofs.YtoloonnoobnafaaW.PrintWords
open Go.RowKit
namespace Kd
end Kd
end Go.Proofs.YtoloonnoobnafaaW.PrintWords
