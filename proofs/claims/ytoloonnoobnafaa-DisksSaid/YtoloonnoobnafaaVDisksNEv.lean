import Derived.Test.YtoloonnoobnafaaVDisksN
namespace Go.Proofs.YtoloonnoobnafaaW.PrintWords
open Go.RowKit
namespace Kd
end Kd
end Go.Proofs.YtoloonnoobnafaaW.PrintWords
