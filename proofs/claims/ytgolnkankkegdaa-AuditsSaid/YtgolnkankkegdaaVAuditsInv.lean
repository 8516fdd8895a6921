import Derived.Test.YtgolnkankkegdaaVAuditsTab
namespace Go.Proofs.YtgolnkankkegdaaW.PrintLast
def up (b : Nat → Bool) (i : Nat) : Nat → Bool := fun j => if j = i then true else b j
end Go.Proofs.YtgolnkankkegdaaW.PrintLast
