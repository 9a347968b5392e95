/- What the document fixes of robq holds: the law's own 'awake' answers true. -/
import Derived.Test.YtchldbkjapnlcaaJa
set_option linter.unusedVariables false
set_option linter.unusedSimpArgs false
namespace Go.Proofs.Ytchldbkjapnlcaa
open Go.RowKit
section
def SaysTrue (w : World) (e : Ending) (w' : World) : Prop := e = .returned (.bool true) ∧ Below w.heap.size w w'
end
end Go.Proofs.Ytchldbkjapnlcaa
