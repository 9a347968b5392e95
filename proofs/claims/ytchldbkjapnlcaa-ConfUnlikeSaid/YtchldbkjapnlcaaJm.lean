/- What the document fixes of robq holds: the law's own 'awake' answers true. -/
import Derived.Test.YtchldbkjapnlcaaJa
set_option linter.unusedVariables false
set_option linter.unusedSimpArgs false
section
namespace Go.Proofs.Ytchldbkjapnlcaa
open Go.RowKit

theorem RdE.nil {w : World} : RdE w none [] := Reads.none_
/-- A call that answers true and turns nothing that was there. -/
def SaysTrue (w : World) (e : Ending) (w' : World) : Prop := e = .returned (.bool true) ∧ Below w.heap.size w w'

end Go.Proofs.Ytchldbkjapnlcaa
end
