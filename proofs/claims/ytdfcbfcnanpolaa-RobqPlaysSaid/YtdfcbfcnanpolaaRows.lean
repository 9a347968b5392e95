/-
  No cell of these rows narrows 'for every input' (looked for: loops, veiled, ifaces, maps, wideKeys, modest, calm, conditions, laid).
  DERIVED. THE GIVEN ROWS OF THIS SEAT. 10 by the template 'for every input the law returns true; each argument reads behind the call as it read before'; 0 by the template 'total and deterministic' (their statements: YtdfcbfcnanpolaaTotals.lean).
  GIVEN WITH THE SEED: the statements are not yours to turn. If you find one false, say at which input.
  Laid BY PROGRAM, IN A SANDBOX (cutbox-rows.mjs): the forced cells as the released guide's own fill.sh prints them over the translation f6d8e312c0e5894b… (all of the seat's roots in one cut). By AI agents, Wed Nov 11 2026. No macro, syntax, notation, axiom, sorry.
-/
import Derived.Test.YtdfcbfcnanpolaaChecked
import GoSem.Claim
import GoSem.ClaimJoined
import GoSem.ClaimMapViews
import Derived.JoinedTies
import Derived.KernelRfl
namespace Go.Proofs.Ytdfcbfcnanpolaa
/- THE CELL 'sum', in the pinned program and in every row, IS THE sha256 OF THE DUMP (.gsa) THAT YtdfcbfcnanpolaaProg.lean LOADS. Nothing in Lean hashes anything: it is a label: what it is worth is what the hold of that sum in a sandbox is worth. -/
noncomputable def Try.pinned : Pinned := { name := "ytdfcbfcnanpolaa", sum := "f6d8e312c0e5894b7b090978a8e9fa1b791fc7602b70c51fd2fef597408cecda", checked := Try.checked }
namespace Rows
def none {H : Type} : Left H := { results := [], args := [] }

/-- 'augurylaw9.RobqAges': WHATEVER THE INPUT: true; the input reads as it did. -/
def robqAgesSpec : ChangeSpec := { name := "robqAges", fn := fun _ => fun
  | [d1, d2, d3] => { results := [.lit (.bool true)], args := [d1, d2, d3] }
  | _ => none }
def robqAgesRow : OpenClaim := { program := "ytdfcbfcnanpolaa", sum := "f6d8e312c0e5894b7b090978a8e9fa1b791fc7602b70c51fd2fef597408cecda", func := "augury/augurylaw9.RobqAges", spec := "robqAges", apart := false }
def RobqAgesSaid : Prop := robqAgesRow.holds Try.pinned (OpenSpec.ofChange robqAgesSpec)

/-- ITS FALSE NEIGHBOUR: 'it returns false'. Refute it at one input. -/
def robqAgesWrong : ChangeSpec := { name := "robqAges", fn := fun _ => fun
  | [d1, d2, d3] => { results := [.lit (.bool false)], args := [d1, d2, d3] }
  | _ => none }
def RobqAgesWrongFalsely : Prop := robqAgesRow.holds Try.pinned (OpenSpec.ofChange robqAgesWrong)

/-- 'augurylaw9.RobqOwn': WHATEVER THE INPUT: true; the input reads as it did. -/
def robqOwnSpec : ChangeSpec := { name := "robqOwn", fn := fun _ => fun
  | [d1, d2] => { results := [.lit (.bool true)], args := [d1, d2] }
  | _ => none }
def robqOwnRow : OpenClaim := { program := "ytdfcbfcnanpolaa", sum := "f6d8e312c0e5894b7b090978a8e9fa1b791fc7602b70c51fd2fef597408cecda", func := "augury/augurylaw9.RobqOwn", spec := "robqOwn", apart := false }
def RobqOwnSaid : Prop := robqOwnRow.holds Try.pinned (OpenSpec.ofChange robqOwnSpec)

/-- ITS FALSE NEIGHBOUR: 'it returns false'. Refute it at one input. -/
def robqOwnWrong : ChangeSpec := { name := "robqOwn", fn := fun _ => fun
  | [d1, d2] => { results := [.lit (.bool false)], args := [d1, d2] }
  | _ => none }
def RobqOwnWrongFalsely : Prop := robqOwnRow.holds Try.pinned (OpenSpec.ofChange robqOwnWrong)

/-- 'augurylaw9.RobqFull': WHATEVER THE INPUT: true; the input reads as it did. -/
def robqFullSpec : ChangeSpec := { name := "robqFull", fn := fun _ => fun
  | [d1, d2, d3] => { results := [.lit (.bool true)], args := [d1, d2, d3] }
  | _ => none }
def robqFullRow : OpenClaim := { program := "ytdfcbfcnanpolaa", sum := "f6d8e312c0e5894b7b090978a8e9fa1b791fc7602b70c51fd2fef597408cecda", func := "augury/augurylaw9.RobqFull", spec := "robqFull", apart := false }
def RobqFullSaid : Prop := robqFullRow.holds Try.pinned (OpenSpec.ofChange robqFullSpec)

/-- ITS FALSE NEIGHBOUR: 'it returns false'. Refute it at one input. -/
def robqFullWrong : ChangeSpec := { name := "robqFull", fn := fun _ => fun
  | [d1, d2, d3] => { results := [.lit (.bool false)], args := [d1, d2, d3] }
  | _ => none }
def RobqFullWrongFalsely : Prop := robqFullRow.holds Try.pinned (OpenSpec.ofChange robqFullWrong)

/-- 'augurylaw9.RobqPlays': WHATEVER THE INPUT: true; the input reads as it did. -/
def robqPlaysSpec : ChangeSpec := { name := "robqPlays", fn := fun _ => fun
  | [d1, d2, d3, d4] => { results := [.lit (.bool true)], args := [d1, d2, d3, d4] }
  | _ => none }
def robqPlaysRow : OpenClaim := { program := "ytdfcbfcnanpolaa", sum := "f6d8e312c0e5894b7b090978a8e9fa1b791fc7602b70c51fd2fef597408cecda", func := "augury/augurylaw9.RobqPlays", spec := "robqPlays", apart := false }
def RobqPlaysSaid : Prop := robqPlaysRow.holds Try.pinned (OpenSpec.ofChange robqPlaysSpec)

/-- ITS FALSE NEIGHBOUR: 'it returns false'. Refute it at one input. -/
def robqPlaysWrong : ChangeSpec := { name := "robqPlays", fn := fun _ => fun
  | [d1, d2, d3, d4] => { results := [.lit (.bool false)], args := [d1, d2, d3, d4] }
  | _ => none }
def RobqPlaysWrongFalsely : Prop := robqPlaysRow.holds Try.pinned (OpenSpec.ofChange robqPlaysWrong)

/-- 'augurylaw12.RetbTwo': WHATEVER THE INPUT: true; the input reads as it did. -/
def retbTwoSpec : ChangeSpec := { name := "retbTwo", fn := fun _ => fun
  | [d1, d2] => { results := [.lit (.bool true)], args := [d1, d2] }
  | _ => none }
def retbTwoRow : OpenClaim := { program := "ytdfcbfcnanpolaa", sum := "f6d8e312c0e5894b7b090978a8e9fa1b791fc7602b70c51fd2fef597408cecda", func := "augury/augurylaw12.RetbTwo", spec := "retbTwo", apart := false }
def RetbTwoSaid : Prop := retbTwoRow.holds Try.pinned (OpenSpec.ofChange retbTwoSpec)

/-- ITS FALSE NEIGHBOUR: 'it returns false'. Refute it at one input. -/
def retbTwoWrong : ChangeSpec := { name := "retbTwo", fn := fun _ => fun
  | [d1, d2] => { results := [.lit (.bool false)], args := [d1, d2] }
  | _ => none }
def RetbTwoWrongFalsely : Prop := retbTwoRow.holds Try.pinned (OpenSpec.ofChange retbTwoWrong)

/-- 'augurylaw12.RetbReal': WHATEVER THE INPUT: true; the input reads as it did. -/
def retbRealSpec : ChangeSpec := { name := "retbReal", fn := fun _ => fun
  | [d1, d2, d3] => { results := [.lit (.bool true)], args := [d1, d2, d3] }
  | _ => none }
def retbRealRow : OpenClaim := { program := "ytdfcbfcnanpolaa", sum := "f6d8e312c0e5894b7b090978a8e9fa1b791fc7602b70c51fd2fef597408cecda", func := "augury/augurylaw12.RetbReal", spec := "retbReal", apart := false }
def RetbRealSaid : Prop := retbRealRow.holds Try.pinned (OpenSpec.ofChange retbRealSpec)

/-- ITS FALSE NEIGHBOUR: 'it returns false'. Refute it at one input. -/
def retbRealWrong : ChangeSpec := { name := "retbReal", fn := fun _ => fun
  | [d1, d2, d3] => { results := [.lit (.bool false)], args := [d1, d2, d3] }
  | _ => none }
def RetbRealWrongFalsely : Prop := retbRealRow.holds Try.pinned (OpenSpec.ofChange retbRealWrong)

/-- 'augurylaw12.RetbOwn': WHATEVER THE INPUT: true; the input reads as it did. -/
def retbOwnSpec : ChangeSpec := { name := "retbOwn", fn := fun _ => fun
  | [d1, d2] => { results := [.lit (.bool true)], args := [d1, d2] }
  | _ => none }
def retbOwnRow : OpenClaim := { program := "ytdfcbfcnanpolaa", sum := "f6d8e312c0e5894b7b090978a8e9fa1b791fc7602b70c51fd2fef597408cecda", func := "augury/augurylaw12.RetbOwn", spec := "retbOwn", apart := false }
def RetbOwnSaid : Prop := retbOwnRow.holds Try.pinned (OpenSpec.ofChange retbOwnSpec)

/-- ITS FALSE NEIGHBOUR: 'it returns false'. Refute it at one input. -/
def retbOwnWrong : ChangeSpec := { name := "retbOwn", fn := fun _ => fun
  | [d1, d2] => { results := [.lit (.bool false)], args := [d1, d2] }
  | _ => none }
def RetbOwnWrongFalsely : Prop := retbOwnRow.holds Try.pinned (OpenSpec.ofChange retbOwnWrong)

/-- 'augurylaw16.RetiWaits': WHATEVER THE INPUT: true; the input reads as it did. -/
def retiWaitsSpec : ChangeSpec := { name := "retiWaits", fn := fun _ => fun
  | [d] => { results := [.lit (.bool true)], args := [d] }
  | _ => none }
def retiWaitsRow : OpenClaim := { program := "ytdfcbfcnanpolaa", sum := "f6d8e312c0e5894b7b090978a8e9fa1b791fc7602b70c51fd2fef597408cecda", func := "augury/augurylaw16.RetiWaits", spec := "retiWaits", apart := false }
def RetiWaitsSaid : Prop := retiWaitsRow.holds Try.pinned (OpenSpec.ofChange retiWaitsSpec)

/-- ITS FALSE NEIGHBOUR: 'it returns false'. Refute it at one input. -/
def retiWaitsWrong : ChangeSpec := { name := "retiWaits", fn := fun _ => fun
  | [d] => { results := [.lit (.bool false)], args := [d] }
  | _ => none }
def RetiWaitsWrongFalsely : Prop := retiWaitsRow.holds Try.pinned (OpenSpec.ofChange retiWaitsWrong)

/-- 'augurylaw14.FetcKinds': WHATEVER THE INPUT: true; the input reads as it did. -/
def fetcKindsSpec : ChangeSpec := { name := "fetcKinds", fn := fun _ => fun
  | [d1, d2] => { results := [.lit (.bool true)], args := [d1, d2] }
  | _ => none }
def fetcKindsRow : OpenClaim := { program := "ytdfcbfcnanpolaa", sum := "f6d8e312c0e5894b7b090978a8e9fa1b791fc7602b70c51fd2fef597408cecda", func := "augury/augurylaw14.FetcKinds", spec := "fetcKinds", apart := false }
def FetcKindsSaid : Prop := fetcKindsRow.holds Try.pinned (OpenSpec.ofChange fetcKindsSpec)

/-- ITS FALSE NEIGHBOUR: 'it returns false'. Refute it at one input. -/
def fetcKindsWrong : ChangeSpec := { name := "fetcKinds", fn := fun _ => fun
  | [d1, d2] => { results := [.lit (.bool false)], args := [d1, d2] }
  | _ => none }
def FetcKindsWrongFalsely : Prop := fetcKindsRow.holds Try.pinned (OpenSpec.ofChange fetcKindsWrong)

/-- 'augurylaw14.FetcReturns': WHATEVER THE INPUT: true; the input reads as it did. -/
def fetcReturnsSpec : ChangeSpec := { name := "fetcReturns", fn := fun _ => fun
  | [d] => { results := [.lit (.bool true)], args := [d] }
  | _ => none }
def fetcReturnsRow : OpenClaim := { program := "ytdfcbfcnanpolaa", sum := "f6d8e312c0e5894b7b090978a8e9fa1b791fc7602b70c51fd2fef597408cecda", func := "augury/augurylaw14.FetcReturns", spec := "fetcReturns", apart := false }
def FetcReturnsSaid : Prop := fetcReturnsRow.holds Try.pinned (OpenSpec.ofChange fetcReturnsSpec)

/-- ITS FALSE NEIGHBOUR: 'it returns false'. Refute it at one input. -/
def fetcReturnsWrong : ChangeSpec := { name := "fetcReturns", fn := fun _ => fun
  | [d] => { results := [.lit (.bool false)], args := [d] }
  | _ => none }
def FetcReturnsWrongFalsely : Prop := fetcReturnsRow.holds Try.pinned (OpenSpec.ofChange fetcReturnsWrong)

/- THE SECOND FORM. 'bulk': how many values and letters a reading holds, each counted each time it is reached (what is shared counts as often as it is met; a slice's spare places count too). A statement '..UptoSaid' is the law's where the arguments, and the package variables that the reading takes, are together of bulk at most 1048576: NARROWER than '..Said'. Prove '..Said' where nothing that the law and all that it calls make is longer than what came in: it says more and counts as full. Else prove '..UptoSaid'. A law counts once. -/
mutual
def uptoBulk {H : Type} : DataW H → Nat
  | .lit (.string bytes) => bytes.length + 1
  | .lit _ => 1
  | .nil => 1
  | .ptr d => uptoBulk d + 1
  | .slice elems spare => uptoBulkAll elems + uptoBulkAll spare + 1
  | .agg parts => uptoBulkAll parts + 1
  | .iface _ d => uptoBulk d + 1
  | .map entries => uptoBulkEntries entries + 1
  | .held _ => 1
def uptoBulkAll {H : Type} : List (DataW H) → Nat
  | [] => 0
  | d :: r => uptoBulk d + uptoBulkAll r
def uptoBulkEntries {H : Type} : List (Lit × DataW H) → Nat
  | [] => 0
  | x :: r => uptoBulkEntry x + uptoBulkEntries r
def uptoBulkEntry {H : Type} : Lit × DataW H → Nat
  | (.string bytes, d) => bytes.length + uptoBulk d + 1
  | (_, d) => uptoBulk d + 1
 end
def uptoSmall : (H : Type) → List (DataW H) → Bool := fun _ ds => decide (uptoBulkAll ds ≤ 1048576)
def OpenSpec.upto (s : _root_.Go.ChangeSpec) : _root_.Go.OpenSpec := { _root_.Go.OpenSpec.ofChange s with cond := some uptoSmall }

/-- 'augurylaw9.RobqAges', WHERE WHAT IT READS IS OF BULK AT MOST 1048576: true; the input reads as it did. -/
def robqAgesUptoRow : OpenClaim := { program := "ytdfcbfcnanpolaa", sum := "f6d8e312c0e5894b7b090978a8e9fa1b791fc7602b70c51fd2fef597408cecda", func := "augury/augurylaw9.RobqAges", spec := "robqAges", apart := false, narrowed := true }
def RobqAgesUptoSaid : Prop := robqAgesUptoRow.holds Try.pinned (OpenSpec.upto robqAgesSpec)

/-- 'augurylaw9.RobqOwn', WHERE WHAT IT READS IS OF BULK AT MOST 1048576: true; the input reads as it did. -/
def robqOwnUptoRow : OpenClaim := { program := "ytdfcbfcnanpolaa", sum := "f6d8e312c0e5894b7b090978a8e9fa1b791fc7602b70c51fd2fef597408cecda", func := "augury/augurylaw9.RobqOwn", spec := "robqOwn", apart := false, narrowed := true }
def RobqOwnUptoSaid : Prop := robqOwnUptoRow.holds Try.pinned (OpenSpec.upto robqOwnSpec)

/-- 'augurylaw9.RobqFull', WHERE WHAT IT READS IS OF BULK AT MOST 1048576: true; the input reads as it did. -/
def robqFullUptoRow : OpenClaim := { program := "ytdfcbfcnanpolaa", sum := "f6d8e312c0e5894b7b090978a8e9fa1b791fc7602b70c51fd2fef597408cecda", func := "augury/augurylaw9.RobqFull", spec := "robqFull", apart := false, narrowed := true }
def RobqFullUptoSaid : Prop := robqFullUptoRow.holds Try.pinned (OpenSpec.upto robqFullSpec)

/-- 'augurylaw9.RobqPlays', WHERE WHAT IT READS IS OF BULK AT MOST 1048576: true; the input reads as it did. -/
def robqPlaysUptoRow : OpenClaim := { program := "ytdfcbfcnanpolaa", sum := "f6d8e312c0e5894b7b090978a8e9fa1b791fc7602b70c51fd2fef597408cecda", func := "augury/augurylaw9.RobqPlays", spec := "robqPlays", apart := false, narrowed := true }
def RobqPlaysUptoSaid : Prop := robqPlaysUptoRow.holds Try.pinned (OpenSpec.upto robqPlaysSpec)

/-- 'augurylaw12.RetbTwo', WHERE WHAT IT READS IS OF BULK AT MOST 1048576: true; the input reads as it did. -/
def retbTwoUptoRow : OpenClaim := { program := "ytdfcbfcnanpolaa", sum := "f6d8e312c0e5894b7b090978a8e9fa1b791fc7602b70c51fd2fef597408cecda", func := "augury/augurylaw12.RetbTwo", spec := "retbTwo", apart := false, narrowed := true }
def RetbTwoUptoSaid : Prop := retbTwoUptoRow.holds Try.pinned (OpenSpec.upto retbTwoSpec)

/-- 'augurylaw12.RetbReal', WHERE WHAT IT READS IS OF BULK AT MOST 1048576: true; the input reads as it did. -/
def retbRealUptoRow : OpenClaim := { program := "ytdfcbfcnanpolaa", sum := "f6d8e312c0e5894b7b090978a8e9fa1b791fc7602b70c51fd2fef597408cecda", func := "augury/augurylaw12.RetbReal", spec := "retbReal", apart := false, narrowed := true }
def RetbRealUptoSaid : Prop := retbRealUptoRow.holds Try.pinned (OpenSpec.upto retbRealSpec)

/-- 'augurylaw12.RetbOwn', WHERE WHAT IT READS IS OF BULK AT MOST 1048576: true; the input reads as it did. -/
def retbOwnUptoRow : OpenClaim := { program := "ytdfcbfcnanpolaa", sum := "f6d8e312c0e5894b7b090978a8e9fa1b791fc7602b70c51fd2fef597408cecda", func := "augury/augurylaw12.RetbOwn", spec := "retbOwn", apart := false, narrowed := true }
def RetbOwnUptoSaid : Prop := retbOwnUptoRow.holds Try.pinned (OpenSpec.upto retbOwnSpec)

/-- 'augurylaw16.RetiWaits', WHERE WHAT IT READS IS OF BULK AT MOST 1048576: true; the input reads as it did. -/
def retiWaitsUptoRow : OpenClaim := { program := "ytdfcbfcnanpolaa", sum := "f6d8e312c0e5894b7b090978a8e9fa1b791fc7602b70c51fd2fef597408cecda", func := "augury/augurylaw16.RetiWaits", spec := "retiWaits", apart := false, narrowed := true }
def RetiWaitsUptoSaid : Prop := retiWaitsUptoRow.holds Try.pinned (OpenSpec.upto retiWaitsSpec)

/-- 'augurylaw14.FetcKinds', WHERE WHAT IT READS IS OF BULK AT MOST 1048576: true; the input reads as it did. -/
def fetcKindsUptoRow : OpenClaim := { program := "ytdfcbfcnanpolaa", sum := "f6d8e312c0e5894b7b090978a8e9fa1b791fc7602b70c51fd2fef597408cecda", func := "augury/augurylaw14.FetcKinds", spec := "fetcKinds", apart := false, narrowed := true }
def FetcKindsUptoSaid : Prop := fetcKindsUptoRow.holds Try.pinned (OpenSpec.upto fetcKindsSpec)

/-- 'augurylaw14.FetcReturns', WHERE WHAT IT READS IS OF BULK AT MOST 1048576: true; the input reads as it did. -/
def fetcReturnsUptoRow : OpenClaim := { program := "ytdfcbfcnanpolaa", sum := "f6d8e312c0e5894b7b090978a8e9fa1b791fc7602b70c51fd2fef597408cecda", func := "augury/augurylaw14.FetcReturns", spec := "fetcReturns", apart := false, narrowed := true }
def FetcReturnsUptoSaid : Prop := fetcReturnsUptoRow.holds Try.pinned (OpenSpec.upto fetcReturnsSpec)

end Rows
end Go.Proofs.Ytdfcbfcnanpolaa
