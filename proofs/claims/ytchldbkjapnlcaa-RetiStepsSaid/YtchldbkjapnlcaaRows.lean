/-
  No cell of these rows narrows 'for every input' (looked for: loops, veiled, ifaces, maps, wideKeys, modest, calm, conditions, laid).
  DERIVED. THE GIVEN ROWS OF THIS SEAT. 15 by the template 'for every input the law returns true; each argument reads behind the call as it read before'; 0 by the template 'total and deterministic' (their statements: YtchldbkjapnlcaaTotals.lean).
  GIVEN WITH THE SEED: the statements are not yours to turn. If you find one false, say at which input.
  Laid BY PROGRAM, IN A SANDBOX (cutbox-rows.mjs): the forced cells as the released guide's own fill.sh prints them over the translation dfee5e4a9dc50b24… (all of the seat's roots in one cut). By AI agents, Wed Nov 11 2026. No macro, syntax, notation, axiom, sorry.
-/
import Derived.Test.YtchldbkjapnlcaaChecked
import GoSem.Claim
import GoSem.ClaimJoined
import GoSem.ClaimMapViews
import Derived.JoinedTies
import Derived.KernelRfl
namespace Go.Proofs.Ytchldbkjapnlcaa
/- THE CELL 'sum', in the pinned program and in every row, IS THE sha256 OF THE DUMP (.gsa) THAT YtchldbkjapnlcaaProg.lean LOADS. Nothing in Lean hashes anything: it is a label: what it is worth is what the hold of that sum in a sandbox is worth. -/
noncomputable def Try.pinned : Pinned := { name := "ytchldbkjapnlcaa", sum := "dfee5e4a9dc50b24573db81fbc209248a2392918be0f8273a3023bc9f0e9a054", checked := Try.checked }
namespace Rows
def none {H : Type} : Left H := { results := [], args := [] }

/-- 'augurylaw12.RetbTells': WHATEVER THE INPUT: true; the input reads as it did. -/
def retbTellsSpec : ChangeSpec := { name := "retbTells", fn := fun _ => fun
  | [d1, d2, d3, d4, d5] => { results := [.lit (.bool true)], args := [d1, d2, d3, d4, d5] }
  | _ => none }
def retbTellsRow : OpenClaim := { program := "ytchldbkjapnlcaa", sum := "dfee5e4a9dc50b24573db81fbc209248a2392918be0f8273a3023bc9f0e9a054", func := "augury/augurylaw12.RetbTells", spec := "retbTells", unfollowed := true, recurses := true, apart := false }
def RetbTellsSaid : Prop := retbTellsRow.holds Try.pinned (OpenSpec.ofChange retbTellsSpec)

/-- ITS FALSE NEIGHBOUR: 'it returns false'. Refute it at one input. -/
def retbTellsWrong : ChangeSpec := { name := "retbTells", fn := fun _ => fun
  | [d1, d2, d3, d4, d5] => { results := [.lit (.bool false)], args := [d1, d2, d3, d4, d5] }
  | _ => none }
def RetbTellsWrongFalsely : Prop := retbTellsRow.holds Try.pinned (OpenSpec.ofChange retbTellsWrong)

/-- 'augurylaw16.RetiWaits': WHATEVER THE INPUT: true; the input reads as it did. -/
def retiWaitsSpec : ChangeSpec := { name := "retiWaits", fn := fun _ => fun
  | [d] => { results := [.lit (.bool true)], args := [d] }
  | _ => none }
def retiWaitsRow : OpenClaim := { program := "ytchldbkjapnlcaa", sum := "dfee5e4a9dc50b24573db81fbc209248a2392918be0f8273a3023bc9f0e9a054", func := "augury/augurylaw16.RetiWaits", spec := "retiWaits", apart := false }
def RetiWaitsSaid : Prop := retiWaitsRow.holds Try.pinned (OpenSpec.ofChange retiWaitsSpec)

/-- ITS FALSE NEIGHBOUR: 'it returns false'. Refute it at one input. -/
def retiWaitsWrong : ChangeSpec := { name := "retiWaits", fn := fun _ => fun
  | [d] => { results := [.lit (.bool false)], args := [d] }
  | _ => none }
def RetiWaitsWrongFalsely : Prop := retiWaitsRow.holds Try.pinned (OpenSpec.ofChange retiWaitsWrong)

/-- 'augurylaw16.RetiOldest': WHATEVER THE INPUT: true; the input reads as it did. -/
def retiOldestSpec : ChangeSpec := { name := "retiOldest", fn := fun _ => fun
  | [d1, d2, d3] => { results := [.lit (.bool true)], args := [d1, d2, d3] }
  | _ => none }
def retiOldestRow : OpenClaim := { program := "ytchldbkjapnlcaa", sum := "dfee5e4a9dc50b24573db81fbc209248a2392918be0f8273a3023bc9f0e9a054", func := "augury/augurylaw16.RetiOldest", spec := "retiOldest", unfollowed := true, recurses := true, apart := false }
def RetiOldestSaid : Prop := retiOldestRow.holds Try.pinned (OpenSpec.ofChange retiOldestSpec)

/-- ITS FALSE NEIGHBOUR: 'it returns false'. Refute it at one input. -/
def retiOldestWrong : ChangeSpec := { name := "retiOldest", fn := fun _ => fun
  | [d1, d2, d3] => { results := [.lit (.bool false)], args := [d1, d2, d3] }
  | _ => none }
def RetiOldestWrongFalsely : Prop := retiOldestRow.holds Try.pinned (OpenSpec.ofChange retiOldestWrong)

/-- 'augurylaw16.RetiOwn': WHATEVER THE INPUT: true; the input reads as it did. -/
def retiOwnSpec : ChangeSpec := { name := "retiOwn", fn := fun _ => fun
  | [d1, d2, d3] => { results := [.lit (.bool true)], args := [d1, d2, d3] }
  | _ => none }
def retiOwnRow : OpenClaim := { program := "ytchldbkjapnlcaa", sum := "dfee5e4a9dc50b24573db81fbc209248a2392918be0f8273a3023bc9f0e9a054", func := "augury/augurylaw16.RetiOwn", spec := "retiOwn", unfollowed := true, recurses := true, apart := false }
def RetiOwnSaid : Prop := retiOwnRow.holds Try.pinned (OpenSpec.ofChange retiOwnSpec)

/-- ITS FALSE NEIGHBOUR: 'it returns false'. Refute it at one input. -/
def retiOwnWrong : ChangeSpec := { name := "retiOwn", fn := fun _ => fun
  | [d1, d2, d3] => { results := [.lit (.bool false)], args := [d1, d2, d3] }
  | _ => none }
def RetiOwnWrongFalsely : Prop := retiOwnRow.holds Try.pinned (OpenSpec.ofChange retiOwnWrong)

/-- 'augurylaw16.RetiTells': WHATEVER THE INPUT: true; the input reads as it did. -/
def retiTellsSpec : ChangeSpec := { name := "retiTells", fn := fun _ => fun
  | [d1, d2, d3] => { results := [.lit (.bool true)], args := [d1, d2, d3] }
  | _ => none }
def retiTellsRow : OpenClaim := { program := "ytchldbkjapnlcaa", sum := "dfee5e4a9dc50b24573db81fbc209248a2392918be0f8273a3023bc9f0e9a054", func := "augury/augurylaw16.RetiTells", spec := "retiTells", unfollowed := true, recurses := true, apart := false }
def RetiTellsSaid : Prop := retiTellsRow.holds Try.pinned (OpenSpec.ofChange retiTellsSpec)

/-- ITS FALSE NEIGHBOUR: 'it returns false'. Refute it at one input. -/
def retiTellsWrong : ChangeSpec := { name := "retiTells", fn := fun _ => fun
  | [d1, d2, d3] => { results := [.lit (.bool false)], args := [d1, d2, d3] }
  | _ => none }
def RetiTellsWrongFalsely : Prop := retiTellsRow.holds Try.pinned (OpenSpec.ofChange retiTellsWrong)

/-- 'augurylaw16.RetiSteps': WHATEVER THE INPUT: true; the input reads as it did. -/
def retiStepsSpec : ChangeSpec := { name := "retiSteps", fn := fun _ => fun
  | [d1, d2, d3] => { results := [.lit (.bool true)], args := [d1, d2, d3] }
  | _ => none }
def retiStepsRow : OpenClaim := { program := "ytchldbkjapnlcaa", sum := "dfee5e4a9dc50b24573db81fbc209248a2392918be0f8273a3023bc9f0e9a054", func := "augury/augurylaw16.RetiSteps", spec := "retiSteps", unfollowed := true, recurses := true, apart := false }
def RetiStepsSaid : Prop := retiStepsRow.holds Try.pinned (OpenSpec.ofChange retiStepsSpec)

/-- ITS FALSE NEIGHBOUR: 'it returns false'. Refute it at one input. -/
def retiStepsWrong : ChangeSpec := { name := "retiSteps", fn := fun _ => fun
  | [d1, d2, d3] => { results := [.lit (.bool false)], args := [d1, d2, d3] }
  | _ => none }
def RetiStepsWrongFalsely : Prop := retiStepsRow.holds Try.pinned (OpenSpec.ofChange retiStepsWrong)

/-- 'augurylaw14.FetcKinds': WHATEVER THE INPUT: true; the input reads as it did. -/
def fetcKindsSpec : ChangeSpec := { name := "fetcKinds", fn := fun _ => fun
  | [d1, d2] => { results := [.lit (.bool true)], args := [d1, d2] }
  | _ => none }
def fetcKindsRow : OpenClaim := { program := "ytchldbkjapnlcaa", sum := "dfee5e4a9dc50b24573db81fbc209248a2392918be0f8273a3023bc9f0e9a054", func := "augury/augurylaw14.FetcKinds", spec := "fetcKinds", apart := false }
def FetcKindsSaid : Prop := fetcKindsRow.holds Try.pinned (OpenSpec.ofChange fetcKindsSpec)

/-- ITS FALSE NEIGHBOUR: 'it returns false'. Refute it at one input. -/
def fetcKindsWrong : ChangeSpec := { name := "fetcKinds", fn := fun _ => fun
  | [d1, d2] => { results := [.lit (.bool false)], args := [d1, d2] }
  | _ => none }
def FetcKindsWrongFalsely : Prop := fetcKindsRow.holds Try.pinned (OpenSpec.ofChange fetcKindsWrong)

/-- 'augurylaw14.FetcOnly': WHATEVER THE INPUT: true; the input reads as it did. -/
def fetcOnlySpec : ChangeSpec := { name := "fetcOnly", fn := fun _ => fun
  | [d1, d2, d3] => { results := [.lit (.bool true)], args := [d1, d2, d3] }
  | _ => none }
def fetcOnlyRow : OpenClaim := { program := "ytchldbkjapnlcaa", sum := "dfee5e4a9dc50b24573db81fbc209248a2392918be0f8273a3023bc9f0e9a054", func := "augury/augurylaw14.FetcOnly", spec := "fetcOnly", unfollowed := true, recurses := true, apart := false }
def FetcOnlySaid : Prop := fetcOnlyRow.holds Try.pinned (OpenSpec.ofChange fetcOnlySpec)

/-- ITS FALSE NEIGHBOUR: 'it returns false'. Refute it at one input. -/
def fetcOnlyWrong : ChangeSpec := { name := "fetcOnly", fn := fun _ => fun
  | [d1, d2, d3] => { results := [.lit (.bool false)], args := [d1, d2, d3] }
  | _ => none }
def FetcOnlyWrongFalsely : Prop := fetcOnlyRow.holds Try.pinned (OpenSpec.ofChange fetcOnlyWrong)

/-- 'augurylaw14.FetcReturns': WHATEVER THE INPUT: true; the input reads as it did. -/
def fetcReturnsSpec : ChangeSpec := { name := "fetcReturns", fn := fun _ => fun
  | [d] => { results := [.lit (.bool true)], args := [d] }
  | _ => none }
def fetcReturnsRow : OpenClaim := { program := "ytchldbkjapnlcaa", sum := "dfee5e4a9dc50b24573db81fbc209248a2392918be0f8273a3023bc9f0e9a054", func := "augury/augurylaw14.FetcReturns", spec := "fetcReturns", apart := false }
def FetcReturnsSaid : Prop := fetcReturnsRow.holds Try.pinned (OpenSpec.ofChange fetcReturnsSpec)

/-- ITS FALSE NEIGHBOUR: 'it returns false'. Refute it at one input. -/
def fetcReturnsWrong : ChangeSpec := { name := "fetcReturns", fn := fun _ => fun
  | [d] => { results := [.lit (.bool false)], args := [d] }
  | _ => none }
def FetcReturnsWrongFalsely : Prop := fetcReturnsRow.holds Try.pinned (OpenSpec.ofChange fetcReturnsWrong)

/-- 'augurylaw14.FetcTells': WHATEVER THE INPUT: true; the input reads as it did. -/
def fetcTellsSpec : ChangeSpec := { name := "fetcTells", fn := fun _ => fun
  | [d1, d2, d3, d4] => { results := [.lit (.bool true)], args := [d1, d2, d3, d4] }
  | _ => none }
def fetcTellsRow : OpenClaim := { program := "ytchldbkjapnlcaa", sum := "dfee5e4a9dc50b24573db81fbc209248a2392918be0f8273a3023bc9f0e9a054", func := "augury/augurylaw14.FetcTells", spec := "fetcTells", unfollowed := true, recurses := true, apart := false }
def FetcTellsSaid : Prop := fetcTellsRow.holds Try.pinned (OpenSpec.ofChange fetcTellsSpec)

/-- ITS FALSE NEIGHBOUR: 'it returns false'. Refute it at one input. -/
def fetcTellsWrong : ChangeSpec := { name := "fetcTells", fn := fun _ => fun
  | [d1, d2, d3, d4] => { results := [.lit (.bool false)], args := [d1, d2, d3, d4] }
  | _ => none }
def FetcTellsWrongFalsely : Prop := fetcTellsRow.holds Try.pinned (OpenSpec.ofChange fetcTellsWrong)

/-- 'augurylaw13.ConfNone': WHATEVER THE INPUT: true; the input reads as it did. -/
def confNoneSpec : ChangeSpec := { name := "confNone", fn := fun _ => fun
  | [d] => { results := [.lit (.bool true)], args := [d] }
  | _ => none }
def confNoneRow : OpenClaim := { program := "ytchldbkjapnlcaa", sum := "dfee5e4a9dc50b24573db81fbc209248a2392918be0f8273a3023bc9f0e9a054", func := "augury/augurylaw13.ConfNone", spec := "confNone", apart := false }
def ConfNoneSaid : Prop := confNoneRow.holds Try.pinned (OpenSpec.ofChange confNoneSpec)

/-- ITS FALSE NEIGHBOUR: 'it returns false'. Refute it at one input. -/
def confNoneWrong : ChangeSpec := { name := "confNone", fn := fun _ => fun
  | [d] => { results := [.lit (.bool false)], args := [d] }
  | _ => none }
def ConfNoneWrongFalsely : Prop := confNoneRow.holds Try.pinned (OpenSpec.ofChange confNoneWrong)

/-- 'augurylaw13.ConfFinals': WHATEVER THE INPUT: true; the input reads as it did. -/
def confFinalsSpec : ChangeSpec := { name := "confFinals", fn := fun _ => fun
  | [d1, d2, d3] => { results := [.lit (.bool true)], args := [d1, d2, d3] }
  | _ => none }
def confFinalsRow : OpenClaim := { program := "ytchldbkjapnlcaa", sum := "dfee5e4a9dc50b24573db81fbc209248a2392918be0f8273a3023bc9f0e9a054", func := "augury/augurylaw13.ConfFinals", spec := "confFinals", unfollowed := true, recurses := true, apart := false }
def ConfFinalsSaid : Prop := confFinalsRow.holds Try.pinned (OpenSpec.ofChange confFinalsSpec)

/-- ITS FALSE NEIGHBOUR: 'it returns false'. Refute it at one input. -/
def confFinalsWrong : ChangeSpec := { name := "confFinals", fn := fun _ => fun
  | [d1, d2, d3] => { results := [.lit (.bool false)], args := [d1, d2, d3] }
  | _ => none }
def ConfFinalsWrongFalsely : Prop := confFinalsRow.holds Try.pinned (OpenSpec.ofChange confFinalsWrong)

/-- 'augurylaw13.ConfOwn': WHATEVER THE INPUT: true; the input reads as it did. -/
def confOwnSpec : ChangeSpec := { name := "confOwn", fn := fun _ => fun
  | [d1, d2, d3] => { results := [.lit (.bool true)], args := [d1, d2, d3] }
  | _ => none }
def confOwnRow : OpenClaim := { program := "ytchldbkjapnlcaa", sum := "dfee5e4a9dc50b24573db81fbc209248a2392918be0f8273a3023bc9f0e9a054", func := "augury/augurylaw13.ConfOwn", spec := "confOwn", unfollowed := true, recurses := true, apart := false }
def ConfOwnSaid : Prop := confOwnRow.holds Try.pinned (OpenSpec.ofChange confOwnSpec)

/-- ITS FALSE NEIGHBOUR: 'it returns false'. Refute it at one input. -/
def confOwnWrong : ChangeSpec := { name := "confOwn", fn := fun _ => fun
  | [d1, d2, d3] => { results := [.lit (.bool false)], args := [d1, d2, d3] }
  | _ => none }
def ConfOwnWrongFalsely : Prop := confOwnRow.holds Try.pinned (OpenSpec.ofChange confOwnWrong)

/-- 'augurylaw13.ConfTells': WHATEVER THE INPUT: true; the input reads as it did. -/
def confTellsSpec : ChangeSpec := { name := "confTells", fn := fun _ => fun
  | [d1, d2, d3, d4, d5, d6] => { results := [.lit (.bool true)], args := [d1, d2, d3, d4, d5, d6] }
  | _ => none }
def confTellsRow : OpenClaim := { program := "ytchldbkjapnlcaa", sum := "dfee5e4a9dc50b24573db81fbc209248a2392918be0f8273a3023bc9f0e9a054", func := "augury/augurylaw13.ConfTells", spec := "confTells", unfollowed := true, recurses := true, apart := false }
def ConfTellsSaid : Prop := confTellsRow.holds Try.pinned (OpenSpec.ofChange confTellsSpec)

/-- ITS FALSE NEIGHBOUR: 'it returns false'. Refute it at one input. -/
def confTellsWrong : ChangeSpec := { name := "confTells", fn := fun _ => fun
  | [d1, d2, d3, d4, d5, d6] => { results := [.lit (.bool false)], args := [d1, d2, d3, d4, d5, d6] }
  | _ => none }
def ConfTellsWrongFalsely : Prop := confTellsRow.holds Try.pinned (OpenSpec.ofChange confTellsWrong)

/-- 'augurylaw13.ConfUnlike': WHATEVER THE INPUT: true; the input reads as it did. -/
def confUnlikeSpec : ChangeSpec := { name := "confUnlike", fn := fun _ => fun
  | [d1, d2, d3, d4, d5, d6] => { results := [.lit (.bool true)], args := [d1, d2, d3, d4, d5, d6] }
  | _ => none }
def confUnlikeRow : OpenClaim := { program := "ytchldbkjapnlcaa", sum := "dfee5e4a9dc50b24573db81fbc209248a2392918be0f8273a3023bc9f0e9a054", func := "augury/augurylaw13.ConfUnlike", spec := "confUnlike", unfollowed := true, recurses := true, apart := false }
def ConfUnlikeSaid : Prop := confUnlikeRow.holds Try.pinned (OpenSpec.ofChange confUnlikeSpec)

/-- ITS FALSE NEIGHBOUR: 'it returns false'. Refute it at one input. -/
def confUnlikeWrong : ChangeSpec := { name := "confUnlike", fn := fun _ => fun
  | [d1, d2, d3, d4, d5, d6] => { results := [.lit (.bool false)], args := [d1, d2, d3, d4, d5, d6] }
  | _ => none }
def ConfUnlikeWrongFalsely : Prop := confUnlikeRow.holds Try.pinned (OpenSpec.ofChange confUnlikeWrong)

/- THE SECOND FORM. 'bulk': how many values and letters a reading holds, each counted each time it is reached (what is shared counts as often as it is met; a slice's spare places count too). A statement '..UptoSaid' is the law's where the arguments, and the package variables that the reading takes, are together of bulk at most 1048576: NARROWER than '..Said'. Prove '..Said' where nothing that the law and all that it calls make is longer than what came in: it says more and counts as full. Else prove '..UptoSaid'. A law counts once. -/
mutual
def uptoBulk {H : Type} : DataW H → Nat
  | .lit (.string bytes) => bytes.length + 1
  | .lit _ => 1
  | .nil => 1
  | .ptr d => uptoBulk d + 1
  | .slice elems spare => uptoBulkAll elems + uptoBulkAll spare + 1
  | .agg parts => uptoBulkAll parts + 1
  | .iface _ d => uptoBulk d + 1
  | .map entries => uptoBulkEntries entries + 1
  | .held _ => 1
def uptoBulkAll {H : Type} : List (DataW H) → Nat
  | [] => 0
  | d :: r => uptoBulk d + uptoBulkAll r
def uptoBulkEntries {H : Type} : List (Lit × DataW H) → Nat
  | [] => 0
  | x :: r => uptoBulkEntry x + uptoBulkEntries r
def uptoBulkEntry {H : Type} : Lit × DataW H → Nat
  | (.string bytes, d) => bytes.length + uptoBulk d + 1
  | (_, d) => uptoBulk d + 1
 end
def uptoSmall : (H : Type) → List (DataW H) → Bool := fun _ ds => decide (uptoBulkAll ds ≤ 1048576)
def OpenSpec.upto (s : _root_.Go.ChangeSpec) : _root_.Go.OpenSpec := { _root_.Go.OpenSpec.ofChange s with cond := some uptoSmall }

/-- 'augurylaw12.RetbTells', WHERE WHAT IT READS IS OF BULK AT MOST 1048576: true; the input reads as it did. -/
def retbTellsUptoRow : OpenClaim := { program := "ytchldbkjapnlcaa", sum := "dfee5e4a9dc50b24573db81fbc209248a2392918be0f8273a3023bc9f0e9a054", func := "augury/augurylaw12.RetbTells", spec := "retbTells", unfollowed := true, recurses := true, apart := false, narrowed := true }
def RetbTellsUptoSaid : Prop := retbTellsUptoRow.holds Try.pinned (OpenSpec.upto retbTellsSpec)

/-- 'augurylaw16.RetiWaits', WHERE WHAT IT READS IS OF BULK AT MOST 1048576: true; the input reads as it did. -/
def retiWaitsUptoRow : OpenClaim := { program := "ytchldbkjapnlcaa", sum := "dfee5e4a9dc50b24573db81fbc209248a2392918be0f8273a3023bc9f0e9a054", func := "augury/augurylaw16.RetiWaits", spec := "retiWaits", apart := false, narrowed := true }
def RetiWaitsUptoSaid : Prop := retiWaitsUptoRow.holds Try.pinned (OpenSpec.upto retiWaitsSpec)

/-- 'augurylaw16.RetiOldest', WHERE WHAT IT READS IS OF BULK AT MOST 1048576: true; the input reads as it did. -/
def retiOldestUptoRow : OpenClaim := { program := "ytchldbkjapnlcaa", sum := "dfee5e4a9dc50b24573db81fbc209248a2392918be0f8273a3023bc9f0e9a054", func := "augury/augurylaw16.RetiOldest", spec := "retiOldest", unfollowed := true, recurses := true, apart := false, narrowed := true }
def RetiOldestUptoSaid : Prop := retiOldestUptoRow.holds Try.pinned (OpenSpec.upto retiOldestSpec)

/-- 'augurylaw16.RetiOwn', WHERE WHAT IT READS IS OF BULK AT MOST 1048576: true; the input reads as it did. -/
def retiOwnUptoRow : OpenClaim := { program := "ytchldbkjapnlcaa", sum := "dfee5e4a9dc50b24573db81fbc209248a2392918be0f8273a3023bc9f0e9a054", func := "augury/augurylaw16.RetiOwn", spec := "retiOwn", unfollowed := true, recurses := true, apart := false, narrowed := true }
def RetiOwnUptoSaid : Prop := retiOwnUptoRow.holds Try.pinned (OpenSpec.upto retiOwnSpec)

/-- 'augurylaw16.RetiTells', WHERE WHAT IT READS IS OF BULK AT MOST 1048576: true; the input reads as it did. -/
def retiTellsUptoRow : OpenClaim := { program := "ytchldbkjapnlcaa", sum := "dfee5e4a9dc50b24573db81fbc209248a2392918be0f8273a3023bc9f0e9a054", func := "augury/augurylaw16.RetiTells", spec := "retiTells", unfollowed := true, recurses := true, apart := false, narrowed := true }
def RetiTellsUptoSaid : Prop := retiTellsUptoRow.holds Try.pinned (OpenSpec.upto retiTellsSpec)

/-- 'augurylaw16.RetiSteps', WHERE WHAT IT READS IS OF BULK AT MOST 1048576: true; the input reads as it did. -/
def retiStepsUptoRow : OpenClaim := { program := "ytchldbkjapnlcaa", sum := "dfee5e4a9dc50b24573db81fbc209248a2392918be0f8273a3023bc9f0e9a054", func := "augury/augurylaw16.RetiSteps", spec := "retiSteps", unfollowed := true, recurses := true, apart := false, narrowed := true }
def RetiStepsUptoSaid : Prop := retiStepsUptoRow.holds Try.pinned (OpenSpec.upto retiStepsSpec)

/-- 'augurylaw14.FetcKinds', WHERE WHAT IT READS IS OF BULK AT MOST 1048576: true; the input reads as it did. -/
def fetcKindsUptoRow : OpenClaim := { program := "ytchldbkjapnlcaa", sum := "dfee5e4a9dc50b24573db81fbc209248a2392918be0f8273a3023bc9f0e9a054", func := "augury/augurylaw14.FetcKinds", spec := "fetcKinds", apart := false, narrowed := true }
def FetcKindsUptoSaid : Prop := fetcKindsUptoRow.holds Try.pinned (OpenSpec.upto fetcKindsSpec)

/-- 'augurylaw14.FetcOnly', WHERE WHAT IT READS IS OF BULK AT MOST 1048576: true; the input reads as it did. -/
def fetcOnlyUptoRow : OpenClaim := { program := "ytchldbkjapnlcaa", sum := "dfee5e4a9dc50b24573db81fbc209248a2392918be0f8273a3023bc9f0e9a054", func := "augury/augurylaw14.FetcOnly", spec := "fetcOnly", unfollowed := true, recurses := true, apart := false, narrowed := true }
def FetcOnlyUptoSaid : Prop := fetcOnlyUptoRow.holds Try.pinned (OpenSpec.upto fetcOnlySpec)

/-- 'augurylaw14.FetcReturns', WHERE WHAT IT READS IS OF BULK AT MOST 1048576: true; the input reads as it did. -/
def fetcReturnsUptoRow : OpenClaim := { program := "ytchldbkjapnlcaa", sum := "dfee5e4a9dc50b24573db81fbc209248a2392918be0f8273a3023bc9f0e9a054", func := "augury/augurylaw14.FetcReturns", spec := "fetcReturns", apart := false, narrowed := true }
def FetcReturnsUptoSaid : Prop := fetcReturnsUptoRow.holds Try.pinned (OpenSpec.upto fetcReturnsSpec)

/-- 'augurylaw14.FetcTells', WHERE WHAT IT READS IS OF BULK AT MOST 1048576: true; the input reads as it did. -/
def fetcTellsUptoRow : OpenClaim := { program := "ytchldbkjapnlcaa", sum := "dfee5e4a9dc50b24573db81fbc209248a2392918be0f8273a3023bc9f0e9a054", func := "augury/augurylaw14.FetcTells", spec := "fetcTells", unfollowed := true, recurses := true, apart := false, narrowed := true }
def FetcTellsUptoSaid : Prop := fetcTellsUptoRow.holds Try.pinned (OpenSpec.upto fetcTellsSpec)

/-- 'augurylaw13.ConfNone', WHERE WHAT IT READS IS OF BULK AT MOST 1048576: true; the input reads as it did. -/
def confNoneUptoRow : OpenClaim := { program := "ytchldbkjapnlcaa", sum := "dfee5e4a9dc50b24573db81fbc209248a2392918be0f8273a3023bc9f0e9a054", func := "augury/augurylaw13.ConfNone", spec := "confNone", apart := false, narrowed := true }
def ConfNoneUptoSaid : Prop := confNoneUptoRow.holds Try.pinned (OpenSpec.upto confNoneSpec)

/-- 'augurylaw13.ConfFinals', WHERE WHAT IT READS IS OF BULK AT MOST 1048576: true; the input reads as it did. -/
def confFinalsUptoRow : OpenClaim := { program := "ytchldbkjapnlcaa", sum := "dfee5e4a9dc50b24573db81fbc209248a2392918be0f8273a3023bc9f0e9a054", func := "augury/augurylaw13.ConfFinals", spec := "confFinals", unfollowed := true, recurses := true, apart := false, narrowed := true }
def ConfFinalsUptoSaid : Prop := confFinalsUptoRow.holds Try.pinned (OpenSpec.upto confFinalsSpec)

/-- 'augurylaw13.ConfOwn', WHERE WHAT IT READS IS OF BULK AT MOST 1048576: true; the input reads as it did. -/
def confOwnUptoRow : OpenClaim := { program := "ytchldbkjapnlcaa", sum := "dfee5e4a9dc50b24573db81fbc209248a2392918be0f8273a3023bc9f0e9a054", func := "augury/augurylaw13.ConfOwn", spec := "confOwn", unfollowed := true, recurses := true, apart := false, narrowed := true }
def ConfOwnUptoSaid : Prop := confOwnUptoRow.holds Try.pinned (OpenSpec.upto confOwnSpec)

/-- 'augurylaw13.ConfTells', WHERE WHAT IT READS IS OF BULK AT MOST 1048576: true; the input reads as it did. -/
def confTellsUptoRow : OpenClaim := { program := "ytchldbkjapnlcaa", sum := "dfee5e4a9dc50b24573db81fbc209248a2392918be0f8273a3023bc9f0e9a054", func := "augury/augurylaw13.ConfTells", spec := "confTells", unfollowed := true, recurses := true, apart := false, narrowed := true }
def ConfTellsUptoSaid : Prop := confTellsUptoRow.holds Try.pinned (OpenSpec.upto confTellsSpec)

/-- 'augurylaw13.ConfUnlike', WHERE WHAT IT READS IS OF BULK AT MOST 1048576: true; the input reads as it did. -/
def confUnlikeUptoRow : OpenClaim := { program := "ytchldbkjapnlcaa", sum := "dfee5e4a9dc50b24573db81fbc209248a2392918be0f8273a3023bc9f0e9a054", func := "augury/augurylaw13.ConfUnlike", spec := "confUnlike", unfollowed := true, recurses := true, apart := false, narrowed := true }
def ConfUnlikeUptoSaid : Prop := confUnlikeUptoRow.holds Try.pinned (OpenSpec.upto confUnlikeSpec)

end Rows
end Go.Proofs.Ytchldbkjapnlcaa
