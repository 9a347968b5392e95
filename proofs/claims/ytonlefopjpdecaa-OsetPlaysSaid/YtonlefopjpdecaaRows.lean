/-
  No cell of these rows narrows 'for every input' (looked for: loops, veiled, ifaces, maps, wideKeys, modest, calm, conditions, laid).
  DERIVED. THE GIVEN ROWS OF THIS SEAT. 4 by the template 'for every input the law returns true; each argument reads behind the call as it read before'; 0 by the template 'total and deterministic' (their statements: YtonlefopjpdecaaTotals.lean).
  GIVEN WITH THE SEED: the statements are not yours to turn. If you find one false, say at which input.
  Laid BY PROGRAM, IN A SANDBOX (cutbox-rows.mjs): the forced cells as the released guide's own fill.sh prints them over the translation ab05b9d9c06f8009… (all of the seat's roots in one cut). By AI agents, Wed Nov 11 2026. No macro, syntax, notation, axiom, sorry.
-/
import Derived.Test.YtonlefopjpdecaaChecked
import GoSem.Claim
import GoSem.ClaimJoined
import GoSem.ClaimMapViews
import Derived.JoinedTies
import Derived.KernelRfl
namespace Go.Proofs.Ytonlefopjpdecaa
/- THE CELL 'sum', in the pinned program and in every row, IS THE sha256 OF THE DUMP (.gsa) THAT YtonlefopjpdecaaProg.lean LOADS. Nothing in Lean hashes anything: it is a label: what it is worth is what the hold of that sum in a sandbox is worth. -/
noncomputable def Try.pinned : Pinned := { name := "ytonlefopjpdecaa", sum := "ab05b9d9c06f800930ae93aa645b22409a225343779a26305ad7682158101eb3", checked := Try.checked }
namespace Rows
def none {H : Type} : Left H := { results := [], args := [] }

/-- 'augurylaw3.OsetRanks': WHATEVER THE INPUT: true; the input reads as it did. -/
def osetRanksSpec : ChangeSpec := { name := "osetRanks", fn := fun _ => fun
  | [d] => { results := [.lit (.bool true)], args := [d] }
  | _ => none }
def osetRanksRow : OpenClaim := { program := "ytonlefopjpdecaa", sum := "ab05b9d9c06f800930ae93aa645b22409a225343779a26305ad7682158101eb3", func := "augury/augurylaw3.OsetRanks", spec := "osetRanks", inPlace := ["internal/bytealg.Compare"], apart := false }
def OsetRanksSaid : Prop := osetRanksRow.holds Try.pinned (OpenSpec.ofChange osetRanksSpec)

/-- ITS FALSE NEIGHBOUR: 'it returns false'. Refute it at one input. -/
def osetRanksWrong : ChangeSpec := { name := "osetRanks", fn := fun _ => fun
  | [d] => { results := [.lit (.bool false)], args := [d] }
  | _ => none }
def OsetRanksWrongFalsely : Prop := osetRanksRow.holds Try.pinned (OpenSpec.ofChange osetRanksWrong)

/-- 'augurylaw3.OsetFull': WHATEVER THE INPUT: true; the input reads as it did. -/
def osetFullSpec : ChangeSpec := { name := "osetFull", fn := fun _ => fun
  | [d1, d2] => { results := [.lit (.bool true)], args := [d1, d2] }
  | _ => none }
def osetFullRow : OpenClaim := { program := "ytonlefopjpdecaa", sum := "ab05b9d9c06f800930ae93aa645b22409a225343779a26305ad7682158101eb3", func := "augury/augurylaw3.OsetFull", spec := "osetFull", inPlace := ["internal/bytealg.Compare"], apart := false }
def OsetFullSaid : Prop := osetFullRow.holds Try.pinned (OpenSpec.ofChange osetFullSpec)

/-- ITS FALSE NEIGHBOUR: 'it returns false'. Refute it at one input. -/
def osetFullWrong : ChangeSpec := { name := "osetFull", fn := fun _ => fun
  | [d1, d2] => { results := [.lit (.bool false)], args := [d1, d2] }
  | _ => none }
def OsetFullWrongFalsely : Prop := osetFullRow.holds Try.pinned (OpenSpec.ofChange osetFullWrong)

/-- 'augurylaw3.OsetAgain': WHATEVER THE INPUT: true; the input reads as it did. -/
def osetAgainSpec : ChangeSpec := { name := "osetAgain", fn := fun _ => fun
  | [d] => { results := [.lit (.bool true)], args := [d] }
  | _ => none }
def osetAgainRow : OpenClaim := { program := "ytonlefopjpdecaa", sum := "ab05b9d9c06f800930ae93aa645b22409a225343779a26305ad7682158101eb3", func := "augury/augurylaw3.OsetAgain", spec := "osetAgain", inPlace := ["internal/bytealg.Compare"], apart := false }
def OsetAgainSaid : Prop := osetAgainRow.holds Try.pinned (OpenSpec.ofChange osetAgainSpec)

/-- ITS FALSE NEIGHBOUR: 'it returns false'. Refute it at one input. -/
def osetAgainWrong : ChangeSpec := { name := "osetAgain", fn := fun _ => fun
  | [d] => { results := [.lit (.bool false)], args := [d] }
  | _ => none }
def OsetAgainWrongFalsely : Prop := osetAgainRow.holds Try.pinned (OpenSpec.ofChange osetAgainWrong)

/-- 'augurylaw3.OsetPlays': WHATEVER THE INPUT: true; the input reads as it did. -/
def osetPlaysSpec : ChangeSpec := { name := "osetPlays", fn := fun _ => fun
  | [d1, d2, d3] => { results := [.lit (.bool true)], args := [d1, d2, d3] }
  | _ => none }
def osetPlaysRow : OpenClaim := { program := "ytonlefopjpdecaa", sum := "ab05b9d9c06f800930ae93aa645b22409a225343779a26305ad7682158101eb3", func := "augury/augurylaw3.OsetPlays", spec := "osetPlays", inPlace := ["internal/bytealg.Compare"], apart := false }
def OsetPlaysSaid : Prop := osetPlaysRow.holds Try.pinned (OpenSpec.ofChange osetPlaysSpec)

/-- ITS FALSE NEIGHBOUR: 'it returns false'. Refute it at one input. -/
def osetPlaysWrong : ChangeSpec := { name := "osetPlays", fn := fun _ => fun
  | [d1, d2, d3] => { results := [.lit (.bool false)], args := [d1, d2, d3] }
  | _ => none }
def OsetPlaysWrongFalsely : Prop := osetPlaysRow.holds Try.pinned (OpenSpec.ofChange osetPlaysWrong)

/- THE SECOND FORM. 'bulk': how many values and letters a reading holds, each counted each time it is reached (what is shared counts as often as it is met; a slice's spare places count too). A statement '..UptoSaid' is the law's where the arguments, and the package variables that the reading takes, are together of bulk at most 1048576: NARROWER than '..Said'. Prove '..Said' where nothing that the law and all that it calls make is longer than what came in: it says more and counts as full. Else prove '..UptoSaid'. A law counts once. -/
mutual
def uptoBulk {H : Type} : DataW H → Nat
  | .lit (.string bytes) => bytes.length + 1
  | .lit _ => 1
  | .nil => 1
  | .ptr d => uptoBulk d + 1
  | .slice elems spare => uptoBulkAll elems + uptoBulkAll spare + 1
  | .agg parts => uptoBulkAll parts + 1
  | .iface _ d => uptoBulk d + 1
  | .map entries => uptoBulkEntries entries + 1
  | .held _ => 1
def uptoBulkAll {H : Type} : List (DataW H) → Nat
  | [] => 0
  | d :: r => uptoBulk d + uptoBulkAll r
def uptoBulkEntries {H : Type} : List (Lit × DataW H) → Nat
  | [] => 0
  | x :: r => uptoBulkEntry x + uptoBulkEntries r
def uptoBulkEntry {H : Type} : Lit × DataW H → Nat
  | (.string bytes, d) => bytes.length + uptoBulk d + 1
  | (_, d) => uptoBulk d + 1
 end
def uptoSmall : (H : Type) → List (DataW H) → Bool := fun _ ds => decide (uptoBulkAll ds ≤ 1048576)
def OpenSpec.upto (s : _root_.Go.ChangeSpec) : _root_.Go.OpenSpec := { _root_.Go.OpenSpec.ofChange s with cond := some uptoSmall }

/-- 'augurylaw3.OsetRanks', WHERE WHAT IT READS IS OF BULK AT MOST 1048576: true; the input reads as it did. -/
def osetRanksUptoRow : OpenClaim := { program := "ytonlefopjpdecaa", sum := "ab05b9d9c06f800930ae93aa645b22409a225343779a26305ad7682158101eb3", func := "augury/augurylaw3.OsetRanks", spec := "osetRanks", inPlace := ["internal/bytealg.Compare"], apart := false, narrowed := true }
def OsetRanksUptoSaid : Prop := osetRanksUptoRow.holds Try.pinned (OpenSpec.upto osetRanksSpec)

/-- 'augurylaw3.OsetFull', WHERE WHAT IT READS IS OF BULK AT MOST 1048576: true; the input reads as it did. -/
def osetFullUptoRow : OpenClaim := { program := "ytonlefopjpdecaa", sum := "ab05b9d9c06f800930ae93aa645b22409a225343779a26305ad7682158101eb3", func := "augury/augurylaw3.OsetFull", spec := "osetFull", inPlace := ["internal/bytealg.Compare"], apart := false, narrowed := true }
def OsetFullUptoSaid : Prop := osetFullUptoRow.holds Try.pinned (OpenSpec.upto osetFullSpec)

/-- 'augurylaw3.OsetAgain', WHERE WHAT IT READS IS OF BULK AT MOST 1048576: true; the input reads as it did. -/
def osetAgainUptoRow : OpenClaim := { program := "ytonlefopjpdecaa", sum := "ab05b9d9c06f800930ae93aa645b22409a225343779a26305ad7682158101eb3", func := "augury/augurylaw3.OsetAgain", spec := "osetAgain", inPlace := ["internal/bytealg.Compare"], apart := false, narrowed := true }
def OsetAgainUptoSaid : Prop := osetAgainUptoRow.holds Try.pinned (OpenSpec.upto osetAgainSpec)

/-- 'augurylaw3.OsetPlays', WHERE WHAT IT READS IS OF BULK AT MOST 1048576: true; the input reads as it did. -/
def osetPlaysUptoRow : OpenClaim := { program := "ytonlefopjpdecaa", sum := "ab05b9d9c06f800930ae93aa645b22409a225343779a26305ad7682158101eb3", func := "augury/augurylaw3.OsetPlays", spec := "osetPlays", inPlace := ["internal/bytealg.Compare"], apart := false, narrowed := true }
def OsetPlaysUptoSaid : Prop := osetPlaysUptoRow.holds Try.pinned (OpenSpec.upto osetPlaysSpec)

end Rows
end Go.Proofs.Ytonlefopjpdecaa
