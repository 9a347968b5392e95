/- FetcReturns: the machines that it comes to. -/
import Derived.Test.YtchldbkjapnlcaaJn
import Derived.Test.YtchldbkjapnlcaaJd
set_option linter.unusedVariables false
set_option linter.unusedSimpArgs false
section
namespace Go.Proofs.Ytchldbkjapnlcaa
open Go.RowKit

def callK (i : Nat) : Inst := ⟨8, 0, 0, false, 0, false, 0, ⟨#[]⟩, (i : Int) + 1⟩
def retK : Inst := ⟨9, 0, 0, false, 0, false, 0, ⟨#[]⟩, 0⟩
def callsK (n : Nat) : List Inst := (List.range n).map callK
theorem callsK_succ (n : Nat) : callsK (n + 1) = callsK n ++ [callK n] := by simp [callsK, List.range_succ]
theorem callsK_length (n : Nat) : (callsK n).length = n := by simp [callsK]
def ilR (n : Nat) : List Inst := callsK n ++ [retK]
theorem ilR_length (n : Nat) : (ilR n).length = n + 1 := by simp [ilR, callsK_length]
def mR : Nat → Conf
 | 0 => ⟨⟨0, 0, 0, 0, [], [], 0⟩, [], [], 0⟩
 | k + 1 => fetchOf (ilR 4) (mR k) 0
def mRz (k : Nat) : Conf := { mR k with rsb := [] }
theorem four {n : Nat} (h1 : 1 ≤ n) (h4 : n ≤ 4) : n = 1 ∨ n = 2 ∨ n = 3 ∨ n = 4 := by omega
theorem stepR (n k : Nat) (h1 : 1 ≤ n) (h4 : n ≤ 4) (hk : k < n) : fetchQ 6 (ilR n) (mR k) 0 = some (mR (k + 1)) := by
 rcases four h1 h4 with rfl | rfl | rfl | rfl
 ·rcases (by omega : k = 0) with rfl; decide
 ·rcases (by omega : k = 0 ∨ k = 1) with rfl | rfl <;> decide
 ·rcases (by omega : k = 0 ∨ k = 1 ∨ k = 2) with rfl | rfl | rfl <;> decide
 ·rcases (by omega : k = 0 ∨ k = 1 ∨ k = 2 ∨ k = 3) with rfl | rfl | rfl | rfl <;> decide
/-- What is told of a machine on the way. -/
structure FactR (k : Nat) : Prop where
 b : (mR k).buf.length = k
 q : ((mR k).rsb.length : Int) = min (k : Int) 2
 m : (mR k).st.mem.length ≤ 1000
 s : (mR k).st.stack.length ≤ 1000
 p : (mR k).st.pc = k
 f : (mR k).fin = 0
 e : 0 < k → ∃ e : Ent, (mR k).buf[k - 1]? = some e ∧ e.done = true ∧ e.fault = false
theorem factR (k : Nat) (h : k ≤ 4) : FactR k := by
 rcases (by omega : k = 0 ∨ k = 1 ∨ k = 2 ∨ k = 3 ∨ k = 4) with rfl | rfl | rfl | rfl | rfl
 ·exact ⟨by decide, by decide, by decide, by decide, by decide, by decide, fun h => by omega⟩
 all_goals exact ⟨by decide, by decide, by decide, by decide, by decide, by decide, fun _ => ⟨_, rfl, by decide, by decide⟩⟩
structure EndR (n : Nat) : Prop where
 q : ∃ d : Conf, fetchQ 6 (ilR n) (mR n) 0 = some d ∧ d.st.pc = n ∧ (d.rsb.length : Int) = min (n : Int) 2 - 1
 g : guessesOf 6 (ilR n) (mR n) = 1
 z : guessesOf 6 (ilR n) (mRz n) = n + 2
theorem endR (n : Nat) (h1 : 1 ≤ n) (h4 : n ≤ 4) : EndR n := by
 rcases four h1 h4 with rfl | rfl | rfl | rfl
 ·exact ⟨⟨(fetchQ 6 (ilR 1) (mR 1) 0).getD Conf.zero, by decide, by decide, by decide⟩, by decide, by decide⟩
 ·exact ⟨⟨(fetchQ 6 (ilR 2) (mR 2) 0).getD Conf.zero, by decide, by decide, by decide⟩, by decide, by decide⟩
 ·exact ⟨⟨(fetchQ 6 (ilR 3) (mR 3) 0).getD Conf.zero, by decide, by decide, by decide⟩, by decide, by decide⟩
 ·exact ⟨⟨(fetchQ 6 (ilR 4) (mR 4) 0).getD Conf.zero, by decide, by decide, by decide⟩, by decide, by decide⟩
end Go.Proofs.Ytchldbkjapnlcaa
end
