/- Rows of bytes of the call's own: one is turned. -/
import Derived.Test.YtchldbkjapnlcaaJh
set_option linter.unusedVariables false
set_option linter.unusedSimpArgs false
namespace Go.Proofs.Ytchldbkjapnlcaa
open Go.RowKit

theorem OwnB.elS {w : World} {B : Nat} {A : Option Addr} {n c : Nat} {l : List UInt8} (h : OwnB w B (.slice A n c) l) {k : Nat} (hk : k < l.length) (v : UInt8) :
    ∃ g, A = some ⟨g, 0, none⟩ ∧ B ≤ g ∧ w.cell? ⟨g, k, none⟩ = some (.int .u8 l[k].toNat) ∧ w.frozen? ⟨g, k, none⟩ = false ∧ OwnB (w.setCell ⟨g, k, none⟩ (.int .u8 v.toNat)) B (.slice A n c) (l.set k v) := by
  obtain ⟨g, cap, hv, hb, hlt⟩ := World.ownsRow.form h (by omega)
  injection hv with e1 e2 e3
  subst e1 e2 e3
  refine ⟨g, rfl, hb, ?_, World.ownsRow.frozenAt h k, ?_⟩
  · rw [World.ownsRow.cellAt h k (by omega)]
    simp [bytCs, hk]
  · have := (World.ownsRow.stored h k (.int .u8 v.toNat)).1
    unfold OwnB
    rw [List.length_set]
    simpa [bytCs, List.map_set] using this
theorem own_set_byte {w : World} {B g n c : Nat} {l : List UInt8} (h : OwnB w B (.slice (some ⟨g, 0, none⟩) n c) l) (k : Nat) (hk : k < l.length) (v : UInt8) : OwnB (w.setCell ⟨g, k, none⟩ (.int .u8 v.toNat)) B (.slice (some ⟨g, 0, none⟩) n c) (l.set k v) := by
  obtain ⟨g', e, _, _, _, h⟩ := OwnB.elS h hk v
  injection e with e
  injection e with e _ _
  subst e
  exact h
end Go.Proofs.Ytchldbkjapnlcaa
