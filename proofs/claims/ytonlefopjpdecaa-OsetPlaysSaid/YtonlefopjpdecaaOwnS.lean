/- A place of a row of the call's own, read and stored into. -/
import Derived.Test.YtonlefopjpdecaaByt
namespace Go.Proofs.Ytonlefopjpdecaa
open Go.RowKit

theorem intCs_set (l : List Int) (k : Nat) (x : Int) : (intCs l).set k (.int .i64 x) = intCs (l.set k x) := by simp [intCs, List.map_set]
theorem OwnI.elem {w : World} {B : Nat} {A : Option Addr} {n c : Nat} {l : List Int} (h : OwnI w B (.slice A n c) l) {k : Nat} (hk : k < l.length) :
    ∃ g, A = some ⟨g, 0, none⟩ ∧ B ≤ g ∧ g < w.heap.size ∧ w.cell? ⟨g, k, none⟩ = some (.int .i64 l[k]) ∧ w.frozen? ⟨g, k, none⟩ = false := by
  have hn : n = l.length := by
    rcases h.2 with ⟨hv, h0⟩ | ⟨g, cap, cur, hv, _⟩
    · simp at hv; omega
    · simp at hv; omega
  subst hn
  obtain ⟨g, cap, hv, hb, hlt⟩ := h.form (by omega)
  simp only [Value.slice.injEq, true_and] at hv
  obtain ⟨rfl, rfl⟩ := hv
  refine ⟨g, rfl, hb, hlt, ?_, h.frozenAt k⟩
  rw [h.cellAt k (by omega)]
  simp [intCs, hk]
theorem OwnI.setAt {w : World} {B g n c : Nat} {l : List Int} (h : OwnI w B (.slice (some ⟨g, 0, none⟩) n c) l) (hn : n = l.length) (k : Nat) (x : Int) :
    OwnI (w.setCell ⟨g, k, none⟩ (.int .i64 x)) B (.slice (some ⟨g, 0, none⟩) n c) (l.set k x) := by
  subst hn
  unfold OwnI at h ⊢
  rw [List.length_set, ← intCs_set]
  exact (h.stored k _).1
theorem bytCs_set (l : List UInt8) (k : Nat) (x : UInt8) : (bytCs l).set k (.int .u8 (x : UInt8).toNat) = bytCs (l.set k x) := by simp [bytCs, List.map_set]
theorem OwnB.elem {w : World} {B : Nat} {A : Option Addr} {n c : Nat} {l : List UInt8} (h : OwnB w B (.slice A n c) l) {k : Nat} (hk : k < l.length) :
    ∃ g, A = some ⟨g, 0, none⟩ ∧ B ≤ g ∧ g < w.heap.size ∧ w.cell? ⟨g, k, none⟩ = some (.int .u8 (l[k] : UInt8).toNat) ∧ w.frozen? ⟨g, k, none⟩ = false := by
  have hn : n = l.length := by
    rcases h.2 with ⟨hv, h0⟩ | ⟨g, cap, cur, hv, _⟩
    · simp at hv; omega
    · simp at hv; omega
  subst hn
  obtain ⟨g, cap, hv, hb, hlt⟩ := h.form (by omega)
  simp only [Value.slice.injEq, true_and] at hv
  obtain ⟨rfl, rfl⟩ := hv
  refine ⟨g, rfl, hb, hlt, ?_, h.frozenAt k⟩
  rw [h.cellAt k (by omega)]
  simp [bytCs, hk]
theorem OwnB.setAt {w : World} {B g n c : Nat} {l : List UInt8} (h : OwnB w B (.slice (some ⟨g, 0, none⟩) n c) l) (hn : n = l.length) (k : Nat) (x : UInt8) :
    OwnB (w.setCell ⟨g, k, none⟩ (.int .u8 (x : UInt8).toNat)) B (.slice (some ⟨g, 0, none⟩) n c) (l.set k x) := by
  subst hn
  unfold OwnB at h ⊢
  rw [List.length_set, ← bytCs_set]
  exact (h.stored k _).1
end Go.Proofs.Ytonlefopjpdecaa
