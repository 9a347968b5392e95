/- What comes in as a slice of bytes (seat F: the rest lies in Open). -/
import Derived.Test.YtchldbkjapnlcaaJb
import Derived.Test.YtchldbkjapnlcaaJh
set_option linter.unusedVariables false
set_option linter.unusedSimpArgs false
namespace Go.Proofs.Ytchldbkjapnlcaa
open Go.RowKit Go.Joins Go.ChangeShapes Go.WideShapes Go.Deep
section
variable {H : Type} {enc : TypeId × Value → H} {W : World} {t : TypeId} {v : Value} {d : DataW H} {ps : List MemPlace}
theorem bytCsl13 (l : List UInt8) : (bytCs l).length = l.length := by simp [bytCs]

set_option maxRecDepth 100000 in
theorem open_bytes {base : Nat} (hv : Value.okWide Try.prog W .any base 66 v) (h : DataW.Trod enc Try.prog W 0 (fun _ => true) true 66 v d ps) :
    ∃ (A : Option Addr) (c : Nat) (l : List UInt8), v = .slice A l.length c ∧ l.length ≤ c ∧ c ≤ maxLen ∧ RdB W A l := by
  obtain ⟨a0, len, cap, rfl⟩ := okWide_slice Try.underlying66 hv
  obtain ⟨fuel, hf⟩ := h
  rcases open_ints Try.underlying66 Try.underlying5 (by kernel_rfl) hf with ⟨hcs, _⟩ | ⟨a, n, c, zs, hcs, _, hl, hm, hz, _, hcell, hwz⟩
  · simp [Value.cells] at hcs
    obtain ⟨rfl, rfl, rfl⟩ := hcs
    exact ⟨none, 0, [], rfl, by simp, by simp, Reads.none_⟩
  · simp [Value.cells] at hcs
    obtain ⟨rfl, rfl, rfl⟩ := hcs
    simp only [if_true] at hz
    have hlen : ((zs.take len).map fun z => UInt8.ofNat z.toNat).length = len := by rw [List.length_map, List.length_take]; omega
    have hc : ∀ i, i < len → W.cell? (a.add i) = some (.int .u8 (zs.getD i 0)) := fun i hi => hcell i (by omega)
    refine ⟨some a, cap, (zs.take len).map fun z => UInt8.ofNat z.toNat, by rw [hlen], by omega, hm, ⟨by simp [bytCs], fun hn => ?_⟩⟩
    rw [hlen] at hn
    have h0 := hc 0 hn
    have hs : a.spot = none := spot_none (by simpa [Addr.add] using h0)
    refine ⟨a, rfl, hs, block_lt_of_cell (by simpa [Addr.add] using h0), fun j u hu => ?_⟩
    have hj : j < len := by
      have := (List.getElem?_eq_some_iff.1 hu).1
      rw [bytCsl13, hlen] at this
      exact this
    have h1 := add_spot (hc j hj) hs
    rw [h1]
    have hjz : j < zs.length := by omega
    have hb := bounds_u8 (hwz zs[j] (List.getElem_mem hjz))
    simp only [bytCs, List.getElem?_map, List.getElem?_take, hj, if_true, List.getElem?_eq_getElem hjz, Option.map_some, Option.some.injEq] at hu
    rw [← hu]
    have : (UInt8.ofNat zs[j].toNat).toNat = zs[j].toNat := by rw [UInt8.toNat_ofNat']; omega
    rw [this]
    simp [List.getD, hjz]
    omega
end
end Go.Proofs.Ytchldbkjapnlcaa
