/- Arguments opened: a slice of numbers, of bytes, as lists. -/
import Derived.Test.YtonlefopjpdecaaByt
import Derived.Lib.SmallJoins
import Derived.Deep.Slices
import Derived.Deep.Fields
import Derived.ChangeSame
import Derived.OpenShut
namespace Go.Proofs.Ytonlefopjpdecaa
open Go.RowKit Go.Joins Go.ChangeShapes Go.WideShapes Go.Deep

theorem add_spot {w : World} {a : Addr} {j : Nat} {v : Value} (h : w.cell? (a.add j) = some v) (h0 : a.spot = none) : w.cell? ⟨a.block, a.off + j, none⟩ = some v := by
  obtain ⟨b, o, s⟩ := a
  cases h0
  rwa [Addr.add_lit] at h
theorem spot_none {w : World} {a : Addr} {v : Value} (h : w.cell? a = some v) : a.spot = none := by
  unfold World.cell? at h
  split at h
  · split at h
    · cases h
    · rename_i hs
      simpa using hs
  · cases h

section
variable {H : Type} {enc : TypeId × Value → H} {W : World} {t : TypeId} {v : Value} {d : DataW H} {ps : List MemPlace}
/-- A slice of numbers that comes in. -/
theorem open_nums {base : Nat} (hv : Value.okWide Try.prog W .any base 38 v) (h : DataW.Trod enc Try.prog W 0 (fun _ => true) true 38 v d ps) :
    ∃ (A : Option Addr) (c : Nat) (l : List Int), v = .slice A l.length c ∧ l.length ≤ c ∧ c ≤ maxLen ∧ RdI W A l ∧ ∀ n ∈ l, -9223372036854775808 ≤ n ∧ n ≤ 9223372036854775807 := by
  obtain ⟨a0, len, cap, rfl⟩ := okWide_slice Try.underlying38 hv
  obtain ⟨fuel, hf⟩ := h
  rcases open_ints Try.underlying38 Try.underlying3 (by kernel_rfl) hf with ⟨hcs, _⟩ | ⟨a, n, c, zs, hcs, _, hl, hm, hz, _, hcell, hwz⟩
  · simp [Value.cells] at hcs
    obtain ⟨rfl, rfl, rfl⟩ := hcs
    exact ⟨none, 0, [], rfl, by simp, by simp, Reads.none_, by simp⟩
  · simp [Value.cells] at hcs
    obtain ⟨rfl, rfl, rfl⟩ := hcs
    simp only [if_true] at hz
    have hlen : (zs.take len).length = len := by rw [List.length_take]; omega
    have hc : ∀ i, i < len → W.cell? (a.add i) = some (.int .i64 (zs.getD i 0)) := fun i hi => hcell i (by omega)
    refine ⟨some a, cap, zs.take len, by rw [hlen], by omega, hm, ⟨by simp [intCs], fun hn => ?_⟩, fun n hn => bounds_i64 (hwz n (List.mem_of_mem_take hn))⟩
    rw [hlen] at hn
    have h0 := hc 0 hn
    have hs : a.spot = none := spot_none (by simpa [Addr.add] using h0)
    refine ⟨a, rfl, hs, block_lt_of_cell (by simpa [Addr.add] using h0), fun j u hu => ?_⟩
    have hj : j < len := by
      have := (List.getElem?_eq_some_iff.1 hu).1
      rw [intCs_length, hlen] at this
      exact this
    have h1 := add_spot (hc j hj) hs
    rw [h1]
    simp only [intCs, List.getElem?_map, List.getElem?_take, hj, if_true] at hu
    rw [← hu]
    simp [List.getD, show j < zs.length by omega]
/-- A slice of bytes that comes in. -/
theorem open_bytes {base : Nat} (hv : Value.okWide Try.prog W .any base 25 v) (h : DataW.Trod enc Try.prog W 0 (fun _ => true) true 25 v d ps) :
    ∃ (A : Option Addr) (c : Nat) (l : List UInt8), v = .slice A l.length c ∧ l.length ≤ c ∧ c ≤ maxLen ∧ RdB W A l := by
  obtain ⟨a0, len, cap, rfl⟩ := okWide_slice Try.underlying25 hv
  obtain ⟨fuel, hf⟩ := h
  rcases open_ints Try.underlying25 Try.underlying5 (by kernel_rfl) hf with ⟨hcs, _⟩ | ⟨a, n, c, zs, hcs, _, hl, hm, hz, _, hcell, hwz⟩
  · simp [Value.cells] at hcs
    obtain ⟨rfl, rfl, rfl⟩ := hcs
    exact ⟨none, 0, [], rfl, by simp, by simp, Reads.none_⟩
  · simp [Value.cells] at hcs
    obtain ⟨rfl, rfl, rfl⟩ := hcs
    simp only [if_true] at hz
    have hlen : ((zs.take len).map fun z => UInt8.ofNat z.toNat).length = len := by rw [List.length_map, List.length_take]; omega
    have hc : ∀ i, i < len → W.cell? (a.add i) = some (.int .u8 (zs.getD i 0)) := fun i hi => hcell i (by omega)
    refine ⟨some a, cap, (zs.take len).map fun z => UInt8.ofNat z.toNat, by rw [hlen], by omega, hm, ⟨by simp [bytCs], fun hn => ?_⟩⟩
    rw [hlen] at hn
    have h0 := hc 0 hn
    have hs : a.spot = none := spot_none (by simpa [Addr.add] using h0)
    refine ⟨a, rfl, hs, block_lt_of_cell (by simpa [Addr.add] using h0), fun j u hu => ?_⟩
    have hj : j < len := by
      have := (List.getElem?_eq_some_iff.1 hu).1
      rw [bytCs_length, hlen] at this
      exact this
    have h1 := add_spot (hc j hj) hs
    rw [h1]
    have hjz : j < zs.length := by omega
    have hb := bounds_u8 (hwz zs[j] (List.getElem_mem hjz))
    simp only [bytCs, List.getElem?_map, List.getElem?_take, hj, if_true, List.getElem?_eq_getElem hjz, Option.map_some, Option.some.injEq] at hu
    rw [← hu]
    have : (UInt8.ofNat zs[j].toNat).toNat = zs[j].toNat := by rw [UInt8.toNat_ofNat']; omega
    rw [this]
    simp [List.getD, hjz]
    omega
end
end Go.Proofs.Ytonlefopjpdecaa
