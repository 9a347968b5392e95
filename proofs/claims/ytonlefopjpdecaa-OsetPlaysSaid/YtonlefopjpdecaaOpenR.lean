/- An argument opened: a slice of rows of bytes, as a list of lists. -/
import Derived.Test.YtonlefopjpdecaaOpenB
import Derived.Deep.Matrix
namespace Go.Proofs.Ytonlefopjpdecaa
open Go.RowKit Go.Joins Go.ChangeShapes Go.WideShapes Go.Deep

/-- A slice of rows of bytes. -/
def RdR (w : World) (A : Option Addr) (L : List (List UInt8)) : Prop :=
  ∀ (r : Nat) (hr : r < L.length), ∃ b o A1 c1, A = some ⟨b, o, none⟩ ∧ b < w.heap.size ∧ w.cell? ⟨b, o + r, none⟩ = some (.slice A1 L[r].length c1) ∧ L[r].length ≤ c1 ∧ c1 ≤ maxLen ∧ RdB w A1 L[r]
theorem RdR.past {w w' : World} {A : Option Addr} {L : List (List UInt8)} (h : RdR w A L) (hb : Below w.heap.size w w') : RdR w' A L := fun r hr => by
  obtain ⟨b, o, A1, c1, e, hl, hc, h1, h2, h3⟩ := h r hr
  exact ⟨b, o, A1, c1, e, Nat.lt_of_lt_of_le hl hb.size, (hb.cell (p := ⟨b, o + r, none⟩) hl).trans hc, h1, h2, h3.past hb⟩
theorem list_of {α : Type} (p : Nat → α → Prop) : ∀ n : Nat, (∀ i, i < n → ∃ x, p i x) → ∃ l : List α, l.length = n ∧ ∀ i x, l[i]? = some x → p i x
  | 0, _ => ⟨[], rfl, fun i x h => by simp at h⟩
  | n + 1, h => by
    obtain ⟨l, hl, hp⟩ := list_of p n (fun i hi => h i (by omega))
    obtain ⟨x, hx⟩ := h n (by omega)
    refine ⟨l ++ [x], by simp [hl], fun i y hy => ?_⟩
    by_cases hi : i < n
    · exact hp i y (by rwa [List.getElem?_append_left (by omega)] at hy)
    · have : i = n := by
        have := (List.getElem?_eq_some_iff.1 hy).1
        simp [hl] at this
        omega
      subst this
      rw [List.getElem?_append_right (by omega), hl, Nat.sub_self] at hy
      simp at hy
      subst hy
      exact hx

section
variable {H : Type} {enc : TypeId × Value → H} {W : World} {t : TypeId} {v : Value} {d : DataW H} {ps : List MemPlace}
theorem open_rows {base : Nat} (hv : Value.okWide Try.prog W .any base 22 v) (h : DataW.Trod enc Try.prog W 0 (fun _ => true) true 22 v d ps) :
    ∃ (A : Option Addr) (c : Nat) (L : List (List UInt8)), v = .slice A L.length c ∧ L.length ≤ c ∧ c ≤ maxLen ∧ RdR W A L := by
  obtain ⟨a0, len, cap, rfl⟩ := okWide_slice Try.underlying22 hv
  obtain ⟨fuel, hf⟩ := h
  rcases open_int_rows Try.underlying22 Try.underlying25 Try.underlying5 (by kernel_rfl) (by kernel_rfl) hf with ⟨hcs, _⟩ | ⟨a, n, c, A, L, C, Z, hcs, _, hl, hm, _, hr⟩
  · simp [Value.cells] at hcs
    obtain ⟨rfl, rfl, rfl⟩ := hcs
    exact ⟨none, 0, [], rfl, by simp, by simp, fun r hr => by simp at hr⟩
  · simp [Value.cells] at hcs
    obtain ⟨rfl, rfl, rfl⟩ := hcs
    have one : ∀ i, i < len → ∃ s : List UInt8, ∃ A1 c1, W.cell? (a.add i) = some (.slice A1 s.length c1) ∧ s.length ≤ c1 ∧ c1 ≤ maxLen ∧ RdB W A1 s := by
      intro i hi
      obtain ⟨h1, h2, h3, h4, h5, h6, h7⟩ := hr i (by omega)
      have hlen : (((Z i).take (L i)).map fun z => UInt8.ofNat z.toNat).length = L i := by rw [List.length_map, List.length_take]; omega
      refine ⟨((Z i).take (L i)).map fun z => UInt8.ofNat z.toNat, A i, C i, by rw [hlen]; exact h1, by omega, h3, by simp [bytCs], fun hn => ?_⟩
      rw [hlen] at hn
      cases hA : A i with
      | none => have := h6 hA; omega
      | some a' =>
        obtain ⟨_, hc⟩ := h7 a' hA
        have hz : ∀ j, j < L i → W.cell? (a'.add j) = some (.int .u8 ((Z i).getD j 0)) := fun j hj => hc j (by omega)
        have h0 := hz 0 hn
        have hs : a'.spot = none := spot_none (by simpa [Addr.add] using h0)
        refine ⟨a', rfl, hs, block_lt_of_cell (by simpa [Addr.add] using h0), fun j u hu => ?_⟩
        have hj : j < L i := by
          have := (List.getElem?_eq_some_iff.1 hu).1
          rw [bytCs_length, hlen] at this
          exact this
        have h1' := add_spot (hz j hj) hs
        rw [h1']
        have hjz : j < (Z i).length := by omega
        have hb := bounds_u8 (h5 (Z i)[j] (List.getElem_mem hjz))
        simp only [bytCs, List.getElem?_map, List.getElem?_take, hj, if_true, List.getElem?_eq_getElem hjz, Option.map_some, Option.some.injEq] at hu
        rw [← hu]
        have : (UInt8.ofNat (Z i)[j].toNat).toNat = (Z i)[j].toNat := by rw [UInt8.toNat_ofNat']; omega
        rw [this]
        simp [List.getD, hjz]
        omega
    obtain ⟨l, hlen, hp⟩ := list_of (fun i (s : List UInt8) => ∃ A1 c1, W.cell? (a.add i) = some (.slice A1 s.length c1) ∧ s.length ≤ c1 ∧ c1 ≤ maxLen ∧ RdB W A1 s) len one
    subst hlen
    refine ⟨some a, cap, l, rfl, hl, hm, fun r hr => ?_⟩
    obtain ⟨A1, c1, h1, h2, h3, h4⟩ := hp r l[r] (List.getElem?_eq_getElem hr)
    have hr0 : 0 < l.length := by omega
    obtain ⟨A0, c0, h0, _⟩ := hp 0 l[0] (List.getElem?_eq_getElem hr0)
    have hs' : a.spot = none := spot_none (by simpa [Addr.add] using h0)
    obtain ⟨b, o, s⟩ := a
    cases hs'
    rw [Addr.add_lit] at h1
    exact ⟨b, o, A1, c1, rfl, block_lt_of_cell h1, h1, h2, h3, h4⟩
end
end Go.Proofs.Ytonlefopjpdecaa
