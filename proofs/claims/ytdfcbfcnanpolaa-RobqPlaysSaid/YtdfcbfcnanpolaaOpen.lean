/- Arguments opened: a slice of entries, of numbers, an entry by value, as lists. -/
import Derived.Test.YtdfcbfcnanpolaaPush
import Derived.Lib.SmallJoins
import Derived.Deep.Slices
import Derived.Deep.Fields
import Derived.ChangeSame
import Derived.OpenShut
namespace Go.Proofs.Ytdfcbfcnanpolaa
open Go.RowKit Go.Joins Go.ChangeShapes Go.WideShapes Go.Deep

section
variable {H : Type} {enc : TypeId × Value → H} {P : Program} {w : World} {base : Nat} {spare : Nat → Bool} {held : Bool}
theorem open_slice_fields {t e : TypeId} {fs : Array Field} {fuel : Nat} {cs : List Value} {x : DataW H × List MemPlace} (ht : P.underlying t = some (.slice e)) (he : P.underlying e = some (.struct fs))
    (hone : oneCellFields P fs = true) (hC : P.cellsOf e = fs.size) (h : DataW.trod enc P w base spare held fuel t cs = some x) :
    (cs = [.slice none 0 0] ∧ x = (.nil, [])) ∨
    ∃ (a : Addr) (len cap m : Nat) (D : Nat → DataW H) (Pl : Nat → List MemPlace), cs = [.slice (some a) len cap] ∧ base ≤ a.block ∧ len ≤ cap ∧ cap ≤ maxLen ∧ m = (if spare a.block then cap else len) ∧
      x = (.slice ((List.range len).map D) ((List.range (m - len)).map fun j => D (len + j)), MemPlace.row a (m * fs.size) ++ (List.range m).flatMap Pl) ∧
      ∀ i, i < m → ∃ (ys : List (DataW H × List MemPlace)) (n : Nat), D i = .agg (ys.map (·.1)) ∧ Pl i = ys.flatMap (·.2) ∧ ys.length = fs.size ∧
        ∀ (j : Nat) (f : Field), fs[j]? = some f → ∃ (v : Value) (y : DataW H × List MemPlace), w.cell? (a.add (i * fs.size + j)) = some v ∧ ys[j]? = some y ∧ DataW.trod enc P w base spare held n f.type [v] = some y := by
  rcases open_slice ht h with h0 | ⟨a, len, cap, m, n, D, Pl, hcs, hb, hl, hm, hmm, hx, hi⟩
  · exact .inl h0
  · refine .inr ⟨a, len, cap, m, D, Pl, hcs, hb, hl, hm, hmm, by rw [hC] at hx; exact hx, fun i him => ?_⟩
    obtain ⟨cs', hc, ht'⟩ := hi i him
    rw [hC] at hc
    obtain ⟨ys, n', hn', hy, hlen, hyl, hf⟩ := DataW.trod_struct he ht'
    obtain ⟨_, hcl, hat⟩ := World.cells?_some hc
    simp only [Prod.mk.injEq] at hy
    refine ⟨ys, n', hy.1, hy.2, hyl, fun j f hj => ?_⟩
    obtain ⟨ho, hk⟩ := hone_of hone j f hj
    have hjl : j < fs.size := (Array.getElem?_eq_some_iff.1 hj).1
    have hcell := hat j hjl
    have hv : cs'[j]? = some (cs'[j]'(by omega)) := List.getElem?_eq_getElem (by omega)
    have h1 := hf j f hj
    rw [ho, hk] at h1
    have hone' : (cs'.drop j).take 1 = [cs'[j]'(by omega)] := by
      rw [List.drop_eq_getElem_cons (by omega)]
      rfl
    rw [hone'] at h1
    have hys : ys[j]? = some (ys[j]'(by omega)) := List.getElem?_eq_getElem (by omega)
    refine ⟨_, _, ?_, hys, h1.trans hys⟩
    rw [← Go.Deep.add_add, hcell, hv]
end

theorem add_spot {w : World} {a : Addr} {j : Nat} {v : Value} (h : w.cell? (a.add j) = some v) (h0 : a.spot = none) : w.cell? ⟨a.block, a.off + j, none⟩ = some v := by
  obtain ⟨b, o, s⟩ := a
  cases h0
  rwa [Addr.add_lit] at h
theorem spot_none {w : World} {a : Addr} {v : Value} (h : w.cell? a = some v) : a.spot = none := by
  unfold World.cell? at h
  split at h
  · split at h
    · cases h
    · rename_i hs
      simpa using hs
  · cases h

/-- Every number of an entry is an int64. -/
def Ent.ok (e : Ent) : Prop := (-9223372036854775808 ≤ e.pc ∧ e.pc ≤ 9223372036854775807) ∧ (-9223372036854775808 ≤ e.val ∧ e.val ≤ 9223372036854775807) ∧ (-9223372036854775808 ≤ e.addr ∧ e.addr ≤ 9223372036854775807) ∧
  (-9223372036854775808 ≤ e.frm ∧ e.frm ≤ 9223372036854775807) ∧ (-9223372036854775808 ≤ e.next ∧ e.next ≤ 9223372036854775807)

theorem list_of {α : Type} (p : Nat → α → Prop) : ∀ n : Nat, (∀ i, i < n → ∃ x, p i x) → ∃ l : List α, l.length = n ∧ ∀ i x, l[i]? = some x → p i x
  | 0, _ => ⟨[], rfl, fun i x h => by simp at h⟩
  | n + 1, h => by
    obtain ⟨l, hl, hp⟩ := list_of p n (fun i hi => h i (by omega))
    obtain ⟨x, hx⟩ := h n (by omega)
    refine ⟨l ++ [x], by simp [hl], fun i y hy => ?_⟩
    by_cases hi : i < n
    · exact hp i y (by rwa [List.getElem?_append_left (by omega)] at hy)
    · have : i = n := by
        have := (List.getElem?_eq_some_iff.1 hy).1
        simp [hl] at this
        omega
      subst this
      rw [List.getElem?_append_right (by omega), hl, Nat.sub_self] at hy
      simp at hy
      subst hy
      exact hx

section
variable {H : Type} {enc : TypeId × Value → H} {W : World} {t : TypeId} {v : Value} {d : DataW H} {ps : List MemPlace}
/-- A slice of numbers that comes in. -/
theorem open_nums {base : Nat} (hv : Value.okWide Try.prog W .any base 22 v) (h : DataW.Trod enc Try.prog W 0 (fun _ => true) true 22 v d ps) :
    ∃ (A : Option Addr) (c : Nat) (l : List Int), v = .slice A l.length c ∧ l.length ≤ c ∧ c ≤ maxLen ∧ RdI W A l ∧ ∀ n ∈ l, -9223372036854775808 ≤ n ∧ n ≤ 9223372036854775807 := by
  obtain ⟨a0, len, cap, rfl⟩ := okWide_slice Try.underlying22 hv
  obtain ⟨fuel, hf⟩ := h
  rcases open_ints Try.underlying22 Try.underlying3 (by kernel_rfl) hf with ⟨hcs, _⟩ | ⟨a, n, c, zs, hcs, _, hl, hm, hz, _, hcell, hwz⟩
  · simp [Value.cells] at hcs
    obtain ⟨rfl, rfl, rfl⟩ := hcs
    exact ⟨none, 0, [], rfl, by simp, by simp, Reads.none_, by simp⟩
  · simp [Value.cells] at hcs
    obtain ⟨rfl, rfl, rfl⟩ := hcs
    simp only [if_true] at hz
    have hlen : (zs.take len).length = len := by rw [List.length_take]; omega
    have hc : ∀ i, i < len → W.cell? (a.add i) = some (.int .i64 (zs.getD i 0)) := fun i hi => hcell i (by omega)
    refine ⟨some a, cap, zs.take len, by rw [hlen], by omega, hm, ⟨by simp [intCs], fun hn => ?_⟩, fun n hn => bounds_i64 (hwz n (List.mem_of_mem_take hn))⟩
    rw [hlen] at hn
    have h0 := hc 0 hn
    have hs : a.spot = none := spot_none (by simpa [Addr.add] using h0)
    refine ⟨a, rfl, hs, block_lt_of_cell (by simpa [Addr.add] using h0), fun j u hu => ?_⟩
    have hj : j < len := by
      have := (List.getElem?_eq_some_iff.1 hu).1
      rw [intCs_length, hlen] at this
      exact this
    have h1 := add_spot (hc j hj) hs
    rw [h1]
    simp only [intCs, List.getElem?_map, List.getElem?_take, hj, if_true] at hu
    rw [← hu]
    simp [List.getD, show j < zs.length by omega]
/-- A slice of entries that comes in. -/
theorem open_ents {base : Nat} (hv : Value.okWide Try.prog W .any base 23 v) (h : DataW.Trod enc Try.prog W 0 (fun _ => true) true 23 v d ps) :
    ∃ (A : Option Addr) (c : Nat) (l : List Ent), v = .slice A l.length c ∧ l.length ≤ c ∧ c ≤ maxLen ∧ RdE W A l ∧ ∀ e ∈ l, e.ok := by
  obtain ⟨a0, len, cap, rfl⟩ := okWide_slice Try.underlying23 hv
  obtain ⟨fuel, hf⟩ := h
  rcases open_slice_fields Try.underlying23 Try.underlying27 (by kernel_rfl) (by kernel_rfl) hf with ⟨hcs, _⟩ | ⟨a, n, c, m, D, Pl, hcs, _, hl, hm, hmm, _, hi⟩
  · simp [Value.cells] at hcs
    obtain ⟨rfl, rfl, rfl⟩ := hcs
    exact ⟨none, 0, [], rfl, by simp, by simp, Reads.none_, by simp⟩
  · simp [Value.cells] at hcs
    obtain ⟨rfl, rfl, rfl⟩ := hcs
    simp only [if_true] at hmm
    have one : ∀ i, i < len → ∃ e : Ent, e.ok ∧ ∀ j u, j < 8 → e.cs[j]? = some u → W.cell? (a.add (i * 8 + j)) = some u := by
      intro i hil
      obtain ⟨ys, k, _, _, _, hf⟩ := hi i (by omega)
      obtain ⟨v0, y0, c0, _, t0⟩ := hf 0 _ rfl
      obtain ⟨v1, y1, c1, _, t1⟩ := hf 1 _ rfl
      obtain ⟨v2, y2, c2, _, t2⟩ := hf 2 _ rfl
      obtain ⟨v3, y3, c3, _, t3⟩ := hf 3 _ rfl
      obtain ⟨v4, y4, c4, _, t4⟩ := hf 4 _ rfl
      obtain ⟨v5, y5, c5, _, t5⟩ := hf 5 _ rfl
      obtain ⟨v6, y6, c6, _, t6⟩ := hf 6 _ rfl
      obtain ⟨v7, y7, c7, _, t7⟩ := hf 7 _ rfl
      obtain ⟨n0, e0, _, w0⟩ := DataW.trod_int Try.underlying3 t0
      obtain ⟨n1, e1, _, w1⟩ := DataW.trod_int Try.underlying3 t1
      obtain ⟨n2, e2, _, w2⟩ := DataW.trod_int Try.underlying3 t2
      obtain ⟨n3, e3, _, w3⟩ := DataW.trod_int Try.underlying3 t3
      obtain ⟨n4, e4, _, w4⟩ := DataW.trod_int Try.underlying3 t4
      obtain ⟨b5, e5, _⟩ := DataW.trod_bool Try.underlying4 t5
      obtain ⟨b6, e6, _⟩ := DataW.trod_bool Try.underlying4 t6
      obtain ⟨b7, e7, _⟩ := DataW.trod_bool Try.underlying4 t7
      simp only [List.cons.injEq, and_true] at e0 e1 e2 e3 e4 e5 e6 e7
      subst e0 e1 e2 e3 e4 e5 e6 e7
      refine ⟨⟨n0, n1, n2, n3, n4, b5, b6, b7⟩, ⟨bounds_i64 w0, bounds_i64 w1, bounds_i64 w2, bounds_i64 w3, bounds_i64 w4⟩, fun j u hj hu => ?_⟩
      match j, hj with
      | 0, _ => simp [Ent.cs] at hu; subst hu; exact c0
      | 1, _ => simp [Ent.cs] at hu; subst hu; exact c1
      | 2, _ => simp [Ent.cs] at hu; subst hu; exact c2
      | 3, _ => simp [Ent.cs] at hu; subst hu; exact c3
      | 4, _ => simp [Ent.cs] at hu; subst hu; exact c4
      | 5, _ => simp [Ent.cs] at hu; subst hu; exact c5
      | 6, _ => simp [Ent.cs] at hu; subst hu; exact c6
      | 7, _ => simp [Ent.cs] at hu; subst hu; exact c7
    obtain ⟨l, hlen, hp⟩ := list_of (fun i (e : Ent) => e.ok ∧ ∀ j u, j < 8 → e.cs[j]? = some u → W.cell? (a.add (i * 8 + j)) = some u) len one
    subst hlen
    refine ⟨some a, cap, l, rfl, hl, hm, ⟨entCs_length l, fun hn => ?_⟩, fun e he => ?_⟩
    · have h0 := (hp 0 l[0] (List.getElem?_eq_getElem hn)).2 0 _ (by omega) rfl
      have hs : a.spot = none := spot_none (by simpa [Addr.add] using h0)
      refine ⟨a, rfl, hs, block_lt_of_cell (by simpa [Addr.add] using h0), fun j u hu => ?_⟩
      have hj : j < l.length * 8 := by
        have := (List.getElem?_eq_some_iff.1 hu).1
        rwa [entCs_length] at this
      have hi : j / 8 < l.length := by omega
      have h1 := (hp (j / 8) l[j / 8] (List.getElem?_eq_getElem hi)).2 (j % 8) u (by omega) (by rw [← entCs_get l (j / 8) hi (j % 8) (by omega), show j / 8 * 8 + j % 8 = j by omega]; exact hu)
      rw [show j / 8 * 8 + j % 8 = j by omega] at h1
      exact add_spot h1 hs
    · obtain ⟨i, hi⟩ := List.getElem?_of_mem he
      exact (hp i e hi).1
/-- An entry that comes in by value. -/
theorem open_ent {base : Nat} (hv : Value.okWide Try.prog W .any base 27 v) (h : DataW.Trod enc Try.prog W 0 (fun _ => true) true 27 v d ps) : ∃ e : Ent, v = e.v ∧ e.ok := by
  obtain ⟨cs, rfl, hsz⟩ := okWide_struct Try.underlying27 hv
  obtain ⟨l⟩ := cs
  have hC : Try.prog.cellsOf 27 = 8 := by kernel_rfl
  have hfo : Try.prog.fieldsOf 27 = Try.prog.fieldsOf 27 := rfl
  conv at hfo => lhs; unfold Program.fieldsOf; rw [Try.underlying27]
  have hone : oneCellFields Try.prog (Try.prog.fieldsOf 27) = true := by kernel_rfl
  rw [← hfo] at hone
  match l, hsz.trans hC with
  | [c0, c1, c2, c3, c4, c5, c6, c7], _ =>
    obtain ⟨fuel, hf⟩ := h
    obtain ⟨xs, n, _, _, _, hlen, hg⟩ := DataW.trod_struct Try.underlying27 hf
    match xs, hlen with
    | [y0, y1, y2, y3, y4, y5, y6, y7], _ =>
      have one := fun (j : Nat) f (hj : _) => hone_of hone j f hj
      have g := fun (j : Nat) (f : Field) hj => by have := hg j f hj; rw [(one j f hj).1, (one j f hj).2] at this; exact this
      obtain ⟨n0, e0, _, w0⟩ := DataW.trod_int Try.underlying3 (g 0 _ rfl)
      obtain ⟨n1, e1, _, w1⟩ := DataW.trod_int Try.underlying3 (g 1 _ rfl)
      obtain ⟨n2, e2, _, w2⟩ := DataW.trod_int Try.underlying3 (g 2 _ rfl)
      obtain ⟨n3, e3, _, w3⟩ := DataW.trod_int Try.underlying3 (g 3 _ rfl)
      obtain ⟨n4, e4, _, w4⟩ := DataW.trod_int Try.underlying3 (g 4 _ rfl)
      obtain ⟨b5, e5, _⟩ := DataW.trod_bool Try.underlying4 (g 5 _ rfl)
      obtain ⟨b6, e6, _⟩ := DataW.trod_bool Try.underlying4 (g 6 _ rfl)
      obtain ⟨b7, e7, _⟩ := DataW.trod_bool Try.underlying4 (g 7 _ rfl)
      simp [Value.cells] at e0 e1 e2 e3 e4 e5 e6 e7
      subst e0 e1 e2 e3 e4 e5 e6 e7
      exact ⟨⟨n0, n1, n2, n3, n4, b5, b6, b7⟩, rfl, ⟨bounds_i64 w0, bounds_i64 w1, bounds_i64 w2, bounds_i64 w3, bounds_i64 w4⟩⟩
end
end Go.Proofs.Ytdfcbfcnanpolaa
