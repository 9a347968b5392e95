/- A set of keys in memory: its struct, the row of its keys, the map of their places. -/
import Derived.Test.YtonlefopjpdecaaCmp
import Derived.Test.YtonlefopjpdecaaRgg
import Derived.Test.YtonlefopjpdecaaOwnS
import Derived.Maps.OwnSet
import Derived.Lib.MinMax
import Derived.BigQuiet
import Derived.StillTailTactics
namespace Go.Proofs.Ytonlefopjpdecaa
open Go.RowKit Go.Maps

/-! ### Rows of strings -/
def strCs (L : List (List UInt8)) : List Value := L.map fun s => .string ⟨s.toArray⟩
theorem strCs_length (L : List (List UInt8)) : (strCs L).length = L.length := by simp [strCs]
theorem strCs_append (L M : List (List UInt8)) : strCs (L ++ M) = strCs L ++ strCs M := by simp [strCs]
theorem strCs_one_cell (L : List (List UInt8)) : ∀ u ∈ strCs L, u.oneCell' = true := by
  intro u hu
  obtain ⟨_, _, rfl⟩ := List.mem_map.1 hu
  rfl
theorem info_string : (Try.prog.info? 9).map (fun i => (i.zero, i.size, i.bytes)) = some (some (.string ⟨#[]⟩), 1, 16) := by kernel_rfl
def RdS (w : World) (A : Option Addr) (L : List (List UInt8)) : Prop := Reads w w.heap.size 1 A L.length (strCs L)
def OwnS (w : World) (B : Nat) (v : Value) (L : List (List UInt8)) : Prop := w.ownsRow B 9 1 v L.length (strCs L)
theorem RdS.past {w w' : World} {A : Option Addr} {L : List (List UInt8)} (h : RdS w A L) (hb : Below w.heap.size w w') : RdS w' A L := Reads.past h hb
theorem OwnS.nil {w : World} {B : Nat} : OwnS w B (.slice none 0 0) [] := World.ownsRow_nil _ _ _ _
theorem OwnS.past {w w' : World} {B : Nat} {v : Value} {L : List (List UInt8)} (h : OwnS w B v L) (hb : Below w.heap.size w w') : OwnS w' B v L := own_past h hb
theorem OwnS.shape {w : World} {B : Nat} {v : Value} {L : List (List UInt8)} (h : OwnS w B v L) : ∃ A c, v = .slice A L.length c ∧ L.length ≤ c ∧ RdS w A L := own_shape h
theorem RdS.at_ {w : World} {A : Option Addr} {L : List (List UInt8)} (h : RdS w A L) {i : Nat} (hi : i < L.length) : ∃ b o, A = some ⟨b, o, none⟩ ∧ b < w.heap.size ∧ w.cell? ⟨b, o + i, none⟩ = some (.string ⟨L[i].toArray⟩) := by
  obtain ⟨b, o, e, hb, hc⟩ := Reads.cells h hi
  refine ⟨b, o, e, hb, ?_⟩
  have := hc 0 (.string ⟨L[i].toArray⟩) (by omega) (by simp [strCs, hi])
  simpa using this

/-! ### The map of the places -/
theorem law_key : Keyed Try.prog 9 := string_keyed Try.underlying9
theorem zero_int (w : World) : (zeroValue 3).run Try.prog w = .ok (.int .i64 0) w := by kernel_rfl
def keyLit (s : List UInt8) : Lit := .string s
theorem keyLit_inj {s t : List UInt8} (h : keyLit s = keyLit t) : s = t := by unfold keyLit at h; injection h
theorem key_reads {s : List UInt8} (h : s.length ≤ maxLen) : keyOf Try.prog 9 (.string ⟨s.toArray⟩) = some (keyLit s) := by
  have := WideMaps.keyOf_string_mk (P := Try.prog) (k := 9) Try.underlying9 (s := ⟨s.toArray⟩) (by simpa [ByteArray.size] using h)
  exact this
/-- The place of a key, 0 if it is not there. -/
def place (L : List (List UInt8)) (s : List UInt8) : Nat := if s ∈ L then L.idxOf s else 0
theorem place_mem {L : List (List UInt8)} {s : List UInt8} (h : s ∈ L) : place L s = L.idxOf s := if_pos h
theorem place_le (L : List (List UInt8)) (s : List UInt8) : place L s ≤ L.length := by
  unfold place
  split
  · exact Nat.le_of_lt (List.idxOf_lt_length_iff.2 (by assumption))
  · omega
theorem place_snoc {L : List (List UInt8)} {s t : List UInt8} (hs : s ∉ L) : place (L ++ [s]) t = if t = s then L.length else place L t := by
  unfold place
  by_cases ht : t ∈ L
  · have hne : t ≠ s := fun e => hs (e ▸ ht)
    rw [if_pos (by simp [ht]), if_neg hne, if_pos ht, List.idxOf_append, if_pos ht]
  · by_cases e : t = s
    · subst e
      rw [if_pos (by simp), if_pos rfl, List.idxOf_append, if_neg ht]
      simp
    · rw [if_neg (by simp [ht, e]), if_neg e, if_neg ht]
def MapOf (w : World) (M : Nat) (L : List (List UInt8)) : Prop :=
  ∃ (n : Nat) (D : DataW Unit), w.ownsMap Try.prog 9 (plainElem Try.prog 3) M n D ∧ n ≤ L.length ∧
    ∀ s : List UInt8, Maps.has D (keyLit s) = decide (s ∈ L) ∧ D.atKey (keyLit s) (.lit (.int .i64 0)) = .lit (.int .i64 (place L s : Nat))
theorem MapOf.lt {w : World} {M : Nat} {L : List (List UInt8)} (h : MapOf w M L) : M < w.heap.size := by
  obtain ⟨n, D, ho, _⟩ := h
  exact ho.lt
theorem MapOf.same {w w' : World} {M : Nat} {L : List (List UInt8)} (h : MapOf w M L) (he : w'.heap[M]? = w.heap[M]?) : MapOf w' M L := by
  obtain ⟨n, D, ⟨es, clock, hb, F, hs, hD⟩, hn, hk⟩ := h
  exact ⟨n, D, ⟨es, clock, he.trans hb, F, hs, hD⟩, hn, hk⟩
theorem MapOf.made (w : World) : MapOf (w.alloc (.map #[] 0)) w.heap.size [] :=
  ⟨0, .map [], World.ownsMap_made _ _ _ _, by simp, fun s => ⟨by simp [Maps.has], by simp [place, DataW.atKey]⟩⟩
theorem MapOf.look {w : World} {M : Nat} {L : List (List UInt8)} (h : MapOf w M L) {s : List UInt8} (hs : s.length ≤ maxLen) :
    (Instr.lookup 47 (.map (some M)) (.string ⟨s.toArray⟩) true).run Try.prog w = .ok (.tuple #[.int .i64 (place L s : Nat), .bool (decide (s ∈ L))]) w := by
  obtain ⟨n, D, ho, _, hk⟩ := h
  obtain ⟨v, ps, hrun, hv⟩ := ho.look_ok law_key Try.underlying47 (zero_int w) (plainElem_int Try.underlying3 (a := 0) (by decide)) (key_reads hs)
  obtain ⟨a, rfl, he⟩ := plainElem_int_inv Try.underlying3 hv
  have e1 := congrArg Prod.fst he.1
  rw [(hk s).2] at e1
  simp only [DataW.lit.injEq, Lit.int.injEq, true_and] at e1
  rw [hrun, (hk s).1, e1]
theorem MapOf.put {w : World} {M : Nat} {L : List (List UInt8)} (h : MapOf w M L) {s : List UInt8} (hs : s.length ≤ maxLen) (hn : s ∉ L) (hL : L.length ≤ 1000000) :
    ∃ w', (Instr.mapUpdate 47 (.map (some M)) (.string ⟨s.toArray⟩) (.int .i64 (L.length : Nat))).run Try.prog w = .ok () w' ∧ MapOf w' M (L ++ [s]) ∧ w.grownBy w' (some M) := by
  obtain ⟨n, D, ho, hle, hk⟩ := h
  have hm := ho.isMap
  obtain ⟨w', hrun, ho', ht⟩ := ho.store law_key Try.underlying47 (by unfold maxLen; omega) (key_reads hs) (plainElem_int Try.underlying3 (a := (L.length : Nat)) (WalkArith.wf_i64 (by omega)))
  refine ⟨w', hrun, ⟨n + 1, _, ho', by simp; omega, fun t => ?_⟩, ht.grown⟩
  by_cases e : t = s
  · subst e
    rw [has_put_same hm (law_key.key (key_reads hs)), atKey_put_same hm (law_key.key (key_reads hs)), place_snoc hn]
    simp
  · have hne : keyLit t ≠ keyLit s := fun h => e (keyLit_inj h)
    rw [has_put_other hne, atKey_put_other hne, (hk t).1, (hk t).2, place_snoc hn, if_neg e]
    simp [e]
end Go.Proofs.Ytonlefopjpdecaa
