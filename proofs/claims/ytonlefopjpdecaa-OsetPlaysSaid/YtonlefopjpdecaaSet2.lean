/- Two sets side by side; rows of keys put one by one. -/
import Derived.Test.YtonlefopjpdecaaAwa3
namespace Go.Proofs.Ytonlefopjpdecaa
open Go.RowKit Go.Maps

/-- A key put. -/
def addKey (L : List (List UInt8)) (s : List UInt8) : List (List UInt8) := if s ∈ L then L else L ++ [s]
def addAll (L : List (List UInt8)) (xs : List (List UInt8)) : List (List UInt8) := xs.foldl addKey L
theorem addKey_in {L : List (List UInt8)} {s : List UInt8} (h : s ∈ L) : addKey L s = L := if_pos h
theorem addKey_new {L : List (List UInt8)} {s : List UInt8} (h : s ∉ L) : addKey L s = L ++ [s] := if_neg h
theorem mem_addKey {L : List (List UInt8)} {s t : List UInt8} : t ∈ addKey L s ↔ t ∈ L ∨ t = s := by
  by_cases h : s ∈ L
  · rw [addKey_in h]
    exact ⟨.inl, fun h' => by rcases h' with h' | rfl <;> assumption⟩
  · rw [addKey_new h]
    simp
theorem mem_addAll {t : List UInt8} : ∀ {xs L : List (List UInt8)}, t ∈ addAll L xs ↔ t ∈ L ∨ t ∈ xs
  | [], L => by simp [addAll]
  | x :: xs, L => by
    have : addAll L (x :: xs) = addAll (addKey L x) xs := rfl
    rw [this, mem_addAll, mem_addKey, List.mem_cons]
    exact or_assoc
theorem nodup_addKey {L : List (List UInt8)} {s : List UInt8} (h : L.Nodup) : (addKey L s).Nodup := by
  by_cases hs : s ∈ L
  · rwa [addKey_in hs]
  · rw [addKey_new hs, List.nodup_append]
    exact ⟨h, by simp, fun a ha b hb => by rw [List.mem_singleton.1 hb]; exact fun e => hs (e ▸ ha)⟩
theorem nodup_addAll : ∀ {xs L : List (List UInt8)}, L.Nodup → (addAll L xs).Nodup
  | [], _, h => h
  | x :: xs, _, h => nodup_addAll (xs := xs) (nodup_addKey (s := x) h)
theorem length_addKey (L : List (List UInt8)) (s : List UInt8) : (addKey L s).length ≤ L.length + 1 := by unfold addKey; split <;> simp
theorem length_addAll : ∀ (xs L : List (List UInt8)), (addAll L xs).length ≤ L.length + xs.length
  | [], L => by simp [addAll]
  | x :: xs, L => by
    have h1 := length_addAll xs (addKey L x)
    have h2 := length_addKey L x
    have : addAll L (x :: xs) = addAll (addKey L x) xs := rfl
    rw [this, List.length_cons]
    omega
theorem addAll_snoc (L xs : List (List UInt8)) (x : List UInt8) : addAll L (xs ++ [x]) = addKey (addAll L xs) x := by simp [addAll]
theorem addAll_take_succ {xs : List (List UInt8)} {i : Nat} (h : i < xs.length) : addAll [] (xs.take (i + 1)) = addKey (addAll [] (xs.take i)) xs[i] := by rw [List.take_succ_eq_append_getElem h, addAll_snoc]
/-- The same keys put in another order: as many, and as many of each sort. -/
theorem addAll_perm {xs ys : List (List UInt8)} (h : ∀ t, t ∈ xs ↔ t ∈ ys) : (addAll [] xs).Perm (addAll [] ys) :=
  (List.perm_ext_iff_of_nodup (nodup_addAll List.nodup_nil) (nodup_addAll List.nodup_nil)).2 fun t => by rw [mem_addAll, mem_addAll]; simpa using h t
theorem rank_perm {L M : List (List UInt8)} (h : L.Perm M) (s : List UInt8) : rankOf L s = rankOf M s := h.countP_eq _
theorem place_get {L : List (List UInt8)} {s : List UInt8} (h : s ∈ L) : ∃ hp : place L s < L.length, L[place L s] = s := by
  have hp : place L s < L.length := by rw [place_mem h]; exact List.idxOf_lt_length_iff.2 h
  refine ⟨hp, ?_⟩
  have : L[L.idxOf s]'(List.idxOf_lt_length_iff.2 h) = s := List.getElem_idxOf _
  simpa only [place_mem h] using this

section
variable {w w' : World} {B S M S' M' : Nat} {v v' : Value} {most most' : Nat} {L L' : List (List UInt8)}
theorem SetAt.neM2 (h : SetAt w B S M v most L) (h' : SetAt w B S' M' v' most' L') : S ≠ M' := by
  intro e
  obtain ⟨es, clock, hb⟩ := h'.map.block
  have := h.hS
  rw [e, hb] at this
  simp at this
theorem SetAt.ownM2 (h : SetAt w B S M v most L) (h' : SetAt w B S' M' v' most' L') : v.ownBlock ≠ some M' := by
  intro e
  obtain ⟨es, clock, hb⟩ := h'.map.block
  rcases h.row.2 with ⟨hv, _⟩ | ⟨g, cap, cur, hv, _, hg, _⟩
  · rw [hv] at e; simp [Value.ownBlock] at e
  · rw [hv] at e
    simp [Value.ownBlock] at e
    rw [e, hb] at hg
    simp at hg
theorem SetAt.ownS2 (h : SetAt w B S M v most L) (h' : SetAt w B S' M' v' most' L') : v.ownBlock ≠ some S' := by
  intro e
  rcases h.row.2 with ⟨hv, _⟩ | ⟨g, cap, cur, hv, _, hg, _⟩
  · rw [hv] at e; simp [Value.ownBlock] at e
  · rw [hv] at e
    simp [Value.ownBlock] at e
    rw [e, h'.hS] at hg
    simp at hg
/-- One set stays where another one turns. -/
theorem SetAt.beside (h : SetAt w B S M v most L) (h' : SetAt w B S' M' v' most' L') (t : Touch w w' S M v) (hS : S' ≠ S) (hM : M' ≠ M) (hv : ∀ g, v'.ownBlock = some g → v.ownBlock ≠ some g) : SetAt w' B S' M' v' most' L' := by
  refine ⟨h'.bS, h'.bM, (t.block S' h'.lt hS (h'.neM2 h) (Ne.symm (h.ownS2 h'))).trans h'.hS, ?_, h'.map.same (t.block M' h'.map.lt (Ne.symm (h.neM2 h')) hM (Ne.symm (h.ownM2 h'))), h'.nd, h'.le, h'.big⟩
  refine ⟨h'.row.1, ?_⟩
  rcases h'.row.2 with hn | ⟨g, cap, cur, e, hB, hg, rest⟩
  · exact .inl hn
  · have hlt : g < w.heap.size := (Array.getElem?_eq_some_iff.1 hg).1
    have ho : v'.ownBlock = some g := by rw [e]; rfl
    exact .inr ⟨g, cap, cur, e, hB, (t.block g hlt (fun x => h'.ownS2 h (by rw [ho, x])) (fun x => h'.ownM2 h (by rw [ho, x])) (Ne.symm (hv g ho))).trans hg, rest⟩
theorem touch_drewN (w : World) (k S M : Nat) (v : Value) : Touch w (w.drewN k) S M v := ⟨rfl, rfl, rfl, Nat.le_refl _, fun _ _ _ _ _ => rfl⟩
theorem touch_below {w'' : World} (hb : Below w.heap.size w w') (t : Touch w' w'' S M v) : Touch w w'' S M v :=
  ⟨t.os.trans hb.os, t.tape.trans hb.tape, t.output.trans hb.output, Nat.le_trans hb.size t.size, fun k hk h1 h2 h3 => (t.block k (Nat.lt_of_lt_of_le hk hb.size) h1 h2 h3).trans (hb.block k hk)⟩
end
/-- A key put where there is room: it is there behind. -/
theorem add_any {w : World} {B S M : Nat} {v : Value} {most : Nat} {L : List (List UInt8)} (h : SetAt w B S M v most L) (A : Option Addr) (n c : Nat) (s : List UInt8) (hl : s.length = n) (hr : RdB w A s) (hs : s.length ≤ maxLen) (hroom : L.length < most) :
    Calls Try.prog 9 #[.pointer (some ⟨S, 0, none⟩), .slice A n c] w fun en w' => ∃ (p : Nat) (fr : Bool) (v' : Value), en = .returned (.tuple #[.int .i64 (p : Nat), .bool fr, .bool true]) ∧ SetAt w' B S M v' most (addKey L s) ∧ Touch w w' S M v ∧ (v'.ownBlock = v.ownBlock ∨ ∃ g, v'.ownBlock = some g ∧ w.heap.size ≤ g) ∧
      (s ∈ L → p = place L s ∧ fr = false) ∧ (s ∉ L → p = L.length ∧ fr = true) := by
  by_cases hin : s ∈ L
  · refine (add_there h A n c s hl hr hs hin).mono ?_
    rintro en w' ⟨rfl, k, rfl⟩
    exact ⟨_, _, v, rfl, by rw [addKey_in hin]; exact h.drewN k, touch_drewN w k S M v, .inl rfl, fun _ => ⟨rfl, rfl⟩, fun hn => absurd hin hn⟩
  · refine (add_new h A n c s hl hr hs hin hroom).mono ?_
    rintro en w' ⟨rfl, v', h', t, ho⟩
    exact ⟨_, _, v', rfl, by rw [addKey_new hin]; exact h', t, ho, fun hn => absurd hn hin, fun _ => ⟨rfl, rfl⟩⟩
end Go.Proofs.Ytonlefopjpdecaa
