/- The code's set and the document's side by side: a key put into each. -/
import Derived.Test.YtonlefopjpdecaaRefa
namespace Go.Proofs.Ytonlefopjpdecaa
open Go.RowKit Go.Maps

/-- A key put where there may be room. -/
def putKey (L : List (List UInt8)) (most : Nat) (s : List UInt8) : List (List UInt8) := if s ∈ L then L else if L.length < most then L ++ [s] else L
def putAt (L : List (List UInt8)) (most : Nat) (s : List UInt8) : Nat := if s ∈ L then place L s else if L.length < most then L.length else 0
def putNew (L : List (List UInt8)) (most : Nat) (s : List UInt8) : Bool := decide (s ∉ L ∧ L.length < most)
def putOk (L : List (List UInt8)) (most : Nat) (s : List UInt8) : Bool := decide (s ∈ L ∨ L.length < most)
theorem putKey_short {L : List (List UInt8)} {most : Nat} {s : List UInt8} (h : ∀ x ∈ L, x.length ≤ 100) (hs : s.length ≤ 100) : ∀ x ∈ putKey L most s, x.length ≤ 100 := by
  intro x hx
  unfold putKey at hx
  split at hx
  · exact h x hx
  · split at hx
    · rcases List.mem_append.1 hx with hx | hx
      · exact h x hx
      · rw [List.mem_singleton.1 hx]; exact hs
    · exact h x hx
theorem add_gen {w : World} {B S M : Nat} {v : Value} {most : Nat} {L : List (List UInt8)} (h : SetAt w B S M v most L) (A : Option Addr) (n c : Nat) (s : List UInt8) (hl : s.length = n) (hr : RdB w A s) (hs : s.length ≤ maxLen) :
    Calls Try.prog 9 #[.pointer (some ⟨S, 0, none⟩), .slice A n c] w fun en w' => en = .returned (.tuple #[.int .i64 (putAt L most s : Nat), .bool (putNew L most s), .bool (putOk L most s)]) ∧ ∃ v', SetAt w' B S M v' most (putKey L most s) ∧ Touch w w' S M v ∧ (v'.ownBlock = v.ownBlock ∨ ∃ g, v'.ownBlock = some g ∧ w.heap.size ≤ g) := by
  by_cases hin : s ∈ L
  · refine (add_there h A n c s hl hr hs hin).mono ?_
    rintro en w' ⟨rfl, k, rfl⟩
    refine ⟨by simp [putAt, putNew, putOk, hin], v, by rw [putKey, if_pos hin]; exact h.drewN k, touch_drewN w k S M v, .inl rfl⟩
  · by_cases hroom : L.length < most
    · refine (add_new h A n c s hl hr hs hin hroom).mono ?_
      rintro en w' ⟨rfl, v', h', t, ho⟩
      exact ⟨by simp [putAt, putNew, putOk, hin, hroom], v', by rw [putKey, if_neg hin, if_pos hroom]; exact h', t, ho⟩
    · refine (add_full h A n c s hl hr hs hin (by omega)).mono ?_
      rintro en w' ⟨rfl, k, rfl⟩
      refine ⟨by simp [putAt, putNew, putOk, hin, hroom], v, by rw [putKey, if_neg hin, if_neg hroom]; exact h.drewN k, touch_drewN w k S M v, .inl rfl⟩
theorem radd_gen {w : World} {B T : Nat} {vL vP : Value} {most : Nat} {L : List (List UInt8)} {P : List Nat} (h : RefAt w B T vL vP most L P) (A : Option Addr) (n c : Nat) (s : List UInt8) (hl : s.length = n) (hr : Reads w B 1 A s.length (bytCs s)) (hB : B ≤ w.heap.size) :
    Calls Try.prog 18 #[.pointer (some ⟨T, 0, none⟩), .slice A n c] w fun en w' => en = .returned (.tuple #[.int .i64 (putAt L most s : Nat), .bool (putNew L most s), .bool (putOk L most s)]) ∧ ∃ vL' vP' P', RefAt w' B T vL' vP' most (putKey L most s) P' ∧ TouchR w w' T vL vP ∧
      (vL'.ownBlock = vL.ownBlock ∨ ∃ g, vL'.ownBlock = some g ∧ w.heap.size ≤ g) := by
  have hrd : RdB w A s := Reads.more hr hB
  by_cases hin : s ∈ L
  · refine (radd_there h A n c s hl hrd hin).mono ?_
    rintro en w' ⟨rfl, hb⟩
    exact ⟨by simp [putAt, putNew, putOk, hin], vL, vP, P, by rw [putKey, if_pos hin]; exact h.past hb, TouchR.of_below hb, .inl rfl⟩
  · by_cases hroom : L.length < most
    · refine (radd_new h A n c s hl hr hB hin hroom).mono ?_
      rintro en w' ⟨rfl, vL', vP', h', t, ho, _⟩
      exact ⟨by simp [putAt, putNew, putOk, hin, hroom], vL', vP', _, by rw [putKey, if_neg hin, if_pos hroom]; exact h', t, ho⟩
    · refine (radd_full h A n c s hl hrd hin (by omega)).mono ?_
      rintro en w' ⟨rfl, hb⟩
      exact ⟨by simp [putAt, putNew, putOk, hin, hroom], vL, vP, P, by rw [putKey, if_neg hin, if_neg hroom]; exact h.past hb, TouchR.of_below hb, .inl rfl⟩

section
variable {w w' : World} {B S M T : Nat} {v vL vP : Value} {most most' : Nat} {L L' : List (List UInt8)} {P : List Nat}
theorem own_cells {w : World} {base : Nat} {e : TypeId} {size : Nat} {v : Value} {n : Nat} {xs : List Value} (h : w.ownsRow base e size v n xs) {g : Nat} (hv : v.ownBlock = some g) : ∃ cur, w.heap[g]? = some (.cells cur e (0, 0)) := by
  rcases h.2 with ⟨e', _⟩ | ⟨g', cap, cur, e', _, hg, _⟩
  · rw [e'] at hv; simp [Value.ownBlock] at hv
  · rw [e'] at hv
    simp [Value.ownBlock] at hv
    rw [← hv]
    exact ⟨cur, hg⟩
theorem own_moves {w w' : World} {base : Nat} {e : TypeId} {size : Nat} {v : Value} {n : Nat} {xs : List Value} (h : w.ownsRow base e size v n xs) (hk : ∀ g, v.ownBlock = some g → w'.heap[g]? = w.heap[g]?) : w'.ownsRow base e size v n xs := by
  refine ⟨h.1, ?_⟩
  rcases h.2 with hn | ⟨g, cap, cur, e', hB, hg, rest⟩
  · exact .inl hn
  · exact .inr ⟨g, cap, cur, e', hB, (hk g (by rw [e']; rfl)).trans hg, rest⟩
/-- The document's set stays where a key is put into the code's. -/
theorem RefAt.beside (hs : SetAt w B S M v most L) (h : RefAt w B T vL vP most' L' P) (t : Touch w w' S M v) (hd : ∀ g, v.ownBlock = some g → vL.ownBlock ≠ some g) : RefAt w' B T vL vP most' L' P := by
  obtain ⟨es, clock, hm⟩ := hs.map.block
  have hST : T ≠ S := fun e => by have := h.hT; rw [e, hs.hS] at this; simp at this
  have hMT : T ≠ M := fun e => by have := h.hT; rw [e, hm] at this; simp at this
  have hvT : some T ≠ v.ownBlock := fun e => by obtain ⟨cur, hc⟩ := own_cells hs.row e.symm; have := h.hT; rw [hc] at this; simp at this
  refine ⟨h.bT, (t.block T h.lt hST hMT hvT).trans h.hT, own_moves h.keys fun g hg => ?_, own_moves h.ranks fun g hg => ?_, h.ranked, h.nd, h.le, h.big⟩
  · obtain ⟨cur, hc⟩ := own_cells h.keys hg
    exact t.block g (Array.getElem?_eq_some_iff.1 hc).1 (fun e => by rw [e, hs.hS] at hc; simp at hc) (fun e => by rw [e, hm] at hc; simp at hc) (fun e => hd g e.symm hg)
  · obtain ⟨cur, hc⟩ := own_cells h.ranks hg
    refine t.block g (Array.getElem?_eq_some_iff.1 hc).1 (fun e => by rw [e, hs.hS] at hc; simp at hc) (fun e => by rw [e, hm] at hc; simp at hc) (fun e => ?_)
    obtain ⟨cur', hc'⟩ := own_cells hs.row e.symm
    rw [hc] at hc'
    simp at hc'
/-- The code's set stays where a key is put into the document's. -/
theorem SetAt.besideR (h : RefAt w B T vL vP most' L' P) (hs : SetAt w B S M v most L) (t : TouchR w w' T vL vP) (hd : ∀ g, v.ownBlock = some g → vL.ownBlock ≠ some g) : SetAt w' B S M v most L := by
  obtain ⟨es, clock, hm⟩ := hs.map.block
  have hST : S ≠ T := fun e => by have := h.hT; rw [← e, hs.hS] at this; simp at this
  have hMT : M ≠ T := fun e => by have := h.hT; rw [← e, hm] at this; simp at this
  refine ⟨hs.bS, hs.bM, (t.block S hs.lt hST (fun e => ?_) (fun e => ?_)).trans hs.hS, own_moves hs.row fun g hg => ?_, hs.map.same (t.block M hs.map.lt hMT (fun e => ?_) (fun e => ?_)), hs.nd, hs.le, hs.big⟩
  · obtain ⟨cur, hc⟩ := own_cells h.keys e.symm; rw [hs.hS] at hc; simp at hc
  · obtain ⟨cur, hc⟩ := own_cells h.ranks e.symm; rw [hs.hS] at hc; simp at hc
  · obtain ⟨cur, hc⟩ := own_cells hs.row hg
    refine t.block g (Array.getElem?_eq_some_iff.1 hc).1 (fun e => by rw [e, h.hT] at hc; simp at hc) (fun e => hd g hg e.symm) (fun e => ?_)
    obtain ⟨cur', hc'⟩ := own_cells h.ranks e.symm
    rw [hc] at hc'
    simp at hc'
  · obtain ⟨cur, hc⟩ := own_cells h.keys e.symm; rw [hm] at hc; simp at hc
  · obtain ⟨cur, hc⟩ := own_cells h.ranks e.symm; rw [hm] at hc; simp at hc
end
end Go.Proofs.Ytonlefopjpdecaa
