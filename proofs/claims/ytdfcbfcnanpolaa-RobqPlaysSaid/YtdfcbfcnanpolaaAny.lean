/- Push, Pop, Put of any row: both answers in one sentence. -/
import Derived.Test.YtdfcbfcnanpolaaQuiet
namespace Go.Proofs.Ytdfcbfcnanpolaa
open Go.RowKit

/-- A row and a Bool are answered. -/
structure RowAnd (l : List Ent) (b : Bool) (w : World) (en : Ending) (w' : World) : Prop where
  out : ∃ A c, en = .returned (.tuple #[.slice A l.length c, .bool b]) ∧ l.length ≤ c ∧ RdE w' A l ∧ Below w.heap.size w w'
theorem RowAnd.of_own {l : List Ent} {w w' : World} {v : Value} (h : OwnE w' w.heap.size v l) (hb : Below w.heap.size w w') : RowAnd l true w (.returned (.tuple #[v, .bool true])) w' := by
  obtain ⟨A, c, rfl, hc, hr⟩ := h.shape
  exact ⟨⟨A, c, rfl, hc, hr, hb⟩⟩
theorem RowAnd.of_nil {w w' : World} (hb : Below w.heap.size w w') : RowAnd [] false w (.returned (.tuple #[.slice none 0 0, .bool false])) w' := ⟨⟨none, 0, rfl, by simp, Reads.none_, hb⟩⟩
def pushed (l : List Ent) (e : Ent) (most : Int) : List Ent := if (l.length : Int) < most then l ++ [e] else []
def putted (l : List Ent) (i : Int) (e : Ent) : List Ent := if 0 ≤ i ∧ i < l.length then l.set i.toNat e else []
theorem push_any (A : Option Addr) (n c : Nat) (l : List Ent) (e : Ent) (most : Int) (w : World) (hl : l.length = n) (hr : RdE w A l) (hn : n < 1000000) :
    Calls Try.prog 13 #[.slice A n c, e.v, .int .i64 most] w (RowAnd (pushed l e most) (decide ((n : Int) < most)) w) := by
  subst hl
  unfold pushed
  by_cases h : (l.length : Int) < most
  · rw [if_pos h, decide_eq_true h]
    refine (push_yes A c l e most w h hr hn).mono ?_
    rintro en w1 ⟨v, rfl, ho, hb⟩
    exact RowAnd.of_own ho hb
  · rw [if_neg h, decide_eq_false h]
    refine (push_no A c l e most w (by omega)).mono ?_
    rintro en w1 ⟨rfl, hb⟩
    exact RowAnd.of_nil hb
theorem put_any (A : Option Addr) (n c : Nat) (l : List Ent) (i : Int) (e : Ent) (w : World) (hl : l.length = n) (hr : RdE w A l) (hn : n < 1000000) :
    Calls Try.prog 17 #[.slice A n c, .int .i64 i, e.v] w (RowAnd (putted l i e) (decide (0 ≤ i ∧ i < (n : Int))) w) := by
  subst hl
  unfold putted
  by_cases h : 0 ≤ i ∧ i < (l.length : Int)
  · rw [if_pos h, decide_eq_true h]
    obtain ⟨k, rfl⟩ := Int.eq_ofNat_of_zero_le h.1
    rw [Int.toNat_natCast]
    refine (put_yes A c l k e w hr (by omega) (by omega)).mono ?_
    rintro en w1 ⟨v, rfl, ho, hb⟩
    exact RowAnd.of_own ho hb
  · rw [if_neg h, decide_eq_false h]
    refine (put_no A c l i e w (by omega)).mono ?_
    rintro en w1 ⟨rfl, hb⟩
    exact RowAnd.of_nil hb
def headOf (l : List Ent) : Ent := l.head?.getD Ent.zero
theorem pop_any (A : Option Addr) (n c : Nat) (l : List Ent) (w : World) (hl : l.length = n) (hr : RdE w A l) (hc : n ≤ c) (hn : n < 1000000) (hs : Small l) :
    Calls Try.prog 14 #[.slice A n c] w fun en w' => ∃ A' c', en = .returned (.tuple #[(headOf l).v, .slice A' (popEnts l).length c', .bool (decide (0 < n))]) ∧ (popEnts l).length ≤ c' ∧ RdE w' A' (popEnts l) ∧ Below w.heap.size w w' := by
  subst hl
  cases l with
  | nil =>
    refine (pop_none A c w).mono ?_
    rintro en w1 ⟨rfl, hb⟩
    exact ⟨none, 0, rfl, by simp [popEnts], Reads.none_, hb⟩
  | cons e l =>
    refine (pop_at A c (e :: l) w (by simp) hr hc (by omega) hs).mono ?_
    rintro en w1 ⟨v, rfl, ho, hb⟩
    obtain ⟨A', c', rfl, hc', hr'⟩ := ho.shape
    exact ⟨A', c', by simp [headOf], hc', hr', hb⟩
theorem cut_row (A : Option Addr) (n c : Nat) (l : List Ent) (i : Int) (w : World) (hl : l.length = n) (hr : RdE w A l) (hc : n ≤ c) (hn : n ≤ 1000000) :
    Calls Try.prog 16 #[.slice A n c, .int .i64 i] w fun en w' => ∃ A' c', en = .returned (.slice A' (l.take i.toNat).length c') ∧ (l.take i.toNat).length ≤ c' ∧ RdE w' A' (l.take i.toNat) ∧ Below w.heap.size w w' := by
  subst hl
  refine (cut_any A c l i w hr hc hn).mono ?_
  rintro en w1 ⟨v, rfl, ho, hb⟩
  obtain ⟨A', c', rfl, hc', hr'⟩ := ho.shape
  exact ⟨A', c', rfl, hc', hr', hb⟩
end Go.Proofs.Ytdfcbfcnanpolaa
