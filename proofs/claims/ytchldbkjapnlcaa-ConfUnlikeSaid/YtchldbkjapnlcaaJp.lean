/- Rows of numbers in bytes, in plain words: how a number is written, that each row of bytes is written by one row of numbers at most, and how rows stand in order. What the functions of package code, and the document's own of chapters 1 to 3, answer: rows of bytes held against each other; a row of numbers written. Numbers written, whatever they are. -/
import Derived.Test.YtchldbkjapnlcaaJh
import Derived.BigQuiet
set_option linter.unusedVariables false
set_option linter.unusedSimpArgs false
section
namespace Go.Proofs.Ytchldbkjapnlcaa

def I64 (n : Int) : Prop := -9223372036854775808 ≤ n ∧ n ≤ 9223372036854775807
instance (n : Int) : Decidable (I64 n) := inferInstanceAs (Decidable (_ ∧ _))
/-- The last k bytes of a number, the greatest first. -/
def be : Nat → Nat → List UInt8
 | 0, _ => []
 | k + 1, u => be k (u / 256) ++ [UInt8.ofNat u]
def unbe (l : List UInt8) : Nat := l.foldl (fun a b => a * 256 + b.toNat) 0
theorem be_length (k u : Nat) : (be k u).length = k := by
 induction k generalizing u with
 | zero => rfl
 | succ k ih => simp [be, ih]
theorem unbe_snoc (l : List UInt8) (b : UInt8) : unbe (l ++ [b]) = unbe l * 256 + b.toNat := by simp [unbe]
theorem unbe_be (k u : Nat) : unbe (be k u) = u % 256 ^ k := by
 induction k generalizing u with
 | zero => simp [be, unbe, Nat.mod_one]
 | succ k ih =>
  have e : 256 ^ (k + 1) = 256 * 256 ^ k := by rw [Nat.pow_succ, Nat.mul_comm]
  rw [be, unbe_snoc, ih, UInt8.toNat_ofNat', e, Nat.mod_mul]
  generalize u / 256 % 256 ^ k = x
  omega
theorem be_unbe : ∀ (k : Nat) (l : List UInt8), l.length = k → be k (unbe l) = l
 | 0, l, h => by simp [be, List.eq_nil_of_length_eq_zero h]
 | k + 1, l, h => by
  have hn : l ≠ [] := fun e => by subst e; simp at h
  have e := List.dropLast_concat_getLast hn
  have ih := be_unbe k l.dropLast (by simp [h])
  rw [← e, unbe_snoc, be]
  have hb := (l.getLast hn).toNat_lt
  rw [show (unbe l.dropLast * 256 + (l.getLast hn).toNat) / 256 = unbe l.dropLast by omega, ih]
  congr 2
  apply UInt8.toNat.inj
  rw [UInt8.toNat_ofNat']
  omega
theorem unbe_lt (l : List UInt8) : unbe l < 256 ^ l.length := by
 have : ∀ (k : Nat) (l : List UInt8), l.length = k → unbe l < 256 ^ k := fun k l h => by
  have := be_unbe k l h
  rw [← this, unbe_be]
  exact Nat.mod_lt _ (Nat.pow_pos (by omega))
 exact this _ l rfl
theorem be_get (k u j : Nat) (h : j < k) : (be k u)[j]'(by rw [be_length]; exact h) = UInt8.ofNat (u / 256 ^ (k - 1 - j)) := by
 induction k generalizing u with
 | zero => omega
 | succ k ih =>
  simp only [be]
  by_cases hj : j < k
  ·rw [List.getElem_append_left (by rw [be_length]; exact hj), ih (u / 256) hj, Nat.div_div_eq_div_mul]
   congr 2
   rw [show k + 1 - 1 - j = (k - 1 - j) + 1 by omega, Nat.pow_succ, Nat.mul_comm]
  ·have : j = k := by omega
   subst this
   rw [List.getElem_append_right (by rw [be_length]; exact Nat.le_refl _)]
   simp
/-- A number's bitsOf. -/
def bitsOf (n : Int) : Nat := (n % 18446744073709551616).toNat
def unbits (u : Nat) : Int := if u < 9223372036854775808 then u else (u : Int) - 18446744073709551616
theorem bits_lt (n : Int) : bitsOf n < 256 ^ 8 := by unfold bitsOf; omega
theorem unbits_bits {n : Int} (h : I64 n) : unbits (bitsOf n) = n := by unfold unbits bitsOf; unfold I64 at h; split <;> omega
theorem bits_unbits {u : Nat} (h : u < 256 ^ 8) : bitsOf (unbits u) = u := by unfold unbits bitsOf; split <;> omega
theorem unbits_i64 {u : Nat} (h : u < 256 ^ 8) : I64 (unbits u) := by unfold unbits I64; split <;> omega
def short (n : Int) : Bool := decide (-1 ≤ n ∧ n ≤ 253)
def putN (n : Int) : List UInt8 := if short n = true then [UInt8.ofNat (n + 1).toNat] else 255 :: be 8 (bitsOf n)
def putL (l : List Int) : List UInt8 := l.flatMap putN
theorem putN_short {n : Int} (h : short n = true) : putN n = [UInt8.ofNat (n + 1).toNat] := if_pos h
theorem putN_long {n : Int} (h : short n = false) : putN n = 255 :: be 8 (bitsOf n) := if_neg (by rw [h]; decide)
theorem putL_nil : putL [] = [] := rfl
theorem putL_cons (n : Int) (l : List Int) : putL (n :: l) = putN n ++ putL l := by simp [putL]
theorem putL_append (l m : List Int) : putL (l ++ m) = putL l ++ putL m := by simp [putL]
theorem putL_snoc (l : List Int) (n : Int) : putL (l ++ [n]) = putL l ++ putN n := by simp [putL]
theorem putN_length (n : Int) : (putN n).length = if short n = true then 1 else 9 := by
 unfold putN; split <;> simp [be_length]
theorem putN_length_le (n : Int) : 1 ≤ (putN n).length ∧ (putN n).length ≤ 9 := by rw [putN_length]; split <;> omega
theorem putL_length_le (l : List Int) : l.length ≤ (putL l).length ∧ (putL l).length ≤ 9 * l.length := by
 induction l with
 | nil => simp [putL]
 | cons n l ih => rw [putL_cons, List.length_append, List.length_cons]; have := putN_length_le n; omega
theorem short_byte {n : Int} (h : short n = true) : (UInt8.ofNat (n + 1).toNat).toNat = (n + 1).toNat ∧ (UInt8.ofNat (n + 1).toNat : UInt8) ≠ 255 := by
 simp only [short, decide_eq_true_eq] at h
 have e : (UInt8.ofNat (n + 1).toNat).toNat = (n + 1).toNat := by rw [UInt8.toNat_ofNat']; omega
 refine ⟨e, fun hc => ?_⟩
 rw [hc] at e
 have : (255 : UInt8).toNat = 255 := rfl
 omega
/-- One row at most is written so. -/
theorem putL_inj : ∀ (l m : List Int), (∀ x ∈ l, I64 x) → (∀ x ∈ m, I64 x) → putL l = putL m → l = m
 | [], [], _, _, _ => rfl
 | [], n :: m, _, _, h => by
  rw [putL_cons] at h
  have := congrArg List.length h
  have h2 := putN_length_le n
  simp only [putL_nil, List.length_nil, List.length_append] at this
  omega
 | n :: l, [], _, _, h => by
  rw [putL_cons] at h
  have := congrArg List.length h
  have h2 := putN_length_le n
  simp only [putL_nil, List.length_nil, List.length_append] at this
  omega
 | n :: l, k :: m, hl, hm, h => by
  have ih := putL_inj l m (fun x hx => hl x (List.mem_cons_of_mem _ hx)) (fun x hx => hm x (List.mem_cons_of_mem _ hx))
  have hn := hl n List.mem_cons_self
  have hk := hm k List.mem_cons_self
  rw [putL_cons, putL_cons] at h
  cases hsn : short n <;> cases hsk : short k
  ·rw [putN_long hsn, putN_long hsk, List.cons_append, List.cons_append] at h
   injection h with _ h
   obtain ⟨h1, h2⟩ := List.append_inj h (by rw [be_length, be_length])
   have e := congrArg unbe h1
   rw [unbe_be, unbe_be, Nat.mod_eq_of_lt (bits_lt n), Nat.mod_eq_of_lt (bits_lt k)] at e
   have e2 := congrArg unbits e
   rw [unbits_bits hn, unbits_bits hk] at e2
   rw [e2, ih h2]
  ·rw [putN_long hsn, putN_short hsk] at h
   injection h with h1 _
   exact absurd h1.symm (short_byte hsk).2
  ·rw [putN_short hsn, putN_long hsk] at h
   injection h with h1 _
   exact absurd h1 (short_byte hsn).2
  ·rw [putN_short hsn, putN_short hsk] at h
   injection h with h1 h2
   have e1 := (short_byte hsn).1
   have e2 := (short_byte hsk).1
   rw [h1] at e1
   simp only [short, decide_eq_true_eq] at hsn hsk
   rw [show n = k by omega, ih h2]
/-- What bytes that are written begin with. -/
theorem putL_uncons {l : List Int} {b : UInt8} {r : List UInt8} (h : putL l = b :: r) : ∃ n l', l = n :: l' ∧ ((short n = true ∧ b = UInt8.ofNat (n + 1).toNat ∧ b ≠ 255 ∧ r = putL l') ∨ (short n = false ∧ b = 255 ∧ r = be 8 (bitsOf n) ++ putL l')) := by
 cases l with
 | nil => simp [putL] at h
 | cons n l =>
  refine ⟨n, l, rfl, ?_⟩
  rw [putL_cons] at h
  cases hs : short n
  ·rw [putN_long hs, List.cons_append] at h
   injection h with h1 h2
   exact .inr ⟨rfl, h1.symm, h2.symm⟩
  ·rw [putN_short hs] at h
   injection h with h1 h2
   exact .inl ⟨rfl, h1.symm, by rw [← h1]; exact (short_byte hs).2, h2.symm⟩
/-- No row is written so. -/
def NoRow (b : List UInt8) : Prop := ∀ l : List Int, (∀ x ∈ l, I64 x) → putL l ≠ b
/-- Bytes are a row's, or no row's. -/
theorem row_or_none (b : List UInt8) : (∃ l : List Int, (∀ x ∈ l, I64 x) ∧ putL l = b) ∨ NoRow b := by
 by_cases h : ∃ l : List Int, (∀ x ∈ l, I64 x) ∧ putL l = b
 ·exact .inl h
 ·exact .inr fun l hl he => h ⟨l, hl, he⟩

/-! ### Order -/
def lessB (a b : List UInt8) : Bool := if a.length = b.length then decide (Lib.compareBytes a b < 0) else decide (a.length < b.length)
theorem cmp_self (a : List UInt8) : Lib.compareBytes a a = 0 := by
 induction a with
 | nil => rfl
 | cons x a ih => simp [Lib.compareBytes, UInt8.lt_irrefl, ih]
theorem cmp_swap : ∀ (a b : List UInt8), Lib.compareBytes b a = - Lib.compareBytes a b
 | [], [] => rfl
 | [], _ :: _ => rfl
 | _ :: _, [] => rfl
 | x :: a, y :: b => by
  simp only [Lib.compareBytes]
  by_cases h1 : x < y
  ·have h2 : ¬ y < x := fun h => UInt8.lt_irrefl _ (UInt8.lt_trans h1 h)
   simp [h1, h2]
  ·by_cases h2 : y < x
   ·simp [h1, h2]
   ·simp [h1, h2, cmp_swap a b]
theorem cmp_eq0 : ∀ (a b : List UInt8), Lib.compareBytes a b = 0 ↔ a = b
 | [], [] => by simp [Lib.compareBytes]
 | [], _ :: _ => by simp [Lib.compareBytes]
 | _ :: _, [] => by simp [Lib.compareBytes]
 | x :: a, y :: b => by
  simp only [Lib.compareBytes]
  by_cases h1 : x < y
  ·have : x ≠ y := fun h => by subst h; exact UInt8.lt_irrefl _ h1
   simp [h1, this]
  ·by_cases h2 : y < x
   ·have : x ≠ y := fun h => by subst h; exact UInt8.lt_irrefl _ h2
    simp [h1, h2, this]
   ·have : x = y := UInt8.le_antisymm (UInt8.not_lt.1 h2) (UInt8.not_lt.1 h1)
    simp [this, UInt8.lt_irrefl, cmp_eq0 a b]
theorem cmp_range : ∀ (a b : List UInt8), Lib.compareBytes a b = -1 ∨ Lib.compareBytes a b = 0 ∨ Lib.compareBytes a b = 1
 | [], [] => by simp [Lib.compareBytes]
 | [], _ :: _ => by simp [Lib.compareBytes]
 | _ :: _, [] => by simp [Lib.compareBytes]
 | x :: a, y :: b => by
  simp only [Lib.compareBytes]
  split
  ·simp
  ·split
   ·simp
   ·exact cmp_range a b
theorem cmp_trans : ∀ (a b c : List UInt8), Lib.compareBytes a b < 0 → Lib.compareBytes b c < 0 → Lib.compareBytes a c < 0
 | [], [], _, h, _ => by simp [Lib.compareBytes] at h
 | _ :: _, [], _, h, _ => by simp [Lib.compareBytes] at h
 | _, _ :: _, [], _, h => by simp [Lib.compareBytes] at h
 | [], _ :: _, _ :: _, _, _ => by simp [Lib.compareBytes]
 | x :: a, y :: b, z :: c, h1, h2 => by
  simp only [Lib.compareBytes] at h1 h2 ⊢
  have ih := cmp_trans a b c
  by_cases xy : x < y
  ·by_cases yz : y < z
   ·have := UInt8.lt_trans xy yz
    simp [this]
   ·by_cases zy : z < y
    ·simp [yz, zy] at h2
    ·have e : y = z := UInt8.le_antisymm (UInt8.not_lt.1 zy) (UInt8.not_lt.1 yz)
     subst e
     simp [xy]
  ·by_cases yx : y < x
   ·simp [xy, yx] at h1
   ·have e : x = y := UInt8.le_antisymm (UInt8.not_lt.1 yx) (UInt8.not_lt.1 xy)
    subst e
    by_cases yz : x < z
    ·simp [yz]
    ·by_cases zy : z < x
     ·simp [yz, zy] at h2
     ·simp only [yz, zy, xy, if_false] at h1 h2 ⊢
      exact ih h1 h2
theorem bytesLess_eq : ∀ (a b : List UInt8), Op.bytesLess a b = decide (Lib.compareBytes a b < 0)
 | [], [] => by simp [Lib.compareBytes, Op.bytesLess]
 | [], _ :: _ => by simp [Lib.compareBytes, Op.bytesLess]
 | _ :: _, [] => by simp [Lib.compareBytes, Op.bytesLess]
 | x :: a, y :: b => by
  simp only [Lib.compareBytes, Op.bytesLess]
  by_cases h1 : x < y
  ·simp [h1]
  ·by_cases h2 : y < x
   ·have : x ≠ y := fun h => by subst h; exact UInt8.lt_irrefl _ h2
    simp [h1, h2, this]
   ·have : x = y := UInt8.le_antisymm (UInt8.not_lt.1 h2) (UInt8.not_lt.1 h1)
    simp [this, UInt8.lt_irrefl, bytesLess_eq a b]
theorem less_self (a : List UInt8) : lessB a a = false := by simp [lessB, cmp_self]
theorem less_trans {a b c : List UInt8} (h1 : lessB a b = true) (h2 : lessB b c = true) : lessB a c = true := by
 unfold lessB at *
 split at h1 <;> split at h2 <;> split <;> simp only [decide_eq_true_eq] at * <;> first | omega | exact cmp_trans _ _ _ h1 h2
theorem less_long {a b : List UInt8} (h : b.length < a.length) : lessB a b = false := by unfold lessB; rw [if_neg (by omega)]; simp; omega
theorem less_short {a b : List UInt8} (h : a.length < b.length) : lessB a b = true := by unfold lessB; rw [if_neg (by omega)]; simpa using h
/-- Of two rows one is below, unless they are the same. -/
theorem less_one (a b : List UInt8) : (lessB a b || lessB b a) = !decide (a = b) := by
 unfold lessB
 by_cases h : a.length = b.length
 ·rw [if_pos h, if_pos h.symm, cmp_swap a b]
  have := cmp_eq0 a b
  rcases cmp_range a b with e | e | e <;> rw [e] at this ⊢ <;> simp at this ⊢ <;> exact this
 ·rw [if_neg h, if_neg (fun e => h e.symm)]
  have : a ≠ b := fun e => h (by rw [e])
  simp [this]
  omega
theorem less_not_both (a b : List UInt8) : (lessB a b && lessB b a) = false := by
 unfold lessB
 by_cases h : a.length = b.length
 ·rw [if_pos h, if_pos h.symm, cmp_swap a b]
  rcases cmp_range a b with e | e | e <;> rw [e] <;> simp
 ·rw [if_neg h, if_neg (fun e => h e.symm)]
  simp
  omega
end Go.Proofs.Ytchldbkjapnlcaa
end
section
namespace Go.Proofs.Ytchldbkjapnlcaa
open Go.RowKit

theorem bytes_equal (A A' : Option Addr) (n m c c' : Nat) (a b : List UInt8) (w : World) (ha : a.length = n) (hb : b.length = m) (hr : RdB w A a) (hr' : RdB w A' b) :
  Calls Try.prog 102 #[.slice A n c, .slice A' m c'] w fun en w' => en = .returned (.bool (decide (a = b))) ∧ w' = w := by
 have h1 := run_string (c := c) hr ha
 have h2 := run_string (c := c') hr' hb
 have he : (a == b) = decide (a = b) := by by_cases h : a = b <;> simp [h]
 go_enter Try.func102, Try.ntmps102
 go_wp2_with fail
 go_ret
 exact ⟨by rw [← he]; rfl, rfl⟩
theorem same_bytes (A A' : Option Addr) (n m c c' : Nat) (a b : List UInt8) (w : World) (ha : a.length = n) (hb : b.length = m) (hr : RdB w A a) (hr' : RdB w A' b) :
  Calls Try.prog 53 #[.slice A n c, .slice A' m c'] w fun en w' => en = .returned (.bool (decide (a = b))) ∧ w' = w := by
 have h1 := run_string (c := c) hr ha
 have h2 := run_string (c := c') hr' hb
 have he : (a == b) = decide (a = b) := by by_cases h : a = b <;> simp [h]
 go_enter Try.func53, Try.ntmps53
 go_wp2_with fail
 go_ret
 exact ⟨by rw [← he]; rfl, rfl⟩
/-! ### A number written -/
theorem byte_of {u j : Nat} {s : Int} (h : j < 8) (hs : s = 56 - 8 * (j : Int)) : IntKind.u8.wrap ((u : Int) / 2 ^ s.toNat) = ((be 8 u)[j]'(by rw [be_length]; exact h)).toNat := by
 have e : s.toNat = 8 * (7 - j) := by omega
 have e2 : (2 : Nat) ^ (8 * (7 - j)) = 256 ^ (7 - j) := by rw [Nat.pow_mul]
 rw [be_get 8 u j h, show 8 - 1 - j = 7 - j by omega, UInt8.toNat_ofNat', IntKind.wrap_u8, e, show (2 : Int) ^ (8 * (7 - j)) = ((2 ^ (8 * (7 - j)) : Nat) : Int) by simp, e2]
 omega
theorem wrap_bits (n : Int) : IntKind.u64.wrap n = (bitsOf n : Int) := by rw [IntKind.wrap_u64]; unfold bitsOf; omega
theorem byte_short {n : Int} (h : -1 ≤ n ∧ n ≤ 253) : n + 1 = ((UInt8.ofNat (n + 1).toNat).toNat : Int) := by rw [UInt8.toNat_ofNat']; omega

set_option maxRecDepth 100000 in
set_option maxHeartbeats 2000000 in
theorem code_put (A : Option Addr) (n c : Nat) (l : List Int) (w : World) (hl : l.length = n) (hr : RdI w A l) (hi : ∀ x ∈ l, I64 x) (hn : n ≤ 1000000) :
  Calls Try.prog 88 #[.slice A n c] w (GivesB w (putL l)) := by
 subst hl
 have HR := Kept.mk hr
 have HI := Kept.mk hi
 clear hr hi
 go_enter Try.func88, Try.ntmps88
 go_wp2_with fail
 go_loopw [3, 9] (fun v i wr => ∃ k : Nat, k ≤ l.length ∧ i = .int .i64 k ∧ OwnB wr w.heap.size v (putL (l.take k)) ∧ Below w.heap.size w wr) (fun _ i _ => l.length - (intOf i).toNat)
 case atStart => exact ⟨0, Nat.zero_le _, rfl, by simpa [putL] using OwnB.nil, Below.refl _ _⟩
 case round =>
  obtain ⟨k, hk, rfl, ho, hb⟩ := hrel
  by_cases hlt : k < l.length
  ·obtain ⟨b, o, rfl, hb1, q0⟩ := (HR.out.past hb).at_ hlt
   obtain ⟨hx0, hx1⟩ := HI.out l[k] (List.getElem_mem hlt)
   have htk : putL (l.take (k + 1)) = putL (l.take k) ++ putN l[k] := by rw [List.take_succ_eq_append_getElem hlt, putL_snoc]
   have hlen : (putL (l.take k)).length < 10000000 := by have := (putL_length_le (l.take k)).2; rw [List.length_take] at this; omega
   have HO := Kept.mk ho
   have HB := Kept.mk hb
   have HT := Kept.mk htk
   have HL := Kept.mk hlen
   clear ho hb htk hlen
   by_cases hs : -1 ≤ l[k] ∧ l[k] ≤ 253
   ·obtain ⟨hs0, hs1⟩ := hs
    have w0 : IntKind.i64.wrap (l[k] + 1) = l[k] + 1 := IntWalk.i64_in _ (by omega)
    have w1 : IntKind.u8.wrap (l[k] + 1) = l[k] + 1 := IntWalk.u8_in _ (by omega)
    have HN : Kept (putN l[k] = [UInt8.ofNat (l[k] + 1).toNat]) := ⟨putN_short (by simp [short, hs0, hs1])⟩
    go_wp2_with (at_builtin; go_must (refine append_byte _ rfl (.tmp 19) (.tmp 23) rfl w.heap.size rfl (HO.out.past (below_alloc_self _ _)) _ (UInt8.ofNat (l[k] + 1).toNat) _ rfl (heap_at_new (by simp)) ?cn (by have := HL.out; omega) ?c1 ?_))
    case cn => exact byte_short ⟨hs0, hs1⟩
    case c1 => have := HB.out.size; simp; omega
    intro v' w' h1 h2 h3
    rw [← HN.out, ← HT.out] at h1
    have H1 := Kept.mk h1
    have H3 := Kept.mk h3
    clear h1 h2 h3
    go_wp2_with fail
    go_roundw
    case rel => exact ⟨k + 1, by omega, by go_num, H1.out, (HB.out.alloc HB.out.size _).trans H3.out⟩
    case measure => simp [intOf]; omega
   ·have hsf : short l[k] = false := by simp only [short, decide_eq_false_iff_not]; exact hs
    have HN : Kept (putN l[k] = 255 :: be 8 (bitsOf l[k])) := ⟨putN_long hsf⟩
    have hor : l[k] < -1 ∨ (-1 ≤ l[k] ∧ 253 < l[k]) := by omega
    clear hs hsf
    rcases hor with hs | ⟨hs0, hs1⟩
    all_goals
     go_wp2_with (at_builtin; go_must (refine append_byte _ rfl (.tmp 25) (.tmp 26) rfl w.heap.size rfl (HO.out.past (below_alloc_self _ _)) _ 255 _ rfl (heap_at_new (by simp)) rfl (by have := HL.out; omega) ?c1 ?_))
     case c1 => have := HB.out.size; simp; omega
     intro v' w' h1 h2 h3
     have H1 := Kept.mk h1
     have H3 := Kept.mk (((below_alloc_self wr _).mono HB.out.size).trans h3)
     clear h1 h2 h3
     go_wp2_with fail
     go_loopw [3, 6] (fun v s wr2 => ∃ (j : Nat) (sh : Int), j ≤ 8 ∧ s = .int .i64 sh ∧ Kept (sh = 56 - 8 * (j : Int)) ∧ OwnB wr2 w.heap.size v (putL (l.take k) ++ [255] ++ (be 8 (bitsOf l[k])).take j) ∧ Below w.heap.size w' wr2) (fun _ s _ => ((intOf s) + 8).toNat)
     case atStart => exact ⟨0, 56, by omega, rfl, ⟨by simp⟩, by simpa using H1.out, Below.refl _ _⟩
     case round =>
      obtain ⟨j, sh, hj, rfl, hsh, ho2, hb2⟩ := hrel
      have HO2 := Kept.mk ho2
      have HB2 := Kept.mk hb2
      clear ho2 hb2
      by_cases hj8 : j < 8
      ·have hs0 : 0 ≤ sh := by have := hsh.out; omega
       have hs1 : sh ≤ 56 := by have := hsh.out; omega
       have hs2 : sh ≤ 64 := by have := hsh.out; omega
       have wsub : IntKind.i64.wrap (sh - 8) = sh - 8 := IntWalk.i64_in _ (by omega)
       have wb := wrap_bits l[k]
       have HBY := Kept.mk (byte_of (u := bitsOf l[k]) hj8 hsh.out)
       have hlen2 : Kept ((putL (l.take k) ++ [255] ++ (be 8 (bitsOf l[k])).take j).length < 100000000) := ⟨by have := HL.out; rw [List.length_append, List.length_append, List.length_take, be_length, List.length_singleton]; omega⟩
       go_wp2_with (at_builtin; go_must (refine append_byte _ rfl (.tmp 32) (.tmp 38) rfl w.heap.size rfl (HO2.out.past (below_alloc_self _ _)) _ ((be 8 (bitsOf l[k]))[j]'(by rw [be_length]; exact hj8)) _ rfl (heap_at_new (by simp)) ?cn hlen2.out ?c1 ?_))
       case cn => exact HBY.out
       case c1 => have := HB2.out.size; have := H3.out.size; have := HB.out.size; simp; omega
       intro v2 w2 h1 h2 h3
       have H1 : Kept (OwnB w2 w.heap.size v2 (putL (l.take k) ++ [255] ++ (be 8 (bitsOf l[k])).take (j + 1))) := ⟨by simpa using h1⟩
       have H3' := Kept.mk (HB2.out.trans (((below_alloc_self _ _).mono (by have := HB2.out.size; have := H3.out.size; have := HB.out.size; omega)).trans h3))
       clear h1 h2 h3
       go_wp2_with fail
       go_roundw
       case rel => exact ⟨j + 1, sh - 8, by omega, by go_num, ⟨by have := hsh.out; omega⟩, H1.out, H3'.out⟩
       case measure => simp [intOf]; omega
      ·have hs0 : sh < 0 := by have := hsh.out; omega
       have hfull : (be 8 (bitsOf l[k])).take j = be 8 (bitsOf l[k]) := List.take_of_length_le (by rw [be_length]; omega)
       have HF : Kept (putL (l.take k) ++ [255] ++ (be 8 (bitsOf l[k])).take j = putL (l.take (k + 1))) := ⟨by rw [hfull, HT.out, HN.out, List.append_assoc]; rfl⟩
       rw [HF.out] at HO2
       clear hfull
       go_wp2_with fail
       go_roundw
       case rel => exact ⟨k + 1, by omega, by go_num, HO2.out, HB.out.trans (H3.out.trans HB2.out)⟩
       case measure => simp [intOf]; omega
  ·have hke : l.take k = l := List.take_of_length_le (by omega)
   rw [hke] at ho
   have HO := Kept.mk ho
   have HB := Kept.mk hb
   clear ho hb hke
   go_wp2_with fail
   go_ret
   exact ⟨_, rfl, HO.out, HB.out⟩
end Go.Proofs.Ytchldbkjapnlcaa
end
section
namespace Go.Proofs.Ytchldbkjapnlcaa
open Go.RowKit

set_option maxRecDepth 100000 in
set_option maxHeartbeats 2000000 in
theorem ref_putx (A : Option Addr) (n c : Nat) (l : List Int) (w : World) (hl : l.length = n) (hr : RdI w A l) (hn : n ≤ 1000000) :
  Calls Try.prog 47 #[.slice A n c] w (GivesB w (putL l)) := by
 subst hl
 have HR := Kept.mk hr
 clear hr
 go_enter Try.func47, Try.ntmps47
 go_wp2_with fail
 go_loopw [3, 4] (fun v i wr => ∃ k : Nat, k ≤ l.length ∧ i = .int .i64 k ∧ OwnB wr w.heap.size v (putL (l.take k)) ∧ Below w.heap.size w wr) (fun _ i _ => l.length - (intOf i).toNat)
 case atStart => exact ⟨0, Nat.zero_le _, rfl, by simpa [putL] using OwnB.nil, Below.refl _ _⟩
 case round =>
  obtain ⟨k, hk, rfl, ho, hb⟩ := hrel
  by_cases hlt : k < l.length
  ·obtain ⟨b, o, rfl, hb1, q0⟩ := (HR.out.past hb).at_ hlt
   have htk : putL (l.take (k + 1)) = putL (l.take k) ++ putN l[k] := by rw [List.take_succ_eq_append_getElem hlt, putL_snoc]
   have hlen : (putL (l.take k)).length < 10000000 := by have := (putL_length_le (l.take k)).2; rw [List.length_take] at this; omega
   have HO := Kept.mk ho
   have HB := Kept.mk hb
   have HT := Kept.mk htk
   have HL := Kept.mk hlen
   clear ho hb htk hlen
   by_cases hs : -1 ≤ l[k] ∧ l[k] ≤ 253
   ·obtain ⟨hs0, hs1⟩ := hs
    have w0 : IntKind.i64.wrap (l[k] + 1) = l[k] + 1 := IntWalk.i64_in _ (by omega)
    have w1 : IntKind.u8.wrap (l[k] + 1) = l[k] + 1 := IntWalk.u8_in _ (by omega)
    have HN : Kept (putN l[k] = [UInt8.ofNat (l[k] + 1).toNat]) := ⟨putN_short (by simp [short, hs0, hs1])⟩
    go_wp2_with (at_builtin; go_must (refine append_byte _ rfl (.tmp 23) (.tmp 27) rfl w.heap.size rfl (HO.out.past (below_alloc_self _ _)) _ (UInt8.ofNat (l[k] + 1).toNat) _ rfl (heap_at_new (by simp)) ?cn (by have := HL.out; omega) ?c1 ?_))
    case cn => exact byte_short ⟨hs0, hs1⟩
    case c1 => have := HB.out.size; simp; omega
    intro v' w' h1 h2 h3
    rw [← HN.out, ← HT.out] at h1
    have H1 := Kept.mk h1
    have H3 := Kept.mk h3
    clear h1 h2 h3
    go_wp2_with fail
    go_roundw
    case rel => exact ⟨k + 1, by omega, by go_num, H1.out, (HB.out.alloc HB.out.size _).trans H3.out⟩
    case measure => simp [intOf]; omega
   ·have hsf : short l[k] = false := by simp only [short, decide_eq_false_iff_not]; exact hs
    have HN : Kept (putN l[k] = 255 :: be 8 (bitsOf l[k])) := ⟨putN_long hsf⟩
    have hor : l[k] < -1 ∨ (-1 ≤ l[k] ∧ 253 < l[k]) := by omega
    clear hs hsf
    rcases hor with hs | ⟨hs0, hs1⟩
    all_goals
     go_wp2_with (at_builtin; go_must (refine append_byte _ rfl (.tmp 29) (.tmp 30) rfl w.heap.size rfl (HO.out.past (below_alloc_self _ _)) _ 255 _ rfl (heap_at_new (by simp)) rfl (by have := HL.out; omega) ?c1 ?_))
     case c1 => have := HB.out.size; simp; omega
     intro v' w' h1 h2 h3
     have H1 := Kept.mk h1
     have H3 := Kept.mk (((below_alloc_self wr _).mono HB.out.size).trans h3)
     clear h1 h2 h3
     go_wp2_with fail
     go_loopw [3, 6] (fun v s wr2 => ∃ (j : Nat) (sh : Int), j ≤ 8 ∧ s = .int .i64 sh ∧ Kept (sh = 7 - (j : Int)) ∧ OwnB wr2 w.heap.size v (putL (l.take k) ++ [255] ++ (be 8 (bitsOf l[k])).take j) ∧ Below w.heap.size w' wr2) (fun _ s _ => ((intOf s) + 1).toNat)
     case atStart => exact ⟨0, 7, by omega, rfl, ⟨by simp⟩, by simpa using H1.out, Below.refl _ _⟩
     case round =>
      obtain ⟨j, sh, hj, rfl, hsh, ho2, hb2⟩ := hrel
      have HO2 := Kept.mk ho2
      have HB2 := Kept.mk hb2
      clear ho2 hb2
      by_cases hj8 : j < 8
      ·have hs0 : 0 ≤ sh := by have := hsh.out; omega
       have hs1 : sh ≤ 7 := by have := hsh.out; omega
       have hs2 : 8 * sh ≤ 64 := by have := hsh.out; omega
       have wsub : IntKind.i64.wrap (sh - 1) = sh - 1 := IntWalk.i64_in _ (by omega)
       have wmul : IntKind.i64.wrap (8 * sh) = 8 * sh := IntWalk.i64_in _ (by omega)
       have wmul2 : IntKind.u64.wrap (8 * sh) = 8 * sh := IntWalk.u64_in _ (by omega)
       have wmul3 : 0 ≤ 8 * sh := by omega
       have wb := wrap_bits l[k]
       have HBY := Kept.mk (byte_of (u := bitsOf l[k]) (s := 8 * sh) hj8 (by have := hsh.out; omega))
       have hlen2 : Kept ((putL (l.take k) ++ [255] ++ (be 8 (bitsOf l[k])).take j).length < 100000000) := ⟨by have := HL.out; rw [List.length_append, List.length_append, List.length_take, be_length, List.length_singleton]; omega⟩
       go_wp2_with (at_builtin; go_must (refine append_byte _ rfl (.tmp 36) (.tmp 44) rfl w.heap.size rfl (HO2.out.past (below_alloc_self _ _)) _ ((be 8 (bitsOf l[k]))[j]'(by rw [be_length]; exact hj8)) _ rfl (heap_at_new (by simp)) ?cn hlen2.out ?c1 ?_))
       case cn => exact HBY.out
       case c1 => have := HB2.out.size; have := H3.out.size; have := HB.out.size; simp; omega
       intro v2 w2 h1 h2 h3
       have H1 : Kept (OwnB w2 w.heap.size v2 (putL (l.take k) ++ [255] ++ (be 8 (bitsOf l[k])).take (j + 1))) := ⟨by simpa using h1⟩
       have H3' := Kept.mk (HB2.out.trans (((below_alloc_self _ _).mono (by have := HB2.out.size; have := H3.out.size; have := HB.out.size; omega)).trans h3))
       clear h1 h2 h3
       go_wp2_with fail
       go_roundw
       case rel => exact ⟨j + 1, sh - 1, by omega, by go_num, ⟨by have := hsh.out; omega⟩, H1.out, H3'.out⟩
       case measure => simp [intOf]; omega
      ·have hs0 : sh < 0 := by have := hsh.out; omega
       have hfull : (be 8 (bitsOf l[k])).take j = be 8 (bitsOf l[k]) := List.take_of_length_le (by rw [be_length]; omega)
       have HF : Kept (putL (l.take k) ++ [255] ++ (be 8 (bitsOf l[k])).take j = putL (l.take (k + 1))) := ⟨by rw [hfull, HT.out, HN.out, List.append_assoc]; rfl⟩
       rw [HF.out] at HO2
       clear hfull
       go_wp2_with fail
       go_roundw
       case rel => exact ⟨k + 1, by omega, by go_num, HO2.out, HB.out.trans (H3.out.trans HB2.out)⟩
       case measure => simp [intOf]; omega
  ·have hke : l.take k = l := List.take_of_length_le (by omega)
   rw [hke] at ho
   have HO := Kept.mk ho
   have HB := Kept.mk hb
   clear ho hb hke
   go_wp2_with fail
   go_ret
   exact ⟨_, rfl, HO.out, HB.out⟩

end Go.Proofs.Ytchldbkjapnlcaa
end
