/- Rows of numbers in bytes, in plain words: how a number is written, that each row of bytes is written by one row of numbers at most, and how rows stand in order. -/
import Derived.Test.YtonlefopjpdecaaByt
namespace Go.Proofs.Ytonlefopjpdecaa

def I64 (n : Int) : Prop := -9223372036854775808 ≤ n ∧ n ≤ 9223372036854775807
instance (n : Int) : Decidable (I64 n) := inferInstanceAs (Decidable (_ ∧ _))
/-- The last k bytes of a number, the greatest first. -/
def be : Nat → Nat → List UInt8
  | 0, _ => []
  | k + 1, u => be k (u / 256) ++ [UInt8.ofNat u]
def unbe (l : List UInt8) : Nat := l.foldl (fun a b => a * 256 + b.toNat) 0
theorem be_length (k u : Nat) : (be k u).length = k := by
  induction k generalizing u with
  | zero => rfl
  | succ k ih => simp [be, ih]
theorem unbe_snoc (l : List UInt8) (b : UInt8) : unbe (l ++ [b]) = unbe l * 256 + b.toNat := by simp [unbe]
theorem unbe_be (k u : Nat) : unbe (be k u) = u % 256 ^ k := by
  induction k generalizing u with
  | zero => simp [be, unbe, Nat.mod_one]
  | succ k ih =>
    have e : 256 ^ (k + 1) = 256 * 256 ^ k := by rw [Nat.pow_succ, Nat.mul_comm]
    rw [be, unbe_snoc, ih, UInt8.toNat_ofNat', e, Nat.mod_mul]
    generalize u / 256 % 256 ^ k = x
    omega
theorem be_unbe : ∀ (k : Nat) (l : List UInt8), l.length = k → be k (unbe l) = l
  | 0, l, h => by simp [be, List.eq_nil_of_length_eq_zero h]
  | k + 1, l, h => by
    have hn : l ≠ [] := fun e => by subst e; simp at h
    have e := List.dropLast_concat_getLast hn
    have ih := be_unbe k l.dropLast (by simp [h])
    rw [← e, unbe_snoc, be]
    have hb := (l.getLast hn).toNat_lt
    rw [show (unbe l.dropLast * 256 + (l.getLast hn).toNat) / 256 = unbe l.dropLast by omega, ih]
    congr 2
    apply UInt8.toNat.inj
    rw [UInt8.toNat_ofNat']
    omega
theorem unbe_lt (l : List UInt8) : unbe l < 256 ^ l.length := by
  have : ∀ (k : Nat) (l : List UInt8), l.length = k → unbe l < 256 ^ k := fun k l h => by
    have := be_unbe k l h
    rw [← this, unbe_be]
    exact Nat.mod_lt _ (Nat.pow_pos (by omega))
  exact this _ l rfl
theorem be_get (k u j : Nat) (h : j < k) : (be k u)[j]'(by rw [be_length]; exact h) = UInt8.ofNat (u / 256 ^ (k - 1 - j)) := by
  induction k generalizing u with
  | zero => omega
  | succ k ih =>
    simp only [be]
    by_cases hj : j < k
    · rw [List.getElem_append_left (by rw [be_length]; exact hj), ih (u / 256) hj, Nat.div_div_eq_div_mul]
      congr 2
      rw [show k + 1 - 1 - j = (k - 1 - j) + 1 by omega, Nat.pow_succ, Nat.mul_comm]
    · have : j = k := by omega
      subst this
      rw [List.getElem_append_right (by rw [be_length]; exact Nat.le_refl _)]
      simp
/-- A number's bitsOf. -/
def bitsOf (n : Int) : Nat := (n % 18446744073709551616).toNat
def unbits (u : Nat) : Int := if u < 9223372036854775808 then u else (u : Int) - 18446744073709551616
theorem bits_lt (n : Int) : bitsOf n < 256 ^ 8 := by unfold bitsOf; omega
theorem unbits_bits {n : Int} (h : I64 n) : unbits (bitsOf n) = n := by unfold unbits bitsOf; unfold I64 at h; split <;> omega
theorem bits_unbits {u : Nat} (h : u < 256 ^ 8) : bitsOf (unbits u) = u := by unfold unbits bitsOf; split <;> omega
theorem unbits_i64 {u : Nat} (h : u < 256 ^ 8) : I64 (unbits u) := by unfold unbits I64; split <;> omega
def short (n : Int) : Bool := decide (-1 ≤ n ∧ n ≤ 253)
def putN (n : Int) : List UInt8 := if short n = true then [UInt8.ofNat (n + 1).toNat] else 255 :: be 8 (bitsOf n)
def putL (l : List Int) : List UInt8 := l.flatMap putN
theorem putN_short {n : Int} (h : short n = true) : putN n = [UInt8.ofNat (n + 1).toNat] := if_pos h
theorem putN_long {n : Int} (h : short n = false) : putN n = 255 :: be 8 (bitsOf n) := if_neg (by rw [h]; decide)
theorem putL_nil : putL [] = [] := rfl
theorem putL_cons (n : Int) (l : List Int) : putL (n :: l) = putN n ++ putL l := by simp [putL]
theorem putL_append (l m : List Int) : putL (l ++ m) = putL l ++ putL m := by simp [putL]
theorem putL_snoc (l : List Int) (n : Int) : putL (l ++ [n]) = putL l ++ putN n := by simp [putL]
theorem putN_length (n : Int) : (putN n).length = if short n = true then 1 else 9 := by
  unfold putN; split <;> simp [be_length]
theorem putN_length_le (n : Int) : 1 ≤ (putN n).length ∧ (putN n).length ≤ 9 := by rw [putN_length]; split <;> omega
theorem putL_length_le (l : List Int) : l.length ≤ (putL l).length ∧ (putL l).length ≤ 9 * l.length := by
  induction l with
  | nil => simp [putL]
  | cons n l ih => rw [putL_cons, List.length_append, List.length_cons]; have := putN_length_le n; omega
theorem short_byte {n : Int} (h : short n = true) : (UInt8.ofNat (n + 1).toNat).toNat = (n + 1).toNat ∧ (UInt8.ofNat (n + 1).toNat : UInt8) ≠ 255 := by
  simp only [short, decide_eq_true_eq] at h
  have e : (UInt8.ofNat (n + 1).toNat).toNat = (n + 1).toNat := by rw [UInt8.toNat_ofNat']; omega
  refine ⟨e, fun hc => ?_⟩
  rw [hc] at e
  have : (255 : UInt8).toNat = 255 := rfl
  omega
/-- One row at most is written so. -/
theorem putL_inj : ∀ (l m : List Int), (∀ x ∈ l, I64 x) → (∀ x ∈ m, I64 x) → putL l = putL m → l = m
  | [], [], _, _, _ => rfl
  | [], n :: m, _, _, h => by
    rw [putL_cons] at h
    have := congrArg List.length h
    have h2 := putN_length_le n
    simp only [putL_nil, List.length_nil, List.length_append] at this
    omega
  | n :: l, [], _, _, h => by
    rw [putL_cons] at h
    have := congrArg List.length h
    have h2 := putN_length_le n
    simp only [putL_nil, List.length_nil, List.length_append] at this
    omega
  | n :: l, k :: m, hl, hm, h => by
    have ih := putL_inj l m (fun x hx => hl x (List.mem_cons_of_mem _ hx)) (fun x hx => hm x (List.mem_cons_of_mem _ hx))
    have hn := hl n List.mem_cons_self
    have hk := hm k List.mem_cons_self
    rw [putL_cons, putL_cons] at h
    cases hsn : short n <;> cases hsk : short k
    · rw [putN_long hsn, putN_long hsk, List.cons_append, List.cons_append] at h
      injection h with _ h
      obtain ⟨h1, h2⟩ := List.append_inj h (by rw [be_length, be_length])
      have e := congrArg unbe h1
      rw [unbe_be, unbe_be, Nat.mod_eq_of_lt (bits_lt n), Nat.mod_eq_of_lt (bits_lt k)] at e
      have e2 := congrArg unbits e
      rw [unbits_bits hn, unbits_bits hk] at e2
      rw [e2, ih h2]
    · rw [putN_long hsn, putN_short hsk] at h
      injection h with h1 _
      exact absurd h1.symm (short_byte hsk).2
    · rw [putN_short hsn, putN_long hsk] at h
      injection h with h1 _
      exact absurd h1 (short_byte hsn).2
    · rw [putN_short hsn, putN_short hsk] at h
      injection h with h1 h2
      have e1 := (short_byte hsn).1
      have e2 := (short_byte hsk).1
      rw [h1] at e1
      simp only [short, decide_eq_true_eq] at hsn hsk
      rw [show n = k by omega, ih h2]
/-- What bytes that are written begin with. -/
theorem putL_uncons {l : List Int} {b : UInt8} {r : List UInt8} (h : putL l = b :: r) : ∃ n l', l = n :: l' ∧ ((short n = true ∧ b = UInt8.ofNat (n + 1).toNat ∧ b ≠ 255 ∧ r = putL l') ∨ (short n = false ∧ b = 255 ∧ r = be 8 (bitsOf n) ++ putL l')) := by
  cases l with
  | nil => simp [putL] at h
  | cons n l =>
    refine ⟨n, l, rfl, ?_⟩
    rw [putL_cons] at h
    cases hs : short n
    · rw [putN_long hs, List.cons_append] at h
      injection h with h1 h2
      exact .inr ⟨rfl, h1.symm, h2.symm⟩
    · rw [putN_short hs] at h
      injection h with h1 h2
      exact .inl ⟨rfl, h1.symm, by rw [← h1]; exact (short_byte hs).2, h2.symm⟩
/-- No row is written so. -/
def NoRow (b : List UInt8) : Prop := ∀ l : List Int, (∀ x ∈ l, I64 x) → putL l ≠ b
/-- Bytes are a row's, or no row's. -/
theorem row_or_none (b : List UInt8) : (∃ l : List Int, (∀ x ∈ l, I64 x) ∧ putL l = b) ∨ NoRow b := by
  by_cases h : ∃ l : List Int, (∀ x ∈ l, I64 x) ∧ putL l = b
  · exact .inl h
  · exact .inr fun l hl he => h ⟨l, hl, he⟩

/-! ### Order -/
def lessB (a b : List UInt8) : Bool := if a.length = b.length then decide (Lib.compareBytes a b < 0) else decide (a.length < b.length)
theorem cmp_self (a : List UInt8) : Lib.compareBytes a a = 0 := by
  induction a with
  | nil => rfl
  | cons x a ih => simp [Lib.compareBytes, UInt8.lt_irrefl, ih]
theorem cmp_swap : ∀ (a b : List UInt8), Lib.compareBytes b a = - Lib.compareBytes a b
  | [], [] => rfl
  | [], _ :: _ => rfl
  | _ :: _, [] => rfl
  | x :: a, y :: b => by
    simp only [Lib.compareBytes]
    by_cases h1 : x < y
    · have h2 : ¬ y < x := fun h => UInt8.lt_irrefl _ (UInt8.lt_trans h1 h)
      simp [h1, h2]
    · by_cases h2 : y < x
      · simp [h1, h2]
      · simp [h1, h2, cmp_swap a b]
theorem cmp_eq0 : ∀ (a b : List UInt8), Lib.compareBytes a b = 0 ↔ a = b
  | [], [] => by simp [Lib.compareBytes]
  | [], _ :: _ => by simp [Lib.compareBytes]
  | _ :: _, [] => by simp [Lib.compareBytes]
  | x :: a, y :: b => by
    simp only [Lib.compareBytes]
    by_cases h1 : x < y
    · have : x ≠ y := fun h => by subst h; exact UInt8.lt_irrefl _ h1
      simp [h1, this]
    · by_cases h2 : y < x
      · have : x ≠ y := fun h => by subst h; exact UInt8.lt_irrefl _ h2
        simp [h1, h2, this]
      · have : x = y := UInt8.le_antisymm (UInt8.not_lt.1 h2) (UInt8.not_lt.1 h1)
        simp [this, UInt8.lt_irrefl, cmp_eq0 a b]
theorem cmp_range : ∀ (a b : List UInt8), Lib.compareBytes a b = -1 ∨ Lib.compareBytes a b = 0 ∨ Lib.compareBytes a b = 1
  | [], [] => by simp [Lib.compareBytes]
  | [], _ :: _ => by simp [Lib.compareBytes]
  | _ :: _, [] => by simp [Lib.compareBytes]
  | x :: a, y :: b => by
    simp only [Lib.compareBytes]
    split
    · simp
    · split
      · simp
      · exact cmp_range a b
theorem cmp_trans : ∀ (a b c : List UInt8), Lib.compareBytes a b < 0 → Lib.compareBytes b c < 0 → Lib.compareBytes a c < 0
  | [], [], _, h, _ => by simp [Lib.compareBytes] at h
  | _ :: _, [], _, h, _ => by simp [Lib.compareBytes] at h
  | _, _ :: _, [], _, h => by simp [Lib.compareBytes] at h
  | [], _ :: _, _ :: _, _, _ => by simp [Lib.compareBytes]
  | x :: a, y :: b, z :: c, h1, h2 => by
    simp only [Lib.compareBytes] at h1 h2 ⊢
    have ih := cmp_trans a b c
    by_cases xy : x < y
    · by_cases yz : y < z
      · have := UInt8.lt_trans xy yz
        simp [this]
      · by_cases zy : z < y
        · simp [yz, zy] at h2
        · have e : y = z := UInt8.le_antisymm (UInt8.not_lt.1 zy) (UInt8.not_lt.1 yz)
          subst e
          simp [xy]
    · by_cases yx : y < x
      · simp [xy, yx] at h1
      · have e : x = y := UInt8.le_antisymm (UInt8.not_lt.1 yx) (UInt8.not_lt.1 xy)
        subst e
        by_cases yz : x < z
        · simp [yz]
        · by_cases zy : z < x
          · simp [yz, zy] at h2
          · simp only [yz, zy, xy, if_false] at h1 h2 ⊢
            exact ih h1 h2
theorem bytesLess_eq : ∀ (a b : List UInt8), Op.bytesLess a b = decide (Lib.compareBytes a b < 0)
  | [], [] => by simp [Lib.compareBytes, Op.bytesLess]
  | [], _ :: _ => by simp [Lib.compareBytes, Op.bytesLess]
  | _ :: _, [] => by simp [Lib.compareBytes, Op.bytesLess]
  | x :: a, y :: b => by
    simp only [Lib.compareBytes, Op.bytesLess]
    by_cases h1 : x < y
    · simp [h1]
    · by_cases h2 : y < x
      · have : x ≠ y := fun h => by subst h; exact UInt8.lt_irrefl _ h2
        simp [h1, h2, this]
      · have : x = y := UInt8.le_antisymm (UInt8.not_lt.1 h2) (UInt8.not_lt.1 h1)
        simp [this, UInt8.lt_irrefl, bytesLess_eq a b]
theorem less_self (a : List UInt8) : lessB a a = false := by simp [lessB, cmp_self]
theorem less_trans {a b c : List UInt8} (h1 : lessB a b = true) (h2 : lessB b c = true) : lessB a c = true := by
  unfold lessB at *
  split at h1 <;> split at h2 <;> split <;> simp only [decide_eq_true_eq] at * <;> first | omega | exact cmp_trans _ _ _ h1 h2
theorem less_long {a b : List UInt8} (h : b.length < a.length) : lessB a b = false := by unfold lessB; rw [if_neg (by omega)]; simp; omega
theorem less_short {a b : List UInt8} (h : a.length < b.length) : lessB a b = true := by unfold lessB; rw [if_neg (by omega)]; simpa using h
/-- Of two rows one is below, unless they are the same. -/
theorem less_one (a b : List UInt8) : (lessB a b || lessB b a) = !decide (a = b) := by
  unfold lessB
  by_cases h : a.length = b.length
  · rw [if_pos h, if_pos h.symm, cmp_swap a b]
    have := cmp_eq0 a b
    rcases cmp_range a b with e | e | e <;> rw [e] at this ⊢ <;> simp at this ⊢ <;> exact this
  · rw [if_neg h, if_neg (fun e => h e.symm)]
    have : a ≠ b := fun e => h (by rw [e])
    simp [this]
    omega
theorem less_not_both (a b : List UInt8) : (lessB a b && lessB b a) = false := by
  unfold lessB
  by_cases h : a.length = b.length
  · rw [if_pos h, if_pos h.symm, cmp_swap a b]
    rcases cmp_range a b with e | e | e <;> rw [e] <;> simp
  · rw [if_neg h, if_neg (fun e => h e.symm)]
    simp
    omega
end Go.Proofs.Ytonlefopjpdecaa
