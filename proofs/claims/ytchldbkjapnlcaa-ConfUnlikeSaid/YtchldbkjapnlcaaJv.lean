/- A row of numbers written by the document's own; bytes read as a row of numbers, by the code and by the document's own. The functions that read bytes as a row of numbers: what they answer. -/
import Derived.Test.YtchldbkjapnlcaaJp
set_option linter.unusedVariables false
set_option linter.unusedSimpArgs false
section
namespace Go.Proofs.Ytchldbkjapnlcaa
open Go.RowKit

set_option maxRecDepth 100000 in
set_option maxHeartbeats 2000000 in
theorem ref_put (A : Option Addr) (n c : Nat) (l : List Int) (w : World) (hl : l.length = n) (hr : RdI w A l) (hi : ∀ x ∈ l, I64 x) (hn : n ≤ 1000000) :
  Calls Try.prog 47 #[.slice A n c] w (GivesB w (putL l)) := by
 subst hl
 have HR := Kept.mk hr
 have HI := Kept.mk hi
 clear hr hi
 go_enter Try.func47, Try.ntmps47
 go_wp2_with fail
 go_loopw [3, 4] (fun v i wr => ∃ k : Nat, k ≤ l.length ∧ i = .int .i64 k ∧ OwnB wr w.heap.size v (putL (l.take k)) ∧ Below w.heap.size w wr) (fun _ i _ => l.length - (intOf i).toNat)
 case atStart => exact ⟨0, Nat.zero_le _, rfl, by simpa [putL] using OwnB.nil, Below.refl _ _⟩
 case round =>
  obtain ⟨k, hk, rfl, ho, hb⟩ := hrel
  by_cases hlt : k < l.length
  ·obtain ⟨b, o, rfl, hb1, q0⟩ := (HR.out.past hb).at_ hlt
   obtain ⟨hx0, hx1⟩ := HI.out l[k] (List.getElem_mem hlt)
   have htk : putL (l.take (k + 1)) = putL (l.take k) ++ putN l[k] := by rw [List.take_succ_eq_append_getElem hlt, putL_snoc]
   have hlen : (putL (l.take k)).length < 10000000 := by have := (putL_length_le (l.take k)).2; rw [List.length_take] at this; omega
   have HO := Kept.mk ho
   have HB := Kept.mk hb
   have HT := Kept.mk htk
   have HL := Kept.mk hlen
   clear ho hb htk hlen
   by_cases hs : -1 ≤ l[k] ∧ l[k] ≤ 253
   ·obtain ⟨hs0, hs1⟩ := hs
    have w0 : IntKind.i64.wrap (l[k] + 1) = l[k] + 1 := IntWalk.i64_in _ (by omega)
    have w1 : IntKind.u8.wrap (l[k] + 1) = l[k] + 1 := IntWalk.u8_in _ (by omega)
    have HN : Kept (putN l[k] = [UInt8.ofNat (l[k] + 1).toNat]) := ⟨putN_short (by simp [short, hs0, hs1])⟩
    go_wp2_with (at_builtin; go_must (refine append_byte _ rfl (.tmp 23) (.tmp 27) rfl w.heap.size rfl (HO.out.past (below_alloc_self _ _)) _ (UInt8.ofNat (l[k] + 1).toNat) _ rfl (heap_at_new (by simp)) ?cn (by have := HL.out; omega) ?c1 ?_))
    case cn => exact byte_short ⟨hs0, hs1⟩
    case c1 => have := HB.out.size; simp; omega
    intro v' w' h1 h2 h3
    rw [← HN.out, ← HT.out] at h1
    have H1 := Kept.mk h1
    have H3 := Kept.mk h3
    clear h1 h2 h3
    go_wp2_with fail
    go_roundw
    case rel => exact ⟨k + 1, by omega, by go_num, H1.out, (HB.out.alloc HB.out.size _).trans H3.out⟩
    case measure => simp [intOf]; omega
   ·have hsf : short l[k] = false := by simp only [short, decide_eq_false_iff_not]; exact hs
    have HN : Kept (putN l[k] = 255 :: be 8 (bitsOf l[k])) := ⟨putN_long hsf⟩
    have hor : l[k] < -1 ∨ (-1 ≤ l[k] ∧ 253 < l[k]) := by omega
    clear hs hsf
    rcases hor with hs | ⟨hs0, hs1⟩
    all_goals
     go_wp2_with (at_builtin; go_must (refine append_byte _ rfl (.tmp 29) (.tmp 30) rfl w.heap.size rfl (HO.out.past (below_alloc_self _ _)) _ 255 _ rfl (heap_at_new (by simp)) rfl (by have := HL.out; omega) ?c1 ?_))
     case c1 => have := HB.out.size; simp; omega
     intro v' w' h1 h2 h3
     have H1 := Kept.mk h1
     have H3 := Kept.mk (((below_alloc_self wr _).mono HB.out.size).trans h3)
     clear h1 h2 h3
     go_wp2_with fail
     go_loopw [3, 6] (fun v s wr2 => ∃ (j : Nat) (sh : Int), j ≤ 8 ∧ s = .int .i64 sh ∧ Kept (sh = 7 - (j : Int)) ∧ OwnB wr2 w.heap.size v (putL (l.take k) ++ [255] ++ (be 8 (bitsOf l[k])).take j) ∧ Below w.heap.size w' wr2) (fun _ s _ => ((intOf s) + 1).toNat)
     case atStart => exact ⟨0, 7, by omega, rfl, ⟨by simp⟩, by simpa using H1.out, Below.refl _ _⟩
     case round =>
      obtain ⟨j, sh, hj, rfl, hsh, ho2, hb2⟩ := hrel
      have HO2 := Kept.mk ho2
      have HB2 := Kept.mk hb2
      clear ho2 hb2
      by_cases hj8 : j < 8
      ·have hs0 : 0 ≤ sh := by have := hsh.out; omega
       have hs1 : sh ≤ 7 := by have := hsh.out; omega
       have hs2 : 8 * sh ≤ 64 := by have := hsh.out; omega
       have wsub : IntKind.i64.wrap (sh - 1) = sh - 1 := IntWalk.i64_in _ (by omega)
       have wmul : IntKind.i64.wrap (8 * sh) = 8 * sh := IntWalk.i64_in _ (by omega)
       have wmul2 : IntKind.u64.wrap (8 * sh) = 8 * sh := IntWalk.u64_in _ (by omega)
       have wmul3 : 0 ≤ 8 * sh := by omega
       have wb := wrap_bits l[k]
       have HBY := Kept.mk (byte_of (u := bitsOf l[k]) (s := 8 * sh) hj8 (by have := hsh.out; omega))
       have hlen2 : Kept ((putL (l.take k) ++ [255] ++ (be 8 (bitsOf l[k])).take j).length < 100000000) := ⟨by have := HL.out; rw [List.length_append, List.length_append, List.length_take, be_length, List.length_singleton]; omega⟩
       go_wp2_with (at_builtin; go_must (refine append_byte _ rfl (.tmp 36) (.tmp 44) rfl w.heap.size rfl (HO2.out.past (below_alloc_self _ _)) _ ((be 8 (bitsOf l[k]))[j]'(by rw [be_length]; exact hj8)) _ rfl (heap_at_new (by simp)) ?cn hlen2.out ?c1 ?_))
       case cn => exact HBY.out
       case c1 => have := HB2.out.size; have := H3.out.size; have := HB.out.size; simp; omega
       intro v2 w2 h1 h2 h3
       have H1 : Kept (OwnB w2 w.heap.size v2 (putL (l.take k) ++ [255] ++ (be 8 (bitsOf l[k])).take (j + 1))) := ⟨by simpa using h1⟩
       have H3' := Kept.mk (HB2.out.trans (((below_alloc_self _ _).mono (by have := HB2.out.size; have := H3.out.size; have := HB.out.size; omega)).trans h3))
       clear h1 h2 h3
       go_wp2_with fail
       go_roundw
       case rel => exact ⟨j + 1, sh - 1, by omega, by go_num, ⟨by have := hsh.out; omega⟩, H1.out, H3'.out⟩
       case measure => simp [intOf]; omega
      ·have hs0 : sh < 0 := by have := hsh.out; omega
       have hfull : (be 8 (bitsOf l[k])).take j = be 8 (bitsOf l[k]) := List.take_of_length_le (by rw [be_length]; omega)
       have HF : Kept (putL (l.take k) ++ [255] ++ (be 8 (bitsOf l[k])).take j = putL (l.take (k + 1))) := ⟨by rw [hfull, HT.out, HN.out, List.append_assoc]; rfl⟩
       rw [HF.out] at HO2
       clear hfull
       go_wp2_with fail
       go_roundw
       case rel => exact ⟨k + 1, by omega, by go_num, HO2.out, HB.out.trans (H3.out.trans HB2.out)⟩
       case measure => simp [intOf]; omega
  ·have hke : l.take k = l := List.take_of_length_le (by omega)
   rw [hke] at ho
   have HO := Kept.mk ho
   have HB := Kept.mk hb
   clear ho hb hke
   go_wp2_with fail
   go_ret
   exact ⟨_, rfl, HO.out, HB.out⟩

/-! ### Bytes read -/
/-- What a row whose bytes are b comes to, where the first numbers m have been read off the bytes ahead of place i. -/
def InvB (b : List UInt8) (m : List Int) (i : Nat) : Prop := (∀ x ∈ m, I64 x) ∧ ∀ l : List Int, (∀ x ∈ l, I64 x) → putL l = b → ∃ l', l = m ++ l' ∧ putL l' = b.drop i
theorem binv_start (b : List UInt8) : InvB b [] 0 := ⟨by simp, fun l _ h => ⟨l, by simp, by simpa using h⟩⟩
theorem byte_i64 (x : UInt8) : I64 ((x.toNat : Int) - 1) := by unfold I64; have := x.toNat_lt; omega
theorem binv_short {b : List UInt8} {m : List Int} {i : Nat} (h : InvB b m i) (hi : i < b.length) (hb : b[i] ≠ 255) : InvB b (m ++ [(b[i].toNat : Int) - 1]) (i + 1) := by
 refine ⟨fun x hx => ?_, fun l hl he => ?_⟩
 ·rcases List.mem_append.1 hx with hx | hx
  ·exact h.1 x hx
  ·rw [List.mem_singleton.1 hx]; exact byte_i64 _
 ·obtain ⟨l', rfl, h2⟩ := h.2 l hl he
  rw [List.drop_eq_getElem_cons hi] at h2
  obtain ⟨n, l2, rfl, hc⟩ := putL_uncons h2
  rcases hc with ⟨hs, hb1, _, hr⟩ | ⟨_, hb1, _⟩
  ·have e := (short_byte hs).1
   simp only [short, decide_eq_true_eq] at hs
   rw [← hb1] at e
   exact ⟨l2, by rw [List.append_assoc, List.singleton_append]; congr 2; omega, hr.symm⟩
  ·exact absurd hb1 hb
theorem binv_cut {b : List UInt8} {m : List Int} {i : Nat} (h : InvB b m i) (hi : i < b.length) (hb : b[i] = 255) (hn : b.length < i + 9) : NoRow b := by
 intro l hl he
 obtain ⟨l', rfl, h2⟩ := h.2 l hl he
 rw [List.drop_eq_getElem_cons hi] at h2
 obtain ⟨n, l2, rfl, hc⟩ := putL_uncons h2
 rcases hc with ⟨_, _, hb1, _⟩ | ⟨_, _, hr⟩
 ·exact hb1 hb
 ·have := congrArg List.length hr
  rw [List.length_append, be_length, List.length_drop] at this
  omega
/-- The number that eight bytes are. -/
def numAt (b : List UInt8) (i : Nat) : Nat := unbe ((b.drop (i + 1)).take 8)
theorem numAt_lt {b : List UInt8} {i : Nat} (hn : i + 9 ≤ b.length) : numAt b i < 256 ^ 8 := by
 have := unbe_lt ((b.drop (i + 1)).take 8)
 rwa [List.length_take, List.length_drop, Nat.min_eq_left (by omega)] at this
theorem binv_read {b : List UInt8} {m : List Int} {i : Nat} (h : InvB b m i) (hi : i < b.length) (hb : b[i] = 255) {l : List Int} (hl : ∀ x ∈ l, I64 x) (he : putL l = b) :
  ∃ n l2, l = m ++ n :: l2 ∧ short n = false ∧ n = unbits (numAt b i) ∧ putL l2 = b.drop (i + 9) := by
 obtain ⟨l', rfl, h2⟩ := h.2 l hl he
 rw [List.drop_eq_getElem_cons hi] at h2
 obtain ⟨n, l2, rfl, hc⟩ := putL_uncons h2
 rcases hc with ⟨_, _, hb1, _⟩ | ⟨hs, _, hr⟩
 ·exact absurd hb hb1
 ·refine ⟨n, l2, rfl, hs, ?_, ?_⟩
  ·unfold numAt
   rw [hr, List.take_left' (be_length 8 _), unbe_be, Nat.mod_eq_of_lt (bits_lt n), unbits_bits (hl n (by simp))]
  ·have : b.drop (i + 9) = (b.drop (i + 1)).drop 8 := by rw [List.drop_drop]
   rw [this, hr, List.drop_left' (be_length 8 _)]
theorem binv_long {b : List UInt8} {m : List Int} {i : Nat} (h : InvB b m i) (hi : i < b.length) (hb : b[i] = 255) (hn : i + 9 ≤ b.length) : InvB b (m ++ [unbits (numAt b i)]) (i + 9) := by
 refine ⟨fun x hx => ?_, fun l hl he => ?_⟩
 ·rcases List.mem_append.1 hx with hx | hx
  ·exact h.1 x hx
  ·rw [List.mem_singleton.1 hx]; exact unbits_i64 (numAt_lt hn)
 ·obtain ⟨n, l2, rfl, _, rfl, hr⟩ := binv_read h hi hb hl he
  exact ⟨l2, by simp, hr⟩
theorem binv_bad {b : List UInt8} {m : List Int} {i : Nat} (h : InvB b m i) (hi : i < b.length) (hb : b[i] = 255) (hs : short (unbits (numAt b i)) = true) : NoRow b := by
 intro l hl he
 obtain ⟨n, l2, _, hs', rfl, _⟩ := binv_read h hi hb hl he
 rw [hs] at hs'
 cases hs'
theorem binv_end {b : List UInt8} {m : List Int} {i : Nat} (h : InvB b m i) (hi : b.length ≤ i) (hne : putL m ≠ b) : NoRow b := by
 intro l hl he
 obtain ⟨l', rfl, h2⟩ := h.2 l hl he
 rw [List.drop_eq_nil_of_le hi] at h2
 have := (putL_length_le l').1
 rw [h2] at this
 have : l' = [] := List.eq_nil_of_length_eq_zero (by simpa using this)
 subst this
 exact hne (by simpa using he)
theorem put_short {b : List UInt8} {m : List Int} {i : Nat} (h : putL m = b.take i) (hi : i < b.length) (hb : b[i] ≠ 255) : putL (m ++ [(b[i].toNat : Int) - 1]) = b.take (i + 1) := by
 have hlt := b[i].toNat_lt
 have hs : short ((b[i].toNat : Int) - 1) = true := by
  have : b[i].toNat ≠ 255 := fun e => hb (UInt8.toNat.inj e)
  simp only [short, decide_eq_true_eq]
  omega
 rw [putL_snoc, h, List.take_succ_eq_append_getElem hi, putN_short hs]
 congr 2
 apply UInt8.toNat.inj
 rw [UInt8.toNat_ofNat']
 omega
theorem put_long {b : List UInt8} {m : List Int} {i : Nat} (h : putL m = b.take i) (hi : i < b.length) (hb : b[i] = 255) (hn : i + 9 ≤ b.length) (hs : short (unbits (numAt b i)) = false) : putL (m ++ [unbits (numAt b i)]) = b.take (i + 9) := by
 have hlt := numAt_lt hn
 rw [putL_snoc, h, putN_long hs, bits_unbits hlt]
 unfold numAt
 rw [be_unbe 8 _ (by rw [List.length_take, List.length_drop]; omega), ← hb, ← List.append_cancel_left_eq [] ]
 have e : b.drop i = b[i] :: b.drop (i + 1) := List.drop_eq_getElem_cons hi
 have e2 : b.take (i + 9) = b.take i ++ (b.drop i).take 9 := List.take_add
 rw [e2, e, List.take_succ_cons]
/-- What bytes come to that are read. -/
structure Got (b : List UInt8) (w : World) (en : Ending) (w' : World) (m : List Int) (ok : Bool) (A : Option Addr) (c : Nat) : Prop where
 en : en = .returned (.tuple #[.slice A m.length c, .bool ok])
 cap : m.length ≤ c
 len : m.length ≤ b.length
 rd : RdI w' A m
 below : Below w.heap.size w w'
 is64 : ∀ x ∈ m, I64 x
 yes : ok = true → putL m = b
 no : ok = false → m = [] ∧ NoRow b
theorem or_byte (x : Nat) (y : UInt8) (h : x < 256 ^ 7) : Go.bits .or .u64 (IntKind.u64.wrap ((x : Int) * 256)) (y.toNat : Int) = ((x * 256 + y.toNat : Nat) : Int) := by
 have hy := y.toNat_lt
 have e1 : IntKind.u64.wrap ((x : Int) * 256) = ((x * 256 : Nat) : Int) := by rw [IntKind.wrap_u64]; omega
 rw [e1]
 have key : (BitVec.ofInt 64 ((x * 256 : Nat) : Int) ||| BitVec.ofInt 64 (y.toNat : Int)).toNat = x * 256 + y.toNat := by
  rw [BitVec.toNat_or, BitVec.toNat_ofInt, BitVec.toNat_ofInt]
  have a1 : (((x * 256 : Nat) : Int) % ((2 ^ 64 : Nat) : Int)).toNat = 2 ^ 8 * x := by omega
  have a2 : ((y.toNat : Int) % ((2 ^ 64 : Nat) : Int)).toNat = y.toNat := by omega
  rw [a1, a2, ← Nat.two_pow_add_eq_or_of_lt (by omega)]
  omega
 show IntKind.u64.wrap ((BitVec.ofInt 64 ((x * 256 : Nat) : Int) ||| BitVec.ofInt 64 (y.toNat : Int)).toNat : Nat) = _
 rw [key, IntKind.wrap_u64]
 omega
end Go.Proofs.Ytchldbkjapnlcaa
end
section
namespace Go.Proofs.Ytchldbkjapnlcaa
open Go.RowKit

theorem cut_mid {w : World} {A : Option Addr} {b : List UInt8} (h : RdB w A b) {c : Nat} (hc : b.length ≤ c) (lo : Nat) (hh : lo + 8 ≤ b.length) :
  ∃ A1, (∀ w1, (Instr.slice 66 (.slice A b.length c) (some (.int .i64 (lo : Int))) (some (.int .i64 ((lo : Int) + 8))) none).run Try.prog w1 = .ok (.slice A1 8 (c - lo)) w1) ∧ Reads w w.heap.size 1 A1 8 (bytCs ((b.drop lo).take 8)) := by
 obtain ⟨i, hi, _, hs, _⟩ := info_parts info_byte
 refine ⟨if c = lo then A else A.map (·.add (lo * 1)), fun w1 => ?_, ?_⟩
 ·have he : Try.prog.elem 66 = 5 := by simp [Program.elem, Try.underlying66]
  rw [run_slice_lh (P := Try.prog) (w := w1) (t := 66) (a := A) (len := b.length) (cap := c) (by rw [he]; exact Try.underlying66) .i64 .i64 (lo : Int) ((lo : Int) + 8) (by omega) (by omega) (by omega)]
  have e1 : ((lo : Int)).toNat = lo := by omega
  have e2 : ((lo : Int) + 8).toNat - lo = 8 := by omega
  simp only [he, sizeOf, typeInfo, Sem.run_bind, Sem.run_pure, Result.andThen_ok, run_program, hi, sliced, e1, e2, hs]
 ·have := (h.from_ (k := lo) (by omega) hc).to (k := 8) (by rw [List.length_drop]; omega)
  unfold RdB at this
  rwa [List.length_take, List.length_drop, Nat.min_eq_left (by omega)] at this
theorem reads_at {w : World} {A : Option Addr} {T : List UInt8} {n : Nat} (h : Reads w w.heap.size 1 A n (bytCs T)) {j : Nat} (hj : j < n) (hT : j < T.length) : ∃ b o, A = some ⟨b, o, none⟩ ∧ b < w.heap.size ∧ w.cell? ⟨b, o + j, none⟩ = some (.int .u8 T[j].toNat) := by
 obtain ⟨b, o, e, hb, hc⟩ := Reads.cells h hj
 refine ⟨b, o, e, hb, ?_⟩
 have := hc 0 (.int .u8 T[j].toNat) (by omega) (by simp [bytCs, hT])
 simpa using this
theorem wrap_unbits {u : Nat} (h : u < 256 ^ 8) : IntKind.i64.wrap (u : Int) = unbits u := by rw [IntKind.wrap_i64]; unfold unbits; split <;> omega
theorem unbe_take_lt (T : List UInt8) (j : Nat) (h : j ≤ 7) : unbe (T.take j) < 256 ^ 7 := by
 have := unbe_lt (T.take j)
 refine Nat.lt_of_lt_of_le this (Nat.pow_le_pow_right (by omega) ?_)
 rw [List.length_take]
 omega
theorem unbe_take_succ {T : List UInt8} {j : Nat} (h : j < T.length) : unbe (T.take (j + 1)) = unbe (T.take j) * 256 + T[j].toNat := by
 rw [List.take_succ_eq_append_getElem h, unbe_snoc]

set_option maxRecDepth 100000 in
set_option maxHeartbeats 2000000 in
theorem code_get (A : Option Addr) (n c : Nat) (b : List UInt8) (w : World) (hl : b.length = n) (hc : n ≤ c) (hr : RdB w A b) (hn : n ≤ 100000) :
  Calls Try.prog 79 #[.slice A n c] w fun en w' => ∃ m ok A' c', Got b w en w' m ok A' c' := by
 subst hl
 have HR := Kept.mk hr
 clear hr
 go_enter Try.func79, Try.ntmps79
 go_wp2_with fail
 go_loopw [4, 5] (fun v i wr => ∃ (m : List Int) (at_ : Nat), at_ ≤ b.length ∧ i = .int .i64 at_ ∧ m.length ≤ at_ ∧ OwnI wr w.heap.size v m ∧ Below w.heap.size w wr ∧ Kept (InvB b m at_)) (fun _ i _ => b.length - (intOf i).toNat)
 case atStart => exact ⟨[], 0, Nat.zero_le _, rfl, by simp, OwnI.nil, Below.refl _ _, ⟨binv_start b⟩⟩
 case round =>
  obtain ⟨m, k, hk, rfl, hm, ho, hb, hinv⟩ := hrel
  have HO := Kept.mk ho
  have HB := Kept.mk hb
  clear ho hb
  by_cases hlt : k < b.length
  ·obtain ⟨g, o, rfl, hb1, q0⟩ := (HR.out.past HB.out).at_ hlt
   by_cases h255 : b[k] = 255
   ·have hne : ((b[k].toNat : Int) != 255) = false := by rw [h255]; rfl
    have H255 := Kept.mk h255
    have w1 : IntKind.i64.wrap ((k : Int) + 1) = (k : Int) + 1 := IntWalk.i64_in _ (by omega)
    have w2 : IntKind.i64.wrap ((k : Int) + 1 + 8) = (k : Int) + 1 + 8 := IntWalk.i64_in _ (by omega)
    clear h255
    by_cases h9 : b.length < k + 9
    ·have hgt : (b.length : Int) < (k : Int) + 1 + 8 := by omega
     have HNO := Kept.mk (binv_cut hinv.out hlt H255.out h9)
     clear h9
     go_wp2_with fail
     go_ret2
     exact ⟨[], false, none, 0, rfl, by simp, by simp, Reads.none_, HB.out, by simp, by simp, fun _ => ⟨rfl, HNO.out⟩⟩
    ·have hgt : (k : Int) + 1 + 8 ≤ (b.length : Int) := by omega
     have h9' : k + 9 ≤ b.length := by omega
     have HI := Kept.mk (binv_long hinv.out hlt H255.out h9')
     have HNL := Kept.mk (numAt_lt h9')
     obtain ⟨T, hT⟩ : ∃ T, T = (b.drop (k + 1)).take 8 := ⟨_, rfl⟩
     have HT := Kept.mk hT
     have hTl : T.length = 8 := by rw [hT, List.length_take, List.length_drop]; omega
     have HTL := Kept.mk hTl
     have HNU : Kept (numAt b k = unbe T) := ⟨by unfold numAt; rw [hT]⟩
     obtain ⟨A1, hcut, hrd⟩ := cut_mid HR.out hc (k + 1) (by omega)
     rw [← hT] at hrd
     have HRD := Kept.mk hrd
     rw [show ((k + 1 : Nat) : Int) = (k : Int) + 1 by omega] at hcut
     clear hT hTl hrd h9 h9'
     go_wp2_with fail
     obtain ⟨wq, hwq⟩ : ∃ wq : World, wq = wr := ⟨_, rfl⟩
     subst hwq
     go_loopw [6, 43] (fun nv iv wr2 => ∃ j : Nat, j ≤ 8 ∧ iv = .int .i64 j ∧ nv = .int .u64 (unbe (T.take j) : Nat) ∧ Below wq.heap.size wq wr2) (fun _ iv _ => 8 - (intOf iv).toNat)
     case atStart => exact ⟨0, by omega, rfl, rfl, Below.refl _ _⟩
     case round =>
      obtain ⟨j, hj, rfl, rfl, hb2⟩ := hrel
      have HB2 := Kept.mk (HB.out.trans (hb2.mono HB.out.size))
      have HB2' := Kept.mk hb2
      clear hb2
      by_cases hj8 : j < 8
      ·obtain ⟨g1, o1, rfl, hg1, q1⟩ := reads_at (Reads.past HRD.out HB2.out) hj8 (by rw [HTL.out]; exact hj8)
       have hor := or_byte (unbe (T.take j)) (T[j]'(by rw [HTL.out]; exact hj8)) (unbe_take_lt T j (by omega))
       have hlt8 := (T[j]'(by rw [HTL.out]; exact hj8)).toNat_lt
       have w5 : IntKind.u64.wrap ((T[j]'(by rw [HTL.out]; exact hj8)).toNat : Int) = ((T[j]'(by rw [HTL.out]; exact hj8)).toNat : Int) := IntWalk.u64_in _ (by omega)
       have HS := Kept.mk (unbe_take_succ (T := T) (j := j) (by rw [HTL.out]; exact hj8))
       go_wp2_with fail
       go_roundw
       case rel => exact ⟨j + 1, by omega, by go_num, by rw [HS.out, Int.natCast_add, Int.natCast_mul]; rfl, HB2'.out⟩
       case measure => simp [intOf]; omega
      ·have hke : T.take j = T := List.take_of_length_le (by rw [HTL.out]; omega)
       rw [hke]
       have hj1 : j = 8 := by omega
       subst hj1
       clear hke
       have w6 : IntKind.i64.wrap (unbe T : Int) = unbits (unbe T) := wrap_unbits (by rw [← HNU.out]; exact HNL.out)
       have w7 : IntKind.i64.wrap ((k : Int) + 9) = (k : Int) + 9 := IntWalk.i64_in _ (by omega)
       have HO2 := Kept.mk (HO.out.past HB2'.out)
       go_wp2_with (at_builtin; go_must (refine append_int _ rfl (.tmp 53) (.tmp 56) rfl w.heap.size rfl (HO2.out.past (below_alloc_self _ _)) _ (unbits (unbe T)) rfl (heap_at_new (by simp)) (by omega) ?c1 ?_))
       case c1 => have := HB2.out.size; simp; omega
       intro v' w' h1 h2 h3
       rw [← HNU.out] at h1
       have H1 := Kept.mk h1
       have H3 := Kept.mk (HB2.out.trans (((below_alloc_self _ _).mono HB2.out.size).trans h3))
       clear h1 h2 h3
       go_wp2_with fail
       go_roundw
       case rel => exact ⟨_, k + 9, by omega, by go_num, by simp; omega, H1.out, H3.out, HI⟩
       case measure => simp [intOf]; omega
   ·have hne : ((b[k].toNat : Int) != 255) = true := by
     have : b[k].toNat ≠ 255 := fun e => h255 (UInt8.toNat.inj e)
     simp; omega
    have HI := Kept.mk (binv_short hinv.out hlt h255)
    clear h255
    have hlt8 := b[k].toNat_lt
    have w0 : IntKind.i64.wrap (b[k].toNat : Int) = (b[k].toNat : Int) := IntWalk.i64_in _ (by omega)
    have w1 : IntKind.i64.wrap ((b[k].toNat : Int) - 1) = (b[k].toNat : Int) - 1 := IntWalk.i64_in _ (by omega)
    have w2 : IntKind.i64.wrap ((k : Int) + 1) = (k : Int) + 1 := IntWalk.i64_in _ (by omega)
    go_wp2_with (at_builtin; go_must (refine append_int _ rfl (.tmp 18) (.tmp 25) rfl w.heap.size rfl (HO.out.past (below_alloc_self _ _)) _ ((b[k].toNat : Int) - 1) rfl (heap_at_new (by simp)) (by omega) ?c1 ?_))
    case c1 => have := HB.out.size; simp; omega
    intro v' w' h1 h2 h3
    have H1 := Kept.mk h1
    have H3 := Kept.mk (HB.out.trans (((below_alloc_self _ _).mono HB.out.size).trans h3))
    clear h1 h2 h3
    go_wp2_with fail
    go_roundw
    case rel => exact ⟨_, k + 1, by omega, by go_num, by simp; omega, H1.out, H3.out, HI⟩
    case measure => simp [intOf]; omega
  ·obtain ⟨A1, c1, rfl, hc1, hr1⟩ := HO.out.shape
   have HR1 := Kept.mk hr1
   clear hr1
   go_wp2_with fail
   refine (code_put A1 m.length c1 m _ rfl HR1.out hinv.out.1 (by omega)).mono ?_
   rintro en w1 ⟨v1, rfl, ho1, hb1⟩
   obtain ⟨A2, c2, rfl, hc2, hr2⟩ := ho1.shape
   have HR2 := Kept.mk hr2
   have HRI := Kept.mk (HR1.out.past hb1)
   have HB1 := Kept.mk (HB.out.trans (hb1.mono HB.out.size))
   clear ho1 hr2 hb1
   go_wp2_with fail
   refine (bytes_equal A2 A _ _ c2 c (putL m) b _ rfl rfl HR2.out (HR.out.past HB1.out)).mono ?_
   rintro en w2 ⟨rfl, hw⟩
   have hw' := hw.symm
   subst hw'
   by_cases he : putL m = b
   ·have hd : decide (putL m = b) = true := by simp [he]
    have HE := Kept.mk he
    clear he
    rw [hd]
    clear hd
    go_wp2_with fail
    go_ret2
    exact ⟨m, true, A1, c1, rfl, hc1, by omega, HRI.out, HB1.out, hinv.out.1, fun _ => HE.out, by simp⟩
   ·have hd : decide (putL m = b) = false := by simp [he]
    have HE := Kept.mk (binv_end hinv.out (by omega) he)
    clear he
    rw [hd]
    clear hd
    go_wp2_with fail
    go_ret2
    exact ⟨[], false, none, 0, rfl, by simp, by simp, Reads.none_, HB1.out, by simp, by simp, fun _ => ⟨rfl, HE.out⟩⟩
end Go.Proofs.Ytchldbkjapnlcaa
end
