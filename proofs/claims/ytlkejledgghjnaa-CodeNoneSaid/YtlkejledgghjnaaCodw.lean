/- What the functions of package code, and the document's own of chapters 1 to 3, answer: rows of bytes held against each other; a row of numbers written. -/
import Derived.Test.YtlkejledgghjnaaCodp
import Derived.BigQuiet
namespace Go.Proofs.Ytlkejledgghjnaa
open Go.RowKit

theorem bytes_equal (A A' : Option Addr) (n m c c' : Nat) (a b : List UInt8) (w : World) (ha : a.length = n) (hb : b.length = m) (hr : RdB w A a) (hr' : RdB w A' b) :
    Calls Try.prog 22 #[.slice A n c, .slice A' m c'] w fun en w' => en = .returned (.bool (decide (a = b))) ∧ w' = w := by
  have h1 := run_string (c := c) hr ha
  have h2 := run_string (c := c') hr' hb
  have he : (a == b) = decide (a = b) := by by_cases h : a = b <;> simp [h]
  go_enter Try.func22, Try.ntmps22
  go_wp2_with fail
  go_ret
  exact ⟨by rw [← he]; rfl, rfl⟩
theorem same_bytes (A A' : Option Addr) (n m c c' : Nat) (a b : List UInt8) (w : World) (ha : a.length = n) (hb : b.length = m) (hr : RdB w A a) (hr' : RdB w A' b) :
    Calls Try.prog 15 #[.slice A n c, .slice A' m c'] w fun en w' => en = .returned (.bool (decide (a = b))) ∧ w' = w := by
  have h1 := run_string (c := c) hr ha
  have h2 := run_string (c := c') hr' hb
  have he : (a == b) = decide (a = b) := by by_cases h : a = b <;> simp [h]
  go_enter Try.func15, Try.ntmps15
  go_wp2_with fail
  go_ret
  exact ⟨by rw [← he]; rfl, rfl⟩
theorem bytes_compare (A A' : Option Addr) (n m c c' : Nat) (a b : List UInt8) (w : World) (ha : a.length = n) (hb : b.length = m) (hr : RdB w A a) (hr' : RdB w A' b) :
    Calls Try.prog 23 #[.slice A n c, .slice A' m c'] w fun en w' => en = .returned (.int .i64 (Lib.compareBytes a b)) ∧ w' = w := by
  subst ha hb
  have h1 := run_compare (c := c) (c' := c') hr hr'
  go_enter Try.func23, Try.ntmps23
  go_wp2
  rw [run_callFunc_extern Try.func33 (by kernel_rfl) (by kernel_rfl) (by kernel_rfl) (e := Extern.BytealgCompare.compare) (by kernel_rfl), h1]
  simp only [Result.andThen]
  rw [Oper.upon_value]
  go_wp2
  go_ret
  exact ⟨rfl, rfl⟩
theorem code_less (A A' : Option Addr) (n m c c' : Nat) (a b : List UInt8) (w : World) (ha : a.length = n) (hb : b.length = m) (hr : RdB w A a) (hr' : RdB w A' b) :
    Calls Try.prog 13 #[.slice A n c, .slice A' m c'] w fun en w' => en = .returned (.bool (lessB a b)) ∧ w' = w := by
  have HR := Kept.mk hr
  have HR' := Kept.mk hr'
  clear hr hr'
  by_cases h : a.length = b.length
  · have hl : lessB a b = decide (Lib.compareBytes a b < 0) := if_pos h
    have hnm : ((n : Int) != (m : Int)) = false := by rw [← ha, ← hb, h]; simp
    have HL := Kept.mk hl
    have HA := Kept.mk ha
    have HB := Kept.mk hb
    clear hl h ha hb
    go_enter Try.func13, Try.ntmps13
    go_wp2_with fail
    refine (bytes_compare A A' n m c c' a b _ HA.out HB.out HR.out HR'.out).mono ?_
    rintro en w1 ⟨rfl, hw⟩
    have hw' := hw.symm
    subst hw'
    go_wp2_with fail
    go_ret
    exact ⟨by rw [HL.out]; rfl, rfl⟩
  · have hl : lessB a b = decide (a.length < b.length) := if_neg h
    have hnm : ((n : Int) != (m : Int)) = true := by rw [← ha, ← hb]; simp; omega
    have HL := Kept.mk hl
    clear hl h
    subst ha hb
    go_enter Try.func13, Try.ntmps13
    go_wp2_with fail
    go_ret
    exact ⟨by rw [HL.out]; simp, rfl⟩
theorem ref_less (A A' : Option Addr) (n m c c' : Nat) (a b : List UInt8) (w : World) (ha : a.length = n) (hb : b.length = m) (hr : RdB w A a) (hr' : RdB w A' b) :
    Calls Try.prog 17 #[.slice A n c, .slice A' m c'] w fun en w' => en = .returned (.bool (lessB a b)) ∧ w' = w := by
  have h1 := run_string (c := c) hr ha
  have h2 := run_string (c := c') hr' hb
  have he := Kept.mk (bytesLess_eq a b)
  by_cases h : a.length = b.length
  · have hl : lessB a b = decide (Lib.compareBytes a b < 0) := if_pos h
    have hnm : ((n : Int) != (m : Int)) = false := by rw [← ha, ← hb, h]; simp
    have HL := Kept.mk hl
    clear hl h ha hb
    go_enter Try.func17, Try.ntmps17
    go_wp2_with fail
    go_ret
    exact ⟨by rw [HL.out, ← he.out]; rfl, rfl⟩
  · have hl : lessB a b = decide (a.length < b.length) := if_neg h
    have hnm : ((n : Int) != (m : Int)) = true := by rw [← ha, ← hb]; simp; omega
    have HL := Kept.mk hl
    clear hl h
    subst ha hb
    go_enter Try.func17, Try.ntmps17
    go_wp2_with fail
    go_ret
    exact ⟨by rw [HL.out]; simp, rfl⟩

/-! ### A number written -/
theorem byte_of {u j : Nat} {s : Int} (h : j < 8) (hs : s = 56 - 8 * (j : Int)) : IntKind.u8.wrap ((u : Int) / 2 ^ s.toNat) = ((be 8 u)[j]'(by rw [be_length]; exact h)).toNat := by
  have e : s.toNat = 8 * (7 - j) := by omega
  have e2 : (2 : Nat) ^ (8 * (7 - j)) = 256 ^ (7 - j) := by rw [Nat.pow_mul]
  rw [be_get 8 u j h, show 8 - 1 - j = 7 - j by omega, UInt8.toNat_ofNat', IntKind.wrap_u8, e, show (2 : Int) ^ (8 * (7 - j)) = ((2 ^ (8 * (7 - j)) : Nat) : Int) by simp, e2]
  omega
theorem wrap_bits (n : Int) : IntKind.u64.wrap n = (bitsOf n : Int) := by rw [IntKind.wrap_u64]; unfold bitsOf; omega
theorem byte_short {n : Int} (h : -1 ≤ n ∧ n ≤ 253) : n + 1 = ((UInt8.ofNat (n + 1).toNat).toNat : Int) := by rw [UInt8.toNat_ofNat']; omega

set_option maxRecDepth 100000 in
set_option maxHeartbeats 2000000 in
theorem code_put (A : Option Addr) (n c : Nat) (l : List Int) (w : World) (hl : l.length = n) (hr : RdI w A l) (hi : ∀ x ∈ l, I64 x) (hn : n ≤ 1000000) :
    Calls Try.prog 10 #[.slice A n c] w (GivesB w (putL l)) := by
  subst hl
  have HR := Kept.mk hr
  have HI := Kept.mk hi
  clear hr hi
  go_enter Try.func10, Try.ntmps10
  go_wp2_with fail
  go_loopw [3, 9] (fun v i wr => ∃ k : Nat, k ≤ l.length ∧ i = .int .i64 k ∧ OwnB wr w.heap.size v (putL (l.take k)) ∧ Below w.heap.size w wr) (fun _ i _ => l.length - (intOf i).toNat)
  case atStart => exact ⟨0, Nat.zero_le _, rfl, by simpa [putL] using OwnB.nil, Below.refl _ _⟩
  case round =>
    obtain ⟨k, hk, rfl, ho, hb⟩ := hrel
    by_cases hlt : k < l.length
    · obtain ⟨b, o, rfl, hb1, q0⟩ := (HR.out.past hb).at_ hlt
      obtain ⟨hx0, hx1⟩ := HI.out l[k] (List.getElem_mem hlt)
      have htk : putL (l.take (k + 1)) = putL (l.take k) ++ putN l[k] := by rw [List.take_succ_eq_append_getElem hlt, putL_snoc]
      have hlen : (putL (l.take k)).length < 10000000 := by have := (putL_length_le (l.take k)).2; rw [List.length_take] at this; omega
      have HO := Kept.mk ho
      have HB := Kept.mk hb
      have HT := Kept.mk htk
      have HL := Kept.mk hlen
      clear ho hb htk hlen
      by_cases hs : -1 ≤ l[k] ∧ l[k] ≤ 253
      · obtain ⟨hs0, hs1⟩ := hs
        have w0 : IntKind.i64.wrap (l[k] + 1) = l[k] + 1 := IntWalk.i64_in _ (by omega)
        have w1 : IntKind.u8.wrap (l[k] + 1) = l[k] + 1 := IntWalk.u8_in _ (by omega)
        have HN : Kept (putN l[k] = [UInt8.ofNat (l[k] + 1).toNat]) := ⟨putN_short (by simp [short, hs0, hs1])⟩
        go_wp2_with (at_builtin; go_must (refine append_byte _ rfl (.tmp 19) (.tmp 23) rfl w.heap.size rfl (HO.out.past (below_alloc_self _ _)) _ (UInt8.ofNat (l[k] + 1).toNat) _ rfl (heap_at_new (by simp)) ?cn (by have := HL.out; omega) ?c1 ?_))
        case cn => exact byte_short ⟨hs0, hs1⟩
        case c1 => have := HB.out.size; simp; omega
        intro v' w' h1 h2 h3
        rw [← HN.out, ← HT.out] at h1
        have H1 := Kept.mk h1
        have H3 := Kept.mk h3
        clear h1 h2 h3
        go_wp2_with fail
        go_roundw
        case rel => exact ⟨k + 1, by omega, by go_num, H1.out, (HB.out.alloc HB.out.size _).trans H3.out⟩
        case measure => simp [intOf]; omega
      · have hsf : short l[k] = false := by simp only [short, decide_eq_false_iff_not]; exact hs
        have HN : Kept (putN l[k] = 255 :: be 8 (bitsOf l[k])) := ⟨putN_long hsf⟩
        have hor : l[k] < -1 ∨ (-1 ≤ l[k] ∧ 253 < l[k]) := by omega
        clear hs hsf
        rcases hor with hs | ⟨hs0, hs1⟩
        all_goals
          go_wp2_with (at_builtin; go_must (refine append_byte _ rfl (.tmp 25) (.tmp 26) rfl w.heap.size rfl (HO.out.past (below_alloc_self _ _)) _ 255 _ rfl (heap_at_new (by simp)) rfl (by have := HL.out; omega) ?c1 ?_))
          case c1 => have := HB.out.size; simp; omega
          intro v' w' h1 h2 h3
          have H1 := Kept.mk h1
          have H3 := Kept.mk (((below_alloc_self wr _).mono HB.out.size).trans h3)
          clear h1 h2 h3
          go_wp2_with fail
          go_loopw [3, 6] (fun v s wr2 => ∃ (j : Nat) (sh : Int), j ≤ 8 ∧ s = .int .i64 sh ∧ Kept (sh = 56 - 8 * (j : Int)) ∧ OwnB wr2 w.heap.size v (putL (l.take k) ++ [255] ++ (be 8 (bitsOf l[k])).take j) ∧ Below w.heap.size w' wr2) (fun _ s _ => ((intOf s) + 8).toNat)
          case atStart => exact ⟨0, 56, by omega, rfl, ⟨by simp⟩, by simpa using H1.out, Below.refl _ _⟩
          case round =>
            obtain ⟨j, sh, hj, rfl, hsh, ho2, hb2⟩ := hrel
            have HO2 := Kept.mk ho2
            have HB2 := Kept.mk hb2
            clear ho2 hb2
            by_cases hj8 : j < 8
            · have hs0 : 0 ≤ sh := by have := hsh.out; omega
              have hs1 : sh ≤ 56 := by have := hsh.out; omega
              have hs2 : sh ≤ 64 := by have := hsh.out; omega
              have wsub : IntKind.i64.wrap (sh - 8) = sh - 8 := IntWalk.i64_in _ (by omega)
              have wb := wrap_bits l[k]
              have HBY := Kept.mk (byte_of (u := bitsOf l[k]) hj8 hsh.out)
              have hlen2 : Kept ((putL (l.take k) ++ [255] ++ (be 8 (bitsOf l[k])).take j).length < 100000000) := ⟨by have := HL.out; rw [List.length_append, List.length_append, List.length_take, be_length, List.length_singleton]; omega⟩
              go_wp2_with (at_builtin; go_must (refine append_byte _ rfl (.tmp 32) (.tmp 38) rfl w.heap.size rfl (HO2.out.past (below_alloc_self _ _)) _ ((be 8 (bitsOf l[k]))[j]'(by rw [be_length]; exact hj8)) _ rfl (heap_at_new (by simp)) ?cn hlen2.out ?c1 ?_))
              case cn => exact HBY.out
              case c1 => have := HB2.out.size; have := H3.out.size; have := HB.out.size; simp; omega
              intro v2 w2 h1 h2 h3
              have H1 : Kept (OwnB w2 w.heap.size v2 (putL (l.take k) ++ [255] ++ (be 8 (bitsOf l[k])).take (j + 1))) := ⟨by simpa using h1⟩
              have H3' := Kept.mk (HB2.out.trans (((below_alloc_self _ _).mono (by have := HB2.out.size; have := H3.out.size; have := HB.out.size; omega)).trans h3))
              clear h1 h2 h3
              go_wp2_with fail
              go_roundw
              case rel => exact ⟨j + 1, sh - 8, by omega, by go_num, ⟨by have := hsh.out; omega⟩, H1.out, H3'.out⟩
              case measure => simp [intOf]; omega
            · have hs0 : sh < 0 := by have := hsh.out; omega
              have hfull : (be 8 (bitsOf l[k])).take j = be 8 (bitsOf l[k]) := List.take_of_length_le (by rw [be_length]; omega)
              have HF : Kept (putL (l.take k) ++ [255] ++ (be 8 (bitsOf l[k])).take j = putL (l.take (k + 1))) := ⟨by rw [hfull, HT.out, HN.out, List.append_assoc]; rfl⟩
              rw [HF.out] at HO2
              clear hfull
              go_wp2_with fail
              go_roundw
              case rel => exact ⟨k + 1, by omega, by go_num, HO2.out, HB.out.trans (H3.out.trans HB2.out)⟩
              case measure => simp [intOf]; omega
    · have hke : l.take k = l := List.take_of_length_le (by omega)
      rw [hke] at ho
      have HO := Kept.mk ho
      have HB := Kept.mk hb
      clear ho hb hke
      go_wp2_with fail
      go_ret
      exact ⟨_, rfl, HO.out, HB.out⟩
end Go.Proofs.Ytlkejledgghjnaa
