/- A number masked by a row of ones is its rest. Arguments opened: a slice of entries, of numbers, an entry by value, as lists. retb.Push, Pop; the document's SameInts. Instructions and programs in memory; seqm.At. retb.Real: what returns come to. The document's SameEnts only reads: the world behind it is the one ahead of it, some draws later. Push, Pop, Put of any row: both answers in one sentence. -/
import Derived.Test.YtchldbkjapnlcaaJa
import Derived.Lib.SmallJoins
import Derived.Deep.Slices
import Derived.Deep.Fields
import Derived.ChangeSame
import Derived.OpenShut
import Derived.Lib.MinMax
import Derived.BigQuiet
set_option linter.unusedVariables false
set_option linter.unusedSimpArgs false
section
namespace Go.Proofs.Ytchldbkjapnlcaa
theorem i64_and1 (n : Int) : bits .and .i64 n 1 = n % 2 := by
 have h : (BitVec.ofInt 64 1).toNat = 2 ^ 1 - 1 := by decide
 have key : (BitVec.ofInt 64 n &&& BitVec.ofInt 64 1).toNat = (n % ((2 ^ 64 : Nat) : Int)).toNat % 2 ^ 1 := by
  rw [BitVec.toNat_and, BitVec.toNat_ofInt, h, Nat.and_two_pow_sub_one_eq_mod]
 show IntKind.i64.wrap ((BitVec.ofInt 64 n &&& BitVec.ofInt 64 1).toNat : Nat) = n % 2
 rw [key, IntKind.wrap_i64]
 omega
/-- The masked number under a name. -/
theorem mask1 (n : Int) : ∃ M : Int, bits .and .i64 n 1 = M ∧ 0 ≤ M ∧ M ≤ 1 := ⟨n % 2, i64_and1 n, by omega, by omega⟩
theorem i64_and3 (n : Int) : bits .and .i64 n 3 = n % 4 := by
 have h : (BitVec.ofInt 64 3).toNat = 2 ^ 2 - 1 := by decide
 have key : (BitVec.ofInt 64 n &&& BitVec.ofInt 64 3).toNat = (n % ((2 ^ 64 : Nat) : Int)).toNat % 2 ^ 2 := by
  rw [BitVec.toNat_and, BitVec.toNat_ofInt, h, Nat.and_two_pow_sub_one_eq_mod]
 show IntKind.i64.wrap ((BitVec.ofInt 64 n &&& BitVec.ofInt 64 3).toNat : Nat) = n % 4
 rw [key, IntKind.wrap_i64]
 omega
/-- The masked number under a name. -/
theorem mask3 (n : Int) : ∃ M : Int, bits .and .i64 n 3 = M ∧ 0 ≤ M ∧ M ≤ 3 := ⟨n % 4, i64_and3 n, by omega, by omega⟩
theorem i64_and255 (n : Int) : bits .and .i64 n 255 = n % 256 := by
 have h : (BitVec.ofInt 64 255).toNat = 2 ^ 8 - 1 := by decide
 have key : (BitVec.ofInt 64 n &&& BitVec.ofInt 64 255).toNat = (n % ((2 ^ 64 : Nat) : Int)).toNat % 2 ^ 8 := by
  rw [BitVec.toNat_and, BitVec.toNat_ofInt, h, Nat.and_two_pow_sub_one_eq_mod]
 show IntKind.i64.wrap ((BitVec.ofInt 64 n &&& BitVec.ofInt 64 255).toNat : Nat) = n % 256
 rw [key, IntKind.wrap_i64]
 omega
/-- The masked number under a name. -/
theorem mask255 (n : Int) : ∃ M : Int, bits .and .i64 n 255 = M ∧ 0 ≤ M ∧ M ≤ 255 := ⟨n % 256, i64_and255 n, by omega, by omega⟩
theorem i64_and65535 (n : Int) : bits .and .i64 n 65535 = n % 65536 := by
 have h : (BitVec.ofInt 64 65535).toNat = 2 ^ 16 - 1 := by decide
 have key : (BitVec.ofInt 64 n &&& BitVec.ofInt 64 65535).toNat = (n % ((2 ^ 64 : Nat) : Int)).toNat % 2 ^ 16 := by
  rw [BitVec.toNat_and, BitVec.toNat_ofInt, h, Nat.and_two_pow_sub_one_eq_mod]
 show IntKind.i64.wrap ((BitVec.ofInt 64 n &&& BitVec.ofInt 64 65535).toNat : Nat) = n % 65536
 rw [key, IntKind.wrap_i64]
 omega
end Go.Proofs.Ytchldbkjapnlcaa
end
section
namespace Go.Proofs.Ytchldbkjapnlcaa
open Go.RowKit Go.Joins Go.ChangeShapes Go.WideShapes Go.Deep

section
variable {H : Type} {enc : TypeId × Value → H} {P : Program} {w : World} {base : Nat} {spare : Nat → Bool} {held : Bool}
end

theorem add_spot {w : World} {a : Addr} {j : Nat} {v : Value} (h : w.cell? (a.add j) = some v) (h0 : a.spot = none) : w.cell? ⟨a.block, a.off + j, none⟩ = some v := by
 obtain ⟨b, o, s⟩ := a
 cases h0
 rwa [Addr.add_lit] at h
theorem spot_none {w : World} {a : Addr} {v : Value} (h : w.cell? a = some v) : a.spot = none := by
 unfold World.cell? at h
 split at h
 ·split at h
  ·cases h
  ·rename_i hs
   simpa using hs
 ·cases h

/-- Every number of an entry is an int64. -/
def Ent.ok (e : Ent) : Prop := (-9223372036854775808 ≤ e.pc ∧ e.pc ≤ 9223372036854775807) ∧ (-9223372036854775808 ≤ e.val ∧ e.val ≤ 9223372036854775807) ∧ (-9223372036854775808 ≤ e.addr ∧ e.addr ≤ 9223372036854775807) ∧
 (-9223372036854775808 ≤ e.frm ∧ e.frm ≤ 9223372036854775807) ∧ (-9223372036854775808 ≤ e.next ∧ e.next ≤ 9223372036854775807)

section
variable {H : Type} {enc : TypeId × Value → H} {W : World} {t : TypeId} {v : Value} {d : DataW H} {ps : List MemPlace}
set_option maxRecDepth 100000 in
/-- A slice of numbers that comes in. -/
theorem open_nums {base : Nat} (hv : Value.okWide Try.prog W .any base 22 v) (h : DataW.Trod enc Try.prog W 0 (fun _ => true) true 22 v d ps) :
  ∃ (A : Option Addr) (c : Nat) (l : List Int), v = .slice A l.length c ∧ l.length ≤ c ∧ c ≤ maxLen ∧ RdI W A l ∧ ∀ n ∈ l, -9223372036854775808 ≤ n ∧ n ≤ 9223372036854775807 := by
 obtain ⟨a0, len, cap, rfl⟩ := okWide_slice Try.underlying22 hv
 obtain ⟨fuel, hf⟩ := h
 rcases open_ints Try.underlying22 Try.underlying3 (by kernel_rfl) hf with ⟨hcs, _⟩ | ⟨a, n, c, zs, hcs, _, hl, hm, hz, _, hcell, hwz⟩
 ·simp [Value.cells] at hcs
  obtain ⟨rfl, rfl, rfl⟩ := hcs
  exact ⟨none, 0, [], rfl, by simp, by simp, Reads.none_, by simp⟩
 ·simp [Value.cells] at hcs
  obtain ⟨rfl, rfl, rfl⟩ := hcs
  simp only [if_true] at hz
  have hlen : (zs.take len).length = len := by rw [List.length_take]; omega
  have hc : ∀ i, i < len → W.cell? (a.add i) = some (.int .i64 (zs.getD i 0)) := fun i hi => hcell i (by omega)
  refine ⟨some a, cap, zs.take len, by rw [hlen], by omega, hm, ⟨by simp [intCs], fun hn => ?_⟩, fun n hn => bounds_i64 (hwz n (List.mem_of_mem_take hn))⟩
  rw [hlen] at hn
  have h0 := hc 0 hn
  have hs : a.spot = none := spot_none (by simpa [Addr.add] using h0)
  refine ⟨a, rfl, hs, block_lt_of_cell (by simpa [Addr.add] using h0), fun j u hu => ?_⟩
  have hj : j < len := by
   have := (List.getElem?_eq_some_iff.1 hu).1
   rw [intCs_length, hlen] at this
   exact this
  have h1 := add_spot (hc j hj) hs
  rw [h1]
  simp only [intCs, List.getElem?_map, List.getElem?_take, hj, if_true] at hu
  rw [← hu]
  simp [List.getD, show j < zs.length by omega]
end
end Go.Proofs.Ytchldbkjapnlcaa
end
section
namespace Go.Proofs.Ytchldbkjapnlcaa
open Go.RowKit

theorem cut_int_from {w : World} {A : Option Addr} {l : List Int} (h : RdI w A l) {c : Nat} (hc : l.length ≤ c) (k : Nat) (hk : k ≤ l.length) :
  ∃ A1, (∀ w1, (Instr.slice 22 (.slice A l.length c) (some (.int .i64 (k : Int))) none none).run Try.prog w1 = .ok (.slice A1 (l.length - k) (c - k)) w1) ∧ RdI w A1 (l.drop k) := by
 obtain ⟨i, hi, _, hs, _⟩ := info_parts info_int
 refine ⟨if c = k then A else A.map (·.add (k * 1)), fun w1 => ?_, h.from_ hk hc⟩
 have := run_cut_from (P := Try.prog) 22 3 i 1 hs Try.underlying22 hi A l.length c (k : Int) (by omega) (by omega) w1
 simpa using this
theorem cut_int_to {w : World} {A : Option Addr} {l : List Int} (h : RdI w A l) {c : Nat} (hc : l.length ≤ c) (k : Nat) (hk : k ≤ l.length) :
  (∀ w1, (Instr.slice 22 (.slice A l.length c) none (some (.int .i64 (k : Int))) none).run Try.prog w1 = .ok (.slice A k c) w1) ∧ RdI w A (l.take k) := by
 obtain ⟨i, hi, _, hs, _⟩ := info_parts info_int
 refine ⟨fun w1 => ?_, h.to hk⟩
 have := run_cut_to (P := Try.prog) 22 3 i Try.underlying22 hi A l.length c (k : Int) (by omega) (by omega) hc w1
 simpa using this

set_option maxHeartbeats 800000 in
theorem same_ints (A A' : Option Addr) (c c' : Nat) (l m : List Int) (w : World) (hr : RdI w A l) (hr' : RdI w A' m) (hc : l.length ≤ 1000000) :
  Calls Try.prog 20 #[.slice A l.length c, .slice A' m.length c'] w fun en w' => en = .returned (.bool (decide (l = m))) ∧ Below w.heap.size w w' := by
 have HR := Kept.mk hr
 have HR' := Kept.mk hr'
 clear hr hr'
 by_cases hl : l.length = m.length
 ·have HL := Kept.mk hl
  have hlb : ((l.length : Int) != (m.length : Int)) = false := by rw [hl]; simp
  have hcm : m.length ≤ 1000000 := by omega
  clear hl
  go_enter Try.func20, Try.ntmps20
  go_wp2_with fail
  go_loopw [5] (fun i wr => ∃ k : Nat, k ≤ l.length ∧ i = .int .i64 k ∧ Kept (l.take k = m.take k) ∧ Below w.heap.size w wr) (fun i _ => l.length - (intOf i).toNat)
  case atStart => exact ⟨0, Nat.zero_le _, rfl, ⟨by simp⟩, Below.refl _ _⟩
  case round =>
   obtain ⟨k, hk, rfl, ht, hb⟩ := hrel
   by_cases hlt : k < l.length
   ·have hlm : k < m.length := by have := HL.out; omega
    obtain ⟨b, o, rfl, hb1, q0⟩ := (HR.out.past hb).at_ hlt
    obtain ⟨b', o', rfl, hb2, r0⟩ := (HR'.out.past hb).at_ hlm
    have HB := Kept.mk hb
    clear hb
    by_cases he : l[k] = m[k]
    ·have hd : (l[k] != m[k]) = false := by simp [he]
     have HE := Kept.mk he
     clear he
     go_wp2_with fail
     go_quiet (fail)
     go_wp2_with fail
     go_roundw
     case rel => exact ⟨k + 1, by omega, by go_num, ⟨(take_step hlt hlm ht.out).2 HE.out⟩, below_drewN HB.out _⟩
     case measure => simp [intOf]; omega
    ·have hd : (l[k] != m[k]) = true := by simp [he]
     have HE := Kept.mk he
     clear he
     go_wp2_with fail
     go_quiet (fail)
     go_wp2_with fail
     go_ret
     exact ⟨by simp [take_ne hlt hlm HE.out], below_drewN HB.out _⟩
   ·have hke : l.take k = l := List.take_of_length_le (by omega)
    have hkm : m.take k = m := List.take_of_length_le (by have := HL.out; omega)
    have HK := Kept.mk hke
    have HM := Kept.mk hkm
    have HB := Kept.mk hb
    clear hke hkm hb
    go_wp2_with fail
    go_ret
    have he : l = m := by have := ht.out; rw [HK.out, HM.out] at this; exact this
    exact ⟨by simp [he], HB.out⟩
 ·have hlb : ((l.length : Int) != (m.length : Int)) = true := by simp; omega
  go_enter Try.func20, Try.ntmps20
  go_wp2_with fail
  go_ret
  have hne : l ≠ m := fun h => hl (by rw [h])
  exact ⟨by simp [hne], Below.refl _ _⟩

/-- The last two at most. -/
def lastTwo (l : List Int) : List Int := l.drop (l.length - 2)

set_option maxHeartbeats 800000 in
theorem rpush (A : Option Addr) (c : Nat) (l : List Int) (pc : Int) (w : World) (hr : RdI w A l) (hn : l.length < 1000000) :
  Calls Try.prog 21 #[.slice A l.length c, .int .i64 pc] w (GivesI w (lastTwo (l ++ [pc]))) := by
 have HR := Kept.mk hr
 clear hr
 go_enter Try.func21, Try.ntmps21
 go_wp2_with fail
 refine (clone_int A c l w HR.out (by omega)).mono ?_
 rintro en w1 ⟨v, rfl, h1, b1⟩
 have H1 := Kept.mk h1
 have B1 := Kept.mk b1
 clear h1 b1
 go_wp2_with (at_builtin; go_must (refine append_int _ rfl (.tmp 7) (.tmp 9) rfl w.heap.size rfl (H1.out.past (below_alloc_self _ _)) _ pc rfl (heap_at_new (by simp)) hn ?c1 ?_))
 case c1 => have := B1.out.size; simp; omega
 intro v2 w2 h2 hg2 b2
 obtain ⟨A2, c2, rfl, hc2, r2⟩ := h2.shape
 obtain ⟨A3, hcut, r3⟩ := cut_int_from r2 hc2 (l.length - 1) (by simp; omega)
 rw [List.length_append, List.length_singleton] at hcut hc2 ⊢
 have hmx : max ((l.length : Int) + 1 - 2) 0 = ((l.length - 1 : Nat) : Int) := by omega
 have B2 := Kept.mk ((B1.out.alloc B1.out.size _).trans (b2.mono (Nat.le_refl _)))
 have R3 := Kept.mk r3
 clear h2 hg2 b2 r2 r3
 go_wp2_with fail
 refine (clone_int_at A3 (l.length + 1 - (l.length - 1)) (c2 - (l.length - 1)) ((l ++ [pc]).drop (l.length - 1)) _ (by simp) R3.out (by omega)).mono ?_
 rintro en w4 ⟨v4, rfl, h4, b4⟩
 have H4 := Kept.mk h4
 have B4 := Kept.mk (B2.out.trans (b4.mono B2.out.size))
 have S2 := Kept.mk B2.out.size
 clear h4 b4
 go_wp2_with fail
 go_ret
 refine ⟨_, rfl, ?_, B4.out⟩
 have := H4.out.lower S2.out
 unfold lastTwo
 rw [List.length_append, List.length_singleton, show l.length + 1 - 2 = l.length - 1 by omega]
 exact this

set_option maxHeartbeats 400000 in
theorem rpop_none (A : Option Addr) (c : Nat) (w : World) :
  Calls Try.prog 19 #[.slice A 0 c] w fun en w' => en = .returned (.tuple #[.int .i64 0, .slice none 0 0, .bool false]) ∧ Below w.heap.size w w' := by
 go_enter Try.func19, Try.ntmps19
 go_wp2_with fail
 exact at_ret _ [.int .i64 0, .slice none 0 0, .bool false] Try.results19 (.cons (.tmp rfl) (.cons (.tmp rfl) (.cons (.tmp rfl) .nil))) rfl ⟨rfl, Below.refl _ _⟩

set_option maxHeartbeats 800000 in
theorem rpop_some (A : Option Addr) (c k : Nat) (l : List Int) (w : World) (hl : l.length = k + 1) (hc : k + 1 ≤ c) (hr : RdI w A l) (hn : k < 1000000) :
  Calls Try.prog 19 #[.slice A (k + 1) c] w fun en w' => ∃ v, en = .returned (.tuple #[.int .i64 (l[k]'(by omega)), v, .bool true]) ∧ OwnI w' w.heap.size v (l.take k) ∧ Below w.heap.size w w' := by
 obtain ⟨hcut, hr1⟩ := cut_int_to hr (by rw [hl]; exact hc) k (by omega)
 rw [hl] at hcut
 obtain ⟨b, o, rfl, hb1, q0⟩ := hr.at_ (i := k) (by omega)
 have hq : ∀ w1, Below w.heap.size w w1 → w1.cell? ⟨b, o + k, none⟩ = some (.int .i64 (l[k]'(by omega))) := fun w1 h => by rw [h.cell (p := ⟨b, o + k, none⟩) hb1]; exact q0
 have HR := Kept.mk hr
 have HL := Kept.mk hl
 clear hr q0
 go_enter Try.func19, Try.ntmps19
 go_wp2_with fail
 refine region_tell w.heap.size (G := fun _ => True) (ts := [
   .is (.slice (some ⟨b, o, none⟩) (k + 1) c),
   .is (.int .i64 ((k : Int) + 1)),
   .is (.int .i64 k),
   .is (.pointer (some ⟨b, o + k, none⟩)),
   .is (.int .i64 (l[k]'(by omega))),
   .is (.slice (some ⟨b, o, none⟩) (k + 1) c),
   .is (.int .i64 ((k : Int) + 1)),
   .is (.int .i64 k),
   .is (.slice (some ⟨b, o, none⟩) k c),
   .makes (fun v w' => OwnI w' w.heap.size v (l.take k)),
   .is (.int .i64 (l[k]'(by omega))),
   .gets (fun v w' => OwnI w' w.heap.size v (l.take k)),
   .is (.bool true)]) (fin := [11]) (cs := []) (by kernel_rfl) rfl (by kernel_rfl) (by kernel_rfl) ⟨trivial, trivial, trivial, trivial, trivial, trivial, trivial, trivial, trivial, OwnI.grows, trivial, OwnI.grows, trivial, trivial⟩ (fun _ _ _ _ => trivial) (by simp) (by simp) trivial
  ⟨?_, ?_, ?_, ?_, ?_, ?_, ?_, ?_, ?_, ?_, ?_, ?_, ?_, trivial⟩ ?_
 ·intro vals w1 hB _ hd
  clear hd
  refine one_value (v := Value.slice (some ⟨b, o, Option.none⟩) (k + 1) c) rfl ?_ ?_
  ·kernel_rfl
  ·exact post_is rfl
 ·intro vals w1 hB _ hd
  clear hd
  refine one_value (v := Value.int .i64 ((k : Int) + 1)) rfl ?_ ?_
  ·kernel_rfl
  ·exact post_is rfl
 ·intro vals w1 hB _ hd
  clear hd
  refine one_value (v := Value.int .i64 (k : Int)) rfl ?_ ?_
  ·simp only [fillT, Tell.is, Act.put, List.setIfInBounds_toArray, List.set_cons_zero, List.set_cons_succ]; go_simp
   exact IntWalk.i64_in _ (by omega)
  ·exact post_is rfl
 ·intro vals w1 hB _ hd
  clear hd
  refine one_value (v := Value.pointer (some ⟨b, o + k, Option.none⟩)) rfl ?_ ?_
  ·simp only [fillT, Tell.is, Act.put, List.setIfInBounds_toArray, List.set_cons_zero, List.set_cons_succ]; go_simp
   intro h
   omega
  ·exact post_is rfl
 ·intro vals w1 hB _ hd
  clear hd
  refine one_value (v := Value.int .i64 (l[k]'(by omega))) rfl ?_ ?_
  ·have hq1 := hq w1 hB; simp only [fillT, Tell.is, Act.put, List.setIfInBounds_toArray, List.set_cons_zero, List.set_cons_succ]; go_simp
  ·exact post_is rfl
 ·intro vals w1 hB _ hd
  clear hd
  refine one_value (v := Value.slice (some ⟨b, o, Option.none⟩) (k + 1) c) rfl ?_ ?_
  ·kernel_rfl
  ·exact post_is rfl
 ·intro vals w1 hB _ hd
  clear hd
  refine one_value (v := Value.int .i64 ((k : Int) + 1)) rfl ?_ ?_
  ·kernel_rfl
  ·exact post_is rfl
 ·intro vals w1 hB _ hd
  clear hd
  refine one_value (v := Value.int .i64 (k : Int)) rfl ?_ ?_
  ·simp only [fillT, Tell.is, Act.put, List.setIfInBounds_toArray, List.set_cons_zero, List.set_cons_succ]; go_simp
   exact IntWalk.i64_in _ (by omega)
  ·exact post_is rfl
 ·intro vals w1 hB _ hd
  clear hd
  refine one_value (v := Value.slice (some ⟨b, o, Option.none⟩) k c) rfl ?_ ?_
  ·simp only [fillT, Tell.is, Act.put, List.setIfInBounds_toArray, List.set_cons_zero, List.set_cons_succ]; go_simp
  ·exact post_is rfl
 ·intro vals w1 hB _ hd
  clear hd
  refine one_calls (f := 54) (args := #[.slice (some ⟨b, o, Option.none⟩) k c]) (w1 := w1) rfl ?_ ?_
  ·kernel_rfl
  refine (clone_int_at (some ⟨b, o, Option.none⟩) k c (l.take k) w1 (by simp [HL.out]) (hr1.past hB) (by omega)).mono ?_
  rintro e1 w2 ⟨v, rfl, h1, h2⟩
  exact ⟨v, rfl, post_makes rfl (OwnI.lower h1 hB.size) h2⟩
 ·intro vals w1 hB _ hd
  clear hd
  refine one_value (v := Value.int .i64 (l[k]'(by omega))) rfl ?_ ?_
  ·kernel_rfl
  ·exact post_is rfl
 ·intro vals w1 hB _ hd
  refine one_value (v := vals 9) rfl ?_ ?_
  ·kernel_rfl
  ·exact post_gets rfl (hd 9 (by kernel_rfl))
 ·intro vals w1 hB _ hd
  clear hd
  refine one_value (v := Value.bool true) rfl ?_ ?_
  ·kernel_rfl
  ·exact post_is rfl
 ·intro vals w1 hB _ hr
  have h11 : OwnI w1 w.heap.size (vals 11) (l.take k) := hr 11 (by simp) (by simp)
  clear hr
  simp only [fillT, Tell.is, Tell.makes, Tell.gets, Act.put, List.setIfInBounds_toArray, List.set_cons_zero, List.set_cons_succ]
  go_wp2
  exact at_ret _ [.int .i64 (l[k]'(by omega)), vals 11, .bool true] Try.results19 (.cons (.tmp rfl) (.cons (.tmp rfl) (.cons (.tmp rfl) .nil))) rfl ⟨_, rfl, h11, hB⟩
end Go.Proofs.Ytchldbkjapnlcaa
end
section
namespace Go.Proofs.Ytchldbkjapnlcaa
open Go.RowKit

structure Inst where
 kind : Int
 op : Int
 d : Int
 ar : Bool
 an : Int
 br : Bool
 bn : Int
 name : ByteArray
 target : Int
def Inst.cs (e : Inst) : List Value := [.int .i64 e.kind, .int .i64 e.op, .int .i64 e.d, .bool e.ar, .int .i64 e.an, .bool e.br, .int .i64 e.bn, .string e.name, .int .i64 e.target]
@[go_sem] def Inst.v (e : Inst) : Value := .agg #[.int .i64 e.kind, .int .i64 e.op, .int .i64 e.d, .bool e.ar, .int .i64 e.an, .bool e.br, .int .i64 e.bn, .string e.name, .int .i64 e.target]
def Inst.zero : Inst := ⟨0, 0, 0, false, 0, false, 0, ⟨#[]⟩, 0⟩
def Inst.fault : Inst := ⟨12, 0, 0, false, 0, false, 0, ⟨#[]⟩, 0⟩
def instCs (l : List Inst) : List Value := l.flatMap Inst.cs
theorem Inst.cs_length (e : Inst) : e.cs.length = 9 := rfl
theorem instCs_get (l : List Inst) (i : Nat) (h : i < l.length) (j : Nat) (hj : j < 9) : (instCs l)[i * 9 + j]? = l[i].cs[j]? := by
 induction l generalizing i with
 | nil => simp at h
 | cons e l ih =>
  simp only [instCs, List.flatMap_cons]
  cases i with
  | zero => rw [List.getElem?_append_left (by rw [Inst.cs_length]; omega)]; simp
  | succ i =>
   rw [List.getElem?_append_right (by rw [Inst.cs_length]; omega), Inst.cs_length, show (i + 1) * 9 + j - 9 = i * 9 + j by omega]
   exact ih i (by simpa using h)
/-- A row of instructions. -/
def RdN (w : World) (A : Option Addr) (l : List Inst) : Prop := Reads w w.heap.size 9 A l.length (instCs l)
theorem RdN.past {w w' : World} {A : Option Addr} {l : List Inst} (h : RdN w A l) (hb : Below w.heap.size w w') : RdN w' A l := Reads.past h hb
theorem RdN.nil {w : World} : RdN w none [] := Reads.none_
def InstAt (w : World) (b o : Nat) (e : Inst) : Prop :=
 w.cell? ⟨b, o, none⟩ = some (.int .i64 e.kind) ∧ w.cell? ⟨b, o + 1, none⟩ = some (.int .i64 e.op) ∧ w.cell? ⟨b, o + 2, none⟩ = some (.int .i64 e.d) ∧ w.cell? ⟨b, o + 3, none⟩ = some (.bool e.ar) ∧
 w.cell? ⟨b, o + 4, none⟩ = some (.int .i64 e.an) ∧ w.cell? ⟨b, o + 5, none⟩ = some (.bool e.br) ∧ w.cell? ⟨b, o + 6, none⟩ = some (.int .i64 e.bn) ∧ w.cell? ⟨b, o + 7, none⟩ = some (.string e.name) ∧ w.cell? ⟨b, o + 8, none⟩ = some (.int .i64 e.target)
theorem InstAt.of_cells {w : World} {b o : Nat} {e : Inst} (h : ∀ j u, j < 9 → e.cs[j]? = some u → w.cell? ⟨b, o + j, none⟩ = some u) : InstAt w b o e :=
 ⟨h 0 _ (by omega) rfl, h 1 _ (by omega) rfl, h 2 _ (by omega) rfl, h 3 _ (by omega) rfl, h 4 _ (by omega) rfl, h 5 _ (by omega) rfl, h 6 _ (by omega) rfl, h 7 _ (by omega) rfl, h 8 _ (by omega) rfl⟩
theorem InstAt.cells {w : World} {b o : Nat} {e : Inst} (h : InstAt w b o e) : ∀ j u, e.cs[j]? = some u → w.cell? ⟨b, o + j, none⟩ = some u := by
 obtain ⟨h0, h1, h2, h3, h4, h5, h6, h7, h8⟩ := h
 intro j u hu
 match j, hu with
 | 0, hu => cases hu; exact h0
 | 1, hu => cases hu; exact h1
 | 2, hu => cases hu; exact h2
 | 3, hu => cases hu; exact h3
 | 4, hu => cases hu; exact h4
 | 5, hu => cases hu; exact h5
 | 6, hu => cases hu; exact h6
 | 7, hu => cases hu; exact h7
 | 8, hu => cases hu; exact h8
 | n + 9, hu => simp [Inst.cs] at hu
theorem RdN.elem {w : World} {A : Option Addr} {l : List Inst} (h : RdN w A l) {k : Nat} (hk : k < l.length) : ∃ b o, A = some ⟨b, o, none⟩ ∧ b < w.heap.size ∧ InstAt w b (o + k * 9) l[k] := by
 obtain ⟨b, o, e, hb, hc⟩ := Reads.cells h hk
 exact ⟨b, o, e, hb, InstAt.of_cells fun j u hj hu => by rw [Nat.add_assoc]; exact hc j u hj (by rw [instCs_get l k hk j hj]; exact hu)⟩
/-- A program: what its struct holds. -/
structure Prg where
 W : Int
 window : Int
 fuel : Int
 r0 : Int
 r1 : Int
 r2 : Int
 r3 : Int
 mems : Value
 labels : Value
 A : Option Addr
 n : Nat
 c : Nat
def Prg.cs (p : Prg) : List Value := [.int .i64 p.W, .int .i64 p.window, .int .i64 p.fuel, .int .i64 p.r0, .int .i64 p.r1, .int .i64 p.r2, .int .i64 p.r3, p.mems, p.labels, .slice p.A p.n p.c]
@[go_sem] def Prg.v (p : Prg) : Value := .agg #[.int .i64 p.W, .int .i64 p.window, .int .i64 p.fuel, .int .i64 p.r0, .int .i64 p.r1, .int .i64 p.r2, .int .i64 p.r3, p.mems, p.labels, .slice p.A p.n p.c]
/-- The instruction at a place. -/
def instAt (l : List Inst) (pc : Int) : Inst := if pc < 0 then Inst.fault else (l[pc.toNat]?).getD Inst.fault

set_option maxRecDepth 100000 in
set_option maxHeartbeats 1000000 in
theorem at_in (p : Prg) (l : List Inst) (k : Nat) (w : World) (hn : p.n = l.length) (hm : p.n ≤ 1000000) (hk : k < l.length) (hr : RdN w p.A l) :
  Calls Try.prog 61 #[p.v, .int .i64 k] w fun en w' => en = .returned l[k].v ∧ Below w.heap.size w w' := by
 obtain ⟨W, win, fuel, r0, r1, r2, r3, mems, labels, A, n, c⟩ := p
 simp only at hn hm hr
 subst hn
 obtain ⟨b, o, rfl, hb, e0, e1, e2, e3, e4, e5, e6, e7, e8⟩ := hr.elem hk
 have hbne : b ≠ w.heap.size := by omega
 clear hr
 go_enter Try.func61, Try.ntmps61
 go_wp2_with fail
 refine at_ret _ [l[k].v] Try.results61 (.cons (.cell (cs := l[k].cs) (b := w.heap.size + 1) (off := 0) rfl rfl (cells_of_block (heap_at_new (by simp))) Try.underlying53 rfl (by kernel_rfl)) .nil) rfl ⟨rfl, ?_⟩
 exact (below_alloc_self w _).alloc (by simp) _
set_option maxRecDepth 100000 in
set_option maxHeartbeats 1000000 in
theorem at_out (p : Prg) (pc : Int) (w : World) (hm : p.n ≤ 1000000) (hk : pc < 0 ∨ (p.n : Int) ≤ pc) :
  Calls Try.prog 61 #[p.v, .int .i64 pc] w fun en w' => en = .returned Inst.fault.v ∧ Below w.heap.size w w' := by
 obtain ⟨W, win, fuel, r0, r1, r2, r3, mems, labels, A, n, c⟩ := p
 simp only at hm hk
 by_cases h : pc < 0
 ·go_enter Try.func61, Try.ntmps61
  go_wp2_with fail
  refine at_ret _ [Inst.fault.v] Try.results61 (.cons (.cell (cs := Inst.fault.cs) (b := w.heap.size + 1) (off := 0) rfl rfl (cells_of_block (heap_at_new (by simp))) Try.underlying53 rfl (by kernel_rfl)) .nil) rfl ⟨rfl, ?_⟩
  exact (below_alloc_self w _).alloc (by simp) _
 ·have h2 : (n : Int) ≤ pc := by omega
  clear hk
  go_enter Try.func61, Try.ntmps61
  go_wp2_with fail
  refine at_ret _ [Inst.fault.v] Try.results61 (.cons (.cell (cs := Inst.fault.cs) (b := w.heap.size + 1) (off := 0) rfl rfl (cells_of_block (heap_at_new (by simp))) Try.underlying53 rfl (by kernel_rfl)) .nil) rfl ⟨rfl, ?_⟩
  exact (below_alloc_self w _).alloc (by simp) _
theorem at_any (p : Prg) (l : List Inst) (pc : Int) (w : World) (hn : p.n = l.length) (hm : p.n ≤ 1000000) (hr : RdN w p.A l) :
  Calls Try.prog 61 #[p.v, .int .i64 pc] w fun en w' => en = .returned (instAt l pc).v ∧ Below w.heap.size w w' := by
 unfold instAt
 split
 ·exact at_out p pc w hm (.inl (by assumption))
 ·by_cases h : pc < l.length
  ·obtain ⟨k, rfl⟩ := Int.eq_ofNat_of_zero_le (show 0 ≤ pc by omega)
   have hk : k < l.length := by omega
   rw [Int.toNat_natCast, List.getElem?_eq_getElem hk]
   exact at_in p l k w hn hm hk hr
  ·rw [List.getElem?_eq_none (by omega)]
   exact at_out p pc w hm (.inr (by omega))
@[go_sem] theorem run_inst_kind (a b c d e f g h i : Value) (w : World) : (Instr.field 53 (.agg #[a, b, c, d, e, f, g, h, i]) 0).run Try.prog w = .ok a w := by kernel_rfl
/-- A row of the call's own, cut shorter. -/
theorem own_take {w : World} {base : Nat} {e : TypeId} {size : Nat} {A : Option Addr} {n c k : Nat} {xs : List Value} (h : w.ownsRow base e size (.slice A n c) n xs) (hk : k ≤ n) : w.ownsRow base e size (.slice A k c) k (xs.take (k * size)) := by
 refine ⟨by rw [List.length_take, h.1]; exact Nat.min_eq_left (Nat.mul_le_mul_right _ hk), ?_⟩
 rcases h.2 with ⟨hv, h0⟩ | ⟨g, cap, cur, hv, hg, hh, hc, hm, hs, rfl⟩
 ·simp at hv
  obtain ⟨rfl, rfl, rfl⟩ := hv
  exact .inl ⟨by simp [show k = 0 by omega], by omega⟩
 ·simp at hv
  obtain ⟨rfl, rfl⟩ := hv
  refine .inr ⟨g, c, cur, rfl, hg, hh, by omega, hm, hs, ?_⟩
  rw [List.take_take, Nat.min_eq_left (Nat.mul_le_mul_right _ hk)]
theorem OwnI.take {w : World} {B : Nat} {A : Option Addr} {c k n : Nat} {l : List Int} (h : OwnI w B (.slice A n c) l) (hn : l.length = n) (hk : k ≤ n) : OwnI w B (.slice A k c) (l.take k) := by
 subst hn
 have := own_take h hk
 unfold OwnI
 rw [List.length_take, Nat.min_eq_left hk]
 simpa [intCs, List.map_take] using this
theorem OwnE.take {w : World} {B : Nat} {A : Option Addr} {c k n : Nat} {l : List Ent} (h : OwnE w B (.slice A n c) l) (hn : l.length = n) (hk : k ≤ n) : OwnE w B (.slice A k c) (l.take k) := by
 subst hn
 have := own_take h hk
 unfold OwnE
 rw [List.length_take, Nat.min_eq_left hk]
 rwa [entCs_take l k hk] at this
end Go.Proofs.Ytchldbkjapnlcaa
end
section
namespace Go.Proofs.Ytchldbkjapnlcaa
open Go.RowKit

def realOf (il : List Inst) : List Int → List Ent → Option (List Int)
 | s, [] => some s
 | s, e :: l =>
  if (instAt il e.pc).kind = 8 then (if 4 ≤ s.length then none else realOf il (s ++ [e.pc + 1]) l)
  else if (instAt il e.pc).kind = 9 then (if s.length = 0 then none else realOf il (s.take (s.length - 1)) l)
  else realOf il s l
/-- What is told of Real's two answers. -/
structure RealPost (r : Option (List Int)) (w : World) (en : Ending) (w' : World) : Prop where
 out : ∃ v, en = .returned (.tuple #[v, .bool r.isSome]) ∧ (match r with | some s => OwnI w' w.heap.size v s | none => v = .slice none 0 0) ∧ Below w.heap.size w w'

theorem RealPost.no {r : Option (List Int)} {w w' : World} (h : r = none) (hb : Below w.heap.size w w') : RealPost r w (.returned (.tuple #[.slice none 0 0, .bool false])) w' := by
 subst h
 exact ⟨⟨_, rfl, rfl, hb⟩⟩
theorem RealPost.yes {r : Option (List Int)} {w w' : World} {v : Value} {s : List Int} (h : r = some s) (ho : OwnI w' w.heap.size v s) (hb : Below w.heap.size w w') : RealPost r w (.returned (.tuple #[v, .bool true])) w' := by
 subst h
 exact ⟨⟨_, rfl, ho, hb⟩⟩
/-- A row between two marks is kept, and the own row v lies elsewhere. -/
structure Apart (lo hi : Nat) (w3 w : World) (v : Value) : Prop where
 mid : ∀ k, lo ≤ k → k < hi → w.heap[k]? = w3.heap[k]?
 far : ∀ g, v.ownBlock = some g → g < lo ∨ hi ≤ g
 up : hi ≤ w.heap.size
theorem own_block_len (A : Option Addr) (n m c : Nat) : (Value.slice A n c).ownBlock = (Value.slice A m c).ownBlock := by cases A <;> rfl
theorem Apart.past {lo hi : Nat} {w3 w w' : World} {v : Value} (h : Apart lo hi w3 w v) (hb : Below w.heap.size w w') : Apart lo hi w3 w' v :=
 ⟨fun k h1 h2 => (hb.block k (Nat.lt_of_lt_of_le h2 h.up)).trans (h.mid k h1 h2), h.far, Nat.le_trans h.up hb.size⟩
theorem Apart.grown {lo hi : Nat} {w3 w w' : World} {v v' : Value} (h : Apart lo hi w3 w v) (hg : w.grownBy w' v.ownBlock) (hv : v'.ownBlock = v.ownBlock ∨ v'.ownBlock = some w.heap.size) : Apart lo hi w3 w' v' := by
 refine ⟨fun k h1 h2 => (hg.block k (Nat.lt_of_lt_of_le h2 h.up) (fun e => ?_)).trans (h.mid k h1 h2), fun g e => ?_, Nat.le_trans h.up hg.size⟩
 ·have := h.far k e.symm
  omega
 ·rcases hv with hv | hv
  ·exact h.far g (by rw [← hv]; exact e)
  ·rw [hv] at e
   injection e with e
   have := h.up
   omega
theorem Apart.own {lo : Nat} {w3 w : World} {v v3 : Value} {m : List Ent} (h : Apart lo w3.heap.size w3 w v) (ho : OwnE w3 lo v3 m) : OwnE w lo v3 m := by
 refine ⟨ho.1, ?_⟩
 rcases ho.2 with hn | ⟨g, cap, cur, hv, hg, hh, rest⟩
 ·exact .inl hn
 ·exact .inr ⟨g, cap, cur, hv, hg, (h.mid g hg (Array.getElem?_eq_some_iff.1 hh).1).trans hh, rest⟩
theorem own_reads {w : World} {B : Nat} {A : Option Addr} {n c : Nat} {m : List Ent} (h : OwnE w B (.slice A n c) m) : RdE w A m := by
 obtain ⟨A', c', e, _, hr⟩ := h.shape
 injection e with e1 e2 e3
 subst e1
 exact hr
/-- append of one number, with where the new row lies. -/
theorem append_int_lies {ops : Array Oper} {rest : List Oper} {o : Oper} {a : Act} {Q : Exit → Act → World → Prop} (W : World) (hgd : o.guard = none) (s x : Operand)
  (ho : o.op = .call { callee := .builtin .append, args := #[s, x], argTypes := #[22, 22] }) (B : Nat) {v : Value} {l : List Int} (hs : a.eval s = v) (hown : OwnI W B v l) (g : Nat) (n : Int)
  (hx : a.eval x = .slice (some ⟨g, 0, none⟩) 1 1) (hg : W.heap[g]? = some (.cells #[.int .i64 n] 3 (0, 0))) (hl : l.length < 1000000) (hB : B ≤ W.heap.size)
  (h : ∀ v' w', OwnI w' B v' (l ++ [n]) → W.grownBy w' v.ownBlock → (v'.ownBlock = v.ownBlock ∨ v'.ownBlock = some W.heap.size) → Below B W w' → wpList Try.prog ops Q rest (a.put o.dst v') w') : wpList Try.prog ops Q (o :: rest) a W := by
 obtain ⟨i0, hi0, hz0, hz1, hz2⟩ := info_parts info_int
 refine wpList_append_any W hgd s x _ ho B 3 i0 _ 1 8 Try.underlying22 hi0 hz0 hz1 hz2 rfl (by omega) v l.length (intCs l) hs hown W.heap.size (some ⟨g, 0, none⟩) 1 1 (intCs [n]) hx (reads_block hg rfl) (intCs_one_cell [n])
  (by simp only [maxLen]; omega) (by omega) hB fun v' w' h1 h2 h3 => h v' w' ?_ h2 h3 ((Below.refl _ _).grown h2 hB (fun k hk => (World.ownsRow.lt hown k hk).1))
 unfold OwnI
 rw [intCs_append, List.length_append]
 exact h1
/-- A program's ten cells. -/
def PrgAt (w : World) (b : Nat) (p : Prg) : Prop :=
 w.cell? ⟨b, 0, none⟩ = some (.int .i64 p.W) ∧ w.cell? ⟨b, 1, none⟩ = some (.int .i64 p.window) ∧ w.cell? ⟨b, 2, none⟩ = some (.int .i64 p.fuel) ∧ w.cell? ⟨b, 3, none⟩ = some (.int .i64 p.r0) ∧ w.cell? ⟨b, 4, none⟩ = some (.int .i64 p.r1) ∧
 w.cell? ⟨b, 5, none⟩ = some (.int .i64 p.r2) ∧ w.cell? ⟨b, 6, none⟩ = some (.int .i64 p.r3) ∧ w.cell? ⟨b, 7, none⟩ = some p.mems ∧ w.cell? ⟨b, 8, none⟩ = some p.labels ∧ w.cell? ⟨b, 9, none⟩ = some (.slice p.A p.n p.c)
theorem PrgAt.of_block {w : World} {g : Nat} {t : TypeId} {fr : Nat × Nat} {p : Prg} (h : w.heap[g]? = some (.cells p.cs.toArray t fr)) : PrgAt w g p := by
 have f : ∀ j u, p.cs[j]? = some u → w.cell? ⟨g, j, none⟩ = some u := fun j u hu => by
  have := cells_of_block h j u hu
  rwa [Nat.zero_add] at this
 exact ⟨f 0 _ rfl, f 1 _ rfl, f 2 _ rfl, f 3 _ rfl, f 4 _ rfl, f 5 _ rfl, f 6 _ rfl, f 7 _ rfl, f 8 _ rfl, f 9 _ rfl⟩
theorem inst_bound {il : List Inst} {pc : Int} (h : (instAt il pc).kind ≠ 12) : 0 ≤ pc ∧ pc < il.length := by
 unfold instAt at h
 split at h
 ·exact absurd rfl h
 ·by_cases hx : pc.toNat < il.length
  ·omega
  ·rw [List.getElem?_eq_none (by omega)] at h
   exact absurd rfl h

set_option maxRecDepth 100000 in
set_option maxHeartbeats 2000000 in
theorem real_any (p : Prg) (il : List Inst) (A : Option Addr) (c : Nat) (s : List Int) (A' : Option Addr) (c' : Nat) (l : List Ent) (i : Int) (w : World) (hn : p.n = il.length) (hm : p.n ≤ 1000000) (hp : RdN w p.A il)
  (hs : RdI w A s) (hsn : s.length ≤ 1000) (hl : RdE w A' l) (hlc : l.length ≤ c') (hln : l.length ≤ 1000000) :
  Calls Try.prog 26 #[p.v, .slice A s.length c, .slice A' l.length c', .int .i64 i] w (RealPost (realOf il s (l.take i.toNat)) w) := by
 have HP := Kept.mk hp
 have HS := Kept.mk hs
 have HE := Kept.mk hl
 have HN := Kept.mk hn
 clear hp hs hl hn
 go_enter Try.func26, Try.ntmps26
 go_wp2_with fail
 refine (clone_int A c s _ (HS.out.past (below_alloc_self w _)) (by omega)).mono ?_
 rintro en w1 ⟨v1, rfl, h1, b1⟩
 have H1 := Kept.mk (h1.lower (show w.heap.size + 1 ≤ _ by simp))
 have B1 := Kept.mk (b1.mono (show w.heap.size + 1 ≤ _ by simp))
 clear h1 b1
 go_wp2_with fail
 refine (cut_any A' c' l i _ (HE.out.past ((below_alloc_self w _).trans (B1.out.mono (by omega)))) hlc hln).mono ?_
 rintro en w3 ⟨v3, rfl, h3, b3⟩
 obtain ⟨A3, c3, rfl, hc3, -⟩ := h3.shape
 have hmn : (l.take i.toNat).length ≤ 1000000 := by rw [List.length_take]; omega
 have S1 : w.heap.size + 1 ≤ w1.heap.size := by have := B1.out.size; simpa using this
 have H3 := Kept.mk h3
 have AP := Kept.mk (show Apart w1.heap.size w3.heap.size w3 w3 v1 from ⟨fun k _ _ => rfl, fun g hg => by have := (World.ownsRow.lt H1.out g hg).2; omega, Nat.le_refl _⟩)
 have HO := Kept.mk (H1.out.past b3)
 have B3 := Kept.mk (B1.out.trans (b3.mono S1))
 clear h3 b3
 generalize hMM : l.take i.toNat = m at *
 have HM := Kept.mk hMM
 clear hMM
 go_wp2_with fail
 go_loopw [10, 19] (fun v i wr => ∃ (k : Nat) (out : List Int), k ≤ m.length ∧ i = .int .i64 k ∧ out.length ≤ 1000 ∧ Kept (realOf il out (m.drop k) = realOf il s m) ∧ OwnI wr (w.heap.size + 1) v out ∧ Apart w1.heap.size w3.heap.size w3 wr v ∧
  Below (w.heap.size + 1) (w.alloc (.cells p.cs.toArray 33)) wr) (fun _ i _ => m.length - (intOf i).toNat)
 case atStart => exact ⟨0, s, Nat.zero_le _, rfl, hsn, ⟨by rw [List.drop_zero]⟩, HO.out, AP.out, B3.out⟩
 case round =>
  obtain ⟨k, out, hk, rfl, hout, hre, ho, hap, hb⟩ := hrel
  obtain ⟨A4, c4, rfl, hc4, r4⟩ := ho.shape
  have hbx := Kept.mk ((hb.block _ (by omega)).trans (heap_alloc_new w (.cells p.cs.toArray 33)))
  have HBW := Kept.mk ((below_alloc_self w (.cells p.cs.toArray 33)).trans (hb.mono (by omega)))
  have HR4 := Kept.mk r4
  have HO4 := Kept.mk ho
  have HA := Kept.mk hap
  have HB := Kept.mk hb
  clear ho hap hb r4
  by_cases hlt : k < m.length
  ·obtain ⟨b, o, rfl, hb1, e0, e1, e2, e3, e4, e5, e6, e7⟩ := (own_reads (HA.out.own H3.out)).elem hlt
   obtain ⟨p0, p1, p2, p3, p4, p5, p6, p7, p8, p9⟩ := PrgAt.of_block hbx.out
   have hpw : w.heap.size < wr.heap.size := by have := HB.out.size; simp at this; omega
   have hd : m.drop k = m[k] :: m.drop (k + 1) := List.drop_eq_getElem_cons hlt
   have hre2 := hre.out
   rw [hd, realOf] at hre2
   have hat := fun w1 h => at_any p il m[k].pc w1 HN.out hm h
   have hbd := @inst_bound il m[k].pc
   generalize instAt il m[k].pc = I at hat hbd hre2
   have HRE := Kept.mk hre2
   clear hre2 hd
   by_cases h8 : I.kind = 8
   ·have hpc := hbd (by omega)
    rw [← HN.out] at hpc
    clear hbd
    have HAT := Kept.mk hat
    clear hat
    by_cases h4 : 4 ≤ out.length
    ·go_wp2_with fail
     refine (HAT.out _ ((HP.out.past HBW.out).past (below_alloc_self _ _))).mono ?_
     rintro en w5 ⟨rfl, b5⟩
     have B5 := Kept.mk ((HBW.out.trans ((below_alloc_self _ _).mono (by omega))).trans (b5.mono (by simp; omega)))
     clear b5
     go_wp2_with fail
     go_ret2
     exact RealPost.no (by rw [← HRE.out, if_pos h8, if_pos h4]) B5.out
    ·go_wp2_with fail
     refine (HAT.out _ ((HP.out.past HBW.out).past (below_alloc_self _ _))).mono ?_
     rintro en w5 ⟨rfl, b5⟩
     have b5' := (below_alloc_self wr (.cells m[k].cs.toArray 55)).trans (b5.mono (by simp))
     have hbx5 : w5.cell? ⟨wr.heap.size, 0, none⟩ = some (.int .i64 m[k].pc) := by
      rw [b5.cell (p := ⟨wr.heap.size, 0, none⟩) (by simp)]
      exact (EntAt.of_cells (e := m[k]) (fun j u _ hu => cells_of_block (heap_alloc_new wr _) j u hu)).1
     have O5 := Kept.mk (HO4.out.past b5')
     have A5 := Kept.mk (HA.out.past b5')
     have B5 := Kept.mk (HB.out.trans (b5'.mono (by omega)))
     clear b5 b5'
     go_wp2_with (at_builtin; go_must (refine append_int_lies _ rfl (.tmp 33) (.tmp 37) rfl (w.heap.size + 1) rfl (O5.out.past (below_alloc_self _ _)) _ (m[k].pc + 1) rfl (heap_at_new (by simp)) ?c1 ?c2 ?_))
     case c1 => omega
     case c2 => have := B5.out.size; simp at this ⊢; omega
     intro v6 w6 h6 hg6 hl6 b6
     have O6 := Kept.mk h6
     have A6 := Kept.mk ((A5.out.past (below_alloc_self w5 (.cells #[.int .i64 (m[k].pc + 1)] 3))).grown hg6 (hl6.imp_right fun h => h.trans (by simp)))
     have B6 := Kept.mk ((B5.out.alloc (by have := B5.out.size; simpa using this) (.cells #[.int .i64 (m[k].pc + 1)] 3)).trans b6)
     clear h6 hg6 hl6 b6
     go_wp2_with fail
     exact ⟨⟨k + 1, out ++ [m[k].pc + 1], by omega, by go_num, by simp; omega, ⟨by rw [← HRE.out, if_pos h8, if_neg h4]⟩, O6.out, A6.out, B6.out⟩, by simp [intOf]; omega⟩
   ·have h8' : (I.kind == 8) = false := by simp [h8]
    by_cases h9 : I.kind = 9
    ·have HAT := Kept.mk hat
     clear hat hbd h8'
     cases hol : out.length with
     | zero =>
      rw [hol] at hc4
      have HOL := Kept.mk hol
      clear hol
      go_wp2_with fail
      refine (HAT.out _ ((HP.out.past HBW.out).past (below_alloc_self _ _))).mono ?_
      rintro en w5 ⟨rfl, b5⟩
      have B5 := Kept.mk ((HBW.out.trans ((below_alloc_self _ _).mono (by omega))).trans (b5.mono (by simp; omega)))
      clear b5
      go_wp2_with fail
      go_ret2
      exact RealPost.no (by rw [← HRE.out, if_neg h8, if_pos h9, if_pos HOL.out]) B5.out
     | succ j =>
      obtain ⟨hcut, r5⟩ := cut_int_to HR4.out hc4 j (by omega)
      rw [hol] at hcut hc4
      have HOL := Kept.mk hol
      have hj : j < 1000 := by omega
      clear hol r5
      have H8 := Kept.mk h8
      clear h8
      go_wp2_with fail
      refine (HAT.out _ ((HP.out.past HBW.out).past (below_alloc_self _ _))).mono ?_
      rintro en w5 ⟨rfl, b5⟩
      have b5' := (below_alloc_self wr (.cells m[k].cs.toArray 55)).trans (b5.mono (by simp))
      have O5 := Kept.mk (HO4.out.past b5')
      have A5 := Kept.mk (HA.out.past b5')
      have B5 := Kept.mk (HB.out.trans (b5'.mono (by omega)))
      clear b5 b5'
      go_wp2_with fail
      exact ⟨⟨k + 1, out.take j, by omega, by go_num, by simp; omega, ⟨by rw [← HRE.out, if_neg H8.out, if_pos h9, if_neg (by have := HOL.out; omega), HOL.out]; rfl⟩, OwnI.take O5.out rfl (by have := HOL.out; omega), ⟨A5.out.mid, fun g hg => A5.out.far g (by rw [own_block_len A4 out.length j c4]; exact hg), A5.out.up⟩, B5.out⟩, by simp [intOf]; omega⟩
    ·have h9' : (I.kind == 9) = false := by simp [h9]
     have HAT := Kept.mk hat
     have H8 := Kept.mk h8
     have H9 := Kept.mk h9
     clear hat hbd h8 h9
     go_wp2_with fail
     refine (HAT.out _ ((HP.out.past HBW.out).past (below_alloc_self _ _))).mono ?_
     rintro en w5 ⟨rfl, b5⟩
     have b5' := (below_alloc_self wr (.cells m[k].cs.toArray 55)).trans (b5.mono (by simp))
     have O5 := Kept.mk (HO4.out.past b5')
     have A5 := Kept.mk (HA.out.past b5')
     have B5 := Kept.mk (HB.out.trans (b5'.mono (by omega)))
     clear b5 b5'
     go_wp2_with fail
     exact ⟨⟨k + 1, out, by omega, by go_num, by omega, ⟨by rw [← HRE.out, if_neg H8.out, if_neg H9.out]⟩, O5.out, A5.out, B5.out⟩, by simp [intOf]; omega⟩
  ·have hkm : k = m.length := by omega
   have hdn : realOf il s m = some out := by
    rw [← hre.out, hkm, List.drop_length, realOf]
   have HD := Kept.mk hdn
   clear hdn hre
   go_wp2_with fail
   refine (clone_int A4 c4 out _ HR4.out (by omega)).mono ?_
   rintro en w5 ⟨v5, rfl, h5, b5⟩
   have H5 := Kept.mk (h5.lower (show w.heap.size ≤ _ from HBW.out.size))
   have B5 := Kept.mk (HBW.out.trans (b5.mono HBW.out.size))
   clear h5 b5
   go_wp2_with fail
   go_ret2
   exact RealPost.yes HD.out H5.out B5.out

end Go.Proofs.Ytchldbkjapnlcaa
end
section
namespace Go.Proofs.Ytchldbkjapnlcaa
open Go.RowKit

end Go.Proofs.Ytchldbkjapnlcaa
end
section
namespace Go.Proofs.Ytchldbkjapnlcaa
open Go.RowKit

end Go.Proofs.Ytchldbkjapnlcaa
end
