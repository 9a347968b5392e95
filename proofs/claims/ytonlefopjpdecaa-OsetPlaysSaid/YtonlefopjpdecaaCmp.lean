/- Rows of bytes held against each other: by the code, and by the document's own. -/
import Derived.Test.YtonlefopjpdecaaCodp
import Derived.BigQuiet
namespace Go.Proofs.Ytonlefopjpdecaa
open Go.RowKit

theorem bytes_compare (A A' : Option Addr) (n m c c' : Nat) (a b : List UInt8) (w : World) (ha : a.length = n) (hb : b.length = m) (hr : RdB w A a) (hr' : RdB w A' b) :
    Calls Try.prog 21 #[.slice A n c, .slice A' m c'] w fun en w' => en = .returned (.int .i64 (Lib.compareBytes a b)) ∧ w' = w := by
  subst ha hb
  have h1 := run_compare (c := c) (c' := c') hr hr'
  go_enter Try.func21, Try.ntmps21
  go_wp2
  rw [run_callFunc_extern Try.func22 (by kernel_rfl) (by kernel_rfl) (by kernel_rfl) (e := Extern.BytealgCompare.compare) (by kernel_rfl), h1]
  simp only [Result.andThen]
  rw [Oper.upon_value]
  go_wp2
  go_ret
  exact ⟨rfl, rfl⟩
theorem code_less (A A' : Option Addr) (n m c c' : Nat) (a b : List UInt8) (w : World) (ha : a.length = n) (hb : b.length = m) (hr : RdB w A a) (hr' : RdB w A' b) :
    Calls Try.prog 19 #[.slice A n c, .slice A' m c'] w fun en w' => en = .returned (.bool (lessB a b)) ∧ w' = w := by
  have HR := Kept.mk hr
  have HR' := Kept.mk hr'
  clear hr hr'
  by_cases h : a.length = b.length
  · have hl : lessB a b = decide (Lib.compareBytes a b < 0) := if_pos h
    have hnm : ((n : Int) != (m : Int)) = false := by rw [← ha, ← hb, h]; simp
    have HL := Kept.mk hl
    have HA := Kept.mk ha
    have HB := Kept.mk hb
    clear hl h ha hb
    go_enter Try.func19, Try.ntmps19
    go_wp2_with fail
    refine (bytes_compare A A' n m c c' a b _ HA.out HB.out HR.out HR'.out).mono ?_
    rintro en w1 ⟨rfl, hw⟩
    have hw' := hw.symm
    subst hw'
    go_wp2_with fail
    go_ret
    exact ⟨by rw [HL.out]; rfl, rfl⟩
  · have hl : lessB a b = decide (a.length < b.length) := if_neg h
    have hnm : ((n : Int) != (m : Int)) = true := by rw [← ha, ← hb]; simp; omega
    have HL := Kept.mk hl
    clear hl h
    subst ha hb
    go_enter Try.func19, Try.ntmps19
    go_wp2_with fail
    go_ret
    exact ⟨by rw [HL.out]; simp, rfl⟩
theorem ref_less (A A' : Option Addr) (n m c c' : Nat) (a b : List UInt8) (w : World) (ha : a.length = n) (hb : b.length = m) (hr : RdB w A a) (hr' : RdB w A' b) :
    Calls Try.prog 13 #[.slice A n c, .slice A' m c'] w fun en w' => en = .returned (.bool (lessB a b)) ∧ w' = w := by
  have h1 := run_string (c := c) hr ha
  have h2 := run_string (c := c') hr' hb
  have he := Kept.mk (bytesLess_eq a b)
  by_cases h : a.length = b.length
  · have hl : lessB a b = decide (Lib.compareBytes a b < 0) := if_pos h
    have hnm : ((n : Int) != (m : Int)) = false := by rw [← ha, ← hb, h]; simp
    have HL := Kept.mk hl
    clear hl h ha hb
    go_enter Try.func13, Try.ntmps13
    go_wp2_with fail
    go_ret
    exact ⟨by rw [HL.out, ← he.out]; rfl, rfl⟩
  · have hl : lessB a b = decide (a.length < b.length) := if_neg h
    have hnm : ((n : Int) != (m : Int)) = true := by rw [← ha, ← hb]; simp; omega
    have HL := Kept.mk hl
    clear hl h
    subst ha hb
    go_enter Try.func13, Try.ntmps13
    go_wp2_with fail
    go_ret
    exact ⟨by rw [HL.out]; simp, rfl⟩

end Go.Proofs.Ytonlefopjpdecaa
