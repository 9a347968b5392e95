/- The document's SameEnts only reads: the world behind it is the one ahead of it, some draws later. -/
import Derived.Test.YtdfcbfcnanpolaaRobc
import Derived.BigQuiet
namespace Go.Proofs.Ytdfcbfcnanpolaa
open Go.RowKit

set_option maxHeartbeats 800000 in
theorem same_ents_quiet (A A' : Option Addr) (c c' : Nat) (l m : List Ent) (w : World) (hr : RdE w A l) (hr' : RdE w A' m) (hc : l.length ≤ 1000000) :
    Calls Try.prog 18 #[.slice A l.length c, .slice A' m.length c'] w fun en w' => en = .returned (.bool (decide (l = m))) ∧ ∃ n, w' = w.drewN n := by
  have HR := Kept.mk hr
  have HR' := Kept.mk hr'
  clear hr hr'
  by_cases hl : l.length = m.length
  · have HL := Kept.mk hl
    have hlb : ((l.length : Int) != (m.length : Int)) = false := by rw [hl]; simp
    have hcm : m.length ≤ 1000000 := by omega
    clear hl
    go_enter Try.func18, Try.ntmps18
    go_wp2_with fail
    go_loopw [5] (fun i wr => ∃ k : Nat, k ≤ l.length ∧ i = .int .i64 k ∧ Kept (l.take k = m.take k) ∧ ∃ n, wr = w.drewN n) (fun i _ => l.length - (intOf i).toNat)
    case atStart => exact ⟨0, Nat.zero_le _, rfl, ⟨by simp⟩, 0, rfl⟩
    case round =>
      obtain ⟨k, hk, rfl, ht, nd, rfl⟩ := hrel
      by_cases hlt : k < l.length
      · have hlm : k < m.length := by have := HL.out; omega
        obtain ⟨b, o, rfl, hb1, q0, q1, q2, q3, q4, q5, q6, q7⟩ := HR.out.elem hlt
        obtain ⟨b', o', rfl, hb2, r0, r1, r2, r3, r4, r5, r6, r7⟩ := HR'.out.elem hlm
        have hne := fun w => run_neq_ent l[k] m[k] w
        unfold Ent.v at hne
        by_cases he : l[k] = m[k]
        · have hd : (!decide (l[k] = m[k])) = false := by simp [he]
          have HE := Kept.mk he
          clear he
          simp only [hd] at hne
          clear hd
          go_wp2_with fail
          go_quiet (fail)
          go_wp2_with fail
          go_roundw
          case rel => exact ⟨k + 1, by omega, by go_num, ⟨(take_step hlt hlm ht.out).2 HE.out⟩, _, rfl⟩
          case measure => simp [intOf]; omega
        · have hd : (!decide (l[k] = m[k])) = true := by simp [he]
          have HE := Kept.mk he
          clear he
          simp only [hd] at hne
          clear hd
          go_wp2_with fail
          go_quiet (fail)
          go_wp2_with fail
          go_ret
          exact ⟨by simp [take_ne hlt hlm HE.out], _, World.drewN_drewN _ _ _⟩
      · have hke : l.take k = l := List.take_of_length_le (by omega)
        have hkm : m.take k = m := List.take_of_length_le (by have := HL.out; omega)
        have HK := Kept.mk hke
        have HM := Kept.mk hkm
        clear hke hkm
        go_wp2_with fail
        go_ret
        have he : l = m := by have := ht.out; rw [HK.out, HM.out] at this; exact this
        exact ⟨by simp [he], _, rfl⟩
  · have hlb : ((l.length : Int) != (m.length : Int)) = true := by simp; omega
    go_enter Try.func18, Try.ntmps18
    go_wp2_with fail
    go_ret
    have hne : l ≠ m := fun h => hl (by rw [h])
    exact ⟨by simp [hne], 0, rfl⟩

end Go.Proofs.Ytdfcbfcnanpolaa
