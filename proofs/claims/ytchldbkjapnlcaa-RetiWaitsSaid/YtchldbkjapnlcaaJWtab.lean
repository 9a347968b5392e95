/- RetiWaits: its table. -/
import Derived.Test.YtchldbkjapnlcaaJr
set_option linter.unusedVariables false
set_option linter.unusedSimpArgs false
section
namespace Go.Proofs.Ytchldbkjapnlcaa
open Go.RowKit

def ilW : List Inst := [⟨1, 1, 0, false, 0, false, 0, ⟨#[]⟩, 0⟩, ⟨3, 0, 0, false, 0, false, 0, ⟨#[]⟩, 0⟩, ⟨10, 0, 0, false, 0, false, 0, ⟨#[]⟩, 0⟩, ⟨11, 0, 0, false, 0, false, 0, ⟨#[]⟩, 0⟩, ⟨2, 0, 0, false, 0, false, 0, ⟨#[]⟩, 0⟩, ⟨9, 0, 0, false, 0, false, 0, ⟨#[]⟩, 0⟩]
def mW (e : Ent) : Conf := ⟨⟨0, 0, 0, 0, [0, 0], [1], 1⟩, [e, ⟨0, 3, 0, 0, 0, true, false, false⟩], [2], 0⟩
/-- What is told of a row of the table. -/
structure RowW (e : Ent) (ok : Bool) (en : Int) : Prop where
 c : canRetOf ilW (mW e) = ok
 ft : ok = true → retFit ilW (mW e)
 z : ok = true → en ≠ 0 → (retireOf ilW (mW e)).fin = en ∧ (retireOf ilW (mW e)).buf = [] ∧ (retireOf ilW (mW e)).rsb = [] ∧ (retireOf ilW (mW e)).st.pc = e.pc ∧ (retireOf ilW (mW e)).st.stack.length = 1
 g : ok = true → en = 0 → (retireOf ilW (mW e)).fin = 0 ∧ (retireOf ilW (mW e)).buf = [⟨0, 3, 0, 0 - 1, 0, true, false, false⟩] ∧ (retireOf ilW (mW e)).rsb.length = 1 ∧ (retireOf ilW (mW e)).st.pc = 1
def tabW : List Value := [.int .i64 0, .int .i64 0, .int .i64 0, .int .i64 0, .int .i64 0, .bool false, .bool false, .bool false, .bool false, .int .i64 0, .int .i64 0, .int .i64 0, .int .i64 0, .int .i64 0, .int .i64 0, .bool true, .bool false, .bool false, .bool true, .int .i64 0, .int .i64 1, .int .i64 0, .int .i64 0, .int .i64 0, .int .i64 0, .bool true, .bool false, .bool false, .bool false, .int .i64 0, .int .i64 1, .int .i64 0, .int .i64 0, .int .i64 0, .int .i64 0, .bool false, .bool true, .bool false, .bool false, .int .i64 0, .int .i64 1, .int .i64 0, .int .i64 0, .int .i64 0, .int .i64 0, .bool true, .bool true, .bool false, .bool true, .int .i64 0, .int .i64 1, .int .i64 0, .int .i64 0, .int .i64 0, .int .i64 0, .bool true, .bool true, .bool true, .bool true, .int .i64 2, .int .i64 2, .int .i64 0, .int .i64 0, .int .i64 0, .int .i64 0, .bool false, .bool false, .bool false, .bool true, .int .i64 0, .int .i64 3, .int .i64 0, .int .i64 0, .int .i64 0, .int .i64 0, .bool true, .bool false, .bool false, .bool true, .int .i64 1, .int .i64 4, .int .i64 0, .int .i64 0, .int .i64 0, .int .i64 0, .bool true, .bool false, .bool true, .bool true, .int .i64 2, .int .i64 9, .int .i64 0, .int .i64 0, .int .i64 0, .int .i64 0, .bool true, .bool false, .bool false, .bool true, .int .i64 2, .int .i64 5, .int .i64 0, .int .i64 0, .int .i64 0, .int .i64 0, .bool true, .bool false, .bool true, .bool true, .int .i64 2, .int .i64 5, .int .i64 0, .int .i64 0, .int .i64 0, .int .i64 0, .bool true, .bool false, .bool false, .bool true, .int .i64 0]
theorem fitW (e : Ent) (h : (e.fault = false → (instAt ilW e.pc).kind = 3 → 0 ≤ e.addr ∧ e.addr < 2) ∧ (-2 ≤ e.pc ∧ e.pc ≤ 1000000) ∧ 0 ≤ (instAt ilW e.pc).d ∧ (instAt ilW e.pc).d ≤ 3) : retFit ilW (mW e) := fun e' t hb => by
 injection hb with h1 h2
 subst h1 h2
 exact ⟨fun a b => by have := h.1 a b; exact this, fun _ _ => by show ([1] : List Int) ≠ []; decide, h.2.1, h.2.2⟩
theorem rowW0 : RowW ⟨0, 0, 0, 0, 0, false, false, false⟩ false 0 := ⟨by decide, fun h => (by cases h), fun h => (by cases h), fun h => (by cases h)⟩
theorem rowW1 : RowW ⟨0, 0, 0, 0, 0, true, false, false⟩ true 0 := ⟨by decide, fun _ => fitW _ (by decide), fun _ h => (absurd rfl h), fun _ h => (by decide)⟩
theorem rowW2 : RowW ⟨1, 0, 0, 0, 0, true, false, false⟩ false 0 := ⟨by decide, fun h => (by cases h), fun h => (by cases h), fun h => (by cases h)⟩
theorem rowW3 : RowW ⟨1, 0, 0, 0, 0, false, true, false⟩ false 0 := ⟨by decide, fun h => (by cases h), fun h => (by cases h), fun h => (by cases h)⟩
theorem rowW4 : RowW ⟨1, 0, 0, 0, 0, true, true, false⟩ true 0 := ⟨by decide, fun _ => fitW _ (by decide), fun _ h => (absurd rfl h), fun _ h => (by decide)⟩
theorem rowW5 : RowW ⟨1, 0, 0, 0, 0, true, true, true⟩ true 2 := ⟨by decide, fun _ => fitW _ (by decide), fun _ h => (by decide), fun _ h => (absurd h (by decide))⟩
theorem rowW6 : RowW ⟨2, 0, 0, 0, 0, false, false, false⟩ true 0 := ⟨by decide, fun _ => fitW _ (by decide), fun _ h => (absurd rfl h), fun _ h => (by decide)⟩
theorem rowW7 : RowW ⟨3, 0, 0, 0, 0, true, false, false⟩ true 1 := ⟨by decide, fun _ => fitW _ (by decide), fun _ h => (by decide), fun _ h => (absurd h (by decide))⟩
theorem rowW8 : RowW ⟨4, 0, 0, 0, 0, true, false, true⟩ true 2 := ⟨by decide, fun _ => fitW _ (by decide), fun _ h => (by decide), fun _ h => (absurd h (by decide))⟩
theorem rowW9 : RowW ⟨9, 0, 0, 0, 0, true, false, false⟩ true 2 := ⟨by decide, fun _ => fitW _ (by decide), fun _ h => (by decide), fun _ h => (absurd h (by decide))⟩
theorem rowW10 : RowW ⟨5, 0, 0, 0, 0, true, false, true⟩ true 2 := ⟨by decide, fun _ => fitW _ (by decide), fun _ h => (by decide), fun _ h => (absurd h (by decide))⟩
theorem rowW11 : RowW ⟨5, 0, 0, 0, 0, true, false, false⟩ true 0 := ⟨by decide, fun _ => fitW _ (by decide), fun _ h => (absurd rfl h), fun _ h => (by decide)⟩
theorem tabW_at (k : Nat) (hk : k < 12) : ∃ (epc en : Int) (ed ek ef ok : Bool), (∀ j u, [.int .i64 epc, .int .i64 0, .int .i64 0, .int .i64 0, .int .i64 0, .bool ed, .bool ek, .bool ef, .bool ok, .int .i64 en][j]? = some u → tabW[k * 10 + j]? = some u) ∧ RowW ⟨epc, 0, 0, 0, 0, ed, ek, ef⟩ ok en := by
 match k, hk with
 | 0, _ => exact ⟨0, 0, false, false, false, false, fun j u hu => (by match j, hu with
  | 0, hu => exact hu
  | 1, hu => exact hu
  | 2, hu => exact hu
  | 3, hu => exact hu
  | 4, hu => exact hu
  | 5, hu => exact hu
  | 6, hu => exact hu
  | 7, hu => exact hu
  | 8, hu => exact hu
  | 9, hu => exact hu
  | n + 10, hu => simp at hu), rowW0⟩
 | 1, _ => exact ⟨0, 0, true, false, false, true, fun j u hu => (by match j, hu with
  | 0, hu => exact hu
  | 1, hu => exact hu
  | 2, hu => exact hu
  | 3, hu => exact hu
  | 4, hu => exact hu
  | 5, hu => exact hu
  | 6, hu => exact hu
  | 7, hu => exact hu
  | 8, hu => exact hu
  | 9, hu => exact hu
  | n + 10, hu => simp at hu), rowW1⟩
 | 2, _ => exact ⟨1, 0, true, false, false, false, fun j u hu => (by match j, hu with
  | 0, hu => exact hu
  | 1, hu => exact hu
  | 2, hu => exact hu
  | 3, hu => exact hu
  | 4, hu => exact hu
  | 5, hu => exact hu
  | 6, hu => exact hu
  | 7, hu => exact hu
  | 8, hu => exact hu
  | 9, hu => exact hu
  | n + 10, hu => simp at hu), rowW2⟩
 | 3, _ => exact ⟨1, 0, false, true, false, false, fun j u hu => (by match j, hu with
  | 0, hu => exact hu
  | 1, hu => exact hu
  | 2, hu => exact hu
  | 3, hu => exact hu
  | 4, hu => exact hu
  | 5, hu => exact hu
  | 6, hu => exact hu
  | 7, hu => exact hu
  | 8, hu => exact hu
  | 9, hu => exact hu
  | n + 10, hu => simp at hu), rowW3⟩
 | 4, _ => exact ⟨1, 0, true, true, false, true, fun j u hu => (by match j, hu with
  | 0, hu => exact hu
  | 1, hu => exact hu
  | 2, hu => exact hu
  | 3, hu => exact hu
  | 4, hu => exact hu
  | 5, hu => exact hu
  | 6, hu => exact hu
  | 7, hu => exact hu
  | 8, hu => exact hu
  | 9, hu => exact hu
  | n + 10, hu => simp at hu), rowW4⟩
 | 5, _ => exact ⟨1, 2, true, true, true, true, fun j u hu => (by match j, hu with
  | 0, hu => exact hu
  | 1, hu => exact hu
  | 2, hu => exact hu
  | 3, hu => exact hu
  | 4, hu => exact hu
  | 5, hu => exact hu
  | 6, hu => exact hu
  | 7, hu => exact hu
  | 8, hu => exact hu
  | 9, hu => exact hu
  | n + 10, hu => simp at hu), rowW5⟩
 | 6, _ => exact ⟨2, 0, false, false, false, true, fun j u hu => (by match j, hu with
  | 0, hu => exact hu
  | 1, hu => exact hu
  | 2, hu => exact hu
  | 3, hu => exact hu
  | 4, hu => exact hu
  | 5, hu => exact hu
  | 6, hu => exact hu
  | 7, hu => exact hu
  | 8, hu => exact hu
  | 9, hu => exact hu
  | n + 10, hu => simp at hu), rowW6⟩
 | 7, _ => exact ⟨3, 1, true, false, false, true, fun j u hu => (by match j, hu with
  | 0, hu => exact hu
  | 1, hu => exact hu
  | 2, hu => exact hu
  | 3, hu => exact hu
  | 4, hu => exact hu
  | 5, hu => exact hu
  | 6, hu => exact hu
  | 7, hu => exact hu
  | 8, hu => exact hu
  | 9, hu => exact hu
  | n + 10, hu => simp at hu), rowW7⟩
 | 8, _ => exact ⟨4, 2, true, false, true, true, fun j u hu => (by match j, hu with
  | 0, hu => exact hu
  | 1, hu => exact hu
  | 2, hu => exact hu
  | 3, hu => exact hu
  | 4, hu => exact hu
  | 5, hu => exact hu
  | 6, hu => exact hu
  | 7, hu => exact hu
  | 8, hu => exact hu
  | 9, hu => exact hu
  | n + 10, hu => simp at hu), rowW8⟩
 | 9, _ => exact ⟨9, 2, true, false, false, true, fun j u hu => (by match j, hu with
  | 0, hu => exact hu
  | 1, hu => exact hu
  | 2, hu => exact hu
  | 3, hu => exact hu
  | 4, hu => exact hu
  | 5, hu => exact hu
  | 6, hu => exact hu
  | 7, hu => exact hu
  | 8, hu => exact hu
  | 9, hu => exact hu
  | n + 10, hu => simp at hu), rowW9⟩
 | 10, _ => exact ⟨5, 2, true, false, true, true, fun j u hu => (by match j, hu with
  | 0, hu => exact hu
  | 1, hu => exact hu
  | 2, hu => exact hu
  | 3, hu => exact hu
  | 4, hu => exact hu
  | 5, hu => exact hu
  | 6, hu => exact hu
  | 7, hu => exact hu
  | 8, hu => exact hu
  | 9, hu => exact hu
  | n + 10, hu => simp at hu), rowW10⟩
 | 11, _ => exact ⟨5, 0, true, false, false, true, fun j u hu => (by match j, hu with
  | 0, hu => exact hu
  | 1, hu => exact hu
  | 2, hu => exact hu
  | 3, hu => exact hu
  | 4, hu => exact hu
  | 5, hu => exact hu
  | 6, hu => exact hu
  | 7, hu => exact hu
  | 8, hu => exact hu
  | 9, hu => exact hu
  | n + 10, hu => simp at hu), rowW11⟩
end Go.Proofs.Ytchldbkjapnlcaa
end
