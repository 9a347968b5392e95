/- FetcKinds: its table. -/
import Derived.Test.YtchldbkjapnlcaaJn
import Derived.Test.YtchldbkjapnlcaaJd
set_option linter.unusedVariables false
set_option linter.unusedSimpArgs false
section
namespace Go.Proofs.Ytchldbkjapnlcaa
open Go.RowKit

def fenceK : Inst := ⟨10, 0, 0, false, 0, false, 0, ⟨#[]⟩, 0⟩
def ilK (i : Inst) : List Inst := [fenceK, i, fenceK, fenceK, fenceK]
def cK (full : Bool) : Conf := ⟨⟨0, 0, 0, 0, [], [], 1⟩, [], if full = true then [3, 4] else [], 0⟩
/-- What is told of a row of the table, with a return buffer or none. -/
structure RowK (i : Inst) (full : Bool) (n nx rs : Int) (dn : Bool) : Prop where
 g : guessesOf 2 (ilK i) (cK full) = n
 q : ∃ d : Conf, fetchQ 2 (ilK i) (cK full) (n - 1) = some d ∧ d.buf = [⟨1, 0, 0, -1, nx, dn, false, false⟩] ∧ d.st.pc = nx ∧ (d.rsb.length : Int) = rs
 z : fetchQ 2 (ilK i) (cK full) n = none
 y : fetchQ 2 (ilK i) (cK full) (-1) = none
 b : 1 ≤ n ∧ n ≤ 6
def tabK : List Value := [.int .i64 1, .int .i64 1, .int .i64 0, .bool false, .int .i64 0, .bool false, .int .i64 0, .string ⟨#[]⟩, .int .i64 0, .int .i64 1, .int .i64 1, .int .i64 2, .bool false, .int .i64 0, .int .i64 2, .int .i64 2, .int .i64 0, .int .i64 0, .bool false, .int .i64 0, .bool false, .int .i64 0, .string ⟨#[]⟩, .int .i64 0, .int .i64 1, .int .i64 1, .int .i64 2, .bool false, .int .i64 0, .int .i64 2, .int .i64 3, .int .i64 0, .int .i64 0, .bool false, .int .i64 0, .bool false, .int .i64 0, .string ⟨#[]⟩, .int .i64 0, .int .i64 1, .int .i64 1, .int .i64 2, .bool false, .int .i64 0, .int .i64 2, .int .i64 4, .int .i64 0, .int .i64 0, .bool false, .int .i64 0, .bool false, .int .i64 0, .string ⟨#[]⟩, .int .i64 0, .int .i64 1, .int .i64 1, .int .i64 2, .bool false, .int .i64 0, .int .i64 2, .int .i64 10, .int .i64 0, .int .i64 0, .bool false, .int .i64 0, .bool false, .int .i64 0, .string ⟨#[]⟩, .int .i64 0, .int .i64 1, .int .i64 1, .int .i64 2, .bool false, .int .i64 0, .int .i64 2, .int .i64 5, .int .i64 1, .int .i64 0, .bool false, .int .i64 0, .bool false, .int .i64 0, .string ⟨#[]⟩, .int .i64 4, .int .i64 2, .int .i64 2, .int .i64 4, .bool false, .int .i64 0, .int .i64 2, .int .i64 6, .int .i64 0, .int .i64 0, .bool false, .int .i64 0, .bool false, .int .i64 0, .string ⟨#[]⟩, .int .i64 4, .int .i64 1, .int .i64 1, .int .i64 4, .bool true, .int .i64 0, .int .i64 2, .int .i64 7, .int .i64 0, .int .i64 0, .bool false, .int .i64 0, .bool false, .int .i64 0, .string ⟨#[]⟩, .int .i64 0, .int .i64 6, .int .i64 6, .int .i64 5, .bool false, .int .i64 0, .int .i64 2, .int .i64 8, .int .i64 0, .int .i64 0, .bool false, .int .i64 0, .bool false, .int .i64 0, .string ⟨#[]⟩, .int .i64 3, .int .i64 1, .int .i64 1, .int .i64 3, .bool true, .int .i64 1, .int .i64 2, .int .i64 9, .int .i64 0, .int .i64 0, .bool false, .int .i64 0, .bool false, .int .i64 0, .string ⟨#[]⟩, .int .i64 0, .int .i64 6, .int .i64 1, .int .i64 5, .bool false, .int .i64 0, .int .i64 1, .int .i64 11, .int .i64 0, .int .i64 0, .bool false, .int .i64 0, .bool false, .int .i64 0, .string ⟨#[]⟩, .int .i64 0, .int .i64 1, .int .i64 1, .int .i64 (-1), .bool true, .int .i64 0, .int .i64 2]
theorem rowK0a : RowK ⟨1, 1, 0, false, 0, false, 0, ⟨#[]⟩, 0⟩ false 1 2 0 false := ⟨by decide, ⟨(fetchQ 2 (ilK ⟨1, 1, 0, false, 0, false, 0, ⟨#[]⟩, 0⟩) (cK false) (1 - 1)).getD Conf.zero, by decide, by decide, by decide, by decide⟩, by decide, by decide, by decide⟩
theorem rowK0b : RowK ⟨1, 1, 0, false, 0, false, 0, ⟨#[]⟩, 0⟩ true 1 (if (1 : Int) = 9 then 4 else 2) 2 false := ⟨by decide, ⟨(fetchQ 2 (ilK ⟨1, 1, 0, false, 0, false, 0, ⟨#[]⟩, 0⟩) (cK true) (1 - 1)).getD Conf.zero, by decide, by decide, by decide, by decide⟩, by decide, by decide, by decide⟩
theorem rowK1a : RowK ⟨2, 0, 0, false, 0, false, 0, ⟨#[]⟩, 0⟩ false 1 2 0 false := ⟨by decide, ⟨(fetchQ 2 (ilK ⟨2, 0, 0, false, 0, false, 0, ⟨#[]⟩, 0⟩) (cK false) (1 - 1)).getD Conf.zero, by decide, by decide, by decide, by decide⟩, by decide, by decide, by decide⟩
theorem rowK1b : RowK ⟨2, 0, 0, false, 0, false, 0, ⟨#[]⟩, 0⟩ true 1 (if (2 : Int) = 9 then 4 else 2) 2 false := ⟨by decide, ⟨(fetchQ 2 (ilK ⟨2, 0, 0, false, 0, false, 0, ⟨#[]⟩, 0⟩) (cK true) (1 - 1)).getD Conf.zero, by decide, by decide, by decide, by decide⟩, by decide, by decide, by decide⟩
theorem rowK2a : RowK ⟨3, 0, 0, false, 0, false, 0, ⟨#[]⟩, 0⟩ false 1 2 0 false := ⟨by decide, ⟨(fetchQ 2 (ilK ⟨3, 0, 0, false, 0, false, 0, ⟨#[]⟩, 0⟩) (cK false) (1 - 1)).getD Conf.zero, by decide, by decide, by decide, by decide⟩, by decide, by decide, by decide⟩
theorem rowK2b : RowK ⟨3, 0, 0, false, 0, false, 0, ⟨#[]⟩, 0⟩ true 1 (if (3 : Int) = 9 then 4 else 2) 2 false := ⟨by decide, ⟨(fetchQ 2 (ilK ⟨3, 0, 0, false, 0, false, 0, ⟨#[]⟩, 0⟩) (cK true) (1 - 1)).getD Conf.zero, by decide, by decide, by decide, by decide⟩, by decide, by decide, by decide⟩
theorem rowK3a : RowK ⟨4, 0, 0, false, 0, false, 0, ⟨#[]⟩, 0⟩ false 1 2 0 false := ⟨by decide, ⟨(fetchQ 2 (ilK ⟨4, 0, 0, false, 0, false, 0, ⟨#[]⟩, 0⟩) (cK false) (1 - 1)).getD Conf.zero, by decide, by decide, by decide, by decide⟩, by decide, by decide, by decide⟩
theorem rowK3b : RowK ⟨4, 0, 0, false, 0, false, 0, ⟨#[]⟩, 0⟩ true 1 (if (4 : Int) = 9 then 4 else 2) 2 false := ⟨by decide, ⟨(fetchQ 2 (ilK ⟨4, 0, 0, false, 0, false, 0, ⟨#[]⟩, 0⟩) (cK true) (1 - 1)).getD Conf.zero, by decide, by decide, by decide, by decide⟩, by decide, by decide, by decide⟩
theorem rowK4a : RowK ⟨10, 0, 0, false, 0, false, 0, ⟨#[]⟩, 0⟩ false 1 2 0 false := ⟨by decide, ⟨(fetchQ 2 (ilK ⟨10, 0, 0, false, 0, false, 0, ⟨#[]⟩, 0⟩) (cK false) (1 - 1)).getD Conf.zero, by decide, by decide, by decide, by decide⟩, by decide, by decide, by decide⟩
theorem rowK4b : RowK ⟨10, 0, 0, false, 0, false, 0, ⟨#[]⟩, 0⟩ true 1 (if (10 : Int) = 9 then 4 else 2) 2 false := ⟨by decide, ⟨(fetchQ 2 (ilK ⟨10, 0, 0, false, 0, false, 0, ⟨#[]⟩, 0⟩) (cK true) (1 - 1)).getD Conf.zero, by decide, by decide, by decide, by decide⟩, by decide, by decide, by decide⟩
theorem rowK5a : RowK ⟨5, 1, 0, false, 0, false, 0, ⟨#[]⟩, 4⟩ false 2 4 0 false := ⟨by decide, ⟨(fetchQ 2 (ilK ⟨5, 1, 0, false, 0, false, 0, ⟨#[]⟩, 4⟩) (cK false) (2 - 1)).getD Conf.zero, by decide, by decide, by decide, by decide⟩, by decide, by decide, by decide⟩
theorem rowK5b : RowK ⟨5, 1, 0, false, 0, false, 0, ⟨#[]⟩, 4⟩ true 2 (if (5 : Int) = 9 then 4 else 4) 2 false := ⟨by decide, ⟨(fetchQ 2 (ilK ⟨5, 1, 0, false, 0, false, 0, ⟨#[]⟩, 4⟩) (cK true) (2 - 1)).getD Conf.zero, by decide, by decide, by decide, by decide⟩, by decide, by decide, by decide⟩
theorem rowK6a : RowK ⟨6, 0, 0, false, 0, false, 0, ⟨#[]⟩, 4⟩ false 1 4 0 true := ⟨by decide, ⟨(fetchQ 2 (ilK ⟨6, 0, 0, false, 0, false, 0, ⟨#[]⟩, 4⟩) (cK false) (1 - 1)).getD Conf.zero, by decide, by decide, by decide, by decide⟩, by decide, by decide, by decide⟩
theorem rowK6b : RowK ⟨6, 0, 0, false, 0, false, 0, ⟨#[]⟩, 4⟩ true 1 (if (6 : Int) = 9 then 4 else 4) 2 true := ⟨by decide, ⟨(fetchQ 2 (ilK ⟨6, 0, 0, false, 0, false, 0, ⟨#[]⟩, 4⟩) (cK true) (1 - 1)).getD Conf.zero, by decide, by decide, by decide, by decide⟩, by decide, by decide, by decide⟩
theorem rowK7a : RowK ⟨7, 0, 0, false, 0, false, 0, ⟨#[]⟩, 0⟩ false 6 5 0 false := ⟨by decide, ⟨(fetchQ 2 (ilK ⟨7, 0, 0, false, 0, false, 0, ⟨#[]⟩, 0⟩) (cK false) (6 - 1)).getD Conf.zero, by decide, by decide, by decide, by decide⟩, by decide, by decide, by decide⟩
theorem rowK7b : RowK ⟨7, 0, 0, false, 0, false, 0, ⟨#[]⟩, 0⟩ true 6 (if (7 : Int) = 9 then 4 else 5) 2 false := ⟨by decide, ⟨(fetchQ 2 (ilK ⟨7, 0, 0, false, 0, false, 0, ⟨#[]⟩, 0⟩) (cK true) (6 - 1)).getD Conf.zero, by decide, by decide, by decide, by decide⟩, by decide, by decide, by decide⟩
theorem rowK8a : RowK ⟨8, 0, 0, false, 0, false, 0, ⟨#[]⟩, 3⟩ false 1 3 1 true := ⟨by decide, ⟨(fetchQ 2 (ilK ⟨8, 0, 0, false, 0, false, 0, ⟨#[]⟩, 3⟩) (cK false) (1 - 1)).getD Conf.zero, by decide, by decide, by decide, by decide⟩, by decide, by decide, by decide⟩
theorem rowK8b : RowK ⟨8, 0, 0, false, 0, false, 0, ⟨#[]⟩, 3⟩ true 1 (if (8 : Int) = 9 then 4 else 3) 2 true := ⟨by decide, ⟨(fetchQ 2 (ilK ⟨8, 0, 0, false, 0, false, 0, ⟨#[]⟩, 3⟩) (cK true) (1 - 1)).getD Conf.zero, by decide, by decide, by decide, by decide⟩, by decide, by decide, by decide⟩
theorem rowK9a : RowK ⟨9, 0, 0, false, 0, false, 0, ⟨#[]⟩, 0⟩ false 6 5 0 false := ⟨by decide, ⟨(fetchQ 2 (ilK ⟨9, 0, 0, false, 0, false, 0, ⟨#[]⟩, 0⟩) (cK false) (6 - 1)).getD Conf.zero, by decide, by decide, by decide, by decide⟩, by decide, by decide, by decide⟩
theorem rowK9b : RowK ⟨9, 0, 0, false, 0, false, 0, ⟨#[]⟩, 0⟩ true 1 (if (9 : Int) = 9 then 4 else 5) 1 false := ⟨by decide, ⟨(fetchQ 2 (ilK ⟨9, 0, 0, false, 0, false, 0, ⟨#[]⟩, 0⟩) (cK true) (1 - 1)).getD Conf.zero, by decide, by decide, by decide, by decide⟩, by decide, by decide, by decide⟩
theorem rowK10a : RowK ⟨11, 0, 0, false, 0, false, 0, ⟨#[]⟩, 0⟩ false 1 (-1) 0 true := ⟨by decide, ⟨(fetchQ 2 (ilK ⟨11, 0, 0, false, 0, false, 0, ⟨#[]⟩, 0⟩) (cK false) (1 - 1)).getD Conf.zero, by decide, by decide, by decide, by decide⟩, by decide, by decide, by decide⟩
theorem rowK10b : RowK ⟨11, 0, 0, false, 0, false, 0, ⟨#[]⟩, 0⟩ true 1 (if (11 : Int) = 9 then 4 else (-1)) 2 true := ⟨by decide, ⟨(fetchQ 2 (ilK ⟨11, 0, 0, false, 0, false, 0, ⟨#[]⟩, 0⟩) (cK true) (1 - 1)).getD Conf.zero, by decide, by decide, by decide, by decide⟩, by decide, by decide, by decide⟩
theorem tabK_at (k : Nat) (hk : k < 11) : ∃ (kd op tg n mm nx rs ot : Int) (dn : Bool), (∀ j u, [.int .i64 kd, .int .i64 op, .int .i64 0, .bool false, .int .i64 0, .bool false, .int .i64 0, .string ⟨#[]⟩, .int .i64 tg, .int .i64 n, .int .i64 mm, .int .i64 nx, .bool dn, .int .i64 rs, .int .i64 ot][j]? = some u → tabK[k * 15 + j]? = some u) ∧ RowK ⟨kd, op, 0, false, 0, false, 0, ⟨#[]⟩, tg⟩ false n nx rs dn ∧ RowK ⟨kd, op, 0, false, 0, false, 0, ⟨#[]⟩, tg⟩ true mm (if kd = 9 then 4 else nx) ot dn := by
 match k, hk with
 | 0, _ => exact ⟨1, 1, 0, 1, 1, 2, 0, 2, false, fun j u hu => (by match j, hu with
  | 0, hu => exact hu
  | 1, hu => exact hu
  | 2, hu => exact hu
  | 3, hu => exact hu
  | 4, hu => exact hu
  | 5, hu => exact hu
  | 6, hu => exact hu
  | 7, hu => exact hu
  | 8, hu => exact hu
  | 9, hu => exact hu
  | 10, hu => exact hu
  | 11, hu => exact hu
  | 12, hu => exact hu
  | 13, hu => exact hu
  | 14, hu => exact hu
  | n + 15, hu => simp at hu), rowK0a, rowK0b⟩
 | 1, _ => exact ⟨2, 0, 0, 1, 1, 2, 0, 2, false, fun j u hu => (by match j, hu with
  | 0, hu => exact hu
  | 1, hu => exact hu
  | 2, hu => exact hu
  | 3, hu => exact hu
  | 4, hu => exact hu
  | 5, hu => exact hu
  | 6, hu => exact hu
  | 7, hu => exact hu
  | 8, hu => exact hu
  | 9, hu => exact hu
  | 10, hu => exact hu
  | 11, hu => exact hu
  | 12, hu => exact hu
  | 13, hu => exact hu
  | 14, hu => exact hu
  | n + 15, hu => simp at hu), rowK1a, rowK1b⟩
 | 2, _ => exact ⟨3, 0, 0, 1, 1, 2, 0, 2, false, fun j u hu => (by match j, hu with
  | 0, hu => exact hu
  | 1, hu => exact hu
  | 2, hu => exact hu
  | 3, hu => exact hu
  | 4, hu => exact hu
  | 5, hu => exact hu
  | 6, hu => exact hu
  | 7, hu => exact hu
  | 8, hu => exact hu
  | 9, hu => exact hu
  | 10, hu => exact hu
  | 11, hu => exact hu
  | 12, hu => exact hu
  | 13, hu => exact hu
  | 14, hu => exact hu
  | n + 15, hu => simp at hu), rowK2a, rowK2b⟩
 | 3, _ => exact ⟨4, 0, 0, 1, 1, 2, 0, 2, false, fun j u hu => (by match j, hu with
  | 0, hu => exact hu
  | 1, hu => exact hu
  | 2, hu => exact hu
  | 3, hu => exact hu
  | 4, hu => exact hu
  | 5, hu => exact hu
  | 6, hu => exact hu
  | 7, hu => exact hu
  | 8, hu => exact hu
  | 9, hu => exact hu
  | 10, hu => exact hu
  | 11, hu => exact hu
  | 12, hu => exact hu
  | 13, hu => exact hu
  | 14, hu => exact hu
  | n + 15, hu => simp at hu), rowK3a, rowK3b⟩
 | 4, _ => exact ⟨10, 0, 0, 1, 1, 2, 0, 2, false, fun j u hu => (by match j, hu with
  | 0, hu => exact hu
  | 1, hu => exact hu
  | 2, hu => exact hu
  | 3, hu => exact hu
  | 4, hu => exact hu
  | 5, hu => exact hu
  | 6, hu => exact hu
  | 7, hu => exact hu
  | 8, hu => exact hu
  | 9, hu => exact hu
  | 10, hu => exact hu
  | 11, hu => exact hu
  | 12, hu => exact hu
  | 13, hu => exact hu
  | 14, hu => exact hu
  | n + 15, hu => simp at hu), rowK4a, rowK4b⟩
 | 5, _ => exact ⟨5, 1, 4, 2, 2, 4, 0, 2, false, fun j u hu => (by match j, hu with
  | 0, hu => exact hu
  | 1, hu => exact hu
  | 2, hu => exact hu
  | 3, hu => exact hu
  | 4, hu => exact hu
  | 5, hu => exact hu
  | 6, hu => exact hu
  | 7, hu => exact hu
  | 8, hu => exact hu
  | 9, hu => exact hu
  | 10, hu => exact hu
  | 11, hu => exact hu
  | 12, hu => exact hu
  | 13, hu => exact hu
  | 14, hu => exact hu
  | n + 15, hu => simp at hu), rowK5a, rowK5b⟩
 | 6, _ => exact ⟨6, 0, 4, 1, 1, 4, 0, 2, true, fun j u hu => (by match j, hu with
  | 0, hu => exact hu
  | 1, hu => exact hu
  | 2, hu => exact hu
  | 3, hu => exact hu
  | 4, hu => exact hu
  | 5, hu => exact hu
  | 6, hu => exact hu
  | 7, hu => exact hu
  | 8, hu => exact hu
  | 9, hu => exact hu
  | 10, hu => exact hu
  | 11, hu => exact hu
  | 12, hu => exact hu
  | 13, hu => exact hu
  | 14, hu => exact hu
  | n + 15, hu => simp at hu), rowK6a, rowK6b⟩
 | 7, _ => exact ⟨7, 0, 0, 6, 6, 5, 0, 2, false, fun j u hu => (by match j, hu with
  | 0, hu => exact hu
  | 1, hu => exact hu
  | 2, hu => exact hu
  | 3, hu => exact hu
  | 4, hu => exact hu
  | 5, hu => exact hu
  | 6, hu => exact hu
  | 7, hu => exact hu
  | 8, hu => exact hu
  | 9, hu => exact hu
  | 10, hu => exact hu
  | 11, hu => exact hu
  | 12, hu => exact hu
  | 13, hu => exact hu
  | 14, hu => exact hu
  | n + 15, hu => simp at hu), rowK7a, rowK7b⟩
 | 8, _ => exact ⟨8, 0, 3, 1, 1, 3, 1, 2, true, fun j u hu => (by match j, hu with
  | 0, hu => exact hu
  | 1, hu => exact hu
  | 2, hu => exact hu
  | 3, hu => exact hu
  | 4, hu => exact hu
  | 5, hu => exact hu
  | 6, hu => exact hu
  | 7, hu => exact hu
  | 8, hu => exact hu
  | 9, hu => exact hu
  | 10, hu => exact hu
  | 11, hu => exact hu
  | 12, hu => exact hu
  | 13, hu => exact hu
  | 14, hu => exact hu
  | n + 15, hu => simp at hu), rowK8a, rowK8b⟩
 | 9, _ => exact ⟨9, 0, 0, 6, 1, 5, 0, 1, false, fun j u hu => (by match j, hu with
  | 0, hu => exact hu
  | 1, hu => exact hu
  | 2, hu => exact hu
  | 3, hu => exact hu
  | 4, hu => exact hu
  | 5, hu => exact hu
  | 6, hu => exact hu
  | 7, hu => exact hu
  | 8, hu => exact hu
  | 9, hu => exact hu
  | 10, hu => exact hu
  | 11, hu => exact hu
  | 12, hu => exact hu
  | 13, hu => exact hu
  | 14, hu => exact hu
  | n + 15, hu => simp at hu), rowK9a, rowK9b⟩
 | 10, _ => exact ⟨11, 0, 0, 1, 1, -1, 0, 2, true, fun j u hu => (by match j, hu with
  | 0, hu => exact hu
  | 1, hu => exact hu
  | 2, hu => exact hu
  | 3, hu => exact hu
  | 4, hu => exact hu
  | 5, hu => exact hu
  | 6, hu => exact hu
  | 7, hu => exact hu
  | 8, hu => exact hu
  | 9, hu => exact hu
  | 10, hu => exact hu
  | 11, hu => exact hu
  | 12, hu => exact hu
  | 13, hu => exact hu
  | 14, hu => exact hu
  | n + 15, hu => simp at hu), rowK10a, rowK10b⟩
end Go.Proofs.Ytchldbkjapnlcaa
end
