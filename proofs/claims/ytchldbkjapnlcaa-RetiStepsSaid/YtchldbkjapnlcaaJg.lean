/- The document's own answer, layer 17: all that may be said. The document's own answer, layer 17: what is said. Walks, layer 10: where a machine comes to. -/
import Derived.Test.YtchldbkjapnlcaaJd
import Derived.Test.YtchldbkjapnlcaaJRet
import Derived.Test.YtchldbkjapnlcaaJe
set_option linter.unusedVariables false
set_option linter.unusedSimpArgs false
namespace Go.Proofs.Ytchldbkjapnlcaa
open Go.RowKit
section
structure Dir where
 kind : Int
 n : Int
 deriving DecidableEq, Inhabited
def Dir.cs (e : Dir) : List Value := [.int .i64 e.kind, .int .i64 e.n]
@[go_sem] def Dir.v (e : Dir) : Value := .agg #[.int .i64 e.kind, .int .i64 e.n]
def dirCs (l : List Dir) : List Value := l.flatMap Dir.cs
theorem Dir.cs_length (e : Dir) : e.cs.length = 2 := rfl
theorem dirCs_append (l m : List Dir) : dirCs (l ++ m) = dirCs l ++ dirCs m := by simp [dirCs]
theorem dirCs_one (e : Dir) : dirCs [e] = e.cs := by simp [dirCs]
theorem dirCs_get (l : List Dir) (i : Nat) (h : i < l.length) (j : Nat) (hj : j < 2) : (dirCs l)[i * 2 + j]? = l[i].cs[j]? := by
 induction l generalizing i with
 | nil => simp at h
 | cons e l ih =>
  cases i with
  | zero =>
   rw [dirCs, List.flatMap_cons, List.getElem?_append_left (by rw [Dir.cs_length]; omega)]
   simp
  | succ i =>
   rw [dirCs, List.flatMap_cons, List.getElem?_append_right (by rw [Dir.cs_length]; omega), Dir.cs_length]
   have := ih i (by simpa using h)
   rw [show (i + 1) * 2 + j - 2 = i * 2 + j by omega]
   simpa [dirCs] using this
theorem dirCs_one_cell (l : List Dir) : ∀ u ∈ dirCs l, u.oneCell' = true := by
 intro u hu
 obtain ⟨e, _, he⟩ := List.mem_flatMap.1 hu
 simp only [Dir.cs, List.mem_cons, List.not_mem_nil, or_false] at he
 rcases he with rfl | rfl <;> rfl
theorem info_dir : (Try.prog.info? 71).map (fun i => (i.zero, i.size, i.bytes)) = some (some (.agg #[.int .i64 0, .int .i64 0]), 2, 16) := by kernel_rfl
def RdD (w : World) (A : Option Addr) (l : List Dir) : Prop := Reads w w.heap.size 2 A l.length (dirCs l)
theorem RdD.at_ {w : World} {A : Option Addr} {l : List Dir} (h : RdD w A l) {i : Nat} (hi : i < l.length) :
  ∃ b o, A = some ⟨b, o, none⟩ ∧ b < w.heap.size ∧ CellsAt w b (o + i * 2) l[i].cs := by
 obtain ⟨b, o, e, hb, hc⟩ := Reads.cells h hi
 refine ⟨b, o, e, hb, fun j u hu => ?_⟩
 have hj : j < 2 := by have := (List.getElem?_eq_some_iff.1 hu).1; simpa [Dir.cs] using this
 rw [Nat.add_assoc]
 exact hc j u hj (by rw [dirCs_get l i hi j hj]; exact hu)
def OwnD (w : World) (B : Nat) (v : Value) (l : List Dir) : Prop := w.ownsRow B 71 2 v l.length (dirCs l)
theorem OwnD.nil {w : World} {B : Nat} : OwnD w B (.slice none 0 0) [] := World.ownsRow_nil _ _ _ _
theorem OwnD.past {w w' : World} {B : Nat} {v : Value} {l : List Dir} (h : OwnD w B v l) (hb : Below w.heap.size w w') : OwnD w' B v l := own_past h hb
theorem OwnD.lower {w : World} {B B' : Nat} {v : Value} {l : List Dir} (h : OwnD w B v l) (hb : B' ≤ B) : OwnD w B' v l := own_lower h hb
theorem OwnD.shape {w : World} {B : Nat} {v : Value} {l : List Dir} (h : OwnD w B v l) : ∃ A c, v = .slice A l.length c ∧ l.length ≤ c ∧ RdD w A l := q2F h
def GivesD (w : World) (l : List Dir) (e : Ending) (w' : World) : Prop := ∃ v, e = .returned v ∧ OwnD w' w.heap.size v l ∧ Below w.heap.size w w'
theorem append_dir {ops : Array Oper} {rest : List Oper} {o : Oper} {a : Act} {Q : Exit → Act → World → Prop} (W : World) (hgd : o.guard = none) (s x : Operand)
  (ho : o.op = .call { callee := .builtin .append, args := #[s, x], argTypes := #[42, 42] }) (B : Nat) {v : Value} {l : List Dir} (hs : a.eval s = v) (hown : OwnD W B v l) (g : Nat) (e : Dir)
  (hx : a.eval x = .slice (some ⟨g, 0, none⟩) 1 1) (hg : W.heap[g]? = some (.cells e.cs.toArray 71 (0, 0))) (hl : l.length < 1000000) (hB : B ≤ W.heap.size)
  (h : ∀ v' w', OwnD w' B v' (l ++ [e]) → W.grownBy w' v.ownBlock → Below B W w' → wpList Try.prog ops Q rest (a.put o.dst v') w') : wpList Try.prog ops Q (o :: rest) a W := by
 obtain ⟨i0, hi0, hz0, hz1, hz2⟩ := info_parts info_dir
 refine q1F W hgd s x _ ho B 71 i0 _ 2 16 Try.underlying42 hi0 hz0 hz1 hz2 rfl (by omega) v l.length (dirCs l) hs hown W.heap.size (some ⟨g, 0, none⟩) 1 1 e.cs hx (q17 hg rfl) (by rw [← dirCs_one]; exact dirCs_one_cell [e])
  (by simp only [maxLen]; omega) (by omega) hB fun v' w' h1 h2 _ => h v' w' ?_ h2 ((Below.refl _ _).grown h2 hB (fun k hk => (World.ownsRow.lt hown k hk).1))
 unfold OwnD
 rw [dirCs_append, dirCs_one, List.length_append]
 exact h1
def dirsTo (kind : Int) (f : Nat → Bool) : Nat → List Dir
 | 0 => []
 | k + 1 => if f k = true then dirsTo kind f k ++ [⟨kind, k⟩] else dirsTo kind f k
theorem dirsTo_len (kind : Int) (f : Nat → Bool) (n : Nat) : (dirsTo kind f n).length ≤ n := by
 induction n with
 | zero => simp [dirsTo]
 | succ n ih =>
  rw [dirsTo]
  split
  ·rw [List.length_append, List.length_cons, List.length_nil]
   omega
  ·omega
theorem q20 (kind : Int) (f : Nat → Bool) (n : Nat) (d : Dir) : d ∈ dirsTo kind f n ↔ ∃ k, k < n ∧ f k = true ∧ d = ⟨kind, k⟩ := by
 induction n with
 | zero => simp [dirsTo]
 | succ n ih =>
  rw [dirsTo]
  constructor
  ·intro h
   split at h
   ·rcases List.mem_append.1 h with h | h
    ·obtain ⟨k, hk, hf, e⟩ := ih.1 h
     exact ⟨k, by omega, hf, e⟩
    ·exact ⟨n, by omega, by assumption, by simpa using h⟩
   ·obtain ⟨k, hk, hf, e⟩ := ih.1 h
    exact ⟨k, by omega, hf, e⟩
  ·rintro ⟨k, hk, hf, e⟩
   by_cases hkn : k = n
   ·subst hkn
    rw [if_pos hf]
    exact List.mem_append.2 (.inr (by simp [e]))
   ·have := ih.2 ⟨k, by omega, hf, e⟩
    split
    ·exact List.mem_append.2 (.inl this)
    ·exact this
def allOf (W win : Int) (il : List Inst) (m : Conf) : List Dir :=
 ((dirsTo 1 (fun _ => true) (guessesOf win il m).toNat ++ dirsTo 2 (fun k => canOf W il m k) m.buf.length) ++ dirsTo 3 (fun k => canAddrOf W il m k) m.buf.length) ++ (if canRetOf il m = true then [⟨4, 0⟩] else [])
theorem guesses_bounds (win : Int) (il : List Inst) (m : Conf) : 0 ≤ guessesOf win il m ∧ guessesOf win il m ≤ (il.length : Int) + 2 := by
 unfold guessesOf
 split
 ·omega
 ·split
  ·omega
  ·split <;> omega
set_option maxRecDepth 100000 in
set_option maxHeartbeats 8000000 in
theorem all_ref (p : Prg) (il : List Inst) (c : Cnf) (m : Conf) (w : World) (hp : PIs w p il) (hW : p.W = 1 ∨ p.W = 2) (hc : CfIs w c m) (hln : m.buf.length ≤ 1000) (hml : m.st.mem.length ≤ 1000) (hrl : m.rsb.length ≤ 1000) :
  Calls Try.prog 37 #[p.v, c.v] w (GivesD w (allOf p.W p.window il m)) := by
 have HP := Kept.mk hp
 have HC := Kept.mk hc
 have HG := Kept.mk (fun w1 (h1 : PIs w1 p il) (h2 : CfIs w1 c m) => guesses_ref p il c m w1 h1 h2 (by omega) (by omega))
 have HCan := Kept.mk (fun (k : Nat) w1 (h1 : PIs w1 p il) (h2 : CfIs w1 c m) => can_any p il c m (k : Int) w1 h1 hW h2 (by omega) (by omega))
 have HAd := Kept.mk (fun (k : Nat) w1 (h1 : PIs w1 p il) (h2 : CfIs w1 c m) => canAddr_any p il c m (k : Int) w1 h1 hW h2 (by omega))
 have HRt := Kept.mk (fun w1 (h1 : PIs w1 p il) (h2 : CfIs w1 c m) => canRet_any p il c m w1 h1 h2 (by omega))
 have hgb := guesses_bounds p.window il m
 have hil : il.length ≤ 1000 := by have := hp.n; have := hp.m; omega
 have hbn : c.buf.n = m.buf.length := hc.buf.n
 unfold allOf
 obtain ⟨fC, hfC⟩ : ∃ f : Nat → Bool, ∀ k : Nat, canOf p.W il m k = f k := ⟨fun k => canOf p.W il m k, fun _ => rfl⟩
 obtain ⟨fA, hfA⟩ : ∃ f : Nat → Bool, ∀ k : Nat, canAddrOf p.W il m k = f k := ⟨fun k => canAddrOf p.W il m k, fun _ => rfl⟩
 simp only [hfC] at HCan ⊢
 simp only [hfA] at HAd ⊢
 generalize canRetOf il m = cr at HRt ⊢
 generalize guessesOf p.window il m = G at HG hgb ⊢
 generalize m.buf.length = n at hbn hln ⊢
 clear hfC hfA hp hc hW
 obtain ⟨g, rfl⟩ := Int.eq_ofNat_of_zero_le hgb.1
 rw [Int.toNat_natCast]
 have hg : g ≤ 1002 := by omega
 clear hgb
 obtain ⟨⟨r0, r1, r2, r3, ⟨mA, mN, mC⟩, ⟨sA, sN, sC⟩, pc⟩, ⟨bA, bN, bC⟩, ⟨qA, qN, qC⟩, fin⟩ := c
 simp only at hbn
 subst hbn
 clear hil
 have HB := Kept.mk ((q00 w (.cells p.cs.toArray 33)).alloc (by simp) (.cells (Cnf.cs ⟨⟨r0, r1, r2, r3, ⟨mA, mN, mC⟩, ⟨sA, sN, sC⟩, pc⟩, ⟨bA, bN, bC⟩, ⟨qA, qN, qC⟩, fin⟩).toArray 41))
 have HBX : Kept (∀ wr, Below (w.heap.size + 2) ((w.alloc (.cells p.cs.toArray 33)).alloc (.cells (Cnf.cs ⟨⟨r0, r1, r2, r3, ⟨mA, mN, mC⟩, ⟨sA, sN, sC⟩, pc⟩, ⟨bA, bN, bC⟩, ⟨qA, qN, qC⟩, fin⟩).toArray 41)) wr →
   Below w.heap.size w wr ∧ wr.heap[w.heap.size]? = some (.cells p.cs.toArray 33 (0, 0)) ∧ wr.heap[w.heap.size + 1]? = some (.cells (Cnf.cs ⟨⟨r0, r1, r2, r3, ⟨mA, mN, mC⟩, ⟨sA, sN, sC⟩, pc⟩, ⟨bA, bN, bC⟩, ⟨qA, qN, qC⟩, fin⟩).toArray 41 (0, 0))) := ⟨fun wr hb =>
  ⟨HB.out.trans (hb.mono (by omega)), (hb.block _ (by omega)).trans ((heap_alloc_old _ _ (by simp)).trans (heap_alloc_new w _)), (hb.block _ (by omega)).trans (heap_alloc2_new w _ _)⟩⟩
 clear hml hrl
 generalize hD1 : dirsTo 1 (fun _ => true) g = D1
 have HD1 := Kept.mk hD1
 have HL1 : Kept (D1.length ≤ 1002) := ⟨by have := dirsTo_len 1 (fun _ => true) g; rw [hD1] at this; omega⟩
 clear hD1
 generalize hD2 : D1 ++ dirsTo 2 fC bN = D2
 have HD2 := Kept.mk hD2
 have HL2 : Kept (D2.length ≤ 2002) := ⟨by have := dirsTo_len 2 fC bN; have := HL1.out; rw [← hD2, List.length_append]; omega⟩
 clear hD2
 generalize hD3 : D2 ++ dirsTo 3 fA bN = D3
 have HD3 := Kept.mk hD3
 have HL3 : Kept (D3.length ≤ 3002) := ⟨by have := dirsTo_len 3 fA bN; have := HL2.out; rw [← hD3, List.length_append]; omega⟩
 clear hD3
 generalize hD4 : D3 ++ (if cr = true then [(⟨4, 0⟩ : Dir)] else []) = D4
 have HD4 := Kept.mk hD4
 clear hD4
 unfold Prg.v Cnf.v
 go_enter Try.func37, Try.ntmps37
 go_wp2_with fail
 go_loopw [5, 6] (fun v i' wr => ∃ k : Nat, k ≤ g ∧ i' = .int .i64 (k : Int) ∧ OwnD wr (w.heap.size + 2) v (dirsTo 1 (fun _ => true) k) ∧ Below (w.heap.size + 2) ((w.alloc (.cells p.cs.toArray 33)).alloc (.cells (Cnf.cs ⟨⟨r0, r1, r2, r3, ⟨mA, mN, mC⟩, ⟨sA, sN, sC⟩, pc⟩, ⟨bA, bN, bC⟩, ⟨qA, qN, qC⟩, fin⟩).toArray 41)) wr) (fun _ i' _ => g - (intOf i').toNat)
 case atStart => exact ⟨0, Nat.zero_le _, rfl, OwnD.nil, Below.refl _ _⟩
 case round =>
  obtain ⟨k, hk, rfl, ho, hb⟩ := hrel
  obtain ⟨hw, x0, x1⟩ := HBX.out wr hb
  have HO := Kept.mk ho
  have HBk := Kept.mk hb
  have HW := Kept.mk hw
  have Y0 := fun j => cell_of_row wr w.heap.size j _ _ _ x0
  have Y1 := fun j => cell_of_row wr (w.heap.size + 1) j _ _ _ x1
  simp only [Prg.cs, Cnf.cs] at Y0 Y1
  have hsz : w.heap.size + 2 ≤ wr.heap.size := by have := hb.size; simpa using this
  clear x0 x1 hw hb ho
  by_cases hlt : k < g
  ·have hki : (k : Int) < (g : Int) := by omega
   go_wp2_with fail
   refine (HG.out _ (HP.out.past HW.out) (HC.out.past HW.out)).mono ?_
   rintro en w5 ⟨rfl, b5⟩
   have B5 := Kept.mk (HBk.out.trans (b5.mono (by omega)))
   have O5 := Kept.mk (HO.out.past b5)
   have hS5 : wr.heap.size ≤ w5.heap.size := b5.size
   clear b5
   go_wp2_with (at_builtin; go_must (refine append_dir _ rfl (.tmp 16) (.tmp 19) rfl (w.heap.size + 2) rfl (O5.out.past (q00 _ _)) _ ⟨1, (k : Int)⟩ rfl (q06 (by simp)) ?c1 ?c2 ?_))
   case c1 => have := dirsTo_len 1 (fun _ => true) k; omega
   case c2 => simp; omega
   intro v6 w6 h6 hg6 b6
   have O6 := Kept.mk h6
   have B6 := Kept.mk ((B5.out.alloc (by omega) (.cells #[.int .i64 1, .int .i64 (k : Int)] 71)).trans b6)
   clear h6 hg6 b6
   go_wp2_with fail
   exact ⟨⟨k + 1, by omega, by go_num, by rw [dirsTo, if_pos rfl]; exact O6.out, B6.out⟩, by simp [intOf] <;> omega⟩
  ·obtain rfl : g = k := by omega
   clear hlt hk
   go_wp2_with fail
   refine (HG.out _ (HP.out.past HW.out) (HC.out.past HW.out)).mono ?_
   rintro en w5 ⟨rfl, b5⟩
   have B5 := Kept.mk (HBk.out.trans (b5.mono (by omega)))
   have O5 := Kept.mk (HO.out.past b5)
   have hS5 : wr.heap.size ≤ w5.heap.size := b5.size
   clear b5
   have HO9 := Kept.mk (HD1.out ▸ O5.out)
   have HB9 := B5
   have HLD := HL1
   clear O5 B5 HO HBk HW Y0 Y1
   go_wp2_with fail
   go_loopw [5, 7] (fun v i' wr => ∃ j : Nat, j ≤ bN ∧ i' = .int .i64 (j : Int) ∧ OwnD wr (w.heap.size + 2) v (D1 ++ dirsTo 2 fC j) ∧ Below (w.heap.size + 2) ((w.alloc (.cells p.cs.toArray 33)).alloc (.cells (Cnf.cs ⟨⟨r0, r1, r2, r3, ⟨mA, mN, mC⟩, ⟨sA, sN, sC⟩, pc⟩, ⟨bA, bN, bC⟩, ⟨qA, qN, qC⟩, fin⟩).toArray 41)) wr) (fun _ i' _ => bN - (intOf i').toNat)
   case atStart => exact ⟨0, Nat.zero_le _, rfl, by rw [dirsTo, List.append_nil]; exact HO9.out, HB9.out⟩
   case round =>
    clear HO9 HB9
    obtain ⟨j, hj, rfl, ho, hb⟩ := hrel
    obtain ⟨hw, x0, x1⟩ := HBX.out wr hb
    have HO := Kept.mk ho
    have HBk := Kept.mk hb
    have HW := Kept.mk hw
    have Y0 := fun j => cell_of_row wr w.heap.size j _ _ _ x0
    have Y1 := fun j => cell_of_row wr (w.heap.size + 1) j _ _ _ x1
    simp only [Prg.cs, Cnf.cs] at Y0 Y1
    have hsz : w.heap.size + 2 ≤ wr.heap.size := by have := hb.size; simpa using this
    clear x0 x1 hw hb ho
    by_cases hlt : j < bN
    ·have hki : (j : Int) < (bN : Int) := by omega
     have HLJ := Kept.mk (dirsTo_len 2 fC j)
     go_wp2_with fail
     refine (HCan.out j _ (HP.out.past HW.out) (HC.out.past HW.out)).mono ?_
     rintro en w5 ⟨rfl, b5⟩
     have B5 := Kept.mk (HBk.out.trans (b5.mono (by omega)))
     have O5 := Kept.mk (HO.out.past b5)
     have hS5 : wr.heap.size ≤ w5.heap.size := b5.size
     clear b5
     cases hfj : fC j with
     | true =>
      have HF := Kept.mk (show D1 ++ dirsTo 2 fC (j + 1) = D1 ++ (dirsTo 2 fC j ++ [⟨2, j⟩]) by rw [dirsTo, if_pos hfj])
      clear hfj
      go_wp2_with (at_builtin; go_must (refine append_dir _ rfl (.tmp 32) (.tmp 35) rfl (w.heap.size + 2) rfl (O5.out.past (q00 _ _)) _ ⟨2, (j : Int)⟩ rfl (q06 (by simp)) ?c1 ?c2 ?_))
      case c1 => have := HLJ.out; have := HLD.out; rw [List.length_append]; omega
      case c2 => simp; omega
      intro v6 w6 h6 hg6 b6
      have O6 := Kept.mk h6
      have B6 := Kept.mk ((B5.out.alloc (by omega) (.cells #[.int .i64 2, .int .i64 (j : Int)] 71)).trans b6)
      clear h6 hg6 b6
      go_wp2_with fail
      exact ⟨⟨j + 1, by omega, by go_num, by rw [HF.out]; exact O6.out, B6.out⟩, by simp [intOf] <;> omega⟩
     | false =>
      have HF := Kept.mk (show D1 ++ dirsTo 2 fC (j + 1) = (D1 ++ dirsTo 2 fC j) by rw [dirsTo, if_neg (by rw [hfj]; decide)])
      clear hfj
      go_wp2_with fail
      exact ⟨⟨j + 1, by omega, by go_num, by rw [HF.out]; exact O5.out, B5.out⟩, by simp [intOf] <;> omega⟩
    ·obtain rfl : bN = j := by omega
     clear hlt hj
     have HO9 := Kept.mk (HD2.out ▸ HO.out)
     have HB9 := HBk
     clear HLD
     have HLD := HL2
     clear HO HBk
     go_wp2_with fail
     clear Y0 Y1 HW
     go_loopw [5, 8] (fun v i' wr => ∃ j : Nat, j ≤ bN ∧ i' = .int .i64 (j : Int) ∧ OwnD wr (w.heap.size + 2) v (D2 ++ dirsTo 3 fA j) ∧ Below (w.heap.size + 2) ((w.alloc (.cells p.cs.toArray 33)).alloc (.cells (Cnf.cs ⟨⟨r0, r1, r2, r3, ⟨mA, mN, mC⟩, ⟨sA, sN, sC⟩, pc⟩, ⟨bA, bN, bC⟩, ⟨qA, qN, qC⟩, fin⟩).toArray 41)) wr) (fun _ i' _ => bN - (intOf i').toNat)
     case atStart => exact ⟨0, Nat.zero_le _, rfl, by rw [dirsTo, List.append_nil]; exact HO9.out, HB9.out⟩
     case round =>
      clear HO9 HB9
      obtain ⟨j, hj, rfl, ho, hb⟩ := hrel
      obtain ⟨hw, x0, x1⟩ := HBX.out wr hb
      have HO := Kept.mk ho
      have HBk := Kept.mk hb
      have HW := Kept.mk hw
      have Y0 := fun j => cell_of_row wr w.heap.size j _ _ _ x0
      have Y1 := fun j => cell_of_row wr (w.heap.size + 1) j _ _ _ x1
      simp only [Prg.cs, Cnf.cs] at Y0 Y1
      have hsz : w.heap.size + 2 ≤ wr.heap.size := by have := hb.size; simpa using this
      clear x0 x1 hw hb ho
      by_cases hlt : j < bN
      ·have hki : (j : Int) < (bN : Int) := by omega
       have HLJ := Kept.mk (dirsTo_len 3 fA j)
       go_wp2_with fail
       refine (HAd.out j _ (HP.out.past HW.out) (HC.out.past HW.out)).mono ?_
       rintro en w5 ⟨rfl, b5⟩
       have B5 := Kept.mk (HBk.out.trans (b5.mono (by omega)))
       have O5 := Kept.mk (HO.out.past b5)
       have hS5 : wr.heap.size ≤ w5.heap.size := b5.size
       clear b5
       cases hfj : fA j with
       | true =>
        have HF := Kept.mk (show D2 ++ dirsTo 3 fA (j + 1) = D2 ++ (dirsTo 3 fA j ++ [⟨3, j⟩]) by rw [dirsTo, if_pos hfj])
        clear hfj
        go_wp2_with (at_builtin; go_must (refine append_dir _ rfl (.tmp 48) (.tmp 51) rfl (w.heap.size + 2) rfl (O5.out.past (q00 _ _)) _ ⟨3, (j : Int)⟩ rfl (q06 (by simp)) ?c1 ?c2 ?_))
        case c1 => have := HLJ.out; have := HLD.out; rw [List.length_append]; omega
        case c2 => simp; omega
        intro v6 w6 h6 hg6 b6
        have O6 := Kept.mk h6
        have B6 := Kept.mk ((B5.out.alloc (by omega) (.cells #[.int .i64 3, .int .i64 (j : Int)] 71)).trans b6)
        clear h6 hg6 b6
        go_wp2_with fail
        exact ⟨⟨j + 1, by omega, by go_num, by rw [HF.out]; exact O6.out, B6.out⟩, by simp [intOf] <;> omega⟩
       | false =>
        have HF := Kept.mk (show D2 ++ dirsTo 3 fA (j + 1) = (D2 ++ dirsTo 3 fA j) by rw [dirsTo, if_neg (by rw [hfj]; decide)])
        clear hfj
        go_wp2_with fail
        exact ⟨⟨j + 1, by omega, by go_num, by rw [HF.out]; exact O5.out, B5.out⟩, by simp [intOf] <;> omega⟩
      ·obtain rfl : bN = j := by omega
       clear hlt hj
       go_wp2_with fail
       refine (HRt.out _ (HP.out.past HW.out) (HC.out.past HW.out)).mono ?_
       rintro en w5 ⟨rfl, b5⟩
       have B5 := Kept.mk (HBk.out.trans (b5.mono (by omega)))
       have O5 := Kept.mk (HO.out.past b5)
       have hS5 : wr.heap.size ≤ w5.heap.size := b5.size
       clear b5
       have HO9 := Kept.mk (HD3.out ▸ O5.out)
       clear O5
       have O5 := HO9
       cases cr with
       | true =>
        go_wp2_with (at_builtin; go_must (refine append_dir _ rfl (.tmp 56) (.tmp 58) rfl (w.heap.size + 2) rfl (O5.out.past (q00 _ _)) _ ⟨4, 0⟩ rfl (q06 (by simp)) ?c1 ?c2 ?_))
        case c1 => have := HL3.out; omega
        case c2 => simp; omega
        intro v6 w6 h6 hg6 b6
        have O6 := Kept.mk h6
        have B6 := Kept.mk ((B5.out.alloc (by omega) (.cells #[.int .i64 4, .int .i64 0] 71)).trans b6)
        clear h6 hg6 b6
        go_wp2_with fail
        go_ret
        refine ⟨_, rfl, ?_, HB.out.trans (B6.out.mono (by omega))⟩
        have := HD4.out
        rw [if_pos (by trivial)] at this
        rw [← this]
        exact O6.out.lower (by omega)
       | false =>
        go_wp2_with fail
        go_ret
        refine ⟨_, rfl, ?_, HB.out.trans (B5.out.mono (by omega))⟩
        have := HD4.out
        rw [if_neg (by simp), List.append_nil] at this
        rw [← this]
        exact O5.out.lower (by omega)
end
section
def SayPost (m : Conf) (w : World) (en : Ending) (w' : World) : Prop := ∃ (c : Cnf) (ov : Value), en = .returned (.tuple #[c.v, ov, .bool true]) ∧ CfIs w' c m ∧ CfTy w' c ∧ Below w.heap.size w w'
theorem CfAll.of {w : World} {c : Cnf} {m : Conf} (h : CfIs w c m) (ht : CfTy w c) : CfAll w c.st.mem c.st.stack c.rsb c.buf m.st.mem m.st.stack m.rsb m.buf := ⟨CfRest.of h ht, h.buf, ht.buf⟩
theorem CfAll.cf {w w' : World} {c : Cnf} {m : Conf} (h : CfAll w' c.st.mem c.st.stack c.rsb c.buf m.st.mem m.st.stack m.rsb m.buf) (h0 : CfIs w c m) : CfIs w' c m := ⟨⟨h0.st.r0, h0.st.r1, h0.st.r2, h0.st.r3, h.r.xa, h.r.xb, h0.st.pc⟩, h.xd, h.r.xc, h0.fin⟩
theorem CfAll.ty {w : World} {c : Cnf} {la lb lc : List Int} {ld : List Ent} (h : CfAll w c.st.mem c.st.stack c.rsb c.buf la lb lc ld) : CfTy w c := ⟨h.r.ta, h.r.tb, h.td, h.r.tc⟩
theorem DoPost.say {w w' : World} {c : Cnf} {m : Conf} {l : List Ent} {pc : Int} {en : Ending} (h : DoPost c l pc w en w') (hc : CfIs w c m) (ht : CfTy w c) : SayPost { m with st := { m.st with pc := pc }, buf := l } w en w' := by
 obtain ⟨c', ov, e, h1, h2, h3, h4, hb⟩ := h
 have hp := hc.past hb
 have tp := ht.past hb
 refine ⟨c', ov, e, ⟨?_, OwnE.is h2, by rw [h3]; exact hp.rsb, by rw [h4]; exact hp.fin⟩, ⟨?_, ?_, Tag.of_own h2, by rw [h3]; exact tp.rsb⟩, hb⟩
 ·rw [h1]
  exact ⟨hp.st.r0, hp.st.r1, hp.st.r2, hp.st.r3, hp.st.mem, hp.st.stack, rfl⟩
 ·rw [h1]
  exact tp.mem
 ·rw [h1]
  exact tp.stack
set_option maxRecDepth 100000 in
set_option maxHeartbeats 8000000 in
theorem say_fetch (p : Prg) (il : List Inst) (c : Cnf) (m : Conf) (n : Int) (w : World) (hp : PIs w p il) (hc : CfIs w c m) (hty : CfTy w c) (hln : m.buf.length ≤ 1000) (hsl : m.st.stack.length ≤ 1000) (hrl : m.rsb.length ≤ 1000) (hpcb : -2 ≤ m.st.pc ∧ m.st.pc ≤ 1000000) (hg0 : 0 ≤ n) (hg : n < guessesOf p.window il m) :
  Calls Try.prog 38 #[p.v, c.v, .agg #[.int .i64 1, .int .i64 n]] w (SayPost (fetchOf il m n) w) := by
 have HP := Kept.mk hp
 have HC := Kept.mk hc
 have HTY := Kept.mk hty
 have HQ := Kept.mk (fun w1 (h1 : PIs w1 p il) (h2 : CfIs w1 c m) (h3 : CfTy w1 c) => fetch_at p il c m n w1 h1 h2 h3 hln hsl hrl hpcb hg0 hg)
 clear hp hln hsl hrl hpcb hg0 hg
 generalize (fetchOf il m n) = RR at *
 obtain ⟨⟨r0, r1, r2, r3, ⟨mA, mN, mC⟩, ⟨sA, sN, sC⟩, pc⟩, ⟨bA, bN, bC⟩, ⟨qA, qN, qC⟩, fin⟩ := c
 clear hc hty
 go_enter Try.func38, Try.ntmps38
 go_wp2_with fail
 have HB := Kept.mk ((((q00 w (.cells p.cs.toArray 33)).alloc (by simp) (.cells (Cnf.cs ⟨⟨r0, r1, r2, r3, ⟨mA, mN, mC⟩, ⟨sA, sN, sC⟩, pc⟩, ⟨bA, bN, bC⟩, ⟨qA, qN, qC⟩, fin⟩).toArray 41)).alloc (by simp; omega) (.cells #[.int .i64 1, .int .i64 n] 71)).alloc (by simp; omega) (.cells Cnf.zero.cs.toArray 41))
 refine (HQ.out _ (HP.out.past HB.out) (HC.out.past HB.out) (HTY.out.past HB.out)).mono ?_
 rintro en w1 ⟨c1, rfl, hc1, ht1, b1⟩
 have X6 := (b1.block (w.heap.size + 1 + 1 + 1) (by simp <;> omega)).trans (q06 (o := (.cells Cnf.zero.cs.toArray 41)) (by simp))
 have W1 := Kept.mk (HB.out.trans (b1.mono HB.out.size))
 have S1 : w.heap.size + 4 ≤ w1.heap.size := by have := b1.size; simp at this; omega
 have RA := Kept.mk (CfAll.of hc1 ht1)
 obtain ⟨⟨a0, a1, a2, a3, ⟨eA, eN, eC⟩, ⟨fA, fN, fC⟩, a4⟩, ⟨gA, gN, gC⟩, ⟨hA, hN, hC⟩, a5⟩ := c1
 have HC1 := Kept.mk hc1
 have K6 := Kept.mk X6
 have Y6 := fun j => cell_of_row w1 (w.heap.size + 1 + 1 + 1) j _ _ _ X6
 have F6 := fun j => frozen_of_row w1 (w.heap.size + 1 + 1 + 1) j _ _ X6
 have Y6a := fun ob j => cell_of_row (w1.alloc ob) (w.heap.size + 1 + 1 + 1) j _ _ _ (q01 X6 (q00 w1 ob))
 have F6a := fun ob j => frozen_of_row (w1.alloc ob) (w.heap.size + 1 + 1 + 1) j _ _ (q01 X6 (q00 w1 ob))
 simp only [Cnf.cs, Cnf.zero, Sl.none] at Y6 Y6a
 have hn6 : w.heap.size + 1 + 1 + 1 ≠ w1.heap.size := by omega
 clear X6 b1 hc1 ht1
 go_wp2_with fail
 have hbW : Below w1.heap.size w1 (w1.alloc (.cells (Cnf.cs ⟨⟨a0, a1, a2, a3, ⟨eA, eN, eC⟩, ⟨fA, fN, fC⟩, a4⟩, ⟨gA, gN, gC⟩, ⟨hA, hN, hC⟩, a5⟩).toArray 41)) := q00 _ _
 have x6 := q01 K6.out hbW
 have ra := (RA.out.past hbW).row ⟨⟨_, x6⟩, grown10 _ (w.heap.size + 1 + 1 + 1) ⟨⟨a0, a1, a2, a3, ⟨eA, eN, eC⟩, ⟨fA, fN, fC⟩, a4⟩, ⟨gA, gN, gC⟩, ⟨hA, hN, hC⟩, a5⟩⟩ (by decide) (by decide)
 have wb := below10 (g := w.heap.size + 1 + 1 + 1) ⟨⟨a0, a1, a2, a3, ⟨eA, eN, eC⟩, ⟨fA, fN, fC⟩, a4⟩, ⟨gA, gN, gC⟩, ⟨hA, hN, hC⟩, a5⟩ (W1.out.trans (hbW.mono W1.out.size)) (by omega)
 have x4 := q11 Cnf.zero ⟨⟨a0, a1, a2, a3, ⟨eA, eN, eC⟩, ⟨fA, fN, fC⟩, a4⟩, ⟨gA, gN, gC⟩, ⟨hA, hN, hC⟩, a5⟩ x6
 dsimp only at ra wb x4
 refine q0C _ [Cnf.v ⟨⟨a0, a1, a2, a3, ⟨eA, eN, eC⟩, ⟨fA, fN, fC⟩, a4⟩, ⟨gA, gN, gC⟩, ⟨hA, hN, hC⟩, a5⟩, .slice none 0 0, .bool true] Try.results38 (.cons (.cell (cs := Cnf.cs ⟨⟨a0, a1, a2, a3, ⟨eA, eN, eC⟩, ⟨fA, fN, fC⟩, a4⟩, ⟨gA, gN, gC⟩, ⟨hA, hN, hC⟩, a5⟩) (b := w.heap.size + 1 + 1 + 1) (off := 0) rfl rfl (q05 x4) Try.underlying41 rfl (by kernel_rfl)) (.cons (.tmp rfl) (.cons (.tmp rfl) .nil))) rfl ?_
 exact ⟨⟨⟨a0, a1, a2, a3, ⟨eA, eN, eC⟩, ⟨fA, fN, fC⟩, a4⟩, ⟨gA, gN, gC⟩, ⟨hA, hN, hC⟩, a5⟩, .slice none 0 0, rfl, ra.cf HC1.out, ra.ty, wb⟩
set_option maxRecDepth 100000 in
set_option maxHeartbeats 8000000 in
theorem say_do (p : Prg) (il : List Inst) (c : Cnf) (m : Conf) (k : Nat) (hk : k < m.buf.length) (w : World) (hp : PIs w p il) (hc : CfIs w c m) (hty : CfTy w c) (hW : p.W = 1 ∨ p.W = 2) (hop : ∀ y ∈ il, (y.kind = 1 ∨ y.kind = 5) → 1 ≤ y.op ∧ y.op ≤ 10) (hln : m.buf.length ≤ 1000) (hml : m.st.mem.length ≤ 1000) (hsl : m.st.stack.length ≤ 1000) (hcan : canOf p.W il m k = true) :
  Calls Try.prog 38 #[p.v, c.v, .agg #[.int .i64 2, .int .i64 (k : Int)]] w (SayPost ({ m with st := { m.st with pc := (doOut p.W il m k { m.buf[k] with done := true } (instAt il m.buf[k].pc)).2 }, buf := (doOut p.W il m k { m.buf[k] with done := true } (instAt il m.buf[k].pc)).1 } : Conf) w) := by
 have HP := Kept.mk hp
 have HC := Kept.mk hc
 have HTY := Kept.mk hty
 have HQ := Kept.mk (fun w1 (h1 : PIs w1 p il) (h2 : CfIs w1 c m) (h3 : CfTy w1 c) => (do_at p il c m k hk w1 h1 hW hop h2 hln hml hsl hcan).mono (fun en w' h => h.say h2 h3))
 clear hp hW hop hln hml hsl hcan
 generalize ({ m with st := { m.st with pc := (doOut p.W il m k { m.buf[k] with done := true } (instAt il m.buf[k].pc)).2 }, buf := (doOut p.W il m k { m.buf[k] with done := true } (instAt il m.buf[k].pc)).1 } : Conf) = RR at *
 obtain ⟨⟨r0, r1, r2, r3, ⟨mA, mN, mC⟩, ⟨sA, sN, sC⟩, pc⟩, ⟨bA, bN, bC⟩, ⟨qA, qN, qC⟩, fin⟩ := c
 clear hc hty
 go_enter Try.func38, Try.ntmps38
 go_wp2_with fail
 have HB := Kept.mk ((((q00 w (.cells p.cs.toArray 33)).alloc (by simp) (.cells (Cnf.cs ⟨⟨r0, r1, r2, r3, ⟨mA, mN, mC⟩, ⟨sA, sN, sC⟩, pc⟩, ⟨bA, bN, bC⟩, ⟨qA, qN, qC⟩, fin⟩).toArray 41)).alloc (by simp; omega) (.cells #[.int .i64 2, .int .i64 (k : Int)] 71)).alloc (by simp; omega) (.cells Cnf.zero.cs.toArray 41))
 refine (HQ.out _ (HP.out.past HB.out) (HC.out.past HB.out) (HTY.out.past HB.out)).mono ?_
 rintro en w1 ⟨c1, ov, rfl, hc1, ht1, b1⟩
 have X6 := (b1.block (w.heap.size + 1 + 1 + 1) (by simp <;> omega)).trans (q06 (o := (.cells Cnf.zero.cs.toArray 41)) (by simp))
 have W1 := Kept.mk (HB.out.trans (b1.mono HB.out.size))
 have S1 : w.heap.size + 4 ≤ w1.heap.size := by have := b1.size; simp at this; omega
 have RA := Kept.mk (CfAll.of hc1 ht1)
 obtain ⟨⟨a0, a1, a2, a3, ⟨eA, eN, eC⟩, ⟨fA, fN, fC⟩, a4⟩, ⟨gA, gN, gC⟩, ⟨hA, hN, hC⟩, a5⟩ := c1
 have HC1 := Kept.mk hc1
 have K6 := Kept.mk X6
 have Y6 := fun j => cell_of_row w1 (w.heap.size + 1 + 1 + 1) j _ _ _ X6
 have F6 := fun j => frozen_of_row w1 (w.heap.size + 1 + 1 + 1) j _ _ X6
 have Y6a := fun ob j => cell_of_row (w1.alloc ob) (w.heap.size + 1 + 1 + 1) j _ _ _ (q01 X6 (q00 w1 ob))
 have F6a := fun ob j => frozen_of_row (w1.alloc ob) (w.heap.size + 1 + 1 + 1) j _ _ (q01 X6 (q00 w1 ob))
 simp only [Cnf.cs, Cnf.zero, Sl.none] at Y6 Y6a
 have hn6 : w.heap.size + 1 + 1 + 1 ≠ w1.heap.size := by omega
 clear X6 b1 hc1 ht1
 go_wp2_with fail
 have hbW : Below w1.heap.size w1 w1 := Below.refl _ _
 have x6 := q01 K6.out hbW
 have ra := (RA.out.past hbW).row ⟨⟨_, x6⟩, grown10 _ (w.heap.size + 1 + 1 + 1) ⟨⟨a0, a1, a2, a3, ⟨eA, eN, eC⟩, ⟨fA, fN, fC⟩, a4⟩, ⟨gA, gN, gC⟩, ⟨hA, hN, hC⟩, a5⟩⟩ (by decide) (by decide)
 have wb := below10 (g := w.heap.size + 1 + 1 + 1) ⟨⟨a0, a1, a2, a3, ⟨eA, eN, eC⟩, ⟨fA, fN, fC⟩, a4⟩, ⟨gA, gN, gC⟩, ⟨hA, hN, hC⟩, a5⟩ (W1.out.trans (hbW.mono W1.out.size)) (by omega)
 have x4 := q11 Cnf.zero ⟨⟨a0, a1, a2, a3, ⟨eA, eN, eC⟩, ⟨fA, fN, fC⟩, a4⟩, ⟨gA, gN, gC⟩, ⟨hA, hN, hC⟩, a5⟩ x6
 dsimp only at ra wb x4
 refine q0C _ [Cnf.v ⟨⟨a0, a1, a2, a3, ⟨eA, eN, eC⟩, ⟨fA, fN, fC⟩, a4⟩, ⟨gA, gN, gC⟩, ⟨hA, hN, hC⟩, a5⟩, ov, .bool true] Try.results38 (.cons (.cell (cs := Cnf.cs ⟨⟨a0, a1, a2, a3, ⟨eA, eN, eC⟩, ⟨fA, fN, fC⟩, a4⟩, ⟨gA, gN, gC⟩, ⟨hA, hN, hC⟩, a5⟩) (b := w.heap.size + 1 + 1 + 1) (off := 0) rfl rfl (q05 x4) Try.underlying41 rfl (by kernel_rfl)) (.cons (.tmp rfl) (.cons (.tmp rfl) .nil))) rfl ?_
 exact ⟨⟨⟨a0, a1, a2, a3, ⟨eA, eN, eC⟩, ⟨fA, fN, fC⟩, a4⟩, ⟨gA, gN, gC⟩, ⟨hA, hN, hC⟩, a5⟩, ov, rfl, ra.cf HC1.out, ra.ty, wb⟩
set_option maxRecDepth 100000 in
set_option maxHeartbeats 8000000 in
theorem say_addr (p : Prg) (il : List Inst) (c : Cnf) (m : Conf) (k : Nat) (hk : k < m.buf.length) (w : World) (hp : PIs w p il) (hc : CfIs w c m) (hty : CfTy w c) (hW : p.W = 1 ∨ p.W = 2) (hln : m.buf.length ≤ 1000) (hml : m.st.mem.length ≤ 1000) (hsl : m.st.stack.length ≤ 1000) (hcan : canAddrOf p.W il m k = true) :
  Calls Try.prog 38 #[p.v, c.v, .agg #[.int .i64 3, .int .i64 (k : Int)]] w (SayPost ({ m with st := { m.st with pc := (addrOut p.W il m k m.buf[k] (instAt il m.buf[k].pc)).2 }, buf := (addrOut p.W il m k m.buf[k] (instAt il m.buf[k].pc)).1 } : Conf) w) := by
 have HP := Kept.mk hp
 have HC := Kept.mk hc
 have HTY := Kept.mk hty
 have HQ := Kept.mk (fun w1 (h1 : PIs w1 p il) (h2 : CfIs w1 c m) (h3 : CfTy w1 c) => (addr_at p il c m k hk w1 h1 hW h2 hln hml hsl hcan).mono (fun en w' h => h.say h2 h3))
 clear hp hW hln hml hsl hcan
 generalize ({ m with st := { m.st with pc := (addrOut p.W il m k m.buf[k] (instAt il m.buf[k].pc)).2 }, buf := (addrOut p.W il m k m.buf[k] (instAt il m.buf[k].pc)).1 } : Conf) = RR at *
 obtain ⟨⟨r0, r1, r2, r3, ⟨mA, mN, mC⟩, ⟨sA, sN, sC⟩, pc⟩, ⟨bA, bN, bC⟩, ⟨qA, qN, qC⟩, fin⟩ := c
 clear hc hty
 go_enter Try.func38, Try.ntmps38
 go_wp2_with fail
 have HB := Kept.mk ((((q00 w (.cells p.cs.toArray 33)).alloc (by simp) (.cells (Cnf.cs ⟨⟨r0, r1, r2, r3, ⟨mA, mN, mC⟩, ⟨sA, sN, sC⟩, pc⟩, ⟨bA, bN, bC⟩, ⟨qA, qN, qC⟩, fin⟩).toArray 41)).alloc (by simp; omega) (.cells #[.int .i64 3, .int .i64 (k : Int)] 71)).alloc (by simp; omega) (.cells Cnf.zero.cs.toArray 41))
 refine (HQ.out _ (HP.out.past HB.out) (HC.out.past HB.out) (HTY.out.past HB.out)).mono ?_
 rintro en w1 ⟨c1, ov, rfl, hc1, ht1, b1⟩
 have X6 := (b1.block (w.heap.size + 1 + 1 + 1) (by simp <;> omega)).trans (q06 (o := (.cells Cnf.zero.cs.toArray 41)) (by simp))
 have W1 := Kept.mk (HB.out.trans (b1.mono HB.out.size))
 have S1 : w.heap.size + 4 ≤ w1.heap.size := by have := b1.size; simp at this; omega
 have RA := Kept.mk (CfAll.of hc1 ht1)
 obtain ⟨⟨a0, a1, a2, a3, ⟨eA, eN, eC⟩, ⟨fA, fN, fC⟩, a4⟩, ⟨gA, gN, gC⟩, ⟨hA, hN, hC⟩, a5⟩ := c1
 have HC1 := Kept.mk hc1
 have K6 := Kept.mk X6
 have Y6 := fun j => cell_of_row w1 (w.heap.size + 1 + 1 + 1) j _ _ _ X6
 have F6 := fun j => frozen_of_row w1 (w.heap.size + 1 + 1 + 1) j _ _ X6
 have Y6a := fun ob j => cell_of_row (w1.alloc ob) (w.heap.size + 1 + 1 + 1) j _ _ _ (q01 X6 (q00 w1 ob))
 have F6a := fun ob j => frozen_of_row (w1.alloc ob) (w.heap.size + 1 + 1 + 1) j _ _ (q01 X6 (q00 w1 ob))
 simp only [Cnf.cs, Cnf.zero, Sl.none] at Y6 Y6a
 have hn6 : w.heap.size + 1 + 1 + 1 ≠ w1.heap.size := by omega
 clear X6 b1 hc1 ht1
 go_wp2_with fail
 have hbW : Below w1.heap.size w1 w1 := Below.refl _ _
 have x6 := q01 K6.out hbW
 have ra := (RA.out.past hbW).row ⟨⟨_, x6⟩, grown10 _ (w.heap.size + 1 + 1 + 1) ⟨⟨a0, a1, a2, a3, ⟨eA, eN, eC⟩, ⟨fA, fN, fC⟩, a4⟩, ⟨gA, gN, gC⟩, ⟨hA, hN, hC⟩, a5⟩⟩ (by decide) (by decide)
 have wb := below10 (g := w.heap.size + 1 + 1 + 1) ⟨⟨a0, a1, a2, a3, ⟨eA, eN, eC⟩, ⟨fA, fN, fC⟩, a4⟩, ⟨gA, gN, gC⟩, ⟨hA, hN, hC⟩, a5⟩ (W1.out.trans (hbW.mono W1.out.size)) (by omega)
 have x4 := q11 Cnf.zero ⟨⟨a0, a1, a2, a3, ⟨eA, eN, eC⟩, ⟨fA, fN, fC⟩, a4⟩, ⟨gA, gN, gC⟩, ⟨hA, hN, hC⟩, a5⟩ x6
 dsimp only at ra wb x4
 refine q0C _ [Cnf.v ⟨⟨a0, a1, a2, a3, ⟨eA, eN, eC⟩, ⟨fA, fN, fC⟩, a4⟩, ⟨gA, gN, gC⟩, ⟨hA, hN, hC⟩, a5⟩, ov, .bool true] Try.results38 (.cons (.cell (cs := Cnf.cs ⟨⟨a0, a1, a2, a3, ⟨eA, eN, eC⟩, ⟨fA, fN, fC⟩, a4⟩, ⟨gA, gN, gC⟩, ⟨hA, hN, hC⟩, a5⟩) (b := w.heap.size + 1 + 1 + 1) (off := 0) rfl rfl (q05 x4) Try.underlying41 rfl (by kernel_rfl)) (.cons (.tmp rfl) (.cons (.tmp rfl) .nil))) rfl ?_
 exact ⟨⟨⟨a0, a1, a2, a3, ⟨eA, eN, eC⟩, ⟨fA, fN, fC⟩, a4⟩, ⟨gA, gN, gC⟩, ⟨hA, hN, hC⟩, a5⟩, ov, rfl, ra.cf HC1.out, ra.ty, wb⟩
set_option maxRecDepth 100000 in
set_option maxHeartbeats 8000000 in
theorem say_ret (p : Prg) (il : List Inst) (c : Cnf) (m : Conf)  (w : World) (hp : PIs w p il) (hc : CfIs w c m) (hty : CfTy w c) (hln : m.buf.length ≤ 1000) (hml : m.st.mem.length ≤ 1000) (hsl : m.st.stack.length ≤ 1000) (hsm : Small m.buf) (hfit : retFit il m) (hcan : canRetOf il m = true) :
  Calls Try.prog 38 #[p.v, c.v, .agg #[.int .i64 4, .int .i64 0]] w (SayPost (retireOf il m) w) := by
 have HP := Kept.mk hp
 have HC := Kept.mk hc
 have HTY := Kept.mk hty
 have HQ := Kept.mk (fun w1 (h1 : PIs w1 p il) (h2 : CfIs w1 c m) (h3 : CfTy w1 c) => retire_at p il c m w1 h1 h2 h3 hln hml hsl hsm hfit hcan)
 clear hp hln hml hsl hsm hfit hcan
 generalize (retireOf il m) = RR at *
 obtain ⟨⟨r0, r1, r2, r3, ⟨mA, mN, mC⟩, ⟨sA, sN, sC⟩, pc⟩, ⟨bA, bN, bC⟩, ⟨qA, qN, qC⟩, fin⟩ := c
 clear hc hty
 go_enter Try.func38, Try.ntmps38
 go_wp2_with fail
 have HB := Kept.mk ((((q00 w (.cells p.cs.toArray 33)).alloc (by simp) (.cells (Cnf.cs ⟨⟨r0, r1, r2, r3, ⟨mA, mN, mC⟩, ⟨sA, sN, sC⟩, pc⟩, ⟨bA, bN, bC⟩, ⟨qA, qN, qC⟩, fin⟩).toArray 41)).alloc (by simp; omega) (.cells #[.int .i64 4, .int .i64 0] 71)).alloc (by simp; omega) (.cells Cnf.zero.cs.toArray 41))
 refine (HQ.out _ (HP.out.past HB.out) (HC.out.past HB.out) (HTY.out.past HB.out)).mono ?_
 rintro en w1 ⟨c1, rfl, hc1, ht1, b1⟩
 have X6 := (b1.block (w.heap.size + 1 + 1 + 1) (by simp <;> omega)).trans (q06 (o := (.cells Cnf.zero.cs.toArray 41)) (by simp))
 have W1 := Kept.mk (HB.out.trans (b1.mono HB.out.size))
 have S1 : w.heap.size + 4 ≤ w1.heap.size := by have := b1.size; simp at this; omega
 have RA := Kept.mk (CfAll.of hc1 ht1)
 obtain ⟨⟨a0, a1, a2, a3, ⟨eA, eN, eC⟩, ⟨fA, fN, fC⟩, a4⟩, ⟨gA, gN, gC⟩, ⟨hA, hN, hC⟩, a5⟩ := c1
 have HC1 := Kept.mk hc1
 have K6 := Kept.mk X6
 have Y6 := fun j => cell_of_row w1 (w.heap.size + 1 + 1 + 1) j _ _ _ X6
 have F6 := fun j => frozen_of_row w1 (w.heap.size + 1 + 1 + 1) j _ _ X6
 have Y6a := fun ob j => cell_of_row (w1.alloc ob) (w.heap.size + 1 + 1 + 1) j _ _ _ (q01 X6 (q00 w1 ob))
 have F6a := fun ob j => frozen_of_row (w1.alloc ob) (w.heap.size + 1 + 1 + 1) j _ _ (q01 X6 (q00 w1 ob))
 simp only [Cnf.cs, Cnf.zero, Sl.none] at Y6 Y6a
 have hn6 : w.heap.size + 1 + 1 + 1 ≠ w1.heap.size := by omega
 clear X6 b1 hc1 ht1
 go_wp2_with fail
 have hbW : Below w1.heap.size w1 (w1.alloc (.cells (Cnf.cs ⟨⟨a0, a1, a2, a3, ⟨eA, eN, eC⟩, ⟨fA, fN, fC⟩, a4⟩, ⟨gA, gN, gC⟩, ⟨hA, hN, hC⟩, a5⟩).toArray 41)) := q00 _ _
 have x6 := q01 K6.out hbW
 have ra := (RA.out.past hbW).row ⟨⟨_, x6⟩, grown10 _ (w.heap.size + 1 + 1 + 1) ⟨⟨a0, a1, a2, a3, ⟨eA, eN, eC⟩, ⟨fA, fN, fC⟩, a4⟩, ⟨gA, gN, gC⟩, ⟨hA, hN, hC⟩, a5⟩⟩ (by decide) (by decide)
 have wb := below10 (g := w.heap.size + 1 + 1 + 1) ⟨⟨a0, a1, a2, a3, ⟨eA, eN, eC⟩, ⟨fA, fN, fC⟩, a4⟩, ⟨gA, gN, gC⟩, ⟨hA, hN, hC⟩, a5⟩ (W1.out.trans (hbW.mono W1.out.size)) (by omega)
 have x4 := q11 Cnf.zero ⟨⟨a0, a1, a2, a3, ⟨eA, eN, eC⟩, ⟨fA, fN, fC⟩, a4⟩, ⟨gA, gN, gC⟩, ⟨hA, hN, hC⟩, a5⟩ x6
 dsimp only at ra wb x4
 refine q0C _ [Cnf.v ⟨⟨a0, a1, a2, a3, ⟨eA, eN, eC⟩, ⟨fA, fN, fC⟩, a4⟩, ⟨gA, gN, gC⟩, ⟨hA, hN, hC⟩, a5⟩, .slice none 0 0, .bool true] Try.results38 (.cons (.cell (cs := Cnf.cs ⟨⟨a0, a1, a2, a3, ⟨eA, eN, eC⟩, ⟨fA, fN, fC⟩, a4⟩, ⟨gA, gN, gC⟩, ⟨hA, hN, hC⟩, a5⟩) (b := w.heap.size + 1 + 1 + 1) (off := 0) rfl rfl (q05 x4) Try.underlying41 rfl (by kernel_rfl)) (.cons (.tmp rfl) (.cons (.tmp rfl) .nil))) rfl ?_
 exact ⟨⟨⟨a0, a1, a2, a3, ⟨eA, eN, eC⟩, ⟨fA, fN, fC⟩, a4⟩, ⟨gA, gN, gC⟩, ⟨hA, hN, hC⟩, a5⟩, .slice none 0 0, rfl, ra.cf HC1.out, ra.ty, wb⟩
end
section
set_option maxRecDepth 100000 in
set_option maxHeartbeats 2000000 in
theorem begin_ref (s : Stt) (w : World) : Calls Try.prog 36 #[s.v] w fun en w' => en = .returned (Cnf.v ⟨s, Sl.none, Sl.none, 0⟩) ∧ Below w.heap.size w w' := by
 obtain ⟨r0, r1, r2, r3, ⟨mA, mN, mC⟩, ⟨sA, sN, sC⟩, pc⟩ := s
 go_enter Try.func36, Try.ntmps36
 go_wp2_with fail
 refine q0C _ [Cnf.v ⟨⟨r0, r1, r2, r3, ⟨mA, mN, mC⟩, ⟨sA, sN, sC⟩, pc⟩, Sl.none, Sl.none, 0⟩] Try.results36 (.cons (.cell (cs := Cnf.cs ⟨⟨r0, r1, r2, r3, ⟨mA, mN, mC⟩, ⟨sA, sN, sC⟩, pc⟩, Sl.none, Sl.none, 0⟩) (b := w.heap.size + 1) (off := 0) rfl rfl (q05 (q06 (by simp))) Try.underlying41 rfl (by kernel_rfl)) .nil) rfl ⟨rfl, ?_⟩
 exact (q00 w _).alloc (by simp) _
theorem CellsAt.one {w : World} {b off : Nat} {v : Value} (h : w.cell? ⟨b, off, none⟩ = some v) : CellsAt w b off [v] := fun j u hu => by
 match j, hu with
 | 0, hu => cases hu; exact h
 | n + 1, hu => simp at hu
def doConf (W : Int) (il : List Inst) (m : Conf) (k : Nat) : Conf :=
 { m with st := { m.st with pc := (doOut W il m k { ((m.buf[k]?).getD default) with done := true } (instAt il ((m.buf[k]?).getD default).pc)).2 }, buf := (doOut W il m k { ((m.buf[k]?).getD default) with done := true } (instAt il ((m.buf[k]?).getD default).pc)).1 }
def addrConf (W : Int) (il : List Inst) (m : Conf) (k : Nat) : Conf :=
 { m with st := { m.st with pc := (addrOut W il m k ((m.buf[k]?).getD default) (instAt il ((m.buf[k]?).getD default).pc)).2 }, buf := (addrOut W il m k ((m.buf[k]?).getD default) (instAt il ((m.buf[k]?).getD default).pc)).1 }
def stepOf (W : Int) (il : List Inst) (m : Conf) (d : Dir) : Conf := if d.kind = 1 then fetchOf il m d.n else if d.kind = 2 then doConf W il m d.n.toNat else if d.kind = 3 then addrConf W il m d.n.toNat else retireOf il m
structure Fit (il : List Inst) (m : Conf) : Prop where
 bl : m.buf.length ≤ 1000
 ml : m.st.mem.length ≤ 1000
 sl : m.st.stack.length ≤ 1000
 rl : m.rsb.length ≤ 1000
 pc : -2 ≤ m.st.pc ∧ m.st.pc ≤ 1000000
 sm : Small m.buf
 rt : canRetOf il m = true → retFit il m
theorem say_any (p : Prg) (il : List Inst) (c : Cnf) (m : Conf) (d : Dir) (w : World) (hp : PIs w p il) (hc : CfIs w c m) (hty : CfTy w c) (hW : p.W = 1 ∨ p.W = 2) (hop : ∀ y ∈ il, (y.kind = 1 ∨ y.kind = 5) → 1 ≤ y.op ∧ y.op ≤ 10) (hf : Fit il m) (hd : d ∈ allOf p.W p.window il m) :
  Calls Try.prog 38 #[p.v, c.v, d.v] w (SayPost (stepOf p.W il m d) w) := by
 unfold allOf at hd
 rw [List.mem_append, List.mem_append, List.mem_append, q20, q20, q20] at hd
 unfold stepOf
 rcases hd with ((⟨k, hk, _, rfl⟩ | ⟨k, hk, h, rfl⟩) | ⟨k, hk, h, rfl⟩) | h
 ·simp only [if_true]
  exact say_fetch p il c m k w hp hc hty hf.bl hf.sl hf.rl hf.pc (by omega) (by have := (guesses_bounds p.window il m).1; omega)
 ·have := say_do p il c m k hk w hp hc hty hW hop hf.bl hf.ml hf.sl h
  simpa [doConf, Dir.v, List.getElem?_eq_getElem hk] using this
 ·have := say_addr p il c m k hk w hp hc hty hW hf.bl hf.ml hf.sl h
  simpa [addrConf, Dir.v, List.getElem?_eq_getElem hk] using this
 ·split at h
  ·rename_i hr
   rw [List.mem_singleton] at h
   subst h
   have := say_ret p il c m w hp hc hty hf.bl hf.ml hf.sl hf.sm (hf.rt hr) hr
   simpa [Dir.v] using this
  ·cases h
def pickIx (x : Int) (n : Nat) : Nat := (x % 65536).toNat % n
theorem pick_mem (l : List Dir) (x : Int) (h : l.length ≠ 0) : ∃ hk : pickIx x l.length < l.length, (l[pickIx x l.length]?).getD default = l[pickIx x l.length] ∧ l[pickIx x l.length] ∈ l := by
 have hk : pickIx x l.length < l.length := Nat.mod_lt _ (by omega)
 exact ⟨hk, by rw [List.getElem?_eq_getElem hk]; rfl, List.getElem_mem _⟩
theorem pick_num (x : Int) (n : Nat) (hn : n ≠ 0) : (x % 65536).tmod (n : Int) = (pickIx x n : Int) := by
 unfold pickIx
 have h0 : 0 ≤ x % 65536 := by omega
 obtain ⟨a, ha⟩ := Int.eq_ofNat_of_zero_le h0
 rw [ha, Int.toNat_natCast, Int.tmod_eq_emod_of_nonneg (by omega)]
 rfl
end
end Go.Proofs.Ytchldbkjapnlcaa
