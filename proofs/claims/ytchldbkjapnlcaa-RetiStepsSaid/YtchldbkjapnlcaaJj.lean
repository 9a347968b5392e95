/- The document's own answer, layer 7: a program's places, how many cells it has. What holds wherever a walk comes to: plain law, no program in sight. -/
import Derived.Test.YtchldbkjapnlcaaJi
import Derived.Test.YtchldbkjapnlcaaJg
set_option linter.unusedVariables false
set_option linter.unusedSimpArgs false
namespace Go.Proofs.Ytchldbkjapnlcaa
open Go.RowKit
section
structure PlaceE where
 reg : Bool
 n : Int
 secret : Bool
def PlaceE.cs (e : PlaceE) : List Value := [.bool e.reg, .int .i64 e.n, .bool e.secret]
def placeCs (l : List PlaceE) : List Value := l.flatMap PlaceE.cs
theorem PlaceE.cs_length (e : PlaceE) : e.cs.length = 3 := rfl
theorem placeCs_append (l m : List PlaceE) : placeCs (l ++ m) = placeCs l ++ placeCs m := by simp [placeCs]
theorem placeCs_one (e : PlaceE) : placeCs [e] = e.cs := by simp [placeCs]
theorem placeCs_get (l : List PlaceE) (i : Nat) (h : i < l.length) (j : Nat) (hj : j < 3) : (placeCs l)[i * 3 + j]? = l[i].cs[j]? := by
 induction l generalizing i with
 | nil => simp at h
 | cons e l ih =>
  cases i with
  | zero =>
   rw [placeCs, List.flatMap_cons, List.getElem?_append_left (by rw [PlaceE.cs_length]; omega)]
   simp
  | succ i =>
   rw [placeCs, List.flatMap_cons, List.getElem?_append_right (by rw [PlaceE.cs_length]; omega), PlaceE.cs_length]
   have := ih i (by simpa using h)
   rw [show (i + 1) * 3 + j - 3 = i * 3 + j by omega]
   simpa [placeCs] using this
theorem info_place : (Try.prog.info? 106).map (fun i => (i.zero, i.size, i.bytes)) = some (some (.agg #[.bool false, .int .i64 0, .bool false]), 3, 24) := by kernel_rfl
def OwnP (w : World) (B : Nat) (v : Value) (l : List PlaceE) : Prop := w.ownsRow B 106 3 v l.length (placeCs l)
theorem OwnP.past {w w' : World} {B : Nat} {v : Value} {l : List PlaceE} (h : OwnP w B v l) (hb : Below w.heap.size w w') : OwnP w' B v l := own_past h hb
theorem OwnP.nil {w : World} {B : Nat} : OwnP w B (.slice none 0 0) [] := World.ownsRow_nil _ _ _ _
def RdP (w : World) (A : Option Addr) (l : List PlaceE) : Prop := Reads w w.heap.size 3 A l.length (placeCs l)
theorem RdP.past {w w' : World} {A : Option Addr} {l : List PlaceE} (h : RdP w A l) (hb : Below w.heap.size w w') : RdP w' A l := Reads.past h hb
theorem RdP.at_ {w : World} {A : Option Addr} {l : List PlaceE} (h : RdP w A l) {i : Nat} (hi : i < l.length) :
  ∃ b o, A = some ⟨b, o, none⟩ ∧ b < w.heap.size ∧ w.cell? ⟨b, o + i * 3, none⟩ = some (.bool l[i].reg) ∧ w.cell? ⟨b, o + i * 3 + 1, none⟩ = some (.int .i64 l[i].n) ∧ w.cell? ⟨b, o + i * 3 + 2, none⟩ = some (.bool l[i].secret) := by
 obtain ⟨b, o, e, hb, hc⟩ := Reads.cells h hi
 have f : ∀ j u, j < 3 → l[i].cs[j]? = some u → w.cell? ⟨b, o + i * 3 + j, none⟩ = some u := fun j u hj hu => by
  rw [Nat.add_assoc]; exact hc j u hj (by rw [placeCs_get l i hi j hj]; exact hu)
 exact ⟨b, o, e, hb, f 0 _ (by omega) rfl, f 1 _ (by omega) rfl, f 2 _ (by omega) rfl⟩
def RdM (w : World) (A : Option Addr) (l : List MemE) : Prop := Reads w w.heap.size 3 A l.length (memCs l)
theorem RdM.past {w w' : World} {A : Option Addr} {l : List MemE} (h : RdM w A l) (hb : Below w.heap.size w w') : RdM w' A l := Reads.past h hb
theorem RdM.at_ {w : World} {A : Option Addr} {l : List MemE} (h : RdM w A l) {i : Nat} (hi : i < l.length) :
  ∃ b o, A = some ⟨b, o, none⟩ ∧ b < w.heap.size ∧ w.cell? ⟨b, o + i * 3, none⟩ = some (.string l[i].name) ∧ w.cell? ⟨b, o + i * 3 + 1, none⟩ = some (.bool l[i].secret) ∧ w.cell? ⟨b, o + i * 3 + 2, none⟩ = some (.int .i64 l[i].n) := by
 obtain ⟨b, o, e, hb, hc⟩ := Reads.cells h hi
 have f : ∀ j u, j < 3 → l[i].cs[j]? = some u → w.cell? ⟨b, o + i * 3 + j, none⟩ = some u := fun j u hj hu => by
  rw [Nat.add_assoc]; exact hc j u hj (by rw [memCs_get l i hi j hj]; exact hu)
 exact ⟨b, o, e, hb, f 0 _ (by omega) rfl, f 1 _ (by omega) rfl, f 2 _ (by omega) rfl⟩
theorem append_place {ops : Array Oper} {rest : List Oper} {o : Oper} {a : Act} {Q : Exit → Act → World → Prop} (W : World) (hgd : o.guard = none) (s x : Operand)
  (ho : o.op = .call { callee := .builtin .append, args := #[s, x], argTypes := #[103, 103] }) (B : Nat) {v : Value} {l : List PlaceE} (hs : a.eval s = v) (hown : OwnP W B v l) (g : Nat) (e : PlaceE)
  (hx : a.eval x = .slice (some ⟨g, 0, none⟩) 1 1) (hg : W.heap[g]? = some (.cells e.cs.toArray 106 (0, 0))) (hl : l.length < 1000000) (hB : B ≤ W.heap.size)
  (h : ∀ v' w', OwnP w' B v' (l ++ [e]) → W.grownBy w' v.ownBlock → Below B W w' → wpList Try.prog ops Q rest (a.put o.dst v') w') : wpList Try.prog ops Q (o :: rest) a W := by
 obtain ⟨i0, hi0, hz0, hz1, hz2⟩ := info_parts info_place
 refine q1F W hgd s x _ ho B 106 i0 _ 3 24 Try.underlying103 hi0 hz0 hz1 hz2 rfl (by omega) v l.length (placeCs l) hs hown W.heap.size (some ⟨g, 0, none⟩) 1 1 e.cs hx (q17 hg rfl) (by simp [PlaceE.cs, Value.oneCell'])
  (by simp only [maxLen]; omega) (by omega) hB fun v' w' h1 h2 _ => h v' w' ?_ h2 ((Below.refl _ _).grown h2 hB (fun k hk => (World.ownsRow.lt hown k hk).1))
 unfold OwnP
 rw [placeCs_append, placeCs_one, List.length_append]
 exact h1
def cellsTo (ml : List MemE) : Nat → Nat
 | 0 => 0
 | k + 1 => cellsTo ml k + ((ml[k]?).map fun e => e.n.toNat).getD 0
theorem cellsTo_bd {ml : List MemE} (h : MemOk ml) : ∀ k, cellsTo ml k ≤ 2 * k
 | 0 => by simp [cellsTo]
 | k + 1 => by
  have := cellsTo_bd h k
  rw [cellsTo]
  cases hk : ml[k]? with
  | none => simp; omega
  | some e =>
   have := h.2 e (List.mem_of_getElem? hk)
   simp only [Option.map_some, Option.getD_some]
   omega
def PlOk (c : Nat) (e : PlaceE) : Prop := 0 ≤ e.n ∧ (e.reg = true → e.n ≤ 3) ∧ (e.reg = false → e.n < c)
theorem PlOk.mono {c c' : Nat} {e : PlaceE} (h : PlOk c e) (hc : c ≤ c') : PlOk c' e := ⟨h.1, h.2.1, fun hr => by have := h.2.2 hr; omega⟩
def PlacesPost (ml : List MemE) (w : World) (en : Ending) (w' : World) : Prop := ∃ (v : Value) (l : List PlaceE), en = .returned v ∧ OwnP w' w.heap.size v l ∧ l.length ≤ 8 ∧ (∀ e ∈ l, PlOk (cellsTo ml ml.length) e) ∧ Below w.heap.size w w'
set_option maxRecDepth 100000 in
set_option maxHeartbeats 4000000 in
theorem cells_any (p : Prg) (ml : List MemE) (mA : Option Addr) (mC : Nat) (w : World) (hm : p.mems = .slice mA ml.length mC) (hr : RdM w mA ml) (hok : MemOk ml) :
  Calls Try.prog 90 #[p.v] w fun en w' => en = .returned (.int .i64 (cellsTo ml ml.length : Nat)) ∧ Below w.heap.size w w' := by
 obtain ⟨W, win, fuel, r0, r1, r2, r3, mems, labels, A, n, c⟩ := p
 simp only at hm
 subst hm
 have HR := Kept.mk hr
 have HCB := Kept.mk (fun k => cellsTo_bd hok k)
 have HOK := Kept.mk hok
 have hl2 := hok.1
 clear hr hok
 go_enter Try.func90, Try.ntmps90
 go_wp2_with fail
 go_loopw [3, 4] (fun s3 s4 wr => ∃ k : Nat, k ≤ ml.length ∧ s4 = .int .i64 (k : Int) ∧ s3 = .int .i64 (cellsTo ml k : Nat) ∧ Below (w.heap.size + 1) (w.alloc (.cells #[.int .i64 W, .int .i64 win, .int .i64 fuel, .int .i64 r0, .int .i64 r1, .int .i64 r2, .int .i64 r3, .slice mA ml.length mC, labels, .slice A n c] 33)) wr) (fun _ s4 _ => ml.length - (intOf s4).toNat)
 case atStart => exact ⟨0, Nat.zero_le _, rfl, rfl, Below.refl _ _⟩
 case round =>
  obtain ⟨k, hk, rfl, rfl, hb⟩ := hrel
  have hw := (q00 w (.cells #[.int .i64 W, .int .i64 win, .int .i64 fuel, .int .i64 r0, .int .i64 r1, .int .i64 r2, .int .i64 r3, .slice mA ml.length mC, labels, .slice A n c] 33)).trans (hb.mono (by omega))
  have HW := Kept.mk hw
  have HB := Kept.mk hb
  have Y0 := fun j => cell_of_row wr w.heap.size j _ _ _ ((hb.block _ (by omega)).trans (heap_alloc_new w _))
  have hcb := HCB.out k
  by_cases hlt : k < ml.length
  ·obtain ⟨b, o, rfl, hbb, z0, z1, z2⟩ := RdM.at_ (HR.out.past hw) hlt
   have hki : (k : Int) < (ml.length : Int) := by omega
   have hme := HOK.out.2 ml[k] (List.getElem_mem hlt)
   have HST := Kept.mk (show ((cellsTo ml (k + 1) : Nat) : Int) = (cellsTo ml k : Nat) + ml[k].n by rw [cellsTo, List.getElem?_eq_getElem hlt]; simp only [Option.map_some, Option.getD_some]; omega)
   clear hb hw
   generalize hC : cellsTo ml k = C at *
   clear hC
   go_wp2_with fail
   exact ⟨⟨k + 1, by omega, by go_num, by rw [HST.out], HB.out⟩, by simp [intOf] <;> omega⟩
  ·obtain rfl : ml.length = k := by omega
   clear hb hw hlt
   go_wp2_with fail
   go_ret
   exact ⟨rfl, HW.out⟩
set_option maxRecDepth 100000 in
set_option maxHeartbeats 8000000 in
theorem places_any (p : Prg) (ml : List MemE) (mA : Option Addr) (mC : Nat) (w : World) (hm : p.mems = .slice mA ml.length mC) (hr : RdM w mA ml) (hok : MemOk ml) :
  Calls Try.prog 58 #[p.v] w (PlacesPost ml w) := by
 obtain ⟨W, win, fuel, r0, r1, r2, r3, mems, labels, A, n, c⟩ := p
 simp only at hm
 subst hm
 have HR := Kept.mk hr
 have HCB := Kept.mk (fun k => cellsTo_bd hok k)
 have HOK := Kept.mk hok
 have hl2 := hok.1
 clear hr hok
 unfold Prg.v
 go_enter Try.func58, Try.ntmps58
 go_wp2_with fail
 go_loopw [3, 4] (fun s3 s4 wr => ∃ (k : Nat) (out : List PlaceE), k ≤ 4 ∧ s4 = .int .i64 (k : Int) ∧ OwnP wr (w.heap.size + 1) s3 out ∧ out.length ≤ k ∧ (∀ e ∈ out, PlOk 0 e) ∧ Below (w.heap.size + 1) (w.alloc (.cells #[.int .i64 W, .int .i64 win, .int .i64 fuel, .int .i64 r0, .int .i64 r1, .int .i64 r2, .int .i64 r3, .slice mA ml.length mC, labels, .slice A n c] 33)) wr) (fun _ s4 _ => 4 - (intOf s4).toNat)
 case atStart => exact ⟨0, [], Nat.zero_le _, rfl, OwnP.nil, Nat.le_refl _, by simp, Below.refl _ _⟩
 case round =>
  obtain ⟨k, out, hk, rfl, ho, hout, hp, hb⟩ := hrel
  have HP := Kept.mk hp
  clear hp
  have hw := (q00 w (.cells #[.int .i64 W, .int .i64 win, .int .i64 fuel, .int .i64 r0, .int .i64 r1, .int .i64 r2, .int .i64 r3, .slice mA ml.length mC, labels, .slice A n c] 33)).trans (hb.mono (by omega))
  have HW := Kept.mk hw
  have HB := Kept.mk hb
  have HO := Kept.mk ho
  have hsz : w.heap.size + 1 ≤ wr.heap.size := by have := hb.size; simpa using this
  have Y0 := fun j => cell_of_row wr w.heap.size j _ _ _ ((hb.block _ (by omega)).trans (heap_alloc_new w _))
  have : k = 0 ∨ k = 1 ∨ k = 2 ∨ k = 3 ∨ k = 4 := by omega
  clear hk
  rcases this with rfl | rfl | rfl | rfl | rfl
  ·by_cases hr : r0 = 0
   ·subst hr
    clear hb hw ho
    go_wp2_with fail
    exact ⟨⟨1, out, by omega, by go_num, HO.out, by omega, HP.out, HB.out⟩, by simp [intOf]⟩
   ·have hr1 : (r0 != 0) = true := by simp [hr]
    have hr2 : (r0 == 0) = false := by simp [hr]
    clear hb hw ho
    go_wp2_with (at_builtin; go_must (refine append_place _ rfl (.tmp 17) (.tmp 25) rfl (w.heap.size + 1) rfl (HO.out.past (q00 _ _)) _ ⟨true, 0, r0 == 2⟩ rfl (q06 (by simp)) ?c1 ?c2 ?_))
    case c1 => omega
    case c2 => simp; omega
    intro v6 w6 h6 hg6 b6
    have HO6 := Kept.mk h6
    have B6 := Kept.mk ((HB.out.alloc (by omega) (.cells #[.bool true, .int .i64 0, .bool (r0 == 2)] 106)).trans b6)
    clear h6 hg6 b6
    go_wp2_with fail
    exact ⟨⟨1, out ++ [⟨true, 0, r0 == 2⟩], by omega, by go_num, HO6.out, by rw [List.length_append, List.length_singleton]; omega, fun e he => by
     rcases List.mem_append.1 he with he | he
     ·exact HP.out e he
     ·rw [List.mem_singleton] at he; subst he; exact ⟨by show (0 : Int) ≤ 0; omega, fun _ => by show (0 : Int) ≤ 3; omega, fun h => by cases h⟩, B6.out⟩, by simp [intOf]⟩
  ·by_cases hr : r1 = 0
   ·subst hr
    clear hb hw ho
    go_wp2_with fail
    exact ⟨⟨2, out, by omega, by go_num, HO.out, by omega, HP.out, HB.out⟩, by simp [intOf]⟩
   ·have hr1 : (r1 != 0) = true := by simp [hr]
    have hr2 : (r1 == 0) = false := by simp [hr]
    clear hb hw ho
    go_wp2_with (at_builtin; go_must (refine append_place _ rfl (.tmp 17) (.tmp 25) rfl (w.heap.size + 1) rfl (HO.out.past (q00 _ _)) _ ⟨true, 1, r1 == 2⟩ rfl (q06 (by simp)) ?c1 ?c2 ?_))
    case c1 => omega
    case c2 => simp; omega
    intro v6 w6 h6 hg6 b6
    have HO6 := Kept.mk h6
    have B6 := Kept.mk ((HB.out.alloc (by omega) (.cells #[.bool true, .int .i64 1, .bool (r1 == 2)] 106)).trans b6)
    clear h6 hg6 b6
    go_wp2_with fail
    exact ⟨⟨2, out ++ [⟨true, 1, r1 == 2⟩], by omega, by go_num, HO6.out, by rw [List.length_append, List.length_singleton]; omega, fun e he => by
     rcases List.mem_append.1 he with he | he
     ·exact HP.out e he
     ·rw [List.mem_singleton] at he; subst he; exact ⟨by show (0 : Int) ≤ 1; omega, fun _ => by show (1 : Int) ≤ 3; omega, fun h => by cases h⟩, B6.out⟩, by simp [intOf]⟩
  ·by_cases hr : r2 = 0
   ·subst hr
    clear hb hw ho
    go_wp2_with fail
    exact ⟨⟨3, out, by omega, by go_num, HO.out, by omega, HP.out, HB.out⟩, by simp [intOf]⟩
   ·have hr1 : (r2 != 0) = true := by simp [hr]
    have hr2 : (r2 == 0) = false := by simp [hr]
    clear hb hw ho
    go_wp2_with (at_builtin; go_must (refine append_place _ rfl (.tmp 17) (.tmp 25) rfl (w.heap.size + 1) rfl (HO.out.past (q00 _ _)) _ ⟨true, 2, r2 == 2⟩ rfl (q06 (by simp)) ?c1 ?c2 ?_))
    case c1 => omega
    case c2 => simp; omega
    intro v6 w6 h6 hg6 b6
    have HO6 := Kept.mk h6
    have B6 := Kept.mk ((HB.out.alloc (by omega) (.cells #[.bool true, .int .i64 2, .bool (r2 == 2)] 106)).trans b6)
    clear h6 hg6 b6
    go_wp2_with fail
    exact ⟨⟨3, out ++ [⟨true, 2, r2 == 2⟩], by omega, by go_num, HO6.out, by rw [List.length_append, List.length_singleton]; omega, fun e he => by
     rcases List.mem_append.1 he with he | he
     ·exact HP.out e he
     ·rw [List.mem_singleton] at he; subst he; exact ⟨by show (0 : Int) ≤ 2; omega, fun _ => by show (2 : Int) ≤ 3; omega, fun h => by cases h⟩, B6.out⟩, by simp [intOf]⟩
  ·by_cases hr : r3 = 0
   ·subst hr
    clear hb hw ho
    go_wp2_with fail
    exact ⟨⟨4, out, by omega, by go_num, HO.out, by omega, HP.out, HB.out⟩, by simp [intOf]⟩
   ·have hr1 : (r3 != 0) = true := by simp [hr]
    have hr2 : (r3 == 0) = false := by simp [hr]
    clear hb hw ho
    go_wp2_with (at_builtin; go_must (refine append_place _ rfl (.tmp 17) (.tmp 25) rfl (w.heap.size + 1) rfl (HO.out.past (q00 _ _)) _ ⟨true, 3, r3 == 2⟩ rfl (q06 (by simp)) ?c1 ?c2 ?_))
    case c1 => omega
    case c2 => simp; omega
    intro v6 w6 h6 hg6 b6
    have HO6 := Kept.mk h6
    have B6 := Kept.mk ((HB.out.alloc (by omega) (.cells #[.bool true, .int .i64 3, .bool (r3 == 2)] 106)).trans b6)
    clear h6 hg6 b6
    go_wp2_with fail
    exact ⟨⟨4, out ++ [⟨true, 3, r3 == 2⟩], by omega, by go_num, HO6.out, by rw [List.length_append, List.length_singleton]; omega, fun e he => by
     rcases List.mem_append.1 he with he | he
     ·exact HP.out e he
     ·rw [List.mem_singleton] at he; subst he; exact ⟨by show (0 : Int) ≤ 3; omega, fun _ => by show (3 : Int) ≤ 3; omega, fun h => by cases h⟩, B6.out⟩, by simp [intOf]⟩
  ·clear hb hw ho
   simp only [show ((4 : Nat) : Int) = 4 from rfl]
   go_wp2_with fail
   go_loopw [3, 5, 6] (fun s3 s5 s6 wr => ∃ (j : Nat) (out : List PlaceE), j ≤ ml.length ∧ s6 = .int .i64 (j : Int) ∧ s5 = .int .i64 (cellsTo ml j : Nat) ∧ OwnP wr (w.heap.size + 1) s3 out ∧ out.length ≤ 4 + cellsTo ml j ∧ (∀ e ∈ out, PlOk (cellsTo ml j) e) ∧ Below (w.heap.size + 1) (w.alloc (.cells #[.int .i64 W, .int .i64 win, .int .i64 fuel, .int .i64 r0, .int .i64 r1, .int .i64 r2, .int .i64 r3, .slice mA ml.length mC, labels, .slice A n c] 33)) wr) (fun _ _ s6 _ => ml.length - (intOf s6).toNat)
   case atStart => exact ⟨0, out, Nat.zero_le _, rfl, rfl, HO.out, by omega, fun e he => HP.out e he, HB.out⟩
   case round =>
    clear HW HB HO Y0 HP hsz hout
    obtain ⟨j, out, hj, rfl, rfl, ho, hout, hp, hb⟩ := hrel
    have HP := Kept.mk hp
    clear hp
    have hw := (q00 w (.cells #[.int .i64 W, .int .i64 win, .int .i64 fuel, .int .i64 r0, .int .i64 r1, .int .i64 r2, .int .i64 r3, .slice mA ml.length mC, labels, .slice A n c] 33)).trans (hb.mono (by omega))
    have HW := Kept.mk hw
    have HB := Kept.mk hb
    have HO := Kept.mk ho
    have hsz : w.heap.size + 1 ≤ wr.heap.size := by have := hb.size; simpa using this
    have Y0 := fun j => cell_of_row wr w.heap.size j _ _ _ ((hb.block _ (by omega)).trans (heap_alloc_new w _))
    have hcb := HCB.out j
    by_cases hlt : j < ml.length
    ·have hji : (j : Int) < (ml.length : Int) := by omega
     obtain ⟨q, hq⟩ : ∃ q : Nat, ml[j].n = (q : Int) := ⟨ml[j].n.toNat, by have := HOK.out.2 ml[j] (List.getElem_mem hlt); omega⟩
     have HST := Kept.mk (show cellsTo ml (j + 1) = cellsTo ml j + q by rw [cellsTo, List.getElem?_eq_getElem hlt]; simp only [Option.map_some, Option.getD_some]; omega)
     have hq2 : q ≤ 2 := by have := HOK.out.2 ml[j] (List.getElem_mem hlt); omega
     have HQ := Kept.mk hq
     obtain ⟨C, hC⟩ : ∃ C, cellsTo ml j = C := ⟨_, rfl⟩
     rw [hC] at HST HP hout hcb
     rw [hC]
     clear hC hq hb hw ho
     go_wp2_with fail
     go_loopw [3, 5, 7] (fun s3 s5 s7 wr => ∃ (t : Nat) (out : List PlaceE), t ≤ q ∧ s7 = .int .i64 (t : Int) ∧ s5 = .int .i64 ((C + t : Nat) : Int) ∧ OwnP wr (w.heap.size + 1) s3 out ∧ out.length ≤ 4 + (C + t) ∧ (∀ e ∈ out, PlOk (C + t) e) ∧ Below (w.heap.size + 1) (w.alloc (.cells #[.int .i64 W, .int .i64 win, .int .i64 fuel, .int .i64 r0, .int .i64 r1, .int .i64 r2, .int .i64 r3, .slice mA ml.length mC, labels, .slice A n c] 33)) wr) (fun _ _ s7 _ => q - (intOf s7).toNat)
     case atStart => exact ⟨0, out, Nat.zero_le _, rfl, rfl, HO.out, by omega, fun e he => HP.out e he, HB.out⟩
     case round =>
      clear HW HB HO Y0 HP hsz hout
      obtain ⟨t, out, ht, rfl, rfl, ho, hout, hp, hb⟩ := hrel
      have HP := Kept.mk hp
      clear hp
      have hw := (q00 w (.cells #[.int .i64 W, .int .i64 win, .int .i64 fuel, .int .i64 r0, .int .i64 r1, .int .i64 r2, .int .i64 r3, .slice mA ml.length mC, labels, .slice A n c] 33)).trans (hb.mono (by omega))
      have HW := Kept.mk hw
      have HB := Kept.mk hb
      have HO := Kept.mk ho
      have hsz : w.heap.size + 1 ≤ wr.heap.size := by have := hb.size; simpa using this
      have Y0 := fun j => cell_of_row wr w.heap.size j _ _ _ ((hb.block _ (by omega)).trans (heap_alloc_new w _))
      obtain ⟨b, o, rfl, hbb, z0, z1, z2⟩ := RdM.at_ (HR.out.past hw) hlt
      rw [HQ.out] at z2
      clear hb hw ho z0
      by_cases htq : t < q
      ·have hti : (t : Int) < (q : Int) := by omega
       go_wp2_with (at_builtin; go_must (refine append_place _ rfl (.tmp 44) (.tmp 53) rfl (w.heap.size + 1) rfl (HO.out.past (q00 _ _)) _ ⟨false, ((C + t : Nat) : Int), ml[j].secret⟩ rfl (q06 (by simp)) ?c1 ?c2 ?_))
       case c1 => omega
       case c2 => simp; omega
       intro v6 w6 h6 hg6 b6
       have HO6 := Kept.mk h6
       have B6 := Kept.mk ((HB.out.alloc (by omega) (.cells #[.bool false, .int .i64 ((C + t : Nat) : Int), .bool ml[j].secret] 106)).trans b6)
       clear h6 hg6 b6
       go_wp2_with fail
       exact ⟨⟨t + 1, out ++ [⟨false, (C : Int) + (t : Int), ml[j].secret⟩], by omega, by go_num, by go_num, HO6.out, by rw [List.length_append, List.length_singleton]; omega, fun e he => by
        rcases List.mem_append.1 he with he | he
        ·exact (HP.out e he).mono (by omega)
        ·rw [List.mem_singleton] at he; subst he; exact ⟨by show (0 : Int) ≤ (C : Int) + (t : Int); omega, fun h => (by cases h), fun _ => by show (C : Int) + (t : Int) < ((C + (t + 1) : Nat) : Int); omega⟩, B6.out⟩, by simp [intOf] <;> omega⟩
      ·obtain rfl : q = t := by omega
       go_wp2_with fail
       exact ⟨⟨j + 1, out, by omega, by go_num, by rw [HST.out], HO.out, by rw [HST.out]; omega, fun e he => by rw [HST.out]; exact HP.out e he, HB.out⟩, by simp [intOf] <;> omega⟩
    ·obtain rfl : ml.length = j := by omega
     clear hb hw ho hlt
     go_wp2_with fail
     go_ret
     exact ⟨_, out, rfl, own_lower HO.out (by omega), by omega, HP.out, HW.out⟩
end
section
def N4 (x : Int) : Prop := 0 ≤ x ∧ x ≤ 3
theorem N4.cases {x : Int} (h : N4 x) : x = 0 ∨ x = 1 ∨ x = 2 ∨ x = 3 := by have := h.1; have := h.2; omega
theorem maskW_n4 (W n : Int) (hW : W = 1 ∨ W = 2) : N4 (maskW W n) := maskW_bd W n hW
theorem doX_n4 (W op x y : Int) (hW : W = 1 ∨ W = 2) (hx : N4 x) (hy : N4 y) : N4 (doX W op x y) := by
 unfold doX
 by_cases h1 : op = 1
 ·rw [if_pos h1]; exact maskW_n4 _ _ hW
 rw [if_neg h1]
 by_cases h2 : op = 2
 ·rw [if_pos h2]; exact maskW_n4 _ _ hW
 rw [if_neg h2]
 by_cases h3 : op = 3
 ·rw [if_pos h3]
  rcases hx.cases with rfl | rfl | rfl | rfl <;> rcases hy.cases with rfl | rfl | rfl | rfl <;> exact ⟨by decide, by decide⟩
 rw [if_neg h3]
 by_cases h4 : op = 4
 ·rw [if_pos h4]
  rcases hx.cases with rfl | rfl | rfl | rfl <;> rcases hy.cases with rfl | rfl | rfl | rfl <;> exact ⟨by decide, by decide⟩
 rw [if_neg h4]
 by_cases h5 : op = 5
 ·rw [if_pos h5]
  rcases hx.cases with rfl | rfl | rfl | rfl <;> rcases hy.cases with rfl | rfl | rfl | rfl <;> exact ⟨by decide, by decide⟩
 rw [if_neg h5]
 repeat' split
 all_goals first | exact maskW_n4 _ _ hW | exact ⟨by decide, by decide⟩ | (rcases hx.cases with rfl | rfl | rfl | rfl <;> rcases hy.cases with rfl | rfl | rfl | rfl <;> exact ⟨by decide, by decide⟩)
theorem doW_n4 (W op a b : Int) (hW : W = 1 ∨ W = 2) : N4 (doW W op a b) := doX_n4 W op _ _ hW (maskW_n4 _ _ hW) (maskW_n4 _ _ hW)
theorem regGo_n4 (il : List Inst) (l : List Ent) (r fall : Int) (hl : ∀ e ∈ l, N4 e.val) (hf : N4 fall) : ∀ k, N4 (regGo il l r fall k).1
 | 0 => hf
 | k + 1 => by
  rw [regGo]
  cases hk : l[k]? with
  | none => exact hf
  | some e =>
   simp only
   split
   ·split
    ·exact hl e (List.mem_of_getElem? hk)
    ·exact ⟨by decide, by decide⟩
   ·exact regGo_n4 il l r fall hl hf k
theorem regOf_n4 (il : List Inst) (a b c d : Int) (l : List Ent) (i r : Int) (ha : N4 a) (hb : N4 b) (hc : N4 c) (hd : N4 d) (hl : ∀ e ∈ l, N4 e.val) : N4 (regOf il a b c d l i r).1 := by
 unfold regOf
 split
 ·exact ⟨by decide, by decide⟩
 ·refine regGo_n4 _ _ _ _ hl ?_ _
  unfold regsAt
  repeat' split
  all_goals assumption
theorem valOf_n4 (W : Int) (hW : W = 1 ∨ W = 2) (il : List Inst) (a b c d : Int) (l : List Ent) (i : Int) (vr : Bool) (vn : Int) (ha : N4 a) (hb : N4 b) (hc : N4 c) (hd : N4 d) (hl : ∀ e ∈ l, N4 e.val) : N4 (valOf W il a b c d l i vr vn).1 := by
 unfold valOf
 split
 ·exact regOf_n4 _ _ _ _ _ _ _ _ ha hb hc hd hl
 ·exact maskW_n4 _ _ hW
theorem loadGo_n4 (il : List Inst) (l : List Ent) (mem : List Int) (addr : Int) (hl : ∀ e ∈ l, N4 e.val) (hm : ∀ x ∈ mem, N4 x) : ∀ k, k ≤ l.length → N4 (loadGo il l mem addr k).1 ∧ -1 ≤ (loadGo il l mem addr k).2.1 ∧ (loadGo il l mem addr k).2.1 ≤ l.length
 | 0, _ => by
  rw [loadGo]
  split
  ·exact ⟨⟨by decide, by decide⟩, by show (-1 : Int) ≤ -1; omega, by show (-1 : Int) ≤ _; omega⟩
  ·refine ⟨?_, by show (-1 : Int) ≤ -1; omega, by show (-1 : Int) ≤ _; omega⟩
   cases hk : mem[addr.toNat]? with
   | none => exact ⟨by decide, by decide⟩
   | some x => exact hm x (List.mem_of_getElem? hk)
 | k + 1, hk1 => by
  rw [loadGo]
  cases hk : l[k]? with
  | none =>
   simp only
   exact ⟨⟨by decide, by decide⟩, by omega, by omega⟩
  | some e =>
   simp only
   split
   ·split
    ·exact ⟨hl e (List.mem_of_getElem? hk), by show (-1 : Int) ≤ (k : Int); omega, by show (k : Int) ≤ _; omega⟩
    ·exact ⟨⟨by decide, by decide⟩, by show (-1 : Int) ≤ 0; omega, by show (0 : Int) ≤ _; omega⟩
   ·exact loadGo_n4 il l mem addr hl hm k (by omega)
theorem loadOf_n4 (il : List Inst) (l : List Ent) (mem : List Int) (i addr : Int) (hl : ∀ e ∈ l, N4 e.val) (hm : ∀ x ∈ mem, N4 x) : N4 (loadOf il l mem i addr).1 ∧ -1 ≤ (loadOf il l mem i addr).2.1 ∧ (loadOf il l mem i addr).2.1 ≤ l.length :=
 loadGo_n4 il l mem addr hl hm _ (by omega)
theorem realOf_pc (il : List Inst) : ∀ (l l' : List Ent) (s : List Int), l.map Ent.pc = l'.map Ent.pc → realOf il s l = realOf il s l'
 | [], [], _, _ => rfl
 | [], _ :: _, _, h => by simp at h
 | _ :: _, [], _, h => by simp at h
 | e :: l, e' :: l', s, h => by
  simp only [List.map_cons, List.cons.injEq] at h
  rw [realOf, realOf, h.1]
  split
  ·split
   ·rfl
   ·exact realOf_pc il l l' _ h.2
  ·split
   ·split
    ·rfl
    ·exact realOf_pc il l l' _ h.2
   ·exact realOf_pc il l l' _ h.2
structure EntOk (il : List Inst) (L : Nat) (e : Ent) : Prop where
 pc : 0 ≤ e.pc ∧ e.pc ≤ il.length
 val : N4 e.val
 frm : -1 ≤ e.frm ∧ e.frm ≤ 1000
 next : -1 ≤ e.next ∧ e.next ≤ il.length
 st : (instAt il e.pc).kind = 3 → e.known = true → e.fault = false → 0 ≤ e.addr ∧ e.addr < L
def RetOk (il : List Inst) (stack : List Int) (buf : List Ent) (j : Nat) (e : Ent) : Prop := (instAt il e.pc).kind = 9 → e.done = true → e.fault = false → ∃ s, realOf il stack (buf.take j) = some s ∧ s ≠ []
structure Inv (win : Int) (il : List Inst) (L k : Nat) (m : Conf) : Prop where
 fin : m.fin = 0 ∨ ((m.fin = 1 ∨ m.fin = 2) ∧ m.buf = [] ∧ m.rsb = [])
 bl : (m.buf.length : Int) ≤ win
 r0 : N4 m.st.r0
 r1 : N4 m.st.r1
 r2 : N4 m.st.r2
 r3 : N4 m.st.r3
 ml : m.st.mem.length = L
 mem : ∀ x ∈ m.st.mem, N4 x
 sl : m.st.stack.length ≤ k
 stk : ∀ x ∈ m.st.stack, 0 ≤ x ∧ x ≤ il.length
 rl : m.rsb.length ≤ 2
 rsb : ∀ x ∈ m.rsb, 0 ≤ x ∧ x ≤ il.length
 pc : -1 ≤ m.st.pc ∧ m.st.pc ≤ il.length
 ents : ∀ e ∈ m.buf, EntOk il L e
 rets : ∀ (j : Nat) (e : Ent), m.buf[j]? = some e → RetOk il m.st.stack m.buf j e
structure ProgOk (W win : Int) (il : List Inst) : Prop where
 W : W = 1 ∨ W = 2
 win : 1 ≤ win ∧ win ≤ 3
 ok : ∀ e ∈ il, InsOk e il.length
 len : il.length ≤ 1000
theorem q2D {il : List Inst} {pc : Int} (h : (instAt il pc).kind ≠ 12) : 0 ≤ pc ∧ pc < il.length ∧ instAt il pc ∈ il := by
 unfold instAt at h ⊢
 by_cases hp : pc < 0
 ·rw [if_pos hp] at h
  exact absurd rfl h
 ·rw [if_neg hp] at h ⊢
  cases hk : il[pc.toNat]? with
  | none => rw [hk] at h; exact absurd rfl h
  | some e =>
   rw [hk] at h
   have := (List.getElem?_eq_some_iff.1 hk).1
   exact ⟨by omega, by omega, List.mem_of_getElem? hk⟩
theorem instAt_d {W win : Int} {il : List Inst} (hP : ProgOk W win il) (pc : Int) : 0 ≤ (instAt il pc).d ∧ (instAt il pc).d ≤ 3 := by
 by_cases h : (instAt il pc).kind = 12
 ·unfold instAt
  split
  ·exact ⟨by decide, by decide⟩
  ·cases hk : il[pc.toNat]? with
   | none => exact ⟨by decide, by decide⟩
   | some e => exact (hP.ok e (List.mem_of_getElem? hk)).d
 ·exact (hP.ok _ (q2D h).2.2).d
theorem Inv.upd {win : Int} {il : List Inst} {L k : Nat} {m : Conf} (h : Inv win il L k m) (buf' : List Ent) (pc' : Int) (hf : m.fin = 0) (hlen : buf'.length ≤ m.buf.length) (hpc : -1 ≤ pc' ∧ pc' ≤ il.length)
  (hb : ∀ (j : Nat) (e' : Ent), buf'[j]? = some e' → ∃ e, m.buf[j]? = some e ∧ e'.pc = e.pc ∧ EntOk il L e' ∧ (RetOk il m.st.stack m.buf j e → RetOk il m.st.stack m.buf j e')) :
  Inv win il L (k + 1) { m with st := { m.st with pc := pc' }, buf := buf' } := by
 refine ⟨.inl hf, by have := h.bl; show (buf'.length : Int) ≤ win; omega, h.r0, h.r1, h.r2, h.r3, h.ml, h.mem, Nat.le_trans h.sl (by omega), h.stk, h.rl, h.rsb, hpc, fun e he => ?_, fun j e he => ?_⟩
 ·obtain ⟨j, hj⟩ := List.mem_iff_getElem?.1 he
  obtain ⟨_, _, _, h3, _⟩ := hb j e hj
  exact h3
 ·obtain ⟨e0, h1, h2, _, h4⟩ := hb j e he
  have := h4 (h.rets j e0 h1)
  have hmap : (buf'.take j).map Ent.pc = (m.buf.take j).map Ent.pc := by
   apply List.ext_getElem?
   intro i
   rw [List.getElem?_map, List.getElem?_map, List.getElem?_take, List.getElem?_take]
   split
   ·rename_i hij
    have hjl : j < buf'.length := (List.getElem?_eq_some_iff.1 he).1
    cases hi : buf'[i]? with
    | none => have := List.getElem?_eq_none_iff.1 hi; omega
    | some e' =>
     obtain ⟨e1, g1, g2, _⟩ := hb i e' hi
     rw [g1, Option.map_some, Option.map_some, g2]
   ·rfl
  intro a b c
  obtain ⟨s, hs, hne⟩ := this a b c
  exact ⟨s, by show realOf il m.st.stack (buf'.take j) = some s; rw [realOf_pc il _ _ _ hmap]; exact hs, hne⟩
def RowOk (il : List Inst) (L : Nat) (m : Conf) (buf' : List Ent) : Prop := ∀ (j : Nat) (e' : Ent), buf'[j]? = some e' → ∃ e, m.buf[j]? = some e ∧ e'.pc = e.pc ∧ EntOk il L e' ∧ (RetOk il m.st.stack m.buf j e → RetOk il m.st.stack m.buf j e')
theorem RowOk.take {il : List Inst} {L : Nat} {m : Conf} {b : List Ent} (h : RowOk il L m b) (t : Nat) : RowOk il L m (b.take t) := fun j e' he => by
 rw [List.getElem?_take] at he
 split at he
 ·exact h j e' he
 ·cases he
theorem Inv.set {win : Int} {il : List Inst} {L k : Nat} {m : Conf} (h : Inv win il L k m) (i : Nat) (e0 e1 : Ent) (h0 : m.buf[i]? = some e0) (hpc : e1.pc = e0.pc) (hok : EntOk il L e1) (hr : RetOk il m.st.stack m.buf i e1) : RowOk il L m (m.buf.set i e1) := fun j e' he => by
 rw [List.getElem?_set] at he
 by_cases hij : i = j
 ·subst hij
  rw [if_pos rfl] at he
  split at he
  ·injection he with he
   subst he
   exact ⟨e0, h0, hpc, hok, fun _ => hr⟩
  ·cases he
 ·rw [if_neg hij] at he
  exact ⟨e', he, rfl, h.ents e' (List.mem_of_getElem? he), id⟩
theorem realOf_mem {W win : Int} {il : List Inst} (hP : ProgOk W win il) : ∀ (l : List Ent) (s s' : List Int), (∀ x ∈ s, 0 ≤ x ∧ x ≤ il.length) → realOf il s l = some s' → ∀ x ∈ s', 0 ≤ x ∧ x ≤ il.length
 | [], s, s', hs, h => by rw [realOf] at h; injection h with h; subst h; exact hs
 | e :: l, s, s', hs, h => by
  rw [realOf] at h
  split at h
  ·rename_i h8
   split at h
   ·cases h
   ·refine realOf_mem hP l _ _ (fun x hx => ?_) h
    rcases List.mem_append.1 hx with hx | hx
    ·exact hs x hx
    ·rw [List.mem_singleton] at hx
     have := q2D (il := il) (pc := e.pc) (by omega)
     subst hx
     omega
  ·split at h
   ·split at h
    ·cases h
    ·exact realOf_mem hP l _ _ (fun x hx => hs x (List.mem_of_mem_take hx)) h
   ·exact realOf_mem hP l _ _ hs h
theorem goes_row {win : Int} {il : List Inst} {L k : Nat} {m : Conf} (h : Inv win il L k m) (i : Nat) (e0 e1 : Ent) (h0 : m.buf[i]? = some e0) (hpc : e1.pc = e0.pc) (hok : EntOk il L e1) (hr : RetOk il m.st.stack m.buf i e1) (t : Int) (ht : -1 ≤ t ∧ t ≤ il.length) :
  RowOk il L m (goesBuf (m.buf.set i e1) i t) ∧ (goesBuf (m.buf.set i e1) i t).length ≤ m.buf.length ∧ -1 ≤ goesPc (m.buf.set i e1) i t m.st.pc ∧ goesPc (m.buf.set i e1) i t m.st.pc ≤ il.length := by
 have hi := (List.getElem?_eq_some_iff.1 h0).1
 have hg : (m.buf.set i e1)[i]? = some e1 := by rw [List.getElem?_set, if_pos rfl, if_pos hi]
 unfold goesBuf goesPc
 rw [hg]
 simp only
 split
 ·exact ⟨h.set i e0 e1 h0 hpc hok hr, by rw [List.length_set]; exact Nat.le_refl _, h.pc⟩
 ·rw [List.set_set]
  refine ⟨(h.set i e0 { e1 with next := t } h0 hpc ⟨hok.pc, hok.val, hok.frm, ht, hok.st⟩ hr).take _, by rw [List.length_take, List.length_set]; omega, ht⟩
theorem canOf_parts {W : Int} {il : List Inst} {m : Conf} {i : Nat} (hi : i < m.buf.length) (h : canOf W il m i = true) : m.fin = 0 ∧ m.buf[i].done = false ∧ canIn W il m i (instAt il m.buf[i].pc) = true := by
 unfold canOf at h
 split at h
 ·rename_i ho
  unfold openOf at ho
  rw [Int.toNat_natCast, List.getElem?_eq_getElem hi] at h
  simp only at h
  split at h
  ·cases h
  ·rename_i hd
   simp only [Bool.and_eq_true, decide_eq_true_eq] at ho
   exact ⟨ho.1.1, by simpa using hd, h⟩
 ·cases h
theorem inv_do {W win : Int} {il : List Inst} {L k : Nat} {m : Conf} (hP : ProgOk W win il) (h : Inv win il L k m) (i : Nat) (hi : i < m.buf.length) (hcan : canOf W il m i = true) : Inv win il L (k + 1) (doConf W il m i) := by
 obtain ⟨hf, hd, hc⟩ := canOf_parts hi hcan
 have h0 : m.buf[i]? = some m.buf[i] := List.getElem?_eq_getElem hi
 unfold doConf
 rw [h0]
 simp only [Option.getD_some]
 have hb := h.ents m.buf[i] (List.getElem_mem hi)
 generalize m.buf[i] = e at *
 have hpcx : (instAt il e.pc).kind ≠ 12 := by
  intro h12
  unfold canIn at hc
  simp only [h12] at hc
  simp at hc
 obtain ⟨hp0, hp1, hin⟩ := q2D hpcx
 have hio := hP.ok _ hin
 generalize hx : instAt il e.pc = x at *
 have hbi : EntOk il L { e with done := true } := ⟨hb.pc, hb.val, hb.frm, hb.next, hb.st⟩
 have hvals : ∀ y ∈ m.buf.set i { e with done := true }, N4 y.val := fun y hy => by
  rcases List.mem_or_eq_of_mem_set hy with hy | hy
  ·exact (h.ents y hy).val
  ·rw [hy]; exact hb.val
 have ha : N4 (aOf W il { m with buf := m.buf.set i { e with done := true } } i x).1 := valOf_n4 W hP.W il _ _ _ _ _ _ _ _ h.r0 h.r1 h.r2 h.r3 hvals
 have hbv : N4 (bOf W il { m with buf := m.buf.set i { e with done := true } } i x).1 := valOf_n4 W hP.W il _ _ _ _ _ _ _ _ h.r0 h.r1 h.r2 h.r3 hvals
 have hdv : N4 (dOf il { m with buf := m.buf.set i { e with done := true } } i x).1 := regOf_n4 il _ _ _ _ _ _ _ h.r0 h.r1 h.r2 h.r3 hvals
 have one : ∀ e1 : Ent, e1.pc = e.pc → EntOk il L e1 → RetOk il m.st.stack m.buf i e1 → Inv win il L (k + 1) { m with st := { m.st with pc := m.st.pc }, buf := m.buf.set i e1 } := fun e1 g1 g2 g3 =>
  h.upd _ _ hf (by rw [List.length_set]; exact Nat.le_refl _) h.pc (h.set i e e1 h0 g1 g2 g3)
 have two : ∀ t : Int, -1 ≤ t ∧ t ≤ il.length → RetOk il m.st.stack m.buf i { e with done := true } → Inv win il L (k + 1) { m with st := { m.st with pc := goesPc (m.buf.set i { e with done := true }) i t m.st.pc }, buf := goesBuf (m.buf.set i { e with done := true }) i t } := fun t ht hr => by
  obtain ⟨g1, g2, g3, g4⟩ := goes_row h i e { e with done := true } h0 rfl hbi hr t ht
  exact h.upd _ _ hf g2 ⟨g3, g4⟩ g1
 have vac : ∀ e1 : Ent, e1.pc = e.pc → x.kind ≠ 9 → RetOk il m.st.stack m.buf i e1 := fun e1 g hk hk9 => absurd (by rw [g, hx] at hk9; exact hk9) hk
 unfold doOut
 simp only
 by_cases k1 : x.kind = 1
 ·rw [if_pos k1]
  exact one _ rfl ⟨hb.pc, doW_n4 _ _ _ _ hP.W, hb.frm, hb.next, fun hk => by rw [hx] at hk; omega⟩ (vac _ rfl (by omega))
 rw [if_neg k1]
 by_cases k4 : x.kind = 4
 ·rw [if_pos k4]
  refine one _ rfl ⟨hb.pc, ?_, hb.frm, hb.next, fun hk => by rw [hx] at hk; omega⟩ (vac _ rfl (by omega))
  show N4 (if _ then _ else _)
  split
  ·exact hdv
  ·exact hbv
 rw [if_neg k4]
 by_cases k3 : x.kind = 3
 ·rw [if_pos k3]
  exact one _ rfl ⟨hb.pc, hdv, hb.frm, hb.next, hb.st⟩ (vac _ rfl (by omega))
 rw [if_neg k3]
 by_cases k2 : x.kind = 2
 ·rw [if_pos k2]
  split
  ·exact one _ rfl ⟨hb.pc, hb.val, hb.frm, hb.next, fun hk => by rw [hx] at hk; omega⟩ (vac _ rfl (by omega))
  ·have hvals2 : ∀ (y0 : Ent), N4 y0.val → ∀ y ∈ m.buf.set i y0, N4 y.val := fun y0 hy0 y hy => by
    rcases List.mem_or_eq_of_mem_set hy with hy | hy
    ·exact (h.ents y hy).val
    ·rw [hy]; exact hy0
   have hl := loadOf_n4 il (m.buf.set i { e with addr := maskW W ((aOf W il { m with buf := m.buf.set i { e with done := true } } i x).1 + (bOf W il { m with buf := m.buf.set i { e with done := true } } i x).1), known := true, done := true }) m.st.mem i (maskW W ((aOf W il { m with buf := m.buf.set i { e with done := true } } i x).1 + (bOf W il { m with buf := m.buf.set i { e with done := true } } i x).1)) (hvals2 _ hb.val) h.mem
   rw [List.length_set] at hl
   have hbl := h.bl
   have hw3 := hP.win
   exact one _ rfl ⟨hb.pc, hl.1, ⟨hl.2.1, Int.le_trans hl.2.2 (by omega)⟩, hb.next, fun hk => by rw [hx] at hk; omega⟩ (vac _ rfl (by omega))
 rw [if_neg k2]
 by_cases k5 : x.kind = 5
 ·rw [if_pos k5]
  refine two _ ?_ (vac _ rfl (by omega))
  split
  ·show -1 ≤ e.pc + 1 ∧ e.pc + 1 ≤ _; omega
  ·have := hio.t; omega
 rw [if_neg k5]
 by_cases k7 : x.kind = 7
 ·rw [if_pos k7]
  refine two _ ?_ (vac _ rfl (by omega))
  have := ha.1
  omega
 rw [if_neg k7]
 have htk : (m.buf.set i { e with done := true }).take i = m.buf.take i := by rw [List.take_set_of_le (Nat.le_refl _)]
 rw [htk]
 have hfl : Inv win il L (k + 1) { m with st := { m.st with pc := m.st.pc }, buf := m.buf.set i { e with done := true, fault := true } } := one _ rfl ⟨hb.pc, hb.val, hb.frm, hb.next, fun _ _ hff => by cases hff⟩ (fun _ _ hff => by cases hff)
 cases hr : realOf il m.st.stack (m.buf.take i) with
 | none => exact hfl
 | some s =>
  simp only
  cases hg : s.getLast? with
  | none => exact hfl
  | some t =>
   simp only
   have hts : t ∈ s := List.mem_of_getLast? hg
   have := realOf_mem hP _ _ _ h.stk hr t hts
   exact two t (by omega) (fun _ _ _ => ⟨s, hr, by rintro rfl; cases hts⟩)
theorem inv_addr {W win : Int} {il : List Inst} {L k : Nat} {m : Conf} (hP : ProgOk W win il) (h : Inv win il L k m) (i : Nat) (hi : i < m.buf.length) (hcan : canAddrOf W il m i = true) : Inv win il L (k + 1) (addrConf W il m i) := by
 have h0 : m.buf[i]? = some m.buf[i] := List.getElem?_eq_getElem hi
 have hcp : m.fin = 0 ∧ (instAt il m.buf[i].pc).kind = 3 := by
  unfold canAddrOf at hcan
  split at hcan
  ·rename_i ho
   unfold openOf at ho
   rw [Int.toNat_natCast, h0] at hcan
   simp only at hcan
   split at hcan
   ·cases hcan
   ·simp only [Bool.and_eq_true, decide_eq_true_eq] at ho
    unfold canAddrIn at hcan
    simp only [Bool.and_eq_true, beq_iff_eq] at hcan
    exact ⟨ho.1.1, hcan.1⟩
  ·cases hcan
 obtain ⟨hf, hk3⟩ := hcp
 unfold addrConf
 rw [h0]
 simp only [Option.getD_some]
 have hb := h.ents m.buf[i] (List.getElem_mem hi)
 generalize m.buf[i] = e at *
 generalize hx : instAt il e.pc = x at *
 unfold addrOut
 simp only
 generalize had : maskW W ((aOf W il m i x).1 + (bOf W il m i x).1) = ad
 have hn : N4 ad := by rw [← had]; exact maskW_n4 _ _ hP.W
 have vac : ∀ e1 : Ent, e1.pc = e.pc → RetOk il m.st.stack m.buf i e1 := fun e1 g hk9 => absurd (by rw [g, hx] at hk9; exact hk9) (by omega)
 split
 ·exact h.upd _ _ hf (by rw [List.length_set]; exact Nat.le_refl _) h.pc (h.set i e _ h0 rfl ⟨hb.pc, hb.val, hb.frm, hb.next, fun _ _ hff => by cases hff⟩ (vac _ rfl))
 ·rename_i hlt
  have hrow := h.set i e { e with addr := ad, known := true } h0 rfl ⟨hb.pc, hb.val, hb.frm, hb.next, fun _ _ _ => ⟨hn.1, by have := h.ml; show ad < (L : Int); omega⟩⟩ (vac _ rfl)
  cases hz : hazOf il (m.buf.set i { e with addr := ad, known := true }) i ad with
  | none => exact h.upd _ _ hf (by rw [List.length_set]; exact Nat.le_refl _) h.pc hrow
  | some j =>
   have hq : ∀ b' : List Ent, RowOk il L m b' → -1 ≤ ((b'[j]?).map Ent.pc).getD 0 ∧ ((b'[j]?).map Ent.pc).getD 0 ≤ il.length := fun b' hrow => by
    cases hj : b'[j]? with
    | none => simp
    | some e2 =>
     obtain ⟨_, _, _, g, _⟩ := hrow j e2 hj
     have := g.pc
     simp only [Option.map_some, Option.getD_some]
     omega
   exact h.upd _ _ hf (by rw [List.length_take, List.length_set]; omega) (hq _ hrow) (hrow.take j)
theorem guesses_pos {win : Int} {il : List Inst} {m : Conf} {g : Int} (h0 : 0 ≤ g) (h : g < guessesOf win il m) : m.fin = 0 ∧ m.st.pc ≠ -1 ∧ (m.buf.length : Int) < win ∧ g ≤ il.length := by
 unfold guessesOf at h
 by_cases hc : m.fin ≠ 0 ∨ m.st.pc = -1 ∨ win ≤ m.buf.length
 ·rw [if_pos hc] at h
  omega
 ·rw [if_neg hc] at h
  refine ⟨by omega, by omega, by omega, ?_⟩
  by_cases h5 : (instAt il m.st.pc).kind = 5
  ·have := (q2D (il := il) (pc := m.st.pc) (by omega))
   rw [if_pos h5] at h
   omega
  ·rw [if_neg h5] at h
   split at h <;> omega
theorem lastTwo_len (l : List Int) : (lastTwo l).length ≤ 2 := by unfold lastTwo; rw [List.length_drop]; omega
theorem lastTwo_mem (l : List Int) (x : Int) (h : x ∈ lastTwo l) : x ∈ l := List.mem_of_mem_drop h
theorem fetchEnt_ok {W win : Int} {il : List Inst} {L k : Nat} {m : Conf} (hP : ProgOk W win il) (h : Inv win il L k m) (g : Int) (hg0 : 0 ≤ g) (hg : g < guessesOf win il m) :
  EntOk il L (fetchEnt il m g).1 ∧ ((instAt il (fetchEnt il m g).1.pc).kind = 9 → (fetchEnt il m g).1.done = false) ∧ (fetchEnt il m g).2.length ≤ 2 ∧ (∀ x ∈ (fetchEnt il m g).2, 0 ≤ x ∧ x ≤ il.length) ∧ (fetchEnt il m g).1.pc = m.st.pc ∧ (fetchEnt il m g).1.known = false := by
 obtain ⟨hf, hpc1, hbl, hgl⟩ := guesses_pos hg0 hg
 have hpc := h.pc
 have hp0 : 0 ≤ m.st.pc := by omega
 have z4 : N4 0 := ⟨by decide, by decide⟩
 unfold fetchEnt
 simp only
 generalize hx : instAt il m.st.pc = x at *
 have hin : x.kind ≠ 12 → m.st.pc < il.length ∧ 0 ≤ x.target ∧ x.target ≤ il.length := fun hk => by
  have := q2D (il := il) (pc := m.st.pc) (by rw [hx]; exact hk)
  rw [hx] at this
  have ht := (hP.ok _ this.2.2).t
  omega
 have mk : ∀ (nx : Int) (d f : Bool), -1 ≤ nx ∧ nx ≤ il.length → EntOk il L ⟨m.st.pc, 0, 0, -1, nx, d, false, f⟩ := fun nx d f hn => ⟨⟨hp0, hpc.2⟩, z4, by show (-1 : Int) ≤ -1 ∧ (-1 : Int) ≤ 1000; omega, hn, fun _ hk => by cases hk⟩
 by_cases k5 : x.kind = 5
 ·have hi := hin (by omega)
  rw [if_pos k5]
  split
  ·exact ⟨mk _ _ _ (by omega), fun _ => rfl, h.rl, h.rsb, rfl, rfl⟩
  ·exact ⟨mk _ _ _ (by omega), fun _ => rfl, h.rl, h.rsb, rfl, rfl⟩
 rw [if_neg k5]
 by_cases k6 : x.kind = 6
 ·have hi := hin (by omega)
  rw [if_pos k6]
  exact ⟨mk _ _ _ (by omega), fun hk => by simp only [hx] at hk; omega, h.rl, h.rsb, rfl, rfl⟩
 rw [if_neg k6]
 by_cases k7 : x.kind = 7
 ·rw [if_pos k7]
  exact ⟨mk _ _ _ (by omega), fun _ => rfl, h.rl, h.rsb, rfl, rfl⟩
 rw [if_neg k7]
 by_cases k9 : x.kind = 9
 ·rw [if_pos k9]
  cases hl : m.rsb.getLast? with
  | none => exact ⟨mk _ _ _ (by omega), fun _ => rfl, h.rl, h.rsb, rfl, rfl⟩
  | some t =>
   have := h.rsb t (List.mem_of_getLast? hl)
   exact ⟨mk _ _ _ (by omega), fun _ => rfl, by have := h.rl; rw [List.length_dropLast]; omega, fun x hx => h.rsb x ((List.dropLast_sublist _).subset hx), rfl, rfl⟩
 rw [if_neg k9]
 by_cases k8 : x.kind = 8
 ·have hi := hin (by omega)
  rw [if_pos k8]
  refine ⟨mk _ _ _ (by omega), fun hk => by simp only [hx] at hk; omega, lastTwo_len _, fun y hy => ?_, rfl, rfl⟩
  rcases List.mem_append.1 (lastTwo_mem _ _ hy) with hy | hy
  ·exact h.rsb y hy
  ·rw [List.mem_singleton] at hy; omega
 rw [if_neg k8]
 by_cases k11 : x.kind = 11 ∨ x.kind = 12
 ·rw [if_pos k11]
  exact ⟨mk _ _ _ (by omega), fun hk => by simp only [hx] at hk; omega, h.rl, h.rsb, rfl, rfl⟩
 ·have hi := hin (by omega)
  rw [if_neg k11]
  exact ⟨mk _ _ _ (by omega), fun _ => rfl, h.rl, h.rsb, rfl, rfl⟩
theorem inv_fetch {W win : Int} {il : List Inst} {L k : Nat} {m : Conf} (hP : ProgOk W win il) (h : Inv win il L k m) (g : Int) (hg0 : 0 ≤ g) (hg : g < guessesOf win il m) : Inv win il L (k + 1) (fetchOf il m g) := by
 obtain ⟨h1, h2, h3, h4, h5, _⟩ := fetchEnt_ok hP h g hg0 hg
 obtain ⟨hf, hpc1, hbl, hgl⟩ := guesses_pos hg0 hg
 unfold fetchOf
 refine ⟨.inl hf, by show ((m.buf ++ _).length : Int) ≤ win; rw [List.length_append, List.length_singleton]; omega, h.r0, h.r1, h.r2, h.r3, h.ml, h.mem, Nat.le_trans h.sl (by omega), h.stk, h3, h4, h1.next, fun e he => ?_, fun j e he => ?_⟩
 ·rcases List.mem_append.1 he with he | he
  ·exact h.ents e he
  ·rw [List.mem_singleton] at he; rw [he]; exact h1
 ·have he : (m.buf ++ [(fetchEnt il m g).1])[j]? = some e := he
  rw [List.getElem?_append] at he
  split at he
  ·rename_i hj
   intro a b c
   obtain ⟨s, hs, hne⟩ := h.rets j e he a b c
   refine ⟨s, ?_, hne⟩
   show realOf il m.st.stack ((m.buf ++ _).take j) = some s
   rw [List.take_append_of_le_length (by omega)]
   exact hs
  ·have : e = (fetchEnt il m g).1 := by
    have := List.mem_of_getElem? he
    rw [List.mem_singleton] at this
    exact this
   subst this
   intro a b
   rw [h2 a] at b
   cases b
theorem q2E {il : List Inst} {m : Conf} (h : canRetOf il m = true) : ∃ e t, m.buf = e :: t ∧ m.fin = 0 ∧ (e.done = true ∨ (instAt il e.pc).kind = 10) ∧ ((instAt il e.pc).kind = 3 → e.known = true) := by
 unfold canRetOf at h
 cases hb : m.buf with
 | nil => rw [hb] at h; cases h
 | cons e t =>
  rw [hb] at h
  simp only [Bool.and_eq_true, decide_eq_true_eq, canRetE, Bool.or_eq_true, beq_iff_eq, bne_iff_ne] at h
  refine ⟨e, t, rfl, h.1, h.2.1, fun hk => ?_⟩
  rcases h.2.2 with g | g
  ·exact absurd hk g
  ·exact g
theorem inv_fit {W win : Int} {il : List Inst} {L k : Nat} {m : Conf} (hP : ProgOk W win il) (h : Inv win il L k m) (hk : k ≤ 900) (hL : L ≤ 1000) : Fit il m := by
 have hbl := h.bl
 have hw := hP.win
 have hlen := hP.len
 refine ⟨by omega, by rw [h.ml]; exact hL, by have := h.sl; omega, by have := h.rl; omega, by have := h.pc; omega, fun e he => ?_, fun hc e t hb => ?_⟩
 ·have := (h.ents e he).frm
  unfold Ent.small
  omega
 ·obtain ⟨e', t', hb', hf, hd, hkn⟩ := q2E hc
  rw [hb] at hb'
  injection hb' with h1 h2
  subst h1 h2
  have hin : e ∈ m.buf := by rw [hb]; exact List.mem_cons_self ..
  have he := h.ents e hin
  refine ⟨fun hff hk3 => ?_, fun hff hk9 => ?_, by have := he.pc; omega, instAt_d hP _⟩
  ·have := he.st hk3 (hkn hk3) hff
   rw [h.ml]
   exact this
  ·have hdone : e.done = true := by
    rcases hd with g | g
    ·exact g
    ·omega
   obtain ⟨s, hs, hne⟩ := h.rets 0 e (by rw [hb]; rfl) hk9 hdone hff
   rw [List.take_zero, realOf] at hs
   injection hs with hs
   rw [hs]
   exact hne
theorem q37 (s : State) (d v : Int) : (setReg s d v).mem = s.mem ∧ (setReg s d v).stack = s.stack ∧ (setReg s d v).pc = s.pc := by
 unfold setReg
 repeat' split
 all_goals exact ⟨rfl, rfl, rfl⟩
theorem setReg_n4 (s : State) (d v : Int) (hv : N4 v) (h0 : N4 s.r0) (h1 : N4 s.r1) (h2 : N4 s.r2) (h3 : N4 s.r3) : N4 (setReg s d v).r0 ∧ N4 (setReg s d v).r1 ∧ N4 (setReg s d v).r2 ∧ N4 (setReg s d v).r3 := by
 unfold setReg
 repeat' split
 all_goals exact ⟨by assumption, by assumption, by assumption, by assumption⟩
theorem inv_ret {W win : Int} {il : List Inst} {L k : Nat} {m : Conf} (hP : ProgOk W win il) (h : Inv win il L k m) (hcan : canRetOf il m = true) : Inv win il L (k + 1) (retireOf il m) := by
 obtain ⟨e, t, hb, hf, hd, hkn⟩ := q2E hcan
 have hin : e ∈ m.buf := by rw [hb]; exact List.mem_cons_self ..
 have he := h.ents e hin
 have hw := hP.win
 have hbl := h.bl
 rw [hb, List.length_cons] at hbl
 unfold retireOf
 rw [hb]
 simp only
 generalize hx : instAt il e.pc = x at *
 have hend : ∀ f : Int, f = 1 ∨ f = 2 → Inv win il L (k + 1) { st := { m.st with pc := e.pc }, buf := [], rsb := [], fin := f } := fun f hf' =>
  ⟨.inr ⟨hf', rfl, rfl⟩, by show ((0 : Nat) : Int) ≤ win; omega, h.r0, h.r1, h.r2, h.r3, h.ml, h.mem, Nat.le_trans h.sl (by omega), h.stk, Nat.zero_le _, fun _ hy => (by cases hy), (by have := he.pc; show -1 ≤ e.pc ∧ e.pc ≤ _; omega), fun _ hy => (by cases hy), fun j _ hy => (by cases j <;> cases hy)⟩
 -- what is left behind it
 have hpop : popEnts (e :: t) = t.map Ent.down := rfl
 have hdown : ∀ a : Ent, a.down.pc = a.pc ∧ a.down.val = a.val ∧ a.down.addr = a.addr ∧ a.down.next = a.next ∧ a.down.done = a.done ∧ a.down.known = a.known ∧ a.down.fault = a.fault ∧ (-1 ≤ a.frm → a.frm ≤ 1000 → -1 ≤ a.down.frm ∧ a.down.frm ≤ 1000) := fun a => by
  unfold Ent.down
  split
  ·exact ⟨rfl, rfl, rfl, rfl, rfl, rfl, rfl, fun _ _ => by show -1 ≤ a.frm - 1 ∧ a.frm - 1 ≤ 1000; omega⟩
  ·exact ⟨rfl, rfl, rfl, rfl, rfl, rfl, rfl, fun _ _ => by omega⟩
 have hok : ∀ a ∈ t.map Ent.down, EntOk il L a := fun a ha => by
  obtain ⟨b, hbm, rfl⟩ := List.mem_map.1 ha
  have g := h.ents b (by rw [hb]; exact List.mem_cons_of_mem _ hbm)
  obtain ⟨d1, d2, d3, d4, d5, d6, d7, d8⟩ := hdown b
  exact ⟨by rw [d1]; exact g.pc, by rw [d2]; exact g.val, d8 g.frm.1 g.frm.2, by rw [d4]; exact g.next, fun a1 a2 a3 => by rw [d3]; exact g.st (by rw [← d1]; exact a1) (by rw [← d6]; exact a2) (by rw [← d7]; exact a3)⟩
 have hrets : ∀ (stack' : List Int), (∀ l s, realOf il m.st.stack (e :: l) = some s → realOf il stack' l = some s) → ∀ (j : Nat) (a : Ent), (t.map Ent.down)[j]? = some a → RetOk il stack' (t.map Ent.down) j a := fun stack' hst j a ha => by
  rw [List.getElem?_map, Option.map_eq_some_iff] at ha
  obtain ⟨b, hbj, rfl⟩ := ha
  obtain ⟨d1, _, _, _, d5, _, d7, _⟩ := hdown b
  intro a1 a2 a3
  obtain ⟨s, hs, hne⟩ := h.rets (j + 1) b (by rw [hb]; exact hbj) (by rw [← d1]; exact a1) (by rw [← d5]; exact a2) (by rw [← d7]; exact a3)
  refine ⟨s, ?_, hne⟩
  rw [hb, List.take_succ_cons] at hs
  have := hst _ _ hs
  rw [← this]
  refine realOf_pc il _ _ _ ?_
  rw [List.map_take, List.map_take, List.map_map]
  congr 1
  exact List.map_congr_left fun b _ => (hdown b).1
 have hlen : ((t.map Ent.down).length : Int) ≤ win := by rw [List.length_map]; omega
 by_cases c1 : e.fault = true ∨ x.kind = 12
 ·rw [if_pos c1]; exact hend 2 (.inr rfl)
 rw [if_neg c1]
 by_cases c2 : x.kind = 11
 ·rw [if_pos c2]; exact hend 1 (.inl rfl)
 rw [if_neg c2, hpop]
 have c12 : x.kind ≠ 12 := fun hh => c1 (.inr hh)
 have hpcin := (q2D (il := il) (pc := e.pc) (by rw [hx]; exact c12))
 by_cases c3 : x.kind = 1 ∨ x.kind = 2 ∨ x.kind = 4
 ·rw [if_pos c3]
  obtain ⟨s1, s2, s3⟩ := q37 m.st x.d e.val
  obtain ⟨n0, n1, n2, n3⟩ := setReg_n4 m.st x.d e.val he.val h.r0 h.r1 h.r2 h.r3
  refine ⟨.inl hf, hlen, n0, n1, n2, n3, by show (setReg m.st x.d e.val).mem.length = L; rw [s1]; exact h.ml, by show ∀ y ∈ (setReg m.st x.d e.val).mem, _; rw [s1]; exact h.mem, by show (setReg m.st x.d e.val).stack.length ≤ k + 1; rw [s2]; have := h.sl; omega, by show ∀ y ∈ (setReg m.st x.d e.val).stack, _; rw [s2]; exact h.stk, h.rl, h.rsb, by show -1 ≤ (setReg m.st x.d e.val).pc ∧ _; rw [s3]; exact h.pc, hok, ?_⟩
  show ∀ (j : Nat) (a : Ent), (t.map Ent.down)[j]? = some a → RetOk il (setReg m.st x.d e.val).stack (t.map Ent.down) j a
  rw [s2]
  exact hrets _ fun l s hs => by
   rw [realOf, hx, if_neg (by omega), if_neg (by omega)] at hs
   exact hs
 rw [if_neg c3]
 by_cases c4 : x.kind = 3
 ·rw [if_pos c4]
  refine ⟨.inl hf, hlen, h.r0, h.r1, h.r2, h.r3, by show (m.st.mem.set _ _).length = L; rw [List.length_set]; exact h.ml, fun y hy => ?_, Nat.le_trans h.sl (by omega), h.stk, h.rl, h.rsb, h.pc, hok, ?_⟩
  ·rcases List.mem_or_eq_of_mem_set hy with hy | hy
   ·exact h.mem y hy
   ·rw [hy]; exact he.val
  ·exact hrets _ fun l s hs => by
    rw [realOf, hx, if_neg (by omega), if_neg (by omega)] at hs
    exact hs
 rw [if_neg c4]
 by_cases c5 : x.kind = 8
 ·rw [if_pos c5]
  refine ⟨.inl hf, hlen, h.r0, h.r1, h.r2, h.r3, h.ml, h.mem, by show (m.st.stack ++ _).length ≤ k + 1; rw [List.length_append, List.length_singleton]; have := h.sl; omega, fun y hy => ?_, h.rl, h.rsb, h.pc, hok, ?_⟩
  ·rcases List.mem_append.1 hy with hy | hy
   ·exact h.stk y hy
   ·rw [List.mem_singleton] at hy; rw [hy]; omega
  ·exact hrets _ fun l s hs => by
    rw [realOf, hx, if_pos c5] at hs
    split at hs
    ·cases hs
    ·exact hs
 rw [if_neg c5]
 by_cases c6 : x.kind = 9
 ·rw [if_pos c6]
  refine ⟨.inl hf, hlen, h.r0, h.r1, h.r2, h.r3, h.ml, h.mem, by show m.st.stack.dropLast.length ≤ k + 1; rw [List.length_dropLast]; have := h.sl; omega, fun y hy => h.stk y ((List.dropLast_sublist _).subset hy), h.rl, h.rsb, h.pc, hok, ?_⟩
  exact hrets _ fun l s hs => by
   rw [realOf, hx, if_neg (by omega), if_pos c6] at hs
   split at hs
   ·cases hs
   ·rw [List.dropLast_eq_take]
    exact hs
 rw [if_neg c6]
 refine ⟨.inl hf, hlen, h.r0, h.r1, h.r2, h.r3, h.ml, h.mem, Nat.le_trans h.sl (by omega), h.stk, h.rl, h.rsb, h.pc, hok, ?_⟩
 exact hrets _ fun l s hs => by
  rw [realOf, hx, if_neg (by omega), if_neg (by omega)] at hs
  exact hs
theorem inv_step {W win : Int} {il : List Inst} {L k : Nat} {m : Conf} (hP : ProgOk W win il) (h : Inv win il L k m) (d : Dir) (hd : d ∈ allOf W win il m) : Inv win il L (k + 1) (stepOf W il m d) := by
 unfold allOf at hd
 rw [List.mem_append, List.mem_append, List.mem_append, q20, q20, q20] at hd
 unfold stepOf
 rcases hd with ((⟨i, hi, _, rfl⟩ | ⟨i, hi, hc, rfl⟩) | ⟨i, hi, hc, rfl⟩) | hc
 ·simp only [if_true]
  exact inv_fetch hP h i (by omega) (by have := (guesses_bounds win il m).1; omega)
 ·simp only [show ¬ ((2 : Int) = 1) by omega, if_false, if_true, Int.toNat_natCast]
  exact inv_do hP h i hi hc
 ·simp only [show ¬ ((3 : Int) = 1) by omega, show ¬ ((3 : Int) = 2) by omega, if_false, if_true, Int.toNat_natCast]
  exact inv_addr hP h i hi hc
 ·split at hc
  ·rename_i hr
   rw [List.mem_singleton] at hc
   subst hc
   simp only [show ¬ ((4 : Int) = 1) by omega, show ¬ ((4 : Int) = 2) by omega, show ¬ ((4 : Int) = 3) by omega, if_false]
   exact inv_ret hP h hr
  ·cases hc
end
end Go.Proofs.Ytchldbkjapnlcaa
