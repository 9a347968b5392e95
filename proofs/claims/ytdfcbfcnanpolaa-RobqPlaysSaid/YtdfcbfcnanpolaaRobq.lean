/- robq.Pop, Cut, Put: what each answers, as rows of entries. -/
import Derived.Test.YtdfcbfcnanpolaaPush
namespace Go.Proofs.Ytdfcbfcnanpolaa
open Go.RowKit

def Ent.down (e : Ent) : Ent := if 0 ≤ e.frm then { e with frm := e.frm - 1 } else e
def popEnts (l : List Ent) : List Ent := l.tail.map Ent.down
def Ent.zero : Ent := ⟨0, 0, 0, 0, 0, false, false, false⟩
/-- Each number of an entry is an int64. -/
def Ent.small (e : Ent) : Prop := -9223372036854775808 ≤ e.frm ∧ e.frm ≤ 9223372036854775807

theorem cut_ent_from {w : World} {A : Option Addr} {l : List Ent} (h : RdE w A l) {c : Nat} (hc : l.length ≤ c) (k : Nat) (hk : k ≤ l.length) :
    ∃ A1, (∀ w1, (Instr.slice 23 (.slice A l.length c) (some (.int .i64 (k : Int))) none none).run Try.prog w1 = .ok (.slice A1 (l.length - k) (c - k)) w1) ∧ RdE w A1 (l.drop k) := by
  obtain ⟨i, hi, _, hs, _⟩ := info_parts info_ent
  refine ⟨if c = k then A else A.map (·.add (k * 8)), fun w1 => ?_, h.from_ hk hc⟩
  have := run_cut_from (P := Try.prog) 23 27 i 8 hs Try.underlying23 hi A l.length c (k : Int) (by omega) (by omega) w1
  simpa using this
theorem cut_ent_to {w : World} {A : Option Addr} {l : List Ent} (h : RdE w A l) {c : Nat} (hc : l.length ≤ c) (k : Nat) (hk : k ≤ l.length) :
    (∀ w1, (Instr.slice 23 (.slice A l.length c) none (some (.int .i64 (k : Int))) none).run Try.prog w1 = .ok (.slice A k c) w1) ∧ RdE w A (l.take k) := by
  obtain ⟨i, hi, _, hs, _⟩ := info_parts info_ent
  refine ⟨fun w1 => ?_, h.to hk⟩
  have := run_cut_to (P := Try.prog) 23 27 i Try.underlying23 hi A l.length c (k : Int) (by omega) (by omega) hc w1
  simpa using this

set_option maxHeartbeats 400000 in
theorem pop_none (A : Option Addr) (c : Nat) (w : World) :
    Calls Try.prog 14 #[.slice A 0 c] w fun e w' => e = .returned (.tuple #[Ent.zero.v, .slice none 0 0, .bool false]) ∧ Below w.heap.size w w' := by
  go_enter Try.func14, Try.ntmps14
  go_wp2_with fail
  exact at_ret _ [Ent.zero.v, .slice none 0 0, .bool false] Try.results14 (.cons (.cell (cs := Ent.zero.cs) rfl rfl (cells_of_block (heap_alloc_new w _)) Try.underlying27 rfl (by kernel_rfl)) (.cons (.tmp rfl) (.cons (.tmp rfl) .nil))) rfl ⟨rfl, by go_grown⟩

/-- Entries where each From is an int64. -/
def Small (l : List Ent) : Prop := ∀ e ∈ l, e.small

/-- An entry lies there. -/
def EntAt (w : World) (b o : Nat) (e : Ent) : Prop :=
  w.cell? ⟨b, o, none⟩ = some (.int .i64 e.pc) ∧ w.cell? ⟨b, o + 1, none⟩ = some (.int .i64 e.val) ∧ w.cell? ⟨b, o + 2, none⟩ = some (.int .i64 e.addr) ∧ w.cell? ⟨b, o + 3, none⟩ = some (.int .i64 e.frm) ∧
  w.cell? ⟨b, o + 4, none⟩ = some (.int .i64 e.next) ∧ w.cell? ⟨b, o + 5, none⟩ = some (.bool e.done) ∧ w.cell? ⟨b, o + 6, none⟩ = some (.bool e.known) ∧ w.cell? ⟨b, o + 7, none⟩ = some (.bool e.fault)
theorem EntAt.of_cells {w : World} {b o : Nat} {e : Ent} (h : ∀ j u, j < 8 → e.cs[j]? = some u → w.cell? ⟨b, o + j, none⟩ = some u) : EntAt w b o e :=
  ⟨h 0 _ (by omega) rfl, h 1 _ (by omega) rfl, h 2 _ (by omega) rfl, h 3 _ (by omega) rfl, h 4 _ (by omega) rfl, h 5 _ (by omega) rfl, h 6 _ (by omega) rfl, h 7 _ (by omega) rfl⟩

theorem RdE.elem {w : World} {A : Option Addr} {l : List Ent} (h : RdE w A l) {k : Nat} (hk : k < l.length) : ∃ b o, A = some ⟨b, o, none⟩ ∧ b < w.heap.size ∧ EntAt w b (o + k * 8) l[k] := by
  obtain ⟨b, o, e, hb, h⟩ := h.at_ hk
  exact ⟨b, o, e, hb, h⟩
theorem RdE.head {w : World} {A : Option Addr} {e : Ent} {l : List Ent} (h : RdE w A (e :: l)) : ∃ b o, A = some ⟨b, o, none⟩ ∧ b < w.heap.size ∧ EntAt w b o e := by
  obtain ⟨b, o, e, hb, h⟩ := h.elem (k := 0) (by simp)
  exact ⟨b, o, e, hb, by simpa using h⟩
/-- The eight cells of an entry may be stored into. -/
def FreeAt (w : World) (b o : Nat) : Prop :=
  w.frozen? ⟨b, o, none⟩ = false ∧ w.frozen? ⟨b, o + 1, none⟩ = false ∧ w.frozen? ⟨b, o + 2, none⟩ = false ∧ w.frozen? ⟨b, o + 3, none⟩ = false ∧ w.frozen? ⟨b, o + 4, none⟩ = false ∧ w.frozen? ⟨b, o + 5, none⟩ = false ∧ w.frozen? ⟨b, o + 6, none⟩ = false ∧ w.frozen? ⟨b, o + 7, none⟩ = false
theorem FreeAt.of_all {w : World} {b : Nat} (h : ∀ j, w.frozen? ⟨b, j, none⟩ = false) (o : Nat) : FreeAt w b o := ⟨h _, h _, h _, h _, h _, h _, h _, h _⟩
theorem FreeAt.of_block {w : World} {g : Nat} {t : TypeId} {cs : Array Value} (h : w.heap[g]? = some (.cells cs t (0, 0))) (o : Nat) : FreeAt w g o := FreeAt.of_all (fun j => frozen_of_row w g j cs t h) o
theorem grown_setCell (w : World) (p : Addr) (u : Value) : w.grownBy (w.setCell p u) (some p.block) := ⟨rfl, rfl, rfl, by simp [World.setCell], fun k _ hk => heap_setCell_other w p k u (fun e => hk (by rw [e]))⟩
theorem own_far {w : World} {base : Nat} {e : TypeId} {size : Nat} {v : Value} {n : Nat} {xs : List Value} (h : w.ownsRow base e size v n xs) {p : Addr} (hp : p.block < base) (u : Value) : (w.setCell p u).ownsRow base e size v n xs :=
  h.kept (grown_setCell w p u) (by
    cases hv : v.ownBlock with
    | none => exact .inl rfl
    | some g => exact .inr (fun e => by injection e with e; have := (h.lt g hv).1; omega))
theorem OwnE.far {w : World} {B : Nat} {v : Value} {l : List Ent} (h : OwnE w B v l) {p : Addr} (hp : p.block < B) (u : Value) : OwnE (w.setCell p u) B v l := own_far h hp u
theorem OwnI.far {w : World} {B : Nat} {v : Value} {l : List Int} (h : OwnI w B v l) {p : Addr} (hp : p.block < B) (u : Value) : OwnI (w.setCell p u) B v l := own_far h hp u
/-- An entry stored over another one in a block of its own. -/
theorem box_set {w : World} {g : Nat} {t : TypeId} (old e : Ent) (h : w.heap[g]? = some (.cells old.cs.toArray t (0, 0))) :
    ((((((((w.setCell ⟨g, 0, none⟩ (.int .i64 e.pc)).setCell ⟨g, 1, none⟩ (.int .i64 e.val)).setCell ⟨g, 2, none⟩ (.int .i64 e.addr)).setCell ⟨g, 3, none⟩ (.int .i64 e.frm)).setCell ⟨g, 4, none⟩ (.int .i64 e.next)).setCell ⟨g, 5, none⟩ (.bool e.done)).setCell ⟨g, 6, none⟩ (.bool e.known)).setCell ⟨g, 7, none⟩ (.bool e.fault)).heap[g]? =
      some (.cells e.cs.toArray t (0, 0)) := by
  rw [heap_setCell_same _ g 7 _ t _ (heap_setCell_same _ g 6 _ t _ (heap_setCell_same _ g 5 _ t _ (heap_setCell_same _ g 4 _ t _ (heap_setCell_same _ g 3 _ t _ (heap_setCell_same _ g 2 _ t _ (heap_setCell_same _ g 1 _ t _ (heap_setCell_same _ g 0 _ t _ h)))))))]
  simp [Ent.cs]

/-- An element of an own row of entries: its cells, that it may be stored into. -/
theorem OwnE.elem {w : World} {B : Nat} {A : Option Addr} {n c : Nat} {l : List Ent} (h : OwnE w B (.slice A n c) l) {k : Nat} (hk : k < l.length) :
    ∃ g, A = some ⟨g, 0, none⟩ ∧ B ≤ g ∧ g < w.heap.size ∧ EntAt w g (k * 8) l[k] ∧ ∀ j, w.frozen? ⟨g, j, none⟩ = false := by
  have hn : n = l.length := by
    rcases h.2 with ⟨hv, h0⟩ | ⟨g, cap, cur, hv, _⟩
    · simp at hv; omega
    · simp at hv; omega
  subst hn
  obtain ⟨g, cap, hv, hb, hlt⟩ := h.form (by omega)
  simp only [Value.slice.injEq, true_and] at hv
  obtain ⟨rfl, rfl⟩ := hv
  refine ⟨g, rfl, hb, hlt, EntAt.of_cells fun j u hj hu => ?_, fun j => h.frozenAt j⟩
  rw [h.cellAt (k * 8 + j) (by omega), entCs_get l k hk j hj, hu]

theorem entCs_set (l : List Ent) (k : Nat) (hk : k < l.length) (j : Nat) (hj : j < 8) (u : Value) (e' : Ent) (he : e'.cs = l[k].cs.set j u) : (entCs l).set (k * 8 + j) u = entCs (l.set k e') := by
  induction l generalizing k with
  | nil => simp at hk
  | cons e l ih =>
    cases k with
    | zero =>
      simp only [List.getElem_cons_zero] at he
      simp only [entCs, List.flatMap_cons, List.set_cons_zero, Nat.zero_mul, Nat.zero_add]
      rw [List.set_append_left _ _ (by rw [Ent.cs_length]; omega), he]
    | succ k =>
      simp only [List.getElem_cons_succ] at he
      simp only [entCs, List.flatMap_cons, List.set_cons_succ]
      rw [List.set_append_right _ _ (by rw [Ent.cs_length]; omega), Ent.cs_length, show (k + 1) * 8 + j - 8 = k * 8 + j by omega]
      have := ih k (by simpa using hk) he
      simp only [entCs] at this
      rw [this]
theorem OwnE.setAt {w : World} {B g n c : Nat} {l : List Ent} (h : OwnE w B (.slice (some ⟨g, 0, none⟩) n c) l) (hn : n = l.length) {k : Nat} (hk : k < l.length) {j : Nat} (hj : j < 8) {u : Value} {e' : Ent} (he : e'.cs = l[k].cs.set j u) :
    OwnE (w.setCell ⟨g, k * 8 + j, none⟩ u) B (.slice (some ⟨g, 0, none⟩) n c) (l.set k e') := by
  subst hn
  unfold OwnE at h ⊢
  rw [List.length_set, ← entCs_set l k hk j hj u e' he]
  exact (h.stored (k * 8 + j) u).1
theorem downs_step (l : List Ent) (k : Nat) (hk : k < l.length) : ((l.take k).map Ent.down ++ l.drop k).set k l[k].down = (l.take (k + 1)).map Ent.down ++ l.drop (k + 1) := by
  rw [List.set_append_right _ _ (by simp only [List.length_map, List.length_take]; omega)]
  have : k - ((l.take k).map Ent.down).length = 0 := by simp only [List.length_map, List.length_take]; omega
  rw [this, List.drop_eq_getElem_cons hk, List.set_cons_zero, List.take_succ_eq_append_getElem hk, List.map_append, List.append_assoc]
  rfl

set_option maxRecDepth 100000 in
set_option maxHeartbeats 1000000 in
theorem pop_some (A : Option Addr) (c : Nat) (e : Ent) (l : List Ent) (w : World) (hr : RdE w A (e :: l)) (hc : l.length + 1 ≤ c) (hn : l.length < 1000000) (hs : Small l) :
    Calls Try.prog 14 #[.slice A (l.length + 1) c] w fun en w' => ∃ v, en = .returned (.tuple #[e.v, v, .bool true]) ∧ OwnE w' w.heap.size v (l.map Ent.down) ∧ Below w.heap.size w w' := by
  obtain ⟨A1, hcut, hr1⟩ := cut_ent_from hr hc 1 (by simp)
  have hcut : ∀ w1, (Instr.slice 23 (.slice A (l.length + 1) c) (some (.int .i64 1)) none none).run Try.prog w1 = .ok (.slice A1 l.length (c - 1)) w1 := hcut
  simp only [List.drop_succ_cons, List.drop_zero] at hr1
  have HR := Kept.mk hr
  have HR1 := Kept.mk hr1
  have HS := Kept.mk hs
  clear hr hr1 hs
  go_enter Try.func14, Try.ntmps14
  go_wp2_with fail
  refine (clone_ent A1 (c - 1) l _ (HR1.out.past (below_alloc_self w _)) (by omega)).mono ?_
  rintro en w1 ⟨v, rfl, h1, h2⟩
  obtain ⟨A2, c2, rfl, hc2, -⟩ := h1.shape
  have HB := Kept.mk (h2.mono (show w.heap.size + 1 ≤ _ by simp))
  have H1 := Kept.mk (h1.lower (show w.heap.size + 1 ≤ _ by simp))
  clear h1 h2 hcut HR1
  go_wp2_with fail
  go_loopw [17] (fun i wr => ∃ k : Nat, k ≤ l.length ∧ i = .int .i64 k ∧ OwnE wr (w.heap.size + 1) (.slice A2 l.length c2) ((l.take k).map Ent.down ++ l.drop k) ∧ Below (w.heap.size + 1) (w.alloc (.cells Ent.zero.cs.toArray 27)) wr) (fun i _ => l.length - (intOf i).toNat)
  case atStart => exact ⟨0, Nat.zero_le _, rfl, by simpa using H1.out, HB.out⟩
  case round =>
    obtain ⟨k, hk, rfl, ho, hb⟩ := hrel
    by_cases hlt : k < l.length
    · have hlen : k < ((l.take k).map Ent.down ++ l.drop k).length := by
        simp only [List.length_append, List.length_map, List.length_take, List.length_drop]; omega
      have hcur : ((l.take k).map Ent.down ++ l.drop k)[k]'hlen = l[k] := by
        rw [List.getElem_append_right (by simp only [List.length_map, List.length_take]; omega)]
        simp [Nat.min_eq_left hk]
      obtain ⟨g, rfl, hg1, hg2, hcell, hfz⟩ := ho.elem hlen
      rw [hcur] at hcell
      obtain ⟨q0, q1, q2, q3, q4, q5, q6, q7⟩ := hcell
      have HO := Kept.mk ho
      have HB2 := Kept.mk hb
      have hf3 := hfz (k * 8 + 3)
      have hsm := HS.out l[k] (List.getElem_mem hlt)
      have hsm1 : l[k].frm ≤ 9223372036854775807 := hsm.2
      clear ho hb hfz hsm
      have hcur2 : ((l.take k).map Ent.down ++ l.drop k)[k]'hlen = l[k] := hcur
      have HC := Kept.mk hcur2
      clear hcur hcur2
      by_cases hf : 0 ≤ l[k].frm
      · go_wp2_with fail
        refine ⟨⟨k + 1, by omega, by go_num, ?_, ?_⟩, by simp [intOf]; omega⟩
        · have hd : l[k].down.cs = l[k].cs.set 3 (.int .i64 (l[k].frm - 1)) := by simp [Ent.down, hf, Ent.cs]
          have := HO.out.setAt (by simp only [List.length_append, List.length_map, List.length_take, List.length_drop]; omega) hlen (j := 3) (by omega) (u := .int .i64 (l[k].frm - 1)) (e' := l[k].down) (by rw [HC.out]; exact hd)
          rw [downs_step l k hlt] at this
          exact this.past (below_alloc_self _ _)
        · exact (HB2.out.setCell (p := ⟨g, k * 8 + 3, Option.none⟩) (by simpa using hg1) _).alloc (by have := HB2.out.size; simp at this ⊢; omega) _
      · go_wp2_with fail
        refine ⟨⟨k + 1, by omega, by go_num, ?_, ?_⟩, by simp [intOf]; omega⟩
        · have hd : l[k].down = l[k] := by simp [Ent.down, hf]
          have e1 := downs_step l k hlt
          rw [hd] at e1
          have e2 : ((l.take k).map Ent.down ++ l.drop k).set k l[k] = (l.take k).map Ent.down ++ l.drop k := by
            have := HC.out
            conv => lhs; rw [← this]
            exact List.set_getElem_self hlen
          rw [← e1, e2]
          exact HO.out.past (below_alloc_self _ _)
        · exact HB2.out.alloc (by have := HB2.out.size; simp at this ⊢; omega) _
    · have hke : k = l.length := by omega
      have HO := Kept.mk ho
      have HB2 := Kept.mk hb
      clear ho hb
      have hbox : wr.heap[w.heap.size]? = some (.cells Ent.zero.cs.toArray 27 (0, 0)) := (HB2.out.block _ (by omega)).trans (heap_alloc_new w _)
      obtain ⟨f0, f1, f2, f3, f4, f5, f6, f7⟩ := FreeAt.of_block hbox 0
      obtain ⟨z0, z1, z2, z3, z4, z5, z6, z7⟩ := EntAt.of_cells (e := Ent.zero) (fun j u _ hu => cells_of_block (cs := Ent.zero.cs) hbox j u hu)
      obtain ⟨b, o, rfl, hlt0, e0, e1, e2, e3, e4, e5, e6, e7⟩ := ((HR.out.past (below_alloc_self w (.cells Ent.zero.cs.toArray 27))).past (HB2.out.mono (by simp))).head
      have HX := Kept.mk hbox
      clear hbox
      simp only [Nat.zero_add] at f0 f1 f2 f3 f4 f5 f6 f7 z0 z1 z2 z3 z4 z5 z6 z7
      go_wp2_with fail
      refine at_ret _ [e.v, .slice A2 l.length c2, .bool true] Try.results14 (.cons (.cell (cs := e.cs) (b := w.heap.size) (off := 0) rfl rfl (cells_of_block (box_set Ent.zero e HX.out)) Try.underlying27 rfl (by kernel_rfl)) (.cons (.tmp rfl) (.cons (.tmp rfl) .nil))) rfl ⟨_, rfl, ?_, ?_⟩
      · have h := HO.out
        rw [hke, List.take_length, List.drop_length, List.append_nil] at h
        refine OwnE.lower (B := w.heap.size + 1) ?_ (by omega)
        have hm : l.length = (l.map Ent.down).length := by simp
        rw [hm] at h ⊢
        iterate 8 refine OwnE.far ?_ (by simp) _
        exact h
      · iterate 8 refine Below.setCell ?_ (by simp) _
        exact (below_alloc_self w _).trans (HB2.out.mono (by omega))
end Go.Proofs.Ytdfcbfcnanpolaa
