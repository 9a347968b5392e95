/- robq.Cut, Put; the document's SameEnts and Pop. -/
import Derived.Test.YtdfcbfcnanpolaaRobq
namespace Go.Proofs.Ytdfcbfcnanpolaa
open Go.RowKit

set_option maxHeartbeats 400000 in
theorem cut_any (A : Option Addr) (c : Nat) (l : List Ent) (n : Int) (w : World) (hr : RdE w A l) (hc : l.length ≤ c) (hn : l.length ≤ 1000000) :
    Calls Try.prog 16 #[.slice A l.length c, .int .i64 n] w (GivesE w (l.take n.toNat)) := by
  have HR := Kept.mk hr
  clear hr
  have fin : ∀ k : Nat, k ≤ l.length → l.take n.toNat = l.take k → Calls Try.prog 33 #[.slice A k c] w (GivesE w (l.take n.toNat)) := by
    intro k hk he
    rw [he]
    exact clone_ent_at A k c (l.take k) w (by simp [hk]) (HR.out.to hk) (by omega)
  by_cases h1 : n < 0
  · have f := fin 0 (by omega) (by simp [show n.toNat = 0 by omega])
    clear fin
    go_enter Try.func16, Try.ntmps16
    go_wp2_with fail
    refine f.mono ?_
    rintro en w1 ⟨v, rfl, h1, h2⟩
    go_wp2_with fail
    go_ret
    exact ⟨v, rfl, h1, h2⟩
  · by_cases h2 : (l.length : Int) < n
    · have f := fin l.length (by omega) (by rw [List.take_of_length_le (by omega), List.take_length])
      clear fin
      go_enter Try.func16, Try.ntmps16
      go_wp2_with fail
      refine f.mono ?_
      rintro en w1 ⟨v, rfl, h1, h2⟩
      go_wp2_with fail
      go_ret
      exact ⟨v, rfl, h1, h2⟩
    · have f := fin n.toNat (by omega) rfl
      clear fin
      go_enter Try.func16, Try.ntmps16
      go_wp2_with fail
      refine f.mono ?_
      rintro en w1 ⟨v, rfl, h1, h2⟩
      go_wp2_with fail
      go_ret
      exact ⟨v, rfl, h1, h2⟩

set_option maxHeartbeats 400000 in
theorem put_no (A : Option Addr) (c : Nat) (l : List Ent) (i : Int) (e : Ent) (w : World) (hi : i < 0 ∨ (l.length : Int) ≤ i) :
    Calls Try.prog 17 #[.slice A l.length c, .int .i64 i, e.v] w fun en w' => en = .returned (.tuple #[.slice none 0 0, .bool false]) ∧ Below w.heap.size w w' := by
  by_cases h : i < 0
  · go_enter Try.func17, Try.ntmps17
    go_wp2_with fail
    go_ret2
    exact ⟨rfl, by go_grown⟩
  · have h2 : (l.length : Int) ≤ i := by omega
    go_enter Try.func17, Try.ntmps17
    go_wp2_with fail
    go_ret2
    exact ⟨rfl, by go_grown⟩

theorem OwnE.setNext {w : World} {B g n c : Nat} {l : List Ent} {k : Nat} (hn : n = l.length) (hk : k < l.length) {e1 e2 : Ent} {j : Nat} {u : Value} (h : OwnE w B (.slice (some ⟨g, 0, none⟩) n c) (l.set k e1)) (hj : j < 8) (he : e2.cs = e1.cs.set j u) :
    OwnE (w.setCell ⟨g, k * 8 + j, none⟩ u) B (.slice (some ⟨g, 0, none⟩) n c) (l.set k e2) := by
  have := h.setAt (by rw [List.length_set]; exact hn) (k := k) (by rw [List.length_set]; exact hk) hj (u := u) (e' := e2) (by rw [List.getElem_set_self]; exact he)
  rwa [List.set_set] at this
/-- An entry stored over element k of an own row. -/
theorem OwnE.put8 {w : World} {B g n c : Nat} {l : List Ent} (h : OwnE w B (.slice (some ⟨g, 0, none⟩) n c) l) (hn : n = l.length) {k : Nat} (hk : k < l.length) (e : Ent) :
    OwnE ((((((((w.setCell ⟨g, k * 8, none⟩ (.int .i64 e.pc)).setCell ⟨g, k * 8 + 1, none⟩ (.int .i64 e.val)).setCell ⟨g, k * 8 + 2, none⟩ (.int .i64 e.addr)).setCell ⟨g, k * 8 + 3, none⟩ (.int .i64 e.frm)).setCell ⟨g, k * 8 + 4, none⟩ (.int .i64 e.next)).setCell ⟨g, k * 8 + 5, none⟩ (.bool e.done)).setCell
      ⟨g, k * 8 + 6, none⟩ (.bool e.known)).setCell ⟨g, k * 8 + 7, none⟩ (.bool e.fault)) B (.slice (some ⟨g, 0, none⟩) n c) (l.set k e) := by
  have h0 : OwnE w B (.slice (some ⟨g, 0, none⟩) n c) (l.set k l[k]) := by rw [List.set_getElem_self hk]; exact h
  have h1 := OwnE.setNext hn hk (e2 := { l[k] with pc := e.pc }) h0 (j := 0) (u := .int .i64 e.pc) (by omega) rfl
  have h2 := OwnE.setNext hn hk (e2 := { l[k] with pc := e.pc, val := e.val }) h1 (j := 1) (u := .int .i64 e.val) (by omega) rfl
  have h3 := OwnE.setNext hn hk (e2 := { l[k] with pc := e.pc, val := e.val, addr := e.addr }) h2 (j := 2) (u := .int .i64 e.addr) (by omega) rfl
  have h4 := OwnE.setNext hn hk (e2 := { l[k] with pc := e.pc, val := e.val, addr := e.addr, frm := e.frm }) h3 (j := 3) (u := .int .i64 e.frm) (by omega) rfl
  have h5 := OwnE.setNext hn hk (e2 := { l[k] with pc := e.pc, val := e.val, addr := e.addr, frm := e.frm, next := e.next }) h4 (j := 4) (u := .int .i64 e.next) (by omega) rfl
  have h6 := OwnE.setNext hn hk (e2 := { l[k] with pc := e.pc, val := e.val, addr := e.addr, frm := e.frm, next := e.next, done := e.done }) h5 (j := 5) (u := .bool e.done) (by omega) rfl
  have h7 := OwnE.setNext hn hk (e2 := { l[k] with pc := e.pc, val := e.val, addr := e.addr, frm := e.frm, next := e.next, done := e.done, known := e.known }) h6 (j := 6) (u := .bool e.known) (by omega) rfl
  have h8 := OwnE.setNext hn hk (e2 := e) h7 (j := 7) (u := .bool e.fault) (by omega) rfl
  exact h8

set_option maxHeartbeats 800000 in
theorem put_yes (A : Option Addr) (c : Nat) (l : List Ent) (k : Nat) (e : Ent) (w : World) (hr : RdE w A l) (hk : k < l.length) (hn : l.length ≤ 1000000) :
    Calls Try.prog 17 #[.slice A l.length c, .int .i64 k, e.v] w (GivesE2 w (l.set k e)) := by
  have HR := Kept.mk hr
  clear hr
  go_enter Try.func17, Try.ntmps17
  go_wp2_with fail
  refine (clone_ent A c l _ (HR.out.past (below_alloc_self w _)) hn).mono ?_
  rintro en w1 ⟨v, rfl, h1, h2⟩
  obtain ⟨A2, c2, rfl, hc2, -⟩ := h1.shape
  obtain ⟨g, rfl, hg1, hg2, ⟨q0, q1, q2, q3, q4, q5, q6, q7⟩, hfa⟩ := h1.elem hk
  have hfz := FreeAt.of_all hfa (k * 8)
  clear hfa
  obtain ⟨f0, f1, f2, f3, f4, f5, f6, f7⟩ := hfz
  have hb := h2.mono (show w.heap.size + 1 ≤ _ by simp)
  have hbox : w1.heap[w.heap.size]? = some (.cells e.cs.toArray 27 (0, 0)) := (h2.block _ (by simp)).trans (heap_alloc_new w _)
  obtain ⟨z0, z1, z2, z3, z4, z5, z6, z7⟩ := EntAt.of_cells (e := e) (fun j u _ hu => cells_of_block (cs := e.cs) hbox j u hu)
  simp only [Nat.zero_add] at z0 z1 z2 z3 z4 z5 z6 z7
  have hgB : w.heap.size ≤ g := by simp at hg1; omega
  have HB := Kept.mk hb
  have H1 := Kept.mk h1
  clear h1 h2 hb hbox
  go_wp2_with fail
  go_ret2
  refine ⟨_, rfl, ?_, ?_⟩
  · have := H1.out.put8 rfl hk e
    unfold OwnE
    rw [List.length_set]
    unfold OwnE at this
    rw [List.length_set] at this
    exact own_lower this (by simp)
  · iterate 8 refine Below.setCell ?_ (by exact hgB) _
    exact (below_alloc_self w _).trans (HB.out.mono (by omega))

theorem pop_at (A : Option Addr) (c : Nat) (l : List Ent) (w : World) (hpos : 0 < l.length) (hr : RdE w A l) (hc : l.length ≤ c) (hn : l.length ≤ 1000000) (hs : Small l) :
    Calls Try.prog 14 #[.slice A l.length c] w fun en w' => ∃ v, en = .returned (.tuple #[l[0].v, v, .bool true]) ∧ OwnE w' w.heap.size v (popEnts l) ∧ Below w.heap.size w w' := by
  cases l with
  | nil => simp at hpos
  | cons e l =>
    have := pop_some A c e l w hr (by simpa using hc) (by simp at hn; omega) (fun x hx => hs x (List.mem_cons_of_mem _ hx))
    simpa [popEnts] using this
theorem popEnts_length (l : List Ent) : (popEnts l).length = l.length - 1 := by simp [popEnts]
theorem cut_any_at (A : Option Addr) (m c : Nat) (l : List Ent) (n : Int) (w : World) (hl : l.length = m) (hr : RdE w A l) (hc : m ≤ c) (hn : m ≤ 1000000) :
    Calls Try.prog 16 #[.slice A m c, .int .i64 n] w (GivesE w (l.take n.toNat)) := by
  subst hl
  exact cut_any A c l n w hr hc hn

/-! ### The document's -/
theorem run_neq_ent (a b : Ent) (w : World) : (binOp .neq 27 a.v b.v).run Try.prog w = .ok (.bool (!decide (a = b))) w := by
  have : (!decide (a = b)) = !(a.pc == b.pc && (a.val == b.val && (a.addr == b.addr && (a.frm == b.frm && (a.next == b.next && (a.done == b.done && (a.known == b.known && a.fault == b.fault))))))) := by
    congr 1
    rw [Bool.eq_iff_iff]
    obtain ⟨a0, a1, a2, a3, a4, a5, a6, a7⟩ := a
    obtain ⟨b0, b1, b2, b3, b4, b5, b6, b7⟩ := b
    simp [Ent.mk.injEq]
  rw [this]
  unfold Ent.v
  simp [go_sem]
  repeat' split
  all_goals simp_all
theorem take_step {α : Type} [DecidableEq α] {l m : List α} {k : Nat} (hl : k < l.length) (hm : k < m.length) (h : l.take k = m.take k) : l.take (k + 1) = m.take (k + 1) ↔ l[k] = m[k] := by
  rw [List.take_succ_eq_append_getElem hl, List.take_succ_eq_append_getElem hm, h]
  constructor
  · intro he
    have := List.append_cancel_left he
    simpa using this
  · intro he
    rw [he]
theorem take_ne {α : Type} {l m : List α} {k : Nat} (hl : k < l.length) (hm : k < m.length) (h : l[k] ≠ m[k]) : l ≠ m := fun he => h (by subst he; rfl)

set_option maxHeartbeats 800000 in
theorem same_ents (A A' : Option Addr) (c c' : Nat) (l m : List Ent) (w : World) (hr : RdE w A l) (hr' : RdE w A' m) (hc : l.length ≤ 1000000) :
    Calls Try.prog 18 #[.slice A l.length c, .slice A' m.length c'] w fun en w' => en = .returned (.bool (decide (l = m))) ∧ Below w.heap.size w w' := by
  have HR := Kept.mk hr
  have HR' := Kept.mk hr'
  clear hr hr'
  by_cases hl : l.length = m.length
  · have HL := Kept.mk hl
    have hlb : ((l.length : Int) != (m.length : Int)) = false := by rw [hl]; simp
    have hcm : m.length ≤ 1000000 := by omega
    clear hl
    go_enter Try.func18, Try.ntmps18
    go_wp2_with fail
    go_loopw [5] (fun i wr => ∃ k : Nat, k ≤ l.length ∧ i = .int .i64 k ∧ Kept (l.take k = m.take k) ∧ Below w.heap.size w wr) (fun i _ => l.length - (intOf i).toNat)
    case atStart => exact ⟨0, Nat.zero_le _, rfl, ⟨by simp⟩, Below.refl _ _⟩
    case round =>
      obtain ⟨k, hk, rfl, ht, hb⟩ := hrel
      by_cases hlt : k < l.length
      · have hlm : k < m.length := by have := HL.out; omega
        obtain ⟨b, o, rfl, hb1, q0, q1, q2, q3, q4, q5, q6, q7⟩ := (HR.out.past hb).elem hlt
        obtain ⟨b', o', rfl, hb2, r0, r1, r2, r3, r4, r5, r6, r7⟩ := (HR'.out.past hb).elem hlm
        have hne := fun w => run_neq_ent l[k] m[k] w
        unfold Ent.v at hne
        have HB := Kept.mk hb
        clear hb
        by_cases he : l[k] = m[k]
        · have hd : (!decide (l[k] = m[k])) = false := by simp [he]
          have HE := Kept.mk he
          clear he
          simp only [hd] at hne
          clear hd
          go_wp2_with fail
          go_quiet (fail)
          go_wp2_with fail
          go_roundw
          case rel => exact ⟨k + 1, by omega, by go_num, ⟨(take_step hlt hlm ht.out).2 HE.out⟩, below_drewN HB.out _⟩
          case measure => simp [intOf]; omega
        · have hd : (!decide (l[k] = m[k])) = true := by simp [he]
          have HE := Kept.mk he
          clear he
          simp only [hd] at hne
          clear hd
          go_wp2_with fail
          go_quiet (fail)
          go_wp2_with fail
          go_ret
          exact ⟨by simp [take_ne hlt hlm HE.out], below_drewN HB.out _⟩
      · have hke : l.take k = l := List.take_of_length_le (by omega)
        have hkm : m.take k = m := List.take_of_length_le (by have := HL.out; omega)
        have HK := Kept.mk hke
        have HM := Kept.mk hkm
        have HB := Kept.mk hb
        clear hke hkm hb
        go_wp2_with fail
        go_ret
        have he : l = m := by have := ht.out; rw [HK.out, HM.out] at this; exact this
        exact ⟨by simp [he], HB.out⟩
  · have hlb : ((l.length : Int) != (m.length : Int)) = true := by simp; omega
    go_enter Try.func18, Try.ntmps18
    go_wp2_with fail
    go_ret
    have hne : l ≠ m := fun h => hl (by rw [h])
    exact ⟨by simp [hne], Below.refl _ _⟩

set_option maxRecDepth 100000 in
set_option maxHeartbeats 1000000 in
theorem ref_pop (A : Option Addr) (c : Nat) (l : List Ent) (w : World) (hr : RdE w A l) (hn : l.length < 1000000) (hs : Small l) :
    Calls Try.prog 19 #[.slice A l.length c] w (GivesE w (popEnts l)) := by
  have HR := Kept.mk hr
  have HS := Kept.mk hs
  clear hr hs
  go_enter Try.func19, Try.ntmps19
  go_wp2_with fail
  go_loopw [3, 4] (fun v i wr => ∃ k : Nat, k ≤ (popEnts l).length ∧ i = .int .i64 ((k : Int) + 1) ∧ OwnE wr w.heap.size v ((popEnts l).take k) ∧ Below w.heap.size w wr) (fun _ i _ => l.length - (intOf i).toNat)
  case atStart => exact ⟨0, Nat.zero_le _, rfl, by simpa using OwnE.nil, Below.refl _ _⟩
  case round =>
    obtain ⟨k, hk, rfl, ho, hb⟩ := hrel
    have hpl : (popEnts l).length = l.length - 1 := by simp [popEnts]
    by_cases hlt : k + 1 < l.length
    · obtain ⟨b, o, rfl, hb1, q0, q1, q2, q3, q4, q5, q6, q7⟩ := (HR.out.past hb).elem hlt
      have hsm := HS.out l[k + 1] (List.getElem_mem hlt)
      have hsm1 : l[k + 1].frm ≤ 9223372036854775807 := hsm.2
      have hpk : (popEnts l).take (k + 1) = (popEnts l).take k ++ [l[k + 1].down] := by
        rw [List.take_succ_eq_append_getElem (by omega)]
        simp [popEnts]
      have hlk : ((popEnts l).take k).length < 1000000 := by rw [List.length_take]; omega
      have HO := Kept.mk ho
      have HB := Kept.mk hb
      have HP := Kept.mk hpl
      have HK := Kept.mk hpk
      have HL := Kept.mk hlk
      clear ho hb hsm hpl hpk hlk
      by_cases hf : 0 ≤ l[k + 1].frm
      · have hd : l[k + 1].down = { l[k + 1] with frm := l[k + 1].frm - 1 } := by simp [Ent.down, hf]
        have HD := Kept.mk hd
        clear hd
        go_wp2_with (at_builtin; refine append_ent _ rfl (.tmp 23) (.tmp 25) rfl w.heap.size rfl ((HO.out.past (below_alloc_self _ _)).past (below_alloc_self _ _)) _ { l[k + 1] with frm := l[k + 1].frm - 1 } rfl (heap_at_new (by simp)) HL.out ?c1 ?_)
        case c1 => have := HB.out.size; simp; omega
        rw [← HD.out, ← HK.out]
        intro v' w' h1 h2 h3
        have H1 := Kept.mk h1
        have H3 := Kept.mk h3
        clear h1 h2 h3
        go_wp2_with fail
        go_roundw
        case rel => exact ⟨k + 1, by have := HP.out; omega, by go_num, H1.out, ((HB.out.alloc HB.out.size _).alloc (by have := HB.out.size; simp; omega) _).trans H3.out⟩
        case measure => simp [intOf]; omega
      · have hd : l[k + 1].down = l[k + 1] := by simp [Ent.down, hf]
        have HD := Kept.mk hd
        clear hd
        go_wp2_with (at_builtin; refine append_ent _ rfl (.tmp 23) (.tmp 25) rfl w.heap.size rfl ((HO.out.past (below_alloc_self _ _)).past (below_alloc_self _ _)) _ l[k + 1] rfl (heap_at_new (by simp)) HL.out ?c1 ?_)
        case c1 => have := HB.out.size; simp; omega
        rw [← HD.out, ← HK.out]
        intro v' w' h1 h2 h3
        have H1 := Kept.mk h1
        have H3 := Kept.mk h3
        clear h1 h2 h3
        go_wp2_with fail
        go_roundw
        case rel => exact ⟨k + 1, by have := HP.out; omega, by go_num, H1.out, ((HB.out.alloc HB.out.size _).alloc (by have := HB.out.size; simp; omega) _).trans H3.out⟩
        case measure => simp [intOf]; omega
    · have hke : (popEnts l).take k = popEnts l := List.take_of_length_le (by omega)
      rw [hke] at ho
      have HO := Kept.mk ho
      have HB := Kept.mk hb
      clear ho hb hke hpl
      go_wp2_with fail
      go_ret
      exact ⟨_, rfl, HO.out, HB.out⟩
end Go.Proofs.Ytdfcbfcnanpolaa
