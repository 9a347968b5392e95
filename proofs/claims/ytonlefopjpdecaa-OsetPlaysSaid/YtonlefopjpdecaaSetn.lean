/- A key put into a set: it is there; the set is full; it is new. -/
import Derived.Test.YtonlefopjpdecaaSeta
import Derived.BigRegion
import Derived.Deep.RegionLaw
namespace Go.Proofs.Ytonlefopjpdecaa
open Go.RowKit Go.Maps

theorem SetAt.neM {w : World} {B S M : Nat} {v : Value} {most : Nat} {L : List (List UInt8)} (h : SetAt w B S M v most L) : S ≠ M := by
  intro e
  obtain ⟨n, D, ⟨es, clock, hb, _⟩, _⟩ := h.map
  have := h.hS
  rw [e, hb] at this
  simp at this
theorem SetAt.ownM {w : World} {B S M : Nat} {v : Value} {most : Nat} {L : List (List UInt8)} (h : SetAt w B S M v most L) : v.ownBlock ≠ some M := by
  intro e
  obtain ⟨n, D, ⟨es, clock, hb, _⟩, _⟩ := h.map
  rcases h.row.2 with ⟨hv, _⟩ | ⟨g, cap, cur, hv, _, hg, _⟩
  · rw [hv] at e; simp [Value.ownBlock] at e
  · rw [hv] at e
    simp [Value.ownBlock] at e
    rw [e, hb] at hg
    simp at hg
theorem SetAt.ownS {w : World} {B S M : Nat} {v : Value} {most : Nat} {L : List (List UInt8)} (h : SetAt w B S M v most L) : v.ownBlock ≠ some S := by
  intro e
  rcases h.row.2 with ⟨hv, _⟩ | ⟨g, cap, cur, hv, _, hg, _⟩
  · rw [hv] at e; simp [Value.ownBlock] at e
  · rw [hv] at e
    simp [Value.ownBlock] at e
    rw [e, h.hS] at hg
    simp at hg
theorem grown_setCell (w : World) (p : Addr) (u : Value) : w.grownBy (w.setCell p u) (some p.block) := ⟨rfl, rfl, rfl, by simp [World.setCell], fun k _ hk => heap_setCell_other w p k u (fun e => hk (by rw [e]))⟩
/-- Bytes lie in no map's block: they read as they did where a map has turned alone. -/
theorem RdB.mapped {w w' : World} {A : Option Addr} {l : List UInt8} {M : Nat} {es : Array MapEntry} {clock : Nat} (h : RdB w A l) (hM : w.heap[M]? = some (.map es clock)) (hg : w.grownBy w' (some M)) : RdB w' A l := by
  refine ⟨h.1, fun hn => ?_⟩
  obtain ⟨ad, e, hs, hb, hc⟩ := h.2 hn
  have h0 := hc 0 (.int .u8 (l[0]'hn).toNat) (by simp [bytCs, hn])
  have hne : ad.block ≠ M := by
    intro e
    simp only [World.cell?, e, hM] at h0
    cases h0
  have hbl : w'.heap[ad.block]? = w.heap[ad.block]? := hg.block _ hb (by simpa using hne)
  exact ⟨ad, e, hs, Nat.lt_of_lt_of_le hb hg.size, fun j u hu => by
    have := hc j u hu
    simp only [World.cell?] at this ⊢
    rw [hbl]
    exact this⟩
theorem MapOf.block {w : World} {M : Nat} {L : List (List UInt8)} (h : MapOf w M L) : ∃ es clock, w.heap[M]? = some (.map es clock) := by
  obtain ⟨n, D, ⟨es, clock, hb, _⟩, _⟩ := h
  exact ⟨es, clock, hb⟩
theorem not_frozen {w : World} {g j : Nat} {cs : Array Value} {t : TypeId} (h : w.heap[g]? = some (.cells cs t (0, 0))) : w.frozen? ⟨g, j, none⟩ = false := by
  unfold World.frozen?
  rw [h]
  simp
theorem step_append_any {P : Program} {ops : Array Oper} {w : World} {o : Oper} {a : Act} {K : Act → World → Prop} {Q : Exit → Act → World → Prop} {E : Prop} (hgd : o.guard = none) (s x : Operand) (t : TypeId)
    (ho : o.op = .call { callee := .builtin .append, args := #[s, x], argTypes := #[t, t] })
    (base : Nat) (e : TypeId) (i : TypeInfo) (z : Value) (size bytes : Nat) (ht : P.underlying t = some (.slice e)) (hi : P.info? e = some i) (hz : i.zero = some z)
    (hsize : i.size = size) (hby : i.bytes = bytes) (hzs : z.cells.size = size) (hsz : 0 < size)
    (v : Value) (n : Nat) (xs : List Value) (hs : a.eval s = v) (hown : w.ownsRow base e size v n xs)
    (B : Nat) (A : Option Addr) (m c : Nat) (news : List Value) (hx : a.eval x = .slice A m c) (hr : Reads w B size A m news) (h1 : ∀ u ∈ news, u.oneCell' = true)
    (h63 : n + m ≤ maxLen) (hbytes : (n + m) * bytes ≤ 140737488355328) (hbase : base ≤ w.heap.size)
    (h : ∀ v' w', w'.ownsRow base e size v' (n + m) (xs ++ news) → w.grownBy w' v.ownBlock → (v'.ownBlock = v.ownBlock ∨ v'.ownBlock = some w.heap.size) → K (a.put o.dst v') w') :
    if Region.wanted o (yielded ops a.tmps) = true then Oper.wp P o a w K Q else E := by
  have hw : Region.wanted o (yielded ops a.tmps) = true := by simp [Region.wanted, hgd]
  rw [if_pos hw]
  exact wp_append_any w s x t ho base e i z size bytes ht hi hz hsize hby hzs hsz v n xs hs hown B A m c news hx hr h1 h63 hbytes hbase h

/-- What a key that is put may turn: the set's struct, its map, its row. -/
structure Touch (w w' : World) (S M : Nat) (v : Value) : Prop where
  os : w'.os = w.os
  tape : w'.tape = w.tape
  output : w'.output = w.output
  size : w.heap.size ≤ w'.heap.size
  block : ∀ k, k < w.heap.size → k ≠ S → k ≠ M → some k ≠ v.ownBlock → w'.heap[k]? = w.heap[k]?

set_option maxHeartbeats 1000000 in
theorem add_there {w : World} {B S M : Nat} {v : Value} {most : Nat} {L : List (List UInt8)} (h : SetAt w B S M v most L) (A : Option Addr) (n c : Nat) (s : List UInt8) (hl : s.length = n) (hr : RdB w A s) (hs : s.length ≤ maxLen) (hin : s ∈ L) :
    Calls Try.prog 9 #[.pointer (some ⟨S, 0, none⟩), .slice A n c] w fun en w' => en = .returned (.tuple #[.int .i64 (place L s : Nat), .bool false, .bool true]) ∧ ∃ k, w' = w.drewN k := by
  have z2 := cell_of_row w S 2 _ _ _ h.hS
  have hst : ∀ k, (convert 25 9 (.slice A n c)).run Try.prog (w.drewN k) = .ok (.string ⟨s.toArray⟩) (w.drewN k) := fun k => run_string (w := w.drewN k) (c := c) (Reads.drewN hr k) hl
  have hlk : ∀ k, (Instr.lookup 47 (.map (some M)) (.string ⟨s.toArray⟩) true).run Try.prog (w.drewN k) = .ok (.tuple #[.int .i64 (place L s : Nat), .bool true]) (w.drewN k) := fun k => by
    have := (h.drewN k).map.look hs
    rwa [decide_eq_true hin] at this
  clear h hr
  go_enter Try.func9, Try.ntmps9
  go_wp2_with fail
  go_quiet (fail)
  go_wp2_with fail
  exact at_ret _ [.int .i64 (place L s : Nat), .bool false, .bool true] Try.results9 (.cons (.tmp rfl) (.cons (.tmp rfl) (.cons (.tmp rfl) .nil))) rfl ⟨rfl, _, rfl⟩
set_option maxHeartbeats 1000000 in
theorem add_full {w : World} {B S M : Nat} {v : Value} {most : Nat} {L : List (List UInt8)} (h : SetAt w B S M v most L) (A : Option Addr) (n c : Nat) (s : List UInt8) (hl : s.length = n) (hr : RdB w A s) (hs : s.length ≤ maxLen) (hin : s ∉ L) (hfull : most ≤ L.length) :
    Calls Try.prog 9 #[.pointer (some ⟨S, 0, none⟩), .slice A n c] w fun en w' => en = .returned (.tuple #[.int .i64 0, .bool false, .bool false]) ∧ ∃ k, w' = w.drewN k := by
  obtain ⟨A1, c1, rfl, hc1, hr1⟩ := h.row.shape
  have z0 := cell_of_row w S 0 _ _ _ h.hS
  have z1 := cell_of_row w S 1 _ _ _ h.hS
  have z2 := cell_of_row w S 2 _ _ _ h.hS
  have hst : ∀ k, (convert 25 9 (.slice A n c)).run Try.prog (w.drewN k) = .ok (.string ⟨s.toArray⟩) (w.drewN k) := fun k => run_string (w := w.drewN k) (c := c) (Reads.drewN hr k) hl
  have hlk : ∀ k, (Instr.lookup 47 (.map (some M)) (.string ⟨s.toArray⟩) true).run Try.prog (w.drewN k) = .ok (.tuple #[.int .i64 (place L s : Nat), .bool false]) (w.drewN k) := fun k => by
    have := (h.drewN k).map.look hs
    rwa [decide_eq_false hin] at this
  have hge : (most : Int) ≤ (L.length : Int) := by omega
  clear h hr hr1
  go_enter Try.func9, Try.ntmps9
  go_wp2_with fail
  go_quiet (fail)
  go_wp2_with fail
  go_quiet (fail)
  go_wp2_with fail
  exact at_ret _ [.int .i64 0, .bool false, .bool false] Try.results9 (.cons (.tmp rfl) (.cons (.tmp rfl) (.cons (.tmp rfl) .nil))) rfl ⟨rfl, _, World.drewN_drewN _ _ _⟩
set_option maxHeartbeats 1000000 in
theorem add_new {w : World} {B S M : Nat} {v : Value} {most : Nat} {L : List (List UInt8)} (h : SetAt w B S M v most L) (A : Option Addr) (n c : Nat) (s : List UInt8) (hl : s.length = n) (hr : RdB w A s) (hs : s.length ≤ maxLen) (hin : s ∉ L) (hroom : L.length < most) :
    Calls Try.prog 9 #[.pointer (some ⟨S, 0, none⟩), .slice A n c] w fun en w' => en = .returned (.tuple #[.int .i64 (L.length : Nat), .bool true, .bool true]) ∧ ∃ v', SetAt w' B S M v' most (L ++ [s]) ∧ Touch w w' S M v ∧ (v'.ownBlock = v.ownBlock ∨ ∃ g, v'.ownBlock = some g ∧ w.heap.size ≤ g) := by
  obtain ⟨A1, c1, rfl, hc1, hr1⟩ := h.row.shape
  have z0 := cell_of_row w S 0 _ _ _ h.hS
  have z1 := cell_of_row w S 1 _ _ _ h.hS
  have z2 := cell_of_row w S 2 _ _ _ h.hS
  have hst : ∀ k, (convert 25 9 (.slice A n c)).run Try.prog (w.drewN k) = .ok (.string ⟨s.toArray⟩) (w.drewN k) := fun k => run_string (w := w.drewN k) (c := c) (Reads.drewN hr k) hl
  have hlk : ∀ k, (Instr.lookup 47 (.map (some M)) (.string ⟨s.toArray⟩) true).run Try.prog (w.drewN k) = .ok (.tuple #[.int .i64 (place L s : Nat), .bool false]) (w.drewN k) := fun k => by
    have := (h.drewN k).map.look hs
    rwa [decide_eq_false hin] at this
  have hge : (L.length : Int) < (most : Int) := by omega
  have HSET := Kept.mk h
  have HR := Kept.mk hr
  clear h hr hr1
  go_enter Try.func9, Try.ntmps9
  go_wp2_with fail
  go_quiet (fail)
  go_wp2_with fail
  go_quiet (fail)
  go_upto_region 7 with fail
  generalize hwa : World.drewN w _ = wa
  have HSA : Kept (SetAt wa B S M (.slice A1 L.length c1) most L) := ⟨by rw [← hwa]; exact HSET.out.drewN _⟩
  have HWB : Kept (Below w.heap.size w wa) := ⟨by rw [← hwa]; exact below_drewN (Below.refl _ _) _⟩
  have HSZ : Kept (wa.heap.size = w.heap.size) := ⟨by rw [← hwa]; rfl⟩
  have HBK : Kept (∀ k : Nat, wa.heap[k]? = w.heap[k]?) := ⟨fun k => by rw [← hwa]; rfl⟩
  have hRA : RdB wa A s := by rw [← hwa]; exact Reads.drewN HR.out _
  have HRA := Kept.mk hRA
  have hst7 : (convert 25 9 (.slice A n c)).run Try.prog wa.drew = .ok (.string ⟨s.toArray⟩) wa.drew := run_string (w := wa.drew) (c := c) (Reads.drew hRA) hl
  obtain ⟨wm, hput, hmap, hgm⟩ := (HSA.out.map.same (w' := wa.drew) rfl).put hs hin (by have := HSA.out.big; omega)
  have y2 : wa.cell? ⟨S, 2, none⟩ = some (.map (some M)) := cell_of_row wa S 2 _ _ _ HSA.out.hS
  have HMAP := Kept.mk hmap
  have HGM := Kept.mk hgm
  clear hmap hgm hwa z0 z1 z2 hst hlk hRA
  go_region
  have hne := HSA.out.neM
  have hSm : wm.heap[S]? = some (.cells #[.int .i64 (most : Nat), .slice A1 L.length c1, .map (some M)] 49 (0, 0)) := (HGM.out.block S HSA.out.lt (by simp [hne])).trans HSA.out.hS
  have HSM := Kept.mk hSm
  have y1 : wm.cell? ⟨S, 1, none⟩ = some (.slice A1 L.length c1) := cell_of_row wm S 1 _ _ _ hSm
  have y1' : (wm.alloc (.cells #[.string ⟨s.toArray⟩] 9)).cell? ⟨S, 1, none⟩ = some (.slice A1 L.length c1) := cell_of_row _ S 1 _ _ _ ((heap_alloc_old _ _ (Nat.lt_of_lt_of_le HSA.out.lt HGM.out.size)).trans hSm)
  have HROW : Kept (OwnS wm B (.slice A1 L.length c1) L) := ⟨World.ownsRow.kept (w := wa.drew) HSA.out.row HGM.out (by have := HSA.out.ownM; exact .inr this)⟩
  have HSZm : Kept (wa.heap.size ≤ wm.heap.size) := ⟨HGM.out.size⟩
  have HRm : Kept (RdB wm A s) := ⟨by obtain ⟨es, clock, hb⟩ := HSA.out.map.block; exact RdB.mapped (w := wa.drew) (Reads.drew HRA.out) hb HGM.out⟩
  have hst8 : (convert 25 9 (.slice A n c)).run Try.prog wm.drew = .ok (.string ⟨s.toArray⟩) wm.drew := run_string (w := wm.drew) (c := c) (Reads.drew HRm.out) hl
  obtain ⟨i0, hi0, hz0, hz1, hz2⟩ := info_parts info_string
  clear hput hst7 y2 hSm
  go_upto_region 8 with fail
  go_region_law (refine step_append_any rfl (.tmp 47) (.tmp 50) 43 rfl B 9 i0 _ 1 16 Try.underlying43 hi0 hz0 hz1 hz2 rfl (by omega) (.slice A1 L.length c1) L.length (strCs L) (by simp [Act.eval]) (OwnS.past (w := wm.drew) HROW.out (below_alloc_self _ _)) _ (some ⟨wm.heap.size, 0, Option.none⟩) 1 1 (strCs [s]) (by simp [Act.eval]) (reads_block (heap_at_new rfl) rfl) (strCs_one_cell [s]) (by have := HSA.out.big; unfold maxLen; omega) (by have := HSA.out.big; omega) (by have := HSA.out.bS; have := HSA.out.lt; have := HSZm.out; simp; omega) ?_; intro v8 w8 g1 g2 g3; obtain ⟨A8, c8, rfl, hc8, -⟩ := own_shape g1; have hS8 := Kept.mk ((g2.block S (Nat.lt_of_lt_of_le HSA.out.lt (Nat.le_trans HSZm.out (by simp))) (Ne.symm HSA.out.ownS)).trans ((heap_alloc_old _ _ (Nat.lt_of_lt_of_le HSA.out.lt HSZm.out)).trans HSM.out)); have f8 := cell_of_row w8 S 1 _ _ _ hS8.out; have fz8 := not_frozen (j := 1) hS8.out)
  all_goals
    have hown : OwnS w8 B (.slice A8 (L.length + 1) c8) (L ++ [s]) := by
      unfold OwnS
      rw [strCs_append, List.length_append]
      exact g1
    have hlarge : wm.heap.size < w8.heap.size := by have := g2.size; simp [World.drew] at this; omega
    have hv8 : (Value.slice A8 (L.length + 1) c8).ownBlock ≠ some S := by
      rcases g3 with e | e
      · rw [e]; exact HSA.out.ownS
      · rw [e]
        have h1 := HSA.out.lt
        have h2 := HSZm.out
        simp [World.drew]
        omega
    have hSET : SetAt (w8.setCell ⟨S, 1, none⟩ (.slice A8 (L.length + 1) c8)) B S M (.slice A8 (L.length + 1) c8) most (L ++ [s]) := by
      refine ⟨HSA.out.bS, HSA.out.bM, ?_, World.ownsRow.kept hown (grown_setCell w8 _ _) (.inr hv8), HMAP.out.same ?_, ?_, by simp; omega, HSA.out.big⟩
      · exact heap_setCell_same w8 S 1 _ _ _ hS8.out
      · rw [heap_setCell_other w8 _ M _ (Ne.symm HSA.out.neM)]
        refine (g2.block M (Nat.lt_of_lt_of_le HMAP.out.lt (by simp [World.drew])) (Ne.symm HSA.out.ownM)).trans ?_
        exact heap_alloc_old _ _ HMAP.out.lt
      · rw [List.nodup_append]
        exact ⟨HSA.out.nd, by simp, fun a ha b hb => by rw [List.mem_singleton.1 hb]; exact fun e => hin (e ▸ ha)⟩
    have hT : Touch w (w8.setCell ⟨S, 1, none⟩ (.slice A8 (L.length + 1) c8)) S M (.slice A1 L.length c1) := by
      refine ⟨g2.os.trans (HGM.out.os.trans HWB.out.os), g2.tape.trans (HGM.out.tape.trans HWB.out.tape), g2.output.trans (HGM.out.output.trans HWB.out.output), ?_, fun k hk hkS hkM hkv => ?_⟩
      · have h1 := HSZ.out
        have h2 := HSZm.out
        simp [World.setCell]
        omega
      · have h1 := HSZ.out
        have h2 := HSZm.out
        rw [heap_setCell_other w8 _ k _ hkS]
        refine (g2.block k (by simp [World.drew]; omega) hkv).trans ((heap_alloc_old _ _ (by omega)).trans ?_)
        exact (HGM.out.block k (by show k < wa.heap.size; omega) (by simpa using hkM)).trans (HBK.out k)
    have hO : (Value.slice A8 (L.length + 1) c8).ownBlock = (Value.slice A1 L.length c1).ownBlock ∨ ∃ g, (Value.slice A8 (L.length + 1) c8).ownBlock = some g ∧ w.heap.size ≤ g := by
      rcases g3 with e | e
      · exact .inl e
      · exact .inr ⟨_, e, by have h1 := HSZ.out; have h2 := HSZm.out; simp [World.drew]; omega⟩
    have HF := Kept.mk (And.intro hSET (And.intro hT hO))
    clear hown hlarge hv8 hSET hT hO f8 fz8 y1 y1' hst8 g1 g2 g3
    go_wp2
    exact at_ret _ [.int .i64 (L.length : Nat), .bool true, .bool true] Try.results9 (.cons (.tmp rfl) (.cons (.tmp rfl) (.cons (.tmp rfl) .nil))) rfl ⟨rfl, _, HF.out⟩
end Go.Proofs.Ytonlefopjpdecaa
