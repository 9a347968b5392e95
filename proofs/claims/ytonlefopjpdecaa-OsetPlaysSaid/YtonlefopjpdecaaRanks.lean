/- Ranks tell keys apart; a map of the ranks that were seen; what is stored beside a set leaves it. -/
import Derived.Test.YtonlefopjpdecaaSet2
namespace Go.Proofs.Ytonlefopjpdecaa
open Go.RowKit Go.Maps

/-! ### Ranks -/
theorem countP_lt {L : List (List UInt8)} {x y : List UInt8} (hx : x ∈ L) (h : lessB x y = true) : rankOf L x < rankOf L y := by
  unfold rankOf
  induction L with
  | nil => simp at hx
  | cons z L ih =>
    rw [List.countP_cons, List.countP_cons]
    have mono : L.countP (fun t => lessB t x) ≤ L.countP (fun t => lessB t y) := List.countP_mono_left fun t _ ht => less_trans ht h
    have hz : lessB z x = true → lessB z y = true := fun ht => less_trans ht h
    rcases List.mem_cons.1 hx with rfl | hx
    · rw [less_self, h]
      simp
      omega
    · have := ih hx
      cases h1 : lessB z x <;> cases h2 : lessB z y <;> simp
      · omega
      · omega
      · have := hz h1
        rw [h2] at this
        cases this
      · omega
theorem rank_inj {L : List (List UInt8)} {x y : List UInt8} (hx : x ∈ L) (hy : y ∈ L) (h : rankOf L x = rankOf L y) : x = y := by
  have hone := less_one x y
  by_cases e : x = y
  · exact e
  · exfalso
    simp [e] at hone
    rcases hone with h1 | h1
    · have := countP_lt hx h1; omega
    · have := countP_lt hy h1; omega

/-! ### The ranks that were seen -/
theorem law_int : Keyed Try.prog 3 := int_keyed Try.underlying3
def MapI (w : World) (G : Nat) (R : List Nat) : Prop :=
  ∃ (n : Nat) (D : DataW Unit), w.ownsMap Try.prog 3 (plainElem Try.prog 3) G n D ∧ n ≤ R.length ∧
    ∀ k : Nat, D.atKey (.int .i64 (k : Nat)) (.lit (.int .i64 0)) = .lit (.int .i64 (if k ∈ R then 1 else 0))
theorem int_reads {k : Nat} (h : k ≤ 1000000) : keyOf Try.prog 3 (.int .i64 (k : Nat)) = some (.int .i64 (k : Nat)) := keyOf_int_mk Try.underlying3 (WalkArith.wf_i64 (by omega))
theorem MapI.lt {w : World} {G : Nat} {R : List Nat} (h : MapI w G R) : G < w.heap.size := by
  obtain ⟨n, D, ho, _⟩ := h
  exact ho.lt
theorem MapI.block {w : World} {G : Nat} {R : List Nat} (h : MapI w G R) : ∃ es clock, w.heap[G]? = some (.map es clock) := by
  obtain ⟨n, D, ⟨es, clock, hb, _⟩, _⟩ := h
  exact ⟨es, clock, hb⟩
theorem MapI.same {w w' : World} {G : Nat} {R : List Nat} (h : MapI w G R) (he : w'.heap[G]? = w.heap[G]?) : MapI w' G R := by
  obtain ⟨n, D, ⟨es, clock, hb, F, hs, hD⟩, hn, hk⟩ := h
  exact ⟨n, D, ⟨es, clock, he.trans hb, F, hs, hD⟩, hn, hk⟩
theorem MapI.past {w w' : World} {G : Nat} {R : List Nat} (h : MapI w G R) (hb : Below w.heap.size w w') : MapI w' G R := h.same (hb.block G h.lt)
theorem MapI.made (w : World) : MapI (w.alloc (.map #[] 0)) w.heap.size [] :=
  ⟨0, .map [], World.ownsMap_made _ _ _ _, by simp, fun s => by simp [DataW.atKey]⟩
theorem MapI.look {w : World} {G : Nat} {R : List Nat} (h : MapI w G R) {k : Nat} (hk : k ≤ 1000000) :
    (Instr.lookup 29 (.map (some G)) (.int .i64 (k : Nat)) false).run Try.prog w = .ok (.int .i64 (if k ∈ R then 1 else 0)) w := by
  obtain ⟨n, D, ho, _, hd⟩ := h
  obtain ⟨c, hrun, hat, _⟩ := ho.lookup_int law_int Try.underlying29 Try.underlying3 (zero_int w) (int_reads hk)
  rw [hd] at hat
  simp only [DataW.lit.injEq, Lit.int.injEq, true_and] at hat
  rw [hrun, hat]
theorem MapI.put {w : World} {G : Nat} {R : List Nat} (h : MapI w G R) {k : Nat} (hk : k ≤ 1000000) (hR : R.length ≤ 1000000) :
    ∃ w', (Instr.mapUpdate 29 (.map (some G)) (.int .i64 (k : Nat)) (.int .i64 1)).run Try.prog w = .ok () w' ∧ MapI w' G (R ++ [k]) ∧ w.grownBy w' (some G) := by
  obtain ⟨n, D, ho, hle, hd⟩ := h
  have hm := ho.isMap
  obtain ⟨w', hrun, ho', ht⟩ := ho.store law_int Try.underlying29 (by unfold maxLen; omega) (int_reads hk) (plainElem_int Try.underlying3 (a := 1) (by decide))
  refine ⟨w', hrun, ⟨n + 1, _, ho', by simp; omega, fun t => ?_⟩, ht.grown⟩
  by_cases e : t = k
  · subst e
    rw [atKey_put_same hm (law_int.key (int_reads hk))]
    simp
  · have hne : (Lit.int .i64 (t : Nat) : Lit) ≠ .int .i64 (k : Nat) := fun h => e (by injection h with _ h; omega)
    rw [atKey_put_other hne, hd t]
    simp [e]

/-! ### What leaves a set as it was -/
section
variable {w w' : World} {B S M : Nat} {v : Value} {most : Nat} {L : List (List UInt8)}
theorem SetAt.byte_block (h : SetAt w B S M v most L) {g : Nat} {cur : Array Value} {fr : Nat × Nat} (hg : w.heap[g]? = some (.cells cur 5 fr)) : S ≠ g ∧ M ≠ g ∧ v.ownBlock ≠ some g := by
  refine ⟨fun e => ?_, fun e => ?_, fun e => ?_⟩
  · have := h.hS; rw [e, hg] at this; simp at this
  · obtain ⟨es, clock, hb⟩ := h.map.block; rw [e, hg] at hb; simp at hb
  · rcases h.row.2 with ⟨hv, _⟩ | ⟨g', cap, cur', hv, _, hg', _⟩
    · rw [hv] at e; simp [Value.ownBlock] at e
    · rw [hv] at e
      simp [Value.ownBlock] at e
      rw [e, hg] at hg'
      simp at hg'
theorem SetAt.grown (h : SetAt w B S M v most L) {g : Nat} (hg : w.grownBy w' (some g)) (h1 : S ≠ g) (h2 : M ≠ g) (h3 : v.ownBlock ≠ some g) : SetAt w' B S M v most L :=
  ⟨h.bS, h.bM, (hg.block S h.lt (by simpa using h1)).trans h.hS, World.ownsRow.kept h.row hg (.inr h3), h.map.same (hg.block M h.map.lt (by simpa using h2)), h.nd, h.le, h.big⟩
theorem SetAt.setByte (h : SetAt w B S M v most L) {g : Nat} {cur : Array Value} {fr : Nat × Nat} (hg : w.heap[g]? = some (.cells cur 5 fr)) (j : Nat) (u : Value) : SetAt (w.setCell ⟨g, j, none⟩ u) B S M v most L := by
  obtain ⟨h1, h2, h3⟩ := h.byte_block hg
  exact h.grown (grown_setCell w ⟨g, j, none⟩ u) h1 h2 h3
theorem SetAt.map_block (h : SetAt w B S M v most L) {g : Nat} {es : Array MapEntry} {clock : Nat} (hg : w.heap[g]? = some (.map es clock)) : S ≠ g ∧ v.ownBlock ≠ some g := by
  refine ⟨fun e => ?_, fun e => ?_⟩
  · have := h.hS; rw [e, hg] at this; simp at this
  · rcases h.row.2 with ⟨hv, _⟩ | ⟨g', cap, cur', hv, _, hg', _⟩
    · rw [hv] at e; simp [Value.ownBlock] at e
    · rw [hv] at e
      simp [Value.ownBlock] at e
      rw [e, hg] at hg'
      simp at hg'
/-- A row of bytes of the call's own stays where a key is put. -/
theorem OwnB.touch (h : SetAt w B S M v most L) (t : Touch w w' S M v) {B' : Nat} {x : Value} {s : List UInt8} (ho : OwnB w B' x s) : OwnB w' B' x s := by
  refine ⟨ho.1, ?_⟩
  rcases ho.2 with hn | ⟨g, cap, cur, e, hB, hg, rest⟩
  · exact .inl hn
  · obtain ⟨h1, h2, h3⟩ := h.byte_block hg
    exact .inr ⟨g, cap, cur, e, hB, (t.block g (Array.getElem?_eq_some_iff.1 hg).1 (Ne.symm h1) (Ne.symm h2) (Ne.symm h3)).trans hg, rest⟩
end
theorem at_key_is {w : World} {B S M : Nat} {v : Value} {most : Nat} {L : List (List UInt8)} (h : SetAt w B S M v most L) (i : Nat) (hi : i < L.length) (s : List UInt8) (he : L[i] = s) :
    Calls Try.prog 11 #[.pointer (some ⟨S, 0, none⟩), .int .i64 (i : Nat)] w fun en w' => ∃ c, en = .returned (.tuple #[.slice (some ⟨w.heap.size, 0, none⟩) s.length c, .bool true]) ∧ Copy w' w.heap.size w.heap.size c s ∧ Below w.heap.size w w' := by
  subst he
  exact at_key h i hi
theorem OwnB.made {w : World} {B : Nat} (hB : B ≤ w.heap.size) : OwnB (w.alloc (.cells #[] 5)) B (.slice (some ⟨w.heap.size, 0, none⟩) 0 0) [] := World.ownsRow_made w #[] 0 hB (by simp [maxLen]) (by simp)
theorem append_bytes {ops : Array Oper} {rest : List Oper} {o : Oper} {a : Act} {Q : Exit → Act → World → Prop} (W : World) (hgd : o.guard = none) (s x : Operand)
    (ho : o.op = .call { callee := .builtin .append, args := #[s, x], argTypes := #[25, 25] }) (B : Nat) {v : Value} {l : List UInt8} (hs : a.eval s = v) (hown : OwnB W B v l) {A : Option Addr} {c : Nat} {m : List UInt8}
    (hx : a.eval x = .slice A m.length c) (hr : RdB W A m) (hl : l.length + m.length < 1000000) (hB : B ≤ W.heap.size)
    (h : ∀ v' w', OwnB w' B v' (l ++ m) → W.grownBy w' v.ownBlock → Below B W w' → wpList Try.prog ops Q rest (a.put o.dst v') w') : wpList Try.prog ops Q (o :: rest) a W := by
  obtain ⟨i0, hi0, hz0, hz1, hz2⟩ := info_parts info_byte
  refine wpList_append_any W hgd s x _ ho B 5 i0 _ 1 1 Try.underlying25 hi0 hz0 hz1 hz2 rfl (by omega) v l.length (bytCs l) hs hown W.heap.size A m.length c (bytCs m) hx hr (bytCs_one_cell m)
    (by simp only [maxLen]; omega) (by omega) hB fun v' w' h1 h2 _ => h v' w' ?_ h2 ((Below.refl _ _).grown h2 hB (fun k hk => (World.ownsRow.lt hown k hk).1))
  unfold OwnB
  rw [bytCs_append, List.length_append]
  exact h1
theorem OwnB.block {w : World} {B g n c : Nat} {l : List UInt8} (h : OwnB w B (.slice (some ⟨g, 0, none⟩) n c) l) : ∃ cur, w.heap[g]? = some (.cells cur 5 (0, 0)) := by
  rcases h.2 with ⟨hn, _⟩ | ⟨g', cap, cur, hn, _, hg, _⟩
  · simp at hn
  · simp only [Value.slice.injEq, Option.some.injEq, Addr.mk.injEq, and_true] at hn
    rw [hn.1]
    exact ⟨cur, hg⟩
/-- The first byte of a copy, turned. -/
theorem Copy.store {w : World} {B g c : Nat} {l : List UInt8} (h : Copy w B g c l) (x : UInt8) (h0 : 0 < l.length) : RdB (w.setCell ⟨g, 0, none⟩ (.int .u8 x.toNat)) (some ⟨g, 0, none⟩) (l.set 0 x) := by
  obtain ⟨b, o, e, hb, h00⟩ := h.reads.at_ h0
  cases e
  refine ⟨by simp [bytCs], fun _ => ⟨_, rfl, rfl, by simpa [World.setCell] using hb, fun j u hu => ?_⟩⟩
  obtain ⟨hj, rfl⟩ := List.getElem?_eq_some_iff.1 hu
  rw [bytCs_length, List.length_set] at hj
  by_cases ej : j = 0
  · subst ej
    rw [World.cell?_setCell_same (h := h00)]
    simp [bytCs]
  · obtain ⟨b', o', e', _, hjj⟩ := h.reads.at_ hj
    cases e'
    rw [World.cell?_setCell_other (h := by intro e; injection e with _ e; omega), hjj]
    simp [bytCs, List.getElem_set_ne (Ne.symm ej)]
end Go.Proofs.Ytonlefopjpdecaa
