/- The law RetbOwn: rows that come of others are their own. -/
import Derived.Test.YtdfcbfcnanpolaaAwa12
import Derived.Test.YtdfcbfcnanpolaaOpen
namespace Go.Proofs.Ytdfcbfcnanpolaa
open Go.RowKit

theorem intCs_set (l : List Int) (k : Nat) (x : Int) : (intCs l).set k (.int .i64 x) = intCs (l.set k x) := by simp [intCs, List.map_set]
/-- A row of n numbers of the call's own, whatever they are. -/
def RowI (w : World) (B : Nat) (v : Value) (n : Nat) : Prop := ∃ l : List Int, l.length = n ∧ OwnI w B v l
theorem RowI.of_own {w : World} {B B' : Nat} {v : Value} {l : List Int} (h : OwnI w B' v l) (hB : B ≤ B') : RowI w B v l.length := ⟨l, rfl, h.lower hB⟩
theorem RowI.past {w w' : World} {B : Nat} {v : Value} {n : Nat} (h : RowI w B v n) (hb : Below w.heap.size w w') : RowI w' B v n := by
  obtain ⟨l, hl, ho⟩ := h
  exact ⟨l, hl, ho.past hb⟩
theorem RowI.shape {w : World} {B : Nat} {v : Value} {n : Nat} (h : RowI w B v n) : ∃ A c, v = .slice A n c ∧ n ≤ c := by
  obtain ⟨l, rfl, ho⟩ := h
  obtain ⟨A, c, e, hc, _⟩ := ho.shape
  exact ⟨A, c, e, hc⟩
theorem RowI.store {w : World} {B : Nat} {v : Value} {n : Nat} (h : RowI w B v n) (g k : Nat) (x : Int) : RowI (w.setCell ⟨g, k, none⟩ (.int .i64 x)) B v n := by
  obtain ⟨l, rfl, ho⟩ := h
  by_cases hv : v.ownBlock = some g
  · obtain ⟨A, c, rfl, _, _⟩ := ho.shape
    have hA : A = some ⟨g, 0, none⟩ := by
      rcases ho.2 with ⟨hn, _⟩ | ⟨g', cap, cur, hn, _⟩
      · simp at hn; rw [hn.1] at hv; simp [Value.ownBlock] at hv
      · simp only [Value.slice.injEq] at hn
        rw [hn.1] at hv ⊢
        simp [Value.ownBlock] at hv
        rw [hv]
    subst hA
    refine ⟨l.set k x, by simp, ?_⟩
    have := (World.ownsRow.stored ho k (.int .i64 x)).1
    rw [intCs_set] at this
    unfold OwnI
    rw [List.length_set]
    exact this
  · exact ⟨l, rfl, World.ownsRow.kept ho (grown_setCell w _ _) (.inr hv)⟩
theorem RowI.elem {w : World} {B : Nat} {A : Option Addr} {n c : Nat} (h : RowI w B (.slice A n c) n) {k : Nat} (hk : k < n) :
    ∃ g x, A = some ⟨g, 0, none⟩ ∧ B ≤ g ∧ g < w.heap.size ∧ w.cell? ⟨g, k, none⟩ = some (.int .i64 x) ∧ w.frozen? ⟨g, k, none⟩ = false ∧ ∃ cur, w.heap[g]? = some (.cells cur 3 (0, 0)) := by
  obtain ⟨l, rfl, ho⟩ := h
  obtain ⟨g, cap, hv, hb, hlt⟩ := World.ownsRow.form ho (by omega)
  simp only [Value.slice.injEq, true_and] at hv
  obtain ⟨rfl, rfl⟩ := hv
  refine ⟨g, l[k], rfl, hb, hlt, ?_, World.ownsRow.frozenAt ho k, ?_⟩
  · rw [World.ownsRow.cellAt ho k (by omega)]
    simp [intCs, hk]
  · rcases ho.2 with ⟨hn, _⟩ | ⟨g', cap', cur, hn, _, hg, _⟩
    · simp at hn
    · simp only [Value.slice.injEq, Option.some.injEq, Addr.mk.injEq, and_true] at hn
      rw [hn.1]
      exact ⟨cur, hg⟩
/-- The three rows, and the array that names them. -/
structure Rows3 (w : World) (B G : Nat) (a b c : Value) (na nb nc : Nat) : Prop where
  ra : RowI w B a na
  rb : RowI w B b nb
  rc : RowI w B c nc
  hg : w.heap[G]? = some (.cells #[a, b, c] 22 (0, 0))
theorem Rows3.at_ {w : World} {B G : Nat} {a b c : Value} {na nb nc : Nat} (h : Rows3 w B G a b c na nb nc) {k : Nat} (hk : k < 3) :
    ∃ A cp n, w.cell? ⟨G, k, none⟩ = some (.slice A n cp) ∧ RowI w B (.slice A n cp) n ∧ n ≤ max na (max nb nc) := by
  have hc := fun k => cell_of_row w G k _ _ _ h.hg
  match k, hk with
  | 0, _ => obtain ⟨A, cp, rfl, _⟩ := h.ra.shape; exact ⟨A, cp, na, by rw [hc]; rfl, h.ra, by omega⟩
  | 1, _ => obtain ⟨A, cp, rfl, _⟩ := h.rb.shape; exact ⟨A, cp, nb, by rw [hc]; rfl, h.rb, by omega⟩
  | 2, _ => obtain ⟨A, cp, rfl, _⟩ := h.rc.shape; exact ⟨A, cp, nc, by rw [hc]; rfl, h.rc, by omega⟩
theorem Rows3.store {w : World} {B G : Nat} {a b c : Value} {na nb nc : Nat} (h : Rows3 w B G a b c na nb nc) {g : Nat} (k : Nat) (x : Int) {cur : Array Value} (hg : w.heap[g]? = some (.cells cur 3 (0, 0))) :
    Rows3 (w.setCell ⟨g, k, none⟩ (.int .i64 x)) B G a b c na nb nc :=
  ⟨h.ra.store g k x, h.rb.store g k x, h.rc.store g k x, (heap_setCell_other w _ G _ (fun e => by
    have h1 := h.hg
    simp only at e
    rw [e, hg] at h1
    simp at h1)).trans h.hg⟩
/-- Pop of any row. -/
theorem rpop_any (A : Option Addr) (c : Nat) (l : List Int) (w : World) (hc : l.length ≤ c) (hr : RdI w A l) (hn : l.length < 1000000) :
    Calls Try.prog 21 #[.slice A l.length c] w fun en w' => ∃ x v, en = .returned (.tuple #[.int .i64 x, v, .bool (decide (0 < l.length))]) ∧ OwnI w' w.heap.size v (l.take (l.length - 1)) ∧ Below w.heap.size w w' := by
  cases hl : l.length with
  | zero =>
    refine (rpop_none A c w).mono ?_
    rintro en w' ⟨rfl, hb⟩
    have : l = [] := List.eq_nil_of_length_eq_zero hl
    subst this
    exact ⟨0, _, rfl, OwnI.nil, hb⟩
  | succ k =>
    refine (rpop_some A c k l w hl (by omega) hr (by omega)).mono ?_
    rintro en w' ⟨v, rfl, h, hb⟩
    exact ⟨l[k]'(by omega), v, by simp, h, hb⟩

set_option maxRecDepth 100000 in
set_option maxHeartbeats 2000000 in
theorem rown_walk (A : Option Addr) (c : Nat) (l : List Int) (n : Int) (w : World) (hc : l.length ≤ c) (_hm : c ≤ maxLen) (hr : RdI w A l) (_hok : ∀ x ∈ l, -9223372036854775808 ≤ x ∧ x ≤ 9223372036854775807) (_hn : -9223372036854775808 ≤ n ∧ n ≤ 9223372036854775807) :
    Calls Try.prog 9 #[.slice A l.length c, .int .i64 n] w (SaysTrue w) := by
  unfold maxLen at _hm
  have HR := Kept.mk hr
  clear hr _hok
  by_cases h50 : 50 < l.length
  · go_enter Try.func9, Try.ntmps9
    go_wp2_with fail
    refine (awake12 _).mono ?_
    rintro en w4 ⟨rfl, b4⟩
    go_wp2_with fail
    go_ret
    exact ⟨rfl, b4⟩
  · go_enter Try.func9, Try.ntmps9
    go_wp2_with (at_builtin; go_must (refine append_nums _ rfl (.tmp 19) (.tmp 20) rfl w.heap.size rfl (OwnI.made (Nat.le_refl _)) rfl (HR.out.past (below_alloc_self _ _)) (by simp; omega) (by simp) ?_))
    intro v1 w1 ho1 _ hb1
    obtain ⟨A1, c1, rfl, hc1, hr1⟩ := ho1.shape
    have hb1 := (below_alloc_self w _).trans (hb1.mono (by simp))
    have HW := Kept.mk hr1
    have R1 := Kept.mk (HR.out.past hb1)
    have B1 := Kept.mk hb1
    have R1L := Kept.mk (HR.out.past hb1)
    clear ho1 hr1 hb1 HR
    have hc1 : l.length ≤ c1 := hc1
    have HW : Kept (RdI w1 A1 l) := HW
    go_wp2_with fail
    refine (rpush A c l n _ R1.out (by omega)).mono ?_
    rintro en w2 ⟨v2, rfl, h2, b2⟩
    have R2 := Kept.mk (R1.out.past b2)
    have B2 := Kept.mk (b2 : Below w1.heap.size w1 w2)
    have O2 := Kept.mk (RowI.of_own h2 (Nat.le_refl _))
    clear h2 b2 R1
    go_wp2_with fail
    refine (rpop_any A c l _ hc R2.out (by omega)).mono ?_
    rintro en w3 ⟨x3, v3, rfl, h3, b3⟩
    have O3 := Kept.mk (RowI.of_own h3 B2.out.size)
    have R3 := Kept.mk (R2.out.past b3)
    have O23 := Kept.mk (O2.out.past b3)
    have B3 := Kept.mk (B2.out.trans (b3.mono B2.out.size))
    clear h3 b3 R2 O2 B2
    go_wp2_with fail
    refine (real_yes ⟨1, 0, 0, 0, 0, 0, 0, .slice none 0 0, .slice none 0 0, some ⟨w3.heap.size, 0, none⟩, 1, 1⟩ [⟨11, 0, 0, false, 0, false, 0, ⟨#[]⟩, 0⟩] A c l none 0 [] 0 l _ rfl rfl (by simp) ?np (R3.out.past (below_alloc_self _ _)) (by omega) RdE.nil (by simp) (by simp)).mono ?_
    case np => exact reads_block (heap_at_new rfl) rfl
    rintro en w4 ⟨v4, rfl, h4, b4⟩
    have hb4 := (below_alloc_self w3 _).trans (b4.mono (by simp))
    have O4 := Kept.mk (RowI.of_own (h4.lower (show w3.heap.size ≤ _ by simp)) B3.out.size)
    have R4 := Kept.mk (R3.out.past hb4)
    have O24 := Kept.mk (O23.out.past hb4)
    have O34 := Kept.mk (O3.out.past hb4)
    have B4 := Kept.mk (B3.out.trans (hb4.mono B3.out.size))
    clear h4 b4 hb4 R3 O23 O3 B3
    have hn2 : (lastTwo (l ++ [n])).length ≤ 60 := by unfold lastTwo; simp; omega
    have hn3 : (l.take (l.length - 1)).length ≤ 60 := by simp; omega
    obtain ⟨A2, c2, rfl, -⟩ := O24.out.shape
    obtain ⟨A3, c3, rfl, -⟩ := O34.out.shape
    obtain ⟨A4, c4, rfl, -⟩ := O4.out.shape
    generalize hN2 : (lastTwo (l ++ [n])).length = n2 at *
    generalize hN3 : (l.take (l.length - 1)).length = n3 at *
    clear hN2 hN3
    go_wp2_with fail
    have HG : ∀ o : Obj, o = .cells #[.slice A2 n2 c2, .slice A3 n3 c3, .slice A4 l.length c4] 22 (0, 0) → Rows3 (w4.alloc o) w1.heap.size w4.heap.size (.slice A2 n2 c2) (.slice A3 n3 c3) (.slice A4 l.length c4) n2 n3 l.length := fun o e => by
      subst e
      exact ⟨O24.out.past (below_alloc_self _ _), O34.out.past (below_alloc_self _ _), O4.out.past (below_alloc_self _ _), heap_at_new rfl⟩
    have HBB : ∀ o : Obj, Below w1.heap.size w1 (w4.alloc o) := fun o => B4.out.alloc B4.out.size o
    go_loopw [44] (fun j wr => ∃ k : Nat, k ≤ 3 ∧ j = .int .i64 k ∧ Rows3 wr w1.heap.size w4.heap.size (.slice A2 n2 c2) (.slice A3 n3 c3) (.slice A4 l.length c4) n2 n3 l.length ∧ Below w1.heap.size w1 wr) (fun j _ => 3 - (intOf j).toNat)
    case atStart => exact ⟨0, by omega, rfl, HG _ rfl, HBB _⟩
    case round =>
      obtain ⟨k, hk, rfl, hrows, hb⟩ := hrel
      clear HG HBB
      by_cases hk3 : k < 3
      · obtain ⟨Ax, cx, nx, hcx, hrx, hnx⟩ := hrows.at_ hk3
        have hnx : nx ≤ 60 := by omega
        have HRW := Kept.mk hrows
        have HB := Kept.mk hb
        have HRX := Kept.mk hrx
        clear hrows hb hrx
        go_wp2_with fail
        obtain ⟨wo, rfl⟩ : ∃ wo : World, wo = wr := ⟨_, rfl⟩
        go_loopw [50] (fun j wq => ∃ q : Nat, q ≤ nx ∧ j = .int .i64 q ∧ Rows3 wq w1.heap.size w4.heap.size (.slice A2 n2 c2) (.slice A3 n3 c3) (.slice A4 l.length c4) n2 n3 l.length ∧ RowI wq w1.heap.size (.slice Ax nx cx) nx ∧ Below w1.heap.size w1 wq) (fun j _ => nx - (intOf j).toNat)
        case atStart => exact ⟨0, by omega, rfl, HRW.out, HRX.out, HB.out⟩
        case round =>
          obtain ⟨q, hq, rfl, hrows, hrx, hb⟩ := hrel
          by_cases hqn : q < nx
          · obtain ⟨g, x, rfl, hg1, hg2, hgc, hgf, cur, hcur⟩ := hrx.elem hqn
            have HRW2 := Kept.mk hrows
            have HB2 := Kept.mk hb
            have HRX2 := Kept.mk hrx
            have HCU := Kept.mk hcur
            clear hrows hb hrx hcur
            go_wp2_with fail
            go_roundw
            case rel => exact ⟨q + 1, by omega, by go_num, HRW2.out.store q _ HCU.out, HRX2.out.store g q _, HB2.out.setCell (p := ⟨g, q, Option.none⟩) hg1 _⟩
            case measure => simp [intOf]; omega
          · have HRW2 := Kept.mk hrows
            have HB2 := Kept.mk hb
            clear hrows hb hrx
            go_wp2_with fail
            go_roundw
            case rel => exact ⟨k + 1, by omega, by go_num, HRW2.out, HB2.out⟩
            case measure => simp [intOf]; omega
      · have HB := Kept.mk hb
        obtain ⟨lb, hlb, hob⟩ := hrows.rb
        have HOB := Kept.mk hob
        have HLB := Kept.mk hlb
        have HK4 := Kept.mk hk
        clear hrows hb hob hlb
        go_wp2_with (at_builtin; go_must (refine append_int _ rfl (.tmp 61) (.tmp 62) rfl w1.heap.size rfl (HOB.out.past (below_alloc_self _ _)) _ 7 rfl (heap_at_new rfl) ?c1 ?c2 ?_))
        case c1 => have := HLB.out; omega
        case c2 => have := HB.out.size; simp; omega
        intro v6 w6 _ _ h63
        have hb6 : Below w1.heap.size w1 w6 := (HB.out.alloc HB.out.size _).trans h63
        have R6 := Kept.mk (HW.out.past hb6)
        have hb06 : Below w.heap.size w w6 := B1.out.trans (hb6.mono B1.out.size)
        have L6 := Kept.mk (R1L.out.past hb6)
        have B6 := Kept.mk hb06
        clear h63 hb6 hb06
        go_wp2_with fail
        refine (same_ints A A1 c c1 l l _ L6.out R6.out (by omega)).mono ?_
        rintro en w7 ⟨rfl, b7⟩
        have B7 := Kept.mk (B6.out.trans (b7.mono B6.out.size))
        clear b7
        have hdt : decide (l = l) = true := by simp
        go_wp2_with fail
        refine (awake12 _).mono ?_
        rintro en w8 ⟨rfl, b8⟩
        have HB8 := Kept.mk (B7.out.trans (b8.mono B7.out.size))
        clear b8
        go_wp2_with fail
        go_ret
        exact ⟨rfl, HB8.out⟩
end Go.Proofs.Ytdfcbfcnanpolaa
