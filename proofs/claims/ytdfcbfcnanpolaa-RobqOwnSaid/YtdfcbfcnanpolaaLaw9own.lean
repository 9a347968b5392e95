/- The law RobqOwn: rows that come of others are their own. -/
import Derived.Test.YtdfcbfcnanpolaaAwa9
import Derived.Test.YtdfcbfcnanpolaaMask
import Derived.Test.YtdfcbfcnanpolaaOpen
namespace Go.Proofs.Ytdfcbfcnanpolaa
open Go.RowKit

/-- A row of n entries of the call's own, whatever they hold. -/
def RowE (w : World) (B : Nat) (v : Value) (n : Nat) : Prop := ∃ l : List Ent, l.length = n ∧ OwnE w B v l
theorem RowE.of_own {w : World} {B B' : Nat} {v : Value} {l : List Ent} (h : OwnE w B' v l) (hB : B ≤ B') : RowE w B v l.length := ⟨l, rfl, h.lower hB⟩
theorem RowE.past {w w' : World} {B : Nat} {v : Value} {n : Nat} (h : RowE w B v n) (hb : Below w.heap.size w w') : RowE w' B v n := by
  obtain ⟨l, hl, ho⟩ := h
  exact ⟨l, hl, ho.past hb⟩
theorem RowE.shape {w : World} {B : Nat} {v : Value} {n : Nat} (h : RowE w B v n) : ∃ A c, v = .slice A n c ∧ n ≤ c := by
  obtain ⟨l, rfl, ho⟩ := h
  obtain ⟨A, c, e, hc, _⟩ := ho.shape
  exact ⟨A, c, e, hc⟩
/-- A number stored where a second number of an entry may lie: each row is a row still. -/
theorem RowE.store {w : World} {B : Nat} {v : Value} {n : Nat} (h : RowE w B v n) (g k : Nat) (x : Int) : RowE (w.setCell ⟨g, k * 8 + 1, none⟩ (.int .i64 x)) B v n := by
  obtain ⟨l, rfl, ho⟩ := h
  by_cases hv : v.ownBlock = some g
  · obtain ⟨A, c, rfl, _, _⟩ := ho.shape
    have hA : A = some ⟨g, 0, none⟩ := by
      rcases ho.2 with ⟨hn, _⟩ | ⟨g', cap, cur, hn, _⟩
      · simp at hn; rw [hn.1] at hv; simp [Value.ownBlock] at hv
      · simp only [Value.slice.injEq] at hn
        rw [hn.1] at hv ⊢
        simp [Value.ownBlock] at hv
        rw [hv]
    subst hA
    by_cases hk : k < l.length
    · exact ⟨l.set k { l[k] with val := x }, by simp, ho.setAt rfl hk (j := 1) (by omega) (u := .int .i64 x) (e' := { l[k] with val := x }) rfl⟩
    · refine ⟨l, rfl, ?_⟩
      have := (World.ownsRow.stored ho (k * 8 + 1) (.int .i64 x)).1
      rw [List.set_eq_of_length_le (by rw [entCs_length]; omega)] at this
      exact this
  · exact ⟨l, rfl, World.ownsRow.kept ho (grown_setCell w _ _) (.inr hv)⟩
theorem RowE.elem {w : World} {B : Nat} {A : Option Addr} {n c : Nat} (h : RowE w B (.slice A n c) n) {k : Nat} (hk : k < n) :
    ∃ g x, A = some ⟨g, 0, none⟩ ∧ B ≤ g ∧ g < w.heap.size ∧ w.cell? ⟨g, k * 8 + 1, none⟩ = some (.int .i64 x) ∧ w.frozen? ⟨g, k * 8 + 1, none⟩ = false ∧ ∃ cur, w.heap[g]? = some (.cells cur 27 (0, 0)) := by
  obtain ⟨l, rfl, ho⟩ := h
  obtain ⟨g, rfl, h1, h2, h3, h4⟩ := ho.elem hk
  refine ⟨g, _, rfl, h1, h2, h3.2.1, h4 _, ?_⟩
  rcases ho.2 with ⟨hn, _⟩ | ⟨g', cap, cur, hn, _, hg, _⟩
  · simp at hn
  · simp only [Value.slice.injEq, Option.some.injEq, Addr.mk.injEq, and_true] at hn
    rw [hn.1]
    exact ⟨cur, hg⟩

/-- The four rows, and the array that names them. -/
structure Rows4 (w : World) (B G : Nat) (a b c d : Value) (na nb nc nd : Nat) : Prop where
  ra : RowE w B a na
  rb : RowE w B b nb
  rc : RowE w B c nc
  rd : RowE w B d nd
  hg : w.heap[G]? = some (.cells #[a, b, c, d] 23 (0, 0))
theorem Rows4.at_ {w : World} {B G : Nat} {a b c d : Value} {na nb nc nd : Nat} (h : Rows4 w B G a b c d na nb nc nd) {k : Nat} (hk : k < 4) :
    ∃ A cp n, w.cell? ⟨G, k, none⟩ = some (.slice A n cp) ∧ RowE w B (.slice A n cp) n ∧ n ≤ max (max na nb) (max nc nd) := by
  have hc := fun k => cell_of_row w G k _ _ _ h.hg
  match k, hk with
  | 0, _ => obtain ⟨A, cp, rfl, _⟩ := h.ra.shape; exact ⟨A, cp, na, by rw [hc]; rfl, h.ra, by omega⟩
  | 1, _ => obtain ⟨A, cp, rfl, _⟩ := h.rb.shape; exact ⟨A, cp, nb, by rw [hc]; rfl, h.rb, by omega⟩
  | 2, _ => obtain ⟨A, cp, rfl, _⟩ := h.rc.shape; exact ⟨A, cp, nc, by rw [hc]; rfl, h.rc, by omega⟩
  | 3, _ => obtain ⟨A, cp, rfl, _⟩ := h.rd.shape; exact ⟨A, cp, nd, by rw [hc]; rfl, h.rd, by omega⟩
theorem Rows4.store {w : World} {B G : Nat} {a b c d : Value} {na nb nc nd : Nat} (h : Rows4 w B G a b c d na nb nc nd) {g : Nat} (k : Nat) (x : Int) {cur : Array Value} (hg : w.heap[g]? = some (.cells cur 27 (0, 0))) :
    Rows4 (w.setCell ⟨g, k * 8 + 1, none⟩ (.int .i64 x)) B G a b c d na nb nc nd :=
  ⟨h.ra.store g k x, h.rb.store g k x, h.rc.store g k x, h.rd.store g k x, (heap_setCell_other w _ G _ (fun e => by
    have h1 := h.hg
    simp only at e
    rw [e, hg] at h1
    simp at h1)).trans h.hg⟩

set_option maxRecDepth 100000 in
set_option maxHeartbeats 2000000 in
theorem own_walk (A : Option Addr) (c : Nat) (l : List Ent) (i : Int) (w : World) (hc : l.length ≤ c) (_hm : c ≤ maxLen) (hr : RdE w A l) (hok : ∀ e ∈ l, e.ok) (_hi : -9223372036854775808 ≤ i ∧ i ≤ 9223372036854775807) :
    Calls Try.prog 4 #[.slice A l.length c, .int .i64 i] w (SaysTrue w) := by
  unfold maxLen at _hm
  have HR := Kept.mk hr
  have HK := Kept.mk hok
  clear hr hok
  by_cases h40 : 40 < l.length
  · go_enter Try.func4, Try.ntmps4
    go_wp2_with fail
    refine (awake9 _).mono ?_
    rintro en w4 ⟨rfl, b4⟩
    go_wp2_with fail
    go_ret
    exact ⟨rfl, b4⟩
  · by_cases h0 : l = []
    · subst h0
      go_enter Try.func4, Try.ntmps4
      go_wp2_with fail
      refine (awake9 _).mono ?_
      rintro en w4 ⟨rfl, b4⟩
      go_wp2_with fail
      go_ret
      exact ⟨rfl, b4⟩
    · have hpos : 0 < l.length := by rcases Nat.eq_zero_or_pos l.length with h | h; exact absurd (List.eq_nil_of_length_eq_zero h) h0; exact h
      have hz : ((l.length : Int) == 0) = false := by simp; omega
      obtain ⟨M, hM, hM0, hM1⟩ := mask255 i
      obtain ⟨K, hK, hK1⟩ : ∃ K : Nat, M % (l.length : Int) = K ∧ K < l.length := ⟨(M % (l.length : Int)).toNat, by have := Int.emod_nonneg M (show (l.length : Int) ≠ 0 by omega); omega, by have := Int.emod_lt_of_pos M (show (0 : Int) < l.length by omega); have := Int.emod_nonneg M (show (l.length : Int) ≠ 0 by omega); omega⟩
      have HL0 := Kept.mk h0
      clear h0
      go_enter Try.func4, Try.ntmps4
      go_wp2_with (at_builtin; go_must (refine append_ents _ rfl (.tmp 27) (.tmp 28) rfl w.heap.size rfl (OwnE.made (Nat.le_refl _)) rfl (HR.out.past (below_alloc_self _ _)) (by simp; omega) (by simp) ?_))
      intro v1 w1 ho1 _ hb1
      obtain ⟨A1, c1, rfl, hc1, hr1⟩ := ho1.shape
      have hb1 := (below_alloc_self w _).trans (hb1.mono (by simp))
      have HW := Kept.mk hr1
      have R1 := Kept.mk (HR.out.past hb1)
      have B1 := Kept.mk hb1
      have R1L := Kept.mk (HR.out.past hb1)
      clear ho1 hr1 hb1 HR
      go_wp2_with fail
      refine (push_yes A c l ⟨1, 0, 0, 0, 0, false, false, false⟩ 100 _ (by omega) R1.out (by omega)).mono ?_
      rintro en w2 ⟨v2, rfl, h2, b2⟩
      obtain ⟨A2, c2, rfl, hc2, -⟩ := h2.shape
      have R2 := Kept.mk (R1.out.past b2)
      have B2 := Kept.mk (b2 : Below w1.heap.size w1 w2)
      have O2 := Kept.mk (RowE.of_own h2 (Nat.le_refl _))
      clear h2 b2 R1
      rw [List.length_append, List.length_singleton] at O2 hc2 ⊢
      clear hM
      go_wp2_with fail
      refine (cut_any A c l ((K : Int) + 1) _ R2.out hc (by omega)).mono ?_
      rintro en w3 ⟨v3, rfl, h3, b3⟩
      obtain ⟨A3, c3, rfl, hc3, -⟩ := h3.shape
      have hlen3 : (l.take ((K : Int) + 1).toNat).length = K + 1 := by rw [List.length_take]; omega
      rw [hlen3] at hc3 ⊢
      have O3 := Kept.mk (RowE.of_own h3 B2.out.size)
      rw [hlen3] at O3
      have R3 := Kept.mk (R2.out.past b3)
      have O23 := Kept.mk (O2.out.past b3)
      have B3 := Kept.mk (B2.out.trans (b3.mono B2.out.size))
      clear h3 b3 R2 O2 B2 hlen3
      go_wp2_with fail
      refine (put_yes A c l K ⟨5, 0, 0, 0, 0, false, false, false⟩ _ R3.out hK1 (by omega)).mono ?_
      rintro en w4 ⟨v4, rfl, h4, b4⟩
      obtain ⟨A4, c4, rfl, hc4, -⟩ := h4.shape
      have O4 := Kept.mk (RowE.of_own h4 B3.out.size)
      rw [List.length_set] at O4 hc4 ⊢
      have R4 := Kept.mk (R3.out.past b4)
      have O24 := Kept.mk (O23.out.past b4)
      have O34 := Kept.mk (O3.out.past b4)
      have B4 := Kept.mk (B3.out.trans (b4.mono B3.out.size))
      clear h4 b4 R3 O23 O3 B3
      go_wp2_with fail
      refine (pop_at A c l _ hpos R4.out hc (by omega) (fun e he => (HK.out e he).2.2.2.1)).mono ?_
      rintro en w5 ⟨v5, rfl, h5, b5⟩
      obtain ⟨A5, c5, rfl, hc5, -⟩ := h5.shape
      have O5 := Kept.mk (RowE.of_own h5 B4.out.size)
      rw [popEnts_length] at O5 hc5 ⊢
      have R5 := Kept.mk (R4.out.past b5)
      have O25 := Kept.mk (O24.out.past b5)
      have O35 := Kept.mk (O34.out.past b5)
      have O45 := Kept.mk (O4.out.past b5)
      have B5 := Kept.mk (B4.out.trans (b5.mono B4.out.size))
      clear h5 b5 R4 O24 O34 O4 B4
      go_wp2_with fail
      have HG : ∀ o1 o2 : Obj, o2 = .cells #[.slice A2 (l.length + 1) c2, .slice A3 (K + 1) c3, .slice A4 l.length c4, .slice A5 (l.length - 1) c5] 23 (0, 0) →
          Rows4 ((w5.alloc o1).alloc o2) w1.heap.size (w5.heap.size + 1) (.slice A2 (l.length + 1) c2) (.slice A3 (K + 1) c3) (.slice A4 l.length c4) (.slice A5 (l.length - 1) c5) (l.length + 1) (K + 1) l.length (l.length - 1) := fun o1 o2 e => by
        subst e
        have f := (below_alloc_self w5 o1)
        exact ⟨(O25.out.past f).past (below_alloc_self _ _), (O35.out.past f).past (below_alloc_self _ _), (O45.out.past f).past (below_alloc_self _ _), (O5.out.past f).past (below_alloc_self _ _), heap_at_new (by simp)⟩
      have HBB : ∀ o1 o2 : Obj, Below w1.heap.size w1 ((w5.alloc o1).alloc o2) := fun o1 o2 => (B5.out.alloc B5.out.size o1).alloc (by have := B5.out.size; simp; omega) o2
      go_loopw [64] (fun j wr => ∃ k : Nat, k ≤ 4 ∧ j = .int .i64 k ∧ Rows4 wr w1.heap.size (w5.heap.size + 1) (.slice A2 (l.length + 1) c2) (.slice A3 (K + 1) c3) (.slice A4 l.length c4) (.slice A5 (l.length - 1) c5) (l.length + 1) (K + 1) l.length (l.length - 1) ∧ Below w1.heap.size w1 wr) (fun j _ => 4 - (intOf j).toNat)
      case atStart => exact ⟨0, by omega, rfl, HG _ _ rfl, HBB _ _⟩
      case round =>
        obtain ⟨k, hk, rfl, hrows, hb⟩ := hrel
        clear HG HBB
        by_cases hk4 : k < 4
        · obtain ⟨Ax, cx, nx, hcx, hrx, hnx⟩ := hrows.at_ hk4
          have hnx : nx ≤ 41 := by omega
          have HRW := Kept.mk hrows
          have HB := Kept.mk hb
          have HRX := Kept.mk hrx
          clear hrows hb hrx
          go_wp2_with fail
          obtain ⟨wo, rfl⟩ : ∃ wo : World, wo = wr := ⟨_, rfl⟩
          go_loopw [70] (fun j wq => ∃ q : Nat, q ≤ nx ∧ j = .int .i64 q ∧ Rows4 wq w1.heap.size (w5.heap.size + 1) (.slice A2 (l.length + 1) c2) (.slice A3 (K + 1) c3) (.slice A4 l.length c4) (.slice A5 (l.length - 1) c5) (l.length + 1) (K + 1) l.length (l.length - 1) ∧ RowE wq w1.heap.size (.slice Ax nx cx) nx ∧ Below w1.heap.size w1 wq) (fun j _ => nx - (intOf j).toNat)
          case atStart => exact ⟨0, by omega, rfl, HRW.out, HRX.out, HB.out⟩
          case round =>
            obtain ⟨q, hq, rfl, hrows, hrx, hb⟩ := hrel
            by_cases hqn : q < nx
            · obtain ⟨g, x, rfl, hg1, hg2, hgc, hgf, cur, hcur⟩ := hrx.elem hqn
              have HRW2 := Kept.mk hrows
              have HB2 := Kept.mk hb
              have HRX2 := Kept.mk hrx
              have HCU := Kept.mk hcur
              clear hrows hb hrx hcur
              go_wp2_with fail
              go_roundw
              case rel => exact ⟨q + 1, by omega, by go_num, HRW2.out.store q _ HCU.out, HRX2.out.store g q _, HB2.out.setCell (p := ⟨g, q * 8 + 1, Option.none⟩) hg1 _⟩
              case measure => simp [intOf]; omega
            · have HRW2 := Kept.mk hrows
              have HB2 := Kept.mk hb
              clear hrows hb hrx
              go_wp2_with fail
              go_roundw
              case rel => exact ⟨k + 1, by omega, by go_num, HRW2.out, HB2.out⟩
              case measure => simp [intOf]; omega
        · have HB := Kept.mk hb
          obtain ⟨lb, hlb, hob⟩ := hrows.rb
          have HOB := Kept.mk hob
          have HLB := Kept.mk hlb
          have HK4 := Kept.mk hk
          clear hrows hb hob hlb
          go_wp2_with (at_builtin; refine append_ent _ rfl (.tmp 83) (.tmp 85) rfl w1.heap.size rfl (HOB.out.past (below_alloc_self _ _)) _ ⟨77, 0, 0, 0, 0, false, false, false⟩ rfl (heap_at_new (by simp)) ?c1 ?c2 ?_)
          case c1 => have := HLB.out; omega
          case c2 => have := HB.out.size; simp; omega
          intro v6 w6 _ _ h63
          have hb6 : Below w1.heap.size w1 w6 := (HB.out.alloc HB.out.size _).trans h63
          have R6 := Kept.mk (HW.out.past hb6)
          have hb06 : Below w.heap.size w w6 := B1.out.trans (hb6.mono B1.out.size)
          have L6 := Kept.mk (R1L.out.past hb6)
          have B6 := Kept.mk hb06
          clear h63 hb6 hb06
          go_wp2_with fail
          go_loopw [89] (fun j wr => ∃ k : Nat, k ≤ l.length ∧ j = .int .i64 k ∧ Below w6.heap.size w6 wr) (fun j _ => l.length - (intOf j).toNat)
          case atStart => exact ⟨0, by omega, rfl, Below.refl _ _⟩
          case round =>
            obtain ⟨q, hq, rfl, hb⟩ := hrel
            by_cases hqn : q < l.length
            · obtain ⟨b, o, rfl, hb1, q0, q1, q2, q3, q4, q5, q6, q7⟩ := (L6.out.past hb).elem hqn
              obtain ⟨b', o', rfl, hb2, r0, r1, r2, r3, r4, r5, r6, r7⟩ := (R6.out.past hb).elem hqn
              have hne := fun w => run_neq_ent l[q] l[q] w
              unfold Ent.v at hne
              simp only [decide_true, Bool.not_true] at hne
              have HB7 := Kept.mk hb
              clear hb
              go_wp2_with fail
              go_quiet (fail)
              go_wp2_with fail
              go_roundw
              case rel => exact ⟨q + 1, by omega, by go_num, below_drewN HB7.out _⟩
              case measure => simp [intOf]; omega
            · have HB7 := Kept.mk (B6.out.trans (hb.mono B6.out.size))
              clear hb
              go_wp2_with fail
              refine (awake9 _).mono ?_
              rintro en w8 ⟨rfl, b8⟩
              have HB8 := Kept.mk (HB7.out.trans (b8.mono HB7.out.size))
              clear b8
              go_wp2_with fail
              go_ret
              exact ⟨rfl, HB8.out⟩
end Go.Proofs.Ytdfcbfcnanpolaa
