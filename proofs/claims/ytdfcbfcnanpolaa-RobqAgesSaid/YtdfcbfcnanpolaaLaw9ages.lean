/- The law RobqAges: entries go in the order in which they came. -/
import Derived.Test.YtdfcbfcnanpolaaAwa9
import Derived.Test.YtdfcbfcnanpolaaMask
import Derived.Test.YtdfcbfcnanpolaaOpen
import Derived.Lib.MinMax
import Derived.BigQuiet
namespace Go.Proofs.Ytdfcbfcnanpolaa
open Go.RowKit

/-- Entries 100, 101, .., each from one ahead of it or from none. -/
def Came (l : List Ent) : Prop := ∀ (i : Nat) (e : Ent), l[i]? = some e → e.pc = 100 + (i : Int) ∧ -1 ≤ e.frm ∧ e.frm ≤ 254
/-- What is left of them when q have gone. -/
def Aged (was m : List Ent) (q : Nat) : Prop := m.length + q = was.length ∧ ∀ (j : Nat) (e : Ent), m[j]? = some e → e.pc = 100 + (q : Int) + j ∧ ∃ e0 : Ent, was[q + j]? = some e0 ∧ e.frm = max (e0.frm - q) (-1)
theorem Came.nil : Came [] := fun i e h => by simp at h
theorem Came.snoc {l : List Ent} (h : Came l) {e : Ent} (h1 : e.pc = 100 + (l.length : Int)) (h2 : -1 ≤ e.frm) (h3 : e.frm ≤ 254) : Came (l ++ [e]) := by
  intro i x hx
  rw [List.getElem?_append] at hx
  split at hx
  · exact h i x hx
  · rename_i hi
    have : i - l.length = 0 := by
      have := (List.getElem?_eq_some_iff.1 hx).1
      simp at this
      omega
    rw [this] at hx
    simp at hx
    subst hx
    exact ⟨by rw [h1]; have : i = l.length := by omega
              rw [this], h2, h3⟩
theorem Aged.start {l : List Ent} (h : Came l) : Aged l l 0 := ⟨by simp, fun j e he => ⟨by have := (h j e he).1; omega, e, by simpa using he, by have := (h j e he).2.1; simp; omega⟩⟩
theorem Aged.pop {was m : List Ent} {q : Nat} (hw : Came was) (h : Aged was m q) (hpos : 0 < m.length) : Aged was (popEnts m) (q + 1) := by
  refine ⟨by rw [popEnts_length]; have := h.1; omega, fun j e he => ?_⟩
  unfold popEnts at he
  rw [List.getElem?_map, List.getElem?_tail] at he
  cases hx : m[j + 1]? with
  | none => rw [hx] at he; simp at he
  | some x =>
    rw [hx] at he
    simp at he
    obtain ⟨h1, e0, h2, h3⟩ := h.2 (j + 1) x hx
    have hc := (hw _ _ h2).2
    refine ⟨by rw [← he]; unfold Ent.down; split <;> simp_all <;> omega, e0, by rw [← h2]; congr 1; omega, ?_⟩
    rw [← he]
    unfold Ent.down
    split
    · simp only; omega
    · omega
theorem Aged.small {was m : List Ent} {q : Nat} (hw : Came was) (h : Aged was m q) (hq : q ≤ 1000) : Small m := by
  intro e he
  obtain ⟨j, hj⟩ := List.getElem?_of_mem he
  obtain ⟨_, e0, h2, h3⟩ := h.2 j e hj
  have := (hw _ _ h2).2
  unfold Ent.small
  omega

set_option maxRecDepth 100000 in
set_option maxHeartbeats 2000000 in
theorem ages_walk (n : Int) (A : Option Addr) (c : Nat) (lf : List Int) (gone : Int) (w : World) (_hn : -9223372036854775808 ≤ n ∧ n ≤ 9223372036854775807) (hc : lf.length ≤ c) (_hm : c ≤ maxLen) (hr : RdI w A lf) (_hok : ∀ x ∈ lf, -9223372036854775808 ≤ x ∧ x ≤ 9223372036854775807)
    (_hg : -9223372036854775808 ≤ gone ∧ gone ≤ 9223372036854775807) : Calls Try.prog 3 #[.int .i64 n, .slice A lf.length c, .int .i64 gone] w (SaysTrue w) := by
  unfold maxLen at _hm
  have HR := Kept.mk hr
  clear hr _hok
  obtain ⟨M, hM, hM0, hM1⟩ := mask15 n
  obtain ⟨N, rfl⟩ := Int.eq_ofNat_of_zero_le hM0
  obtain ⟨G, hG, hG0, hG1⟩ := mask255 gone
  obtain ⟨K, hK⟩ := Int.eq_ofNat_of_zero_le (Int.emod_nonneg G (show ((N : Int) + 2) ≠ 0 by omega))
  have hK1 : K ≤ N + 1 := by have := Int.emod_lt_of_pos G (show (0 : Int) < (N : Int) + 2 by omega); omega
  have hK' : G % ((N : Int) + 1 + 1) = K := by rw [show (N : Int) + 1 + 1 = N + 2 by omega]; exact hK
  go_enter Try.func3, Try.ntmps3
  go_wp2_with fail
  simp only [hK']
  clear hM hG hK hK'
  go_loopw [7, 8] (fun v i wr => ∃ (k : Nat) (l : List Ent), k ≤ N + 1 ∧ i = .int .i64 k ∧ l.length = k ∧ Kept (Came l) ∧ OwnE wr w.heap.size v l ∧ Below w.heap.size w wr) (fun _ i _ => N + 1 - (intOf i).toNat)
  case atStart => exact ⟨0, [], by omega, rfl, rfl, ⟨Came.nil⟩, OwnE.nil, Below.refl _ _⟩
  case round =>
    obtain ⟨k, l, hk, rfl, hl, hcame, ho, hb⟩ := hrel
    obtain ⟨A1, c1, rfl, hc1, r1⟩ := ho.shape
    rw [hl] at hc1 ⊢
    have HL := Kept.mk hl
    have HO := Kept.mk ho
    have HB := Kept.mk hb
    have H1 := Kept.mk r1
    clear hl ho hb r1
    by_cases hlt : (k : Int) < (N : Int) + 1
    · by_cases hf : k < lf.length
      · obtain ⟨b, o, rfl, hb1, q0⟩ := (HR.out.past HB.out).at_ hf
        obtain ⟨F, hF, hF0, hF1⟩ := mask255 lf[k]
        obtain ⟨R, hR⟩ := Int.eq_ofNat_of_zero_le (Int.emod_nonneg F (show ((k : Int) + 1) ≠ 0 by omega))
        have hR1 : R ≤ 255 := by
          have h1 := Int.emod_lt_of_pos F (show (0 : Int) < (k : Int) + 1 by omega)
          omega
        go_wp2_with fail
        refine (push_yes_at A1 k c1 l ⟨100 + (k : Int), 0, 0, (R : Int) - 1, 0, false, false, false⟩ ((N : Int) + 1) _ HL.out hlt H1.out (by omega)).mono ?_
        rintro en w1 ⟨v1, rfl, h1, b1⟩
        have H2 := Kept.mk (h1.lower HB.out.size)
        have B2 := Kept.mk (HB.out.trans (b1.mono HB.out.size))
        clear h1 b1
        go_wp2_with fail
        exact ⟨⟨k + 1, l ++ [⟨100 + (k : Int), 0, 0, (R : Int) - 1, 0, false, false, false⟩], by omega, by go_num, by simp [HL.out], ⟨hcame.out.snoc (by rw [HL.out]) (by simp only; omega) (by simp only; omega)⟩, H2.out, B2.out⟩, by simp [intOf]; omega⟩
      · go_wp2_with fail
        refine (push_yes_at A1 k c1 l ⟨100 + (k : Int), 0, 0, -1, 0, false, false, false⟩ ((N : Int) + 1) _ HL.out hlt H1.out (by omega)).mono ?_
        rintro en w1 ⟨v1, rfl, h1, b1⟩
        have H2 := Kept.mk (h1.lower HB.out.size)
        have B2 := Kept.mk (HB.out.trans (b1.mono HB.out.size))
        clear h1 b1
        go_wp2_with fail
        exact ⟨⟨k + 1, l ++ [⟨100 + (k : Int), 0, 0, -1, 0, false, false, false⟩], by omega, by go_num, by simp [HL.out], ⟨hcame.out.snoc (by rw [HL.out]) (by simp) (by simp)⟩, H2.out, B2.out⟩, by simp [intOf]; omega⟩
    · obtain rfl : k = N + 1 := by omega
      go_wp2_with (at_builtin; go_must (refine append_ents _ rfl (.tmp 57) (.tmp 58) rfl w.heap.size rfl (OwnE.made HB.out.size) (m := l) (by rw [HL.out]; rfl) (H1.out.past (below_alloc_self _ _)) (by simp [HL.out]; omega) (by have := HB.out.size; simp; omega) ?_))
      intro v2 w2 ho2 hg2 hb2
      obtain ⟨A3, c3, rfl, hc3, r3⟩ := ho2.shape
      have hb02 : Below w.heap.size w w2 := (HB.out.alloc HB.out.size _).trans hb2
      have hbr : Below wr.heap.size wr w2 := (below_alloc_self wr _).grown hg2 (by simp) (fun k hk => by simp [Value.ownBlock] at hk; omega)
      have W3 := Kept.mk r3
      have B3 := Kept.mk hb02
      have O3 := Kept.mk (HO.out.past hbr)
      clear ho2 hb2 hg2 r3 hb02 hbr
      rw [HL.out] at hc3 ⊢
      go_wp2_with fail
      go_loopw [7, 13] (fun v i wq => ∃ (q : Nat) (m : List Ent), q ≤ K ∧ i = .int .i64 q ∧ Kept (Aged l m q) ∧ OwnE wq w.heap.size v m ∧ Below w2.heap.size w2 wq) (fun _ i _ => K - (intOf i).toNat)
      case atStart => exact ⟨0, l, by omega, rfl, ⟨Aged.start hcame.out⟩, by rw [← HL.out]; exact O3.out, Below.refl _ _⟩
      case round =>
        obtain ⟨q, m, hq, rfl, hag, ho, hb⟩ := hrel
        obtain ⟨A4, c4, rfl, hc4, r4⟩ := ho.shape
        have hml : m.length + q = N + 1 := by rw [← HL.out]; exact hag.out.1
        have H4 := Kept.mk r4
        have HB4 := Kept.mk hb
        clear ho hb r4
        by_cases hqk : q < K
        · have hpos : 0 < m.length := by omega
          have hpc : m[0].pc = 100 + (q : Int) := by
            have := (hag.out.2 0 m[0] (List.getElem?_eq_getElem hpos)).1
            simpa using this
          have HML := Kept.mk hml
          clear hml
          go_wp2_with fail
          refine (pop_at A4 c4 m _ hpos H4.out hc4 (by have := HML.out; omega) (hag.out.small hcame.out (by omega))).mono ?_
          rintro en w5 ⟨v5, rfl, h5, b5⟩
          have H5 := Kept.mk (h5.lower (Nat.le_trans B3.out.size HB4.out.size))
          have B5 := Kept.mk (HB4.out.trans (b5.mono HB4.out.size))
          clear h5 b5
          go_wp2_with fail
          go_roundw
          case rel => exact ⟨q + 1, popEnts m, by omega, by go_num, ⟨hag.out.pop hcame.out hpos⟩, H5.out.past (below_alloc_self _ _), B5.out.alloc B5.out.size _⟩
          case measure => simp [intOf]; omega
        · obtain rfl : q = K := by omega
          have hdec : ((m.length : Int) != (N : Int) + 1 - (q : Int)) = false := by simp; omega
          have HML := Kept.mk hml
          clear hml
          go_wp2_with fail
          obtain ⟨wq, rfl⟩ : ∃ wq : World, wq = wr := ⟨_, rfl⟩
          have HK2 := Kept.mk (B3.out.trans (HB4.out.mono B3.out.size))
          go_loopw [89] (fun j wr => ∃ k : Nat, k ≤ m.length ∧ j = .int .i64 k ∧ Below wq.heap.size wq wr) (fun j _ => m.length - (intOf j).toNat)
          case atStart => exact ⟨0, by omega, rfl, Below.refl _ _⟩
          case round =>
            obtain ⟨k, hk2, rfl, hb⟩ := hrel
            by_cases hkm : k < m.length
            · obtain ⟨b, o, rfl, hb1, q0, q1, q2, q3, q4, q5, q6, q7⟩ := (H4.out.past hb).elem hkm
              obtain ⟨hp, x, hx, hfx⟩ := hag.out.2 k m[k] (List.getElem?_eq_getElem hkm)
              have hql : q + k < l.length := by have := HML.out; have := HL.out; omega
              have hxe : l[q + k] = x := by rw [List.getElem?_eq_getElem hql] at hx; exact Option.some.inj hx
              obtain ⟨b', o', rfl, hb2, r0, r1, r2, r3, r4, r5, r6, r7⟩ := ((W3.out.past HB4.out).past hb).elem hql
              rw [hxe] at r0 r1 r2 r3 r4 r5 r6 r7
              obtain ⟨hx1, hx2⟩ := (hcame.out _ _ hx).2
              have hkN : k ≤ 17 := by have := HML.out; omega
              have HB7 := Kept.mk hb
              have HX := Kept.mk hx
              have HXE := Kept.mk hxe
              clear hb hx hxe
              have hlen3 : (q : Int) + k < (l.length : Int) := by omega
              have hfx' : (m[k].frm != max (x.frm - (q : Int)) (-1)) = false := by rw [hfx]; simp
              clear hfx
              have hqN : q ≤ 16 := by omega
              have hqN' : (q : Int) ≤ 16 := by omega
              have hkN' : (k : Int) ≤ 17 := by omega
              have hpc' : (m[k].pc != 100 + (q : Int) + (k : Int)) = false := by rw [hp]; simp
              clear hp
              have hm1 : -1000 ≤ max (x.frm - (q : Int)) (-1) ∧ max (x.frm - (q : Int)) (-1) ≤ 1000 := by omega
              have wr1 : IntKind.i64.wrap (100 + (q : Int)) = 100 + (q : Int) := IntWalk.i64_in _ (by omega)
              have wr2 : IntKind.i64.wrap (100 + (q : Int) + (k : Int)) = 100 + (q : Int) + (k : Int) := IntWalk.i64_in _ (by omega)
              have wr3 : IntKind.i64.wrap ((q : Int) + (k : Int)) = (q : Int) + (k : Int) := IntWalk.i64_in _ (by omega)
              have wr4 : IntKind.i64.wrap (x.frm - (q : Int)) = x.frm - (q : Int) := IntWalk.i64_in _ (by omega)
              have ix0 : (0 : Int) ≤ (q : Int) + (k : Int) := by omega
              have ix1 : (q : Int) + (k : Int) < (N : Int) + 1 := by have := HL.out; omega
              have ix2 : ((q : Int) + (k : Int)).toNat = q + k := by omega
              have ix3 : q + k < N + 1 := by omega
              go_wp2_with fail
              go_quiet (fail)
              clear wr1 wr2 wr3 wr4
              go_wp2_with fail
              go_roundw
              case rel => exact ⟨k + 1, by omega, by go_num, below_drewN HB7.out _⟩
              case measure => simp [intOf]; omega
            · go_wp2_with fail
              refine (awake9 _).mono ?_
              rintro en w8 ⟨rfl, b8⟩
              go_wp2_with fail
              go_ret
              exact ⟨rfl, HK2.out.trans ((hb.trans (b8.mono hb.size)).mono HK2.out.size)⟩
end Go.Proofs.Ytdfcbfcnanpolaa
