/- The law RetbReal: what returns come to hangs on calls and returns alone. -/
import Derived.Test.YtdfcbfcnanpolaaLaw12two
namespace Go.Proofs.Ytdfcbfcnanpolaa
open Go.RowKit

def il3 : List Inst := [⟨8, 0, 0, false, 0, false, 0, ⟨#[]⟩, 0⟩, ⟨9, 0, 0, false, 0, false, 0, ⟨#[]⟩, 0⟩, ⟨10, 0, 0, false, 0, false, 0, ⟨#[]⟩, 0⟩]
/-- Entries of places 0, 1, 2. -/
def Three (l : List Ent) : Prop := ∀ e ∈ l, 0 ≤ e.pc ∧ e.pc ≤ 2
theorem Three.snoc {l : List Ent} (h : Three l) {e : Ent} (h0 : 0 ≤ e.pc) (h2 : e.pc ≤ 2) : Three (l ++ [e]) := by
  intro x hx
  rw [List.mem_append] at hx
  rcases hx with hx | hx
  · exact h x hx
  · simp at hx
    subst hx
    exact ⟨h0, h2⟩
theorem il3_call {s : List Int} {e : Ent} {l : List Ent} (h : e.pc = 0) : realOf il3 s (e :: l) = if 4 ≤ s.length then none else realOf il3 (s ++ [1]) l := by
  rw [realOf]; simp [h, instAt, il3]
theorem il3_ret {s : List Int} {e : Ent} {l : List Ent} (h : e.pc = 1) : realOf il3 s (e :: l) = if s.length = 0 then none else realOf il3 (s.take (s.length - 1)) l := by
  rw [realOf]; simp [h, instAt, il3]
theorem il3_other {s : List Int} {e : Ent} {l : List Ent} (h : e.pc = 2) : realOf il3 s (e :: l) = realOf il3 s l := by
  rw [realOf]; simp [h, instAt, il3]

theorem real_yes_at (p : Prg) (il : List Inst) (A : Option Addr) (n c : Nat) (s : List Int) (A' : Option Addr) (n' c' : Nat) (l : List Ent) (i : Nat) (r : List Int) (w : World) (hs' : s.length = n) (hl' : l.length = n') (h : realOf il s (l.take i) = some r) (hn : p.n = il.length) (hm : p.n ≤ 1000000) (hp : RdN w p.A il)
    (hs : RdI w A s) (hsn : n ≤ 1000) (hl : RdE w A' l) (hlc : n' ≤ c') (hln : n' ≤ 1000000) :
    Calls Try.prog 24 #[p.v, .slice A n c, .slice A' n' c', .int .i64 i] w (fun en w' => ∃ v, en = .returned (.tuple #[v, .bool true]) ∧ OwnI w' w.heap.size v r ∧ Below w.heap.size w w') := by
  subst hs' hl'
  exact real_yes p il A c s A' c' l i r w (by rw [Int.toNat_natCast]; exact h) hn hm hp hs hsn hl hlc hln
theorem real_no_at (p : Prg) (il : List Inst) (A : Option Addr) (n c : Nat) (s : List Int) (A' : Option Addr) (n' c' : Nat) (l : List Ent) (i : Nat) (w : World) (hs' : s.length = n) (hl' : l.length = n') (h : realOf il s (l.take i) = none) (hn : p.n = il.length) (hm : p.n ≤ 1000000) (hp : RdN w p.A il)
    (hs : RdI w A s) (hsn : n ≤ 1000) (hl : RdE w A' l) (hlc : n' ≤ c') (hln : n' ≤ 1000000) :
    Calls Try.prog 24 #[p.v, .slice A n c, .slice A' n' c', .int .i64 i] w (fun en w' => en = .returned (.tuple #[.slice none 0 0, .bool false]) ∧ Below w.heap.size w w') := by
  subst hs' hl'
  exact real_no p il A c s A' c' l i w (by rw [Int.toNat_natCast]; exact h) hn hm hp hs hsn hl hlc hln
theorem OwnE.reads_at {w : World} {A : Option Addr} {l : List Ent} {n : Nat} (h : RdE w A l) (hl : l.length = n) {q : Nat} (hq : q < n) : ∃ b o, A = some ⟨b, o, none⟩ ∧ b < w.heap.size ∧ w.cell? ⟨b, o + q * 8, none⟩ = some (.int .i64 (l[q]'(by omega)).pc) := by
  obtain ⟨b, o, e, hb, h0, _⟩ := h.elem (k := q) (by omega)
  exact ⟨b, o, e, hb, h0⟩

set_option maxRecDepth 100000 in
set_option maxHeartbeats 4000000 in
theorem rreal_walk (A : Option Addr) (c : Nat) (row : List Int) (A' : Option Addr) (c' : Nat) (st : List Int) (place : Int) (w : World) (_hc : row.length ≤ c) (_hm : c ≤ maxLen) (hr : RdI w A row) (_hok : ∀ x ∈ row, -9223372036854775808 ≤ x ∧ x ≤ 9223372036854775807)
    (hc' : st.length ≤ c') (_hm' : c' ≤ maxLen) (hr' : RdI w A' st) (_hok' : ∀ x ∈ st, -9223372036854775808 ≤ x ∧ x ≤ 9223372036854775807) (_hn : -9223372036854775808 ≤ place ∧ place ≤ 9223372036854775807) :
    Calls Try.prog 8 #[.slice A row.length c, .slice A' st.length c', .int .i64 place] w (SaysTrue w) := by
  unfold maxLen at _hm _hm'
  obtain ⟨T, hT, hT0, hT1⟩ := mask15 place
  obtain ⟨N, rfl⟩ := Int.eq_ofNat_of_zero_le hT0
  obtain ⟨Mn, hMn, hM4, hMl⟩ : ∃ Mn : Nat, min (st.length : Int) 4 = Mn ∧ Mn ≤ 4 ∧ Mn ≤ st.length := ⟨min st.length 4, by omega, by omega, by omega⟩
  obtain ⟨hcut, hs0⟩ := cut_int_to hr' hc' Mn hMl
  have hsl : (st.take Mn).length = Mn := by rw [List.length_take]; omega
  generalize st.take Mn = s at hs0 hsl
  have HR := Kept.mk hr
  have HS := Kept.mk hs0
  have HSL := Kept.mk hsl
  clear hr _hok hr' _hok' hs0 hsl hMl
  go_enter Try.func8, Try.ntmps8
  go_wp2_with fail
  obtain ⟨W, hWb, hWi, hWp⟩ : ∃ W : World, Below w.heap.size w W ∧ RdN W (some ⟨w.heap.size, 0, none⟩) il3 ∧ W = W := ⟨_, (below_alloc_self w (.cells (instCs il3).toArray 48)), reads_block (heap_alloc_new w _) rfl, rfl⟩
  clear hWb hWi hWp W
  go_loopw [8, 9] (fun v i wr => ∃ (k : Nat) (el : List Ent), k ≤ row.length ∧ k ≤ 14 ∧ i = .int .i64 k ∧ el.length = k ∧ Kept (Three el) ∧ OwnE wr (w.heap.size + 2) v el ∧
    Below (w.heap.size + 2) ((w.alloc (.cells (instCs il3).toArray 48)).alloc (.cells (Prg.cs ⟨1, 0, 0, 0, 0, 0, 0, .slice none 0 0, .slice none 0 0, some ⟨w.heap.size, 0, none⟩, 3, 3⟩).toArray 54)) wr) (fun _ i _ => 14 - (intOf i).toNat)
  case atStart => exact ⟨0, [], by omega, by omega, rfl, rfl, ⟨fun e he => by simp at he⟩, OwnE.nil, Below.refl _ _⟩
  case round =>
    obtain ⟨k, el, hk, hk14, rfl, hel, h3, ho, hb⟩ := hrel
    have hb0 : Below w.heap.size w wr := ((below_alloc_self w (.cells (instCs il3).toArray 48)).alloc (by simp) (.cells (Prg.cs ⟨1, 0, 0, 0, 0, 0, 0, .slice none 0 0, .slice none 0 0, some ⟨w.heap.size, 0, none⟩, 3, 3⟩).toArray 54)).trans (hb.mono (by omega))
    obtain ⟨A1, c1, rfl, hc1, r1⟩ := ho.shape
    rw [hel] at hc1 ho ⊢
    have NIr : Kept (RdN wr (some ⟨w.heap.size, 0, none⟩) il3) := ⟨RdN.past (w := (w.alloc (.cells (instCs il3).toArray 48)).alloc (.cells (Prg.cs ⟨1, 0, 0, 0, 0, 0, 0, .slice none 0 0, .slice none 0 0, some ⟨w.heap.size, 0, none⟩, 3, 3⟩).toArray 54)) (reads_block (n := 3) (size := 9) (heap_alloc2_old w _ _) rfl) (hb.mono (by simp))⟩
    have HPr := Kept.mk ((hb.block (w.heap.size + 1) (by omega)).trans (heap_alloc2_new w _ (.cells (Prg.cs ⟨1, 0, 0, 0, 0, 0, 0, .slice none 0 0, .slice none 0 0, some ⟨w.heap.size, 0, none⟩, 3, 3⟩).toArray 54)))
    have hsz : w.heap.size + 2 ≤ wr.heap.size := by have := hb.size; simpa using this
    have HEL := Kept.mk hel
    have HO := Kept.mk ho
    have HB := Kept.mk hb
    have HB0 := Kept.mk hb0
    have R1 := Kept.mk r1
    clear hel ho hb hb0 r1
    by_cases hgo : k < row.length ∧ k < 14
    · obtain ⟨hlt, h14⟩ := hgo
      obtain ⟨b, o, rfl, hbs, q0⟩ := (HR.out.past HB0.out).at_ hlt
      obtain ⟨F, hF, hF0, hF1⟩ := mask255 row[k]
      obtain ⟨R, hR⟩ := Int.eq_ofNat_of_zero_le (Int.emod_nonneg F (show (3 : Int) ≠ 0 by omega))
      have hR2 : R ≤ 2 := by have := Int.emod_lt_of_pos F (show (0 : Int) < 3 by omega); omega
      go_wp2_with (at_builtin; go_must (refine append_ent _ rfl (.tmp 31) (.tmp 39) rfl (w.heap.size + 2) rfl (HO.out.past (below_alloc_self _ _)) _ ⟨(R : Int), 0, 0, 0, 0, false, false, false⟩ rfl (heap_at_new (by simp)) ?c1 ?c2 ?_))
      case c1 => rw [HEL.out]; omega
      case c2 => have := HB.out.size; simp at this ⊢; omega
      intro v2 w2 h2 _ b2
      have H2 := Kept.mk h2
      have B2 := Kept.mk ((HB.out.alloc (by have := HB.out.size; simpa using this) _).trans b2)
      clear h2 b2
      go_wp2_with fail
      exact ⟨⟨k + 1, el ++ [⟨(R : Int), 0, 0, 0, 0, false, false, false⟩], by omega, by omega, by go_num, by simp [HEL.out], ⟨h3.out.snoc (by simp) (by simp; omega)⟩, H2.out, B2.out⟩, by simp [intOf]; omega⟩
    · have hsp : (k < row.length ∧ (14 : Int) ≤ k) ∨ row.length ≤ k := by omega
      clear hgo
      rcases hsp with ⟨hlt, h14⟩ | hlt
      all_goals
        go_wp2_with (at_builtin; go_must (refine append_nums _ rfl (.tmp 41) (.tmp 46) rfl wr.heap.size rfl (OwnI.made (Nat.le_refl _)) (m := s) (by rw [HSL.out]; rfl) ((HS.out.past HB0.out).past (below_alloc_self _ _)) (by simp [HSL.out]; omega) (by simp) ?_))
        intro v2 w2 ho2 _ hb2
        obtain ⟨A2, c2, rfl, hc2, r2⟩ := ho2.shape_at (n := Mn) HSL.out
        have hb2 : Below wr.heap.size wr w2 := (below_alloc_self wr _).trans (hb2.mono (by simp))
        have S2 : Kept (RdI w2 A2 s) := ⟨r2⟩
        have E2 := Kept.mk (R1.out.past hb2)
        have NI2 := Kept.mk (NIr.out.past hb2)
        have HP2 := Kept.mk ((hb2.block _ (by omega)).trans HPr.out)
        have hsz2 : w.heap.size + 2 ≤ w2.heap.size := Nat.le_trans hsz hb2.size
        have B2 := Kept.mk (HB0.out.trans (hb2.mono HB0.out.size))
        clear ho2 r2 hb2 NIr HPr R1 HO HB HB0 hsz HS HR
        go_wp2_with (at_builtin; go_must (refine append_nums _ rfl (.tmp 48) (.tmp 49) rfl w2.heap.size rfl (OwnI.made (Nat.le_refl _)) (m := s) (by rw [HSL.out]; rfl) (S2.out.past (below_alloc_self _ _)) (by simp [HSL.out]; omega) (by simp) ?_))
        intro v3 w3 ho3 _ hb3
        have O3 : Kept (OwnI w3 w2.heap.size v3 s) := ⟨ho3⟩
        have B3 := Kept.mk ((below_alloc_self w2 _).trans (hb3.mono (by simp)))
        clear ho3 hb3
        go_wp2_with fail
        clear hlt hk
        try clear h14
        go_loopw [11, 12, 13] (fun v okv i wq => ∃ (q : Nat) (want : List Int) (ok : Bool), i = .int .i64 q ∧ okv = .bool ok ∧ q ≤ 15 ∧ want.length ≤ 5 ∧ (ok = true → want.length ≤ 4) ∧ Kept (realOf il3 s (el.take N) = if ok = true then realOf il3 want ((el.take N).drop q) else none) ∧
          OwnI wq w2.heap.size v want ∧ Below w2.heap.size w2 wq) (fun _ _ i _ => 15 - (intOf i).toNat)
        case atStart => exact ⟨0, s, true, rfl, rfl, by omega, by rw [HSL.out]; omega, fun _ => by rw [HSL.out]; omega, ⟨by simp⟩, O3.out, B3.out⟩
        case round =>
          obtain ⟨q, want, ok, rfl, rfl, hq15, hw5, hw4, hre, ho, hb⟩ := hrel
          obtain ⟨A5, c5, rfl, hc5, r5⟩ := ho.shape
          have O5 := Kept.mk ho
          have B5 := Kept.mk hb
          have R5 := Kept.mk r5
          clear ho hb r5
          have hdec : (ok = true ∧ q < N ∧ q < k) ∨ (N : Int) ≤ q ∨ ((q : Int) < N ∧ (k : Int) ≤ q) ∨ ((q : Int) < N ∧ (q : Int) < k ∧ ok = false) := by
            cases ok
            · simp; omega
            · simp; omega
          have fin : ¬ (ok = true ∧ q < N ∧ q < k) → Kept (realOf il3 s (el.take N) = if ok = true then some want else none) := by
            intro hno
            rw [hre.out]
            cases ok with
            | false => exact ⟨rfl⟩
            | true =>
              have : (el.take N).drop q = [] := by
                apply List.drop_of_length_le
                rw [List.length_take, HEL.out]
                simp at hno
                omega
              rw [this, realOf]
              exact ⟨rfl⟩
          rcases hdec with ⟨rfl, hqN, hqk⟩ | hex
          · clear fin
            have hw4 := hw4 rfl
            obtain ⟨b, o, rfl, hbs, q0⟩ := OwnE.reads_at (E2.out.past B5.out) HEL.out hqk
            have hqe : q < el.length := by rw [HEL.out]; exact hqk
            obtain ⟨hp0, hp2⟩ := h3.out el[q] (List.getElem_mem hqe)
            have hdr : (el.take N).drop q = el[q] :: (el.take N).drop (q + 1) := by
              rw [List.drop_eq_getElem_cons (by rw [List.length_take]; omega), List.getElem_take]
            have hre := hre.out
            rw [if_pos rfl, hdr] at hre
            generalize el[q] = e at hre q0 hp0 hp2
            have HRE := Kept.mk hre
            clear hre hdr hqe
            rcases (show e.pc = 0 ∨ e.pc = 1 ∨ e.pc = 2 by omega) with h0 | h1 | h2
            · rw [h0] at q0
              have HPC := Kept.mk h0
              clear h0 hp0 hp2
              go_wp2_with (at_builtin; go_must (refine append_int _ rfl (.tmp 77) (.tmp 78) rfl w2.heap.size rfl (O5.out.past (below_alloc_self _ _)) _ 1 rfl (heap_at_new (by simp)) ?c1 ?c2 ?_))
              case c1 => omega
              case c2 => have := B5.out.size; simp; omega
              intro v6 w6 h6 _ b6
              have O6 := Kept.mk h6
              have B6 := Kept.mk ((B5.out.alloc B5.out.size _).trans b6)
              clear h6 b6
              go_wp2_with fail
              refine ⟨⟨q + 1, want ++ [1], decide (want.length < 4), by go_num, by simp; omega, by omega, by simp; omega, fun h => by simp at h ⊢; omega, ⟨?_⟩, O6.out, B6.out⟩, by simp [intOf]; omega⟩
              rw [HRE.out, il3_call HPC.out]
              by_cases h4 : 4 ≤ want.length
              · rw [if_pos h4, if_neg (by simp; omega)]
              · rw [if_neg h4, if_pos (by simp; omega)]
            · rw [h1] at q0
              have HPC := Kept.mk h1
              clear h1 hp0 hp2
              cases hwl : want.length with
              | zero =>
                have HWL := Kept.mk hwl
                clear hwl hw4 hw5 hc5
                go_wp2_with fail
                exact ⟨⟨q + 1, want, false, by go_num, by simp, by omega, by rw [HWL.out]; omega, fun h => absurd h (by simp), ⟨by rw [HRE.out, il3_ret HPC.out, if_pos HWL.out, if_neg (by simp)]⟩, by rw [← HWL.out]; exact O5.out, B5.out⟩, by simp [intOf]; omega⟩
              | succ j =>
                obtain ⟨hcut2, _⟩ := cut_int_to R5.out hc5 j (by omega)
                rw [hwl] at hcut2
                have hj4 : j + 1 ≤ 4 := by omega
                have HWL := Kept.mk hwl
                clear hwl hw4 hw5 hc5
                go_wp2_with fail
                exact ⟨⟨q + 1, want.take j, true, by go_num, by simp, by omega, by simp; omega, fun _ => by simp; omega, ⟨by rw [HRE.out, il3_ret HPC.out, if_neg (by rw [HWL.out]; omega), if_pos rfl, HWL.out]; rfl⟩, OwnI.take O5.out rfl (by rw [HWL.out]; omega), B5.out⟩, by simp [intOf]; omega⟩
            · rw [h2] at q0
              have HPC := Kept.mk h2
              clear h2 hp0 hp2
              go_wp2_with fail
              exact ⟨⟨q + 1, want, true, by go_num, rfl, by omega, by omega, fun _ => hw4, ⟨by rw [HRE.out, il3_other HPC.out, if_pos rfl]⟩, O5.out, B5.out⟩, by simp [intOf]; omega⟩
          · have fin2 := fin (by
              rintro ⟨g1, g2, g3⟩
              rcases hex with h | h | h
              · omega
              · omega
              · exact absurd g1 (by rw [h.2.2]; simp))
            clear fin hw4 hre
            obtain ⟨p0, p1, p2, p3, p4, p5, p6, p7, p8, p9⟩ := PrgAt.of_block (p := ⟨1, 0, 0, 0, 0, 0, 0, .slice none 0 0, .slice none 0 0, some ⟨w.heap.size, 0, none⟩, 3, 3⟩) ((B5.out.block (w.heap.size + 1) (by omega)).trans HP2.out)
            simp only at p0 p1 p2 p3 p4 p5 p6 p7 p8 p9
            cases ok with
            | false =>
              have fin3 : Kept (realOf il3 s (el.take N) = none) := ⟨by have := fin2.out; simpa using this⟩
              clear fin2
              rcases hex with hx | ⟨hx1, hx2⟩ | ⟨hx1, hx2, _⟩
              all_goals
                go_wp2_with fail
                refine (real_no_at ⟨1, 0, 0, 0, 0, 0, 0, .slice none 0 0, .slice none 0 0, some ⟨w.heap.size, 0, none⟩, 3, 3⟩ il3 A2 Mn c2 s A1 k c1 el N _ HSL.out HEL.out fin3.out rfl (by simp) (NI2.out.past B5.out) (S2.out.past B5.out) (by omega) (E2.out.past B5.out) hc1 (by omega)).mono ?_
                rintro en w6 ⟨rfl, b6⟩
                have B7 := Kept.mk (B2.out.trans ((B5.out.trans (b6.mono B5.out.size)).mono B2.out.size))
                clear b6 p0 p1 p2 p3 p4 p5 p6 p7 p8 p9
                go_wp2_with fail
                refine (awake12 _).mono ?_
                rintro en w8 ⟨rfl, b8⟩
                have B8 := Kept.mk (B7.out.trans (b8.mono B7.out.size))
                clear b8
                go_wp2_with fail
                go_ret
                exact ⟨rfl, B8.out⟩
            | true =>
              have fin3 : Kept (realOf il3 s (el.take N) = some want) := ⟨by have := fin2.out; simpa using this⟩
              clear fin2
              rcases hex with hx | ⟨hx1, hx2⟩ | ⟨_, _, hx⟩
              rotate_left 2
              · exact absurd hx (by simp)
              all_goals
                go_wp2_with fail
                refine (real_yes_at ⟨1, 0, 0, 0, 0, 0, 0, .slice none 0 0, .slice none 0 0, some ⟨w.heap.size, 0, none⟩, 3, 3⟩ il3 A2 Mn c2 s A1 k c1 el N want _ HSL.out HEL.out fin3.out rfl (by simp) (NI2.out.past B5.out) (S2.out.past B5.out) (by omega) (E2.out.past B5.out) hc1 (by omega)).mono ?_
                rintro en w6 ⟨v6, rfl, h6, b6⟩
                obtain ⟨A6, c6, rfl, hc6, r6⟩ := h6.shape
                have R6 := Kept.mk r6
                have R56 := Kept.mk (R5.out.past b6)
                have B6 := Kept.mk (B2.out.trans ((B5.out.trans (b6.mono B5.out.size)).mono B2.out.size))
                clear h6 r6 b6 p0 p1 p2 p3 p4 p5 p6 p7 p8 p9
                go_wp2_with fail
                refine (same_ints A6 A5 c6 c5 want want _ R6.out R56.out (by omega)).mono ?_
                rintro en w7 ⟨rfl, b7⟩
                have B7 := Kept.mk (B6.out.trans (b7.mono B6.out.size))
                clear b7
                have hdt : decide (want = want) = true := by simp
                go_wp2_with fail
                refine (awake12 _).mono ?_
                rintro en w8 ⟨rfl, b8⟩
                have B8 := Kept.mk (B7.out.trans (b8.mono B7.out.size))
                clear b8
                go_wp2_with fail
                go_ret
                exact ⟨rfl, B8.out⟩
end Go.Proofs.Ytdfcbfcnanpolaa
