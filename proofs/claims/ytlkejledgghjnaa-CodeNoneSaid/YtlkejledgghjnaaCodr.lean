/- The functions that read bytes as a row of numbers: what they answer. -/
import Derived.Test.YtlkejledgghjnaaCodg
namespace Go.Proofs.Ytlkejledgghjnaa
open Go.RowKit

theorem cut_mid {w : World} {A : Option Addr} {b : List UInt8} (h : RdB w A b) {c : Nat} (hc : b.length ≤ c) (lo : Nat) (hh : lo + 8 ≤ b.length) :
    ∃ A1, (∀ w1, (Instr.slice 24 (.slice A b.length c) (some (.int .i64 (lo : Int))) (some (.int .i64 ((lo : Int) + 8))) none).run Try.prog w1 = .ok (.slice A1 8 (c - lo)) w1) ∧ Reads w w.heap.size 1 A1 8 (bytCs ((b.drop lo).take 8)) := by
  obtain ⟨i, hi, _, hs, _⟩ := info_parts info_byte
  refine ⟨if c = lo then A else A.map (·.add (lo * 1)), fun w1 => ?_, ?_⟩
  · have he : Try.prog.elem 24 = 5 := by simp [Program.elem, Try.underlying24]
    rw [run_slice_lh (P := Try.prog) (w := w1) (t := 24) (a := A) (len := b.length) (cap := c) (by rw [he]; exact Try.underlying24) .i64 .i64 (lo : Int) ((lo : Int) + 8) (by omega) (by omega) (by omega)]
    have e1 : ((lo : Int)).toNat = lo := by omega
    have e2 : ((lo : Int) + 8).toNat - lo = 8 := by omega
    simp only [he, sizeOf, typeInfo, Sem.run_bind, Sem.run_pure, Result.andThen_ok, run_program, hi, sliced, e1, e2, hs]
  · have := (h.from_ (k := lo) (by omega) hc).to (k := 8) (by rw [List.length_drop]; omega)
    unfold RdB at this
    rwa [List.length_take, List.length_drop, Nat.min_eq_left (by omega)] at this
theorem reads_at {w : World} {A : Option Addr} {T : List UInt8} {n : Nat} (h : Reads w w.heap.size 1 A n (bytCs T)) {j : Nat} (hj : j < n) (hT : j < T.length) : ∃ b o, A = some ⟨b, o, none⟩ ∧ b < w.heap.size ∧ w.cell? ⟨b, o + j, none⟩ = some (.int .u8 T[j].toNat) := by
  obtain ⟨b, o, e, hb, hc⟩ := Reads.cells h hj
  refine ⟨b, o, e, hb, ?_⟩
  have := hc 0 (.int .u8 T[j].toNat) (by omega) (by simp [bytCs, hT])
  simpa using this
theorem wrap_unbits {u : Nat} (h : u < 256 ^ 8) : IntKind.i64.wrap (u : Int) = unbits u := by rw [IntKind.wrap_i64]; unfold unbits; split <;> omega
theorem unbe_take_lt (T : List UInt8) (j : Nat) (h : j ≤ 7) : unbe (T.take j) < 256 ^ 7 := by
  have := unbe_lt (T.take j)
  refine Nat.lt_of_lt_of_le this (Nat.pow_le_pow_right (by omega) ?_)
  rw [List.length_take]
  omega
theorem unbe_take_succ {T : List UInt8} {j : Nat} (h : j < T.length) : unbe (T.take (j + 1)) = unbe (T.take j) * 256 + T[j].toNat := by
  rw [List.take_succ_eq_append_getElem h, unbe_snoc]

set_option maxRecDepth 100000 in
set_option maxHeartbeats 2000000 in
theorem code_get (A : Option Addr) (n c : Nat) (b : List UInt8) (w : World) (hl : b.length = n) (hc : n ≤ c) (hr : RdB w A b) (hn : n ≤ 100000) :
    Calls Try.prog 11 #[.slice A n c] w fun en w' => ∃ m ok A' c', Got b w en w' m ok A' c' := by
  subst hl
  have HR := Kept.mk hr
  clear hr
  go_enter Try.func11, Try.ntmps11
  go_wp2_with fail
  go_loopw [4, 5] (fun v i wr => ∃ (m : List Int) (at_ : Nat), at_ ≤ b.length ∧ i = .int .i64 at_ ∧ m.length ≤ at_ ∧ OwnI wr w.heap.size v m ∧ Below w.heap.size w wr ∧ Kept (Inv b m at_)) (fun _ i _ => b.length - (intOf i).toNat)
  case atStart => exact ⟨[], 0, Nat.zero_le _, rfl, by simp, OwnI.nil, Below.refl _ _, ⟨inv_start b⟩⟩
  case round =>
    obtain ⟨m, k, hk, rfl, hm, ho, hb, hinv⟩ := hrel
    have HO := Kept.mk ho
    have HB := Kept.mk hb
    clear ho hb
    by_cases hlt : k < b.length
    · obtain ⟨g, o, rfl, hb1, q0⟩ := (HR.out.past HB.out).at_ hlt
      by_cases h255 : b[k] = 255
      · have hne : ((b[k].toNat : Int) != 255) = false := by rw [h255]; rfl
        have H255 := Kept.mk h255
        have w1 : IntKind.i64.wrap ((k : Int) + 1) = (k : Int) + 1 := IntWalk.i64_in _ (by omega)
        have w2 : IntKind.i64.wrap ((k : Int) + 1 + 8) = (k : Int) + 1 + 8 := IntWalk.i64_in _ (by omega)
        clear h255
        by_cases h9 : b.length < k + 9
        · have hgt : (b.length : Int) < (k : Int) + 1 + 8 := by omega
          have HNO := Kept.mk (inv_cut hinv.out hlt H255.out h9)
          clear h9
          go_wp2_with fail
          go_ret2
          exact ⟨[], false, none, 0, rfl, by simp, by simp, Reads.none_, HB.out, by simp, by simp, fun _ => ⟨rfl, HNO.out⟩⟩
        · have hgt : (k : Int) + 1 + 8 ≤ (b.length : Int) := by omega
          have h9' : k + 9 ≤ b.length := by omega
          have HI := Kept.mk (inv_long hinv.out hlt H255.out h9')
          have HNL := Kept.mk (numAt_lt h9')
          obtain ⟨T, hT⟩ : ∃ T, T = (b.drop (k + 1)).take 8 := ⟨_, rfl⟩
          have HT := Kept.mk hT
          have hTl : T.length = 8 := by rw [hT, List.length_take, List.length_drop]; omega
          have HTL := Kept.mk hTl
          have HNU : Kept (numAt b k = unbe T) := ⟨by unfold numAt; rw [hT]⟩
          obtain ⟨A1, hcut, hrd⟩ := cut_mid HR.out hc (k + 1) (by omega)
          rw [← hT] at hrd
          have HRD := Kept.mk hrd
          rw [show ((k + 1 : Nat) : Int) = (k : Int) + 1 by omega] at hcut
          clear hT hTl hrd h9 h9'
          go_wp2_with fail
          obtain ⟨wq, hwq⟩ : ∃ wq : World, wq = wr := ⟨_, rfl⟩
          subst hwq
          go_loopw [6, 43] (fun nv iv wr2 => ∃ j : Nat, j ≤ 8 ∧ iv = .int .i64 j ∧ nv = .int .u64 (unbe (T.take j) : Nat) ∧ Below wq.heap.size wq wr2) (fun _ iv _ => 8 - (intOf iv).toNat)
          case atStart => exact ⟨0, by omega, rfl, rfl, Below.refl _ _⟩
          case round =>
            obtain ⟨j, hj, rfl, rfl, hb2⟩ := hrel
            have HB2 := Kept.mk (HB.out.trans (hb2.mono HB.out.size))
            have HB2' := Kept.mk hb2
            clear hb2
            by_cases hj8 : j < 8
            · obtain ⟨g1, o1, rfl, hg1, q1⟩ := reads_at (Reads.past HRD.out HB2.out) hj8 (by rw [HTL.out]; exact hj8)
              have hor := or_byte (unbe (T.take j)) (T[j]'(by rw [HTL.out]; exact hj8)) (unbe_take_lt T j (by omega))
              have hlt8 := (T[j]'(by rw [HTL.out]; exact hj8)).toNat_lt
              have w5 : IntKind.u64.wrap ((T[j]'(by rw [HTL.out]; exact hj8)).toNat : Int) = ((T[j]'(by rw [HTL.out]; exact hj8)).toNat : Int) := IntWalk.u64_in _ (by omega)
              have HS := Kept.mk (unbe_take_succ (T := T) (j := j) (by rw [HTL.out]; exact hj8))
              go_wp2_with fail
              go_roundw
              case rel => exact ⟨j + 1, by omega, by go_num, by rw [HS.out, Int.natCast_add, Int.natCast_mul]; rfl, HB2'.out⟩
              case measure => simp [intOf]; omega
            · have hke : T.take j = T := List.take_of_length_le (by rw [HTL.out]; omega)
              rw [hke]
              have hj1 : j = 8 := by omega
              subst hj1
              clear hke
              have w6 : IntKind.i64.wrap (unbe T : Int) = unbits (unbe T) := wrap_unbits (by rw [← HNU.out]; exact HNL.out)
              have w7 : IntKind.i64.wrap ((k : Int) + 9) = (k : Int) + 9 := IntWalk.i64_in _ (by omega)
              have HO2 := Kept.mk (HO.out.past HB2'.out)
              go_wp2_with (at_builtin; go_must (refine append_int _ rfl (.tmp 53) (.tmp 56) rfl w.heap.size rfl (HO2.out.past (below_alloc_self _ _)) _ (unbits (unbe T)) rfl (heap_at_new (by simp)) (by omega) ?c1 ?_))
              case c1 => have := HB2.out.size; simp; omega
              intro v' w' h1 h2 h3
              rw [← HNU.out] at h1
              have H1 := Kept.mk h1
              have H3 := Kept.mk (HB2.out.trans (((below_alloc_self _ _).mono HB2.out.size).trans h3))
              clear h1 h2 h3
              go_wp2_with fail
              go_roundw
              case rel => exact ⟨_, k + 9, by omega, by go_num, by simp; omega, H1.out, H3.out, HI⟩
              case measure => simp [intOf]; omega
      · have hne : ((b[k].toNat : Int) != 255) = true := by
          have : b[k].toNat ≠ 255 := fun e => h255 (UInt8.toNat.inj e)
          simp; omega
        have HI := Kept.mk (inv_short hinv.out hlt h255)
        clear h255
        have hlt8 := b[k].toNat_lt
        have w0 : IntKind.i64.wrap (b[k].toNat : Int) = (b[k].toNat : Int) := IntWalk.i64_in _ (by omega)
        have w1 : IntKind.i64.wrap ((b[k].toNat : Int) - 1) = (b[k].toNat : Int) - 1 := IntWalk.i64_in _ (by omega)
        have w2 : IntKind.i64.wrap ((k : Int) + 1) = (k : Int) + 1 := IntWalk.i64_in _ (by omega)
        go_wp2_with (at_builtin; go_must (refine append_int _ rfl (.tmp 18) (.tmp 25) rfl w.heap.size rfl (HO.out.past (below_alloc_self _ _)) _ ((b[k].toNat : Int) - 1) rfl (heap_at_new (by simp)) (by omega) ?c1 ?_))
        case c1 => have := HB.out.size; simp; omega
        intro v' w' h1 h2 h3
        have H1 := Kept.mk h1
        have H3 := Kept.mk (HB.out.trans (((below_alloc_self _ _).mono HB.out.size).trans h3))
        clear h1 h2 h3
        go_wp2_with fail
        go_roundw
        case rel => exact ⟨_, k + 1, by omega, by go_num, by simp; omega, H1.out, H3.out, HI⟩
        case measure => simp [intOf]; omega
    · obtain ⟨A1, c1, rfl, hc1, hr1⟩ := HO.out.shape
      have HR1 := Kept.mk hr1
      clear hr1
      go_wp2_with fail
      refine (code_put A1 m.length c1 m _ rfl HR1.out hinv.out.1 (by omega)).mono ?_
      rintro en w1 ⟨v1, rfl, ho1, hb1⟩
      obtain ⟨A2, c2, rfl, hc2, hr2⟩ := ho1.shape
      have HR2 := Kept.mk hr2
      have HRI := Kept.mk (HR1.out.past hb1)
      have HB1 := Kept.mk (HB.out.trans (hb1.mono HB.out.size))
      clear ho1 hr2 hb1
      go_wp2_with fail
      refine (bytes_equal A2 A _ _ c2 c (putL m) b _ rfl rfl HR2.out (HR.out.past HB1.out)).mono ?_
      rintro en w2 ⟨rfl, hw⟩
      have hw' := hw.symm
      subst hw'
      by_cases he : putL m = b
      · have hd : decide (putL m = b) = true := by simp [he]
        have HE := Kept.mk he
        clear he
        rw [hd]
        clear hd
        go_wp2_with fail
        go_ret2
        exact ⟨m, true, A1, c1, rfl, hc1, by omega, HRI.out, HB1.out, hinv.out.1, fun _ => HE.out, by simp⟩
      · have hd : decide (putL m = b) = false := by simp [he]
        have HE := Kept.mk (inv_end hinv.out (by omega) he)
        clear he
        rw [hd]
        clear hd
        go_wp2_with fail
        go_ret2
        exact ⟨[], false, none, 0, rfl, by simp, by simp, Reads.none_, HB1.out, by simp, by simp, fun _ => ⟨rfl, HE.out⟩⟩
set_option maxRecDepth 100000 in
set_option maxHeartbeats 2000000 in
theorem ref_get (A : Option Addr) (n c : Nat) (b : List UInt8) (w : World) (hl : b.length = n) (hc : n ≤ c) (hr : RdB w A b) (hn : n ≤ 100000) :
    Calls Try.prog 14 #[.slice A n c] w fun en w' => ∃ m ok A' c', Got b w en w' m ok A' c' := by
  subst hl
  have HR := Kept.mk hr
  clear hr
  go_enter Try.func14, Try.ntmps14
  go_wp2_with fail
  go_loopw [4, 5] (fun v i wr => ∃ (m : List Int) (at_ : Nat), at_ ≤ b.length ∧ i = .int .i64 at_ ∧ m.length ≤ at_ ∧ OwnI wr w.heap.size v m ∧ Below w.heap.size w wr ∧ Kept (Inv b m at_) ∧ Kept (putL m = b.take at_)) (fun _ i _ => b.length - (intOf i).toNat)
  case atStart => exact ⟨[], 0, Nat.zero_le _, rfl, by simp, OwnI.nil, Below.refl _ _, ⟨inv_start b⟩, ⟨by simp [putL]⟩⟩
  case round =>
    obtain ⟨m, k, hk, rfl, hm, ho, hb, hinv, hput⟩ := hrel
    have HO := Kept.mk ho
    have HB := Kept.mk hb
    clear ho hb
    by_cases hlt : k < b.length
    · obtain ⟨g, o, rfl, hb1, q0⟩ := (HR.out.past HB.out).at_ hlt
      by_cases h255 : b[k] = 255
      · have hne : ((b[k].toNat : Int) != 255) = false := by rw [h255]; rfl
        have H255 := Kept.mk h255
        have w1 : IntKind.i64.wrap ((k : Int) + 1) = (k : Int) + 1 := IntWalk.i64_in _ (by omega)
        have w2 : IntKind.i64.wrap ((k : Int) + 9) = (k : Int) + 9 := IntWalk.i64_in _ (by omega)
        clear h255
        by_cases h9 : b.length < k + 9
        · have hgt : (b.length : Int) < (k : Int) + 9 := by omega
          have HNO := Kept.mk (inv_cut hinv.out hlt H255.out h9)
          clear h9
          go_wp2_with fail
          go_ret2
          exact ⟨[], false, none, 0, rfl, by simp, by simp, Reads.none_, HB.out, by simp, by simp, fun _ => ⟨rfl, HNO.out⟩⟩
        · have hgt : (k : Int) + 9 ≤ (b.length : Int) := by omega
          have h9' : k + 9 ≤ b.length := by omega
          have HI := Kept.mk (inv_long hinv.out hlt H255.out h9')
          have HNL := Kept.mk (numAt_lt h9')
          obtain ⟨T, hT⟩ : ∃ T, T = (b.drop (k + 1)).take 8 := ⟨_, rfl⟩
          have HT := Kept.mk hT
          have hTl : T.length = 8 := by rw [hT, List.length_take, List.length_drop]; omega
          have HTL := Kept.mk hTl
          have HNU : Kept (numAt b k = unbe T) := ⟨by unfold numAt; rw [hT]⟩
          clear hT hTl h9
          go_wp2_with fail
          obtain ⟨wq, hwq⟩ : ∃ wq : World, wq = wr := ⟨_, rfl⟩
          subst hwq
          go_loopw [6, 7] (fun nv iv wr2 => ∃ j : Nat, j ≤ 8 ∧ iv = .int .i64 ((j : Int) + 1) ∧ nv = .int .u64 (unbe (T.take j) : Nat) ∧ Below wq.heap.size wq wr2) (fun _ iv _ => 9 - (intOf iv).toNat)
          case atStart => exact ⟨0, by omega, rfl, rfl, Below.refl _ _⟩
          case round =>
            obtain ⟨j, hj, rfl, rfl, hb2⟩ := hrel
            have HB2 := Kept.mk (HB.out.trans (hb2.mono HB.out.size))
            have HB2' := Kept.mk hb2
            clear hb2
            by_cases hj8 : j < 8
            · have hix : k + (j + 1) < b.length := by omega
              have hTj : (T[j]'(by rw [HTL.out]; exact hj8)) = b[k + (j + 1)] := by
                have := HT.out
                subst this
                rw [List.getElem_take, List.getElem_drop]
                congr 1
                omega
              have w8 : IntKind.i64.wrap ((k : Int) + ((j : Int) + 1)) = ((k + (j + 1) : Nat) : Int) := by rw [IntWalk.i64_in _ (by omega)]; omega
              have w9 : IntKind.i64.wrap ((j : Int) + 1 + 1) = ((j + 1 : Nat) : Int) + 1 := by rw [IntWalk.i64_in _ (by omega)]; omega
              obtain ⟨g1, o1, hge, hg1, q1⟩ := (HR.out.past HB2.out).at_ hix
              cases hge
              rw [← hTj] at q1
              clear hTj
              have hor := or_byte (unbe (T.take j)) (T[j]'(by rw [HTL.out]; exact hj8)) (unbe_take_lt T j (by omega))
              have hlt8 := (T[j]'(by rw [HTL.out]; exact hj8)).toNat_lt
              have w5 : IntKind.u64.wrap ((T[j]'(by rw [HTL.out]; exact hj8)).toNat : Int) = ((T[j]'(by rw [HTL.out]; exact hj8)).toNat : Int) := IntWalk.u64_in _ (by omega)
              have HS := Kept.mk (unbe_take_succ (T := T) (j := j) (by rw [HTL.out]; exact hj8))
              go_wp2_with fail
              go_roundw
              case rel => exact ⟨j + 1, by omega, by simp, by rw [HS.out, Int.natCast_add, Int.natCast_mul]; rfl, HB2'.out⟩
              case measure => simp [intOf]; omega
            · have hke : T.take j = T := List.take_of_length_le (by rw [HTL.out]; omega)
              rw [hke]
              have hj1 : j = 8 := by omega
              subst hj1
              clear hke
              by_cases hsh : short (unbits (unbe T)) = true
              · have HNO := Kept.mk (inv_bad hinv.out hlt H255.out (by rw [HNU.out]; exact hsh))
                have w6 : IntKind.i64.wrap (unbe T : Int) = unbits (unbe T) := wrap_unbits (by rw [← HNU.out]; exact HNL.out)
                simp only [short, decide_eq_true_eq] at hsh
                obtain ⟨hs0, hs1⟩ := hsh
                go_wp2_with fail
                go_ret2
                exact ⟨[], false, none, 0, rfl, by simp, by simp, Reads.none_, HB2.out, by simp, by simp, fun _ => ⟨rfl, HNO.out⟩⟩
              have hsf : short (unbits (unbe T)) = false := by simpa using hsh
              have HP := Kept.mk (put_long hput.out hlt H255.out (by omega) (by rw [HNU.out]; exact hsf))
              have hor : unbits (unbe T) < -1 ∨ (-1 ≤ unbits (unbe T) ∧ 253 < unbits (unbe T)) := by simp only [short, decide_eq_false_iff_not] at hsf; omega
              clear hsh hsf
              have w6 : IntKind.i64.wrap (unbe T : Int) = unbits (unbe T) := wrap_unbits (by rw [← HNU.out]; exact HNL.out)
              have w7 : IntKind.i64.wrap ((k : Int) + 9) = (k : Int) + 9 := IntWalk.i64_in _ (by omega)
              have HO2 := Kept.mk (HO.out.past HB2'.out)
              rcases hor with hs | ⟨hs0, hs1⟩
              all_goals
                go_wp2_with (at_builtin; go_must (refine append_int _ rfl (.tmp 55) (.tmp 58) rfl w.heap.size rfl (HO2.out.past (below_alloc_self _ _)) _ (unbits (unbe T)) rfl (heap_at_new (by simp)) (by omega) ?c1 ?_))
                case c1 => have := HB2.out.size; simp; omega
                intro v' w' h1 h2 h3
                rw [← HNU.out] at h1
                have H1 := Kept.mk h1
                have H3 := Kept.mk (HB2.out.trans (((below_alloc_self _ _).mono HB2.out.size).trans h3))
                clear h1 h2 h3
                go_wp2_with fail
                go_roundw
                case rel => exact ⟨_, k + 9, by omega, by go_num, by simp; omega, H1.out, H3.out, HI, HP⟩
                case measure => simp [intOf]; omega
      · have hne : ((b[k].toNat : Int) != 255) = true := by
          have : b[k].toNat ≠ 255 := fun e => h255 (UInt8.toNat.inj e)
          simp; omega
        have HI := Kept.mk (inv_short hinv.out hlt h255)
        have HP := Kept.mk (put_short hput.out hlt h255)
        clear h255
        have hlt8 := b[k].toNat_lt
        have w0 : IntKind.i64.wrap (b[k].toNat : Int) = (b[k].toNat : Int) := IntWalk.i64_in _ (by omega)
        have w1 : IntKind.i64.wrap ((b[k].toNat : Int) - 1) = (b[k].toNat : Int) - 1 := IntWalk.i64_in _ (by omega)
        have w2 : IntKind.i64.wrap ((k : Int) + 1) = (k : Int) + 1 := IntWalk.i64_in _ (by omega)
        go_wp2_with (at_builtin; go_must (refine append_int _ rfl (.tmp 17) (.tmp 24) rfl w.heap.size rfl (HO.out.past (below_alloc_self _ _)) _ ((b[k].toNat : Int) - 1) rfl (heap_at_new (by simp)) (by omega) ?c1 ?_))
        case c1 => have := HB.out.size; simp; omega
        intro v' w' h1 h2 h3
        have H1 := Kept.mk h1
        have H3 := Kept.mk (HB.out.trans (((below_alloc_self _ _).mono HB.out.size).trans h3))
        clear h1 h2 h3
        go_wp2_with fail
        go_roundw
        case rel => exact ⟨_, k + 1, by omega, by go_num, by simp; omega, H1.out, H3.out, HI, HP⟩
        case measure => simp [intOf]; omega
    · obtain ⟨A1, c1, rfl, hc1, hr1⟩ := HO.out.shape
      have HR1 := Kept.mk hr1
      have HE : Kept (putL m = b) := ⟨by rw [hput.out]; exact List.take_of_length_le (by omega)⟩
      clear hr1
      go_wp2_with fail
      go_ret2
      exact ⟨m, true, A1, c1, rfl, hc1, by omega, HR1.out, HB.out, hinv.out.1, fun _ => HE.out, by simp⟩
end Go.Proofs.Ytlkejledgghjnaa
