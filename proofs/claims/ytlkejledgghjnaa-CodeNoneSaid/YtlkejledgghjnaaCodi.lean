/- Rows of numbers held against each other; what bytes come to, reckoned; what the document fixes of package code holds. -/
import Derived.Test.YtlkejledgghjnaaCodr
import Derived.Lib.MinMax
import Derived.Lib.SlBytesConst
import Derived.BigQuiet
namespace Go.Proofs.Ytlkejledgghjnaa
open Go.RowKit

/-- A call that answers true and turns nothing that was there. -/
def SaysTrue (w : World) (e : Ending) (w' : World) : Prop := e = .returned (.bool true) ∧ Below w.heap.size w w'
theorem take_step {α : Type} [DecidableEq α] {l m : List α} {k : Nat} (hl : k < l.length) (hm : k < m.length) (h : l.take k = m.take k) : l.take (k + 1) = m.take (k + 1) ↔ l[k] = m[k] := by
  rw [List.take_succ_eq_append_getElem hl, List.take_succ_eq_append_getElem hm, h]
  constructor
  · intro he
    have := List.append_cancel_left he
    simpa using this
  · intro he
    rw [he]
theorem take_ne {α : Type} {l m : List α} {k : Nat} (hl : k < l.length) (hm : k < m.length) (h : l[k] ≠ m[k]) : l ≠ m := fun he => h (by subst he; rfl)
theorem cut_int_from {w : World} {A : Option Addr} {l : List Int} (h : RdI w A l) {c : Nat} (hc : l.length ≤ c) (k : Nat) (hk : k ≤ l.length) :
    ∃ A1, (∀ w1, (Instr.slice 22 (.slice A l.length c) (some (.int .i64 (k : Int))) none none).run Try.prog w1 = .ok (.slice A1 (l.length - k) (c - k)) w1) ∧ RdI w A1 (l.drop k) := by
  obtain ⟨i, hi, _, hs, _⟩ := info_parts info_int
  refine ⟨if c = k then A else A.map (·.add (k * 1)), fun w1 => ?_, h.from_ hk hc⟩
  have := run_cut_from (P := Try.prog) 22 3 i 1 hs Try.underlying22 hi A l.length c (k : Int) (by omega) (by omega) w1
  simpa using this
theorem cut_int_to {w : World} {A : Option Addr} {l : List Int} (h : RdI w A l) {c : Nat} (hc : l.length ≤ c) (k : Nat) (hk : k ≤ l.length) :
    (∀ w1, (Instr.slice 22 (.slice A l.length c) none (some (.int .i64 (k : Int))) none).run Try.prog w1 = .ok (.slice A k c) w1) ∧ RdI w A (l.take k) := by
  obtain ⟨i, hi, _, hs, _⟩ := info_parts info_int
  refine ⟨fun w1 => ?_, h.to hk⟩
  have := run_cut_to (P := Try.prog) 22 3 i Try.underlying22 hi A l.length c (k : Int) (by omega) (by omega) hc w1
  simpa using this

set_option maxHeartbeats 800000 in
theorem same_ints (A A' : Option Addr) (c c' : Nat) (l m : List Int) (w : World) (hr : RdI w A l) (hr' : RdI w A' m) (hc : l.length ≤ 1000000) :
    Calls Try.prog 12 #[.slice A l.length c, .slice A' m.length c'] w fun en w' => en = .returned (.bool (decide (l = m))) ∧ Below w.heap.size w w' := by
  have HR := Kept.mk hr
  have HR' := Kept.mk hr'
  clear hr hr'
  by_cases hl : l.length = m.length
  · have HL := Kept.mk hl
    have hlb : ((l.length : Int) != (m.length : Int)) = false := by rw [hl]; simp
    have hcm : m.length ≤ 1000000 := by omega
    clear hl
    go_enter Try.func12, Try.ntmps12
    go_wp2_with fail
    go_loopw [5] (fun i wr => ∃ k : Nat, k ≤ l.length ∧ i = .int .i64 k ∧ Kept (l.take k = m.take k) ∧ Below w.heap.size w wr) (fun i _ => l.length - (intOf i).toNat)
    case atStart => exact ⟨0, Nat.zero_le _, rfl, ⟨by simp⟩, Below.refl _ _⟩
    case round =>
      obtain ⟨k, hk, rfl, ht, hb⟩ := hrel
      by_cases hlt : k < l.length
      · have hlm : k < m.length := by have := HL.out; omega
        obtain ⟨b, o, rfl, hb1, q0⟩ := (HR.out.past hb).at_ hlt
        obtain ⟨b', o', rfl, hb2, r0⟩ := (HR'.out.past hb).at_ hlm
        have HB := Kept.mk hb
        clear hb
        by_cases he : l[k] = m[k]
        · have hd : (l[k] != m[k]) = false := by simp [he]
          have HE := Kept.mk he
          clear he
          go_wp2_with fail
          go_quiet (fail)
          go_wp2_with fail
          go_roundw
          case rel => exact ⟨k + 1, by omega, by go_num, ⟨(take_step hlt hlm ht.out).2 HE.out⟩, below_drewN HB.out _⟩
          case measure => simp [intOf]; omega
        · have hd : (l[k] != m[k]) = true := by simp [he]
          have HE := Kept.mk he
          clear he
          go_wp2_with fail
          go_quiet (fail)
          go_wp2_with fail
          go_ret
          exact ⟨by simp [take_ne hlt hlm HE.out], below_drewN HB.out _⟩
      · have hke : l.take k = l := List.take_of_length_le (by omega)
        have hkm : m.take k = m := List.take_of_length_le (by have := HL.out; omega)
        have HK := Kept.mk hke
        have HM := Kept.mk hkm
        have HB := Kept.mk hb
        clear hke hkm hb
        go_wp2_with fail
        go_ret
        have he : l = m := by have := ht.out; rw [HK.out, HM.out] at this; exact this
        exact ⟨by simp [he], HB.out⟩
  · have hlb : ((l.length : Int) != (m.length : Int)) = true := by simp; omega
    go_enter Try.func12, Try.ntmps12
    go_wp2_with fail
    go_ret
    have hne : l ≠ m := fun h => hl (by rw [h])
    exact ⟨by simp [hne], Below.refl _ _⟩


/-! ### What bytes come to -/
def dec : Nat → List UInt8 → Option (List Int)
  | _, [] => some []
  | 0, _ :: _ => none
  | f + 1, x :: r =>
    if x = 255 then
      if r.length < 8 then none
      else if short (unbits (unbe (r.take 8))) = true then none
      else (dec f (r.drop 8)).map (unbits (unbe (r.take 8)) :: ·)
    else (dec f r).map (((x.toNat : Int) - 1) :: ·)
theorem dec_some : ∀ (f : Nat) (b : List UInt8) (l : List Int), dec f b = some l → putL l = b ∧ ∀ x ∈ l, I64 x
  | _, [], l, h => by simp [dec] at h; subst h; exact ⟨rfl, by simp⟩
  | 0, _ :: _, l, h => by simp [dec] at h
  | f + 1, x :: r, l, h => by
    unfold dec at h
    by_cases hx : x = 255
    · rw [if_pos hx] at h
      by_cases hl : r.length < 8
      · rw [if_pos hl] at h; cases h
      · rw [if_neg hl] at h
        have hu : unbe (r.take 8) < 256 ^ 8 := by
          have := unbe_lt (r.take 8)
          rwa [List.length_take, Nat.min_eq_left (by omega)] at this
        by_cases hs : short (unbits (unbe (r.take 8))) = true
        · rw [if_pos hs] at h; cases h
        · rw [if_neg hs] at h
          obtain ⟨m, hm, rfl⟩ := Option.map_eq_some_iff.1 h
          obtain ⟨h1, h2⟩ := dec_some f _ _ hm
          refine ⟨?_, fun y hy => ?_⟩
          · rw [putL_cons, h1, putN_long (by simpa using hs), bits_unbits hu, be_unbe 8 _ (by rw [List.length_take]; omega), hx, List.cons_append, List.take_append_drop]
          · rcases List.mem_cons.1 hy with rfl | hy
            · exact unbits_i64 hu
            · exact h2 y hy
    · rw [if_neg hx] at h
      obtain ⟨m, hm, rfl⟩ := Option.map_eq_some_iff.1 h
      obtain ⟨h1, h2⟩ := dec_some f _ _ hm
      have hlt := x.toNat_lt
      have hne : x.toNat ≠ 255 := fun e => hx (UInt8.toNat.inj e)
      have hs : short ((x.toNat : Int) - 1) = true := by simp only [short, decide_eq_true_eq]; omega
      refine ⟨?_, fun y hy => ?_⟩
      · rw [putL_cons, h1, putN_short hs]
        have : UInt8.ofNat ((x.toNat : Int) - 1 + 1).toNat = x := by apply UInt8.toNat.inj; rw [UInt8.toNat_ofNat']; omega
        rw [this]
        rfl
      · rcases List.mem_cons.1 hy with rfl | hy
        · exact byte_i64 x
        · exact h2 y hy
theorem dec_none : ∀ (f : Nat) (b : List UInt8), b.length ≤ f → dec f b = none → NoRow b
  | _, [], _, h => by simp [dec] at h
  | 0, _ :: _, hl, _ => by simp at hl
  | f + 1, x :: r, hf, h => by
    simp only [List.length_cons] at hf
    unfold dec at h
    intro l hl he
    obtain ⟨n, l', rfl, hc⟩ := putL_uncons he
    have hl' : ∀ y ∈ l', I64 y := fun y hy => hl y (List.mem_cons_of_mem _ hy)
    rcases hc with ⟨hs, hb, hne, hr⟩ | ⟨hs, hb, hr⟩
    · rw [if_neg hne] at h
      exact dec_none f r (by omega) (by simpa using h) l' hl' hr.symm
    · rw [if_pos hb, hr, if_neg (by rw [List.length_append, be_length]; omega), List.take_left' (be_length 8 _), unbe_be, Nat.mod_eq_of_lt (bits_lt n), unbits_bits (hl n (by simp)), if_neg (by rw [hs]; decide), List.drop_left' (be_length 8 _)] at h
      exact dec_none f (putL l') (by have := congrArg List.length hr; rw [List.length_append, be_length] at this; omega) (by simpa using h) l' hl' rfl
theorem Got.of_row {b : List UInt8} {w w' : World} {en : Ending} {m l : List Int} {ok : Bool} {A : Option Addr} {c : Nat} (h : Got b w en w' m ok A c) (hl : ∀ x ∈ l, I64 x) (he : putL l = b) : m = l ∧ ok = true := by
  cases hok : ok with
  | true => exact ⟨putL_inj m l h.is64 hl ((h.yes hok).trans he.symm), rfl⟩
  | false => exact absurd he ((h.no hok).2 l hl)
theorem Got.of_none {b : List UInt8} {w w' : World} {en : Ending} {m : List Int} {ok : Bool} {A : Option Addr} {c : Nat} (h : Got b w en w' m ok A c) (hn : NoRow b) : m = [] ∧ ok = false := by
  cases hok : ok with
  | true => exact absurd (h.yes hok) (hn m h.is64)
  | false => exact ⟨(h.no hok).1, rfl⟩
/-- Two that read the same bytes come to the same. -/
theorem Got.same {b : List UInt8} {w w' v v' : World} {en en' : Ending} {m m' : List Int} {ok ok' : Bool} {A A' : Option Addr} {c c' : Nat} (h : Got b w en w' m ok A c) (h' : Got b v en' v' m' ok' A' c') : m = m' ∧ ok = ok' := by
  cases hok : ok with
  | true =>
    obtain ⟨e1, e2⟩ := h'.of_row h.is64 (h.yes hok)
    exact ⟨e1.symm, e2.symm⟩
  | false =>
    obtain ⟨e1, e2⟩ := h'.of_none (h.no hok).2
    exact ⟨by rw [e1, (h.no hok).1], e2.symm⟩

set_option maxRecDepth 100000 in
set_option maxHeartbeats 2000000 in
theorem awake2 (w : World) : Calls Try.prog 9 #[] w (SaysTrue w) := by
  have kc := fun (w : World) (C : Array Value) (n c : Nat) => Lib.run_convert_bytes_const (P := Try.prog) w 24 5 C n c Try.underlying24 Try.underlying5
  have kc2 : ∀ (w : World) (o : Obj) (C : Array Value) (n c : Nat), (convert 24 24 (.slice (some ⟨w.heap.size + 1, 0, Option.none⟩) n c)).run Try.prog ((w.alloc o).alloc (.cells C 5)) = .ok (.slice (some ⟨w.heap.size + 1, 0, Option.none⟩) n c) ((w.alloc o).alloc (.cells C 5 (C.size, C.size + 1))) := fun w o C n c => by
    have := kc (w.alloc o) C n c
    rwa [World.size_alloc] at this
  go_enter Try.func9, Try.ntmps9
  go_wp2_with fail
  refine (code_put (some ⟨w.heap.size, 0, Option.none⟩) 4 4 [0, 300, -1, -2] _ rfl (reads_block (heap_at_new rfl) rfl) (by decide) (by omega)).mono ?_
  rintro en w1 ⟨v1, rfl, h1, b1⟩
  obtain ⟨A1, c1, rfl, hc1, r1⟩ := h1.shape
  have R1 := Kept.mk r1
  have B1 := Kept.mk ((below_alloc_self w _).trans (b1.mono (by simp)))
  clear r1 h1 b1
  go_wp2_with fail
  refine (code_get A1 _ c1 (putL [0, 300, -1, -2]) _ rfl hc1 R1.out (by decide)).mono ?_
  rintro en w2 ⟨m, ok, A2, c2, hg⟩
  obtain ⟨rfl, rfl⟩ := hg.of_row (l := [0, 300, -1, -2]) (by decide) rfl
  obtain ⟨rfl, hc2, -, r2, b2, -, -, -⟩ := hg
  have R2 := Kept.mk r2
  have B2 := Kept.mk (B1.out.trans (b2.mono B1.out.size))
  clear r2 b2 R1 B1
  go_wp2_with fail
  refine (code_get (some ⟨w2.heap.size, 0, Option.none⟩) 9 9 [255, 0, 0, 0, 0, 0, 0, 0, 1] _ rfl (by omega) (reads_block (heap_at_new rfl) rfl) (by omega)).mono ?_
  rintro en w3 ⟨m, ok, A3, c3, hg⟩
  obtain ⟨rfl, rfl⟩ := hg.of_none (dec_none 9 _ (by decide) (by decide))
  obtain ⟨rfl, hc3, -, -, b3, -, -, -⟩ := hg
  have b3 : Below w2.heap.size w2 w3 := (below_alloc_self w2 _).trans (b3.mono (by simp))
  have R3 := Kept.mk (R2.out.past b3)
  have B3 := Kept.mk (B2.out.trans (b3.mono B2.out.size))
  clear b3 R2 B2
  go_wp2_with fail
  refine (code_put (some ⟨w3.heap.size, 0, Option.none⟩) 2 2 [0, 300] _ rfl (reads_block (heap_at_new rfl) rfl) (by decide) (by omega)).mono ?_
  rintro en w4 ⟨v4, rfl, h4, b4⟩
  obtain ⟨A4, c4, rfl, hc4, r4⟩ := h4.shape
  have b4 : Below w3.heap.size w3 w4 := (below_alloc_self w3 _).trans (b4.mono (by simp))
  have hstr := run_string (n := 10) (c := c4) r4 (by decide)
  rw [show putL [0, 300] = [1, 255, 0, 0, 0, 0, 0, 0, 1, 44] by decide] at hstr ⊢
  have R4 := Kept.mk (R3.out.past b4)
  have B4 := Kept.mk (B3.out.trans (b4.mono B3.out.size))
  clear b4 h4 r4 R3 B3
  go_wp2_with fail
  refine (same_ints A2 (some ⟨w4.heap.size, 0, Option.none⟩) c2 4 [0, 300, -1, -2] [0, 300, -1, -2] _ (R4.out.past (below_alloc_self _ _)) (reads_block (heap_at_new rfl) rfl) (by decide)).mono ?_
  rintro en w5 ⟨rfl, b5⟩
  have b5 : Below w4.heap.size w4 w5 := (below_alloc_self w4 _).trans (b5.mono (by simp))
  have B5 := Kept.mk (B4.out.trans (b5.mono B4.out.size))
  clear b5 R4 B4 hstr
  go_wp2_with fail
  refine (code_less (some ⟨w5.heap.size, 0, Option.none⟩) (some ⟨w5.heap.size + 1, 0, Option.none⟩) 1 2 1 2 [98] [97, 97] _ rfl rfl (RdB.past (reads_block (heap_at_new rfl) rfl) (below_alloc_self _ _)) (reads_block (heap_at_new (by simp)) rfl)).mono ?_
  rintro en w6 ⟨rfl, hw⟩
  have B6 : Kept (Below w.heap.size w w6) := ⟨by rw [hw]; exact B5.out.trans (((below_alloc_self w5 _).trans ((below_alloc_self _ _).mono (by simp))).mono B5.out.size)⟩
  clear hw B5
  go_wp2_with fail
  refine (code_put none 0 0 [] _ rfl Reads.none_ (by decide) (by omega)).mono ?_
  rintro en w7 ⟨v7, rfl, h7, b7⟩
  obtain ⟨A7, c7, rfl, hc7, -⟩ := h7.shape
  have B7 := Kept.mk (B6.out.trans (b7.mono B6.out.size))
  clear b7 h7
  go_wp2_with fail
  go_ret
  exact ⟨rfl, B7.out⟩
end Go.Proofs.Ytlkejledgghjnaa
