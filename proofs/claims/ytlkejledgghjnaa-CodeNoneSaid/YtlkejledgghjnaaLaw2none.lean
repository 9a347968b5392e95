/- The law CodeNone: what no row has is none. -/
import Derived.Test.YtlkejledgghjnaaCodi
import Derived.Test.YtlkejledgghjnaaRgg
import Derived.Test.YtlkejledgghjnaaMask
namespace Go.Proofs.Ytlkejledgghjnaa
open Go.RowKit

def tabCells : List Value := [.string ⟨#[]⟩, .bool true, .string ⟨#[0]⟩, .bool true, .string ⟨#[254]⟩, .bool true, .string ⟨#[255]⟩, .bool false, .string ⟨#[255, 0, 0, 0, 0, 0, 0, 0]⟩, .bool false, .string ⟨#[255, 0, 0, 0, 0, 0, 0, 0, 0]⟩, .bool false, .string ⟨#[255, 0, 0, 0, 0, 0, 0, 0, 253]⟩, .bool false, .string ⟨#[255, 0, 0, 0, 0, 0, 0, 0, 254]⟩, .bool true, .string ⟨#[255, 255, 255, 255, 255, 255, 255, 255, 255]⟩, .bool false, .string ⟨#[255, 255, 255, 255, 255, 255, 255, 255, 254]⟩, .bool true, .string ⟨#[255, 127, 255, 255, 255, 255, 255, 255, 255, 5]⟩, .bool true, .string ⟨#[5, 255, 128, 0, 0, 0, 0, 0, 0, 0]⟩, .bool true, .string ⟨#[5, 255, 128]⟩, .bool false]
theorem tab_at (k : Nat) (hk : k < 13) : ∃ (S : List UInt8) (ok : Bool), tabCells[k * 2]? = some (.string ⟨S.toArray⟩) ∧ tabCells[k * 2 + 1]? = some (.bool ok) ∧ S.length ≤ 10 ∧ (dec 10 S).isSome = ok := by
  match k, hk with
  | 0, _ => exact ⟨[], true, rfl, rfl, by decide, by decide⟩
  | 1, _ => exact ⟨[0], true, rfl, rfl, by decide, by decide⟩
  | 2, _ => exact ⟨[254], true, rfl, rfl, by decide, by decide⟩
  | 3, _ => exact ⟨[255], false, rfl, rfl, by decide, by decide⟩
  | 4, _ => exact ⟨[255, 0, 0, 0, 0, 0, 0, 0], false, rfl, rfl, by decide, by decide⟩
  | 5, _ => exact ⟨[255, 0, 0, 0, 0, 0, 0, 0, 0], false, rfl, rfl, by decide, by decide⟩
  | 6, _ => exact ⟨[255, 0, 0, 0, 0, 0, 0, 0, 253], false, rfl, rfl, by decide, by decide⟩
  | 7, _ => exact ⟨[255, 0, 0, 0, 0, 0, 0, 0, 254], true, rfl, rfl, by decide, by decide⟩
  | 8, _ => exact ⟨[255, 255, 255, 255, 255, 255, 255, 255, 255], false, rfl, rfl, by decide, by decide⟩
  | 9, _ => exact ⟨[255, 255, 255, 255, 255, 255, 255, 255, 254], true, rfl, rfl, by decide, by decide⟩
  | 10, _ => exact ⟨[255, 127, 255, 255, 255, 255, 255, 255, 255, 5], true, rfl, rfl, by decide, by decide⟩
  | 11, _ => exact ⟨[5, 255, 128, 0, 0, 0, 0, 0, 0, 0], true, rfl, rfl, by decide, by decide⟩
  | 12, _ => exact ⟨[5, 255, 128], false, rfl, rfl, by decide, by decide⟩
theorem str_reads (W : World) (S : List UInt8) (cap : Nat) (fr : Nat × Nat) {g : Nat} (hg : g = W.heap.size) : RdB (W.alloc (.cells (bytesRow ⟨S.toArray⟩ cap) 5 fr)) (some ⟨g, 0, none⟩) S := by
  subst hg
  refine ⟨by simp [bytCs], fun _ => ⟨_, rfl, rfl, by rw [World.size_alloc]; exact Nat.lt_succ_self _, fun j u hu => ?_⟩⟩
  obtain ⟨hj, rfl⟩ := List.getElem?_eq_some_iff.1 hu
  rw [bytCs_length] at hj
  rw [World.cell?_alloc_mark, Nat.zero_add, bytesRow_at _ _ _ (by simpa using hj)]
  simp [bytCs]
set_option maxRecDepth 100000 in
set_option maxHeartbeats 4000000 in
theorem none_walk (which : Int) (w : World) (_h : -9223372036854775808 ≤ which ∧ which ≤ 9223372036854775807) : Calls Try.prog 4 #[.int .i64 which] w (SaysTrue w) := by
  obtain ⟨M, hM, hM0, hM1⟩ := mask255 which
  obtain ⟨K, hK, hK1⟩ : ∃ K : Nat, M % 13 = K ∧ K < 13 := ⟨(M % 13).toNat, by omega, by omega⟩
  obtain ⟨S, ok, hc0, hc1, hS, hdec⟩ := tab_at K hK1
  have q0 : (w.alloc (.cells #[.string ⟨#[]⟩, .bool true, .string ⟨#[0]⟩, .bool true, .string ⟨#[254]⟩, .bool true, .string ⟨#[255]⟩, .bool false, .string ⟨#[255, 0, 0, 0, 0, 0, 0, 0]⟩, .bool false, .string ⟨#[255, 0, 0, 0, 0, 0, 0, 0, 0]⟩, .bool false, .string ⟨#[255, 0, 0, 0, 0, 0, 0, 0, 253]⟩, .bool false, .string ⟨#[255, 0, 0, 0, 0, 0, 0, 0, 254]⟩, .bool true, .string ⟨#[255, 255, 255, 255, 255, 255, 255, 255, 255]⟩, .bool false, .string ⟨#[255, 255, 255, 255, 255, 255, 255, 255, 254]⟩, .bool true, .string ⟨#[255, 127, 255, 255, 255, 255, 255, 255, 255, 5]⟩, .bool true, .string ⟨#[5, 255, 128, 0, 0, 0, 0, 0, 0, 0]⟩, .bool true, .string ⟨#[5, 255, 128]⟩, .bool false] 30)).cell? ⟨w.heap.size, K * 2, none⟩ = some (.string ⟨S.toArray⟩) := by
    refine (cell_of_row _ _ _ _ _ _ (heap_alloc_new w _)).trans ?_
    simp only [List.getElem?_toArray]
    exact hc0
  have q1 : (w.alloc (.cells #[.string ⟨#[]⟩, .bool true, .string ⟨#[0]⟩, .bool true, .string ⟨#[254]⟩, .bool true, .string ⟨#[255]⟩, .bool false, .string ⟨#[255, 0, 0, 0, 0, 0, 0, 0]⟩, .bool false, .string ⟨#[255, 0, 0, 0, 0, 0, 0, 0, 0]⟩, .bool false, .string ⟨#[255, 0, 0, 0, 0, 0, 0, 0, 253]⟩, .bool false, .string ⟨#[255, 0, 0, 0, 0, 0, 0, 0, 254]⟩, .bool true, .string ⟨#[255, 255, 255, 255, 255, 255, 255, 255, 255]⟩, .bool false, .string ⟨#[255, 255, 255, 255, 255, 255, 255, 255, 254]⟩, .bool true, .string ⟨#[255, 127, 255, 255, 255, 255, 255, 255, 255, 5]⟩, .bool true, .string ⟨#[5, 255, 128, 0, 0, 0, 0, 0, 0, 0]⟩, .bool true, .string ⟨#[5, 255, 128]⟩, .bool false] 30)).cell? ⟨w.heap.size, K * 2 + 1, none⟩ = some (.bool ok) := by
    refine (cell_of_row _ _ _ _ _ _ (heap_alloc_new w _)).trans ?_
    simp only [List.getElem?_toArray]
    exact hc1
  have HDEC := Kept.mk hdec
  have kb := fun (w : World) => run_bytes_of_string (P := Try.prog) w 9 24 5 ⟨S.toArray⟩ Try.underlying9 Try.underlying24 Try.underlying5
  clear hc0 hc1 hdec
  go_enter Try.func4, Try.ntmps4
  go_wp2_with fail
  refine (code_get (some ⟨w.heap.size + 1 + 1, 0, Option.none⟩) _ _ S _ rfl (grownCap_ge _ _ _ _) (Reads.drew (str_reads _ S _ _ ?hg)) (by omega)).mono ?_
  case hg => simp
  rintro en w8 ⟨m, okk, A8, c8, hg⟩
  have hx : w8.heap[w.heap.size + 1]? = some (.cells #[.string ⟨S.toArray⟩, .bool ok] 30 (0, 0)) :=
    (hg.below.block (w.heap.size + 1) (by simp [World.drew])).trans ((heap_alloc_old _ _ (by simp)).trans (heap_at_new (by simp)))
  have z0 := cell_of_row w8 (w.heap.size + 1) 0 _ _ _ hx
  have z1 := cell_of_row w8 (w.heap.size + 1) 1 _ _ _ hx
  have BW : Kept (Below w.heap.size w w8) := ⟨((((Below.refl _ w).alloc (Nat.le_refl _) _).alloc (by simp) _).alloc (by simp; omega) _).drew.trans (hg.below.mono (by simp [World.drew]; omega))⟩
  have SZ : Kept (w.heap.size + 2 ≤ w8.heap.size) := ⟨by have := hg.below.size; simp [World.drew] at this; omega⟩
  have HG := Kept.mk hg
  have Z0 : Kept (w8.cell? ⟨w.heap.size + 1, 0, none⟩ = some (.string ⟨S.toArray⟩)) := ⟨z0⟩
  have Z1 : Kept (w8.cell? ⟨w.heap.size + 1, 1, none⟩ = some (.bool ok)) := ⟨z1⟩
  clear hg hx z0 z1 q0 q1 kb
  cases ok with
  | true =>
    have hd : ∃ l, dec 10 S = some l := Option.isSome_iff_exists.1 HDEC.out
    obtain ⟨l, hl⟩ := hd
    obtain ⟨hp, h64⟩ := dec_some 10 S l hl
    obtain ⟨rfl, rfl⟩ := HG.out.of_row h64 hp
    obtain ⟨rfl, hc8, hm8, r8, -, -, -, -⟩ := HG.out
    have R8 := Kept.mk r8
    have H64 := Kept.mk h64
    have HP := Kept.mk hp
    have HSS : Kept ((putL m == S) = true) := ⟨by rw [hp]; simp⟩
    clear r8 h64 hp hl HDEC HG
    go_upto_region 4 with fail
    refine region_tell (w8.heap.size) (G := fun _ => True) (ts := [
        .is (.bool true),
        .is (.pointer (some ⟨w.heap.size + 1, 1, none⟩)),
        .is (.bool true),
        .is (.bool true),
        .is (.bool true),
        .is (.bool true),
        .is (.bool true),
        .is (undef),
        .is (undef),
        .is (undef),
        .is (.bool true),
        .is (.bool true),
        .is (.bool true),
        .is (.bool true),
        .is (.bool false),
        .is (.bool false),
        .is (.slice A8 m.length c8),
        .makes (fun v w' => OwnB w' w8.heap.size v (putL m)),
        .is (.string ⟨(putL m).toArray⟩),
        .is (.pointer (some ⟨w.heap.size + 1, 0, none⟩)),
        .is (.string ⟨S.toArray⟩),
        .is (.bool true),
        .is (.bool true),
        .is (.bool true),
        .is (.bool true),
        .draws (.bool true),
        .is (.bool true),
        .is (.bool true)]) (fin := []) (cs := []) (by kernel_rfl) rfl (by kernel_rfl) (by kernel_rfl) ⟨trivial, trivial, trivial, trivial, trivial, trivial, trivial, trivial, trivial, trivial, trivial, trivial, trivial, trivial, trivial, trivial, trivial, OwnB.grows, trivial, trivial, trivial, trivial, trivial, trivial, trivial, trivial, trivial, trivial, trivial⟩ (fun _ _ _ _ => trivial) (by simp) (by simp) trivial
      ⟨?_, ?_, ?_, ?_, ?_, ?_, ?_, ?_, ?_, ?_, ?_, ?_, ?_, ?_, ?_, ?_, ?_, ?_, ?_, ?_, ?_, ?_, ?_, ?_, ?_, ?_, ?_, ?_, trivial⟩ ?_
    · intro vals w1 hB _ hd
      clear hd
      refine one_value (v := Value.bool true) rfl ?_ (post_is rfl)
      kernel_rfl
    · intro vals w1 hB _ hd
      clear hd
      refine one_value (v := Value.pointer (some ⟨w.heap.size + 1, 1, none⟩)) rfl ?_ (post_is rfl)
      simp only [fillT, Tell.is, Tell.draws, Tell.makes, Act.put, List.setIfInBounds_toArray, List.set_cons_zero, List.set_cons_succ]; go_simp
    · intro vals w1 hB _ hd
      clear hd
      refine one_value (v := Value.bool true) rfl ?_ (post_is rfl)
      have hz := hB.cell (p := ⟨w.heap.size + 1, 1, none⟩) (by show w.heap.size + 1 < w8.heap.size; have := SZ.out; omega); rw [Z1.out] at hz; simp only [fillT, Tell.is, Tell.draws, Tell.makes, Act.put, List.setIfInBounds_toArray, List.set_cons_zero, List.set_cons_succ]; go_simp
    · intro vals w1 hB _ hd
      clear hd
      refine one_value (v := Value.bool true) rfl ?_ (post_is rfl)
      kernel_rfl
    · intro vals w1 hB _ hd
      clear hd
      refine one_value (v := Value.bool true) rfl ?_ (post_is rfl)
      kernel_rfl
    · intro vals w1 hB _ hd
      clear hd
      refine one_value_g (v := Value.bool true) (by kernel_rfl) ?_ (post_is rfl)
      kernel_rfl
    · intro vals w1 hB _ hd
      clear hd
      refine one_value_g (v := Value.bool true) (by kernel_rfl) ?_ (post_is rfl)
      kernel_rfl
    · intro vals w1 hB _ hd
      clear hd
      exact one_not (by kernel_rfl) (post_is rfl)
    · intro vals w1 hB _ hd
      clear hd
      exact one_not (by kernel_rfl) (post_is rfl)
    · intro vals w1 hB _ hd
      clear hd
      exact one_not (by kernel_rfl) (post_is rfl)
    · intro vals w1 hB _ hd
      clear hd
      refine one_value_g (v := Value.bool true) (by kernel_rfl) ?_ (post_is rfl)
      kernel_rfl
    · intro vals w1 hB _ hd
      clear hd
      refine one_value (v := Value.bool true) rfl ?_ (post_is rfl)
      kernel_rfl
    · intro vals w1 hB _ hd
      clear hd
      refine one_value (v := Value.bool true) rfl ?_ (post_is rfl)
      kernel_rfl
    · intro vals w1 hB _ hd
      clear hd
      refine one_value_g (v := Value.bool true) (by kernel_rfl) ?_ (post_is rfl)
      kernel_rfl
    · intro vals w1 hB _ hd
      clear hd
      refine one_value_g (v := Value.bool false) (by kernel_rfl) ?_ (post_is rfl)
      kernel_rfl
    · intro vals w1 hB _ hd
      clear hd
      refine one_value_g (v := Value.bool false) (by kernel_rfl) ?_ (post_is rfl)
      kernel_rfl
    · intro vals w1 hB _ hd
      clear hd
      refine one_value_g (v := Value.slice A8 m.length c8) (by kernel_rfl) ?_ (post_is rfl)
      kernel_rfl
    · intro vals w1 hB _ hd
      clear hd
      refine one_calls_g (f := 10) (args := #[.slice A8 m.length c8]) (w1 := w1) (by kernel_rfl) ?_ ?_
      · kernel_rfl
      refine (code_put A8 _ c8 m w1 rfl (R8.out.past hB) H64.out (by omega)).mono ?_
      rintro e1 w2 ⟨v, rfl, h1, h2⟩
      exact ⟨v, rfl, post_makes rfl (OwnB.lower h1 hB.size) h2⟩
    · intro vals w1 hB _ hd
      have h17 : OwnB w1 w8.heap.size (vals 17) (putL m) := hd 17 (by kernel_rfl)
      clear hd
      obtain ⟨A9, c9, e9, hc9, r9⟩ := h17.shape
      have hs := run_string (c := c9) r9 rfl
      refine one_value_g (v := Value.string ⟨(putL m).toArray⟩) (by kernel_rfl) ?_ (post_is rfl)
      simp only [fillT, Tell.is, Tell.draws, Tell.makes, Act.put, List.setIfInBounds_toArray, List.set_cons_zero, List.set_cons_succ]; go_simp
    · intro vals w1 hB _ hd
      clear hd
      refine one_value_g (v := Value.pointer (some ⟨w.heap.size + 1, 0, none⟩)) (by kernel_rfl) ?_ (post_is rfl)
      simp only [fillT, Tell.is, Tell.draws, Tell.makes, Act.put, List.setIfInBounds_toArray, List.set_cons_zero, List.set_cons_succ]; go_simp
    · intro vals w1 hB _ hd
      clear hd
      refine one_value_g (v := Value.string ⟨S.toArray⟩) (by kernel_rfl) ?_ (post_is rfl)
      have hz := hB.cell (p := ⟨w.heap.size + 1, 0, none⟩) (by show w.heap.size + 1 < w8.heap.size; have := SZ.out; omega); rw [Z0.out] at hz; simp only [fillT, Tell.is, Tell.draws, Tell.makes, Act.put, List.setIfInBounds_toArray, List.set_cons_zero, List.set_cons_succ]; go_simp
    · intro vals w1 hB _ hd
      clear hd
      refine one_value_g (v := Value.bool true) (by kernel_rfl) ?_ (post_is rfl)
      have hss := HSS.out; simp only [fillT, Tell.is, Tell.draws, Tell.makes, Act.put, List.setIfInBounds_toArray, List.set_cons_zero, List.set_cons_succ]; go_simp
    · intro vals w1 hB _ hd
      clear hd
      refine one_value_g (v := Value.bool true) (by kernel_rfl) ?_ (post_is rfl)
      kernel_rfl
    · intro vals w1 hB _ hd
      clear hd
      refine one_value (v := Value.bool true) rfl ?_ (post_is rfl)
      kernel_rfl
    · intro vals w1 hB _ hd
      clear hd
      refine one_value (v := Value.bool true) rfl ?_ (post_is rfl)
      kernel_rfl
    · intro vals w1 hB _ hd
      clear hd
      refine one_calls_g (f := 9) (args := #[]) (w1 := w1) (by kernel_rfl) ?_ ?_
      · kernel_rfl
      refine (awake2 w1).mono ?_
      rintro e1 w2 ⟨rfl, hw⟩
      exact ⟨_, rfl, post_draws rfl hw⟩
    · intro vals w1 hB _ hd
      clear hd
      refine one_value (v := Value.bool true) rfl ?_ (post_is rfl)
      kernel_rfl
    · intro vals w1 hB _ hd
      clear hd
      refine one_value (v := Value.bool true) rfl ?_ (post_is rfl)
      kernel_rfl
    intro vals w1 hB _ hr
    simp only [fillT, Tell.is, Tell.draws, Tell.makes, Act.put, List.setIfInBounds_toArray, List.set_cons_zero, List.set_cons_succ]
    go_wp2
    go_ret
    exact ⟨rfl, BW.out.trans (hB.mono BW.out.size)⟩
  | false =>
    have hd : dec 10 S = none := by
      have := HDEC.out
      cases h : dec 10 S with
      | none => rfl
      | some l => rw [h] at this; cases this
    obtain ⟨rfl, rfl⟩ := HG.out.of_none (dec_none 10 S hS hd)
    obtain ⟨rfl, hc8, hm8, r8, -, -, -, -⟩ := HG.out
    clear r8 hd HDEC HG
    go_upto_region 4 with fail
    refine region_tell (w8.heap.size) (G := fun _ => True) (ts := [
        .is (.bool false),
        .is (.pointer (some ⟨w.heap.size + 1, 1, none⟩)),
        .is (.bool false),
        .is (.bool true),
        .is (.bool true),
        .is (.bool false),
        .is (.bool false),
        .is (.slice A8 0 c8),
        .is (.int .i64 0),
        .is (.bool true),
        .is (.bool true),
        .is (.bool true),
        .is (.bool true),
        .is (.bool false),
        .is (.bool true),
        .is (.bool true),
        .is (undef),
        .is (undef),
        .is (undef),
        .is (undef),
        .is (undef),
        .is (undef),
        .is (.bool true),
        .is (.bool true),
        .is (.bool true),
        .draws (.bool true),
        .is (.bool true),
        .is (.bool true)]) (fin := []) (cs := []) (by kernel_rfl) rfl (by kernel_rfl) (by kernel_rfl) ⟨trivial, trivial, trivial, trivial, trivial, trivial, trivial, trivial, trivial, trivial, trivial, trivial, trivial, trivial, trivial, trivial, trivial, trivial, trivial, trivial, trivial, trivial, trivial, trivial, trivial, trivial, trivial, trivial, trivial⟩ (fun _ _ _ _ => trivial) (by simp) (by simp) trivial
      ⟨?_, ?_, ?_, ?_, ?_, ?_, ?_, ?_, ?_, ?_, ?_, ?_, ?_, ?_, ?_, ?_, ?_, ?_, ?_, ?_, ?_, ?_, ?_, ?_, ?_, ?_, ?_, ?_, trivial⟩ ?_
    · intro vals w1 hB _ hd
      clear hd
      refine one_value (v := Value.bool false) rfl ?_ (post_is rfl)
      kernel_rfl
    · intro vals w1 hB _ hd
      clear hd
      refine one_value (v := Value.pointer (some ⟨w.heap.size + 1, 1, none⟩)) rfl ?_ (post_is rfl)
      simp only [fillT, Tell.is, Tell.draws, Act.put, List.setIfInBounds_toArray, List.set_cons_zero, List.set_cons_succ]; go_simp
    · intro vals w1 hB _ hd
      clear hd
      refine one_value (v := Value.bool false) rfl ?_ (post_is rfl)
      have hz := hB.cell (p := ⟨w.heap.size + 1, 1, none⟩) (by show w.heap.size + 1 < w8.heap.size; have := SZ.out; omega); rw [Z1.out] at hz; simp only [fillT, Tell.is, Tell.draws, Act.put, List.setIfInBounds_toArray, List.set_cons_zero, List.set_cons_succ]; go_simp
    · intro vals w1 hB _ hd
      clear hd
      refine one_value (v := Value.bool true) rfl ?_ (post_is rfl)
      kernel_rfl
    · intro vals w1 hB _ hd
      clear hd
      refine one_value (v := Value.bool true) rfl ?_ (post_is rfl)
      kernel_rfl
    · intro vals w1 hB _ hd
      clear hd
      refine one_value_g (v := Value.bool false) (by kernel_rfl) ?_ (post_is rfl)
      kernel_rfl
    · intro vals w1 hB _ hd
      clear hd
      refine one_value_g (v := Value.bool false) (by kernel_rfl) ?_ (post_is rfl)
      kernel_rfl
    · intro vals w1 hB _ hd
      clear hd
      refine one_value_g (v := Value.slice A8 0 c8) (by kernel_rfl) ?_ (post_is rfl)
      kernel_rfl
    · intro vals w1 hB _ hd
      clear hd
      refine one_value_g (v := Value.int .i64 0) (by kernel_rfl) ?_ (post_is rfl)
      kernel_rfl
    · intro vals w1 hB _ hd
      clear hd
      refine one_value_g (v := Value.bool true) (by kernel_rfl) ?_ (post_is rfl)
      simp only [fillT, Tell.is, Tell.draws, Act.put, List.setIfInBounds_toArray, List.set_cons_zero, List.set_cons_succ]; go_simp
    · intro vals w1 hB _ hd
      clear hd
      refine one_value_g (v := Value.bool true) (by kernel_rfl) ?_ (post_is rfl)
      kernel_rfl
    · intro vals w1 hB _ hd
      clear hd
      refine one_value (v := Value.bool true) rfl ?_ (post_is rfl)
      kernel_rfl
    · intro vals w1 hB _ hd
      clear hd
      refine one_value (v := Value.bool true) rfl ?_ (post_is rfl)
      kernel_rfl
    · intro vals w1 hB _ hd
      clear hd
      refine one_value_g (v := Value.bool false) (by kernel_rfl) ?_ (post_is rfl)
      kernel_rfl
    · intro vals w1 hB _ hd
      clear hd
      refine one_value_g (v := Value.bool true) (by kernel_rfl) ?_ (post_is rfl)
      kernel_rfl
    · intro vals w1 hB _ hd
      clear hd
      refine one_value_g (v := Value.bool true) (by kernel_rfl) ?_ (post_is rfl)
      kernel_rfl
    · intro vals w1 hB _ hd
      clear hd
      exact one_not (by kernel_rfl) (post_is rfl)
    · intro vals w1 hB _ hd
      clear hd
      exact one_not (by kernel_rfl) (post_is rfl)
    · intro vals w1 hB _ hd
      clear hd
      exact one_not (by kernel_rfl) (post_is rfl)
    · intro vals w1 hB _ hd
      clear hd
      exact one_not (by kernel_rfl) (post_is rfl)
    · intro vals w1 hB _ hd
      clear hd
      exact one_not (by kernel_rfl) (post_is rfl)
    · intro vals w1 hB _ hd
      clear hd
      exact one_not (by kernel_rfl) (post_is rfl)
    · intro vals w1 hB _ hd
      clear hd
      refine one_value_g (v := Value.bool true) (by kernel_rfl) ?_ (post_is rfl)
      kernel_rfl
    · intro vals w1 hB _ hd
      clear hd
      refine one_value (v := Value.bool true) rfl ?_ (post_is rfl)
      kernel_rfl
    · intro vals w1 hB _ hd
      clear hd
      refine one_value (v := Value.bool true) rfl ?_ (post_is rfl)
      kernel_rfl
    · intro vals w1 hB _ hd
      clear hd
      refine one_calls_g (f := 9) (args := #[]) (w1 := w1) (by kernel_rfl) ?_ ?_
      · kernel_rfl
      refine (awake2 w1).mono ?_
      rintro e1 w2 ⟨rfl, hw⟩
      exact ⟨_, rfl, post_draws rfl hw⟩
    · intro vals w1 hB _ hd
      clear hd
      refine one_value (v := Value.bool true) rfl ?_ (post_is rfl)
      kernel_rfl
    · intro vals w1 hB _ hd
      clear hd
      refine one_value (v := Value.bool true) rfl ?_ (post_is rfl)
      kernel_rfl
    intro vals w1 hB _ hr
    simp only [fillT, Tell.is, Tell.draws, Act.put, List.setIfInBounds_toArray, List.set_cons_zero, List.set_cons_succ]
    go_wp2
    go_ret
    exact ⟨rfl, BW.out.trans (hB.mono BW.out.size)⟩
end Go.Proofs.Ytlkejledgghjnaa
