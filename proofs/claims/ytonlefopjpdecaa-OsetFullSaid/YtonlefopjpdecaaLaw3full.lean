/- The law OsetFull: a full set takes no new key, and tells those that it has. -/
import Derived.Test.YtonlefopjpdecaaAwa3
import Derived.Test.YtonlefopjpdecaaMask
namespace Go.Proofs.Ytonlefopjpdecaa
open Go.RowKit Go.Maps

/-- The first keys: each one byte. -/
def firstKeys (j : Nat) : List (List UInt8) := (List.range j).map fun x => [UInt8.ofNat x]
theorem firstKeys_length (j : Nat) : (firstKeys j).length = j := by simp [firstKeys]
theorem firstKeys_succ (j : Nat) : firstKeys (j + 1) = firstKeys j ++ [[UInt8.ofNat j]] := by simp [firstKeys, List.range_succ]
theorem ofNat_inj {a b : Nat} (ha : a < 256) (hb : b < 256) (h : (UInt8.ofNat a) = UInt8.ofNat b) : a = b := by
  have := congrArg UInt8.toNat h
  rw [UInt8.toNat_ofNat', UInt8.toNat_ofNat'] at this
  omega
theorem firstKeys_mem {j i : Nat} (hj : j ≤ 256) (hi : i < 256) : [UInt8.ofNat i] ∈ firstKeys j ↔ i < j := by
  simp only [firstKeys, List.mem_map, List.mem_range]
  constructor
  · rintro ⟨x, hx, he⟩
    injection he with he
    have := ofNat_inj (by omega) hi he
    omega
  · intro h
    exact ⟨i, h, rfl⟩
theorem firstKeys_place : ∀ {j i : Nat}, j ≤ 256 → i < j → place (firstKeys j) [UInt8.ofNat i] = i
  | 0, _, _, h => by omega
  | j + 1, i, hj, hi => by
    have hn : [UInt8.ofNat j] ∉ firstKeys j := fun h => by have := (firstKeys_mem (j := j) (by omega) (by omega)).1 h; omega
    rw [firstKeys_succ, place_snoc hn]
    by_cases e : i = j
    · subst e
      rw [if_pos rfl, firstKeys_length]
    · rw [if_neg (fun h => e (ofNat_inj (by omega) (by omega) (by injection h))), firstKeys_place (by omega) (by omega)]
theorem RdB.one {w : World} {g i : Nat} {t : TypeId} {fr : Nat × Nat} (h : w.heap[g]? = some (.cells #[.int .u8 (i : Int)] t fr)) (hi : i < 256) : RdB w (some ⟨g, 0, none⟩) [UInt8.ofNat i] := by
  have e : bytCs [UInt8.ofNat i] = [.int .u8 (i : Int)] := by
    have : (UInt8.ofNat i).toNat = i := by rw [UInt8.toNat_ofNat']; omega
    simp only [bytCs, List.map_cons, List.map_nil, this]
  unfold RdB
  rw [e]
  exact reads_block h rfl

set_option maxRecDepth 100000 in
set_option maxHeartbeats 4000000 in
theorem full_walk (most n : Int) (w : World) (_hm : -9223372036854775808 ≤ most ∧ most ≤ 9223372036854775807) (_hn : -9223372036854775808 ≤ n ∧ n ≤ 9223372036854775807) :
    Calls Try.prog 4 #[.int .i64 most, .int .i64 n] w (SaysTrue w) := by
  obtain ⟨M1, hM1, hM10, hM11⟩ := mask31 most
  obtain ⟨M2, hM2, hM20, hM21⟩ := mask63 n
  obtain ⟨K, rfl⟩ := Int.eq_ofNat_of_zero_le hM10
  obtain ⟨N, rfl⟩ := Int.eq_ofNat_of_zero_le hM20
  have hK : K ≤ 31 := by omega
  have hN : N ≤ 63 := by omega
  clear hM10 hM11 hM20 hM21
  go_enter Try.func4, Try.ntmps4
  go_wp2_with fail
  refine (new_set (K : Int) w).mono ?_
  rintro en w1 ⟨rfl, h1, b1⟩
  have hk : (min (max (K : Int) 0) 1000000).toNat = K := by omega
  rw [hk] at h1
  have H1 := Kept.mk h1
  have B1 := Kept.mk b1
  clear h1 b1 hk hM1 hM2
  go_wp2_with fail
  go_loopw [6] (fun iv wr => ∃ (i : Nat) (v : Value), i ≤ N ∧ iv = .int .i64 i ∧ SetAt wr w.heap.size (w.heap.size + 1) w.heap.size v K (firstKeys (min i K)) ∧ Below w.heap.size w wr) (fun iv _ => N - (intOf iv).toNat)
  case atStart => exact ⟨0, _, by omega, rfl, by simpa [firstKeys] using H1.out, B1.out⟩
  case round =>
    obtain ⟨i, v, hi, rfl, hset, hb⟩ := hrel
    have HS := Kept.mk hset
    have HB := Kept.mk hb
    clear hset hb
    by_cases hlt : i < N
    · have hlti : (i : Int) < (N : Int) := by omega
      obtain ⟨j, hj⟩ : ∃ j : Nat, j = i / 2 := ⟨_, rfl⟩
      have hj1 : (i : Int) / 2 = (j : Int) := by omega
      have hj2 : Int.tdiv (i : Int) 2 = (j : Int) := by rw [Int.tdiv_eq_ediv_of_nonneg (by omega)]; exact hj1
      have wi : IntKind.u8.wrap (i : Int) = (i : Int) := IntWalk.u8_in _ (by omega)
      have wj : IntKind.u8.wrap (j : Int) = (j : Int) := IntWalk.u8_in _ (by omega)
      have HJ := Kept.mk hj
      clear hj
      have hor : i < K ∨ (K ≤ i ∧ j < K) ∨ (K ≤ i ∧ K ≤ j) := by omega
      rcases hor with h | ⟨h, h'⟩ | ⟨h, h'⟩
      · have hmi : min i K = i := by omega
        rw [hmi] at HS
        have hiK : (i : Int) < (K : Int) := by omega
        have hjK : (j : Int) < (K : Int) := by have := HJ.out; omega
        clear hmi
        go_wp2_with fail
        refine (add_new (SetAt.past HS.out (below_alloc_self _ _)) (some ⟨wr.heap.size, 0, Option.none⟩) 1 1 [UInt8.ofNat i] rfl (RdB.one (heap_at_new rfl) (by omega)) (by simp [maxLen]) (fun hh => by have := (firstKeys_mem (by omega) (by omega)).1 hh; omega) (by rw [firstKeys_length]; omega)).mono ?_
        rintro en w2 ⟨rfl, v2, h2, t2, -⟩
        rw [← firstKeys_succ] at h2
        rw [firstKeys_length]
        have H2 := Kept.mk h2
        have B2 := Kept.mk (HB.out.trans (((below_alloc_self wr _).mono HB.out.size).trans (Touch.below (SetAt.past HS.out (below_alloc_self _ _)) t2 (by have := HB.out.size; simp; omega))))
        clear h2 t2 HS HB
        go_wp2_with fail
        refine (add_there (SetAt.past H2.out (below_alloc_self _ _)) (some ⟨w2.heap.size, 0, Option.none⟩) 1 1 [UInt8.ofNat j] rfl (RdB.one (heap_at_new rfl) (by have := HJ.out; omega)) (by simp [maxLen]) ((firstKeys_mem (by omega) (by have := HJ.out; omega)).2 (by have := HJ.out; omega))).mono ?_
        rintro en w3 ⟨rfl, kd, hw⟩
        have hset : SetAt w3 w.heap.size (w.heap.size + 1) w.heap.size v2 K (firstKeys (i + 1)) := by rw [hw]; exact (SetAt.past H2.out (below_alloc_self _ _)).drewN kd
        have hbel : Below w.heap.size w w3 := by rw [hw]; exact below_drewN (B2.out.trans ((below_alloc_self w2 _).mono B2.out.size)) kd
        have H3 := Kept.mk hset
        have B3 := Kept.mk hbel
        rw [firstKeys_place (by omega) (by have := HJ.out; omega)]
        clear hset hbel hw H2 B2
        go_wp2_with fail
        go_roundw
        case rel => exact ⟨i + 1, v2, by omega, by go_num, by rw [show min (i + 1) K = i + 1 by omega]; exact H3.out, B3.out⟩
        case measure => simp [intOf]; omega
      · have hmi : min i K = K := by omega
        rw [hmi] at HS
        have hiK : (K : Int) ≤ (i : Int) := by omega
        have hjK : (j : Int) < (K : Int) := by omega
        have hmi1 : min (i + 1) K = K := by omega
        have HMI := Kept.mk hmi1
        clear hmi hmi1
        obtain ⟨w1', hw1⟩ : ∃ w1' : World, w1' = wr := ⟨_, rfl⟩
        have H0 := HS
        have B0 := HB
        clear HS HB hw1
        go_wp2_with fail
        refine (add_full (SetAt.past H0.out (below_alloc_self _ _)) (some ⟨wr.heap.size, 0, Option.none⟩) 1 1 [UInt8.ofNat i] rfl (RdB.one (heap_at_new rfl) (by have := HJ.out; omega)) (by simp [maxLen]) (fun hh => by have := (firstKeys_mem (by omega) (by have := HJ.out; omega)).1 hh; omega) (by rw [firstKeys_length]; omega)).mono ?_
        rintro en w2 ⟨rfl, kd, hw⟩
        have hset : SetAt w2 w.heap.size (w.heap.size + 1) w.heap.size v K (firstKeys K) := by rw [hw]; exact (SetAt.past H0.out (below_alloc_self _ _)).drewN kd
        have hbel : Below w.heap.size w w2 := by rw [hw]; exact below_drewN (B0.out.trans ((below_alloc_self wr _).mono B0.out.size)) kd
        have H2 := Kept.mk hset
        have B2 := Kept.mk hbel
        clear hset hbel hw H0 B0
        go_wp2_with fail
        refine (add_there (SetAt.past H2.out (below_alloc_self _ _)) (some ⟨w2.heap.size, 0, Option.none⟩) 1 1 [UInt8.ofNat j] rfl (RdB.one (heap_at_new rfl) (by have := HJ.out; omega)) (by simp [maxLen]) ((firstKeys_mem (by omega) (by have := HJ.out; omega)).2 (by omega))).mono ?_
        rintro en w3 ⟨rfl, kd, hw⟩
        have hset : SetAt w3 w.heap.size (w.heap.size + 1) w.heap.size v K (firstKeys K) := by rw [hw]; exact (SetAt.past H2.out (below_alloc_self _ _)).drewN kd
        have hbel : Below w.heap.size w w3 := by rw [hw]; exact below_drewN (B2.out.trans ((below_alloc_self w2 _).mono B2.out.size)) kd
        have H3 := Kept.mk hset
        have B3 := Kept.mk hbel
        clear hset hbel hw H2 B2
        rw [firstKeys_place (by omega) (by omega)]
        go_wp2_with fail
        go_roundw
        case rel => exact ⟨i + 1, v, by omega, by go_num, by rw [HMI.out]; exact H3.out, B3.out⟩
        case measure => simp [intOf]; omega
      · have hmi : min i K = K := by omega
        rw [hmi] at HS
        have hiK : (K : Int) ≤ (i : Int) := by omega
        have hjK : (K : Int) ≤ (j : Int) := by omega
        have hmi1 : min (i + 1) K = K := by omega
        have HMI := Kept.mk hmi1
        clear hmi hmi1
        obtain ⟨w1', hw1⟩ : ∃ w1' : World, w1' = wr := ⟨_, rfl⟩
        have H0 := HS
        have B0 := HB
        clear HS HB hw1
        go_wp2_with fail
        refine (add_full (SetAt.past H0.out (below_alloc_self _ _)) (some ⟨wr.heap.size, 0, Option.none⟩) 1 1 [UInt8.ofNat i] rfl (RdB.one (heap_at_new rfl) (by have := HJ.out; omega)) (by simp [maxLen]) (fun hh => by have := (firstKeys_mem (by omega) (by have := HJ.out; omega)).1 hh; omega) (by rw [firstKeys_length]; omega)).mono ?_
        rintro en w2 ⟨rfl, kd, hw⟩
        have hset : SetAt w2 w.heap.size (w.heap.size + 1) w.heap.size v K (firstKeys K) := by rw [hw]; exact (SetAt.past H0.out (below_alloc_self _ _)).drewN kd
        have hbel : Below w.heap.size w w2 := by rw [hw]; exact below_drewN (B0.out.trans ((below_alloc_self wr _).mono B0.out.size)) kd
        have H2 := Kept.mk hset
        have B2 := Kept.mk hbel
        clear hset hbel hw H0 B0
        go_wp2_with fail
        refine (add_full (SetAt.past H2.out (below_alloc_self _ _)) (some ⟨w2.heap.size, 0, Option.none⟩) 1 1 [UInt8.ofNat j] rfl (RdB.one (heap_at_new rfl) (by have := HJ.out; omega)) (by simp [maxLen]) (fun hh => by have := (firstKeys_mem (by omega) (by have := HJ.out; omega)).1 hh; omega) (by rw [firstKeys_length]; omega)).mono ?_
        rintro en w3 ⟨rfl, kd, hw⟩
        have hset : SetAt w3 w.heap.size (w.heap.size + 1) w.heap.size v K (firstKeys K) := by rw [hw]; exact (SetAt.past H2.out (below_alloc_self _ _)).drewN kd
        have hbel : Below w.heap.size w w3 := by rw [hw]; exact below_drewN (B2.out.trans ((below_alloc_self w2 _).mono B2.out.size)) kd
        have H3 := Kept.mk hset
        have B3 := Kept.mk hbel
        clear hset hbel hw H2 B2
        go_wp2_with fail
        go_roundw
        case rel => exact ⟨i + 1, v, by omega, by go_num, by rw [HMI.out]; exact H3.out, B3.out⟩
        case measure => simp [intOf]; omega
    · have hmn : min (K : Int) (N : Int) = ((min N K : Nat) : Int) := by omega
      have hiN : i = N := by omega
      subst hiN
      obtain ⟨P, hP⟩ : ∃ P : Nat, min i K = P := ⟨_, rfl⟩
      rw [hP] at HS hmn
      clear hP
      go_wp2_with fail
      refine (len_set HS.out).mono ?_
      rintro en w2 ⟨rfl, hw⟩
      have hw2 := hw.symm
      subst hw2
      rw [firstKeys_length]
      clear hw
      have hpp : ((P : Int) == (P : Int)) = true := by simp
      go_wp2_with fail
      refine (awake3 _).mono ?_
      rintro en w4 ⟨rfl, b4⟩
      have B4 := Kept.mk (HB.out.trans (b4.mono HB.out.size))
      clear b4
      go_wp2_with fail
      go_ret
      exact ⟨rfl, B4.out⟩
end Go.Proofs.Ytonlefopjpdecaa
