/- The document's own set: made; a key put into it that is there, or where there is no room. -/
import Derived.Test.YtonlefopjpdecaaReff
import Derived.BigRegion
import Derived.Deep.RegionLaw
namespace Go.Proofs.Ytonlefopjpdecaa
open Go.RowKit Go.Maps

set_option maxHeartbeats 1000000 in
theorem ref_new (m : Int) (w : World) :
    Calls Try.prog 15 #[.int .i64 m] w fun en w' => en = .returned (.pointer (some ⟨w.heap.size, 0, none⟩)) ∧ RefAt w' w.heap.size w.heap.size (.slice none 0 0) (.slice none 0 0) (min (max m 0) 1000000).toNat [] [] ∧ Below w.heap.size w w' := by
  obtain ⟨K, hK, hK1⟩ : ∃ K : Nat, min (max m 0) 1000000 = (K : Int) ∧ K ≤ 1000000 := ⟨(min (max m 0) 1000000).toNat, by omega, by omega⟩
  have HK := Kept.mk hK
  go_enter Try.func15, Try.ntmps15
  go_wp2_with fail
  go_ret
  refine ⟨rfl, ⟨Nat.le_refl _, ?_, OwnS.nil, OwnI.nil, ⟨by simp, List.Pairwise.nil, by simp⟩, List.nodup_nil, by simp, by omega⟩, below_alloc_self w _⟩
  rw [HK.out, Int.toNat_natCast]
  exact heap_at_new rfl
set_option maxHeartbeats 1000000 in
theorem radd_there {w : World} {B T : Nat} {vL vP : Value} {most : Nat} {L : List (List UInt8)} {P : List Nat} (h : RefAt w B T vL vP most L P) (A : Option Addr) (n c : Nat) (s : List UInt8) (hl : s.length = n) (hr : RdB w A s) (hin : s ∈ L) :
    Calls Try.prog 18 #[.pointer (some ⟨T, 0, none⟩), .slice A n c] w fun en w' => en = .returned (.tuple #[.int .i64 (place L s : Nat), .bool false, .bool true]) ∧ Below w.heap.size w w' := by
  have HREF := Kept.mk h
  have HR := Kept.mk hr
  clear h hr
  go_enter Try.func18, Try.ntmps18
  go_wp2_with fail
  refine (find_is HREF.out A n c s hl HR.out).mono ?_
  rintro en wp ⟨rfl, hb⟩
  rw [decide_eq_true hin]
  have HB := Kept.mk hb
  clear hb
  go_wp2_with fail
  exact at_ret _ [.int .i64 (place L s : Nat), .bool false, .bool true] Try.results18 (.cons (.tmp rfl) (.cons (.tmp rfl) (.cons (.tmp rfl) .nil))) rfl ⟨rfl, HB.out⟩
set_option maxHeartbeats 1000000 in
theorem radd_full {w : World} {B T : Nat} {vL vP : Value} {most : Nat} {L : List (List UInt8)} {P : List Nat} (h : RefAt w B T vL vP most L P) (A : Option Addr) (n c : Nat) (s : List UInt8) (hl : s.length = n) (hr : RdB w A s) (hin : s ∉ L) (hfull : most ≤ L.length) :
    Calls Try.prog 18 #[.pointer (some ⟨T, 0, none⟩), .slice A n c] w fun en w' => en = .returned (.tuple #[.int .i64 0, .bool false, .bool false]) ∧ Below w.heap.size w w' := by
  have HREF := Kept.mk h
  have HR := Kept.mk hr
  clear h hr
  go_enter Try.func18, Try.ntmps18
  go_wp2_with fail
  refine (find_is HREF.out A n c s hl HR.out).mono ?_
  rintro en wp ⟨rfl, hb⟩
  rw [decide_eq_false hin]
  have hp := HREF.out.past hb
  obtain ⟨AL, cL, AP, cP, rfl, rfl, hcL, hcP, rL, rP⟩ := hp.shapes
  have z0 := cell_of_row wp T 0 _ _ _ hp.hT
  have z1 := cell_of_row wp T 1 _ _ _ hp.hT
  have hge : (most : Int) ≤ (L.length : Int) := by omega
  have HB := Kept.mk hb
  clear hb hp rL rP
  go_wp2_with fail
  go_quiet (fail)
  go_wp2_with fail
  exact at_ret _ [.int .i64 0, .bool false, .bool false] Try.results18 (.cons (.tmp rfl) (.cons (.tmp rfl) (.cons (.tmp rfl) .nil))) rfl ⟨rfl, below_drewN HB.out _⟩

/-- What a new key may turn: the set's struct and its two rows. -/
structure TouchR (w w' : World) (T : Nat) (vL vP : Value) : Prop where
  os : w'.os = w.os
  tape : w'.tape = w.tape
  output : w'.output = w.output
  size : w.heap.size ≤ w'.heap.size
  block : ∀ k, k < w.heap.size → k ≠ T → some k ≠ vL.ownBlock → some k ≠ vP.ownBlock → w'.heap[k]? = w.heap[k]?
section
variable {w ws ws' : World} {T : Nat} {vL vP : Value}
theorem TouchR.past (t : TouchR w ws T vL vP) (hb : Below ws.heap.size ws ws') : TouchR w ws' T vL vP :=
  ⟨hb.os.trans t.os, hb.tape.trans t.tape, hb.output.trans t.output, Nat.le_trans t.size hb.size, fun k hk h1 h2 h3 => (hb.block k (Nat.lt_of_lt_of_le hk t.size)).trans (t.block k hk h1 h2 h3)⟩
theorem TouchR.of_below (hb : Below w.heap.size w ws) : TouchR w ws T vL vP := ⟨hb.os, hb.tape, hb.output, hb.size, fun k hk _ _ _ => hb.block k hk⟩
theorem TouchR.step {row : Option Nat} (t : TouchR w ws T vL vP) (hg : ws.grownBy ws' row) (h : ∀ g, row = some g → g = T ∨ some g = vL.ownBlock ∨ some g = vP.ownBlock ∨ w.heap.size ≤ g) : TouchR w ws' T vL vP :=
  ⟨hg.os.trans t.os, hg.tape.trans t.tape, hg.output.trans t.output, Nat.le_trans t.size hg.size, fun k hk h1 h2 h3 => (hg.block k (Nat.lt_of_lt_of_le hk t.size) (fun e => by
    rcases h k e.symm with h | h | h | h
    · exact h1 h
    · exact h2 h
    · exact h3 h
    · omega)).trans (t.block k hk h1 h2 h3)⟩
end
/-- A place put in among the places, by its rank. -/
theorem Ranked.insert {L : List (List UInt8)} {P : List Nat} (h : Ranked L P) {s : List UInt8} (hs : s ∉ L) : Ranked (L ++ [s]) (P.take (rankOf L s) ++ L.length :: P.drop (rankOf L s)) := by
  have hkey : ∀ p ∈ P, keyAt (L ++ [s]) p = keyAt L p := fun p hp => by
    unfold keyAt
    rw [List.getD_eq_getElem?_getD, List.getD_eq_getElem?_getD, List.getElem?_append_left (h.lt p hp)]
  have hnew : keyAt (L ++ [s]) L.length = s := by simp [keyAt]
  have hlow : ∀ p ∈ P.take (rankOf L s), lessB (keyAt L p) s = true := fun p hp => by
    obtain ⟨i, hi, rfl⟩ := List.getElem_of_mem hp
    have hi' : i < rankOf L s ∧ i < P.length := by rw [List.length_take] at hi; omega
    rw [List.getElem_take, h.less s hi'.2]
    simpa using hi'.1
  have hhigh : ∀ p ∈ P.drop (rankOf L s), lessB s (keyAt L p) = true := fun p hp => by
    obtain ⟨i, hi, rfl⟩ := List.getElem_of_mem hp
    rw [List.length_drop] at hi
    have h1 : lessB (keyAt L (P[rankOf L s + i]'(by omega))) s = false := by rw [h.less s (by omega)]; simp
    rw [List.getElem_drop]
    have hne : keyAt L (P[rankOf L s + i]'(by omega)) ≠ s := fun e => hs (e ▸ keyAt_mem (h.lt _ (List.getElem_mem _)))
    have h2 := less_one (keyAt L (P[rankOf L s + i]'(by omega))) s
    rw [h1] at h2
    simpa [hne] using h2
  have hmt : ∀ p ∈ P.take (rankOf L s), p ∈ P := fun p hp => List.mem_of_mem_take hp
  have hmd : ∀ p ∈ P.drop (rankOf L s), p ∈ P := fun p hp => List.mem_of_mem_drop hp
  refine ⟨fun p hp => ?_, ?_, ?_⟩
  · rw [List.length_append, List.length_singleton]
    rcases List.mem_append.1 hp with hp | hp
    · have := h.lt p (hmt p hp); omega
    · rcases List.mem_cons.1 hp with rfl | hp
      · omega
      · have := h.lt p (hmd p hp); omega
  · rw [List.pairwise_append, List.pairwise_cons]
    refine ⟨?_, ⟨fun q hq => ?_, ?_⟩, fun p hp q hq => ?_⟩
    · exact (h.sorted.sublist (List.take_sublist _ _)).imp_of_mem (fun ha hb hab => by rw [hkey _ (hmt _ ha), hkey _ (hmt _ hb)]; exact hab)
    · rw [hnew, hkey q (hmd q hq)]; exact hhigh q hq
    · exact (h.sorted.sublist (List.drop_sublist _ _)).imp_of_mem (fun ha hb hab => by rw [hkey _ (hmd _ ha), hkey _ (hmd _ hb)]; exact hab)
    · rw [hkey p (hmt p hp)]
      rcases List.mem_cons.1 hq with rfl | hq
      · rw [hnew]; exact hlow p hp
      · rw [hkey q (hmd q hq)]; exact less_trans (hlow p hp) (hhigh q hq)
  · rw [List.map_append, List.map_cons, hnew, List.map_congr_left (fun p hp => hkey p (hmt p hp)), List.map_congr_left (fun p hp => hkey p (hmd p hp))]
    refine List.perm_middle.trans ?_
    rw [← List.map_append, List.take_append_drop]
    exact (List.Perm.cons s h.perm).trans (List.perm_append_singleton s L).symm
end Go.Proofs.Ytonlefopjpdecaa
