/- What the document fixes of fetc holds: the law's own 'awake' answers true. -/
import Derived.Test.YtchldbkjapnlcaaJo
import Derived.Test.YtchldbkjapnlcaaJg
import Derived.Test.YtchldbkjapnlcaaJm
set_option linter.unusedVariables false
set_option linter.unusedSimpArgs false
section
namespace Go.Proofs.Ytchldbkjapnlcaa
open Go.RowKit

def il14 : List Inst := [⟨5, 10, 0, false, 0, false, 0, ⟨#[]⟩, 2⟩, ⟨8, 0, 0, false, 0, false, 0, ⟨#[]⟩, 3⟩, ⟨11, 0, 0, false, 0, false, 0, ⟨#[]⟩, 0⟩, ⟨9, 0, 0, false, 0, false, 0, ⟨#[]⟩, 0⟩]
theorem g14a : guessesOf 2 il14 ⟨⟨0, 0, 0, 0, [], [], 0⟩, [], [], 0⟩ = 2 := by decide
theorem g14b : guessesOf 2 il14 ⟨⟨0, 0, 0, 0, [], [], (-1)⟩, [⟨0, 0, 0, -1, 2, false, false, false⟩, ⟨2, 0, 0, -1, -1, true, false, false⟩], [], 0⟩ = 0 := by decide
theorem g14c : guessesOf 2 il14 ⟨⟨0, 0, 0, 0, [], [], 3⟩, [], [], 0⟩ = 5 := by decide
theorem f14a : fetchQ 2 il14 ⟨⟨0, 0, 0, 0, [], [], 0⟩, [], [], 0⟩ 1 = some ⟨⟨0, 0, 0, 0, [], [], 2⟩, [⟨0, 0, 0, -1, 2, false, false, false⟩], [], 0⟩ := by decide
theorem f14b : fetchQ 2 il14 ⟨⟨0, 0, 0, 0, [], [], 0⟩, [], [], 0⟩ 2 = none := by decide
theorem f14c : fetchQ 2 il14 ⟨⟨0, 0, 0, 0, [], [], 2⟩, [⟨0, 0, 0, -1, 2, false, false, false⟩], [], 0⟩ 0 = some ⟨⟨0, 0, 0, 0, [], [], (-1)⟩, [⟨0, 0, 0, -1, 2, false, false, false⟩, ⟨2, 0, 0, -1, -1, true, false, false⟩], [], 0⟩ := by decide
set_option maxRecDepth 100000 in
set_option maxHeartbeats 1600000 in
theorem awake14 (w : World) : Calls Try.prog 43 #[] w (SaysTrue w) := by
 have HB : Kept (∀ w1, Calls Try.prog 36 #[.agg #[.int .i64 0, .int .i64 0, .int .i64 0, .int .i64 0, .slice none 0 0, .slice none 0 0, .int .i64 0]] w1 fun en w' => en = .returned (.agg #[.int .i64 0, .int .i64 0, .int .i64 0, .int .i64 0, .slice none 0 0, .slice none 0 0, .int .i64 0, .slice none 0 0, .slice none 0 0, .int .i64 0]) ∧ Below w1.heap.size w1 w') := ⟨fun w1 => begin_ref ⟨0, 0, 0, 0, ⟨none, 0, 0⟩, ⟨none, 0, 0⟩, 0⟩ w1⟩
 go_enter Try.func43, Try.ntmps43
 go_upto_region 2 with (fail)
 have bb := (below_alloc_self w (.cells #[.int .i64 5, .int .i64 10, .int .i64 0, .bool false, .int .i64 0, .bool false, .int .i64 0, .string ⟨#[]⟩, .int .i64 2, .int .i64 8, .int .i64 0, .int .i64 0, .bool false, .int .i64 0, .bool false, .int .i64 0, .string ⟨#[]⟩, .int .i64 3, .int .i64 11, .int .i64 0, .int .i64 0, .bool false, .int .i64 0, .bool false, .int .i64 0, .string ⟨#[]⟩, .int .i64 0, .int .i64 9, .int .i64 0, .int .i64 0, .bool false, .int .i64 0, .bool false, .int .i64 0, .string ⟨#[]⟩, .int .i64 0] 53)).alloc (by simp) (.cells #[.int .i64 1, .int .i64 2, .int .i64 0, .int .i64 0, .int .i64 0, .int .i64 0, .int .i64 0, .slice none 0 0, .slice none 0 0, .slice (some ⟨w.heap.size, 0, none⟩) 4 4] 33)
 have XP := heap_alloc2_new w (.cells #[.int .i64 5, .int .i64 10, .int .i64 0, .bool false, .int .i64 0, .bool false, .int .i64 0, .string ⟨#[]⟩, .int .i64 2, .int .i64 8, .int .i64 0, .int .i64 0, .bool false, .int .i64 0, .bool false, .int .i64 0, .string ⟨#[]⟩, .int .i64 3, .int .i64 11, .int .i64 0, .int .i64 0, .bool false, .int .i64 0, .bool false, .int .i64 0, .string ⟨#[]⟩, .int .i64 0, .int .i64 9, .int .i64 0, .int .i64 0, .bool false, .int .i64 0, .bool false, .int .i64 0, .string ⟨#[]⟩, .int .i64 0] 53) (.cells #[.int .i64 1, .int .i64 2, .int .i64 0, .int .i64 0, .int .i64 0, .int .i64 0, .int .i64 0, .slice none 0 0, .slice none 0 0, .slice (some ⟨w.heap.size, 0, none⟩) 4 4] 33)
 have XI := heap_keep (heap_alloc_new w (.cells #[.int .i64 5, .int .i64 10, .int .i64 0, .bool false, .int .i64 0, .bool false, .int .i64 0, .string ⟨#[]⟩, .int .i64 2, .int .i64 8, .int .i64 0, .int .i64 0, .bool false, .int .i64 0, .bool false, .int .i64 0, .string ⟨#[]⟩, .int .i64 3, .int .i64 11, .int .i64 0, .int .i64 0, .bool false, .int .i64 0, .bool false, .int .i64 0, .string ⟨#[]⟩, .int .i64 0, .int .i64 9, .int .i64 0, .int .i64 0, .bool false, .int .i64 0, .bool false, .int .i64 0, .string ⟨#[]⟩, .int .i64 0] 53)) (below_alloc_self _ (.cells #[.int .i64 1, .int .i64 2, .int .i64 0, .int .i64 0, .int .i64 0, .int .i64 0, .int .i64 0, .slice none 0 0, .slice none 0 0, .slice (some ⟨w.heap.size, 0, none⟩) 4 4] 33))
 have NI : RdN ((w.alloc (.cells #[.int .i64 5, .int .i64 10, .int .i64 0, .bool false, .int .i64 0, .bool false, .int .i64 0, .string ⟨#[]⟩, .int .i64 2, .int .i64 8, .int .i64 0, .int .i64 0, .bool false, .int .i64 0, .bool false, .int .i64 0, .string ⟨#[]⟩, .int .i64 3, .int .i64 11, .int .i64 0, .int .i64 0, .bool false, .int .i64 0, .bool false, .int .i64 0, .string ⟨#[]⟩, .int .i64 0, .int .i64 9, .int .i64 0, .int .i64 0, .bool false, .int .i64 0, .bool false, .int .i64 0, .string ⟨#[]⟩, .int .i64 0] 53)).alloc (.cells #[.int .i64 1, .int .i64 2, .int .i64 0, .int .i64 0, .int .i64 0, .int .i64 0, .int .i64 0, .slice none 0 0, .slice none 0 0, .slice (some ⟨w.heap.size, 0, none⟩) 4 4] 33)) (some ⟨w.heap.size, 0, none⟩) il14 := reads_block (n := 4) (size := 9) (heap_keep (heap_alloc_new w (.cells #[.int .i64 5, .int .i64 10, .int .i64 0, .bool false, .int .i64 0, .bool false, .int .i64 0, .string ⟨#[]⟩, .int .i64 2, .int .i64 8, .int .i64 0, .int .i64 0, .bool false, .int .i64 0, .bool false, .int .i64 0, .string ⟨#[]⟩, .int .i64 3, .int .i64 11, .int .i64 0, .int .i64 0, .bool false, .int .i64 0, .bool false, .int .i64 0, .string ⟨#[]⟩, .int .i64 0, .int .i64 9, .int .i64 0, .int .i64 0, .bool false, .int .i64 0, .bool false, .int .i64 0, .string ⟨#[]⟩, .int .i64 0] 53)) (below_alloc_self _ (.cells #[.int .i64 1, .int .i64 2, .int .i64 0, .int .i64 0, .int .i64 0, .int .i64 0, .int .i64 0, .slice none 0 0, .slice none 0 0, .slice (some ⟨w.heap.size, 0, none⟩) 4 4] 33))) rfl
 have HP : PIs ((w.alloc (.cells #[.int .i64 5, .int .i64 10, .int .i64 0, .bool false, .int .i64 0, .bool false, .int .i64 0, .string ⟨#[]⟩, .int .i64 2, .int .i64 8, .int .i64 0, .int .i64 0, .bool false, .int .i64 0, .bool false, .int .i64 0, .string ⟨#[]⟩, .int .i64 3, .int .i64 11, .int .i64 0, .int .i64 0, .bool false, .int .i64 0, .bool false, .int .i64 0, .string ⟨#[]⟩, .int .i64 0, .int .i64 9, .int .i64 0, .int .i64 0, .bool false, .int .i64 0, .bool false, .int .i64 0, .string ⟨#[]⟩, .int .i64 0] 53)).alloc (.cells #[.int .i64 1, .int .i64 2, .int .i64 0, .int .i64 0, .int .i64 0, .int .i64 0, .int .i64 0, .slice none 0 0, .slice none 0 0, .slice (some ⟨w.heap.size, 0, none⟩) 4 4] 33)) ⟨1, 2, 0, 0, 0, 0, 0, .slice none 0 0, .slice none 0 0, some ⟨w.heap.size, 0, none⟩, 4, 4⟩ il14 := ⟨rfl, (show 4 ≤ 1000 by omega), NI⟩
 have W1 := Kept.mk bb
 clear bb NI
 generalize (w.alloc (.cells #[.int .i64 5, .int .i64 10, .int .i64 0, .bool false, .int .i64 0, .bool false, .int .i64 0, .string ⟨#[]⟩, .int .i64 2, .int .i64 8, .int .i64 0, .int .i64 0, .bool false, .int .i64 0, .bool false, .int .i64 0, .string ⟨#[]⟩, .int .i64 3, .int .i64 11, .int .i64 0, .int .i64 0, .bool false, .int .i64 0, .bool false, .int .i64 0, .string ⟨#[]⟩, .int .i64 0, .int .i64 9, .int .i64 0, .int .i64 0, .bool false, .int .i64 0, .bool false, .int .i64 0, .string ⟨#[]⟩, .int .i64 0] 53)).alloc (.cells #[.int .i64 1, .int .i64 2, .int .i64 0, .int .i64 0, .int .i64 0, .int .i64 0, .int .i64 0, .slice none 0 0, .slice none 0 0, .slice (some ⟨w.heap.size, 0, none⟩) 4 4] 33) = w1 at *
 go_wp2_with fail
 refine (HB.out w1).mono ?_
 rintro en w2 ⟨rfl, b2⟩
 have XP := heap_keep XP b2
 have XI := heap_keep XI b2
 have HP := HP.past b2
 have W2 := Kept.mk (W1.out.trans (b2.mono W1.out.size))
 clear W1 b2 HB
 go_upto_region 3 with (fail)
 have QP := XP
 have bC := below_alloc_self w2 (.cells #[.int .i64 0, .int .i64 0, .int .i64 0, .int .i64 0, .slice none 0 0, .slice none 0 0, .int .i64 0, .slice none 0 0, .slice none 0 0, .int .i64 0] 41)
 have XC := heap_alloc_new w2 (.cells #[.int .i64 0, .int .i64 0, .int .i64 0, .int .i64 0, .slice none 0 0, .slice none 0 0, .int .i64 0, .slice none 0 0, .slice none 0 0, .int .i64 0] 41)
 have XP := heap_keep XP bC
 have XI := heap_keep XI bC
 have HP := Kept.mk (HP.past bC)
 have W3 := Kept.mk (W2.out.trans (bC.mono W2.out.size))
 have S3 : w2.heap.size < (w2.alloc (.cells #[.int .i64 0, .int .i64 0, .int .i64 0, .int .i64 0, .slice none 0 0, .slice none 0 0, .int .i64 0, .slice none 0 0, .slice none 0 0, .int .i64 0] 41)).heap.size := by simp
 clear W2 bC
 generalize w2.alloc (.cells #[.int .i64 0, .int .i64 0, .int .i64 0, .int .i64 0, .slice none 0 0, .slice none 0 0, .int .i64 0, .slice none 0 0, .slice none 0 0, .int .i64 0] 41) = w3 at *
 have q2 : w.heap.size + 1 < w2.heap.size := (Array.getElem?_eq_some_iff.1 QP).1
 obtain ⟨S2, hS2⟩ : ∃ S2, w2.heap.size = S2 := ⟨_, rfl⟩
 rw [hS2] at XC S3 q2 ⊢
 clear hS2
 have Y1 := fun j => cell_of_row w3 (w.heap.size + 1) j _ _ _ XP
 have Y2 := fun j => cell_of_row w3 S2 j _ _ _ XC
 go_wp2_with fail
 refine (pguesses_any ⟨1, 2, 0, 0, 0, 0, 0, .slice none 0 0, .slice none 0 0, some ⟨w.heap.size, 0, none⟩, 4, 4⟩ il14 ⟨⟨0, 0, 0, 0, ⟨none, 0, 0⟩, ⟨none, 0, 0⟩, 0⟩, ⟨none, 0, 0⟩, ⟨none, 0, 0⟩, 0⟩ ⟨⟨0, 0, 0, 0, [], [], 0⟩, [], [], 0⟩ w3 HP.out CfIs.zero (by decide) (by decide)).mono ?_
 rintro en w4 ⟨rfl, b4⟩
 rw [g14a]
 have XI := heap_keep XI b4
 have XP := heap_keep XP b4
 have XC := heap_keep XC b4
 have HP := Kept.mk (HP.out.past b4)
 have W4 := Kept.mk (W3.out.trans (b4.mono W3.out.size))
 have hs4 : S2 < w4.heap.size := (Array.getElem?_eq_some_iff.1 XC).1
 clear Y1 Y2 W3 b4
 have Y1 := fun j => cell_of_row w4 (w.heap.size + 1) j _ _ _ XP
 have Y2 := fun j => cell_of_row w4 S2 j _ _ _ XC
 go_wp2_with fail
 refine (pfetch_own ⟨1, 2, 0, 0, 0, 0, 0, .slice none 0 0, .slice none 0 0, some ⟨w.heap.size, 0, none⟩, 4, 4⟩ il14 ⟨⟨0, 0, 0, 0, ⟨none, 0, 0⟩, ⟨none, 0, 0⟩, 0⟩, ⟨none, 0, 0⟩, ⟨none, 0, 0⟩, 0⟩ ⟨⟨0, 0, 0, 0, [], [], 0⟩, [], [], 0⟩ 1 w4 HP.out CfIs.zero (by decide) (by decide) (by decide) (by decide) (by decide)).mono ?_
 rintro en w5 ⟨ca, e5, hca, b5⟩
 rw [f14a] at e5 hca
 obtain rfl := e5
 obtain ⟨⟨a0, a1, a2, a3, ⟨amA, amN, amC⟩, ⟨asA, asN, asC⟩, apc⟩, ⟨abA, abN, abC⟩, ⟨aqA, aqN, aqC⟩, af⟩ := ca
 have HA := Kept.mk hca
 have XI := heap_keep XI b5
 have XP := heap_keep XP b5
 have XC := heap_keep XC b5
 have HP := Kept.mk (HP.out.past b5)
 have W5 := Kept.mk (W4.out.trans (b5.mono W4.out.size))
 clear Y1 Y2 W4 b5 hca
 have Y1 := fun j => cell_of_row w5 (w.heap.size + 1) j _ _ _ XP
 have Y2 := fun j => cell_of_row w5 S2 j _ _ _ XC
 go_upto_region 5 with (fail)
 have hs5 : S2 < w5.heap.size := (Array.getElem?_eq_some_iff.1 XC).1
 clear Y1 Y2
 have bE := below_alloc_self w5 (.cells #[.int .i64 a0, .int .i64 a1, .int .i64 a2, .int .i64 a3, .slice amA amN amC, .slice asA asN asC, .int .i64 apc, .slice abA abN abC, .slice aqA aqN aqC, .int .i64 af] 41)
 have XA := heap_alloc_new w5 (.cells #[.int .i64 a0, .int .i64 a1, .int .i64 a2, .int .i64 a3, .slice amA amN amC, .slice asA asN asC, .int .i64 apc, .slice abA abN abC, .slice aqA aqN aqC, .int .i64 af] 41)
 have XI := heap_keep XI bE
 have XP := heap_keep XP bE
 have XC := heap_keep XC bE
 have HP := Kept.mk (HP.out.past bE)
 have HA := Kept.mk (HA.out.past bE)
 have W6 := Kept.mk (W5.out.trans (bE.mono W5.out.size))
 have S6 : w5.heap.size < (w5.alloc (.cells #[.int .i64 a0, .int .i64 a1, .int .i64 a2, .int .i64 a3, .slice amA amN amC, .slice asA asN asC, .int .i64 apc, .slice abA abN abC, .slice aqA aqN aqC, .int .i64 af] 41)).heap.size := by simp
 clear W5 bE
 generalize w5.alloc (.cells #[.int .i64 a0, .int .i64 a1, .int .i64 a2, .int .i64 a3, .slice amA amN amC, .slice asA asN asC, .int .i64 apc, .slice abA abN abC, .slice aqA aqN aqC, .int .i64 af] 41) = w6 at *
 obtain ⟨S5, hS⟩ : ∃ S, w5.heap.size = S := ⟨_, rfl⟩
 rw [hS] at XA S6 hs5 ⊢
 clear hS
 have Y1 := fun j => cell_of_row w6 (w.heap.size + 1) j _ _ _ XP
 have Y2 := fun j => cell_of_row w6 S2 j _ _ _ XC
 have YA := fun j => cell_of_row w6 S5 j _ _ _ XA
 go_wp2_with fail
 refine (pfetch_own ⟨1, 2, 0, 0, 0, 0, 0, .slice none 0 0, .slice none 0 0, some ⟨w.heap.size, 0, none⟩, 4, 4⟩ il14 ⟨⟨0, 0, 0, 0, ⟨none, 0, 0⟩, ⟨none, 0, 0⟩, 0⟩, ⟨none, 0, 0⟩, ⟨none, 0, 0⟩, 0⟩ ⟨⟨0, 0, 0, 0, [], [], 0⟩, [], [], 0⟩ 2 w6 HP.out CfIs.zero (by decide) (by decide) (by decide) (by decide) (by decide)).mono ?_
 rintro en w7 ⟨cz, e7, hcz, b7⟩
 rw [f14b] at e7 hcz
 obtain rfl := e7
 obtain ⟨⟨z0, z1, z2, z3, ⟨zmA, zmN, zmC⟩, ⟨zsA, zsN, zsC⟩, zpc⟩, ⟨zbA, zbN, zbC⟩, ⟨zqA, zqN, zqC⟩, zf⟩ := cz
 have XI := heap_keep XI b7
 have XP := heap_keep XP b7
 have XC := heap_keep XC b7
 have XA := heap_keep XA b7
 have HP := Kept.mk (HP.out.past b7)
 have HA := Kept.mk (HA.out.past b7)
 have W7 := Kept.mk (W6.out.trans (b7.mono W6.out.size))
 clear Y1 Y2 W6 b7 hcz
 have Y1 := fun j => cell_of_row w7 (w.heap.size + 1) j _ _ _ XP
 have Y2 := fun j => cell_of_row w7 S2 j _ _ _ XC
 have YA := fun j => cell_of_row w7 S5 j _ _ _ XA
 go_upto_region 6 with (fail)
 clear Y1 Y2 YA
 have bE := below_alloc_self w7 (.cells #[.int .i64 z0, .int .i64 z1, .int .i64 z2, .int .i64 z3, .slice zmA zmN zmC, .slice zsA zsN zsC, .int .i64 zpc, .slice zbA zbN zbC, .slice zqA zqN zqC, .int .i64 zf] 41)
 have XZ := heap_alloc_new w7 (.cells #[.int .i64 z0, .int .i64 z1, .int .i64 z2, .int .i64 z3, .slice zmA zmN zmC, .slice zsA zsN zsC, .int .i64 zpc, .slice zbA zbN zbC, .slice zqA zqN zqC, .int .i64 zf] 41)
 have XI := heap_keep XI bE
 have XP := heap_keep XP bE
 have XC := heap_keep XC bE
 have XA := heap_keep XA bE
 have HP := Kept.mk (HP.out.past bE)
 have HA := Kept.mk (HA.out.past bE)
 have W8 := Kept.mk (W7.out.trans (bE.mono W7.out.size))
 have S8 : w7.heap.size < (w7.alloc (.cells #[.int .i64 z0, .int .i64 z1, .int .i64 z2, .int .i64 z3, .slice zmA zmN zmC, .slice zsA zsN zsC, .int .i64 zpc, .slice zbA zbN zbC, .slice zqA zqN zqC, .int .i64 zf] 41)).heap.size := by simp
 clear W7 bE
 generalize w7.alloc (.cells #[.int .i64 z0, .int .i64 z1, .int .i64 z2, .int .i64 z3, .slice zmA zmN zmC, .slice zsA zsN zsC, .int .i64 zpc, .slice zbA zbN zbC, .slice zqA zqN zqC, .int .i64 zf] 41) = w8 at *
 obtain ⟨S7, hS⟩ : ∃ S, w7.heap.size = S := ⟨_, rfl⟩
 rw [hS] at XZ S8  ⊢
 clear hS
 have Y1 := fun j => cell_of_row w8 (w.heap.size + 1) j _ _ _ XP
 have Y2 := fun j => cell_of_row w8 S2 j _ _ _ XC
 have YA := fun j => cell_of_row w8 S5 j _ _ _ XA
 have hs8 : S2 < w8.heap.size := (Array.getElem?_eq_some_iff.1 XC).1
 go_wp2_with fail
 refine (pfetch_own ⟨1, 2, 0, 0, 0, 0, 0, .slice none 0 0, .slice none 0 0, some ⟨w.heap.size, 0, none⟩, 4, 4⟩ il14 ⟨⟨a0, a1, a2, a3, ⟨amA, amN, amC⟩, ⟨asA, asN, asC⟩, apc⟩, ⟨abA, abN, abC⟩, ⟨aqA, aqN, aqC⟩, af⟩ ⟨⟨0, 0, 0, 0, [], [], 2⟩, [⟨0, 0, 0, -1, 2, false, false, false⟩], [], 0⟩ 0 w8 HP.out HA.out.is (by decide) (by decide) (by decide) (by decide) (by decide)).mono ?_
 rintro en w9 ⟨cb, e9, hcb, b9⟩
 rw [f14c] at e9 hcb
 obtain rfl := e9
 obtain ⟨⟨b0, b1, b2, b3, ⟨bmA, bmN, bmC⟩, ⟨bsA, bsN, bsC⟩, bpc⟩, ⟨bbA, bbN, bbC⟩, ⟨bqA, bqN, bqC⟩, bf⟩ := cb
 have HBB := Kept.mk hcb
 have XI := heap_keep XI b9
 have XP := heap_keep XP b9
 have XC := heap_keep XC b9
 have XA := heap_keep XA b9
 have HP := Kept.mk (HP.out.past b9)
 have HA := Kept.mk (HA.out.past b9)
 have W9 := Kept.mk (W8.out.trans (b9.mono W8.out.size))
 clear Y1 Y2 YA W8 b9 hcb
 have Y1 := fun j => cell_of_row w9 (w.heap.size + 1) j _ _ _ XP
 have Y2 := fun j => cell_of_row w9 S2 j _ _ _ XC
 have YA := fun j => cell_of_row w9 S5 j _ _ _ XA
 go_upto_region 7 with (fail)
 clear Y1 Y2 YA
 have hs9 : S5 < w9.heap.size := (Array.getElem?_eq_some_iff.1 XA).1
 have bE := below_alloc_self w9 (.cells #[.int .i64 b0, .int .i64 b1, .int .i64 b2, .int .i64 b3, .slice bmA bmN bmC, .slice bsA bsN bsC, .int .i64 bpc, .slice bbA bbN bbC, .slice bqA bqN bqC, .int .i64 bf] 41)
 have XB := heap_alloc_new w9 (.cells #[.int .i64 b0, .int .i64 b1, .int .i64 b2, .int .i64 b3, .slice bmA bmN bmC, .slice bsA bsN bsC, .int .i64 bpc, .slice bbA bbN bbC, .slice bqA bqN bqC, .int .i64 bf] 41)
 have XI := heap_keep XI bE
 have XP := heap_keep XP bE
 have XC := heap_keep XC bE
 have XA := heap_keep XA bE
 have HP := Kept.mk (HP.out.past bE)
 have HA := Kept.mk (HA.out.past bE)
 have HBB := Kept.mk (HBB.out.past bE)
 have W10 := Kept.mk (W9.out.trans (bE.mono W9.out.size))
 have S10 : w9.heap.size < (w9.alloc (.cells #[.int .i64 b0, .int .i64 b1, .int .i64 b2, .int .i64 b3, .slice bmA bmN bmC, .slice bsA bsN bsC, .int .i64 bpc, .slice bbA bbN bbC, .slice bqA bqN bqC, .int .i64 bf] 41)).heap.size := by simp
 clear W9 bE
 generalize w9.alloc (.cells #[.int .i64 b0, .int .i64 b1, .int .i64 b2, .int .i64 b3, .slice bmA bmN bmC, .slice bsA bsN bsC, .int .i64 bpc, .slice bbA bbN bbC, .slice bqA bqN bqC, .int .i64 bf] 41) = w10 at *
 obtain ⟨S9, hS⟩ : ∃ S, w9.heap.size = S := ⟨_, rfl⟩
 rw [hS] at XB S10 hs9 ⊢
 clear hS
 have Y1 := fun j => cell_of_row w10 (w.heap.size + 1) j _ _ _ XP
 have Y2 := fun j => cell_of_row w10 S2 j _ _ _ XC
 have YA := fun j => cell_of_row w10 S5 j _ _ _ XA
 have YB := fun j => cell_of_row w10 S9 j _ _ _ XB
 have F2 := fun j => frozen_of_row w10 S2 j _ _ XC
 go_upto_region 8 with (fail)
 have XC : (w10.setCell ⟨S2, 6, none⟩ (.int .i64 3)).heap[S2]? = some (.cells #[.int .i64 0, .int .i64 0, .int .i64 0, .int .i64 0, .slice none 0 0, .slice none 0 0, .int .i64 3, .slice none 0 0, .slice none 0 0, .int .i64 0] 41) := heap_setCell_same w10 S2 6 _ _ (.int .i64 3) XC
 have XP := heap_set_far (p := ⟨S2, 6, none⟩) (u := .int .i64 3) XP (by show S2 ≠ w.heap.size + 1; omega)
 have XA := heap_set_far (p := ⟨S2, 6, none⟩) (u := .int .i64 3) XA (by show S2 ≠ S5; omega)
 have XB := heap_set_far (p := ⟨S2, 6, none⟩) (u := .int .i64 3) XB (by show S2 ≠ S9; omega)
 have HA4 := HA.out.far (p := ⟨S2, 6, none⟩) (show S2 < w4.heap.size from hs4) (.int .i64 3)
 have HB4 := HBB.out.far (p := ⟨S2, 6, none⟩) (show S2 < w8.heap.size from hs8) (.int .i64 3)
 have XI := heap_set_far (p := ⟨S2, 6, none⟩) (u := .int .i64 3) XI (by show S2 ≠ w.heap.size; omega)
 have HP4 : PIs (w10.setCell ⟨S2, 6, none⟩ (.int .i64 3)) ⟨1, 2, 0, 0, 0, 0, 0, .slice none 0 0, .slice none 0 0, some ⟨w.heap.size, 0, none⟩, 4, 4⟩ il14 := ⟨rfl, (show 4 ≤ 1000 by omega), reads_block (n := 4) (size := 9) XI rfl⟩
 have W11 := Kept.mk (W10.out.setCell (p := ⟨S2, 6, none⟩) (show w.heap.size ≤ S2 by omega) (.int .i64 3))
 clear W10 Y1 Y2 YA YB HP HA HBB
 generalize w10.setCell ⟨S2, 6, none⟩ (.int .i64 3) = w11 at *
 have Y1 := fun j => cell_of_row w11 (w.heap.size + 1) j _ _ _ XP
 have Y2 := fun j => cell_of_row w11 S2 j _ _ _ XC
 have YA := fun j => cell_of_row w11 S5 j _ _ _ XA
 have YB := fun j => cell_of_row w11 S9 j _ _ _ XB
 have HP := Kept.mk HP4
 have HB4K := Kept.mk HB4.is
 have hapc : apc = 2 := HA4.pc
 have habn : abN = 1 := HA4.is.buf.n
 have hab := HA4.is.buf.r
 have hbpc : bpc = -1 := HB4.pc
 have hbbn : bbN = 2 := HB4.is.buf.n
 have hbb := HB4.is.buf.r
 obtain ⟨p1, o1, rfl, -, q0, q1, q2', q3, q4, q5, q6, q7⟩ := RdE.at_ hab (i := 0) (by decide)
 obtain ⟨p2, o2, rfl, -, -, -, -, -, -, m5, -, -⟩ := RdE.at_ hbb (i := 1) (by decide)
 simp only [List.getElem_cons_zero, List.getElem_cons_succ, Nat.zero_mul, Nat.one_mul, Nat.add_zero] at q0 q1 q2' q3 q4 q5 q6 q7 m5
 subst hapc habn hbpc hbbn
 clear hab hbb HA4 HB4 hs4 hs5 hs8 hs9 XI XA XB XZ
 have KP := Kept.mk XP
 have KC := Kept.mk XC
 clear XP XC
 go_wp2_with fail
 refine (pguesses_any ⟨1, 2, 0, 0, 0, 0, 0, .slice none 0 0, .slice none 0 0, some ⟨w.heap.size, 0, none⟩, 4, 4⟩ il14 ⟨⟨b0, b1, b2, b3, ⟨bmA, bmN, bmC⟩, ⟨bsA, bsN, bsC⟩, (-1)⟩, ⟨some ⟨p2, o2, none⟩, 2, bbC⟩, ⟨bqA, bqN, bqC⟩, bf⟩ ⟨⟨0, 0, 0, 0, [], [], (-1)⟩, [⟨0, 0, 0, -1, 2, false, false, false⟩, ⟨2, 0, 0, -1, -1, true, false, false⟩], [], 0⟩ w11 HP.out HB4K.out (by decide) (by decide)).mono ?_
 rintro en w12 ⟨rfl, b12⟩
 rw [g14b]
 have XP := heap_keep KP.out b12
 have XC := heap_keep KC.out b12
 have HP := Kept.mk (HP.out.past b12)
 have W12 := Kept.mk (W11.out.trans (b12.mono W11.out.size))
 clear Y1 Y2 YA YB W11 b12 KP KC HB4K q0 q1 q2' q3 q4 q5 q6 q7 m5
 have Y1 := fun j => cell_of_row w12 (w.heap.size + 1) j _ _ _ XP
 have Y2 := fun j => cell_of_row w12 S2 j _ _ _ XC
 go_wp2_with fail
 refine (pguesses_any ⟨1, 2, 0, 0, 0, 0, 0, .slice none 0 0, .slice none 0 0, some ⟨w.heap.size, 0, none⟩, 4, 4⟩ il14 ⟨⟨0, 0, 0, 0, ⟨none, 0, 0⟩, ⟨none, 0, 0⟩, 3⟩, ⟨none, 0, 0⟩, ⟨none, 0, 0⟩, 0⟩ ⟨⟨0, 0, 0, 0, [], [], 3⟩, [], [], 0⟩ w12 HP.out ⟨⟨rfl, rfl, rfl, rfl, RdIs.nil, RdIs.nil, rfl⟩, RdEs.nil, RdIs.nil, rfl⟩ (by decide) (by decide)).mono ?_
 rintro en w13 ⟨rfl, b13⟩
 rw [g14c]
 have W13 := Kept.mk (W12.out.trans (b13.mono W12.out.size))
 clear Y1 Y2 XP XC b13 HP W12
 go_wp2_with fail
 go_ret
 exact ⟨rfl, W13.out⟩
end Go.Proofs.Ytchldbkjapnlcaa
end
