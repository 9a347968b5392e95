/- A region that draws its order: the operations that a guard lets by. A region that draws its order and makes several rows: those are told apart, whatever comes first. A region that draws its order and turns what it reads: each operation is shown with what has been done ahead of it. Cells that lie in a row in memory; the single operations of a region; a program that is handed on. The document's own answer, layer 10: registers, values, fences, as an entry meets them. The document's own words of one bit and of two: Size, Mask, Do. -/
import Derived.Test.YtchldbkjapnlcaaJa
import Derived.Test.YtchldbkjapnlcaaJb
set_option linter.unusedVariables false
set_option linter.unusedSimpArgs false
namespace Go.Proofs.Ytchldbkjapnlcaa
open Go.RowKit
section
section
variable {P : Program} {l : List Oper}
theorem q26 {a1 : Act} {o : Oper} {w : World} {post : Value → World → Prop} {v : Value} (hg : Region.wanted o (yielded l.toArray a1.tmps) = true) (hr : (execOp a1.eval o).run P w = .ok (.value v) w) (hp : post v w) : OneOp P l a1 o w post := by
 refine ⟨fun K hK => ?_⟩
 rw [if_pos hg]
 unfold Oper.wp
 rw [hr]
 exact hK v w hp
end
end
section
def blocksOf : Value → List Nat
 | .slice A n c => (Value.slice A n c).ownBlock.toList
 | .agg cs => cs.toList.flatMap fun v => (match v with | .slice A n c => (Value.slice A n c).ownBlock.toList | _ => [])
 | _ => []
def Dj (u v : Value) : Prop := ∀ k ∈ blocksOf u, k ∉ blocksOf v
theorem Dj.symm {u v : Value} (h : Dj u v) : Dj v u := fun k hk hk' => h k hk' hk
def Fresh (v : Value) (w w' : World) : Prop := ∀ k ∈ blocksOf v, w.heap.size ≤ k ∧ k < w'.heap.size
def freshF (ks : List Nat) (i : Nat) (v : Value) (w w' : World) : Prop := w.heap.size ≤ w'.heap.size ∧ (i ∈ ks → Fresh v w w')
def freshX (ks : List Nat) (done : Nat → Bool) (vals : Nat → Value) (w : World) : Prop :=
 (∀ i ∈ ks, done i = true → ∀ k ∈ blocksOf (vals i), k < w.heap.size) ∧ ∀ i ∈ ks, ∀ j ∈ ks, done i = true → done j = true → i ≠ j → Dj (vals i) (vals j)
theorem freshX0 (ks : List Nat) (w : World) : freshX ks (fun _ => false) (fun _ => undef) w := ⟨fun _ _ h => absurd h (by simp), fun _ _ _ _ h => absurd h (by simp)⟩
theorem freshXs {ks : List Nat} {i : Nat} {done : Nat → Bool} {vals : Nat → Value} {w w' : World} {v : Value} (hX : freshX ks done vals w) (hd : done i = false) (hF : freshF ks i v w w') : freshX ks (fun j => done j || j == i) (fun j => if j = i then v else vals j) w' := by
 refine ⟨fun a ha hda k hk => ?_, fun a ha b hb hda hdb hab => ?_⟩
 ·by_cases hai : a = i
  ·subst hai
   simp only [if_true] at hk
   exact (hF.2 ha k hk).2
  ·simp only [if_neg hai] at hk
   have : done a = true := by simpa [hai] using hda
   exact Nat.lt_of_lt_of_le (hX.1 a ha this k hk) hF.1
 ·by_cases hai : a = i
  ·subst hai
   have hbi : b ≠ a := Ne.symm hab
   have hdb' : done b = true := by simpa [hbi] using hdb
   simp only [if_true, if_neg hbi]
   intro k hk hk'
   have h1 := (hF.2 ha k hk).1
   have h2 := hX.1 b hb hdb' k hk'
   omega
  ·have hda' : done a = true := by simpa [hai] using hda
   by_cases hbi : b = i
   ·subst hbi
    simp only [if_true, if_neg hai]
    intro k hk hk'
    have h1 := (hF.2 hb k hk').1
    have h2 := hX.1 a ha hda' k hk
    omega
   ·have hdb' : done b = true := by simpa [hbi] using hdb
    simp only [if_neg hai, if_neg hbi]
    exact hX.2 a ha b hb hda' hdb' hab
theorem freshEnd {ks : List Nat} {done : Nat → Bool} {vals : Nat → Value} {w : World} (hX : freshX ks done vals w) (hall : ∀ i ∈ ks, done i = true) : ∀ i ∈ ks, ∀ j ∈ ks, i ≠ j → Dj (vals i) (vals j) :=
 fun i hi j hj hij => hX.2 i hi j hj (hall i hi) (hall j hj) hij
abbrev Link := Nat × Nat × (Value → World → Prop)
def linkX (ls : List Link) (done : Nat → Bool) (vals : Nat → Value) (w : World) : Prop := ∀ q ∈ ls, done q.1 = true → done q.2.1 = true ∧ q.2.2 (vals q.2.1) w
def linkF (ls : List Link) (i : Nat) (vals : Nat → Value) (w w' : World) : Prop := ∀ q ∈ ls, (q.1 = i → q.2.2 (vals q.2.1) w') ∧ (q.1 ≠ i → ∀ u, q.2.2 u w → q.2.2 u w')
theorem linkXs {ls : List Link} {i : Nat} {done : Nat → Bool} {vals : Nat → Value} {w w' : World} {v : Value} {o : Oper} (ha : ∀ q ∈ ls, q.1 = i → awaits o q.2.1 = true) (hX : linkX ls done vals w) (hd : done i = false) (hw : ∀ j, awaits o j = true → done j = true) (hF : linkF ls i vals w w') :
  linkX ls (fun j => done j || j == i) (fun j => if j = i then v else vals j) w' := by
 intro q hq hqd
 by_cases hqi : q.1 = i
 ·have hj := hw _ (ha q hq hqi)
  have hji : q.2.1 ≠ i := fun e => by rw [e, hd] at hj; cases hj
  refine ⟨by simp [hj], ?_⟩
  simp only [if_neg hji]
  exact (hF q hq).1 hqi
 ·have hq1 : done q.1 = true := by simpa [hqi] using hqd
  obtain ⟨hj, hl⟩ := hX q hq hq1
  have hji : q.2.1 ≠ i := fun e => by rw [e, hd] at hj; cases hj
  refine ⟨by simp [hj], ?_⟩
  simp only [if_neg hji]
  exact (hF q hq).2 hqi _ hl
def linkOk (l : List Oper) (ts : List Tell) (ij : List (Nat × Nat)) : Bool := ij.all fun p => tellTurns ts p.1 && (match l[p.1]? with | some o => awaits o p.2 | none => false)
def tellxF (ts : List Tell) (ks : List Nat) (ls : List Link) (i : Nat) (vals : Nat → Value) (v : Value) (w w' : World) : Prop := (i ∈ ks → Fresh v w w') ∧ (tellTurns ts i = true → linkF ls i vals w w')
theorem tellx_gives {ts : List Tell} {B : Nat} {w0 : World} {G : World → Prop} {i : Nat} {w w' : World} {v : Value} {ks : List Nat} {ls : List Link} {vals : Nat → Value} (hlt : ∀ q ∈ ls, tellTurns ts q.1 = true) (hlg : ∀ q ∈ ls, Grows q.2.2) (hB : B ≤ w.heap.size) (hw : Below B w0 w) (hG : G w) (hGg : ∀ w w', G w → Below w.heap.size w w' → G w')
  (h : tellPost ts B w0 G i w v w') (hF : tellxF ts ks ls i vals v w w') : tellR ts i v w' ∧ ((Below B w0 w' ∧ B ≤ w'.heap.size ∧ G w') ∧ tellE ts i w w') ∧ freshF ks i v w w' ∧ linkF ls i vals w w' := by
 have h1 := tellPost_gives hB hw hG hGg h
 refine ⟨h1.1, h1.2, ⟨?_, hF.1⟩, ?_⟩
 rotate_left
 ·cases ht : tellTurns ts i with
  | true => exact hF.2 ht
  | false =>
   intro q hq
   refine ⟨fun e => absurd (hlt q hq) (by rw [e, ht]; simp), fun _ u hu => hlg q hq u w w' hu ?_⟩
   unfold tellPost at h
   unfold tellTurns at ht
   cases hti : tellAt ts i with
   | none => rw [hti] at h; simp only at h; subst h; exact Below.refl _ _
   | some t =>
    rw [hti] at h ht
    simp only at h ht
    have h2 := h.2
    cases he : t.eff with
    | keeps => rw [he] at h2; simp only at h2; subst h2; exact Below.refl _ _
    | grows => rw [he] at h2; simp only at h2; exact h2
    | turns E => rw [he] at ht; simp at ht
 unfold tellPost at h
 cases ht : tellAt ts i with
 | none => rw [ht] at h; simp only at h; subst h; exact Nat.le_refl _
 | some t =>
  rw [ht] at h
  simp only at h
  have h2 := h.2
  cases he : t.eff with
  | keeps => rw [he] at h2; simp only at h2; subst h2; exact Nat.le_refl _
  | grows => rw [he] at h2; simp only at h2; exact h2.size
  | turns E => rw [he] at h2; simp only at h2; exact h2.2.2.1
section
variable {P : Program} {l : List Oper} {Q : Exit → Act → World → Prop}
theorem region_rgx {id n : Nat} {a0 : Act} {w0 : World} (X : (Nat → Bool) → (Nat → Value) → World → Prop) (F : Nat → (Nat → Value) → Value → World → World → Prop) (hX0 : X (fun _ => false) (fun _ => undef) w0.drew)
  (hXs : ∀ i o, l[i]? = some o → ∀ (done : Nat → Bool) (vals : Nat → Value) w v w', X done vals w → done i = false → (∀ j, awaits o j = true → done j = true) → F i vals v w w' → X (fun j => done j || j == i) (fun j => if j = i then v else vals j) w') (G : World → Prop) (R : Nat → Value → World → Prop) (E : Nat → World → World → Prop) (mem wd fin : Nat → Bool) (cs : List (Nat × Nat))
  (hm : P.follows .mixedOrders = true) (hn : a0.tmps.size = n) (h1 : rgOps n l = true) (h2 : rgKept l mem wd fin cs = true)
  (hnm : ∀ i w w', mem i = false → E i w w' → w' = w) (hnw : ∀ j v w w', wd j = false → R j v w → R j v w')
  (hst : ∀ p ∈ cs, ∀ v w w', G w → R p.2 v w → E p.1 w w' → R p.2 v w') (h0 : G w0.drew)
  (hop : ∀ i o, l[i]? = some o → ∀ vals w, G w → (∀ j, awaits o j = true → (∃ oj d, l[j]? = some oj ∧ oj.dst = some d ∧ d ∈ o.looksAt l.toArray) → R j (vals j) w) → OneOp P l (fillAll vals l 0 a0) o w (fun v w' => R i v w' ∧ (G w' ∧ E i w w') ∧ F i vals v w w'))
  (hend : ∀ (done : Nat → Bool) vals w, G w → (∀ j, j < l.length → done j = true) → X done vals w → (∀ j, j < l.length → fin j = true → R j (vals j) w) → Q .normal (fillAll vals l 0 a0) w) : (Code.region id l.toArray true).wp P Q a0 w0 := by
 have hs := sane_of h1
 refine wp_region_any hm ?_
 change wpAny P .any l.toArray Q l.toArray.size (Array.replicate l.toArray.size false) a0 w0.drew
 -- the invariant
 have main : ∀ (fuel : Nat) (listed : Array Bool) (a : Act) (w : World) (vals : Nat → Value), listed.size = l.length → listed.toList.count false = fuel → (∀ (j : Nat) (oj : Oper), l[j]? = some oj → listed.getD j false = true → ∀ i, awaits oj i = true → listed.getD i false = true) → G w → X (fun j => listed.getD j false) vals w → Filled l a0 (fun j => listed.getD j false) vals a →
   (∀ j oj, l[j]? = some oj → listed.getD j false = true → (fin j = true ∨ ∃ k ok d, l[k]? = some ok ∧ oj.dst = some d ∧ d ∈ ok.looksAt l.toArray ∧ listed.getD k false = false) → R j (vals j) w) →
   wpAny P .any l.toArray Q fuel listed a w := by
  intro fuel
  have done : ∀ (listed : Array Bool) (a : Act) (w : World) (vals : Nat → Value), listed.size = l.length → G w → X (fun j => listed.getD j false) vals w → Filled l a0 (fun j => listed.getD j false) vals a →
    (∀ j oj, l[j]? = some oj → listed.getD j false = true → (fin j = true ∨ ∃ k ok d, l[k]? = some ok ∧ oj.dst = some d ∧ d ∈ ok.looksAt l.toArray ∧ listed.getD k false = false) → R j (vals j) w) →
    (∀ j, j < l.length → listed.getD j false = true) → Q .normal a w := by
   intro listed a w vals hsz hG hX hF hR hall
   rw [filled_all hs hn hF hall]
   exact hend _ vals w hG hall hX fun j hj hf => hR j l[j] (List.getElem?_eq_getElem hj) (hall j hj) (.inl hf)
  -- nothing may come up: all has
  have none_ready : ∀ (listed : Array Bool), listed.size = l.length → Region.ready .any l.toArray listed = [] → ∀ j, j < l.length → listed.getD j false = true := by
   intro listed hsz hr j
   induction j using Nat.strongRecOn with
   | ind j ih =>
    intro hj
    cases hb : listed.getD j false with
    | true => rfl
    | false =>
     exfalso
     have hmem : j ∈ Region.ready .any l.toArray listed := mem_ready.2 ⟨by
      have : listed[j]? = some (listed[j]'(by omega)) := Array.getElem?_eq_getElem (by omega)
      simp only [Array.getD_eq_getD_getElem?, this, Option.getD_some] at hb ⊢
      exact hb, l[j], by simp [hj], fun e he hbi => ih e.on (hs.back j l[j] (List.getElem?_eq_getElem hj) e he hbi) (by have := hs.back j l[j] (List.getElem?_eq_getElem hj) e he hbi; omega)⟩
     rw [hr] at hmem
     cases hmem
  induction fuel with
  | zero =>
   intro listed a w vals hsz hc hcl hG hX hF hR
   have hall : ∀ j, j < l.length → listed.getD j false = true := fun j hj => by
    have : listed[j]? = some (listed[j]'(by omega)) := Array.getElem?_eq_getElem (by omega)
    simp only [Array.getD_eq_getD_getElem?, this, Option.getD_some]
    cases hb : listed[j]'(by omega) with
    | true => rfl
    | false =>
     exfalso
     have hm : false ∈ listed.toList := by
      rw [← hb]
      exact Array.mem_toList_iff.2 (Array.getElem_mem _)
     exact absurd hc (by have := List.count_pos_iff.2 hm; omega)
   refine ⟨?_, done listed a w vals hsz hG hX hF hR hall⟩
   apply List.eq_nil_iff_forall_not_mem.2
   intro j hj
   obtain ⟨h0, o, ho, _⟩ := mem_ready.1 hj
   have hjl : j < l.length := by
    rcases Nat.lt_or_ge j l.length with h | h
    ·exact h
    ·simp [h] at ho
   have := hall j hjl
   have hx : listed[j]? = some (listed[j]'(by omega)) := Array.getElem?_eq_getElem (by omega)
   simp only [Array.getD_eq_getD_getElem?, hx, Option.getD_some] at this h0
   rw [this] at h0
   cases h0
  | succ fuel ih =>
   intro listed a w vals hsz hc hcl hG hX hF hR
   refine ⟨fun hr => done listed a w vals hsz hG hX hF hR (none_ready listed hsz hr), fun i hi => ?_⟩
   obtain ⟨hun, o, hoa, hall⟩ := mem_ready.1 hi
   have ho : l[i]? = some o := by simpa using hoa
   have hil : i < l.length := (List.getElem?_eq_some_iff.1 ho).1
   have hgi : listed[i]? = some (listed[i]'(by omega)) := Array.getElem?_eq_getElem (by omega)
   have hfi : listed[i]'(by omega) = false := by simpa only [Array.getD_eq_getD_getElem?, hgi, Option.getD_some] using hun
   have hni : listed.getD i false = false := by simp only [Array.getD_eq_getD_getElem?, hgi, Option.getD_some, hfi]
   have hdone : ∀ j, awaits o j = true → listed.getD j false = true := fun j hj => by
    obtain ⟨e, he, hb⟩ := Array.any_eq_true'.1 hj
    simp only [Bool.and_eq_true, beq_iff_eq] at hb
    rw [← hb.2]
    exact hall e he hb.1
   have hset : ∀ j, (listed.setIfInBounds i true).getD j false = (listed.getD j false || j == i) := fun j => by
    by_cases hji : j = i
    ·subst hji
     simp [Array.getD_eq_getD_getElem?, hsz, hil]
    ·simp [Array.getD_eq_getD_getElem?, Array.getElem?_setIfInBounds_ne (Ne.symm hji), hji]
   refine wpOp_step hoa fun K hK => ?_
   refine one_gives (a1 := fillAll vals l 0 a0) (post := fun v w' => R i v w' ∧ (G w' ∧ E i w w') ∧ F i vals v w w') (fun cs b => Region.noSelect_spec hs.sel i o cs b hoa) (fun d hd => by rw [fill_size, hn]; exact hs.inb i o d ho hd) 
    (fun t ht => filled_eval hs hn hF ho hdone t ht) ?_ ?_
   ·refine hop i o ho vals w hG fun j hj hx => ?_
    obtain ⟨oj, d, hoj, hdj, hlk⟩ := hx
    exact hR j oj hoj (hdone j hj) (.inr ⟨i, o, d, ho, hdj, hlk, hni⟩)
   ·rintro v w' ⟨hv, ⟨hG', hE⟩, hFF⟩
    refine hK _ _ (ih (listed.setIfInBounds i true) (a.put o.dst v) w' (fun j => if j = i then v else vals j) (by simpa using hsz) ?_ ?_ hG' (by rw [show (fun j => (listed.setIfInBounds i true).getD j false) = (fun j => listed.getD j false || j == i) from funext hset]; exact hXs i o ho _ vals w v w' hX hni hdone hFF) ?_ ?_)
    ·have hl : listed.toList[i]'(by simpa using by omega) = false := by simpa using hfi
     have hcs := List.count_set (b := false) (a := true) (l := listed.toList) (i := i) (by simpa using by omega)
     rw [Array.toList_setIfInBounds]
     rw [hcs, hl, hc]
     simp
    ·intro j oj hoj hj k hk
     rw [hset] at hj ⊢
     rcases Bool.or_eq_true _ _ ▸ hj with h | h
     ·rw [hcl j oj hoj h k hk, Bool.true_or]
     ·have hji : j = i := by simpa using h
      subst hji
      obtain rfl : o = oj := by rw [ho] at hoj; injection hoj
      rw [hdone k hk, Bool.true_or]
    ·have := filled_put hs hn hF ho hni v
     have he : (fun j => (listed.setIfInBounds i true).getD j false) = (fun j => listed.getD j false || j == i) := funext hset
     rw [he]
     exact this
    ·intro j oj hoj hj hlive
     by_cases hji : j = i
     ·subst hji
      simpa using hv
     ·rw [hset] at hj
      have hj' : listed.getD j false = true := by simpa [hji] using hj
      simp only [if_neg hji]
      have hlive' : fin j = true ∨ ∃ k ok d, l[k]? = some ok ∧ oj.dst = some d ∧ d ∈ ok.looksAt l.toArray ∧ listed.getD k false = false := by
       rcases hlive with h | ⟨k, ok, d, hk, hd, hlk, hkn⟩
       ·exact .inl h
       ·refine .inr ⟨k, ok, d, hk, hd, hlk, ?_⟩
        rw [hset] at hkn
        simp only [Bool.or_eq_false_iff] at hkn
        exact hkn.1
      have hRj := hR j oj hoj hj' hlive'
      cases hwd : wd j with
      | false => exact hnw j _ w w' hwd hRj
      | true =>
       cases hmi : mem i with
       | false => rw [hnm i w w' hmi hE]; exact hRj
       | true =>
        have hk2 := all_at h2 ho
        simp only [hmi, Bool.not_true, Bool.false_or] at hk2
        have hk3 := all_at hk2 hoj
        simp only [hwd, Bool.not_true, Bool.or_false] at hk3
        rw [show (j == i) = false by simpa using hji, Bool.false_or] at hk3
        cases hcc : cs.contains (i, j) with
        | true => exact hst (i, j) (by simpa using hcc) _ w w' hG hRj hE
        | false =>
         exfalso
         have hna : awaits oj i = false := by
          cases hb : awaits oj i with
          | false => rfl
          | true =>
           have := hcl j oj hoj hj' i hb
           rw [hni] at this
           cases this
         rw [hcc, hna, Bool.false_or, Bool.false_or, Bool.and_eq_true] at hk3
         rcases hlive with h | ⟨k, ok, d, hk, hd, hlk, hkn⟩
         ·rw [h] at hk3
          simp at hk3
         ·have hk4 := all_at hk3.2 hk
          rw [hset] at hkn
          simp only [Bool.or_eq_false_iff, beq_eq_false_iff_ne] at hkn
          simp only [hd, Bool.or_eq_true, beq_iff_eq, Bool.not_eq_true'] at hk4
          rcases hk4 with (h | h) | h
          ·exact hkn.2 h
          ·have : (ok.looksAt l.toArray).contains d = true := by simpa using hlk
           rw [this] at h
           cases h
          ·have := hdone k h
           rw [hkn.1] at this
           cases this
 have hz : ∀ j : Nat, (Array.replicate l.toArray.size false).getD j false = false := fun j => by
  rw [Array.getD_eq_getD_getElem?, Array.getElem?_replicate]
  split <;> rfl
 refine main l.toArray.size (Array.replicate l.toArray.size false) a0 w0.drew (fun _ => undef) (by simp) (by rw [Array.toList_replicate, List.count_replicate_self]) (fun j oj _ hj => by rw [hz] at hj; cases hj) h0 (by rw [show (fun j => (Array.replicate l.toArray.size false).getD j false) = (fun _ => false) from funext hz]; exact hX0) ⟨rfl, rfl, fun j o d _ hj => ?_, fun _ _ => rfl⟩ fun j oj _ hj => ?_
 ·rw [hz] at hj
  cases hj
 ·rw [hz] at hj
  cases hj
theorem q35 {id n : Nat} {a0 : Act} {w0 : World} (ks : List Nat) (ls : List Link) (B : Nat) (G : World → Prop) (ts : List Tell) (fin : List Nat) (cs : List (Nat × Nat)) (hks : ∀ i ∈ ks, i < l.length) (hls : linkOk l ts (ls.map fun q => (q.1, q.2.1)) = true) (hlg : ∀ q ∈ ls, Grows q.2.2)
  (hm : P.follows .mixedOrders = true) (hn : a0.tmps.size = n) (h1 : rgOps n l = true) (h2 : rgKept l (tellTurns ts) (tellWd ts) (tellFin ts fin) cs = true)
  (hgr : growAll ts) (hGg : ∀ w w', G w → Below w.heap.size w w' → G w')
  (hst : ∀ p ∈ cs, ∀ v w w', G w → tellR ts p.2 v w → tellE ts p.1 w w' → tellR ts p.2 v w') (hB : B ≤ w0.heap.size) (h0 : G w0.drew)
  (hop : OpsP (fun i o => ∀ vals w, Below B w0 w → G w → (∀ j, reads l o j = true → tellR ts j (vals j) w) → OneOp P l (fillT vals l ts 0 a0) o w (fun v w' => tellPost ts B w0 G i w v w' ∧ tellxF ts ks ls i vals v w w')) 0 l)
  (hend : ∀ vals w, Below B w0 w → G w → (∀ i ∈ ks, ∀ j ∈ ks, i ≠ j → Dj (vals i) (vals j)) → (∀ q ∈ ls, q.2.2 (vals q.2.1) w) → (∀ j, j < l.length → j ∈ fin → tellR ts j (vals j) w) → Q .normal (fillT vals l ts 0 a0) w) : (Code.region id l.toArray true).wp P Q a0 w0 := by
 have hs := sane_of h1
 have hfT : ∀ vals, fillT vals l ts 0 a0 = fillAll (tellV ts vals) l 0 a0 := fun vals => (fillT_eq vals l ts 0 a0 (tellV ts vals) fun j => by simp only [Nat.zero_add, tellV]).symm
 -- the pairs: those that turn memory by cs; those that grow it by 'growAll'
 have hk : rgKept l (tellMem ts) (tellWd ts) (tellFin ts fin) (cs ++ (List.range l.length).flatMap fun i => if tellTurns ts i then [] else (List.range l.length).map fun j => (i, j)) = true := by
  unfold rgKept at h2 ⊢
  rw [List.all_eq_true] at h2 ⊢
  rintro ⟨oi, i⟩ hoi
  have hi : i < l.length := by
   have := List.mem_zipIdx_iff_getElem?.1 hoi
   exact (List.getElem?_eq_some_iff.1 (by simpa using this)).1
  have g := h2 (oi, i) hoi
  simp only [] at g ⊢
  cases hti : tellTurns ts i with
  | true =>
   rw [hti] at g
   simp only [Bool.not_true, Bool.false_or] at g
   refine Bool.or_eq_true _ _ ▸ Or.inr ?_
   rw [List.all_eq_true] at g ⊢
   rintro ⟨oj, j⟩ hoj
   have g2 := g (oj, j) hoj
   simp only [] at g2 ⊢
   cases hc : cs.contains (i, j) with
   | false =>
    rw [hc] at g2
    have mono : ∀ a b c d e : Bool, (a || b || false || d || e) = true → (a || b || c || d || e) = true := by decide
    exact mono _ _ _ _ _ g2
   | true =>
    have : (cs ++ (List.range l.length).flatMap fun i => if tellTurns ts i then [] else (List.range l.length).map fun j => (i, j)).contains (i, j) = true := by
     simp only [List.contains_iff_mem, List.mem_append] at hc ⊢
     exact .inl hc
    rw [this]
    simp
  | false =>
   refine Bool.or_eq_true _ _ ▸ Or.inr ?_
   rw [List.all_eq_true]
   rintro ⟨oj, j⟩ hoj
   have hj : j < l.length := by
    have := List.mem_zipIdx_iff_getElem?.1 hoj
    exact (List.getElem?_eq_some_iff.1 (by simpa using this)).1
   have : (cs ++ (List.range l.length).flatMap fun i => if tellTurns ts i then [] else (List.range l.length).map fun j => (i, j)).contains (i, j) = true := by
    simp only [List.contains_iff_mem, List.mem_append, List.mem_flatMap, List.mem_range]
    refine .inr ⟨i, hi, ?_⟩
    rw [hti]
    simpa using hj
   simp only [this, Bool.or_true, Bool.true_or]
 have hlk : ∀ q ∈ ls, tellTurns ts q.1 = true ∧ ∃ o, l[q.1]? = some o ∧ awaits o q.2.1 = true := fun q hq => by
  have := List.all_eq_true.1 hls (q.1, q.2.1) (List.mem_map.2 ⟨q, hq, rfl⟩)
  simp only [Bool.and_eq_true] at this
  refine ⟨this.1, ?_⟩
  have h2 := this.2
  cases ho : l[q.1]? with
  | none => rw [ho] at h2; simp at h2
  | some o => rw [ho] at h2; exact ⟨o, rfl, h2⟩
 refine region_rgx (fun done vals w => freshX ks done vals w ∧ linkX ls done vals w) (fun i vals v w w' => freshF ks i v w w' ∧ linkF ls i vals w w') ⟨freshX0 ks _, fun _ _ h => absurd h (by simp)⟩
  (fun i o ho done vals w v w' hX hd hw hF => ⟨freshXs hX.1 hd hF.1, linkXs (fun q hq e => by
   obtain ⟨o', ho', ha⟩ := (hlk q hq).2
   rw [e, ho] at ho'
   injection ho' with ho'
   rw [ho']
   exact ha) hX.2 hd hw hF.2⟩) (fun w => Below B w0 w ∧ B ≤ w.heap.size ∧ G w) (tellR ts) (tellE ts) (tellMem ts) (tellWd ts) (tellFin ts fin) _ hm hn h1 hk (fun i w w' h he => ?_) (fun j v w w' h hr => ?_) ?_ ⟨(Below.refl _ _).drew, hB, h0⟩ (fun i o ho vals w hG hd => ?_) fun done vals w hG hall hX hr => ?_
 ·unfold tellMem at h
  unfold tellE at he
  cases ht : tellAt ts i with
  | none => rw [ht] at he; exact he
  | some t =>
   rw [ht] at he h
   cases hE : t.eff with
   | keeps => simp only [hE] at he; exact he
   | grows => simp [hE] at h
   | turns E => simp [hE] at h
 ·unfold tellWd at h
  unfold tellR at hr ⊢
  cases ht : tellAt ts j with
  | none => trivial
  | some t =>
   rw [ht] at hr h
   cases hE : t.val with
   | none => simp [hE] at h
   | some c => simp only [hE] at hr ⊢; exact hr
 ·rintro ⟨i, j⟩ hp v w w' hG hr he
  rw [List.mem_append] at hp
  rcases hp with hp | hp
  ·exact hst (i, j) hp v w w' hG.2.2 hr he
  ·simp only [List.mem_flatMap, List.mem_range] at hp
   obtain ⟨i', _, hp⟩ := hp
   cases hti : tellTurns ts i' with
   | true => rw [hti] at hp; simp at hp
   | false =>
    rw [hti] at hp
    simp only [Bool.false_eq_true, if_false, List.mem_map, Prod.mk.injEq] at hp
    obtain ⟨j', _, rfl, rfl⟩ := hp
    unfold tellTurns at hti
    unfold tellE at he
    unfold tellR at hr ⊢
    cases htj : tellAt ts j' with
    | none => trivial
    | some tj =>
     rw [htj] at hr
     simp only at hr ⊢
     cases hv : tj.val with
     | some c => rw [hv] at hr; exact hr
     | none =>
      rw [hv] at hr
      simp only at hr ⊢
      cases ht : tellAt ts i' with
      | none => rw [ht] at he; simp only at he; rw [he]; exact hr
      | some t =>
       rw [ht] at he hti
       simp only at he hti
       cases hE : t.eff with
       | keeps => rw [hE] at he; simp only at he; rw [he]; exact hr
       | grows => rw [hE] at he; exact growAll_at ts j' tj hgr htj hv v w w' hr he
       | turns E => rw [hE] at hti; simp at hti
 ·have hd' : ∀ j, reads l o j = true → tellR ts j (vals j) w := fun j hj => by
   simp only [reads, Bool.and_eq_true] at hj
   refine hd j hj.1 ?_
   cases hl : l[j]? with
   | none => rw [hl] at hj; simp at hj
   | some oj =>
    cases hdst : oj.dst with
    | none => rw [hl] at hj; simp [hdst] at hj
    | some d => rw [hl] at hj; exact ⟨oj, d, rfl, hdst, by simpa [hdst] using hj.2⟩
  have H := opsP_at _ l 0 hop i o ho
  simp only [Nat.zero_add] at H
  have H := H vals w hG.1 hG.2.2 hd'
  rw [hfT] at H
  refine ⟨fun K hK => ?_⟩
  refine one_gives (fun cs b => Region.noSelect_spec hs.sel i o cs b (by simpa using ho)) (fun d hdst => by rw [fill_size, hn]; exact hs.inb i o d ho hdst) (fun t ht => ?_) H
   (fun v w' hp => hK v w' (tellx_gives (fun q hq => (hlk q hq).1) hlg hG.2.1 hG.1 hG.2.2 hGg hp.1 hp.2))
  by_cases hx : ∃ (j : Nat) (o' : Oper), l[j]? = some o' ∧ o'.dst = some t
  ·obtain ⟨j, o', ho', hdst⟩ := hx
   have hu := fun (j' : Nat) (o'' : Oper) (h' : l[j']? = some o'') (hd'' : o''.dst = some t) => hs.uniq j o' j' o'' t ho' h' hdst hd''
   rw [fill_at _ t l 0 a0 j o' ho' hdst (by rw [hn]; exact hs.inb j o' t ho' hdst) hu, fill_at _ t l 0 a0 j o' ho' hdst (by rw [hn]; exact hs.inb j o' t ho' hdst) hu]
   have hr := hd j (hs.reads i o j o' t ho ho' hdst ht) ⟨o', t, ho', hdst, ht⟩
   unfold tellR at hr
   unfold tellV
   simp only [Nat.zero_add]
   cases htj : tellAt ts j with
   | none => rfl
   | some tt =>
    rw [htj] at hr
    cases hv : tt.val with
    | none => simp only [hv]
    | some c => simp only [hv] at hr ⊢; rw [hr]
  ·have hno : ∀ o ∈ l, o.dst ≠ some t := fun o ho hdst => by
    obtain ⟨j, hj⟩ := List.getElem?_of_mem ho
    exact hx ⟨j, o, hj, hdst⟩
   rw [q2B _ t l 0 a0 hno, q2B _ t l 0 a0 hno]
 ·have he : fillAll vals l 0 a0 = fillT vals l ts 0 a0 := by
   rw [hfT]
   refine fill_congr l 0 a0 fun j hj => ?_
   simp only [Nat.zero_add]
   unfold tellV
   cases ht : tellAt ts j with
   | none => rfl
   | some t =>
    cases hv : t.val with
    | none => simp only [hv]
    | some c =>
     have := hr j hj (by simp [tellFin, ht, hv])
     unfold tellR at this
     rw [ht] at this
     simp only [hv] at this ⊢
     exact this
  rw [he]
  exact hend vals w hG.1 hG.2.2 (freshEnd hX.1 fun i hi => hall i (hks i hi)) (fun q hq => (hX.2 q hq (hall _ (by obtain ⟨o, ho, _⟩ := (hlk q hq).2; exact (List.getElem?_eq_some_iff.1 ho).1))).2) fun j hj hf => hr j hj (by simp [tellFin, hf])
theorem q10 {ts : List Tell} {ks : List Nat} {ls : List Link} {i : Nat} {vals : Nat → Value} {v : Value} {w w' : World} (h1 : i ∉ ks) (h2 : tellTurns ts i = false) : tellxF ts ks ls i vals v w w' := ⟨fun h => absurd h h1, fun h => by rw [h2] at h; cases h⟩
theorem tellx_turns {ts : List Tell} {ks : List Nat} {ls : List Link} {i : Nat} {vals : Nat → Value} {v : Value} {w w' : World} (h1 : i ∉ ks) (h2 : linkF ls i vals w w') : tellxF ts ks ls i vals v w w' := ⟨fun h => absurd h h1, fun _ => h2⟩
end
end
section
theorem tellPost_below {ts : List Tell} {B : Nat} {w0 : World} {G : World → Prop} {i : Nat} {w w' : World} {v : Value} (ht : tellTurns ts i = false) (h : tellPost ts B w0 G i w v w') : Below w.heap.size w w' := by
 unfold tellPost at h
 unfold tellTurns at ht
 cases hti : tellAt ts i with
 | none => rw [hti] at h; simp only at h; subst h; exact Below.refl _ _
 | some t =>
  rw [hti] at h ht
  simp only at h ht
  have h2 := h.2
  cases he : t.eff with
  | keeps => rw [he] at h2; simp only at h2; subst h2; exact Below.refl _ _
  | grows => rw [he] at h2; simp only at h2; exact h2
  | turns E => rw [he] at ht; simp at ht
section
variable {P : Program} {l : List Oper} {Q : Exit → Act → World → Prop}
theorem region_rgz {id n : Nat} {a0 : Act} {w0 : World} (X : (Nat → Bool) → (Nat → Value) → World → Prop) (F : Nat → (Nat → Bool) → (Nat → Value) → Value → World → World → Prop) (hX0 : X (fun _ => false) (fun _ => undef) w0.drew)
  (hXs : ∀ i o, l[i]? = some o → ∀ (done : Nat → Bool) (vals : Nat → Value) w v w', X done vals w → done i = false → (∀ j, awaits o j = true → done j = true) → F i done vals v w w' → X (fun j => done j || j == i) (fun j => if j = i then v else vals j) w') (G : World → Prop) (R : Nat → Value → World → Prop) (E : Nat → World → World → Prop) (mem wd fin : Nat → Bool) (cs : List (Nat × Nat))
  (hm : P.follows .mixedOrders = true) (hn : a0.tmps.size = n) (h1 : rgOps n l = true) (h2 : rgKept l mem wd fin cs = true)
  (hnm : ∀ i w w', mem i = false → E i w w' → w' = w) (hnw : ∀ j v w w', wd j = false → R j v w → R j v w')
  (hst : ∀ p ∈ cs, ∀ v w w', G w → R p.2 v w → E p.1 w w' → R p.2 v w') (h0 : G w0.drew)
  (hop : ∀ i o, l[i]? = some o → ∀ done vals w, G w → X done vals w → done i = false → (∀ j oj, l[j]? = some oj → awaits oj i = true → done j = false) → (∀ j, awaits o j = true → done j = true) → (∀ j, awaits o j = true → (∃ oj d, l[j]? = some oj ∧ oj.dst = some d ∧ d ∈ o.looksAt l.toArray) → R j (vals j) w) → OneOp P l (fillAll vals l 0 a0) o w (fun v w' => R i v w' ∧ (G w' ∧ E i w w') ∧ F i done vals v w w'))
  (hend : ∀ (done : Nat → Bool) vals w, G w → (∀ j, j < l.length → done j = true) → X done vals w → (∀ j, j < l.length → fin j = true → R j (vals j) w) → Q .normal (fillAll vals l 0 a0) w) : (Code.region id l.toArray true).wp P Q a0 w0 := by
 have hs := sane_of h1
 refine wp_region_any hm ?_
 change wpAny P .any l.toArray Q l.toArray.size (Array.replicate l.toArray.size false) a0 w0.drew
 -- the invariant
 have main : ∀ (fuel : Nat) (listed : Array Bool) (a : Act) (w : World) (vals : Nat → Value), listed.size = l.length → listed.toList.count false = fuel → (∀ (j : Nat) (oj : Oper), l[j]? = some oj → listed.getD j false = true → ∀ i, awaits oj i = true → listed.getD i false = true) → G w → X (fun j => listed.getD j false) vals w → Filled l a0 (fun j => listed.getD j false) vals a →
   (∀ j oj, l[j]? = some oj → listed.getD j false = true → (fin j = true ∨ ∃ k ok d, l[k]? = some ok ∧ oj.dst = some d ∧ d ∈ ok.looksAt l.toArray ∧ listed.getD k false = false) → R j (vals j) w) →
   wpAny P .any l.toArray Q fuel listed a w := by
  intro fuel
  have done : ∀ (listed : Array Bool) (a : Act) (w : World) (vals : Nat → Value), listed.size = l.length → G w → X (fun j => listed.getD j false) vals w → Filled l a0 (fun j => listed.getD j false) vals a →
    (∀ j oj, l[j]? = some oj → listed.getD j false = true → (fin j = true ∨ ∃ k ok d, l[k]? = some ok ∧ oj.dst = some d ∧ d ∈ ok.looksAt l.toArray ∧ listed.getD k false = false) → R j (vals j) w) →
    (∀ j, j < l.length → listed.getD j false = true) → Q .normal a w := by
   intro listed a w vals hsz hG hX hF hR hall
   rw [filled_all hs hn hF hall]
   exact hend _ vals w hG hall hX fun j hj hf => hR j l[j] (List.getElem?_eq_getElem hj) (hall j hj) (.inl hf)
  -- nothing may come up: all has
  have none_ready : ∀ (listed : Array Bool), listed.size = l.length → Region.ready .any l.toArray listed = [] → ∀ j, j < l.length → listed.getD j false = true := by
   intro listed hsz hr j
   induction j using Nat.strongRecOn with
   | ind j ih =>
    intro hj
    cases hb : listed.getD j false with
    | true => rfl
    | false =>
     exfalso
     have hmem : j ∈ Region.ready .any l.toArray listed := mem_ready.2 ⟨by
      have : listed[j]? = some (listed[j]'(by omega)) := Array.getElem?_eq_getElem (by omega)
      simp only [Array.getD_eq_getD_getElem?, this, Option.getD_some] at hb ⊢
      exact hb, l[j], by simp [hj], fun e he hbi => ih e.on (hs.back j l[j] (List.getElem?_eq_getElem hj) e he hbi) (by have := hs.back j l[j] (List.getElem?_eq_getElem hj) e he hbi; omega)⟩
     rw [hr] at hmem
     cases hmem
  induction fuel with
  | zero =>
   intro listed a w vals hsz hc hcl hG hX hF hR
   have hall : ∀ j, j < l.length → listed.getD j false = true := fun j hj => by
    have : listed[j]? = some (listed[j]'(by omega)) := Array.getElem?_eq_getElem (by omega)
    simp only [Array.getD_eq_getD_getElem?, this, Option.getD_some]
    cases hb : listed[j]'(by omega) with
    | true => rfl
    | false =>
     exfalso
     have hm : false ∈ listed.toList := by
      rw [← hb]
      exact Array.mem_toList_iff.2 (Array.getElem_mem _)
     exact absurd hc (by have := List.count_pos_iff.2 hm; omega)
   refine ⟨?_, done listed a w vals hsz hG hX hF hR hall⟩
   apply List.eq_nil_iff_forall_not_mem.2
   intro j hj
   obtain ⟨h0, o, ho, _⟩ := mem_ready.1 hj
   have hjl : j < l.length := by
    rcases Nat.lt_or_ge j l.length with h | h
    ·exact h
    ·simp [h] at ho
   have := hall j hjl
   have hx : listed[j]? = some (listed[j]'(by omega)) := Array.getElem?_eq_getElem (by omega)
   simp only [Array.getD_eq_getD_getElem?, hx, Option.getD_some] at this h0
   rw [this] at h0
   cases h0
  | succ fuel ih =>
   intro listed a w vals hsz hc hcl hG hX hF hR
   refine ⟨fun hr => done listed a w vals hsz hG hX hF hR (none_ready listed hsz hr), fun i hi => ?_⟩
   obtain ⟨hun, o, hoa, hall⟩ := mem_ready.1 hi
   have ho : l[i]? = some o := by simpa using hoa
   have hil : i < l.length := (List.getElem?_eq_some_iff.1 ho).1
   have hgi : listed[i]? = some (listed[i]'(by omega)) := Array.getElem?_eq_getElem (by omega)
   have hfi : listed[i]'(by omega) = false := by simpa only [Array.getD_eq_getD_getElem?, hgi, Option.getD_some] using hun
   have hni : listed.getD i false = false := by simp only [Array.getD_eq_getD_getElem?, hgi, Option.getD_some, hfi]
   have hdone : ∀ j, awaits o j = true → listed.getD j false = true := fun j hj => by
    obtain ⟨e, he, hb⟩ := Array.any_eq_true'.1 hj
    simp only [Bool.and_eq_true, beq_iff_eq] at hb
    rw [← hb.2]
    exact hall e he hb.1
   have hset : ∀ j, (listed.setIfInBounds i true).getD j false = (listed.getD j false || j == i) := fun j => by
    by_cases hji : j = i
    ·subst hji
     simp [Array.getD_eq_getD_getElem?, hsz, hil]
    ·simp [Array.getD_eq_getD_getElem?, Array.getElem?_setIfInBounds_ne (Ne.symm hji), hji]
   refine wpOp_step hoa fun K hK => ?_
   refine one_gives (a1 := fillAll vals l 0 a0) (post := fun v w' => R i v w' ∧ (G w' ∧ E i w w') ∧ F i (fun j => listed.getD j false) vals v w w') (fun cs b => Region.noSelect_spec hs.sel i o cs b hoa) (fun d hd => by rw [fill_size, hn]; exact hs.inb i o d ho hd) 
    (fun t ht => filled_eval hs hn hF ho hdone t ht) ?_ ?_
   ·refine hop i o ho _ vals w hG hX hni (fun j oj hoj haw => by
     cases hb : listed.getD j false with
     | false => rfl
     | true => have := hcl j oj hoj hb i haw; rw [hni] at this; cases this) hdone fun j hj hx => ?_
    obtain ⟨oj, d, hoj, hdj, hlk⟩ := hx
    exact hR j oj hoj (hdone j hj) (.inr ⟨i, o, d, ho, hdj, hlk, hni⟩)
   ·rintro v w' ⟨hv, ⟨hG', hE⟩, hFF⟩
    refine hK _ _ (ih (listed.setIfInBounds i true) (a.put o.dst v) w' (fun j => if j = i then v else vals j) (by simpa using hsz) ?_ ?_ hG' (by rw [show (fun j => (listed.setIfInBounds i true).getD j false) = (fun j => listed.getD j false || j == i) from funext hset]; exact hXs i o ho _ vals w v w' hX hni hdone hFF) ?_ ?_)
    ·have hl : listed.toList[i]'(by simpa using by omega) = false := by simpa using hfi
     have hcs := List.count_set (b := false) (a := true) (l := listed.toList) (i := i) (by simpa using by omega)
     rw [Array.toList_setIfInBounds]
     rw [hcs, hl, hc]
     simp
    ·intro j oj hoj hj k hk
     rw [hset] at hj ⊢
     rcases Bool.or_eq_true _ _ ▸ hj with h | h
     ·rw [hcl j oj hoj h k hk, Bool.true_or]
     ·have hji : j = i := by simpa using h
      subst hji
      obtain rfl : o = oj := by rw [ho] at hoj; injection hoj
      rw [hdone k hk, Bool.true_or]
    ·have := filled_put hs hn hF ho hni v
     have he : (fun j => (listed.setIfInBounds i true).getD j false) = (fun j => listed.getD j false || j == i) := funext hset
     rw [he]
     exact this
    ·intro j oj hoj hj hlive
     by_cases hji : j = i
     ·subst hji
      simpa using hv
     ·rw [hset] at hj
      have hj' : listed.getD j false = true := by simpa [hji] using hj
      simp only [if_neg hji]
      have hlive' : fin j = true ∨ ∃ k ok d, l[k]? = some ok ∧ oj.dst = some d ∧ d ∈ ok.looksAt l.toArray ∧ listed.getD k false = false := by
       rcases hlive with h | ⟨k, ok, d, hk, hd, hlk, hkn⟩
       ·exact .inl h
       ·refine .inr ⟨k, ok, d, hk, hd, hlk, ?_⟩
        rw [hset] at hkn
        simp only [Bool.or_eq_false_iff] at hkn
        exact hkn.1
      have hRj := hR j oj hoj hj' hlive'
      cases hwd : wd j with
      | false => exact hnw j _ w w' hwd hRj
      | true =>
       cases hmi : mem i with
       | false => rw [hnm i w w' hmi hE]; exact hRj
       | true =>
        have hk2 := all_at h2 ho
        simp only [hmi, Bool.not_true, Bool.false_or] at hk2
        have hk3 := all_at hk2 hoj
        simp only [hwd, Bool.not_true, Bool.or_false] at hk3
        rw [show (j == i) = false by simpa using hji, Bool.false_or] at hk3
        cases hcc : cs.contains (i, j) with
        | true => exact hst (i, j) (by simpa using hcc) _ w w' hG hRj hE
        | false =>
         exfalso
         have hna : awaits oj i = false := by
          cases hb : awaits oj i with
          | false => rfl
          | true =>
           have := hcl j oj hoj hj' i hb
           rw [hni] at this
           cases this
         rw [hcc, hna, Bool.false_or, Bool.false_or, Bool.and_eq_true] at hk3
         rcases hlive with h | ⟨k, ok, d, hk, hd, hlk, hkn⟩
         ·rw [h] at hk3
          simp at hk3
         ·have hk4 := all_at hk3.2 hk
          rw [hset] at hkn
          simp only [Bool.or_eq_false_iff, beq_eq_false_iff_ne] at hkn
          simp only [hd, Bool.or_eq_true, beq_iff_eq, Bool.not_eq_true'] at hk4
          rcases hk4 with (h | h) | h
          ·exact hkn.2 h
          ·have : (ok.looksAt l.toArray).contains d = true := by simpa using hlk
           rw [this] at h
           cases h
          ·have := hdone k h
           rw [hkn.1] at this
           cases this
 have hz : ∀ j : Nat, (Array.replicate l.toArray.size false).getD j false = false := fun j => by
  rw [Array.getD_eq_getD_getElem?, Array.getElem?_replicate]
  split <;> rfl
 refine main l.toArray.size (Array.replicate l.toArray.size false) a0 w0.drew (fun _ => undef) (by simp) (by rw [Array.toList_replicate, List.count_replicate_self]) (fun j oj _ hj => by rw [hz] at hj; cases hj) h0 (by rw [show (fun j => (Array.replicate l.toArray.size false).getD j false) = (fun _ => false) from funext hz]; exact hX0) ⟨rfl, rfl, fun j o d _ hj => ?_, fun _ _ => rfl⟩ fun j oj _ hj => ?_
 ·rw [hz] at hj
  cases hj
 ·rw [hz] at hj
  cases hj
theorem q19 {id n : Nat} {a0 : Act} {w0 : World} (Z : (Nat → Bool) → (Nat → Value) → World → Prop) (B : Nat) (G : World → Prop) (ts : List Tell) (fin : List Nat) (cs : List (Nat × Nat)) (hZ0 : Z (fun _ => false) (fun _ => undef) w0.drew)
  (hZg : ∀ i done vals w w' v, tellTurns ts i = false → done i = false → Z done vals w → Below w.heap.size w w' → Z (fun j => done j || j == i) (fun j => if j = i then v else vals j) w')
  (hm : P.follows .mixedOrders = true) (hn : a0.tmps.size = n) (h1 : rgOps n l = true) (h2 : rgKept l (tellTurns ts) (tellWd ts) (tellFin ts fin) cs = true)
  (hgr : growAll ts) (hGg : ∀ w w', G w → Below w.heap.size w w' → G w')
  (hst : ∀ p ∈ cs, ∀ v w w', G w → tellR ts p.2 v w → tellE ts p.1 w w' → tellR ts p.2 v w') (hB : B ≤ w0.heap.size) (h0 : G w0.drew)
  (hop : OpsP (fun i o => ∀ done vals w, Below B w0 w → G w → Z done vals w → done i = false → (∀ j oj, l[j]? = some oj → awaits oj i = true → done j = false) → (∀ j, awaits o j = true → done j = true) → (∀ j, reads l o j = true → tellR ts j (vals j) w) →
   OneOp P l (fillT vals l ts 0 a0) o w (fun v w' => tellPost ts B w0 G i w v w' ∧ (tellTurns ts i = true → Z (fun j => done j || j == i) (fun j => if j = i then v else vals j) w'))) 0 l)
  (hend : ∀ done vals w, Below B w0 w → G w → (∀ j, j < l.length → done j = true) → Z done vals w → (∀ j, j < l.length → j ∈ fin → tellR ts j (vals j) w) → Q .normal (fillT vals l ts 0 a0) w) : (Code.region id l.toArray true).wp P Q a0 w0 := by
 have hs := sane_of h1
 have hfT : ∀ vals, fillT vals l ts 0 a0 = fillAll (tellV ts vals) l 0 a0 := fun vals => (fillT_eq vals l ts 0 a0 (tellV ts vals) fun j => by simp only [Nat.zero_add, tellV]).symm
 -- the pairs: those that turn memory by cs; those that grow it by 'growAll'
 have hk : rgKept l (tellMem ts) (tellWd ts) (tellFin ts fin) (cs ++ (List.range l.length).flatMap fun i => if tellTurns ts i then [] else (List.range l.length).map fun j => (i, j)) = true := by
  unfold rgKept at h2 ⊢
  rw [List.all_eq_true] at h2 ⊢
  rintro ⟨oi, i⟩ hoi
  have hi : i < l.length := by
   have := List.mem_zipIdx_iff_getElem?.1 hoi
   exact (List.getElem?_eq_some_iff.1 (by simpa using this)).1
  have g := h2 (oi, i) hoi
  simp only [] at g ⊢
  cases hti : tellTurns ts i with
  | true =>
   rw [hti] at g
   simp only [Bool.not_true, Bool.false_or] at g
   refine Bool.or_eq_true _ _ ▸ Or.inr ?_
   rw [List.all_eq_true] at g ⊢
   rintro ⟨oj, j⟩ hoj
   have g2 := g (oj, j) hoj
   simp only [] at g2 ⊢
   cases hc : cs.contains (i, j) with
   | false =>
    rw [hc] at g2
    have mono : ∀ a b c d e : Bool, (a || b || false || d || e) = true → (a || b || c || d || e) = true := by decide
    exact mono _ _ _ _ _ g2
   | true =>
    have : (cs ++ (List.range l.length).flatMap fun i => if tellTurns ts i then [] else (List.range l.length).map fun j => (i, j)).contains (i, j) = true := by
     simp only [List.contains_iff_mem, List.mem_append] at hc ⊢
     exact .inl hc
    rw [this]
    simp
  | false =>
   refine Bool.or_eq_true _ _ ▸ Or.inr ?_
   rw [List.all_eq_true]
   rintro ⟨oj, j⟩ hoj
   have hj : j < l.length := by
    have := List.mem_zipIdx_iff_getElem?.1 hoj
    exact (List.getElem?_eq_some_iff.1 (by simpa using this)).1
   have : (cs ++ (List.range l.length).flatMap fun i => if tellTurns ts i then [] else (List.range l.length).map fun j => (i, j)).contains (i, j) = true := by
    simp only [List.contains_iff_mem, List.mem_append, List.mem_flatMap, List.mem_range]
    refine .inr ⟨i, hi, ?_⟩
    rw [hti]
    simpa using hj
   simp only [this, Bool.or_true, Bool.true_or]
 refine region_rgz Z (fun i done vals v w w' => done i = false ∧ Z (fun j => done j || j == i) (fun j => if j = i then v else vals j) w') hZ0
  (fun i o ho done vals w v w' hX hd hw hF => hF.2) (fun w => Below B w0 w ∧ B ≤ w.heap.size ∧ G w) (tellR ts) (tellE ts) (tellMem ts) (tellWd ts) (tellFin ts fin) _ hm hn h1 hk (fun i w w' h he => ?_) (fun j v w w' h hr => ?_) ?_ ⟨(Below.refl _ _).drew, hB, h0⟩ (fun i o ho done vals w hG hX hni hcl hdn hd => ?_) fun done vals w hG hall hX hr => ?_
 ·unfold tellMem at h
  unfold tellE at he
  cases ht : tellAt ts i with
  | none => rw [ht] at he; exact he
  | some t =>
   rw [ht] at he h
   cases hE : t.eff with
   | keeps => simp only [hE] at he; exact he
   | grows => simp [hE] at h
   | turns E => simp [hE] at h
 ·unfold tellWd at h
  unfold tellR at hr ⊢
  cases ht : tellAt ts j with
  | none => trivial
  | some t =>
   rw [ht] at hr h
   cases hE : t.val with
   | none => simp [hE] at h
   | some c => simp only [hE] at hr ⊢; exact hr
 ·rintro ⟨i, j⟩ hp v w w' hG hr he
  rw [List.mem_append] at hp
  rcases hp with hp | hp
  ·exact hst (i, j) hp v w w' hG.2.2 hr he
  ·simp only [List.mem_flatMap, List.mem_range] at hp
   obtain ⟨i', _, hp⟩ := hp
   cases hti : tellTurns ts i' with
   | true => rw [hti] at hp; simp at hp
   | false =>
    rw [hti] at hp
    simp only [Bool.false_eq_true, if_false, List.mem_map, Prod.mk.injEq] at hp
    obtain ⟨j', _, rfl, rfl⟩ := hp
    unfold tellTurns at hti
    unfold tellE at he
    unfold tellR at hr ⊢
    cases htj : tellAt ts j' with
    | none => trivial
    | some tj =>
     rw [htj] at hr
     simp only at hr ⊢
     cases hv : tj.val with
     | some c => rw [hv] at hr; exact hr
     | none =>
      rw [hv] at hr
      simp only at hr ⊢
      cases ht : tellAt ts i' with
      | none => rw [ht] at he; simp only at he; rw [he]; exact hr
      | some t =>
       rw [ht] at he hti
       simp only at he hti
       cases hE : t.eff with
       | keeps => rw [hE] at he; simp only at he; rw [he]; exact hr
       | grows => rw [hE] at he; exact growAll_at ts j' tj hgr htj hv v w w' hr he
       | turns E => rw [hE] at hti; simp at hti
 ·have hd' : ∀ j, reads l o j = true → tellR ts j (vals j) w := fun j hj => by
   simp only [reads, Bool.and_eq_true] at hj
   refine hd j hj.1 ?_
   cases hl : l[j]? with
   | none => rw [hl] at hj; simp at hj
   | some oj =>
    cases hdst : oj.dst with
    | none => rw [hl] at hj; simp [hdst] at hj
    | some d => rw [hl] at hj; exact ⟨oj, d, rfl, hdst, by simpa [hdst] using hj.2⟩
  have H := opsP_at _ l 0 hop i o ho
  simp only [Nat.zero_add] at H
  have H := H done vals w hG.1 hG.2.2 hX hni hcl hdn hd'
  rw [hfT] at H
  refine ⟨fun K hK => ?_⟩
  refine one_gives (fun cs b => Region.noSelect_spec hs.sel i o cs b (by simpa using ho)) (fun d hdst => by rw [fill_size, hn]; exact hs.inb i o d ho hdst) (fun t ht => ?_) H
   (fun v w' hp => hK v w' (by
    have h1 := tellPost_gives hG.2.1 hG.1 hG.2.2 hGg hp.1
    refine ⟨h1.1, h1.2, hni, ?_⟩
    cases htt : tellTurns ts i with
    | true => exact hp.2 htt
    | false => exact hZg i done vals w w' v htt hni hX (tellPost_below htt hp.1)))
  by_cases hx : ∃ (j : Nat) (o' : Oper), l[j]? = some o' ∧ o'.dst = some t
  ·obtain ⟨j, o', ho', hdst⟩ := hx
   have hu := fun (j' : Nat) (o'' : Oper) (h' : l[j']? = some o'') (hd'' : o''.dst = some t) => hs.uniq j o' j' o'' t ho' h' hdst hd''
   rw [fill_at _ t l 0 a0 j o' ho' hdst (by rw [hn]; exact hs.inb j o' t ho' hdst) hu, fill_at _ t l 0 a0 j o' ho' hdst (by rw [hn]; exact hs.inb j o' t ho' hdst) hu]
   have hr := hd j (hs.reads i o j o' t ho ho' hdst ht) ⟨o', t, ho', hdst, ht⟩
   unfold tellR at hr
   unfold tellV
   simp only [Nat.zero_add]
   cases htj : tellAt ts j with
   | none => rfl
   | some tt =>
    rw [htj] at hr
    cases hv : tt.val with
    | none => simp only [hv]
    | some c => simp only [hv] at hr ⊢; rw [hr]
  ·have hno : ∀ o ∈ l, o.dst ≠ some t := fun o ho hdst => by
    obtain ⟨j, hj⟩ := List.getElem?_of_mem ho
    exact hx ⟨j, o, hj, hdst⟩
   rw [q2B _ t l 0 a0 hno, q2B _ t l 0 a0 hno]
 ·have he : fillAll vals l 0 a0 = fillT vals l ts 0 a0 := by
   rw [hfT]
   refine fill_congr l 0 a0 fun j hj => ?_
   simp only [Nat.zero_add]
   unfold tellV
   cases ht : tellAt ts j with
   | none => rfl
   | some t =>
    cases hv : t.val with
    | none => simp only [hv]
    | some c =>
     have := hr j hj (by simp [tellFin, ht, hv])
     unfold tellR at this
     rw [ht] at this
     simp only [hv] at this ⊢
     exact this
  rw [he]
  exact hend done vals w hG.1 hG.2.2 hall hX fun j hj hf => hr j hj (by simp [tellFin, hf])
theorem noturn {ts : List Tell} {i : Nat} {p : Prop} (h0 : tellTurns ts i = false) : tellTurns ts i = true → p := fun h => by rw [h0] at h; cases h
end
end
section
def CellsAt (w : World) (b off : Nat) (cs : List Value) : Prop := ∀ (j : Nat) (u : Value), cs[j]? = some u → w.cell? ⟨b, off + j, none⟩ = some u
section
variable {w w' : World} {b off : Nat} {cs : List Value}
theorem CellsAt.past (h : CellsAt w b off cs) (hb : b < w.heap.size) (hB : Below w.heap.size w w') : CellsAt w' b off cs := fun j u hu => (hB.cell (p := ⟨b, off + j, none⟩) hb).trans (h j u hu)
theorem CellsAt.kept (h : CellsAt w b off cs) (hb : b < w.heap.size) : Kept (∀ w1, Below w.heap.size w w1 → CellsAt w1 b off cs) := ⟨fun _ hB => h.past hb hB⟩
theorem CellsAt.of_block {t : TypeId} {fr : Nat × Nat} (h : w.heap[b]? = some (.cells cs.toArray t fr)) : CellsAt w b 0 cs := q05 h
theorem CellsAt.part (h : CellsAt w b off cs) (i n : Nat) : CellsAt w b (off + i) ((cs.drop i).take n) := fun j u hu => by
 rw [List.getElem?_take] at hu
 split at hu
 ·rw [List.getElem?_drop] at hu
  rw [Nat.add_assoc]
  exact h _ _ hu
 ·cases hu
end
theorem q24 {w : World} {g : Nat} {cs : List Value} {t : TypeId} {fr : Nat × Nat} (h : w.heap[g]? = some (.cells cs.toArray t fr)) : Kept (∀ w1, Below w.heap.size w w1 → CellsAt w1 g 0 cs) :=
 (CellsAt.of_block h).kept (Array.getElem?_eq_some_iff.1 h).1
theorem q27 {w : World} {g B : Nat} {cs : List Value} {t : TypeId} {fr : Nat × Nat} (h : w.heap[g]? = some (.cells cs.toArray t fr)) (hg : g < B) : Kept (∀ w1, Below B w w1 → CellsAt w1 g 0 cs) :=
 ⟨fun _ hb => CellsAt.of_block ((hb.block g hg).trans h)⟩
theorem RdE.el {w : World} {A : Option Addr} {l : List Ent} (h : RdE w A l) {k : Nat} (hk : k < l.length) : ∃ b o, A = some ⟨b, o, none⟩ ∧ b < w.heap.size ∧ CellsAt w b (o + k * 8) l[k].cs := by
 obtain ⟨b, o, e, hb, hc⟩ := Reads.cells h hk
 refine ⟨b, o, e, hb, fun j u hu => ?_⟩
 have hj : j < 8 := by have := (List.getElem?_eq_some_iff.1 hu).1; simpa [Ent.cs] using this
 rw [Nat.add_assoc]
 exact hc j u hj (by rw [entCs_get l k hk j hj]; exact hu)
theorem RdI.el {w : World} {A : Option Addr} {l : List Int} (h : RdI w A l) {k : Nat} (hk : k < l.length) : ∃ b o, A = some ⟨b, o, none⟩ ∧ b < w.heap.size ∧ CellsAt w b (o + k) [.int .i64 l[k]] := by
 obtain ⟨b, o, e, hb, hc⟩ := h.at_ hk
 refine ⟨b, o, e, hb, fun j u hu => ?_⟩
 have hj : j = 0 := by have := (List.getElem?_eq_some_iff.1 hu).1; simp at this; omega
 subst hj
 cases hu
 exact hc
section
variable {P : Program} {l : List Oper} {w : World}
theorem q0A {o : Oper} {ev : Operand → Value} {ty : TypeId} {x : Operand} {b off : Nat} {v : Value} {d : TypeDesc} (ho : o.op = .load ty x) (hx : ev x = .pointer (some ⟨b, off, none⟩)) (hc : w.cell? ⟨b, off, none⟩ = some v)
  (hu : P.underlying ty = some d) (hd : (match d with | .struct _ | .array _ _ => true | _ => false) = false) : (execOp ev o).run P w = .ok (.value v) w := by
 have hagg : (isAgg ty).run P w = .ok false w := by
  unfold isAgg
  rw [Sem.run_bind, run_underlying hu w]
  cases d <;> simp_all
 unfold execOp
 simp only [ho, hx, Instr.loadAt, Instr.sureAddr, Sem.run_bind, Sem.run_pure, Result.andThen_ok, loadVar, hagg, Bool.false_eq_true, if_false]
 simp only [run_load, hc, Result.andThen_ok]
theorem q1C {o : Oper} {ev : Operand → Value} {t e : TypeId} {x i : Operand} {b off n c size k : Nat} (ho : o.op = .indexAddr t x i) (hx : ev x = .slice (some ⟨b, off, none⟩) n c) (hi : ev i = .int .i64 (k : Int))
  (hu : P.underlying t = some (.slice e)) (hs : (P.info? e).map (·.size) = some size) (hk : k < n) : (execOp ev o).run P w = .ok (.value (.pointer (some ⟨b, off + k * size, none⟩))) w := by
 have he : P.elem t = e := by simp [Program.elem, hu]
 unfold execOp
 simp only [ho, hx, hi, Sem.run_bind, run_indexAt_slice (P := P) w t ⟨b, off, none⟩ n c .i64 (k : Int) (by rw [he]; exact hu), he]
 cases hq : P.info? e with
 | none => simp [hq] at hs
 | some j =>
  have hsz : j.size = size := by simpa [hq] using hs
  rw [if_pos (by omega)]
  simp [sizeOf, typeInfo, hq, hsz, Addr.add_lit]
theorem exec_index1 {o : Oper} {ev : Operand → Value} {t e : TypeId} {x i : Operand} {b off n c k : Nat} (ho : o.op = .indexAddr t x i) (hx : ev x = .slice (some ⟨b, off, none⟩) n c) (hi : ev i = .int .i64 (k : Int))
  (hu : P.underlying t = some (.slice e)) (hs : (P.info? e).map (·.size) = some 1) (hk : k < n) : (execOp ev o).run P w = .ok (.value (.pointer (some ⟨b, off + k, none⟩))) w := by
 have := q1C (w := w) ho hx hi hu hs hk
 rwa [Nat.mul_one] at this
theorem q0E {a1 : Act} {o : Oper} {post : Value → World → Prop} {g : Bool} {v : Value} (hw : Region.wanted o (yielded l.toArray a1.tmps) = g) (hr : g = true → (execOp a1.eval o).run P w = .ok (.value v) w) (hp : post (bif g then v else undef) w) :
  OneOp P l a1 o w post := by
 cases g with
 | true => exact q26 hw (hr rfl) hp
 | false => exact one_not hw hp
theorem q0D {vals : Nat → Value} {j : Nat} {v : Value} (h : vals j = v) : vals = fun i => if i = j then v else vals i := by
 funext i
 split
 ·rename_i e; rw [e, h]
 ·rfl
theorem q07 (p : Value → Prop) : Grows (fun v _ => p v) := fun _ _ _ h _ => h
end
def IsBox (B : Nat) (t : TypeId) (n : Nat) (v : Value) (w : World) : Prop := ∃ (b : Nat) (cs : Array Value), v = .pointer (some ⟨b, 0, none⟩) ∧ B ≤ b ∧ cs.size = n ∧ w.heap[b]? = some (.cells cs t (0, 0))
def BoxHas (B : Nat) (t : TypeId) (cs : List Value) (v : Value) (w : World) : Prop := ∃ b : Nat, v = .pointer (some ⟨b, 0, none⟩) ∧ B ≤ b ∧ w.heap[b]? = some (.cells cs.toArray t (0, 0))
def BoxStep (t : TypeId) (n : Nat) (w w' : World) : Prop := ∃ (b : Nat) (cs' : Array Value), (∃ cs : Array Value, cs.size = n ∧ w.heap[b]? = some (.cells cs t (0, 0))) ∧ cs'.size = n ∧ w'.heap[b]? = some (.cells cs' t (0, 0)) ∧ w.grownBy w' (some b)
theorem q01 {w w' : World} {g : Nat} {o : Obj} (h : w.heap[g]? = some o) (hb : Below w.heap.size w w') : w'.heap[g]? = some o := (hb.block g (Array.getElem?_eq_some_iff.1 h).1).trans h
theorem IsBox.grows {B n : Nat} {t : TypeId} : Grows (IsBox B t n) := fun _ _ _ ⟨b, cs, h1, h2, h3, h4⟩ hb => ⟨b, cs, h1, h2, h3, q01 h4 hb⟩
theorem BoxHas.grows {B : Nat} {t : TypeId} {cs : List Value} : Grows (BoxHas B t cs) := fun _ _ _ ⟨b, h1, h2, h3⟩ hb => ⟨b, h1, h2, q01 h3 hb⟩
theorem IsBox.kept {B n : Nat} {t : TypeId} {v : Value} {w w' : World} (h : IsBox B t n v w) (he : BoxStep t n w w') : IsBox B t n v w' := by
 obtain ⟨b, cs, h1, h2, h3, h4⟩ := h
 obtain ⟨b', cs', _, h5, h6, h7⟩ := he
 by_cases e : b' = b
 ·subst e
  exact ⟨b', cs', h1, h2, h5, h6⟩
 ·exact ⟨b, cs, h1, h2, h3, (h7.block b (Array.getElem?_eq_some_iff.1 h4).1 (by intro h; injection h with h; exact e h.symm)).trans h4⟩
def RowStep (g : Nat) (t : TypeId) (w w' : World) : Prop := (∃ cs : Array Value, w.heap[g]? = some (.cells cs t (0, 0))) ∧ w.grownBy w' (some g)
theorem IsBox.keptR {B n g : Nat} {t t' : TypeId} {v : Value} {w w' : World} (h : IsBox B t n v w) (ht : t ≠ t') (he : RowStep g t' w w') : IsBox B t n v w' := by
 obtain ⟨b, cs, h1, h2, h3, h4⟩ := h
 obtain ⟨⟨cs', h5⟩, h6⟩ := he
 refine ⟨b, cs, h1, h2, h3, (h6.block b (Array.getElem?_eq_some_iff.1 h4).1 ?_).trans h4⟩
 intro e
 injection e with e
 subst e
 rw [h4] at h5
 injection h5 with h5
 injection h5 with h5 h5'
 exact ht h5'
theorem q39 (P : Program) (b : Nat) (t : TypeId) : ∀ (vs : List Value) (i : Nat) (old : Array Value) (w : World), w.heap[b]? = some (.cells old t (0, 0)) → i + vs.length ≤ old.size → (∀ v ∈ vs, v.oneCell' = true) →
  ∃ (w' : World) (new : Array Value), (storeCells ⟨b, 0, none⟩ vs i).run P w = .ok () w' ∧ w'.heap[b]? = some (.cells new t (0, 0)) ∧ new.size = old.size ∧ (∀ j, new[j]? = if i ≤ j ∧ j < i + vs.length then vs[j - i]? else old[j]?) ∧ w.grownBy w' (some b)
 | [], i, old, w, h, hi, h1 => ⟨w, old, by simp [storeCells], h, rfl, fun j => by rw [if_neg (by simp <;> omega)], World.grownBy.refl w _⟩
 | v :: vs, i, old, w, h, hi, h1 => by
  simp only [List.length_cons] at hi
  have hc : w.cell? ⟨b, i, none⟩ = some old[i] := by rw [cell_of_row w b i old t (0, 0) h, Array.getElem?_eq_getElem (by omega)]
  have hf := frozen_of_row w b i old t h
  have hg := q08 w ⟨b, i, none⟩ v
  have hh : (w.setCell ⟨b, i, none⟩ v).heap[b]? = some (.cells (old.setIfInBounds i v) t (0, 0)) := heap_setCell_same w b i old t v h
  obtain ⟨w', new, hr, hw, hn, hj, hgr⟩ := q39 P b t vs (i + 1) _ _ hh (by simp <;> omega) (fun u hu => h1 u (List.mem_cons_of_mem _ hu))
  refine ⟨w', new, ?_, hw, by rw [hn]; simp, fun j => ?_, hg.trans hgr⟩
  ·rw [storeCells, Sem.run_bind, Addr.add_lit, Nat.zero_add, run_store P w _ v _ (h1 v (List.mem_cons_self ..)), hc]
   simp only [hf, Bool.false_eq_true, if_false, Result.andThen_ok, hr]
  ·rw [hj j]
   by_cases hji : j = i
   ·subst hji
    rw [if_neg (by omega), if_pos (by simp)]
    simp [show j < old.size by omega]
   ·by_cases hlt : i ≤ j ∧ j < i + (vs.length + 1)
    ·rw [if_pos (by omega), if_pos (by simp <;> omega), show j - i = (j - (i + 1)) + 1 by omega, List.getElem?_cons_succ]
    ·rw [if_neg (by omega), if_neg (by simp <;> omega), Array.getElem?_setIfInBounds_ne (Ne.symm hji)]
theorem q1B {P : Program} {w : World} {b : Nat} {t ty : TypeId} {old : Array Value} (v : Value) (cs : List Value) (hv : v.cells = cs.toArray) (h : w.heap[b]? = some (.cells old t (0, 0))) (hn : old.size = cs.length) (h1 : cs.all Value.oneCell' = true)
  (hi : (P.info? ty).map (·.size) = some cs.length) : ∃ w' : World, (storeVar ty ⟨b, 0, none⟩ v).run P w = .ok () w' ∧ w'.heap[b]? = some (.cells cs.toArray t (0, 0)) ∧ w.grownBy w' (some b) := by
 obtain ⟨w', new, hr, hw, hs, hj, hg⟩ := q39 P b t cs 0 old w h (by omega) (fun u hu => List.all_eq_true.1 h1 u hu)
 refine ⟨w', ?_, ?_, hg⟩
 ·cases hq : P.info? ty with
  | none => simp [hq] at hi
  | some i =>
   have hsz : i.size = cs.length := by simpa [hq] using hi
   simp [storeVar, sizeOf, typeInfo, hq, hsz, hv, hr]
 ·rw [hw]
  congr 2
  apply Array.ext_getElem?
  intro j
  rw [hj j]
  by_cases hlt : j < cs.length
  ·rw [if_pos (by omega)]; simp
  ·rw [if_neg (by omega), Array.getElem?_eq_none (by omega)]; simp; omega
section
variable {P : Program} {w : World}
theorem q13 {o : Oper} {ev : Operand → Value} {ty : TypeId} {x y : Operand} {a : Addr} {v : Value} {w' : World} (ho : o.op = .store ty x y) (hx : ev x = .pointer (some a)) (hy : ev y = v) (hr : (storeVar ty a v).run P w = .ok () w') :
  (execOp ev o).run P w = .ok .skip w' := by
 unfold execOp
 simp only [ho, hx, hy, Instr.storeAt, Instr.sureAddr, Sem.run_bind, Sem.run_pure, Result.andThen_ok, hr]
end
theorem q34 {P : Program} {w : World} {ty : TypeId} {a : Addr} {n : Int} {old : Value} (hc : w.cell? a = some old) (hf : w.frozen? a = false) (hi : (P.info? ty).map (·.size) = some 1) : (storeVar ty a (.int .i64 n)).run P w = .ok () (w.setCell a (.int .i64 n)) := by
 cases hq : P.info? ty with
 | none => simp [hq] at hi
 | some i =>
  have hsz : i.size = 1 := by simpa [hq] using hi
  have h0 : a.add 0 = a := by simp [Addr.add]
  simp [storeVar, sizeOf, typeInfo, hq, hsz, Value.cells, storeCells, h0, run_store P w a _ _ (one_of_int _ _), hc, hf]
structure PIs (w : World) (p : Prg) (il : List Inst) : Prop where
 n : p.n = il.length
 m : p.n ≤ 1000
 r : RdN w p.A il
theorem PIs.past {w w' : World} {p : Prg} {il : List Inst} (h : PIs w p il) (hb : Below w.heap.size w w') : PIs w' p il := ⟨h.n, h.m, h.r.past hb⟩
theorem at8 (p : Prg) (il : List Inst) (pc : Int) (w : World) (h : PIs w p il) : Calls Try.prog 61 #[p.v, .int .i64 pc] w fun en w' => en = .returned (instAt il pc).v ∧ Below w.heap.size w w' :=
 at_any p il pc w h.n (Nat.le_trans h.m (by omega)) h.r
set_option maxRecDepth 100000 in
set_option maxHeartbeats 1000000 in
theorem at7_in (p : Prg) (l : List Inst) (k : Nat) (w : World) (hn : p.n = l.length) (hm : p.n ≤ 1000000) (hk : k < l.length) (hr : RdN w p.A l) :
  Calls Try.prog 62 #[p.v, .int .i64 k] w fun en w' => en = .returned l[k].v ∧ Below w.heap.size w w' := by
 obtain ⟨W, win, fuel, r0, r1, r2, r3, mems, labels, A, n, c⟩ := p
 simp only at hn hm hr
 subst hn
 obtain ⟨b, o, rfl, hb, e0, e1, e2, e3, e4, e5, e6, e7, e8⟩ := hr.elem hk
 have hbne : b ≠ w.heap.size := by omega
 clear hr
 go_enter Try.func62, Try.ntmps62
 go_wp2_with fail
 refine q0C _ [l[k].v] Try.results62 (.cons (.cell (cs := l[k].cs) (b := w.heap.size + 1) (off := 0) rfl rfl (q05 (q06 (by simp))) Try.underlying53 rfl (by kernel_rfl)) .nil) rfl ⟨rfl, ?_⟩
 exact (q00 w _).alloc (by simp) _
set_option maxRecDepth 100000 in
set_option maxHeartbeats 1000000 in
theorem at7_out (p : Prg) (pc : Int) (w : World) (hm : p.n ≤ 1000000) (hk : pc < 0 ∨ (p.n : Int) ≤ pc) :
  Calls Try.prog 62 #[p.v, .int .i64 pc] w fun en w' => en = .returned Inst.fault.v ∧ Below w.heap.size w w' := by
 obtain ⟨W, win, fuel, r0, r1, r2, r3, mems, labels, A, n, c⟩ := p
 simp only at hm hk
 by_cases h : pc < 0
 ·go_enter Try.func62, Try.ntmps62
  go_wp2_with fail
  refine q0C _ [Inst.fault.v] Try.results62 (.cons (.cell (cs := Inst.fault.cs) (b := w.heap.size + 1) (off := 0) rfl rfl (q05 (q06 (by simp))) Try.underlying53 rfl (by kernel_rfl)) .nil) rfl ⟨rfl, ?_⟩
  exact (q00 w _).alloc (by simp) _
 ·have h2 : (n : Int) ≤ pc := by omega
  clear hk
  go_enter Try.func62, Try.ntmps62
  go_wp2_with fail
  refine q0C _ [Inst.fault.v] Try.results62 (.cons (.cell (cs := Inst.fault.cs) (b := w.heap.size + 1) (off := 0) rfl rfl (q05 (q06 (by simp))) Try.underlying53 rfl (by kernel_rfl)) .nil) rfl ⟨rfl, ?_⟩
  exact (q00 w _).alloc (by simp) _
theorem at7 (p : Prg) (il : List Inst) (pc : Int) (w : World) (h : PIs w p il) : Calls Try.prog 62 #[p.v, .int .i64 pc] w fun en w' => en = .returned (instAt il pc).v ∧ Below w.heap.size w w' := by
 have hm : p.n ≤ 1000000 := Nat.le_trans h.m (by omega)
 unfold instAt
 split
 ·exact at7_out p pc w hm (.inl (by assumption))
 ·by_cases hl : pc < il.length
  ·obtain ⟨k, rfl⟩ := Int.eq_ofNat_of_zero_le (show 0 ≤ pc by omega)
   have hk : k < il.length := by omega
   rw [Int.toNat_natCast, List.getElem?_eq_getElem hk]
   exact at7_in p il k w h.n hm hk h.r
  ·rw [List.getElem?_eq_none (by omega)]
   have := h.n
   exact at7_out p pc w hm (.inr (by omega))
end
section
def destOf (i : Inst) : Int × Bool := if i.kind = 1 ∨ i.kind = 2 ∨ i.kind = 4 then (i.d, true) else (0, false)
def regsAt (a b c d r : Int) : Int := if r = 0 then a else if r = 1 then b else if r = 2 then c else d
def regGo (il : List Inst) (l : List Ent) (r fall : Int) : Nat → Int × Bool
 | 0 => (fall, true)
 | k + 1 => match l[k]? with
  | none => (fall, true)
  | some e => if (destOf (instAt il e.pc)).2 = true ∧ (destOf (instAt il e.pc)).1 = r then (if e.done then (e.val, true) else (0, false)) else regGo il l r fall k
def regOf (il : List Inst) (a b c d : Int) (l : List Ent) (i r : Int) : Int × Bool := if r < 0 ∨ 3 < r then (0, false) else regGo il l r (regsAt a b c d r) (min (max i 0) l.length).toNat
set_option maxRecDepth 100000 in
set_option maxHeartbeats 1000000 in
theorem dest_any (i : Inst) (w : World) : Calls Try.prog 106 #[i.v] w fun en w' => en = .returned (.tuple #[.int .i64 (destOf i).1, .bool (destOf i).2]) ∧ Below w.heap.size w w' := by
 obtain ⟨kind, op, d, ar, an, br, bn, name, target⟩ := i
 unfold destOf
 by_cases h : kind = 1 ∨ kind = 2 ∨ kind = 4
 ·rw [if_pos h]
  rcases h with rfl | rfl | rfl
  all_goals
   go_enter Try.func106, Try.ntmps106
   go_wp2_with fail
   go_ret2
   exact ⟨rfl, by go_grown⟩
 ·rw [if_neg h]
  have h1 : (kind == 1) = false := by simp; omega
  have h2 : (kind == 2) = false := by simp; omega
  have h3 : (kind == 4) = false := by simp; omega
  clear h
  go_enter Try.func106, Try.ntmps106
  go_wp2_with fail
  go_ret2
  exact ⟨rfl, by go_grown⟩
set_option maxRecDepth 100000 in
set_option maxHeartbeats 2000000 in
theorem reg_any (p : Prg) (il : List Inst) (r0 r1 r2 r3 : Int) (A : Option Addr) (c : Nat) (l : List Ent) (i r : Int) (w : World) (hp : PIs w p il) (hl : RdE w A l) (hln : l.length ≤ 1000000) :
  Calls Try.prog 105 #[p.v, .agg #[.int .i64 r0, .int .i64 r1, .int .i64 r2, .int .i64 r3], .slice A l.length c, .int .i64 i, .int .i64 r] w fun en w' =>
   en = .returned (.tuple #[.int .i64 (regOf il r0 r1 r2 r3 l i r).1, .bool (regOf il r0 r1 r2 r3 l i r).2]) ∧ Below w.heap.size w w' := by
 have HP := Kept.mk hp
 have HL := Kept.mk hl
 clear hp hl
 unfold regOf
 by_cases hr : r < 0 ∨ 3 < r
 ·rw [if_pos hr]
  rcases hr with hr | hr
  all_goals
   go_enter Try.func105, Try.ntmps105
   go_wp2_with fail
   go_ret2
   exact ⟨rfl, by go_grown⟩
 ·rw [if_neg hr]
  have hr0 : ¬ r < 0 := by omega
  have hr3 : ¬ 3 < r := by omega
  clear hr
  obtain ⟨m, hm⟩ : ∃ m : Nat, min (max i 0) (l.length : Int) = (m : Int) := ⟨(min (max i 0) (l.length : Int)).toNat, by omega⟩
  have hml : m ≤ l.length := by omega
  rw [hm, Int.toNat_natCast]
  have HM := Kept.mk hm
  go_enter Try.func105, Try.ntmps105
  go_wp2_with fail
  go_loopw [12] (fun v wr => ∃ k : Nat, k ≤ m ∧ v = .int .i64 ((k : Int) - 1) ∧ Kept (regGo il l r (regsAt r0 r1 r2 r3 r) k = regGo il l r (regsAt r0 r1 r2 r3 r) m) ∧
   Below (w.heap.size + 2) ((w.alloc (.cells p.cs.toArray 33)).alloc (.cells #[.int .i64 r0, .int .i64 r1, .int .i64 r2, .int .i64 r3] 28)) wr) (fun v _ => (intOf v + 1).toNat)
  case atStart => exact ⟨m, Nat.le_refl _, rfl, ⟨rfl⟩, Below.refl _ _⟩
  case round =>
   obtain ⟨k, hk, rfl, hre, hb⟩ := hrel
   have HW := Kept.mk (((q00 w (.cells p.cs.toArray 33)).alloc (by simp) (.cells #[.int .i64 r0, .int .i64 r1, .int .i64 r2, .int .i64 r3] 28)).trans (hb.mono (by omega)))
   have HPX := q24 ((hb.block _ (by omega)).trans ((heap_alloc_old _ _ (by simp)).trans (heap_alloc_new w (.cells p.cs.toArray 33))))
   have hrx := (hb.block (w.heap.size + 1) (by omega)).trans (heap_alloc2_new w (.cells p.cs.toArray 33) (.cells #[.int .i64 r0, .int .i64 r1, .int .i64 r2, .int .i64 r3] 28))
   have HB := Kept.mk hb
   clear hb
   cases k with
   | zero =>
    have HRE := Kept.mk hre.out
    clear hre
    rw [regGo] at HRE
    have c0 := cell_of_row wr (w.heap.size + 1) 0 _ _ _ hrx
    have c1 := cell_of_row wr (w.heap.size + 1) 1 _ _ _ hrx
    have c2 := cell_of_row wr (w.heap.size + 1) 2 _ _ _ hrx
    have c3 := cell_of_row wr (w.heap.size + 1) 3 _ _ _ hrx
    simp only [List.getElem?_toArray, List.getElem?_cons_zero, List.getElem?_cons_succ] at c0 c1 c2 c3
    clear hrx
    have hr4 : r = 0 ∨ r = 1 ∨ r = 2 ∨ r = 3 := by omega
    rcases hr4 with rfl | rfl | rfl | rfl
    all_goals
     go_wp2_with fail
     go_ret2
     exact ⟨by rw [← HRE.out]; rfl, HW.out⟩
   | succ k =>
    have hkl : k < l.length := by omega
    obtain ⟨b, o, rfl, hbb, hel⟩ := (HL.out.past HW.out).el hkl
    have HEX := hel.kept hbb
    clear hel hrx
    have HAT := Kept.mk (fun w1 (h : PIs w1 p il) => at7 p il l[k].pc w1 h)
    have hre2 := hre.out
    clear hre
    rw [regGo, List.getElem?_eq_getElem hkl] at hre2
    simp only at hre2
    generalize instAt il l[k].pc = I at HAT hre2
    have hkk : ((k + 1 : Nat) : Int) - 1 = (k : Int) := by omega
    rw [hkk]
    have HKK := Kept.mk hkk
    clear hkk
    have HD := Kept.mk (dest_any I)
    generalize destOf I = D at HD hre2
    obtain ⟨dd, ok⟩ := D
    simp only at HD hre2
    have HRE := Kept.mk hre2
    clear hre2
    go_wp2_with fail
    refine q1E (wr.heap.size) (G := fun _ => True) (ts := [
      .is (p.v),
      .is (Value.slice (some ⟨b, o, none⟩) l.length c),
      .is (Value.int .i64 ((k : Int))),
      .is (Value.pointer (some ⟨b, o + k * 8, none⟩)),
      .is (Value.pointer (some ⟨b, o + k * 8, none⟩)),
      .is (Value.int .i64 (l[k].pc)),
      .draws (I.v),
      .draws (Value.tuple #[.int .i64 (dd), .bool ok]),
      .is (Value.tuple #[.int .i64 (dd), .bool ok]),
      .is (Value.int .i64 (dd)),
      .is (Value.bool ok),
      .is (Value.int .i64 (dd)),
      .is (Value.bool ok)])
     (fin := []) (cs := []) (by kernel_rfl) rfl (by kernel_rfl) (by kernel_rfl)
     ⟨trivial, trivial, trivial, trivial, trivial, trivial, trivial, trivial, trivial, trivial, trivial, trivial, trivial, trivial⟩ (fun _ _ _ _ => trivial) (by simp) (by simp) trivial
     ⟨?_, ?_, ?_, ?_, ?_, ?_, ?_, ?_, ?_, ?_, ?_, ?_, ?_, trivial⟩ ?_
    ·intro vals w1 hB _ _
     refine q02 rfl ?_ (q04 rfl)
     exact q09 rfl (b := w.heap.size) (off := 0) (by kernel_rfl) p.cs (HPX.out w1 hB) Try.underlying33 rfl (by kernel_rfl)
    ·intro vals w1 hB _ _
     refine q02 rfl ?_ (q04 rfl)
     kernel_rfl
    ·intro vals w1 hB _ _
     refine q02 rfl ?_ (q04 rfl)
     kernel_rfl
    ·intro vals w1 hB _ _
     refine q02 rfl ?_ (q04 rfl)
     exact q1C (k := k) (n := l.length) (c := c) rfl (by kernel_rfl) (by kernel_rfl) Try.underlying39 (by kernel_rfl) (by omega)
    ·intro vals w1 hB _ _
     refine q02 rfl ?_ (q04 rfl)
     kernel_rfl
    ·intro vals w1 hB _ _
     refine q02 rfl ?_ (q04 rfl)
     exact q0A rfl (by kernel_rfl) (HEX.out w1 hB 0 _ rfl) Try.underlying3 rfl
    ·intro vals w1 hB _ _
     refine q12 (f := 62) (args := #[p.v, .int .i64 (l[k].pc)]) (w1 := w1) rfl (by kernel_rfl) ?_
     refine (HAT.out w1 ((HP.out.past HW.out).past hB)).mono ?_
     rintro e1 w2 ⟨rfl, h2⟩
     exact ⟨_, rfl, q18 rfl h2⟩
    ·intro vals w1 hB _ _
     refine q12 (f := 106) (args := #[I.v]) (w1 := w1) rfl (by kernel_rfl) ?_
     refine (HD.out w1).mono ?_
     rintro e1 w2 ⟨rfl, h2⟩
     exact ⟨_, rfl, q18 rfl h2⟩
    ·intro vals w1 hB _ _
     refine q02 rfl ?_ (q04 rfl)
     kernel_rfl
    ·intro vals w1 hB _ _
     refine q02 rfl ?_ (q04 rfl)
     kernel_rfl
    ·intro vals w1 hB _ _
     refine q02 rfl ?_ (q04 rfl)
     kernel_rfl
    ·intro vals w1 hB _ _
     refine q02 rfl ?_ (q04 rfl)
     kernel_rfl
    ·intro vals w1 hB _ _
     refine q02 rfl ?_ (q04 rfl)
     kernel_rfl
    intro vals w5 b5 _ hr
    clear hr
    simp only [fillT, Tell.is, Tell.draws, Act.put, List.setIfInBounds_toArray, List.set_cons_zero, List.set_cons_succ]
    have c5 := HEX.out w5 b5 5 (.bool l[k].done) rfl
    have c1 := HEX.out w5 b5 1 (.int .i64 l[k].val) rfl
    have B5 := Kept.mk (HB.out.trans (b5.mono (by have := HB.out.size; simp at this; omega)))
    have W5 := Kept.mk (HW.out.trans (b5.mono HW.out.size))
    clear b5
    by_cases hok : ok = true
    ·subst hok
     by_cases hdr : dd = r
     ·subst hdr
      cases hdn : l[k].done with
      | true =>
       rw [hdn] at c5
       have HF := Kept.mk (HRE.out.symm.trans (by rw [if_pos ⟨rfl, rfl⟩, if_pos hdn]))
       clear hdn HRE
       go_wp2_with fail
       go_ret2
       exact ⟨by rw [HF.out]; rfl, W5.out⟩
      | false =>
       rw [hdn] at c5
       have HF := Kept.mk (HRE.out.symm.trans (by rw [if_pos ⟨rfl, rfl⟩, if_neg (by rw [hdn]; simp)]))
       clear hdn HRE
       go_wp2_with fail
       go_ret2
       exact ⟨by rw [HF.out]; rfl, W5.out⟩
     ·have hdr' : (dd == r) = false := by simp [hdr]
      have HF : Kept (regGo il l r (regsAt r0 r1 r2 r3 r) k = regGo il l r (regsAt r0 r1 r2 r3 r) m) := ⟨by rw [← HRE.out, if_neg (fun h => hdr h.2)]⟩
      clear hdr c5 c1 HRE
      go_wp2_with fail
      exact ⟨⟨k, by omega, rfl, HF, B5.out⟩, by simp [intOf] <;> omega⟩
    ·obtain rfl : ok = false := by simpa using hok
     have HF : Kept (regGo il l r (regsAt r0 r1 r2 r3 r) k = regGo il l r (regsAt r0 r1 r2 r3 r) m) := ⟨by rw [← HRE.out, if_neg (fun h => absurd h.1 (by simp))]⟩
     clear c5 c1 hok HRE
     go_wp2_with fail
     exact ⟨⟨k, by omega, rfl, HF, B5.out⟩, by simp [intOf] <;> omega⟩
end
section
theorem ret_int {k : IntKind} {a b : Int} (h : a = b) : Ending.returned (.int k a) = .returned (.int k b) := by rw [h]
def sizeW (W : Int) : Int := if W = 1 then 2 else 4
def maskW (W n : Int) : Int := n % sizeW W
theorem size1 (W : Int) (hW : W = 1 ∨ W = 2) (w : World) : Calls Try.prog 98 #[.int .i64 W] w fun en w' => en = .returned (.int .i64 (sizeW W)) ∧ w = w' := by
 rcases hW with rfl | rfl
 all_goals
  go_enter Try.func98, Try.ntmps98
  go_wp2_with fail
  go_ret
  exact ⟨rfl, rfl⟩
theorem q32 (W n : Int) (hW : W = 1 ∨ W = 2) : maskW W (wrap64 n) = maskW W n := by
 unfold maskW sizeW wrap64
 rcases hW with rfl | rfl
 ·simp only [if_true]; omega
 ·simp only [show ¬ ((2 : Int) = 1) by omega, if_false]; omega
theorem mask_rem2 (n : Int) : (n.tmod 2 + 2).tmod 2 = n % 2 := by
 rcases Int.le_total 0 n with h | h
 ·rw [Int.tmod_eq_emod_of_nonneg h, Int.tmod_eq_emod_of_nonneg (by omega)]; omega
 ·have e : n.tmod 2 = - ((-n) % 2) := by rw [← Int.tmod_eq_emod_of_nonneg (by omega : 0 ≤ -n), Int.neg_tmod, Int.neg_neg]
  rw [e, Int.tmod_eq_emod_of_nonneg (by omega)]; omega
theorem mask_rem4 (n : Int) : (n.tmod 4 + 4).tmod 4 = n % 4 := by
 rcases Int.le_total 0 n with h | h
 ·rw [Int.tmod_eq_emod_of_nonneg h, Int.tmod_eq_emod_of_nonneg (by omega)]; omega
 ·have e : n.tmod 4 = - ((-n) % 4) := by rw [← Int.tmod_eq_emod_of_nonneg (by omega : 0 ≤ -n), Int.neg_tmod, Int.neg_neg]
  rw [e, Int.tmod_eq_emod_of_nonneg (by omega)]; omega
theorem tmod2_bd (n : Int) : -2 ≤ n.tmod 2 ∧ n.tmod 2 ≤ 2 := by
 have := Int.tmod_lt_of_pos n (show (0 : Int) < 2 by omega)
 have h2 := Int.lt_tmod_of_pos n (show (0 : Int) < 2 by omega)
 omega
theorem tmod4_bd (n : Int) : -4 ≤ n.tmod 4 ∧ n.tmod 4 ≤ 4 := by
 have := Int.tmod_lt_of_pos n (show (0 : Int) < 4 by omega)
 have h2 := Int.lt_tmod_of_pos n (show (0 : Int) < 4 by omega)
 omega
theorem q23 (W n : Int) (hW : W = 1 ∨ W = 2) (w : World) : Calls Try.prog 73 #[.int .i64 W, .int .i64 n] w fun en w' => en = .returned (.int .i64 (maskW W n)) ∧ w = w' := by
 have HS := Kept.mk (size1 W hW)
 rcases hW with rfl | rfl
 ·have hb := tmod2_bd n
  have HQ := Kept.mk (mask_rem2 n)
  go_enter Try.func73, Try.ntmps73
  go_wp2_with fail
  refine (HS.out _).mono ?_
  rintro en w' ⟨rfl, rfl⟩
  simp only [sizeW, if_true]
  go_wp2_with fail
  go_ret
  exact ⟨ret_int (by unfold maskW sizeW; simp only [if_true]; rw [← HQ.out, Int.tmod_eq_emod_of_nonneg (a := n.tmod 2 + 2) (by omega)]), rfl⟩
 ·have hb := tmod4_bd n
  have HQ := Kept.mk (mask_rem4 n)
  go_enter Try.func73, Try.ntmps73
  go_wp2_with fail
  refine (HS.out _).mono ?_
  rintro en w' ⟨rfl, rfl⟩
  simp only [sizeW, show ¬ ((2 : Int) = 1) by omega, if_false]
  go_wp2_with fail
  go_ret
  exact ⟨ret_int (by unfold maskW sizeW; simp only [show ¬ ((2 : Int) = 1) by omega, if_false]; rw [← HQ.out, Int.tmod_eq_emod_of_nonneg (a := n.tmod 4 + 4) (by omega)]), rfl⟩
theorem truth1 (b : Bool) (w : World) : Calls Try.prog 99 #[.bool b] w fun en w' => en = .returned (.int .i64 (if b then 1 else 0)) ∧ w = w' := by
 cases b
 all_goals
  go_enter Try.func99, Try.ntmps99
  go_wp2_with fail
  go_ret
  exact ⟨rfl, rfl⟩
theorem maskW_bd (W n : Int) (hW : W = 1 ∨ W = 2) : 0 ≤ maskW W n ∧ maskW W n ≤ 3 := by
 unfold maskW sizeW
 rcases hW with rfl | rfl
 ·simp only [if_true]; omega
 ·simp only [show ¬ ((2 : Int) = 1) by omega, if_false]; omega
def doX (W op x y : Int) : Int :=
 if op = 1 then maskW W (x + y) else if op = 2 then maskW W (x - y) else if op = 3 then bits .and .i64 x y else if op = 4 then bits .or .i64 x y else if op = 5 then bits .xor .i64 x y else
 if op = 6 then (if W ≤ y then 0 else maskW W (x * 2 ^ y.toNat)) else if op = 7 then (if W ≤ y then 0 else x / 2 ^ y.toNat) else if op = 8 then maskW W (x * y) else if op = 9 then (if x < y then 1 else 0) else if op = 10 then (if x = y then 1 else 0) else 0
def doW (W op a b : Int) : Int := doX W op (maskW W a) (maskW W b)
set_option maxRecDepth 100000 in
set_option maxHeartbeats 4000000 in
theorem do1 (W op a b : Int) (hW : W = 1 ∨ W = 2) (hop : 1 ≤ op ∧ op ≤ 10) (w : World) : Calls Try.prog 74 #[.int .i64 W, .int .i64 op, .int .i64 a, .int .i64 b] w fun en w' => en = .returned (.tuple #[.int .i64 (doW W op a b), .bool true]) ∧ w = w' := by
 have HS := Kept.mk (size1 W hW)
 have HA := Kept.mk (q23 W a hW)
 have HB := Kept.mk (q23 W b hW)
 have HM := Kept.mk (fun n => q23 W n hW)
 have HMw : Kept (∀ (n : Int) (w : World), Calls Try.prog 73 #[.int .i64 W, .int .i64 (wrap64 n)] w fun en w' => en = .returned (.int .i64 (maskW W n)) ∧ w = w') :=
  ⟨fun n w => by have := q23 W (wrap64 n) hW w; rwa [q32 W n hW] at this⟩
 have ha := maskW_bd W a hW
 have hb := maskW_bd W b hW
 unfold doW
 generalize maskW W a = x at *
 generalize maskW W b = y at *
 have hs : sizeW W ≠ 0 := by unfold sizeW; split <;> omega
 have hs' : (sizeW W == 0) = false := by simpa using hs
 have HW := Kept.mk hW
 clear hs hW
 obtain ⟨h0, h1⟩ := hop
 have hops : op = 1 ∨ op = 2 ∨ op = 3 ∨ op = 4 ∨ op = 5 ∨ op = 6 ∨ op = 7 ∨ op = 8 ∨ op = 9 ∨ op = 10 := by omega
 clear h0 h1
 rcases hops with rfl | rfl | rfl | rfl | rfl | rfl | rfl | rfl | rfl | rfl
 all_goals
  go_enter Try.func74, Try.ntmps74
  go_wp2_with fail
  refine (HS.out _).mono ?_
  rintro en w' ⟨rfl, rfl⟩
  go_wp2_with fail
  refine (HA.out _).mono ?_
  rintro en w' ⟨rfl, rfl⟩
  go_wp2_with fail
  refine (HB.out _).mono ?_
  rintro en w' ⟨rfl, rfl⟩
  go_wp2_with fail
 ·refine (HM.out _ _).mono ?_
  rintro en w' ⟨rfl, rfl⟩
  go_wp2_with fail
  go_ret2
  exact ⟨rfl, rfl⟩
 ·refine (HM.out _ _).mono ?_
  rintro en w' ⟨rfl, rfl⟩
  go_wp2_with fail
  go_ret2
  exact ⟨rfl, rfl⟩
 ·go_ret2
  exact ⟨rfl, rfl⟩
 ·go_ret2
  exact ⟨rfl, rfl⟩
 ·go_ret2
  exact ⟨rfl, rfl⟩
 ·go_ret2
  exact ⟨by rw [show doX W 6 x y = (if W ≤ y then 0 else maskW W (x * 2 ^ y.toNat)) by simp [doX], if_pos (by assumption)]; rfl, rfl⟩
 ·refine (HMw.out _ _).mono ?_
  rintro en w' ⟨rfl, rfl⟩
  go_wp2_with fail
  go_ret2
  exact ⟨by rw [show doX W 6 x y = (if W ≤ y then 0 else maskW W (x * 2 ^ y.toNat)) by simp [doX], if_neg (by omega)]; rfl, rfl⟩
 ·go_ret2
  exact ⟨by rw [show doX W 7 x y = (if W ≤ y then 0 else x / 2 ^ y.toNat) by simp [doX], if_pos (by assumption)]; rfl, rfl⟩
 ·go_ret2
  exact ⟨by rw [show doX W 7 x y = (if W ≤ y then 0 else x / 2 ^ y.toNat) by simp [doX], if_neg (by omega)]; rfl, rfl⟩
 ·refine (HMw.out _ _).mono ?_
  rintro en w' ⟨rfl, rfl⟩
  go_wp2_with fail
  go_ret2
  exact ⟨by rw [show doX W 8 x y = maskW W (x * y) by simp [doX]]; first | rfl | (rw [← q32 W _ HW.out]; rfl), rfl⟩
 ·refine (truth1 _ _).mono ?_
  rintro en w' ⟨rfl, rfl⟩
  go_wp2_with fail
  all_goals
   go_ret2
   exact ⟨by simp [doX]; try omega, rfl⟩
 ·refine (truth1 _ _).mono ?_
  rintro en w' ⟨rfl, rfl⟩
  go_wp2_with fail
  all_goals
   go_ret2
   exact ⟨by simp [doX]; try omega, rfl⟩
end
end Go.Proofs.Ytchldbkjapnlcaa
