/- A region that draws its order, shown operation by operation: each operation is shown once, in whatever order it comes, out of what the ones that it reads have given. -/
import Derived.Test.YtonlefopjpdecaaKit
namespace Go.Proofs.Ytonlefopjpdecaa
open Go.RowKit

/-- The act with each operation's destination filled. -/
def fillAll (vals : Nat → Value) : List Oper → Nat → Act → Act
  | [], _, a => a
  | o :: l, k, a => fillAll vals l (k + 1) (a.put o.dst (vals k))

def binds (e : Edge) : Bool := Region.binds .any e
def awaits (o : Oper) (j : Nat) : Bool := o.after.any fun e => binds e && e.on == j
/-- What is asked of the region's text: edges go back; what an operation reads is waited for; destinations differ and lie in the frame. -/
def rgOps (n : Nat) (l : List Oper) : Bool :=
  Region.noSelect l.toArray &&
  l.zipIdx.all fun (o, i) =>
    o.after.all (fun e => !binds e || e.on < i) &&
    (match o.dst with | none => true | some d => d < n && (l.zipIdx.all fun (o', j) => j == i || o'.dst != some d)) &&
    (l.zipIdx.all fun (o', j) => match o'.dst with | none => true | some d => !(o.looksAt l.toArray).contains d || awaits o j)
/-- What must be kept: where an operation that turns memory may stand between one whose value speaks of memory and one that reads it. -/
def rgKept (l : List Oper) (mem wd fin : Nat → Bool) (cs : List (Nat × Nat)) : Bool :=
  l.zipIdx.all fun (oi, i) => !mem i || l.zipIdx.all fun (oj, j) => j == i || !wd j || cs.contains (i, j) || awaits oj i ||
    (!fin j && l.zipIdx.all fun (ok, k) => k == i || (match oj.dst with | none => true | some d => !(ok.looksAt l.toArray).contains d) || awaits oi k)

section
variable {P : Program} {l : List Oper} {Q : Exit → Act → World → Prop}

theorem fill_defers (vals : Nat → Value) : ∀ (l : List Oper) (k : Nat) (a : Act), (fillAll vals l k a).defers = a.defers
  | [], _, _ => rfl
  | o :: l, k, a => by
    rw [fillAll, fill_defers vals l]
    cases o.dst <;> rfl
theorem fill_size (vals : Nat → Value) : ∀ (l : List Oper) (k : Nat) (a : Act), (fillAll vals l k a).tmps.size = a.tmps.size
  | [], _, _ => rfl
  | o :: l, k, a => by
    rw [fillAll, fill_size vals l]
    cases o.dst <;> simp [Act.put]
theorem put_get_ne {a : Act} {dst : Option Tmp} {v : Value} {t : Tmp} (h : dst ≠ some t) : (a.put dst v).tmps[t]? = a.tmps[t]? := by
  cases dst with
  | none => rfl
  | some d =>
    have : d ≠ t := fun e => h (by rw [e])
    simp [Act.put, Array.getElem?_setIfInBounds_ne this]
theorem put_get_eq {a : Act} {v : Value} {t : Tmp} (h : t < a.tmps.size) : (a.put (some t) v).tmps[t]? = some v := by
  simp [Act.put, h]
theorem fill_other (vals : Nat → Value) (t : Tmp) : ∀ (l : List Oper) (k : Nat) (a : Act), (∀ o ∈ l, o.dst ≠ some t) → (fillAll vals l k a).tmps[t]? = a.tmps[t]?
  | [], _, _, _ => rfl
  | o :: l, k, a, h => by
    rw [fillAll, fill_other vals t l _ _ (fun o ho => h o (List.mem_cons_of_mem _ ho)), put_get_ne (h o List.mem_cons_self)]
theorem fill_at (vals : Nat → Value) (t : Tmp) : ∀ (l : List Oper) (k : Nat) (a : Act) (j : Nat) (o : Oper), l[j]? = some o → o.dst = some t → t < a.tmps.size →
    (∀ j' o', l[j']? = some o' → o'.dst = some t → j' = j) → (fillAll vals l k a).tmps[t]? = some (vals (k + j))
  | [], _, _, j, o, h, _, _, _ => by simp at h
  | o0 :: l, k, a, j, o, h, hd, ht, hu => by
    rw [fillAll]
    have hs : (a.put o0.dst (vals k)).tmps.size = a.tmps.size := by cases o0.dst <;> simp [Act.put]
    cases j with
    | zero =>
      simp at h
      subst h
      rw [fill_other vals t l _ _ (fun o' ho' hd' => by
        obtain ⟨j', hj'⟩ := List.getElem?_of_mem ho'
        have := hu (j' + 1) o' (by simpa using hj') hd'
        omega), hd, put_get_eq ht]
      rfl
    | succ j =>
      have := fill_at vals t l (k + 1) (a.put o0.dst (vals k)) j o (by simpa using h) hd (by rw [hs]; exact ht) (fun j' o' h' hd' => by
        have := hu (j' + 1) o' (by simpa using h') hd'
        omega)
      rw [this, show k + 1 + j = k + (j + 1) by omega]

/-- The act where those that have come up have their values. -/
structure Filled (l : List Oper) (a0 : Act) (done : Nat → Bool) (vals : Nat → Value) (a : Act) : Prop where
  defers : a.defers = a0.defers
  size : a.tmps.size = a0.tmps.size
  at_ : ∀ (j : Nat) (o : Oper) (d : Tmp), l[j]? = some o → done j = true → o.dst = some d → a.tmps[d]? = some (vals j)
  other : ∀ t, (∀ (j : Nat) (o : Oper), l[j]? = some o → done j = true → o.dst ≠ some t) → a.tmps[t]? = a0.tmps[t]?

theorem all_at {f : Oper × Nat → Bool} (h : l.zipIdx.all f = true) {j : Nat} {o : Oper} (ho : l[j]? = some o) : f (o, j) = true :=
  List.all_eq_true.1 h (o, j) (List.mem_zipIdx_iff_getElem?.2 (by simpa using ho))

structure Sane (n : Nat) (l : List Oper) : Prop where
  sel : Region.noSelect l.toArray = true
  back : ∀ (i : Nat) (o : Oper), l[i]? = some o → ∀ e ∈ o.after, binds e = true → e.on < i
  inb : ∀ (i : Nat) (o : Oper) (d : Tmp), l[i]? = some o → o.dst = some d → d < n
  uniq : ∀ (i : Nat) (o : Oper) (j : Nat) (o' : Oper) (d : Tmp), l[i]? = some o → l[j]? = some o' → o.dst = some d → o'.dst = some d → j = i
  reads : ∀ (i : Nat) (o : Oper) (j : Nat) (o' : Oper) (d : Tmp), l[i]? = some o → l[j]? = some o' → o'.dst = some d → d ∈ o.looksAt l.toArray → awaits o j = true
theorem sane_of {n : Nat} (h : rgOps n l = true) : Sane n l := by
  simp only [rgOps, Bool.and_eq_true] at h
  obtain ⟨hs, hall⟩ := h
  have g : ∀ i o, l[i]? = some o → _ := fun i o ho => all_at hall ho
  simp only [Bool.and_eq_true] at g
  refine ⟨hs, fun i o ho e he hb => ?_, fun i o d ho hd => ?_, fun i o j o' d ho ho' hd hd' => ?_, fun i o j o' d ho ho' hd' hr => ?_⟩
  · have := Array.all_eq_true'.1 (g i o ho).1.1 e he
    simpa [hb] using this
  · have := (g i o ho).1.2
    simp only [hd, Bool.and_eq_true, decide_eq_true_eq] at this
    exact this.1
  · have := (g i o ho).1.2
    simp only [hd, Bool.and_eq_true, decide_eq_true_eq] at this
    have := all_at this.2 ho'
    simpa [hd'] using this
  · have := all_at (g i o ho).2 ho'
    simp only [hd'] at this
    simpa [hr] using this

theorem filled_eval {n : Nat} {a0 a : Act} {done : Nat → Bool} {vals : Nat → Value} (hs : Sane n l) (hn : a0.tmps.size = n) (h : Filled l a0 done vals a) {i : Nat} {o : Oper} (ho : l[i]? = some o)
    (hd : ∀ j, awaits o j = true → done j = true) (t : Tmp) (ht : t ∈ o.looksAt l.toArray) : a.tmps[t]? = (fillAll vals l 0 a0).tmps[t]? := by
  by_cases hx : ∃ (j : Nat) (o' : Oper), l[j]? = some o' ∧ o'.dst = some t
  · obtain ⟨j, o', ho', hd'⟩ := hx
    rw [h.at_ j o' t ho' (hd j (hs.reads i o j o' t ho ho' hd' ht)) hd', fill_at vals t l 0 a0 j o' ho' hd' (by rw [hn]; exact hs.inb j o' t ho' hd') (fun j' o'' h' hd'' => hs.uniq j o' j' o'' t ho' h' hd' hd'')]
    simp
  · have hno : ∀ (j : Nat) (o : Oper), l[j]? = some o → o.dst ≠ some t := fun j o ho hd => hx ⟨j, o, ho, hd⟩
    rw [h.other t (fun j o ho _ => hno j o ho), fill_other vals t l 0 a0 (fun o ho => by
      obtain ⟨j, hj⟩ := List.getElem?_of_mem ho
      exact hno j o hj)]

theorem filled_put {n : Nat} {a0 a : Act} {done : Nat → Bool} {vals : Nat → Value} (hs : Sane n l) (hn : a0.tmps.size = n) (h : Filled l a0 done vals a) {i : Nat} {o : Oper} (ho : l[i]? = some o) (hni : done i = false) (v : Value) :
    Filled l a0 (fun j => done j || j == i) (fun j => if j = i then v else vals j) (a.put o.dst v) := by
  refine ⟨?_, ?_, fun j o' d ho' hj hd' => ?_, fun t ht => ?_⟩
  · rw [← h.defers]
    cases o.dst <;> rfl
  · rw [← h.size]
    cases o.dst <;> simp [Act.put]
  · by_cases hji : j = i
    · subst hji
      obtain rfl : o = o' := by rw [ho] at ho'; injection ho'
      rw [if_pos rfl, hd', put_get_eq (by rw [h.size, hn]; exact hs.inb j o d ho hd')]
    · rw [if_neg hji, put_get_ne (fun e => hji (hs.uniq i o j o' d ho ho' e hd')), h.at_ j o' d ho' (by simpa [hji] using hj) hd']
  · rw [put_get_ne (ht i o ho (by simp)), h.other t (fun j o' ho' hj => ht j o' ho' (by simp [hj]))]

theorem filled_all {n : Nat} {a0 a : Act} {done : Nat → Bool} {vals : Nat → Value} (hs : Sane n l) (hn : a0.tmps.size = n) (h : Filled l a0 done vals a) (hall : ∀ j, j < l.length → done j = true) : a = fillAll vals l 0 a0 := by
  have ht : a.tmps = (fillAll vals l 0 a0).tmps := by
    apply Array.ext_getElem?
    intro t
    by_cases hx : ∃ (j : Nat) (o' : Oper), l[j]? = some o' ∧ o'.dst = some t
    · obtain ⟨j, o', ho', hd'⟩ := hx
      rw [h.at_ j o' t ho' (hall j (List.getElem?_eq_some_iff.1 ho').1) hd', fill_at vals t l 0 a0 j o' ho' hd' (by rw [hn]; exact hs.inb j o' t ho' hd') (fun j' o'' h' hd'' => hs.uniq j o' j' o'' t ho' h' hd' hd'')]
      simp
    · have hno : ∀ (j : Nat) (o : Oper), l[j]? = some o → o.dst ≠ some t := fun j o ho hd => hx ⟨j, o, ho, hd⟩
      rw [h.other t (fun j o ho _ => hno j o ho), fill_other vals t l 0 a0 (fun o ho => by
        obtain ⟨j, hj⟩ := List.getElem?_of_mem ho
        exact hno j o hj)]
  obtain ⟨tm, df⟩ := a
  have hdf := h.defers
  have hdf' := fill_defers vals l 0 a0
  cases hf : fillAll vals l 0 a0 with
  | mk tm' df' =>
    rw [hf] at ht hdf'
    simp only at ht hdf hdf'
    subst ht
    rw [hdf, hdf']

/-- What one operation leaves, of the act where all is filled. -/
structure OneOp (P : Program) (l : List Oper) (a1 : Act) (o : Oper) (w : World) (post : Value → World → Prop) : Prop where
  out : ∀ K : Act → World → Prop, (∀ v w', post v w' → K (a1.put o.dst v) w') → if Region.wanted o (yielded l.toArray a1.tmps) = true then o.wp P a1 w K (fun _ _ _ => False) else K (a1.put o.dst undef) w

theorem eval_of_get {a a1 : Act} {o : Oper} (h : ∀ t ∈ o.looksAt l.toArray, a.tmps[t]? = a1.tmps[t]?) : ∀ x ∈ o.op.operands, a.eval x = a1.eval x := by
  intro x hx
  cases x with
  | tmp t =>
    have := h t (List.mem_append_left _ (List.mem_filterMap.2 ⟨.tmp t, by simpa using hx, rfl⟩))
    simp only [Act.eval, Array.getD_eq_getD_getElem?, this]
  | _ => rfl
theorem wanted_of_get {a a1 : Act} {o : Oper} (h : ∀ t ∈ o.looksAt l.toArray, a.tmps[t]? = a1.tmps[t]?) : Region.wanted o (yielded l.toArray a.tmps) = Region.wanted o (yielded l.toArray a1.tmps) := by
  unfold Region.wanted
  cases hg : o.guard with
  | none => rfl
  | some gw =>
    obtain ⟨g, want⟩ := gw
    simp only []
    have : yielded l.toArray a.tmps g = yielded l.toArray a1.tmps g := by
      unfold yielded
      cases hd : ((l.toArray)[g]?).bind (·.dst) with
      | none => rfl
      | some t =>
        have := h t (List.mem_append_right _ (by rw [hg]; simp only []; rw [hd]; simp))
        simp only [Option.bind_some, this]
    rw [this]

theorem one_gives {a a1 : Act} {o : Oper} {w : World} {post : Value → World → Prop} (hsel : ∀ cs b, o.op ≠ .select cs b) (hd : ∀ d, o.dst = some d → d < a1.tmps.size) 
    (h : ∀ t ∈ o.looksAt l.toArray, a.tmps[t]? = a1.tmps[t]?) (hone : OneOp P l a1 o w post) {K : Act → World → Prop} (hK : ∀ v w', post v w' → K (a.put o.dst v) w') :
    if Region.wanted o (yielded l.toArray a.tmps) = true then o.wp P a w K Q else K (a.put o.dst undef) w := by
  have H := hone.out (fun a' w' => ∃ v, a' = a1.put o.dst v ∧ post v w') (fun v w' hp => ⟨v, rfl, hp⟩)
  have back : ∀ u v, a1.put o.dst u = a1.put o.dst v → a.put o.dst u = a.put o.dst v := by
    intro u v he
    cases hdst : o.dst with
    | none => rfl
    | some d =>
      rw [hdst] at he
      have h1 := put_get_eq (a := a1) (v := u) (hd d hdst)
      rw [he, put_get_eq (hd d hdst)] at h1
      injection h1 with h1
      rw [h1]
  rw [wanted_of_get h]
  split
  · rename_i hw
    rw [if_pos hw] at H
    unfold Oper.wp at H ⊢
    rw [execOp_congr o hsel (eval_of_get h)]
    generalize (execOp a1.eval o).run P w = r at H ⊢
    cases r with
    | ok n w' =>
      cases n <;> simp only [Oper.upon] at H ⊢
      case value u => obtain ⟨v, he, hp⟩ := H; rw [back u v he]; exact hK v w' hp
      case skip => obtain ⟨v, he, hp⟩ := H; rw [back _ v he]; exact hK v w' hp
      case defer d =>
        obtain ⟨v, he, _⟩ := H
        have := congrArg Act.defers he
        have e1 : ∀ (b : Act) (u : Value), (b.put o.dst u).defers = b.defers := fun b u => by cases o.dst <;> rfl
        rw [e1, e1] at this
        exact absurd this (by simp)
      case enter f args =>
        refine Calls.mono H fun e w'' he => ?_
        cases e with
        | returned u => obtain ⟨v, he, hp⟩ := he; simp only []; rw [back u v he]; exact hK v w'' hp
        | panicked c => exact False.elim he
        | outgrown => obtain ⟨_, _, hf⟩ := he; exact False.elim hf
      case row row args => exact Rows.mono H fun u w'' he => by obtain ⟨v, he, hp⟩ := he; rw [back u v he]; exact hK v w'' hp
    | halt x w' =>
      cases x <;> simp only [Oper.upon] at H ⊢
  · rename_i hw
    rw [if_neg hw] at H
    obtain ⟨v, he, hp⟩ := H
    rw [back _ v he]
    exact hK v w hp

/-- A region that draws its order: each operation is shown once. G: what all keep; R j: what is told of the value that operation j gives; E i: what operation i does to memory; mem: the operations that may turn memory or make some; wd: those whose R speaks of memory; fin: those whose R is handed on; cs: the pairs (i, j) for which it is shown that i keeps what is told of j. -/
theorem region_rg {id n : Nat} {a0 : Act} {w0 : World} (G : World → Prop) (R : Nat → Value → World → Prop) (E : Nat → World → World → Prop) (mem wd fin : Nat → Bool) (cs : List (Nat × Nat))
    (hm : P.follows .mixedOrders = true) (hn : a0.tmps.size = n) (h1 : rgOps n l = true) (h2 : rgKept l mem wd fin cs = true)
    (hnm : ∀ i w w', mem i = false → E i w w' → w' = w) (hnw : ∀ j v w w', wd j = false → R j v w → R j v w')
    (hst : ∀ p ∈ cs, ∀ v w w', G w → R p.2 v w → E p.1 w w' → R p.2 v w') (h0 : G w0.drew)
    (hop : ∀ i o, l[i]? = some o → ∀ vals w, G w → (∀ j, awaits o j = true → (∃ oj d, l[j]? = some oj ∧ oj.dst = some d ∧ d ∈ o.looksAt l.toArray) → R j (vals j) w) → OneOp P l (fillAll vals l 0 a0) o w (fun v w' => R i v w' ∧ G w' ∧ E i w w'))
    (hend : ∀ vals w, G w → (∀ j, j < l.length → fin j = true → R j (vals j) w) → Q .normal (fillAll vals l 0 a0) w) : (Code.region id l.toArray true).wp P Q a0 w0 := by
  have hs := sane_of h1
  refine wp_region_any hm ?_
  change wpAny P .any l.toArray Q l.toArray.size (Array.replicate l.toArray.size false) a0 w0.drew
  -- the invariant
  have main : ∀ (fuel : Nat) (listed : Array Bool) (a : Act) (w : World) (vals : Nat → Value), listed.size = l.length → listed.toList.count false = fuel → (∀ (j : Nat) (oj : Oper), l[j]? = some oj → listed.getD j false = true → ∀ i, awaits oj i = true → listed.getD i false = true) → G w → Filled l a0 (fun j => listed.getD j false) vals a →
      (∀ j oj, l[j]? = some oj → listed.getD j false = true → (fin j = true ∨ ∃ k ok d, l[k]? = some ok ∧ oj.dst = some d ∧ d ∈ ok.looksAt l.toArray ∧ listed.getD k false = false) → R j (vals j) w) →
      wpAny P .any l.toArray Q fuel listed a w := by
    intro fuel
    have done : ∀ (listed : Array Bool) (a : Act) (w : World) (vals : Nat → Value), listed.size = l.length → G w → Filled l a0 (fun j => listed.getD j false) vals a →
        (∀ j oj, l[j]? = some oj → listed.getD j false = true → (fin j = true ∨ ∃ k ok d, l[k]? = some ok ∧ oj.dst = some d ∧ d ∈ ok.looksAt l.toArray ∧ listed.getD k false = false) → R j (vals j) w) →
        (∀ j, j < l.length → listed.getD j false = true) → Q .normal a w := by
      intro listed a w vals hsz hG hF hR hall
      rw [filled_all hs hn hF hall]
      exact hend vals w hG fun j hj hf => hR j l[j] (List.getElem?_eq_getElem hj) (hall j hj) (.inl hf)
    -- nothing may come up: all has
    have none_ready : ∀ (listed : Array Bool), listed.size = l.length → Region.ready .any l.toArray listed = [] → ∀ j, j < l.length → listed.getD j false = true := by
      intro listed hsz hr j
      induction j using Nat.strongRecOn with
      | ind j ih =>
        intro hj
        cases hb : listed.getD j false with
        | true => rfl
        | false =>
          exfalso
          have hmem : j ∈ Region.ready .any l.toArray listed := mem_ready.2 ⟨by
            have : listed[j]? = some (listed[j]'(by omega)) := Array.getElem?_eq_getElem (by omega)
            simp only [Array.getD_eq_getD_getElem?, this, Option.getD_some] at hb ⊢
            exact hb, l[j], by simp [hj], fun e he hbi => ih e.on (hs.back j l[j] (List.getElem?_eq_getElem hj) e he hbi) (by have := hs.back j l[j] (List.getElem?_eq_getElem hj) e he hbi; omega)⟩
          rw [hr] at hmem
          cases hmem
    induction fuel with
    | zero =>
      intro listed a w vals hsz hc hcl hG hF hR
      have hall : ∀ j, j < l.length → listed.getD j false = true := fun j hj => by
        have : listed[j]? = some (listed[j]'(by omega)) := Array.getElem?_eq_getElem (by omega)
        simp only [Array.getD_eq_getD_getElem?, this, Option.getD_some]
        cases hb : listed[j]'(by omega) with
        | true => rfl
        | false =>
          exfalso
          have hm : false ∈ listed.toList := by
            rw [← hb]
            exact Array.mem_toList_iff.2 (Array.getElem_mem _)
          exact absurd hc (by have := List.count_pos_iff.2 hm; omega)
      refine ⟨?_, done listed a w vals hsz hG hF hR hall⟩
      apply List.eq_nil_iff_forall_not_mem.2
      intro j hj
      obtain ⟨h0, o, ho, _⟩ := mem_ready.1 hj
      have hjl : j < l.length := by
        rcases Nat.lt_or_ge j l.length with h | h
        · exact h
        · simp [h] at ho
      have := hall j hjl
      have hx : listed[j]? = some (listed[j]'(by omega)) := Array.getElem?_eq_getElem (by omega)
      simp only [Array.getD_eq_getD_getElem?, hx, Option.getD_some] at this h0
      rw [this] at h0
      cases h0
    | succ fuel ih =>
      intro listed a w vals hsz hc hcl hG hF hR
      refine ⟨fun hr => done listed a w vals hsz hG hF hR (none_ready listed hsz hr), fun i hi => ?_⟩
      obtain ⟨hun, o, hoa, hall⟩ := mem_ready.1 hi
      have ho : l[i]? = some o := by simpa using hoa
      have hil : i < l.length := (List.getElem?_eq_some_iff.1 ho).1
      have hgi : listed[i]? = some (listed[i]'(by omega)) := Array.getElem?_eq_getElem (by omega)
      have hfi : listed[i]'(by omega) = false := by simpa only [Array.getD_eq_getD_getElem?, hgi, Option.getD_some] using hun
      have hni : listed.getD i false = false := by simp only [Array.getD_eq_getD_getElem?, hgi, Option.getD_some, hfi]
      have hdone : ∀ j, awaits o j = true → listed.getD j false = true := fun j hj => by
        obtain ⟨e, he, hb⟩ := Array.any_eq_true'.1 hj
        simp only [Bool.and_eq_true, beq_iff_eq] at hb
        rw [← hb.2]
        exact hall e he hb.1
      have hset : ∀ j, (listed.setIfInBounds i true).getD j false = (listed.getD j false || j == i) := fun j => by
        by_cases hji : j = i
        · subst hji
          simp [Array.getD_eq_getD_getElem?, hsz, hil]
        · simp [Array.getD_eq_getD_getElem?, Array.getElem?_setIfInBounds_ne (Ne.symm hji), hji]
      refine wpOp_step hoa fun K hK => ?_
      refine one_gives (a1 := fillAll vals l 0 a0) (post := fun v w' => R i v w' ∧ G w' ∧ E i w w') (fun cs b => Region.noSelect_spec hs.sel i o cs b hoa) (fun d hd => by rw [fill_size, hn]; exact hs.inb i o d ho hd) 
        (fun t ht => filled_eval hs hn hF ho hdone t ht) ?_ ?_
      · refine hop i o ho vals w hG fun j hj hx => ?_
        obtain ⟨oj, d, hoj, hdj, hlk⟩ := hx
        exact hR j oj hoj (hdone j hj) (.inr ⟨i, o, d, ho, hdj, hlk, hni⟩)
      · rintro v w' ⟨hv, hG', hE⟩
        refine hK _ _ (ih (listed.setIfInBounds i true) (a.put o.dst v) w' (fun j => if j = i then v else vals j) (by simpa using hsz) ?_ ?_ hG' ?_ ?_)
        · have hl : listed.toList[i]'(by simpa using by omega) = false := by simpa using hfi
          have hcs := List.count_set (b := false) (a := true) (l := listed.toList) (i := i) (by simpa using by omega)
          rw [Array.toList_setIfInBounds]
          rw [hcs, hl, hc]
          simp
        · intro j oj hoj hj k hk
          rw [hset] at hj ⊢
          rcases Bool.or_eq_true _ _ ▸ hj with h | h
          · rw [hcl j oj hoj h k hk, Bool.true_or]
          · have hji : j = i := by simpa using h
            subst hji
            obtain rfl : o = oj := by rw [ho] at hoj; injection hoj
            rw [hdone k hk, Bool.true_or]
        · have := filled_put hs hn hF ho hni v
          have he : (fun j => (listed.setIfInBounds i true).getD j false) = (fun j => listed.getD j false || j == i) := funext hset
          rw [he]
          exact this
        · intro j oj hoj hj hlive
          by_cases hji : j = i
          · subst hji
            simpa using hv
          · rw [hset] at hj
            have hj' : listed.getD j false = true := by simpa [hji] using hj
            simp only [if_neg hji]
            have hlive' : fin j = true ∨ ∃ k ok d, l[k]? = some ok ∧ oj.dst = some d ∧ d ∈ ok.looksAt l.toArray ∧ listed.getD k false = false := by
              rcases hlive with h | ⟨k, ok, d, hk, hd, hlk, hkn⟩
              · exact .inl h
              · refine .inr ⟨k, ok, d, hk, hd, hlk, ?_⟩
                rw [hset] at hkn
                simp only [Bool.or_eq_false_iff] at hkn
                exact hkn.1
            have hRj := hR j oj hoj hj' hlive'
            cases hwd : wd j with
            | false => exact hnw j _ w w' hwd hRj
            | true =>
              cases hmi : mem i with
              | false => rw [hnm i w w' hmi hE]; exact hRj
              | true =>
                have hk2 := all_at h2 ho
                simp only [hmi, Bool.not_true, Bool.false_or] at hk2
                have hk3 := all_at hk2 hoj
                simp only [hwd, Bool.not_true, Bool.or_false] at hk3
                rw [show (j == i) = false by simpa using hji, Bool.false_or] at hk3
                cases hcc : cs.contains (i, j) with
                | true => exact hst (i, j) (by simpa using hcc) _ w w' hG hRj hE
                | false =>
                  exfalso
                  have hna : awaits oj i = false := by
                    cases hb : awaits oj i with
                    | false => rfl
                    | true =>
                      have := hcl j oj hoj hj' i hb
                      rw [hni] at this
                      cases this
                  rw [hcc, hna, Bool.false_or, Bool.false_or, Bool.and_eq_true] at hk3
                  rcases hlive with h | ⟨k, ok, d, hk, hd, hlk, hkn⟩
                  · rw [h] at hk3
                    simp at hk3
                  · have hk4 := all_at hk3.2 hk
                    rw [hset] at hkn
                    simp only [Bool.or_eq_false_iff, beq_eq_false_iff_ne] at hkn
                    simp only [hd, Bool.or_eq_true, beq_iff_eq, Bool.not_eq_true'] at hk4
                    rcases hk4 with (h | h) | h
                    · exact hkn.2 h
                    · have : (ok.looksAt l.toArray).contains d = true := by simpa using hlk
                      rw [this] at h
                      cases h
                    · have := hdone k h
                      rw [hkn.1] at this
                      cases this
  have hz : ∀ j : Nat, (Array.replicate l.toArray.size false).getD j false = false := fun j => by
    rw [Array.getD_eq_getD_getElem?, Array.getElem?_replicate]
    split <;> rfl
  refine main l.toArray.size (Array.replicate l.toArray.size false) a0 w0.drew (fun _ => undef) (by simp) (by rw [Array.toList_replicate, List.count_replicate_self]) (fun j oj _ hj => by rw [hz] at hj; cases hj) h0 ⟨rfl, rfl, fun j o d _ hj => ?_, fun _ _ => rfl⟩ fun j oj _ hj => ?_
  · rw [hz] at hj
    cases hj
  · rw [hz] at hj
    cases hj

/-- Whether the operation reads what number j gives. -/
def reads (l : List Oper) (o : Oper) (j : Nat) : Bool :=
  awaits o j && (match l[j]? with | some oj => (match oj.dst with | some d => (o.looksAt l.toArray).contains d | none => false) | none => false)
theorem reads_of {o : Oper} {j : Nat} (h : awaits o j = true) (h' : ∃ oj d, l[j]? = some oj ∧ oj.dst = some d ∧ d ∈ o.looksAt l.toArray) : reads l o j = true := by
  obtain ⟨oj, d, h1, h2, h3⟩ := h'
  simp [reads, h, h1, h2, h3]
/-- One goal an operation. -/
def OpsP (p : Nat → Oper → Prop) : Nat → List Oper → Prop
  | _, [] => True
  | k, o :: l => p k o ∧ OpsP p (k + 1) l
theorem opsP_at (p : Nat → Oper → Prop) : ∀ (l : List Oper) (k : Nat), OpsP p k l → ∀ i o, l[i]? = some o → p (k + i) o
  | [], _, _, i, o, h => by simp at h
  | o0 :: l, k, hp, i, o, h => by
    cases i with
    | zero => simp at h; subst h; exact hp.1
    | succ i => rw [show k + (i + 1) = k + 1 + i by omega]; exact opsP_at p l (k + 1) hp.2 i o (by simpa using h)

/-- What an operation does to memory: nothing; it makes some, and turns nothing that was there; something else. -/
inductive Eff where
  | keeps
  | grows
  | turns (E : World → World → Prop)
/-- What is told of one operation of a region: its value, where that hangs on nothing that the region makes; else what holds of it; what it does to memory. -/
structure Tell where
  val : Option Value
  R : Value → World → Prop
  eff : Eff
def Tell.is (v : Value) : Tell := ⟨some v, fun _ _ => True, .keeps⟩
def Tell.gets (R : Value → World → Prop) : Tell := ⟨none, R, .keeps⟩
def Tell.makes (R : Value → World → Prop) : Tell := ⟨none, R, .grows⟩
def Tell.draws (v : Value) : Tell := ⟨some v, fun _ _ => True, .grows⟩
def Tell.turns (R : Value → World → Prop) (E : World → World → Prop) : Tell := ⟨none, R, .turns E⟩
def Tell.sets (E : World → World → Prop) : Tell := ⟨none, fun _ _ => True, .turns E⟩
def tellAt : List Tell → Nat → Option Tell
  | [], _ => none
  | t :: _, 0 => some t
  | _ :: l, k + 1 => tellAt l k
def tellV (ts : List Tell) (vals : Nat → Value) (j : Nat) : Value := match tellAt ts j with | some t => (match t.val with | some c => c | none => vals j) | none => vals j
def tellR (ts : List Tell) (j : Nat) (v : Value) (w : World) : Prop := match tellAt ts j with | some t => (match t.val with | some c => v = c | none => t.R v w) | none => True
def tellE (ts : List Tell) (i : Nat) (w w' : World) : Prop := match tellAt ts i with | some t => (match t.eff with | .turns E => E w w' | .grows => Below w.heap.size w w' | .keeps => w' = w) | none => w' = w
def tellMem (ts : List Tell) (i : Nat) : Bool := match tellAt ts i with | some t => (match t.eff with | .keeps => false | _ => true) | none => false
def tellTurns (ts : List Tell) (i : Nat) : Bool := match tellAt ts i with | some t => (match t.eff with | .turns _ => true | _ => false) | none => false
def tellWd (ts : List Tell) (j : Nat) : Bool := match tellAt ts j with | some t => t.val.isNone | none => false
def tellFin (ts : List Tell) (fin : List Nat) (j : Nat) : Bool := fin.contains j || (match tellAt ts j with | some t => t.val.isSome | none => false)
/-- What is told of a value holds still where memory has grown alone. -/
def Grows (R : Value → World → Prop) : Prop := ∀ v w w', R v w → Below w.heap.size w w' → R v w'
def growAll : List Tell → Prop
  | [] => True
  | t :: ts => (match t.val with | some _ => True | none => Grows t.R) ∧ growAll ts
theorem growAll_at : ∀ (ts : List Tell) (j : Nat) (t : Tell), growAll ts → tellAt ts j = some t → t.val = none → Grows t.R
  | [], _, _, _, h, _ => by simp [tellAt] at h
  | t0 :: ts, 0, t, hg, h, hv => by
    simp only [tellAt, Option.some.injEq] at h
    subst h
    have := hg.1
    rw [hv] at this
    exact this
  | t0 :: ts, j + 1, t, hg, h, hv => growAll_at ts j t hg.2 h hv
/-- The act, with what is told laid in. -/
def fillT (vals : Nat → Value) : List Oper → List Tell → Nat → Act → Act
  | [], _, _, a => a
  | o :: l, [], k, a => fillT vals l [] (k + 1) (a.put o.dst (vals k))
  | o :: l, t :: ts, k, a => fillT vals l ts (k + 1) (a.put o.dst (match t.val with | some c => c | none => vals k))
theorem fillT_eq (vals : Nat → Value) : ∀ (l : List Oper) (ts : List Tell) (k : Nat) (a : Act) (V : Nat → Value), (∀ j, V (k + j) = (match tellAt ts j with | some t => (match t.val with | some c => c | none => vals (k + j)) | none => vals (k + j))) → fillAll V l k a = fillT vals l ts k a
  | [], _, _, _, _, _ => by simp only [fillAll, fillT]
  | o :: l, [], k, a, V, h => by
    have h0 : V k = vals k := h 0
    rw [fillAll, fillT, h0]
    exact fillT_eq vals l [] (k + 1) _ V fun j => by
      have := h (j + 1)
      simp only [tellAt] at this ⊢
      rw [show k + 1 + j = k + (j + 1) by omega]
      exact this
  | o :: l, t :: ts, k, a, V, h => by
    have h0 : V k = (match t.val with | some c => c | none => vals k) := h 0
    rw [fillAll, fillT, h0]
    exact fillT_eq vals l ts (k + 1) _ V fun j => by
      have := h (j + 1)
      simp only [tellAt] at this ⊢
      rw [show k + 1 + j = k + (j + 1) by omega]
      exact this

theorem fill_congr {vals vals' : Nat → Value} : ∀ (l : List Oper) (k : Nat) (a : Act), (∀ j, j < l.length → vals (k + j) = vals' (k + j)) → fillAll vals l k a = fillAll vals' l k a
  | [], _, _, _ => rfl
  | o :: l, k, a, h => by
    have h0 : vals k = vals' k := h 0 (by simp)
    rw [fillAll, fillAll, h0]
    exact fill_congr l (k + 1) _ fun j hj => by
      have := h (j + 1) (by simpa using hj)
      rw [show k + 1 + j = k + (j + 1) by omega]
      exact this

/-- What operation i leaves. -/
def tellPost (ts : List Tell) (B : Nat) (w0 : World) (G : World → Prop) (i : Nat) (w : World) (v : Value) (w' : World) : Prop :=
  match tellAt ts i with
  | some t => (match t.val with | some c => v = c | none => t.R v w') ∧ (match t.eff with | .keeps => w' = w | .grows => Below w.heap.size w w' | .turns E => Below B w0 w' ∧ G w' ∧ w.heap.size ≤ w'.heap.size ∧ E w w')
  | none => w' = w
theorem tellPost_gives {ts : List Tell} {B : Nat} {w0 : World} {G : World → Prop} {i : Nat} {w w' : World} {v : Value} (hB : B ≤ w.heap.size) (hw : Below B w0 w) (hG : G w) (hGg : ∀ w w', G w → Below w.heap.size w w' → G w')
    (h : tellPost ts B w0 G i w v w') : tellR ts i v w' ∧ (Below B w0 w' ∧ B ≤ w'.heap.size ∧ G w') ∧ tellE ts i w w' := by
  unfold tellPost at h
  unfold tellR tellE
  cases ht : tellAt ts i with
  | none => rw [ht] at h; simp only at h; subst h; exact ⟨trivial, ⟨hw, hB, hG⟩, rfl⟩
  | some t =>
    rw [ht] at h
    simp only at h ⊢
    refine ⟨h.1, ?_⟩
    have h2 := h.2
    cases he : t.eff with
    | keeps => rw [he] at h2; simp only at h2 ⊢; subst h2; exact ⟨⟨hw, hB, hG⟩, rfl⟩
    | grows => rw [he] at h2; simp only at h2 ⊢; exact ⟨⟨hw.trans (h2.mono hB), Nat.le_trans hB h2.size, hGg _ _ hG h2⟩, h2⟩
    | turns E => rw [he] at h2; simp only at h2 ⊢; exact ⟨⟨h2.1, Nat.le_trans hB h2.2.2.1, h2.2.1⟩, h2.2.2.2⟩

section
variable {ts : List Tell} {B : Nat} {w0 : World} {G : World → Prop} {i : Nat} {w w' : World} {v : Value}
theorem post_is {c : Value} (h : tellAt ts i = some (.is c)) : tellPost ts B w0 G i w c w := by
  unfold tellPost; rw [h]; exact ⟨rfl, rfl⟩
theorem post_gets {R : Value → World → Prop} (h : tellAt ts i = some (.gets R)) (hr : R v w) : tellPost ts B w0 G i w v w := by
  unfold tellPost; rw [h]; exact ⟨hr, rfl⟩
theorem post_draws {c : Value} (h : tellAt ts i = some (.draws c)) (hb : Below w.heap.size w w') : tellPost ts B w0 G i w c w' := by
  unfold tellPost; rw [h]; exact ⟨rfl, hb⟩
theorem post_makes {R : Value → World → Prop} (h : tellAt ts i = some (.makes R)) (hr : R v w') (hb : Below w.heap.size w w') : tellPost ts B w0 G i w v w' := by
  unfold tellPost; rw [h]; exact ⟨hr, hb⟩
theorem post_turns {R : Value → World → Prop} {E : World → World → Prop} (h : tellAt ts i = some (.turns R E)) (hr : R v w') (hb : Below B w0 w') (hG : G w') (hs : w.heap.size ≤ w'.heap.size) (hE : E w w') : tellPost ts B w0 G i w v w' := by
  unfold tellPost; rw [h]; exact ⟨hr, hb, hG, hs, hE⟩
theorem post_sets {E : World → World → Prop} (h : tellAt ts i = some (.sets E)) (hb : Below B w0 w') (hG : G w') (hs : w.heap.size ≤ w'.heap.size) (hE : E w w') : tellPost ts B w0 G i w v w' := by
  unfold tellPost; rw [h]; exact ⟨trivial, hb, hG, hs, hE⟩
end

/-- A region that draws its order, one goal an operation. B: below it nothing turns; G: what else all keep. -/
theorem region_tell {id n : Nat} {a0 : Act} {w0 : World} (B : Nat) (G : World → Prop) (ts : List Tell) (fin : List Nat) (cs : List (Nat × Nat))
    (hm : P.follows .mixedOrders = true) (hn : a0.tmps.size = n) (h1 : rgOps n l = true) (h2 : rgKept l (tellTurns ts) (tellWd ts) (tellFin ts fin) cs = true)
    (hgr : growAll ts) (hGg : ∀ w w', G w → Below w.heap.size w w' → G w')
    (hst : ∀ p ∈ cs, ∀ v w w', G w → tellR ts p.2 v w → tellE ts p.1 w w' → tellR ts p.2 v w') (hB : B ≤ w0.heap.size) (h0 : G w0.drew)
    (hop : OpsP (fun i o => ∀ vals w, Below B w0 w → G w → (∀ j, reads l o j = true → tellR ts j (vals j) w) → OneOp P l (fillT vals l ts 0 a0) o w (tellPost ts B w0 G i w)) 0 l)
    (hend : ∀ vals w, Below B w0 w → G w → (∀ j, j < l.length → j ∈ fin → tellR ts j (vals j) w) → Q .normal (fillT vals l ts 0 a0) w) : (Code.region id l.toArray true).wp P Q a0 w0 := by
  have hs := sane_of h1
  have hfT : ∀ vals, fillT vals l ts 0 a0 = fillAll (tellV ts vals) l 0 a0 := fun vals => (fillT_eq vals l ts 0 a0 (tellV ts vals) fun j => by simp only [Nat.zero_add, tellV]).symm
  -- the pairs: those that turn memory by cs; those that grow it by 'growAll'
  have hk : rgKept l (tellMem ts) (tellWd ts) (tellFin ts fin) (cs ++ (List.range l.length).flatMap fun i => if tellTurns ts i then [] else (List.range l.length).map fun j => (i, j)) = true := by
    unfold rgKept at h2 ⊢
    rw [List.all_eq_true] at h2 ⊢
    rintro ⟨oi, i⟩ hoi
    have hi : i < l.length := by
      have := List.mem_zipIdx_iff_getElem?.1 hoi
      exact (List.getElem?_eq_some_iff.1 (by simpa using this)).1
    have g := h2 (oi, i) hoi
    simp only [] at g ⊢
    cases hti : tellTurns ts i with
    | true =>
      rw [hti] at g
      simp only [Bool.not_true, Bool.false_or] at g
      refine Bool.or_eq_true _ _ ▸ Or.inr ?_
      rw [List.all_eq_true] at g ⊢
      rintro ⟨oj, j⟩ hoj
      have g2 := g (oj, j) hoj
      simp only [] at g2 ⊢
      cases hc : cs.contains (i, j) with
      | false =>
        rw [hc] at g2
        have mono : ∀ a b c d e : Bool, (a || b || false || d || e) = true → (a || b || c || d || e) = true := by decide
        exact mono _ _ _ _ _ g2
      | true =>
        have : (cs ++ (List.range l.length).flatMap fun i => if tellTurns ts i then [] else (List.range l.length).map fun j => (i, j)).contains (i, j) = true := by
          simp only [List.contains_iff_mem, List.mem_append] at hc ⊢
          exact .inl hc
        rw [this]
        simp
    | false =>
      refine Bool.or_eq_true _ _ ▸ Or.inr ?_
      rw [List.all_eq_true]
      rintro ⟨oj, j⟩ hoj
      have hj : j < l.length := by
        have := List.mem_zipIdx_iff_getElem?.1 hoj
        exact (List.getElem?_eq_some_iff.1 (by simpa using this)).1
      have : (cs ++ (List.range l.length).flatMap fun i => if tellTurns ts i then [] else (List.range l.length).map fun j => (i, j)).contains (i, j) = true := by
        simp only [List.contains_iff_mem, List.mem_append, List.mem_flatMap, List.mem_range]
        refine .inr ⟨i, hi, ?_⟩
        rw [hti]
        simpa using hj
      simp only [this, Bool.or_true, Bool.true_or]
  refine region_rg (fun w => Below B w0 w ∧ B ≤ w.heap.size ∧ G w) (tellR ts) (tellE ts) (tellMem ts) (tellWd ts) (tellFin ts fin) _ hm hn h1 hk (fun i w w' h he => ?_) (fun j v w w' h hr => ?_) ?_ ⟨(Below.refl _ _).drew, hB, h0⟩ (fun i o ho vals w hG hd => ?_) fun vals w hG hr => ?_
  · unfold tellMem at h
    unfold tellE at he
    cases ht : tellAt ts i with
    | none => rw [ht] at he; exact he
    | some t =>
      rw [ht] at he h
      cases hE : t.eff with
      | keeps => simp only [hE] at he; exact he
      | grows => simp [hE] at h
      | turns E => simp [hE] at h
  · unfold tellWd at h
    unfold tellR at hr ⊢
    cases ht : tellAt ts j with
    | none => trivial
    | some t =>
      rw [ht] at hr h
      cases hE : t.val with
      | none => simp [hE] at h
      | some c => simp only [hE] at hr ⊢; exact hr
  · rintro ⟨i, j⟩ hp v w w' hG hr he
    rw [List.mem_append] at hp
    rcases hp with hp | hp
    · exact hst (i, j) hp v w w' hG.2.2 hr he
    · simp only [List.mem_flatMap, List.mem_range] at hp
      obtain ⟨i', _, hp⟩ := hp
      cases hti : tellTurns ts i' with
      | true => rw [hti] at hp; simp at hp
      | false =>
        rw [hti] at hp
        simp only [Bool.false_eq_true, if_false, List.mem_map, Prod.mk.injEq] at hp
        obtain ⟨j', _, rfl, rfl⟩ := hp
        unfold tellTurns at hti
        unfold tellE at he
        unfold tellR at hr ⊢
        cases htj : tellAt ts j' with
        | none => trivial
        | some tj =>
          rw [htj] at hr
          simp only at hr ⊢
          cases hv : tj.val with
          | some c => rw [hv] at hr; exact hr
          | none =>
            rw [hv] at hr
            simp only at hr ⊢
            cases ht : tellAt ts i' with
            | none => rw [ht] at he; simp only at he; rw [he]; exact hr
            | some t =>
              rw [ht] at he hti
              simp only at he hti
              cases hE : t.eff with
              | keeps => rw [hE] at he; simp only at he; rw [he]; exact hr
              | grows => rw [hE] at he; exact growAll_at ts j' tj hgr htj hv v w w' hr he
              | turns E => rw [hE] at hti; simp at hti
  · have hd' : ∀ j, reads l o j = true → tellR ts j (vals j) w := fun j hj => by
      simp only [reads, Bool.and_eq_true] at hj
      refine hd j hj.1 ?_
      cases hl : l[j]? with
      | none => rw [hl] at hj; simp at hj
      | some oj =>
        cases hdst : oj.dst with
        | none => rw [hl] at hj; simp [hdst] at hj
        | some d => rw [hl] at hj; exact ⟨oj, d, rfl, hdst, by simpa [hdst] using hj.2⟩
    have H := opsP_at _ l 0 hop i o ho
    simp only [Nat.zero_add] at H
    have H := H vals w hG.1 hG.2.2 hd'
    rw [hfT] at H
    refine ⟨fun K hK => ?_⟩
    refine one_gives (fun cs b => Region.noSelect_spec hs.sel i o cs b (by simpa using ho)) (fun d hdst => by rw [fill_size, hn]; exact hs.inb i o d ho hdst) (fun t ht => ?_) H
      (fun v w' hp => hK v w' (tellPost_gives hG.2.1 hG.1 hG.2.2 hGg hp))
    by_cases hx : ∃ (j : Nat) (o' : Oper), l[j]? = some o' ∧ o'.dst = some t
    · obtain ⟨j, o', ho', hdst⟩ := hx
      have hu := fun (j' : Nat) (o'' : Oper) (h' : l[j']? = some o'') (hd'' : o''.dst = some t) => hs.uniq j o' j' o'' t ho' h' hdst hd''
      rw [fill_at _ t l 0 a0 j o' ho' hdst (by rw [hn]; exact hs.inb j o' t ho' hdst) hu, fill_at _ t l 0 a0 j o' ho' hdst (by rw [hn]; exact hs.inb j o' t ho' hdst) hu]
      have hr := hd j (hs.reads i o j o' t ho ho' hdst ht) ⟨o', t, ho', hdst, ht⟩
      unfold tellR at hr
      unfold tellV
      simp only [Nat.zero_add]
      cases htj : tellAt ts j with
      | none => rfl
      | some tt =>
        rw [htj] at hr
        cases hv : tt.val with
        | none => simp only [hv]
        | some c => simp only [hv] at hr ⊢; rw [hr]
    · have hno : ∀ o ∈ l, o.dst ≠ some t := fun o ho hdst => by
        obtain ⟨j, hj⟩ := List.getElem?_of_mem ho
        exact hx ⟨j, o, hj, hdst⟩
      rw [fill_other _ t l 0 a0 hno, fill_other _ t l 0 a0 hno]
  · have he : fillAll vals l 0 a0 = fillT vals l ts 0 a0 := by
      rw [hfT]
      refine fill_congr l 0 a0 fun j hj => ?_
      simp only [Nat.zero_add]
      unfold tellV
      cases ht : tellAt ts j with
      | none => rfl
      | some t =>
        cases hv : t.val with
        | none => simp only [hv]
        | some c =>
          have := hr j hj (by simp [tellFin, ht, hv])
          unfold tellR at this
          rw [ht] at this
          simp only [hv] at this ⊢
          exact this
    rw [he]
    exact hend vals w hG.1 hG.2.2 fun j hj hf => hr j hj (by simp [tellFin, hf])

/-- An operation that gives a value and turns nothing. -/
theorem one_value {a1 : Act} {o : Oper} {w : World} {post : Value → World → Prop} {v : Value} (hg : o.guard = none) (hr : (execOp a1.eval o).run P w = .ok (.value v) w) (hp : post v w) : OneOp P l a1 o w post := by
  refine ⟨fun K hK => ?_⟩
  rw [if_pos (by simp [Region.wanted, hg])]
  unfold Oper.wp
  rw [hr]
  exact hK v w hp
/-- One that gives a value and leaves another world. -/
theorem one_makes {a1 : Act} {o : Oper} {w w' : World} {post : Value → World → Prop} {v : Value} (hg : o.guard = none) (hr : (execOp a1.eval o).run P w = .ok (.value v) w') (hp : post v w') : OneOp P l a1 o w post := by
  refine ⟨fun K hK => ?_⟩
  rw [if_pos (by simp [Region.wanted, hg])]
  unfold Oper.wp
  rw [hr]
  exact hK v w' hp
/-- One that stores. -/
theorem one_skips {a1 : Act} {o : Oper} {w w' : World} {post : Value → World → Prop} (hg : o.guard = none) (hr : (execOp a1.eval o).run P w = .ok .skip w') (hp : post undef w') : OneOp P l a1 o w post := by
  refine ⟨fun K hK => ?_⟩
  rw [if_pos (by simp [Region.wanted, hg])]
  unfold Oper.wp
  rw [hr]
  exact hK undef w' hp
/-- A call. -/
theorem one_calls {a1 : Act} {o : Oper} {w w1 : World} {post : Value → World → Prop} {f : FuncId} {args : Array Value} (hg : o.guard = none) (hr : (execOp a1.eval o).run P w = .ok (.enter f args) w1)
    (hc : Calls P f args w1 (fun e w' => ∃ v, e = .returned v ∧ post v w')) : OneOp P l a1 o w post := by
  refine ⟨fun K hK => ?_⟩
  rw [if_pos (by simp [Region.wanted, hg])]
  unfold Oper.wp
  rw [hr]
  refine Calls.mono hc fun e w' h => ?_
  obtain ⟨v, rfl, hp⟩ := h
  exact hK v w' hp
/-- append onto a row of the call's own. -/
theorem one_append {a1 : Act} {o : Oper} {w : World} {post : Value → World → Prop} (hg : o.guard = none) (s x : Operand) (t : TypeId)
    (ho : o.op = .call { callee := .builtin .append, args := #[s, x], argTypes := #[t, t] })
    (base : Nat) (e : TypeId) (z : Value) (size bytes : Nat) (ht : P.underlying t = some (.slice e)) (hi : (P.info? e).map (fun i => (i.zero, i.size, i.bytes)) = some (some z, size, bytes)) (hzs : z.cells.size = size) (hsz : 0 < size)
    {v : Value} {n : Nat} {xs : List Value} (hs : a1.eval s = v) (hown : w.ownsRow base e size v n xs)
    {B : Nat} {A : Option Addr} {m c : Nat} {news : List Value} (hx : a1.eval x = .slice A m c) (hr : Reads w B size A m news) (h1 : ∀ u ∈ news, u.oneCell' = true)
    (h63 : n + m ≤ maxLen) (hbytes : (n + m) * bytes ≤ 140737488355328) (hbase : base ≤ w.heap.size)
    (h : ∀ v' w', w'.ownsRow base e size v' (n + m) (xs ++ news) → w.grownBy w' v.ownBlock → (v'.ownBlock = v.ownBlock ∨ v'.ownBlock = some w.heap.size) → post v' w') : OneOp P l a1 o w post := by
  obtain ⟨i, hi, hz, hsize, hby⟩ := info_parts hi
  refine ⟨fun K hK => ?_⟩
  rw [if_pos (by simp [Region.wanted, hg])]
  exact wp_append_any w s x t ho base e i z size bytes ht hi hz hsize hby hzs hsz v n xs hs hown B A m c news hx hr h1 h63 hbytes hbase fun v' w' h2 h3 h4 => hK v' w' (h v' w' h2 h3 h4)
/-- One that is passed over. -/
theorem one_not {a1 : Act} {o : Oper} {w : World} {post : Value → World → Prop} (hw : Region.wanted o (yielded l.toArray a1.tmps) = false) (hp : post undef w) : OneOp P l a1 o w post := by
  refine ⟨fun K hK => ?_⟩
  rw [if_neg (by rw [hw]; simp)]
  exact hK undef w hp
end
end Go.Proofs.Ytonlefopjpdecaa
