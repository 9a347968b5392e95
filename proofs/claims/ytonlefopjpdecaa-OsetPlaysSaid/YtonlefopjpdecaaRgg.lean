/- A region that draws its order: the operations that a guard lets by. -/
import Derived.Test.YtonlefopjpdecaaRg
namespace Go.Proofs.Ytonlefopjpdecaa
open Go.RowKit
section
variable {P : Program} {l : List Oper}
theorem one_value_g {a1 : Act} {o : Oper} {w : World} {post : Value → World → Prop} {v : Value} (hg : Region.wanted o (yielded l.toArray a1.tmps) = true) (hr : (execOp a1.eval o).run P w = .ok (.value v) w) (hp : post v w) : OneOp P l a1 o w post := by
  refine ⟨fun K hK => ?_⟩
  rw [if_pos hg]
  unfold Oper.wp
  rw [hr]
  exact hK v w hp
theorem one_calls_g {a1 : Act} {o : Oper} {w w1 : World} {post : Value → World → Prop} {f : FuncId} {args : Array Value} (hg : Region.wanted o (yielded l.toArray a1.tmps) = true) (hr : (execOp a1.eval o).run P w = .ok (.enter f args) w1)
    (hc : Calls P f args w1 (fun e w' => ∃ v, e = .returned v ∧ post v w')) : OneOp P l a1 o w post := by
  refine ⟨fun K hK => ?_⟩
  rw [if_pos hg]
  unfold Oper.wp
  rw [hr]
  refine Calls.mono hc fun e w' h => ?_
  obtain ⟨v, rfl, hp⟩ := h
  exact hK v w' hp
end
end Go.Proofs.Ytonlefopjpdecaa
