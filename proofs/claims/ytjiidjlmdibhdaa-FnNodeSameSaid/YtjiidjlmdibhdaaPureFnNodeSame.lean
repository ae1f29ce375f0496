/- The law FnNodeSame: the program's comparison of two drawn nodes is the reference's, goes both ways, and a node is the same as itself. -/
import Derived.Test.YtjiidjlmdibhdaaLemDrawNode
import Derived.Test.YtjiidjlmdibhdaaPx10
namespace Go.Proofs.Ytjiidjlmdibhdaa.Pure
set_option linter.unusedVariables false
set_option linter.unusedSimpArgs false
open Go Go.RowKit Go.Proofs.Ytjiidjlmdibhdaa Go.Proofs.Ytjiidjlmdibhdaa.P Go.Proofs.Ytjiidjlmdibhdaa.Lem Go.Proofs.YtjiidjlmdibhdaaW.PrintWords Go.Proofs.YtjiidjlmdibhdaaW.PrintLast Go.Proofs.YtjiidjlmdibhdaaW.PrintMore
theorem FnNodeSame : laws_FnNodeSame.Pure := by
  intro l0 h1 h2 h3
  unfold laws_FnNodeSame.f
  by_cases c : (l0.length : Int) > 1048576
  · exact ⟨0, by rw [if_pos c]⟩
  obtain ⟨k, x, y, hd, hx⟩ := drawSame_f l0 h3
  obtain ⟨K, hK⟩ := l4_ends x (len_sm x hx) y
  refine ⟨k + K, ?_⟩
  have hd := lift (g := fun k => spec_DrawNodeSame.f k l0) (fun k => spec_DrawNodeSame.mono _ _) hd K
  have e4 := hK (k + K) (by omega)
  dsimp only [F4] at e4
  have e5 : spec_NodeSame.f (k + K) x.f0 x.f1 x.f2 x.f3 x.f4 x.f5 y.f0 y.f1 y.f2 y.f3 y.f4 y.f5 = some (sameV x y) := by
    unfold spec_NodeSame.f
    rw [e4]
    rfl
  have eta : ∀ z : Nd, (⟨z.f0, z.f1, z.f2, z.f3, z.f4, z.f5⟩ : Nd) = z := fun z => by cases z; rfl
  rw [if_neg c, hd]
  simp only [Option.bind_some, impl_NodeSame.f, laws_qnNode.f, eta]
  rw [e5]
  simp only [Option.bind_some, sameV_comm y x, beq_self_eq_true, if_true, sameV_refl]
end Go.Proofs.Ytjiidjlmdibhdaa.Pure
