/- The program's comparison of two nodes, and the laws' own: what they answer, told for the printed law. -/
import Derived.Test.YtjiidjlmdibhdaaStubSame
import Derived.Test.YtjiidjlmdibhdaaStubNodeSame
namespace Go.Proofs.Ytjiidjlmdibhdaa.P
open Go.RowKit Go.Proofs.Ytjiidjlmdibhdaa Go.Proofs.YtjiidjlmdibhdaaW.PrintWords Go.Proofs.YtjiidjlmdibhdaaW.PrintLast Go.Proofs.YtjiidjlmdibhdaaW.PrintMore
set_option linter.unusedVariables false
def impl_NodeSame.f (a0_0 : Int) (a0_1 : ByteArray) (l0_2 : List S29) (a0_3 : Int) (a0_4 : Int) (l0_5 : List S29) (a1_0 : Int) (a1_1 : ByteArray) (l1_2 : List S29) (a1_3 : Int) (a1_4 : Int) (l1_5 : List S29) : Option Bool := some (sameV ⟨a0_0, a0_1, l0_2, a0_3, a0_4, l0_5⟩ ⟨a1_0, a1_1, l1_2, a1_3, a1_4, l1_5⟩)
theorem impl_NodeSame.calls (a0_0 : Int) (a0_1 : ByteArray) (A0_2 : Option Addr) (c0_2 : Nat) (l0_2 : List S29) (a0_3 : Int) (a0_4 : Int) (A0_5 : Option Addr) (c0_5 : Nat) (l0_5 : List S29) (a1_0 : Int) (a1_1 : ByteArray) (A1_2 : Option Addr) (c1_2 : Nat) (l1_2 : List S29) (a1_3 : Int) (a1_4 : Int) (A1_5 : Option Addr) (c1_5 : Nat) (l1_5 : List S29) (r : Bool) (w : World)
    (h1 : Kd.C k29 w A0_2 l0_2.length l0_2) (h2 : l0_2.length ≤ c0_2) (h3 : Kd.C k29 w A0_5 l0_5.length l0_5) (h4 : l0_5.length ≤ c0_5) (h5 : Kd.C k29 w A1_2 l1_2.length l1_2) (h6 : l1_2.length ≤ c1_2) (h7 : Kd.C k29 w A1_5 l1_5.length l1_5) (h8 : l1_5.length ≤ c1_5)
    (h : impl_NodeSame.f a0_0 a0_1 l0_2 a0_3 a0_4 l0_5 a1_0 a1_1 l1_2 a1_3 a1_4 l1_5 = some r) :
    Calls Try.prog 9 #[.agg #[.int .i64 a0_0, .string a0_1, .slice A0_2 l0_2.length c0_2, .int .i64 a0_3, .int .i64 a0_4, .slice A0_5 l0_5.length c0_5], .agg #[.int .i64 a1_0, .string a1_1, .slice A1_2 l1_2.length c1_2, .int .i64 a1_3, .int .i64 a1_4, .slice A1_5 l1_5.length c1_5]] w fun e w' => e = .returned (.bool r) ∧ Below w.heap.size w w' := by
  obtain rfl := Option.some.inj h
  exact nodeSame_all ⟨a0_0, a0_1, l0_2, a0_3, a0_4, l0_5⟩ ⟨a1_0, a1_1, l1_2, a1_3, a1_4, l1_5⟩ A0_2 A0_5 A1_2 A1_5 c0_2 c0_5 c1_2 c1_5 w h1 h2 h3 h4 h5 h6 h7 h8
def laws_qnNode.f (a0_0 : Int) (a0_1 : ByteArray) (l0_2 : List S29) (a0_3 : Int) (a0_4 : Int) (l0_5 : List S29) (a1_0 : Int) (a1_1 : ByteArray) (l1_2 : List S29) (a1_3 : Int) (a1_4 : Int) (l1_5 : List S29) : Option Bool := some (sameV ⟨a0_0, a0_1, l0_2, a0_3, a0_4, l0_5⟩ ⟨a1_0, a1_1, l1_2, a1_3, a1_4, l1_5⟩)
theorem laws_qnNode.calls (a0_0 : Int) (a0_1 : ByteArray) (A0_2 : Option Addr) (c0_2 : Nat) (l0_2 : List S29) (a0_3 : Int) (a0_4 : Int) (A0_5 : Option Addr) (c0_5 : Nat) (l0_5 : List S29) (a1_0 : Int) (a1_1 : ByteArray) (A1_2 : Option Addr) (c1_2 : Nat) (l1_2 : List S29) (a1_3 : Int) (a1_4 : Int) (A1_5 : Option Addr) (c1_5 : Nat) (l1_5 : List S29) (r : Bool) (w : World)
    (h1 : Kd.C k29 w A0_2 l0_2.length l0_2) (h2 : l0_2.length ≤ c0_2) (h3 : Kd.C k29 w A0_5 l0_5.length l0_5) (h4 : l0_5.length ≤ c0_5) (h5 : Kd.C k29 w A1_2 l1_2.length l1_2) (h6 : l1_2.length ≤ c1_2) (h7 : Kd.C k29 w A1_5 l1_5.length l1_5) (h8 : l1_5.length ≤ c1_5)
    (h : laws_qnNode.f a0_0 a0_1 l0_2 a0_3 a0_4 l0_5 a1_0 a1_1 l1_2 a1_3 a1_4 l1_5 = some r) :
    Calls Try.prog 12 #[.agg #[.int .i64 a0_0, .string a0_1, .slice A0_2 l0_2.length c0_2, .int .i64 a0_3, .int .i64 a0_4, .slice A0_5 l0_5.length c0_5], .agg #[.int .i64 a1_0, .string a1_1, .slice A1_2 l1_2.length c1_2, .int .i64 a1_3, .int .i64 a1_4, .slice A1_5 l1_5.length c1_5]] w fun e w' => e = .returned (.bool r) ∧ Below w.heap.size w w' := by
  obtain rfl := Option.some.inj h
  exact qnNode_all ⟨a0_0, a0_1, l0_2, a0_3, a0_4, l0_5⟩ ⟨a1_0, a1_1, l1_2, a1_3, a1_4, l1_5⟩ A0_2 A0_5 A1_2 A1_5 c0_2 c0_5 c1_2 c1_5 w h1 h2 h3 h4 h5 h6 h7 h8
end Go.Proofs.Ytjiidjlmdibhdaa.P
