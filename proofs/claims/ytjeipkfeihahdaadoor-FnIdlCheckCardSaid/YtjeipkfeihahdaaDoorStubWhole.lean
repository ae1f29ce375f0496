/- The whole law of what is fine, walked with its draw. -/
import Derived.Test.YtjeipkfeihahdaaDoorStubDraw
namespace Go.Proofs.YtjeipkfeihahdaaDoor
open Go.RowKit Go.Proofs.YtjeipkfeihahdaaDoor.P Go.Proofs.YtjeipkfeihahdaaDoor.Lem Go.Proofs.YtjeipkfeihahdaaDoorW.PrintWords Go.Proofs.YtjeipkfeihahdaaDoorW.PrintLast Go.Proofs.YtjeipkfeihahdaaDoorW.PrintMore
theorem whole (A : Option Addr) (c : Nat) (l : List Int) (w : World) (hSB : SBw w) (hl : ∀ x ∈ l, (Lit.int .u8 x).wf = true) (hA : Kd.C (Kd.int .u8) w A l.length l) (hc : l.length ≤ c) :
    Calls Tryd.prog 3 #[.slice A l.length c] w fun e w' => e = .returned (.bool true) ∧ Below w.heap.size w w' :=
  law_calls A c l w hSB (draw_calls A c l w hl hA hc)
end Go.Proofs.YtjeipkfeihahdaaDoor
