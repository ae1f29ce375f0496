import Derived.Test.YtdlalhphephgeaaDoorLemListWords
import Derived.Test.YtdlalhphephgeaaDoorPx2
namespace Go.Proofs.YtdlalhphephgeaaDoor.Pure
set_option linter.unusedVariables false
open Go.RowKit Go.Proofs.YtdlalhphephgeaaDoor.P Go.Proofs.YtdlalhphephgeaaDoor.Lem Go.Proofs.YtdlalhphephgeaaDoorW.PrintWords Go.Proofs.YtdlalhphephgeaaDoorW.PrintLast
theorem FnExactListWords : laws_FnExactListWords.Pure := by
  intro a0 a1 h0 h1
  unfold laws_FnExactListWords.f
  rw [spec_words, impl_words]
  simp
end Go.Proofs.YtdlalhphephgeaaDoor.Pure
