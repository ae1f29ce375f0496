/-
  NARROWER THAN 'FOR EVERY INPUT', by the rows' own cells (each row's printed sentence says how): FnExactNodeSame: loops.
  DERIVED. THE GIVEN ROWS OF THIS SEAT. 12 by the template 'for every input the law returns true; each argument reads behind the call as it read before'; 0 by the template 'total and deterministic' (their statements: YtfeodfgjpjddhaaTotals.lean).
  GIVEN WITH THE SEED: the statements are not yours to turn. If you find one false, say at which input.
  Laid BY PROGRAM, IN A SANDBOX (cutbox-rows.mjs): the forced cells as the released guide's own fill.sh prints them over the translation 7aed84385e03850a… (all of the seat's roots in one cut). By AI agents, Wed Nov 11 2026. No macro, syntax, notation, axiom, sorry.
-/
import Derived.Test.YtfeodfgjpjddhaaChecked
import GoSem.Claim
import GoSem.ClaimJoined
import GoSem.ClaimMapViews
import Derived.JoinedTies
import Derived.KernelRfl
namespace Go.Proofs.Ytfeodfgjpjddhaa
/- THE CELL 'sum', in the pinned program and in every row, IS THE sha256 OF THE DUMP (.gsa) THAT YtfeodfgjpjddhaaProg.lean LOADS. Nothing in Lean hashes anything: it is a label: what it is worth is what the hold of that sum in a sandbox is worth. -/
noncomputable def Try.pinned : Pinned := { name := "ytfeodfgjpjddhaa", sum := "7aed84385e03850ac95aadf3af551b9c22516df2be1e03201f15ae0495cab5c9", checked := Try.checked }
namespace Rows
def none {H : Type} : Left H := { results := [], args := [] }

/-- 'laws.FnGetParts': WHATEVER THE INPUT: true; the input reads as it did. -/
def fnGetPartsSpec : ChangeSpec := { name := "fnGetParts", fn := fun _ => fun
  | [d] => { results := [.lit (.bool true)], args := [d] }
  | _ => none }
def fnGetPartsRow : OpenClaim := { program := "ytfeodfgjpjddhaa", sum := "7aed84385e03850ac95aadf3af551b9c22516df2be1e03201f15ae0495cab5c9", func := "loop.example/quoin/laws.FnGetParts", spec := "fnGetParts", apart := false }
def FnGetPartsSaid : Prop := fnGetPartsRow.holds Try.pinned (OpenSpec.ofChange fnGetPartsSpec)

/-- ITS FALSE NEIGHBOUR: 'it returns false'. Refute it at one input. -/
def fnGetPartsWrong : ChangeSpec := { name := "fnGetParts", fn := fun _ => fun
  | [d] => { results := [.lit (.bool false)], args := [d] }
  | _ => none }
def FnGetPartsWrongFalsely : Prop := fnGetPartsRow.holds Try.pinned (OpenSpec.ofChange fnGetPartsWrong)

/-- 'laws.FnPutTwo': WHATEVER THE INPUT: true; the input reads as it did. -/
def fnPutTwoSpec : ChangeSpec := { name := "fnPutTwo", fn := fun _ => fun
  | [d1, d2] => { results := [.lit (.bool true)], args := [d1, d2] }
  | _ => none }
def fnPutTwoRow : OpenClaim := { program := "ytfeodfgjpjddhaa", sum := "7aed84385e03850ac95aadf3af551b9c22516df2be1e03201f15ae0495cab5c9", func := "loop.example/quoin/laws.FnPutTwo", spec := "fnPutTwo", apart := false }
def FnPutTwoSaid : Prop := fnPutTwoRow.holds Try.pinned (OpenSpec.ofChange fnPutTwoSpec)

/-- ITS FALSE NEIGHBOUR: 'it returns false'. Refute it at one input. -/
def fnPutTwoWrong : ChangeSpec := { name := "fnPutTwo", fn := fun _ => fun
  | [d1, d2] => { results := [.lit (.bool false)], args := [d1, d2] }
  | _ => none }
def FnPutTwoWrongFalsely : Prop := fnPutTwoRow.holds Try.pinned (OpenSpec.ofChange fnPutTwoWrong)

/-- 'laws.FnBit': WHATEVER THE INPUT: true; the input reads as it did. -/
def fnBitSpec : ChangeSpec := { name := "fnBit", fn := fun _ => fun
  | [d] => { results := [.lit (.bool true)], args := [d] }
  | _ => none }
def fnBitRow : OpenClaim := { program := "ytfeodfgjpjddhaa", sum := "7aed84385e03850ac95aadf3af551b9c22516df2be1e03201f15ae0495cab5c9", func := "loop.example/quoin/laws.FnBit", spec := "fnBit", apart := false }
def FnBitSaid : Prop := fnBitRow.holds Try.pinned (OpenSpec.ofChange fnBitSpec)

/-- ITS FALSE NEIGHBOUR: 'it returns false'. Refute it at one input. -/
def fnBitWrong : ChangeSpec := { name := "fnBit", fn := fun _ => fun
  | [d] => { results := [.lit (.bool false)], args := [d] }
  | _ => none }
def FnBitWrongFalsely : Prop := fnBitRow.holds Try.pinned (OpenSpec.ofChange fnBitWrong)

/-- 'laws.FnGet': WHATEVER THE INPUT: true; the input reads as it did. -/
def fnGetSpec : ChangeSpec := { name := "fnGet", fn := fun _ => fun
  | [d] => { results := [.lit (.bool true)], args := [d] }
  | _ => none }
def fnGetRow : OpenClaim := { program := "ytfeodfgjpjddhaa", sum := "7aed84385e03850ac95aadf3af551b9c22516df2be1e03201f15ae0495cab5c9", func := "loop.example/quoin/laws.FnGet", spec := "fnGet", apart := false }
def FnGetSaid : Prop := fnGetRow.holds Try.pinned (OpenSpec.ofChange fnGetSpec)

/-- ITS FALSE NEIGHBOUR: 'it returns false'. Refute it at one input. -/
def fnGetWrong : ChangeSpec := { name := "fnGet", fn := fun _ => fun
  | [d] => { results := [.lit (.bool false)], args := [d] }
  | _ => none }
def FnGetWrongFalsely : Prop := fnGetRow.holds Try.pinned (OpenSpec.ofChange fnGetWrong)

/-- 'laws.FnExactTrim': WHATEVER THE INPUT: true; the input reads as it did. -/
def fnExactTrimSpec : ChangeSpec := { name := "fnExactTrim", fn := fun _ => fun
  | [d] => { results := [.lit (.bool true)], args := [d] }
  | _ => none }
def fnExactTrimRow : OpenClaim := { program := "ytfeodfgjpjddhaa", sum := "7aed84385e03850ac95aadf3af551b9c22516df2be1e03201f15ae0495cab5c9", func := "loop.example/quoin/laws.FnExactTrim", spec := "fnExactTrim", inPlace := ["internal/abi.NoEscape", "internal/bytealg.MakeNoZero"], apart := false }
def FnExactTrimSaid : Prop := fnExactTrimRow.holds Try.pinned (OpenSpec.ofChange fnExactTrimSpec)

/-- ITS FALSE NEIGHBOUR: 'it returns false'. Refute it at one input. -/
def fnExactTrimWrong : ChangeSpec := { name := "fnExactTrim", fn := fun _ => fun
  | [d] => { results := [.lit (.bool false)], args := [d] }
  | _ => none }
def FnExactTrimWrongFalsely : Prop := fnExactTrimRow.holds Try.pinned (OpenSpec.ofChange fnExactTrimWrong)

/-- 'laws.FnTrim': WHATEVER THE INPUT: true; the input reads as it did. -/
def fnTrimSpec : ChangeSpec := { name := "fnTrim", fn := fun _ => fun
  | [d] => { results := [.lit (.bool true)], args := [d] }
  | _ => none }
def fnTrimRow : OpenClaim := { program := "ytfeodfgjpjddhaa", sum := "7aed84385e03850ac95aadf3af551b9c22516df2be1e03201f15ae0495cab5c9", func := "loop.example/quoin/laws.FnTrim", spec := "fnTrim", inPlace := ["internal/abi.NoEscape", "internal/bytealg.MakeNoZero"], apart := false }
def FnTrimSaid : Prop := fnTrimRow.holds Try.pinned (OpenSpec.ofChange fnTrimSpec)

/-- ITS FALSE NEIGHBOUR: 'it returns false'. Refute it at one input. -/
def fnTrimWrong : ChangeSpec := { name := "fnTrim", fn := fun _ => fun
  | [d] => { results := [.lit (.bool false)], args := [d] }
  | _ => none }
def FnTrimWrongFalsely : Prop := fnTrimRow.holds Try.pinned (OpenSpec.ofChange fnTrimWrong)

/-- 'laws.FnExactPointGet': WHATEVER THE INPUT: true; the input reads as it did. -/
def fnExactPointGetSpec : ChangeSpec := { name := "fnExactPointGet", fn := fun _ => fun
  | [d] => { results := [.lit (.bool true)], args := [d] }
  | _ => none }
def fnExactPointGetRow : OpenClaim := { program := "ytfeodfgjpjddhaa", sum := "7aed84385e03850ac95aadf3af551b9c22516df2be1e03201f15ae0495cab5c9", func := "loop.example/quoin/laws.FnExactPointGet", spec := "fnExactPointGet", apart := false }
def FnExactPointGetSaid : Prop := fnExactPointGetRow.holds Try.pinned (OpenSpec.ofChange fnExactPointGetSpec)

/-- ITS FALSE NEIGHBOUR: 'it returns false'. Refute it at one input. -/
def fnExactPointGetWrong : ChangeSpec := { name := "fnExactPointGet", fn := fun _ => fun
  | [d] => { results := [.lit (.bool false)], args := [d] }
  | _ => none }
def FnExactPointGetWrongFalsely : Prop := fnExactPointGetRow.holds Try.pinned (OpenSpec.ofChange fnExactPointGetWrong)

/-- 'laws.FnExactPointPut': WHATEVER THE INPUT: true; the input reads as it did. -/
def fnExactPointPutSpec : ChangeSpec := { name := "fnExactPointPut", fn := fun _ => fun
  | [d] => { results := [.lit (.bool true)], args := [d] }
  | _ => none }
def fnExactPointPutRow : OpenClaim := { program := "ytfeodfgjpjddhaa", sum := "7aed84385e03850ac95aadf3af551b9c22516df2be1e03201f15ae0495cab5c9", func := "loop.example/quoin/laws.FnExactPointPut", spec := "fnExactPointPut", apart := false }
def FnExactPointPutSaid : Prop := fnExactPointPutRow.holds Try.pinned (OpenSpec.ofChange fnExactPointPutSpec)

/-- ITS FALSE NEIGHBOUR: 'it returns false'. Refute it at one input. -/
def fnExactPointPutWrong : ChangeSpec := { name := "fnExactPointPut", fn := fun _ => fun
  | [d] => { results := [.lit (.bool false)], args := [d] }
  | _ => none }
def FnExactPointPutWrongFalsely : Prop := fnExactPointPutRow.holds Try.pinned (OpenSpec.ofChange fnExactPointPutWrong)

/-- 'laws.FnPoint': WHATEVER THE INPUT: true; the input reads as it did. -/
def fnPointSpec : ChangeSpec := { name := "fnPoint", fn := fun _ => fun
  | [d1, d2] => { results := [.lit (.bool true)], args := [d1, d2] }
  | _ => none }
def fnPointRow : OpenClaim := { program := "ytfeodfgjpjddhaa", sum := "7aed84385e03850ac95aadf3af551b9c22516df2be1e03201f15ae0495cab5c9", func := "loop.example/quoin/laws.FnPoint", spec := "fnPoint", apart := false }
def FnPointSaid : Prop := fnPointRow.holds Try.pinned (OpenSpec.ofChange fnPointSpec)

/-- ITS FALSE NEIGHBOUR: 'it returns false'. Refute it at one input. -/
def fnPointWrong : ChangeSpec := { name := "fnPoint", fn := fun _ => fun
  | [d1, d2] => { results := [.lit (.bool false)], args := [d1, d2] }
  | _ => none }
def FnPointWrongFalsely : Prop := fnPointRow.holds Try.pinned (OpenSpec.ofChange fnPointWrong)

/-- 'laws.FnExactNodeSame': WHATEVER THE INPUT: true; the input reads as it did. -/
def fnExactNodeSameSpec : ChangeSpec := { name := "fnExactNodeSame", fn := fun _ => fun
  | [d1, d2] => { results := [.lit (.bool true)], args := [d1, d2] }
  | _ => none }
def fnExactNodeSameRow : OpenClaim := { program := "ytfeodfgjpjddhaa", sum := "7aed84385e03850ac95aadf3af551b9c22516df2be1e03201f15ae0495cab5c9", func := "loop.example/quoin/laws.FnExactNodeSame", spec := "fnExactNodeSame", unfollowed := true, recurses := true, loops := true, apart := false }
def FnExactNodeSameSaid : Prop := fnExactNodeSameRow.holds Try.pinned (OpenSpec.ofChange fnExactNodeSameSpec)

/-- ITS FALSE NEIGHBOUR: 'it returns false'. Refute it at one input. -/
def fnExactNodeSameWrong : ChangeSpec := { name := "fnExactNodeSame", fn := fun _ => fun
  | [d1, d2] => { results := [.lit (.bool false)], args := [d1, d2] }
  | _ => none }
def FnExactNodeSameWrongFalsely : Prop := fnExactNodeSameRow.holds Try.pinned (OpenSpec.ofChange fnExactNodeSameWrong)

/-- 'laws.FnNodeSame': WHATEVER THE INPUT: true; the input reads as it did. -/
def fnNodeSameSpec : ChangeSpec := { name := "fnNodeSame", fn := fun _ => fun
  | [d] => { results := [.lit (.bool true)], args := [d] }
  | _ => none }
def fnNodeSameRow : OpenClaim := { program := "ytfeodfgjpjddhaa", sum := "7aed84385e03850ac95aadf3af551b9c22516df2be1e03201f15ae0495cab5c9", func := "loop.example/quoin/laws.FnNodeSame", spec := "fnNodeSame", unfollowed := true, recurses := true, apart := false }
def FnNodeSameSaid : Prop := fnNodeSameRow.holds Try.pinned (OpenSpec.ofChange fnNodeSameSpec)

/-- ITS FALSE NEIGHBOUR: 'it returns false'. Refute it at one input. -/
def fnNodeSameWrong : ChangeSpec := { name := "fnNodeSame", fn := fun _ => fun
  | [d] => { results := [.lit (.bool false)], args := [d] }
  | _ => none }
def FnNodeSameWrongFalsely : Prop := fnNodeSameRow.holds Try.pinned (OpenSpec.ofChange fnNodeSameWrong)

/-- 'laws.FnExactTextNode': WHATEVER THE INPUT: true; the input reads as it did. -/
def fnExactTextNodeSpec : ChangeSpec := { name := "fnExactTextNode", fn := fun _ => fun
  | [d] => { results := [.lit (.bool true)], args := [d] }
  | _ => none }
def fnExactTextNodeRow : OpenClaim := { program := "ytfeodfgjpjddhaa", sum := "7aed84385e03850ac95aadf3af551b9c22516df2be1e03201f15ae0495cab5c9", func := "loop.example/quoin/laws.FnExactTextNode", spec := "fnExactTextNode", inPlace := ["internal/bytealg.IndexByteString", "internal/bytealg.IndexString"], recurses := true, named := ["internal/bytealg.MaxLen"], apart := false }
def FnExactTextNodeSaid : Prop := fnExactTextNodeRow.holds Try.pinned (OpenSpec.ofChange fnExactTextNodeSpec)

/-- ITS FALSE NEIGHBOUR: 'it returns false'. Refute it at one input. -/
def fnExactTextNodeWrong : ChangeSpec := { name := "fnExactTextNode", fn := fun _ => fun
  | [d] => { results := [.lit (.bool false)], args := [d] }
  | _ => none }
def FnExactTextNodeWrongFalsely : Prop := fnExactTextNodeRow.holds Try.pinned (OpenSpec.ofChange fnExactTextNodeWrong)

/- THE SECOND FORM. 'bulk': how many values and letters a reading holds, each counted each time it is reached (what is shared counts as often as it is met; a slice's spare places count too). A statement '..UptoSaid' is the law's where the arguments, and the package variables that the reading takes, are together of bulk at most 1048576: NARROWER than '..Said'. Prove '..Said' where nothing that the law and all that it calls make is longer than what came in: it says more and counts as full. Else prove '..UptoSaid'. A law counts once. -/
mutual
def uptoBulk {H : Type} : DataW H → Nat
  | .lit (.string bytes) => bytes.length + 1
  | .lit _ => 1
  | .nil => 1
  | .ptr d => uptoBulk d + 1
  | .slice elems spare => uptoBulkAll elems + uptoBulkAll spare + 1
  | .agg parts => uptoBulkAll parts + 1
  | .iface _ d => uptoBulk d + 1
  | .map entries => uptoBulkEntries entries + 1
  | .held _ => 1
def uptoBulkAll {H : Type} : List (DataW H) → Nat
  | [] => 0
  | d :: r => uptoBulk d + uptoBulkAll r
def uptoBulkEntries {H : Type} : List (Lit × DataW H) → Nat
  | [] => 0
  | x :: r => uptoBulkEntry x + uptoBulkEntries r
def uptoBulkEntry {H : Type} : Lit × DataW H → Nat
  | (.string bytes, d) => bytes.length + uptoBulk d + 1
  | (_, d) => uptoBulk d + 1
 end
def uptoSmall : (H : Type) → List (DataW H) → Bool := fun _ ds => decide (uptoBulkAll ds ≤ 1048576)
def OpenSpec.upto (s : _root_.Go.ChangeSpec) : _root_.Go.OpenSpec := { _root_.Go.OpenSpec.ofChange s with cond := some uptoSmall }

/-- 'laws.FnGetParts', WHERE WHAT IT READS IS OF BULK AT MOST 1048576: true; the input reads as it did. -/
def fnGetPartsUptoRow : OpenClaim := { program := "ytfeodfgjpjddhaa", sum := "7aed84385e03850ac95aadf3af551b9c22516df2be1e03201f15ae0495cab5c9", func := "loop.example/quoin/laws.FnGetParts", spec := "fnGetParts", apart := false, narrowed := true }
def FnGetPartsUptoSaid : Prop := fnGetPartsUptoRow.holds Try.pinned (OpenSpec.upto fnGetPartsSpec)

/-- 'laws.FnPutTwo', WHERE WHAT IT READS IS OF BULK AT MOST 1048576: true; the input reads as it did. -/
def fnPutTwoUptoRow : OpenClaim := { program := "ytfeodfgjpjddhaa", sum := "7aed84385e03850ac95aadf3af551b9c22516df2be1e03201f15ae0495cab5c9", func := "loop.example/quoin/laws.FnPutTwo", spec := "fnPutTwo", apart := false, narrowed := true }
def FnPutTwoUptoSaid : Prop := fnPutTwoUptoRow.holds Try.pinned (OpenSpec.upto fnPutTwoSpec)

/-- 'laws.FnBit', WHERE WHAT IT READS IS OF BULK AT MOST 1048576: true; the input reads as it did. -/
def fnBitUptoRow : OpenClaim := { program := "ytfeodfgjpjddhaa", sum := "7aed84385e03850ac95aadf3af551b9c22516df2be1e03201f15ae0495cab5c9", func := "loop.example/quoin/laws.FnBit", spec := "fnBit", apart := false, narrowed := true }
def FnBitUptoSaid : Prop := fnBitUptoRow.holds Try.pinned (OpenSpec.upto fnBitSpec)

/-- 'laws.FnGet', WHERE WHAT IT READS IS OF BULK AT MOST 1048576: true; the input reads as it did. -/
def fnGetUptoRow : OpenClaim := { program := "ytfeodfgjpjddhaa", sum := "7aed84385e03850ac95aadf3af551b9c22516df2be1e03201f15ae0495cab5c9", func := "loop.example/quoin/laws.FnGet", spec := "fnGet", apart := false, narrowed := true }
def FnGetUptoSaid : Prop := fnGetUptoRow.holds Try.pinned (OpenSpec.upto fnGetSpec)

/-- 'laws.FnExactTrim', WHERE WHAT IT READS IS OF BULK AT MOST 1048576: true; the input reads as it did. -/
def fnExactTrimUptoRow : OpenClaim := { program := "ytfeodfgjpjddhaa", sum := "7aed84385e03850ac95aadf3af551b9c22516df2be1e03201f15ae0495cab5c9", func := "loop.example/quoin/laws.FnExactTrim", spec := "fnExactTrim", inPlace := ["internal/abi.NoEscape", "internal/bytealg.MakeNoZero"], apart := false, narrowed := true }
def FnExactTrimUptoSaid : Prop := fnExactTrimUptoRow.holds Try.pinned (OpenSpec.upto fnExactTrimSpec)

/-- 'laws.FnTrim', WHERE WHAT IT READS IS OF BULK AT MOST 1048576: true; the input reads as it did. -/
def fnTrimUptoRow : OpenClaim := { program := "ytfeodfgjpjddhaa", sum := "7aed84385e03850ac95aadf3af551b9c22516df2be1e03201f15ae0495cab5c9", func := "loop.example/quoin/laws.FnTrim", spec := "fnTrim", inPlace := ["internal/abi.NoEscape", "internal/bytealg.MakeNoZero"], apart := false, narrowed := true }
def FnTrimUptoSaid : Prop := fnTrimUptoRow.holds Try.pinned (OpenSpec.upto fnTrimSpec)

/-- 'laws.FnExactPointGet', WHERE WHAT IT READS IS OF BULK AT MOST 1048576: true; the input reads as it did. -/
def fnExactPointGetUptoRow : OpenClaim := { program := "ytfeodfgjpjddhaa", sum := "7aed84385e03850ac95aadf3af551b9c22516df2be1e03201f15ae0495cab5c9", func := "loop.example/quoin/laws.FnExactPointGet", spec := "fnExactPointGet", apart := false, narrowed := true }
def FnExactPointGetUptoSaid : Prop := fnExactPointGetUptoRow.holds Try.pinned (OpenSpec.upto fnExactPointGetSpec)

/-- 'laws.FnExactPointPut', WHERE WHAT IT READS IS OF BULK AT MOST 1048576: true; the input reads as it did. -/
def fnExactPointPutUptoRow : OpenClaim := { program := "ytfeodfgjpjddhaa", sum := "7aed84385e03850ac95aadf3af551b9c22516df2be1e03201f15ae0495cab5c9", func := "loop.example/quoin/laws.FnExactPointPut", spec := "fnExactPointPut", apart := false, narrowed := true }
def FnExactPointPutUptoSaid : Prop := fnExactPointPutUptoRow.holds Try.pinned (OpenSpec.upto fnExactPointPutSpec)

/-- 'laws.FnPoint', WHERE WHAT IT READS IS OF BULK AT MOST 1048576: true; the input reads as it did. -/
def fnPointUptoRow : OpenClaim := { program := "ytfeodfgjpjddhaa", sum := "7aed84385e03850ac95aadf3af551b9c22516df2be1e03201f15ae0495cab5c9", func := "loop.example/quoin/laws.FnPoint", spec := "fnPoint", apart := false, narrowed := true }
def FnPointUptoSaid : Prop := fnPointUptoRow.holds Try.pinned (OpenSpec.upto fnPointSpec)

/-- 'laws.FnExactNodeSame', WHERE WHAT IT READS IS OF BULK AT MOST 1048576: true; the input reads as it did. -/
def fnExactNodeSameUptoRow : OpenClaim := { program := "ytfeodfgjpjddhaa", sum := "7aed84385e03850ac95aadf3af551b9c22516df2be1e03201f15ae0495cab5c9", func := "loop.example/quoin/laws.FnExactNodeSame", spec := "fnExactNodeSame", unfollowed := true, recurses := true, loops := true, apart := false, narrowed := true }
def FnExactNodeSameUptoSaid : Prop := fnExactNodeSameUptoRow.holds Try.pinned (OpenSpec.upto fnExactNodeSameSpec)

/-- 'laws.FnNodeSame', WHERE WHAT IT READS IS OF BULK AT MOST 1048576: true; the input reads as it did. -/
def fnNodeSameUptoRow : OpenClaim := { program := "ytfeodfgjpjddhaa", sum := "7aed84385e03850ac95aadf3af551b9c22516df2be1e03201f15ae0495cab5c9", func := "loop.example/quoin/laws.FnNodeSame", spec := "fnNodeSame", unfollowed := true, recurses := true, apart := false, narrowed := true }
def FnNodeSameUptoSaid : Prop := fnNodeSameUptoRow.holds Try.pinned (OpenSpec.upto fnNodeSameSpec)

/-- 'laws.FnExactTextNode', WHERE WHAT IT READS IS OF BULK AT MOST 1048576: true; the input reads as it did. -/
def fnExactTextNodeUptoRow : OpenClaim := { program := "ytfeodfgjpjddhaa", sum := "7aed84385e03850ac95aadf3af551b9c22516df2be1e03201f15ae0495cab5c9", func := "loop.example/quoin/laws.FnExactTextNode", spec := "fnExactTextNode", inPlace := ["internal/bytealg.IndexByteString", "internal/bytealg.IndexString"], recurses := true, named := ["internal/bytealg.MaxLen"], apart := false, narrowed := true }
def FnExactTextNodeUptoSaid : Prop := fnExactTextNodeUptoRow.holds Try.pinned (OpenSpec.upto fnExactTextNodeSpec)

end Rows
end Go.Proofs.Ytfeodfgjpjddhaa
