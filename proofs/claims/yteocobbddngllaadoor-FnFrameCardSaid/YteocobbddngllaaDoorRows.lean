/-
  NARROWER THAN 'FOR EVERY INPUT', by the rows' own cells (each row's printed sentence says how): FnExactPack: laid · FnFramePart: laid · FnFrameTwo: laid · FnFrame: laid · FnPackJoin: laid · FnPackZero: laid · FnPack: laid · FnUnpack: laid.
  DERIVED. THE GIVEN ROWS OF THIS SEAT. 8 by the template 'for every input the law returns true; each argument reads behind the call as it read before'; 0 by the template 'total and deterministic' (their statements: YteocobbddngllaaDoorTotals.lean).
  GIVEN WITH THE SEED: the statements are not yours to turn. If you find one false, say at which input.
  Laid BY PROGRAM, IN A SANDBOX (cutbox-rows.mjs): the forced cells as the released guide's own fill.sh prints them over the translation d6e2c33179140886… (all of the seat's roots in one cut). By AI agents, Wed Nov 11 2026. No macro, syntax, notation, axiom, sorry.
-/
import Derived.Test.YteocobbddngllaaDoorChecked
import GoSem.PinnedTables
import GoSem.Claim
import GoSem.ClaimJoined
import GoSem.ClaimMapViews
import Derived.JoinedTies
import Derived.KernelRfl
namespace Go.Proofs.YteocobbddngllaaDoor
/- THE CELL 'sum', in the pinned program and in every row, IS THE sha256 OF THE DUMP (.gsa) THAT YteocobbddngllaaDoorProg.lean LOADS. Nothing in Lean hashes anything: it is a label: what it is worth is what the hold of that sum in a sandbox is worth. -/
noncomputable def Tryd.pinned : Pinned := { name := "yteocobbddngllaadoor", sum := "d6e2c331791408863878d9adeba7c53a5bbeac1df0fddc986afa247ebbf85155", checked := Tryd.checked }
namespace Rows
def none {H : Type} : Left H := { results := [], args := [] }

/- WHAT THE LISTED PACKAGE-LEVEL VARIABLES READ AS WHEN THE CALL BEGINS. Each datum BY PROGRAM (the guide's laid-datum.mjs) off the statement by which the dump's own 'gosem.cut.vars' lays the variable. In a bare row this is a premise. The card (YteocobbddngllaaDoorCards.lean) ties it to the program's text. -/
def laid_unicode_utf8_acceptRanges {H : Type} : DataW H := .agg [.agg [.lit (.int .u8 128), .lit (.int .u8 191)], .agg [.lit (.int .u8 160), .lit (.int .u8 191)], .agg [.lit (.int .u8 128), .lit (.int .u8 159)], .agg [.lit (.int .u8 144), .lit (.int .u8 191)], .agg [.lit (.int .u8 128), .lit (.int .u8 143)], .agg [.lit (.int .u8 0), .lit (.int .u8 0)], .agg [.lit (.int .u8 0), .lit (.int .u8 0)], .agg [.lit (.int .u8 0), .lit (.int .u8 0)], .agg [.lit (.int .u8 0), .lit (.int .u8 0)], .agg [.lit (.int .u8 0), .lit (.int .u8 0)], .agg [.lit (.int .u8 0), .lit (.int .u8 0)], .agg [.lit (.int .u8 0), .lit (.int .u8 0)], .agg [.lit (.int .u8 0), .lit (.int .u8 0)], .agg [.lit (.int .u8 0), .lit (.int .u8 0)], .agg [.lit (.int .u8 0), .lit (.int .u8 0)], .agg [.lit (.int .u8 0), .lit (.int .u8 0)]]
/-- One of Go's own tables, pinned by name: the form's constant. -/
def laid_unicode_utf8_first : DataW Unit := Go.Pinned.utf8First

/-- 'laws.FnExactPack': WHATEVER THE INPUT: true; the input reads as it did. -/
def fnExactPackSpec : ChangeSpec := { name := "fnExactPack", fn := fun _ => fun
  | [d] => { results := [.lit (.bool true)], args := [d] }
  | _ => none }
def fnExactPackRow : OpenClaim := { program := "yteocobbddngllaadoor", sum := "d6e2c331791408863878d9adeba7c53a5bbeac1df0fddc986afa247ebbf85155", func := "loop.example/quoin/laws.FnExactPack", spec := "fnExactPack", inPlace := ["internal/abi.NoEscape", "internal/bytealg.CountString", "internal/bytealg.IndexByteString", "internal/bytealg.IndexString", "internal/bytealg.MakeNoZero"], unfollowed := true, recurses := true, named := ["internal/bytealg.MaxLen", "unicode/utf8.first", "unicode/utf8.acceptRanges"], apart := false, laid := [("unicode/utf8.acceptRanges", laid_unicode_utf8_acceptRanges), ("unicode/utf8.first", laid_unicode_utf8_first)] }
def FnExactPackSaid : Prop := fnExactPackRow.holds Tryd.pinned (OpenSpec.ofChange fnExactPackSpec)

/-- ITS FALSE NEIGHBOUR: 'it returns false'. Refute it at one input. -/
def fnExactPackWrong : ChangeSpec := { name := "fnExactPack", fn := fun _ => fun
  | [d] => { results := [.lit (.bool false)], args := [d] }
  | _ => none }
def FnExactPackWrongFalsely : Prop := fnExactPackRow.holds Tryd.pinned (OpenSpec.ofChange fnExactPackWrong)

/-- 'laws.FnFramePart': WHATEVER THE INPUT: true; the input reads as it did. -/
def fnFramePartSpec : ChangeSpec := { name := "fnFramePart", fn := fun _ => fun
  | [d1, d2] => { results := [.lit (.bool true)], args := [d1, d2] }
  | _ => none }
def fnFramePartRow : OpenClaim := { program := "yteocobbddngllaadoor", sum := "d6e2c331791408863878d9adeba7c53a5bbeac1df0fddc986afa247ebbf85155", func := "loop.example/quoin/laws.FnFramePart", spec := "fnFramePart", inPlace := ["internal/abi.NoEscape", "internal/bytealg.IndexByteString", "internal/bytealg.IndexString"], named := ["unicode/utf8.first", "unicode/utf8.acceptRanges", "internal/bytealg.MaxLen"], apart := false, laid := [("unicode/utf8.acceptRanges", laid_unicode_utf8_acceptRanges), ("unicode/utf8.first", laid_unicode_utf8_first)] }
def FnFramePartSaid : Prop := fnFramePartRow.holds Tryd.pinned (OpenSpec.ofChange fnFramePartSpec)

/-- ITS FALSE NEIGHBOUR: 'it returns false'. Refute it at one input. -/
def fnFramePartWrong : ChangeSpec := { name := "fnFramePart", fn := fun _ => fun
  | [d1, d2] => { results := [.lit (.bool false)], args := [d1, d2] }
  | _ => none }
def FnFramePartWrongFalsely : Prop := fnFramePartRow.holds Tryd.pinned (OpenSpec.ofChange fnFramePartWrong)

/-- 'laws.FnFrameTwo': WHATEVER THE INPUT: true; the input reads as it did. -/
def fnFrameTwoSpec : ChangeSpec := { name := "fnFrameTwo", fn := fun _ => fun
  | [d1, d2] => { results := [.lit (.bool true)], args := [d1, d2] }
  | _ => none }
def fnFrameTwoRow : OpenClaim := { program := "yteocobbddngllaadoor", sum := "d6e2c331791408863878d9adeba7c53a5bbeac1df0fddc986afa247ebbf85155", func := "loop.example/quoin/laws.FnFrameTwo", spec := "fnFrameTwo", inPlace := ["internal/abi.NoEscape", "internal/bytealg.IndexByteString", "internal/bytealg.IndexString"], named := ["unicode/utf8.first", "unicode/utf8.acceptRanges", "internal/bytealg.MaxLen"], apart := false, laid := [("unicode/utf8.acceptRanges", laid_unicode_utf8_acceptRanges), ("unicode/utf8.first", laid_unicode_utf8_first)] }
def FnFrameTwoSaid : Prop := fnFrameTwoRow.holds Tryd.pinned (OpenSpec.ofChange fnFrameTwoSpec)

/-- ITS FALSE NEIGHBOUR: 'it returns false'. Refute it at one input. -/
def fnFrameTwoWrong : ChangeSpec := { name := "fnFrameTwo", fn := fun _ => fun
  | [d1, d2] => { results := [.lit (.bool false)], args := [d1, d2] }
  | _ => none }
def FnFrameTwoWrongFalsely : Prop := fnFrameTwoRow.holds Tryd.pinned (OpenSpec.ofChange fnFrameTwoWrong)

/-- 'laws.FnFrame': WHATEVER THE INPUT: true; the input reads as it did. -/
def fnFrameSpec : ChangeSpec := { name := "fnFrame", fn := fun _ => fun
  | [d1, d2] => { results := [.lit (.bool true)], args := [d1, d2] }
  | _ => none }
def fnFrameRow : OpenClaim := { program := "yteocobbddngllaadoor", sum := "d6e2c331791408863878d9adeba7c53a5bbeac1df0fddc986afa247ebbf85155", func := "loop.example/quoin/laws.FnFrame", spec := "fnFrame", inPlace := ["internal/abi.NoEscape", "internal/bytealg.IndexByteString", "internal/bytealg.IndexString"], named := ["unicode/utf8.first", "unicode/utf8.acceptRanges", "internal/bytealg.MaxLen"], apart := false, laid := [("unicode/utf8.acceptRanges", laid_unicode_utf8_acceptRanges), ("unicode/utf8.first", laid_unicode_utf8_first)] }
def FnFrameSaid : Prop := fnFrameRow.holds Tryd.pinned (OpenSpec.ofChange fnFrameSpec)

/-- ITS FALSE NEIGHBOUR: 'it returns false'. Refute it at one input. -/
def fnFrameWrong : ChangeSpec := { name := "fnFrame", fn := fun _ => fun
  | [d1, d2] => { results := [.lit (.bool false)], args := [d1, d2] }
  | _ => none }
def FnFrameWrongFalsely : Prop := fnFrameRow.holds Tryd.pinned (OpenSpec.ofChange fnFrameWrong)

/-- 'laws.FnPackJoin': WHATEVER THE INPUT: true; the input reads as it did. -/
def fnPackJoinSpec : ChangeSpec := { name := "fnPackJoin", fn := fun _ => fun
  | [d1, d2] => { results := [.lit (.bool true)], args := [d1, d2] }
  | _ => none }
def fnPackJoinRow : OpenClaim := { program := "yteocobbddngllaadoor", sum := "d6e2c331791408863878d9adeba7c53a5bbeac1df0fddc986afa247ebbf85155", func := "loop.example/quoin/laws.FnPackJoin", spec := "fnPackJoin", inPlace := ["internal/abi.NoEscape", "internal/bytealg.CountString", "internal/bytealg.IndexByteString", "internal/bytealg.IndexString", "internal/bytealg.MakeNoZero"], unfollowed := true, recurses := true, named := ["internal/bytealg.MaxLen", "unicode/utf8.first", "unicode/utf8.acceptRanges"], apart := false, laid := [("unicode/utf8.acceptRanges", laid_unicode_utf8_acceptRanges), ("unicode/utf8.first", laid_unicode_utf8_first)] }
def FnPackJoinSaid : Prop := fnPackJoinRow.holds Tryd.pinned (OpenSpec.ofChange fnPackJoinSpec)

/-- ITS FALSE NEIGHBOUR: 'it returns false'. Refute it at one input. -/
def fnPackJoinWrong : ChangeSpec := { name := "fnPackJoin", fn := fun _ => fun
  | [d1, d2] => { results := [.lit (.bool false)], args := [d1, d2] }
  | _ => none }
def FnPackJoinWrongFalsely : Prop := fnPackJoinRow.holds Tryd.pinned (OpenSpec.ofChange fnPackJoinWrong)

/-- 'laws.FnPackZero': WHATEVER THE INPUT: true; the input reads as it did. -/
def fnPackZeroSpec : ChangeSpec := { name := "fnPackZero", fn := fun _ => fun
  | [d] => { results := [.lit (.bool true)], args := [d] }
  | _ => none }
def fnPackZeroRow : OpenClaim := { program := "yteocobbddngllaadoor", sum := "d6e2c331791408863878d9adeba7c53a5bbeac1df0fddc986afa247ebbf85155", func := "loop.example/quoin/laws.FnPackZero", spec := "fnPackZero", inPlace := ["internal/abi.NoEscape", "internal/bytealg.CountString", "internal/bytealg.IndexByteString", "internal/bytealg.IndexString", "internal/bytealg.MakeNoZero"], unfollowed := true, recurses := true, named := ["internal/bytealg.MaxLen", "unicode/utf8.first", "unicode/utf8.acceptRanges"], apart := false, laid := [("unicode/utf8.acceptRanges", laid_unicode_utf8_acceptRanges), ("unicode/utf8.first", laid_unicode_utf8_first)] }
def FnPackZeroSaid : Prop := fnPackZeroRow.holds Tryd.pinned (OpenSpec.ofChange fnPackZeroSpec)

/-- ITS FALSE NEIGHBOUR: 'it returns false'. Refute it at one input. -/
def fnPackZeroWrong : ChangeSpec := { name := "fnPackZero", fn := fun _ => fun
  | [d] => { results := [.lit (.bool false)], args := [d] }
  | _ => none }
def FnPackZeroWrongFalsely : Prop := fnPackZeroRow.holds Tryd.pinned (OpenSpec.ofChange fnPackZeroWrong)

/-- 'laws.FnPack': WHATEVER THE INPUT: true; the input reads as it did. -/
def fnPackSpec : ChangeSpec := { name := "fnPack", fn := fun _ => fun
  | [d] => { results := [.lit (.bool true)], args := [d] }
  | _ => none }
def fnPackRow : OpenClaim := { program := "yteocobbddngllaadoor", sum := "d6e2c331791408863878d9adeba7c53a5bbeac1df0fddc986afa247ebbf85155", func := "loop.example/quoin/laws.FnPack", spec := "fnPack", inPlace := ["internal/abi.NoEscape", "internal/bytealg.CountString", "internal/bytealg.IndexByteString", "internal/bytealg.IndexString", "internal/bytealg.MakeNoZero"], unfollowed := true, recurses := true, named := ["internal/bytealg.MaxLen", "unicode/utf8.first", "unicode/utf8.acceptRanges"], apart := false, laid := [("unicode/utf8.acceptRanges", laid_unicode_utf8_acceptRanges), ("unicode/utf8.first", laid_unicode_utf8_first)] }
def FnPackSaid : Prop := fnPackRow.holds Tryd.pinned (OpenSpec.ofChange fnPackSpec)

/-- ITS FALSE NEIGHBOUR: 'it returns false'. Refute it at one input. -/
def fnPackWrong : ChangeSpec := { name := "fnPack", fn := fun _ => fun
  | [d] => { results := [.lit (.bool false)], args := [d] }
  | _ => none }
def FnPackWrongFalsely : Prop := fnPackRow.holds Tryd.pinned (OpenSpec.ofChange fnPackWrong)

/-- 'laws.FnUnpack': WHATEVER THE INPUT: true; the input reads as it did. -/
def fnUnpackSpec : ChangeSpec := { name := "fnUnpack", fn := fun _ => fun
  | [d] => { results := [.lit (.bool true)], args := [d] }
  | _ => none }
def fnUnpackRow : OpenClaim := { program := "yteocobbddngllaadoor", sum := "d6e2c331791408863878d9adeba7c53a5bbeac1df0fddc986afa247ebbf85155", func := "loop.example/quoin/laws.FnUnpack", spec := "fnUnpack", inPlace := ["internal/abi.NoEscape", "internal/bytealg.MakeNoZero", "internal/bytealg.CountString", "internal/bytealg.IndexByteString", "internal/bytealg.IndexString"], unfollowed := true, recurses := true, named := ["internal/bytealg.MaxLen", "unicode/utf8.first", "unicode/utf8.acceptRanges"], apart := false, laid := [("unicode/utf8.acceptRanges", laid_unicode_utf8_acceptRanges), ("unicode/utf8.first", laid_unicode_utf8_first)] }
def FnUnpackSaid : Prop := fnUnpackRow.holds Tryd.pinned (OpenSpec.ofChange fnUnpackSpec)

/-- ITS FALSE NEIGHBOUR: 'it returns false'. Refute it at one input. -/
def fnUnpackWrong : ChangeSpec := { name := "fnUnpack", fn := fun _ => fun
  | [d] => { results := [.lit (.bool false)], args := [d] }
  | _ => none }
def FnUnpackWrongFalsely : Prop := fnUnpackRow.holds Tryd.pinned (OpenSpec.ofChange fnUnpackWrong)

/- THE SECOND FORM. 'bulk': how many values and letters a reading holds, each counted each time it is reached (what is shared counts as often as it is met; a slice's spare places count too). A statement '..UptoSaid' is the law's where the arguments, and the package variables that the reading takes, are together of bulk at most 1048576: NARROWER than '..Said'. Prove '..Said' where nothing that the law and all that it calls make is longer than what came in: it says more and counts as full. Else prove '..UptoSaid'. A law counts once. -/
mutual
def uptoBulk {H : Type} : DataW H → Nat
  | .lit (.string bytes) => bytes.length + 1
  | .lit _ => 1
  | .nil => 1
  | .ptr d => uptoBulk d + 1
  | .slice elems spare => uptoBulkAll elems + uptoBulkAll spare + 1
  | .agg parts => uptoBulkAll parts + 1
  | .iface _ d => uptoBulk d + 1
  | .map entries => uptoBulkEntries entries + 1
  | .held _ => 1
def uptoBulkAll {H : Type} : List (DataW H) → Nat
  | [] => 0
  | d :: r => uptoBulk d + uptoBulkAll r
def uptoBulkEntries {H : Type} : List (Lit × DataW H) → Nat
  | [] => 0
  | x :: r => uptoBulkEntry x + uptoBulkEntries r
def uptoBulkEntry {H : Type} : Lit × DataW H → Nat
  | (.string bytes, d) => bytes.length + uptoBulk d + 1
  | (_, d) => uptoBulk d + 1
 end
def uptoSmall : (H : Type) → List (DataW H) → Bool := fun _ ds => decide (uptoBulkAll ds ≤ 1048576)
def OpenSpec.upto (s : _root_.Go.ChangeSpec) : _root_.Go.OpenSpec := { _root_.Go.OpenSpec.ofChange s with cond := some uptoSmall }

/-- 'laws.FnExactPack', WHERE WHAT IT READS IS OF BULK AT MOST 1048576: true; the input reads as it did. -/
def fnExactPackUptoRow : OpenClaim := { program := "yteocobbddngllaadoor", sum := "d6e2c331791408863878d9adeba7c53a5bbeac1df0fddc986afa247ebbf85155", func := "loop.example/quoin/laws.FnExactPack", spec := "fnExactPack", inPlace := ["internal/abi.NoEscape", "internal/bytealg.CountString", "internal/bytealg.IndexByteString", "internal/bytealg.IndexString", "internal/bytealg.MakeNoZero"], unfollowed := true, recurses := true, named := ["internal/bytealg.MaxLen", "unicode/utf8.first", "unicode/utf8.acceptRanges"], apart := false, laid := [("unicode/utf8.acceptRanges", laid_unicode_utf8_acceptRanges), ("unicode/utf8.first", laid_unicode_utf8_first)], narrowed := true }
def FnExactPackUptoSaid : Prop := fnExactPackUptoRow.holds Tryd.pinned (OpenSpec.upto fnExactPackSpec)

/-- 'laws.FnFramePart', WHERE WHAT IT READS IS OF BULK AT MOST 1048576: true; the input reads as it did. -/
def fnFramePartUptoRow : OpenClaim := { program := "yteocobbddngllaadoor", sum := "d6e2c331791408863878d9adeba7c53a5bbeac1df0fddc986afa247ebbf85155", func := "loop.example/quoin/laws.FnFramePart", spec := "fnFramePart", inPlace := ["internal/abi.NoEscape", "internal/bytealg.IndexByteString", "internal/bytealg.IndexString"], named := ["unicode/utf8.first", "unicode/utf8.acceptRanges", "internal/bytealg.MaxLen"], apart := false, laid := [("unicode/utf8.acceptRanges", laid_unicode_utf8_acceptRanges), ("unicode/utf8.first", laid_unicode_utf8_first)], narrowed := true }
def FnFramePartUptoSaid : Prop := fnFramePartUptoRow.holds Tryd.pinned (OpenSpec.upto fnFramePartSpec)

/-- 'laws.FnFrameTwo', WHERE WHAT IT READS IS OF BULK AT MOST 1048576: true; the input reads as it did. -/
def fnFrameTwoUptoRow : OpenClaim := { program := "yteocobbddngllaadoor", sum := "d6e2c331791408863878d9adeba7c53a5bbeac1df0fddc986afa247ebbf85155", func := "loop.example/quoin/laws.FnFrameTwo", spec := "fnFrameTwo", inPlace := ["internal/abi.NoEscape", "internal/bytealg.IndexByteString", "internal/bytealg.IndexString"], named := ["unicode/utf8.first", "unicode/utf8.acceptRanges", "internal/bytealg.MaxLen"], apart := false, laid := [("unicode/utf8.acceptRanges", laid_unicode_utf8_acceptRanges), ("unicode/utf8.first", laid_unicode_utf8_first)], narrowed := true }
def FnFrameTwoUptoSaid : Prop := fnFrameTwoUptoRow.holds Tryd.pinned (OpenSpec.upto fnFrameTwoSpec)

/-- 'laws.FnFrame', WHERE WHAT IT READS IS OF BULK AT MOST 1048576: true; the input reads as it did. -/
def fnFrameUptoRow : OpenClaim := { program := "yteocobbddngllaadoor", sum := "d6e2c331791408863878d9adeba7c53a5bbeac1df0fddc986afa247ebbf85155", func := "loop.example/quoin/laws.FnFrame", spec := "fnFrame", inPlace := ["internal/abi.NoEscape", "internal/bytealg.IndexByteString", "internal/bytealg.IndexString"], named := ["unicode/utf8.first", "unicode/utf8.acceptRanges", "internal/bytealg.MaxLen"], apart := false, laid := [("unicode/utf8.acceptRanges", laid_unicode_utf8_acceptRanges), ("unicode/utf8.first", laid_unicode_utf8_first)], narrowed := true }
def FnFrameUptoSaid : Prop := fnFrameUptoRow.holds Tryd.pinned (OpenSpec.upto fnFrameSpec)

/-- 'laws.FnPackJoin', WHERE WHAT IT READS IS OF BULK AT MOST 1048576: true; the input reads as it did. -/
def fnPackJoinUptoRow : OpenClaim := { program := "yteocobbddngllaadoor", sum := "d6e2c331791408863878d9adeba7c53a5bbeac1df0fddc986afa247ebbf85155", func := "loop.example/quoin/laws.FnPackJoin", spec := "fnPackJoin", inPlace := ["internal/abi.NoEscape", "internal/bytealg.CountString", "internal/bytealg.IndexByteString", "internal/bytealg.IndexString", "internal/bytealg.MakeNoZero"], unfollowed := true, recurses := true, named := ["internal/bytealg.MaxLen", "unicode/utf8.first", "unicode/utf8.acceptRanges"], apart := false, laid := [("unicode/utf8.acceptRanges", laid_unicode_utf8_acceptRanges), ("unicode/utf8.first", laid_unicode_utf8_first)], narrowed := true }
def FnPackJoinUptoSaid : Prop := fnPackJoinUptoRow.holds Tryd.pinned (OpenSpec.upto fnPackJoinSpec)

/-- 'laws.FnPackZero', WHERE WHAT IT READS IS OF BULK AT MOST 1048576: true; the input reads as it did. -/
def fnPackZeroUptoRow : OpenClaim := { program := "yteocobbddngllaadoor", sum := "d6e2c331791408863878d9adeba7c53a5bbeac1df0fddc986afa247ebbf85155", func := "loop.example/quoin/laws.FnPackZero", spec := "fnPackZero", inPlace := ["internal/abi.NoEscape", "internal/bytealg.CountString", "internal/bytealg.IndexByteString", "internal/bytealg.IndexString", "internal/bytealg.MakeNoZero"], unfollowed := true, recurses := true, named := ["internal/bytealg.MaxLen", "unicode/utf8.first", "unicode/utf8.acceptRanges"], apart := false, laid := [("unicode/utf8.acceptRanges", laid_unicode_utf8_acceptRanges), ("unicode/utf8.first", laid_unicode_utf8_first)], narrowed := true }
def FnPackZeroUptoSaid : Prop := fnPackZeroUptoRow.holds Tryd.pinned (OpenSpec.upto fnPackZeroSpec)

/-- 'laws.FnPack', WHERE WHAT IT READS IS OF BULK AT MOST 1048576: true; the input reads as it did. -/
def fnPackUptoRow : OpenClaim := { program := "yteocobbddngllaadoor", sum := "d6e2c331791408863878d9adeba7c53a5bbeac1df0fddc986afa247ebbf85155", func := "loop.example/quoin/laws.FnPack", spec := "fnPack", inPlace := ["internal/abi.NoEscape", "internal/bytealg.CountString", "internal/bytealg.IndexByteString", "internal/bytealg.IndexString", "internal/bytealg.MakeNoZero"], unfollowed := true, recurses := true, named := ["internal/bytealg.MaxLen", "unicode/utf8.first", "unicode/utf8.acceptRanges"], apart := false, laid := [("unicode/utf8.acceptRanges", laid_unicode_utf8_acceptRanges), ("unicode/utf8.first", laid_unicode_utf8_first)], narrowed := true }
def FnPackUptoSaid : Prop := fnPackUptoRow.holds Tryd.pinned (OpenSpec.upto fnPackSpec)

/-- 'laws.FnUnpack', WHERE WHAT IT READS IS OF BULK AT MOST 1048576: true; the input reads as it did. -/
def fnUnpackUptoRow : OpenClaim := { program := "yteocobbddngllaadoor", sum := "d6e2c331791408863878d9adeba7c53a5bbeac1df0fddc986afa247ebbf85155", func := "loop.example/quoin/laws.FnUnpack", spec := "fnUnpack", inPlace := ["internal/abi.NoEscape", "internal/bytealg.MakeNoZero", "internal/bytealg.CountString", "internal/bytealg.IndexByteString", "internal/bytealg.IndexString"], unfollowed := true, recurses := true, named := ["internal/bytealg.MaxLen", "unicode/utf8.first", "unicode/utf8.acceptRanges"], apart := false, laid := [("unicode/utf8.acceptRanges", laid_unicode_utf8_acceptRanges), ("unicode/utf8.first", laid_unicode_utf8_first)], narrowed := true }
def FnUnpackUptoSaid : Prop := fnUnpackUptoRow.holds Tryd.pinned (OpenSpec.upto fnUnpackSpec)

end Rows
end Go.Proofs.YteocobbddngllaaDoor
