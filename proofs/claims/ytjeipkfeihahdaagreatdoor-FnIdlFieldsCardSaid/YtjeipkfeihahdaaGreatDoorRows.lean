/-
  NARROWER THAN 'FOR EVERY INPUT', by the rows' own cells (each row's printed sentence says how): FnIdlLayout: maps, laid · FnIdlFields: maps, laid.
  DERIVED. THE GIVEN ROWS OF THIS SEAT. 2 by the template 'for every input the law returns true; each argument reads behind the call as it read before'; 0 by the template 'total and deterministic' (their statements: YtjeipkfeihahdaaGreatDoorTotals.lean).
  GIVEN WITH THE SEED: the statements are not yours to turn. If you find one false, say at which input.
  Laid BY PROGRAM, IN A SANDBOX (cutbox-rows.mjs): the forced cells as the released guide's own fill.sh prints them over the translation f225d95bb95091ce… (all of the seat's roots in one cut). By AI agents, Wed Nov 11 2026. No macro, syntax, notation, axiom, sorry.
-/
import Derived.Test.YtjeipkfeihahdaaGreatDoorChecked
import GoSem.Claim
import GoSem.ClaimJoined
import GoSem.ClaimMapViews
import Derived.JoinedTies
import Derived.KernelRfl
namespace Go.Proofs.YtjeipkfeihahdaaGreatDoor
/- THE CELL 'sum', in the pinned program and in every row, IS THE sha256 OF THE DUMP (.gsa) THAT YtjeipkfeihahdaaGreatDoorProg.lean LOADS. Nothing in Lean hashes anything: it is a label: what it is worth is what the hold of that sum in a sandbox is worth. -/
noncomputable def Tryz.pinned : Pinned := { name := "ytjeipkfeihahdaagreatdoor", sum := "f225d95bb95091ce63a7228a002516bd5d23157042b8f4d3be8a050179176a99", checked := Tryz.checked }
namespace Rows
def none {H : Type} : Left H := { results := [], args := [] }

/- WHAT THE LISTED PACKAGE-LEVEL VARIABLES READ AS WHEN THE CALL BEGINS. Each datum BY PROGRAM (the guide's laid-datum.mjs) off the statement by which the dump's own 'gosem.cut.vars' lays the variable. In a bare row this is a premise. The card (YtjeipkfeihahdaaGreatDoorCards.lean) ties it to the program's text. -/
def laid_loop_example_quoin_impl_sizeBits {H : Type} : DataW H := .agg [.lit (.int .i64 0), .lit (.int .i64 1), .lit (.int .i64 8), .lit (.int .i64 16), .lit (.int .i64 32), .lit (.int .i64 64), .lit (.int .i64 64)]
def laid_loop_example_quoin_impl_baseSizes {H : Type} : DataW H := .map [(.string [66, 111, 111, 108], .lit (.int .i64 1)), (.string [73, 54, 52], .lit (.int .i64 5)), (.string [84, 101, 120, 116], .lit (.int .i64 6)), (.string [85, 49, 54], .lit (.int .i64 3)), (.string [85, 51, 50], .lit (.int .i64 4)), (.string [85, 56], .lit (.int .i64 2))]

/-- 'laws.FnIdlLayout': WHATEVER THE INPUT: true; the input reads as it did. -/
def fnIdlLayoutSpec : ChangeSpec := { name := "fnIdlLayout", vars := ["loop.example/quoin/impl.baseSizes", "loop.example/quoin/impl.sizeBits"], fn := fun _ => fun
  | [d, g1, g2] => { results := [.lit (.bool true)], args := [d], vars := [g1, g2] }
  | _ => none }
def fnIdlLayoutRow : OpenClaim := { program := "ytjeipkfeihahdaagreatdoor", sum := "f225d95bb95091ce63a7228a002516bd5d23157042b8f4d3be8a050179176a99", func := "loop.example/quoin/laws.FnIdlLayout", spec := "fnIdlLayout", unfollowed := true, recurses := true, named := ["loop.example/quoin/impl.baseSizes", "loop.example/quoin/impl.sizeBits"], maps := true, apart := false, laid := [("loop.example/quoin/impl.sizeBits", laid_loop_example_quoin_impl_sizeBits), ("loop.example/quoin/impl.baseSizes", laid_loop_example_quoin_impl_baseSizes)] }
def FnIdlLayoutSaid : Prop := fnIdlLayoutRow.holds Tryz.pinned (OpenSpec.ofChange fnIdlLayoutSpec)

/-- ITS FALSE NEIGHBOUR: 'it returns false'. Refute it at one input. -/
def fnIdlLayoutWrong : ChangeSpec := { name := "fnIdlLayout", vars := ["loop.example/quoin/impl.baseSizes", "loop.example/quoin/impl.sizeBits"], fn := fun _ => fun
  | [d, g1, g2] => { results := [.lit (.bool false)], args := [d], vars := [g1, g2] }
  | _ => none }
def FnIdlLayoutWrongFalsely : Prop := fnIdlLayoutRow.holds Tryz.pinned (OpenSpec.ofChange fnIdlLayoutWrong)

/-- 'laws.FnIdlFields': WHATEVER THE INPUT: true; the input reads as it did. -/
def fnIdlFieldsSpec : ChangeSpec := { name := "fnIdlFields", vars := ["loop.example/quoin/impl.baseSizes", "loop.example/quoin/impl.sizeBits"], fn := fun _ => fun
  | [d, g1, g2] => { results := [.lit (.bool true)], args := [d], vars := [g1, g2] }
  | _ => none }
def fnIdlFieldsRow : OpenClaim := { program := "ytjeipkfeihahdaagreatdoor", sum := "f225d95bb95091ce63a7228a002516bd5d23157042b8f4d3be8a050179176a99", func := "loop.example/quoin/laws.FnIdlFields", spec := "fnIdlFields", unfollowed := true, recurses := true, named := ["loop.example/quoin/impl.baseSizes", "loop.example/quoin/impl.sizeBits"], maps := true, apart := false, laid := [("loop.example/quoin/impl.sizeBits", laid_loop_example_quoin_impl_sizeBits), ("loop.example/quoin/impl.baseSizes", laid_loop_example_quoin_impl_baseSizes)] }
def FnIdlFieldsSaid : Prop := fnIdlFieldsRow.holds Tryz.pinned (OpenSpec.ofChange fnIdlFieldsSpec)

/-- ITS FALSE NEIGHBOUR: 'it returns false'. Refute it at one input. -/
def fnIdlFieldsWrong : ChangeSpec := { name := "fnIdlFields", vars := ["loop.example/quoin/impl.baseSizes", "loop.example/quoin/impl.sizeBits"], fn := fun _ => fun
  | [d, g1, g2] => { results := [.lit (.bool false)], args := [d], vars := [g1, g2] }
  | _ => none }
def FnIdlFieldsWrongFalsely : Prop := fnIdlFieldsRow.holds Tryz.pinned (OpenSpec.ofChange fnIdlFieldsWrong)

/- THE SECOND FORM. 'bulk': how many values and letters a reading holds, each counted each time it is reached (what is shared counts as often as it is met; a slice's spare places count too). A statement '..UptoSaid' is the law's where the arguments, and the package variables that the reading takes, are together of bulk at most 1048576: NARROWER than '..Said'. Prove '..Said' where nothing that the law and all that it calls make is longer than what came in: it says more and counts as full. Else prove '..UptoSaid'. A law counts once. -/
mutual
def uptoBulk {H : Type} : DataW H → Nat
  | .lit (.string bytes) => bytes.length + 1
  | .lit _ => 1
  | .nil => 1
  | .ptr d => uptoBulk d + 1
  | .slice elems spare => uptoBulkAll elems + uptoBulkAll spare + 1
  | .agg parts => uptoBulkAll parts + 1
  | .iface _ d => uptoBulk d + 1
  | .map entries => uptoBulkEntries entries + 1
  | .held _ => 1
def uptoBulkAll {H : Type} : List (DataW H) → Nat
  | [] => 0
  | d :: r => uptoBulk d + uptoBulkAll r
def uptoBulkEntries {H : Type} : List (Lit × DataW H) → Nat
  | [] => 0
  | x :: r => uptoBulkEntry x + uptoBulkEntries r
def uptoBulkEntry {H : Type} : Lit × DataW H → Nat
  | (.string bytes, d) => bytes.length + uptoBulk d + 1
  | (_, d) => uptoBulk d + 1
 end
def uptoSmall : (H : Type) → List (DataW H) → Bool := fun _ ds => decide (uptoBulkAll ds ≤ 1048576)
def OpenSpec.upto (s : _root_.Go.ChangeSpec) : _root_.Go.OpenSpec := { _root_.Go.OpenSpec.ofChange s with cond := some uptoSmall }

/-- 'laws.FnIdlLayout', WHERE WHAT IT READS IS OF BULK AT MOST 1048576: true; the input reads as it did. -/
def fnIdlLayoutUptoRow : OpenClaim := { program := "ytjeipkfeihahdaagreatdoor", sum := "f225d95bb95091ce63a7228a002516bd5d23157042b8f4d3be8a050179176a99", func := "loop.example/quoin/laws.FnIdlLayout", spec := "fnIdlLayout", unfollowed := true, recurses := true, named := ["loop.example/quoin/impl.baseSizes", "loop.example/quoin/impl.sizeBits"], maps := true, apart := false, laid := [("loop.example/quoin/impl.sizeBits", laid_loop_example_quoin_impl_sizeBits), ("loop.example/quoin/impl.baseSizes", laid_loop_example_quoin_impl_baseSizes)], narrowed := true }
def FnIdlLayoutUptoSaid : Prop := fnIdlLayoutUptoRow.holds Tryz.pinned (OpenSpec.upto fnIdlLayoutSpec)

/-- 'laws.FnIdlFields', WHERE WHAT IT READS IS OF BULK AT MOST 1048576: true; the input reads as it did. -/
def fnIdlFieldsUptoRow : OpenClaim := { program := "ytjeipkfeihahdaagreatdoor", sum := "f225d95bb95091ce63a7228a002516bd5d23157042b8f4d3be8a050179176a99", func := "loop.example/quoin/laws.FnIdlFields", spec := "fnIdlFields", unfollowed := true, recurses := true, named := ["loop.example/quoin/impl.baseSizes", "loop.example/quoin/impl.sizeBits"], maps := true, apart := false, laid := [("loop.example/quoin/impl.sizeBits", laid_loop_example_quoin_impl_sizeBits), ("loop.example/quoin/impl.baseSizes", laid_loop_example_quoin_impl_baseSizes)], narrowed := true }
def FnIdlFieldsUptoSaid : Prop := fnIdlFieldsUptoRow.holds Tryz.pinned (OpenSpec.upto fnIdlFieldsSpec)

end Rows
end Go.Proofs.YtjeipkfeihahdaaGreatDoor
