/-
  NARROWER THAN 'FOR EVERY INPUT', by the rows' own cells (each row's printed sentence says how): FnExactListWords: laid · FnListWords: laid · FnExactFieldsOk: laid.
  DERIVED. THE GIVEN ROWS OF THIS SEAT. 3 by the template 'for every input the law returns true; each argument reads behind the call as it read before'; 0 by the template 'total and deterministic' (their statements: YtdlalhphephgeaaDoorTotals.lean).
  GIVEN WITH THE SEED: the statements are not yours to turn. If you find one false, say at which input.
  Laid BY PROGRAM, IN A SANDBOX (cutbox-rows.mjs): the forced cells as the released guide's own fill.sh prints them over the translation c4907819402c6f24… (all of the seat's roots in one cut). By AI agents, Wed Nov 11 2026. No macro, syntax, notation, axiom, sorry.
-/
import Derived.Test.YtdlalhphephgeaaDoorChecked
import GoSem.Claim
import GoSem.ClaimJoined
import GoSem.ClaimMapViews
import Derived.JoinedTies
import Derived.KernelRfl
namespace Go.Proofs.YtdlalhphephgeaaDoor
/- THE CELL 'sum', in the pinned program and in every row, IS THE sha256 OF THE DUMP (.gsa) THAT YtdlalhphephgeaaDoorProg.lean LOADS. Nothing in Lean hashes anything: it is a label: what it is worth is what the hold of that sum in a sandbox is worth. -/
noncomputable def Tryd.pinned : Pinned := { name := "ytdlalhphephgeaadoor", sum := "c4907819402c6f24e185dcbfaa6a581afc4829a5c7e9a78b666ccb630beb8267", checked := Tryd.checked }
namespace Rows
def none {H : Type} : Left H := { results := [], args := [] }

/- WHAT THE LISTED PACKAGE-LEVEL VARIABLES READ AS WHEN THE CALL BEGINS. Each datum BY PROGRAM (the guide's laid-datum.mjs) off the statement by which the dump's own 'gosem.cut.vars' lays the variable. In a bare row this is a premise. The card (YtdlalhphephgeaaDoorCards.lean) ties it to the program's text. -/
def laid_loop_example_quoin_impl_sizeBits {H : Type} : DataW H := .agg [.lit (.int .i64 0), .lit (.int .i64 1), .lit (.int .i64 8), .lit (.int .i64 16), .lit (.int .i64 32), .lit (.int .i64 64), .lit (.int .i64 64)]

/-- 'laws.FnExactListWords': WHATEVER THE INPUT: true; the input reads as it did. -/
def fnExactListWordsSpec : ChangeSpec := { name := "fnExactListWords", vars := ["loop.example/quoin/impl.sizeBits"], fn := fun _ => fun
  | [d1, d2, g1] => { results := [.lit (.bool true)], args := [d1, d2], vars := [g1] }
  | _ => none }
def fnExactListWordsRow : OpenClaim := { program := "ytdlalhphephgeaadoor", sum := "c4907819402c6f24e185dcbfaa6a581afc4829a5c7e9a78b666ccb630beb8267", func := "loop.example/quoin/laws.FnExactListWords", spec := "fnExactListWords", named := ["loop.example/quoin/impl.sizeBits"], apart := false, laid := [("loop.example/quoin/impl.sizeBits", laid_loop_example_quoin_impl_sizeBits)] }
def FnExactListWordsSaid : Prop := fnExactListWordsRow.holds Tryd.pinned (OpenSpec.ofChange fnExactListWordsSpec)

/-- ITS FALSE NEIGHBOUR: 'it returns false'. Refute it at one input. -/
def fnExactListWordsWrong : ChangeSpec := { name := "fnExactListWords", vars := ["loop.example/quoin/impl.sizeBits"], fn := fun _ => fun
  | [d1, d2, g1] => { results := [.lit (.bool false)], args := [d1, d2], vars := [g1] }
  | _ => none }
def FnExactListWordsWrongFalsely : Prop := fnExactListWordsRow.holds Tryd.pinned (OpenSpec.ofChange fnExactListWordsWrong)

/-- 'laws.FnListWords': WHATEVER THE INPUT: true; the input reads as it did. -/
def fnListWordsSpec : ChangeSpec := { name := "fnListWords", vars := ["loop.example/quoin/impl.sizeBits"], fn := fun _ => fun
  | [d, g1] => { results := [.lit (.bool true)], args := [d], vars := [g1] }
  | _ => none }
def fnListWordsRow : OpenClaim := { program := "ytdlalhphephgeaadoor", sum := "c4907819402c6f24e185dcbfaa6a581afc4829a5c7e9a78b666ccb630beb8267", func := "loop.example/quoin/laws.FnListWords", spec := "fnListWords", named := ["loop.example/quoin/impl.sizeBits"], apart := false, laid := [("loop.example/quoin/impl.sizeBits", laid_loop_example_quoin_impl_sizeBits)] }
def FnListWordsSaid : Prop := fnListWordsRow.holds Tryd.pinned (OpenSpec.ofChange fnListWordsSpec)

/-- ITS FALSE NEIGHBOUR: 'it returns false'. Refute it at one input. -/
def fnListWordsWrong : ChangeSpec := { name := "fnListWords", vars := ["loop.example/quoin/impl.sizeBits"], fn := fun _ => fun
  | [d, g1] => { results := [.lit (.bool false)], args := [d], vars := [g1] }
  | _ => none }
def FnListWordsWrongFalsely : Prop := fnListWordsRow.holds Tryd.pinned (OpenSpec.ofChange fnListWordsWrong)

/-- 'laws.FnExactFieldsOk': WHATEVER THE INPUT: true; the input reads as it did. -/
def fnExactFieldsOkSpec : ChangeSpec := { name := "fnExactFieldsOk", vars := ["loop.example/quoin/impl.sizeBits"], fn := fun _ => fun
  | [d, g1] => { results := [.lit (.bool true)], args := [d], vars := [g1] }
  | _ => none }
def fnExactFieldsOkRow : OpenClaim := { program := "ytdlalhphephgeaadoor", sum := "c4907819402c6f24e185dcbfaa6a581afc4829a5c7e9a78b666ccb630beb8267", func := "loop.example/quoin/laws.FnExactFieldsOk", spec := "fnExactFieldsOk", unfollowed := true, recurses := true, named := ["loop.example/quoin/impl.sizeBits"], apart := false, laid := [("loop.example/quoin/impl.sizeBits", laid_loop_example_quoin_impl_sizeBits)] }
def FnExactFieldsOkSaid : Prop := fnExactFieldsOkRow.holds Tryd.pinned (OpenSpec.ofChange fnExactFieldsOkSpec)

/-- ITS FALSE NEIGHBOUR: 'it returns false'. Refute it at one input. -/
def fnExactFieldsOkWrong : ChangeSpec := { name := "fnExactFieldsOk", vars := ["loop.example/quoin/impl.sizeBits"], fn := fun _ => fun
  | [d, g1] => { results := [.lit (.bool false)], args := [d], vars := [g1] }
  | _ => none }
def FnExactFieldsOkWrongFalsely : Prop := fnExactFieldsOkRow.holds Tryd.pinned (OpenSpec.ofChange fnExactFieldsOkWrong)

/- THE SECOND FORM. 'bulk': how many values and letters a reading holds, each counted each time it is reached (what is shared counts as often as it is met; a slice's spare places count too). A statement '..UptoSaid' is the law's where the arguments, and the package variables that the reading takes, are together of bulk at most 1048576: NARROWER than '..Said'. Prove '..Said' where nothing that the law and all that it calls make is longer than what came in: it says more and counts as full. Else prove '..UptoSaid'. A law counts once. -/
mutual
def uptoBulk {H : Type} : DataW H → Nat
  | .lit (.string bytes) => bytes.length + 1
  | .lit _ => 1
  | .nil => 1
  | .ptr d => uptoBulk d + 1
  | .slice elems spare => uptoBulkAll elems + uptoBulkAll spare + 1
  | .agg parts => uptoBulkAll parts + 1
  | .iface _ d => uptoBulk d + 1
  | .map entries => uptoBulkEntries entries + 1
  | .held _ => 1
def uptoBulkAll {H : Type} : List (DataW H) → Nat
  | [] => 0
  | d :: r => uptoBulk d + uptoBulkAll r
def uptoBulkEntries {H : Type} : List (Lit × DataW H) → Nat
  | [] => 0
  | x :: r => uptoBulkEntry x + uptoBulkEntries r
def uptoBulkEntry {H : Type} : Lit × DataW H → Nat
  | (.string bytes, d) => bytes.length + uptoBulk d + 1
  | (_, d) => uptoBulk d + 1
 end
def uptoSmall : (H : Type) → List (DataW H) → Bool := fun _ ds => decide (uptoBulkAll ds ≤ 1048576)
def OpenSpec.upto (s : _root_.Go.ChangeSpec) : _root_.Go.OpenSpec := { _root_.Go.OpenSpec.ofChange s with cond := some uptoSmall }

/-- 'laws.FnExactListWords', WHERE WHAT IT READS IS OF BULK AT MOST 1048576: true; the input reads as it did. -/
def fnExactListWordsUptoRow : OpenClaim := { program := "ytdlalhphephgeaadoor", sum := "c4907819402c6f24e185dcbfaa6a581afc4829a5c7e9a78b666ccb630beb8267", func := "loop.example/quoin/laws.FnExactListWords", spec := "fnExactListWords", named := ["loop.example/quoin/impl.sizeBits"], apart := false, laid := [("loop.example/quoin/impl.sizeBits", laid_loop_example_quoin_impl_sizeBits)], narrowed := true }
def FnExactListWordsUptoSaid : Prop := fnExactListWordsUptoRow.holds Tryd.pinned (OpenSpec.upto fnExactListWordsSpec)

/-- 'laws.FnListWords', WHERE WHAT IT READS IS OF BULK AT MOST 1048576: true; the input reads as it did. -/
def fnListWordsUptoRow : OpenClaim := { program := "ytdlalhphephgeaadoor", sum := "c4907819402c6f24e185dcbfaa6a581afc4829a5c7e9a78b666ccb630beb8267", func := "loop.example/quoin/laws.FnListWords", spec := "fnListWords", named := ["loop.example/quoin/impl.sizeBits"], apart := false, laid := [("loop.example/quoin/impl.sizeBits", laid_loop_example_quoin_impl_sizeBits)], narrowed := true }
def FnListWordsUptoSaid : Prop := fnListWordsUptoRow.holds Tryd.pinned (OpenSpec.upto fnListWordsSpec)

/-- 'laws.FnExactFieldsOk', WHERE WHAT IT READS IS OF BULK AT MOST 1048576: true; the input reads as it did. -/
def fnExactFieldsOkUptoRow : OpenClaim := { program := "ytdlalhphephgeaadoor", sum := "c4907819402c6f24e185dcbfaa6a581afc4829a5c7e9a78b666ccb630beb8267", func := "loop.example/quoin/laws.FnExactFieldsOk", spec := "fnExactFieldsOk", unfollowed := true, recurses := true, named := ["loop.example/quoin/impl.sizeBits"], apart := false, laid := [("loop.example/quoin/impl.sizeBits", laid_loop_example_quoin_impl_sizeBits)], narrowed := true }
def FnExactFieldsOkUptoSaid : Prop := fnExactFieldsOkUptoRow.holds Tryd.pinned (OpenSpec.upto fnExactFieldsOkSpec)

end Rows
end Go.Proofs.YtdlalhphephgeaaDoor
