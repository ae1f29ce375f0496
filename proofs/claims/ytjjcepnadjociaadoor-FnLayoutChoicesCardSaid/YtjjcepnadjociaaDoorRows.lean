/-
  NARROWER THAN 'FOR EVERY INPUT', by the rows' own cells (each row's printed sentence says how): FnFieldsAll: laid · FnExactLayoutBits: laid · FnLayoutGrows: laid · FnLayoutWaste: laid · FnLayoutBits: laid · FnLayoutChoices: laid · FnLayoutOf: laid · FnExactLayoutOf: laid.
  DERIVED. THE GIVEN ROWS OF THIS SEAT. 8 by the template 'for every input the law returns true; each argument reads behind the call as it read before'; 0 by the template 'total and deterministic' (their statements: YtjjcepnadjociaaDoorTotals.lean).
  GIVEN WITH THE SEED: the statements are not yours to turn. If you find one false, say at which input.
  Laid BY PROGRAM, IN A SANDBOX (cutbox-rows.mjs): the forced cells as the released guide's own fill.sh prints them over the translation b1bb405aed0f84ea… (all of the seat's roots in one cut). By AI agents, Wed Nov 11 2026. No macro, syntax, notation, axiom, sorry.
-/
import Derived.Test.YtjjcepnadjociaaDoorChecked
import GoSem.Claim
import GoSem.ClaimJoined
import GoSem.ClaimMapViews
import Derived.JoinedTies
import Derived.KernelRfl
namespace Go.Proofs.YtjjcepnadjociaaDoor
/- THE CELL 'sum', in the pinned program and in every row, IS THE sha256 OF THE DUMP (.gsa) THAT YtjjcepnadjociaaDoorProg.lean LOADS. Nothing in Lean hashes anything: it is a label: what it is worth is what the hold of that sum in a sandbox is worth. -/
noncomputable def Tryd.pinned : Pinned := { name := "ytjjcepnadjociaadoor", sum := "b1bb405aed0f84eae8a04ed13daa386dbd29ddff906b2d50187d9fa7f3bb6a44", checked := Tryd.checked }
namespace Rows
def none {H : Type} : Left H := { results := [], args := [] }

/- WHAT THE LISTED PACKAGE-LEVEL VARIABLES READ AS WHEN THE CALL BEGINS. Each datum BY PROGRAM (the guide's laid-datum.mjs) off the statement by which the dump's own 'gosem.cut.vars' lays the variable. In a bare row this is a premise. The card (YtjjcepnadjociaaDoorCards.lean) ties it to the program's text. -/
def laid_loop_example_quoin_impl_sizeBits {H : Type} : DataW H := .agg [.lit (.int .i64 0), .lit (.int .i64 1), .lit (.int .i64 8), .lit (.int .i64 16), .lit (.int .i64 32), .lit (.int .i64 64), .lit (.int .i64 64)]

/-- 'laws.FnFieldsAll': WHATEVER THE INPUT: true; the input reads as it did. -/
def fnFieldsAllSpec : ChangeSpec := { name := "fnFieldsAll", vars := ["loop.example/quoin/impl.sizeBits"], fn := fun _ => fun
  | [d, g1] => { results := [.lit (.bool true)], args := [d], vars := [g1] }
  | _ => none }
def fnFieldsAllRow : OpenClaim := { program := "ytjjcepnadjociaadoor", sum := "b1bb405aed0f84eae8a04ed13daa386dbd29ddff906b2d50187d9fa7f3bb6a44", func := "loop.example/quoin/laws.FnFieldsAll", spec := "fnFieldsAll", unfollowed := true, recurses := true, named := ["loop.example/quoin/impl.sizeBits"], apart := false, laid := [("loop.example/quoin/impl.sizeBits", laid_loop_example_quoin_impl_sizeBits)] }
def FnFieldsAllSaid : Prop := fnFieldsAllRow.holds Tryd.pinned (OpenSpec.ofChange fnFieldsAllSpec)

/-- ITS FALSE NEIGHBOUR: 'it returns false'. Refute it at one input. -/
def fnFieldsAllWrong : ChangeSpec := { name := "fnFieldsAll", vars := ["loop.example/quoin/impl.sizeBits"], fn := fun _ => fun
  | [d, g1] => { results := [.lit (.bool false)], args := [d], vars := [g1] }
  | _ => none }
def FnFieldsAllWrongFalsely : Prop := fnFieldsAllRow.holds Tryd.pinned (OpenSpec.ofChange fnFieldsAllWrong)

/-- 'laws.FnExactLayoutBits': WHATEVER THE INPUT: true; the input reads as it did. -/
def fnExactLayoutBitsSpec : ChangeSpec := { name := "fnExactLayoutBits", vars := ["loop.example/quoin/impl.sizeBits"], fn := fun _ => fun
  | [d1, d2, g1] => { results := [.lit (.bool true)], args := [d1, d2], vars := [g1] }
  | _ => none }
def fnExactLayoutBitsRow : OpenClaim := { program := "ytjjcepnadjociaadoor", sum := "b1bb405aed0f84eae8a04ed13daa386dbd29ddff906b2d50187d9fa7f3bb6a44", func := "loop.example/quoin/laws.FnExactLayoutBits", spec := "fnExactLayoutBits", unfollowed := true, recurses := true, named := ["loop.example/quoin/impl.sizeBits"], apart := false, laid := [("loop.example/quoin/impl.sizeBits", laid_loop_example_quoin_impl_sizeBits)] }
def FnExactLayoutBitsSaid : Prop := fnExactLayoutBitsRow.holds Tryd.pinned (OpenSpec.ofChange fnExactLayoutBitsSpec)

/-- ITS FALSE NEIGHBOUR: 'it returns false'. Refute it at one input. -/
def fnExactLayoutBitsWrong : ChangeSpec := { name := "fnExactLayoutBits", vars := ["loop.example/quoin/impl.sizeBits"], fn := fun _ => fun
  | [d1, d2, g1] => { results := [.lit (.bool false)], args := [d1, d2], vars := [g1] }
  | _ => none }
def FnExactLayoutBitsWrongFalsely : Prop := fnExactLayoutBitsRow.holds Tryd.pinned (OpenSpec.ofChange fnExactLayoutBitsWrong)

/-- 'laws.FnLayoutGrows': WHATEVER THE INPUT: true; the input reads as it did. -/
def fnLayoutGrowsSpec : ChangeSpec := { name := "fnLayoutGrows", vars := ["loop.example/quoin/impl.sizeBits"], fn := fun _ => fun
  | [d1, d2, g1] => { results := [.lit (.bool true)], args := [d1, d2], vars := [g1] }
  | _ => none }
def fnLayoutGrowsRow : OpenClaim := { program := "ytjjcepnadjociaadoor", sum := "b1bb405aed0f84eae8a04ed13daa386dbd29ddff906b2d50187d9fa7f3bb6a44", func := "loop.example/quoin/laws.FnLayoutGrows", spec := "fnLayoutGrows", unfollowed := true, recurses := true, named := ["loop.example/quoin/impl.sizeBits"], apart := false, laid := [("loop.example/quoin/impl.sizeBits", laid_loop_example_quoin_impl_sizeBits)] }
def FnLayoutGrowsSaid : Prop := fnLayoutGrowsRow.holds Tryd.pinned (OpenSpec.ofChange fnLayoutGrowsSpec)

/-- ITS FALSE NEIGHBOUR: 'it returns false'. Refute it at one input. -/
def fnLayoutGrowsWrong : ChangeSpec := { name := "fnLayoutGrows", vars := ["loop.example/quoin/impl.sizeBits"], fn := fun _ => fun
  | [d1, d2, g1] => { results := [.lit (.bool false)], args := [d1, d2], vars := [g1] }
  | _ => none }
def FnLayoutGrowsWrongFalsely : Prop := fnLayoutGrowsRow.holds Tryd.pinned (OpenSpec.ofChange fnLayoutGrowsWrong)

/-- 'laws.FnLayoutWaste': WHATEVER THE INPUT: true; the input reads as it did. -/
def fnLayoutWasteSpec : ChangeSpec := { name := "fnLayoutWaste", vars := ["loop.example/quoin/impl.sizeBits"], fn := fun _ => fun
  | [d, g1] => { results := [.lit (.bool true)], args := [d], vars := [g1] }
  | _ => none }
def fnLayoutWasteRow : OpenClaim := { program := "ytjjcepnadjociaadoor", sum := "b1bb405aed0f84eae8a04ed13daa386dbd29ddff906b2d50187d9fa7f3bb6a44", func := "loop.example/quoin/laws.FnLayoutWaste", spec := "fnLayoutWaste", unfollowed := true, recurses := true, named := ["loop.example/quoin/impl.sizeBits"], apart := false, laid := [("loop.example/quoin/impl.sizeBits", laid_loop_example_quoin_impl_sizeBits)] }
def FnLayoutWasteSaid : Prop := fnLayoutWasteRow.holds Tryd.pinned (OpenSpec.ofChange fnLayoutWasteSpec)

/-- ITS FALSE NEIGHBOUR: 'it returns false'. Refute it at one input. -/
def fnLayoutWasteWrong : ChangeSpec := { name := "fnLayoutWaste", vars := ["loop.example/quoin/impl.sizeBits"], fn := fun _ => fun
  | [d, g1] => { results := [.lit (.bool false)], args := [d], vars := [g1] }
  | _ => none }
def FnLayoutWasteWrongFalsely : Prop := fnLayoutWasteRow.holds Tryd.pinned (OpenSpec.ofChange fnLayoutWasteWrong)

/-- 'laws.FnLayoutBits': WHATEVER THE INPUT: true; the input reads as it did. -/
def fnLayoutBitsSpec : ChangeSpec := { name := "fnLayoutBits", vars := ["loop.example/quoin/impl.sizeBits"], fn := fun _ => fun
  | [d, g1] => { results := [.lit (.bool true)], args := [d], vars := [g1] }
  | _ => none }
def fnLayoutBitsRow : OpenClaim := { program := "ytjjcepnadjociaadoor", sum := "b1bb405aed0f84eae8a04ed13daa386dbd29ddff906b2d50187d9fa7f3bb6a44", func := "loop.example/quoin/laws.FnLayoutBits", spec := "fnLayoutBits", unfollowed := true, recurses := true, named := ["loop.example/quoin/impl.sizeBits"], apart := false, laid := [("loop.example/quoin/impl.sizeBits", laid_loop_example_quoin_impl_sizeBits)] }
def FnLayoutBitsSaid : Prop := fnLayoutBitsRow.holds Tryd.pinned (OpenSpec.ofChange fnLayoutBitsSpec)

/-- ITS FALSE NEIGHBOUR: 'it returns false'. Refute it at one input. -/
def fnLayoutBitsWrong : ChangeSpec := { name := "fnLayoutBits", vars := ["loop.example/quoin/impl.sizeBits"], fn := fun _ => fun
  | [d, g1] => { results := [.lit (.bool false)], args := [d], vars := [g1] }
  | _ => none }
def FnLayoutBitsWrongFalsely : Prop := fnLayoutBitsRow.holds Tryd.pinned (OpenSpec.ofChange fnLayoutBitsWrong)

/-- 'laws.FnLayoutChoices': WHATEVER THE INPUT: true; the input reads as it did. -/
def fnLayoutChoicesSpec : ChangeSpec := { name := "fnLayoutChoices", vars := ["loop.example/quoin/impl.sizeBits"], fn := fun _ => fun
  | [d, g1] => { results := [.lit (.bool true)], args := [d], vars := [g1] }
  | _ => none }
def fnLayoutChoicesRow : OpenClaim := { program := "ytjjcepnadjociaadoor", sum := "b1bb405aed0f84eae8a04ed13daa386dbd29ddff906b2d50187d9fa7f3bb6a44", func := "loop.example/quoin/laws.FnLayoutChoices", spec := "fnLayoutChoices", unfollowed := true, recurses := true, named := ["loop.example/quoin/impl.sizeBits"], apart := false, laid := [("loop.example/quoin/impl.sizeBits", laid_loop_example_quoin_impl_sizeBits)] }
def FnLayoutChoicesSaid : Prop := fnLayoutChoicesRow.holds Tryd.pinned (OpenSpec.ofChange fnLayoutChoicesSpec)

/-- ITS FALSE NEIGHBOUR: 'it returns false'. Refute it at one input. -/
def fnLayoutChoicesWrong : ChangeSpec := { name := "fnLayoutChoices", vars := ["loop.example/quoin/impl.sizeBits"], fn := fun _ => fun
  | [d, g1] => { results := [.lit (.bool false)], args := [d], vars := [g1] }
  | _ => none }
def FnLayoutChoicesWrongFalsely : Prop := fnLayoutChoicesRow.holds Tryd.pinned (OpenSpec.ofChange fnLayoutChoicesWrong)

/-- 'laws.FnLayoutOf': WHATEVER THE INPUT: true; the input reads as it did. -/
def fnLayoutOfSpec : ChangeSpec := { name := "fnLayoutOf", vars := ["loop.example/quoin/impl.sizeBits"], fn := fun _ => fun
  | [d, g1] => { results := [.lit (.bool true)], args := [d], vars := [g1] }
  | _ => none }
def fnLayoutOfRow : OpenClaim := { program := "ytjjcepnadjociaadoor", sum := "b1bb405aed0f84eae8a04ed13daa386dbd29ddff906b2d50187d9fa7f3bb6a44", func := "loop.example/quoin/laws.FnLayoutOf", spec := "fnLayoutOf", unfollowed := true, recurses := true, named := ["loop.example/quoin/impl.sizeBits"], apart := false, laid := [("loop.example/quoin/impl.sizeBits", laid_loop_example_quoin_impl_sizeBits)] }
def FnLayoutOfSaid : Prop := fnLayoutOfRow.holds Tryd.pinned (OpenSpec.ofChange fnLayoutOfSpec)

/-- ITS FALSE NEIGHBOUR: 'it returns false'. Refute it at one input. -/
def fnLayoutOfWrong : ChangeSpec := { name := "fnLayoutOf", vars := ["loop.example/quoin/impl.sizeBits"], fn := fun _ => fun
  | [d, g1] => { results := [.lit (.bool false)], args := [d], vars := [g1] }
  | _ => none }
def FnLayoutOfWrongFalsely : Prop := fnLayoutOfRow.holds Tryd.pinned (OpenSpec.ofChange fnLayoutOfWrong)

/-- 'laws.FnExactLayoutOf': WHATEVER THE INPUT: true; the input reads as it did. -/
def fnExactLayoutOfSpec : ChangeSpec := { name := "fnExactLayoutOf", vars := ["loop.example/quoin/impl.sizeBits"], fn := fun _ => fun
  | [d, g1] => { results := [.lit (.bool true)], args := [d], vars := [g1] }
  | _ => none }
def fnExactLayoutOfRow : OpenClaim := { program := "ytjjcepnadjociaadoor", sum := "b1bb405aed0f84eae8a04ed13daa386dbd29ddff906b2d50187d9fa7f3bb6a44", func := "loop.example/quoin/laws.FnExactLayoutOf", spec := "fnExactLayoutOf", unfollowed := true, recurses := true, named := ["loop.example/quoin/impl.sizeBits"], apart := false, laid := [("loop.example/quoin/impl.sizeBits", laid_loop_example_quoin_impl_sizeBits)] }
def FnExactLayoutOfSaid : Prop := fnExactLayoutOfRow.holds Tryd.pinned (OpenSpec.ofChange fnExactLayoutOfSpec)

/-- ITS FALSE NEIGHBOUR: 'it returns false'. Refute it at one input. -/
def fnExactLayoutOfWrong : ChangeSpec := { name := "fnExactLayoutOf", vars := ["loop.example/quoin/impl.sizeBits"], fn := fun _ => fun
  | [d, g1] => { results := [.lit (.bool false)], args := [d], vars := [g1] }
  | _ => none }
def FnExactLayoutOfWrongFalsely : Prop := fnExactLayoutOfRow.holds Tryd.pinned (OpenSpec.ofChange fnExactLayoutOfWrong)

/- THE SECOND FORM. 'bulk': how many values and letters a reading holds, each counted each time it is reached (what is shared counts as often as it is met; a slice's spare places count too). A statement '..UptoSaid' is the law's where the arguments, and the package variables that the reading takes, are together of bulk at most 1048576: NARROWER than '..Said'. Prove '..Said' where nothing that the law and all that it calls make is longer than what came in: it says more and counts as full. Else prove '..UptoSaid'. A law counts once. -/
mutual
def uptoBulk {H : Type} : DataW H → Nat
  | .lit (.string bytes) => bytes.length + 1
  | .lit _ => 1
  | .nil => 1
  | .ptr d => uptoBulk d + 1
  | .slice elems spare => uptoBulkAll elems + uptoBulkAll spare + 1
  | .agg parts => uptoBulkAll parts + 1
  | .iface _ d => uptoBulk d + 1
  | .map entries => uptoBulkEntries entries + 1
  | .held _ => 1
def uptoBulkAll {H : Type} : List (DataW H) → Nat
  | [] => 0
  | d :: r => uptoBulk d + uptoBulkAll r
def uptoBulkEntries {H : Type} : List (Lit × DataW H) → Nat
  | [] => 0
  | x :: r => uptoBulkEntry x + uptoBulkEntries r
def uptoBulkEntry {H : Type} : Lit × DataW H → Nat
  | (.string bytes, d) => bytes.length + uptoBulk d + 1
  | (_, d) => uptoBulk d + 1
 end
def uptoSmall : (H : Type) → List (DataW H) → Bool := fun _ ds => decide (uptoBulkAll ds ≤ 1048576)
def OpenSpec.upto (s : _root_.Go.ChangeSpec) : _root_.Go.OpenSpec := { _root_.Go.OpenSpec.ofChange s with cond := some uptoSmall }

/-- 'laws.FnFieldsAll', WHERE WHAT IT READS IS OF BULK AT MOST 1048576: true; the input reads as it did. -/
def fnFieldsAllUptoRow : OpenClaim := { program := "ytjjcepnadjociaadoor", sum := "b1bb405aed0f84eae8a04ed13daa386dbd29ddff906b2d50187d9fa7f3bb6a44", func := "loop.example/quoin/laws.FnFieldsAll", spec := "fnFieldsAll", unfollowed := true, recurses := true, named := ["loop.example/quoin/impl.sizeBits"], apart := false, laid := [("loop.example/quoin/impl.sizeBits", laid_loop_example_quoin_impl_sizeBits)], narrowed := true }
def FnFieldsAllUptoSaid : Prop := fnFieldsAllUptoRow.holds Tryd.pinned (OpenSpec.upto fnFieldsAllSpec)

/-- 'laws.FnExactLayoutBits', WHERE WHAT IT READS IS OF BULK AT MOST 1048576: true; the input reads as it did. -/
def fnExactLayoutBitsUptoRow : OpenClaim := { program := "ytjjcepnadjociaadoor", sum := "b1bb405aed0f84eae8a04ed13daa386dbd29ddff906b2d50187d9fa7f3bb6a44", func := "loop.example/quoin/laws.FnExactLayoutBits", spec := "fnExactLayoutBits", unfollowed := true, recurses := true, named := ["loop.example/quoin/impl.sizeBits"], apart := false, laid := [("loop.example/quoin/impl.sizeBits", laid_loop_example_quoin_impl_sizeBits)], narrowed := true }
def FnExactLayoutBitsUptoSaid : Prop := fnExactLayoutBitsUptoRow.holds Tryd.pinned (OpenSpec.upto fnExactLayoutBitsSpec)

/-- 'laws.FnLayoutGrows', WHERE WHAT IT READS IS OF BULK AT MOST 1048576: true; the input reads as it did. -/
def fnLayoutGrowsUptoRow : OpenClaim := { program := "ytjjcepnadjociaadoor", sum := "b1bb405aed0f84eae8a04ed13daa386dbd29ddff906b2d50187d9fa7f3bb6a44", func := "loop.example/quoin/laws.FnLayoutGrows", spec := "fnLayoutGrows", unfollowed := true, recurses := true, named := ["loop.example/quoin/impl.sizeBits"], apart := false, laid := [("loop.example/quoin/impl.sizeBits", laid_loop_example_quoin_impl_sizeBits)], narrowed := true }
def FnLayoutGrowsUptoSaid : Prop := fnLayoutGrowsUptoRow.holds Tryd.pinned (OpenSpec.upto fnLayoutGrowsSpec)

/-- 'laws.FnLayoutWaste', WHERE WHAT IT READS IS OF BULK AT MOST 1048576: true; the input reads as it did. -/
def fnLayoutWasteUptoRow : OpenClaim := { program := "ytjjcepnadjociaadoor", sum := "b1bb405aed0f84eae8a04ed13daa386dbd29ddff906b2d50187d9fa7f3bb6a44", func := "loop.example/quoin/laws.FnLayoutWaste", spec := "fnLayoutWaste", unfollowed := true, recurses := true, named := ["loop.example/quoin/impl.sizeBits"], apart := false, laid := [("loop.example/quoin/impl.sizeBits", laid_loop_example_quoin_impl_sizeBits)], narrowed := true }
def FnLayoutWasteUptoSaid : Prop := fnLayoutWasteUptoRow.holds Tryd.pinned (OpenSpec.upto fnLayoutWasteSpec)

/-- 'laws.FnLayoutBits', WHERE WHAT IT READS IS OF BULK AT MOST 1048576: true; the input reads as it did. -/
def fnLayoutBitsUptoRow : OpenClaim := { program := "ytjjcepnadjociaadoor", sum := "b1bb405aed0f84eae8a04ed13daa386dbd29ddff906b2d50187d9fa7f3bb6a44", func := "loop.example/quoin/laws.FnLayoutBits", spec := "fnLayoutBits", unfollowed := true, recurses := true, named := ["loop.example/quoin/impl.sizeBits"], apart := false, laid := [("loop.example/quoin/impl.sizeBits", laid_loop_example_quoin_impl_sizeBits)], narrowed := true }
def FnLayoutBitsUptoSaid : Prop := fnLayoutBitsUptoRow.holds Tryd.pinned (OpenSpec.upto fnLayoutBitsSpec)

/-- 'laws.FnLayoutChoices', WHERE WHAT IT READS IS OF BULK AT MOST 1048576: true; the input reads as it did. -/
def fnLayoutChoicesUptoRow : OpenClaim := { program := "ytjjcepnadjociaadoor", sum := "b1bb405aed0f84eae8a04ed13daa386dbd29ddff906b2d50187d9fa7f3bb6a44", func := "loop.example/quoin/laws.FnLayoutChoices", spec := "fnLayoutChoices", unfollowed := true, recurses := true, named := ["loop.example/quoin/impl.sizeBits"], apart := false, laid := [("loop.example/quoin/impl.sizeBits", laid_loop_example_quoin_impl_sizeBits)], narrowed := true }
def FnLayoutChoicesUptoSaid : Prop := fnLayoutChoicesUptoRow.holds Tryd.pinned (OpenSpec.upto fnLayoutChoicesSpec)

/-- 'laws.FnLayoutOf', WHERE WHAT IT READS IS OF BULK AT MOST 1048576: true; the input reads as it did. -/
def fnLayoutOfUptoRow : OpenClaim := { program := "ytjjcepnadjociaadoor", sum := "b1bb405aed0f84eae8a04ed13daa386dbd29ddff906b2d50187d9fa7f3bb6a44", func := "loop.example/quoin/laws.FnLayoutOf", spec := "fnLayoutOf", unfollowed := true, recurses := true, named := ["loop.example/quoin/impl.sizeBits"], apart := false, laid := [("loop.example/quoin/impl.sizeBits", laid_loop_example_quoin_impl_sizeBits)], narrowed := true }
def FnLayoutOfUptoSaid : Prop := fnLayoutOfUptoRow.holds Tryd.pinned (OpenSpec.upto fnLayoutOfSpec)

/-- 'laws.FnExactLayoutOf', WHERE WHAT IT READS IS OF BULK AT MOST 1048576: true; the input reads as it did. -/
def fnExactLayoutOfUptoRow : OpenClaim := { program := "ytjjcepnadjociaadoor", sum := "b1bb405aed0f84eae8a04ed13daa386dbd29ddff906b2d50187d9fa7f3bb6a44", func := "loop.example/quoin/laws.FnExactLayoutOf", spec := "fnExactLayoutOf", unfollowed := true, recurses := true, named := ["loop.example/quoin/impl.sizeBits"], apart := false, laid := [("loop.example/quoin/impl.sizeBits", laid_loop_example_quoin_impl_sizeBits)], narrowed := true }
def FnExactLayoutOfUptoSaid : Prop := fnExactLayoutOfUptoRow.holds Tryd.pinned (OpenSpec.upto fnExactLayoutOfSpec)

end Rows
end Go.Proofs.YtjjcepnadjociaaDoor
