/-
  NARROWER THAN 'FOR EVERY INPUT', by the rows' own cells (each row's printed sentence says how): FnExactNodeSame: loops.
  DERIVED. THE GIVEN ROWS OF THIS SEAT. 3 by the template 'for every input the law returns true; each argument reads behind the call as it read before'; 0 by the template 'total and deterministic' (their statements: YtjiidjlmdibhdaaTotals.lean).
  GIVEN WITH THE SEED: the statements are not yours to turn. If you find one false, say at which input.
  Laid BY PROGRAM, IN A SANDBOX (cutbox-rows.mjs): the forced cells as the released guide's own fill.sh prints them over the translation d446f9d387685cd5… (all of the seat's roots in one cut). By AI agents, Wed Nov 11 2026. No macro, syntax, notation, axiom, sorry.
-/
import Derived.Test.YtjiidjlmdibhdaaChecked
import GoSem.Claim
import GoSem.ClaimJoined
import GoSem.ClaimMapViews
import Derived.JoinedTies
import Derived.KernelRfl
namespace Go.Proofs.Ytjiidjlmdibhdaa
/- THE CELL 'sum', in the pinned program and in every row, IS THE sha256 OF THE DUMP (.gsa) THAT YtjiidjlmdibhdaaProg.lean LOADS. Nothing in Lean hashes anything: it is a label: what it is worth is what the hold of that sum in a sandbox is worth. -/
noncomputable def Try.pinned : Pinned := { name := "ytjiidjlmdibhdaa", sum := "d446f9d387685cd531ac8df4dc37aaeba8a7188f26c70370aa0b52ac3fecb74c", checked := Try.checked }
namespace Rows
def none {H : Type} : Left H := { results := [], args := [] }

/-- 'laws.FnExactNodeSame': WHATEVER THE INPUT: true; the input reads as it did. -/
def fnExactNodeSameSpec : ChangeSpec := { name := "fnExactNodeSame", fn := fun _ => fun
  | [d1, d2] => { results := [.lit (.bool true)], args := [d1, d2] }
  | _ => none }
def fnExactNodeSameRow : OpenClaim := { program := "ytjiidjlmdibhdaa", sum := "d446f9d387685cd531ac8df4dc37aaeba8a7188f26c70370aa0b52ac3fecb74c", func := "loop.example/quoin/laws.FnExactNodeSame", spec := "fnExactNodeSame", unfollowed := true, recurses := true, loops := true, apart := false }
def FnExactNodeSameSaid : Prop := fnExactNodeSameRow.holds Try.pinned (OpenSpec.ofChange fnExactNodeSameSpec)

/-- ITS FALSE NEIGHBOUR: 'it returns false'. Refute it at one input. -/
def fnExactNodeSameWrong : ChangeSpec := { name := "fnExactNodeSame", fn := fun _ => fun
  | [d1, d2] => { results := [.lit (.bool false)], args := [d1, d2] }
  | _ => none }
def FnExactNodeSameWrongFalsely : Prop := fnExactNodeSameRow.holds Try.pinned (OpenSpec.ofChange fnExactNodeSameWrong)

/-- 'laws.FnNodeSame': WHATEVER THE INPUT: true; the input reads as it did. -/
def fnNodeSameSpec : ChangeSpec := { name := "fnNodeSame", fn := fun _ => fun
  | [d] => { results := [.lit (.bool true)], args := [d] }
  | _ => none }
def fnNodeSameRow : OpenClaim := { program := "ytjiidjlmdibhdaa", sum := "d446f9d387685cd531ac8df4dc37aaeba8a7188f26c70370aa0b52ac3fecb74c", func := "loop.example/quoin/laws.FnNodeSame", spec := "fnNodeSame", unfollowed := true, recurses := true, apart := false }
def FnNodeSameSaid : Prop := fnNodeSameRow.holds Try.pinned (OpenSpec.ofChange fnNodeSameSpec)

/-- ITS FALSE NEIGHBOUR: 'it returns false'. Refute it at one input. -/
def fnNodeSameWrong : ChangeSpec := { name := "fnNodeSame", fn := fun _ => fun
  | [d] => { results := [.lit (.bool false)], args := [d] }
  | _ => none }
def FnNodeSameWrongFalsely : Prop := fnNodeSameRow.holds Try.pinned (OpenSpec.ofChange fnNodeSameWrong)

/-- 'laws.FnExactTextNode': WHATEVER THE INPUT: true; the input reads as it did. -/
def fnExactTextNodeSpec : ChangeSpec := { name := "fnExactTextNode", fn := fun _ => fun
  | [d] => { results := [.lit (.bool true)], args := [d] }
  | _ => none }
def fnExactTextNodeRow : OpenClaim := { program := "ytjiidjlmdibhdaa", sum := "d446f9d387685cd531ac8df4dc37aaeba8a7188f26c70370aa0b52ac3fecb74c", func := "loop.example/quoin/laws.FnExactTextNode", spec := "fnExactTextNode", inPlace := ["internal/bytealg.IndexByteString", "internal/bytealg.IndexString"], recurses := true, named := ["internal/bytealg.MaxLen"], apart := false }
def FnExactTextNodeSaid : Prop := fnExactTextNodeRow.holds Try.pinned (OpenSpec.ofChange fnExactTextNodeSpec)

/-- ITS FALSE NEIGHBOUR: 'it returns false'. Refute it at one input. -/
def fnExactTextNodeWrong : ChangeSpec := { name := "fnExactTextNode", fn := fun _ => fun
  | [d] => { results := [.lit (.bool false)], args := [d] }
  | _ => none }
def FnExactTextNodeWrongFalsely : Prop := fnExactTextNodeRow.holds Try.pinned (OpenSpec.ofChange fnExactTextNodeWrong)

/- THE SECOND FORM. 'bulk': how many values and letters a reading holds, each counted each time it is reached (what is shared counts as often as it is met; a slice's spare places count too). A statement '..UptoSaid' is the law's where the arguments, and the package variables that the reading takes, are together of bulk at most 1048576: NARROWER than '..Said'. Prove '..Said' where nothing that the law and all that it calls make is longer than what came in: it says more and counts as full. Else prove '..UptoSaid'. A law counts once. -/
mutual
def uptoBulk {H : Type} : DataW H → Nat
  | .lit (.string bytes) => bytes.length + 1
  | .lit _ => 1
  | .nil => 1
  | .ptr d => uptoBulk d + 1
  | .slice elems spare => uptoBulkAll elems + uptoBulkAll spare + 1
  | .agg parts => uptoBulkAll parts + 1
  | .iface _ d => uptoBulk d + 1
  | .map entries => uptoBulkEntries entries + 1
  | .held _ => 1
def uptoBulkAll {H : Type} : List (DataW H) → Nat
  | [] => 0
  | d :: r => uptoBulk d + uptoBulkAll r
def uptoBulkEntries {H : Type} : List (Lit × DataW H) → Nat
  | [] => 0
  | x :: r => uptoBulkEntry x + uptoBulkEntries r
def uptoBulkEntry {H : Type} : Lit × DataW H → Nat
  | (.string bytes, d) => bytes.length + uptoBulk d + 1
  | (_, d) => uptoBulk d + 1
 end
def uptoSmall : (H : Type) → List (DataW H) → Bool := fun _ ds => decide (uptoBulkAll ds ≤ 1048576)
def OpenSpec.upto (s : _root_.Go.ChangeSpec) : _root_.Go.OpenSpec := { _root_.Go.OpenSpec.ofChange s with cond := some uptoSmall }

/-- 'laws.FnExactNodeSame', WHERE WHAT IT READS IS OF BULK AT MOST 1048576: true; the input reads as it did. -/
def fnExactNodeSameUptoRow : OpenClaim := { program := "ytjiidjlmdibhdaa", sum := "d446f9d387685cd531ac8df4dc37aaeba8a7188f26c70370aa0b52ac3fecb74c", func := "loop.example/quoin/laws.FnExactNodeSame", spec := "fnExactNodeSame", unfollowed := true, recurses := true, loops := true, apart := false, narrowed := true }
def FnExactNodeSameUptoSaid : Prop := fnExactNodeSameUptoRow.holds Try.pinned (OpenSpec.upto fnExactNodeSameSpec)

/-- 'laws.FnNodeSame', WHERE WHAT IT READS IS OF BULK AT MOST 1048576: true; the input reads as it did. -/
def fnNodeSameUptoRow : OpenClaim := { program := "ytjiidjlmdibhdaa", sum := "d446f9d387685cd531ac8df4dc37aaeba8a7188f26c70370aa0b52ac3fecb74c", func := "loop.example/quoin/laws.FnNodeSame", spec := "fnNodeSame", unfollowed := true, recurses := true, apart := false, narrowed := true }
def FnNodeSameUptoSaid : Prop := fnNodeSameUptoRow.holds Try.pinned (OpenSpec.upto fnNodeSameSpec)

/-- 'laws.FnExactTextNode', WHERE WHAT IT READS IS OF BULK AT MOST 1048576: true; the input reads as it did. -/
def fnExactTextNodeUptoRow : OpenClaim := { program := "ytjiidjlmdibhdaa", sum := "d446f9d387685cd531ac8df4dc37aaeba8a7188f26c70370aa0b52ac3fecb74c", func := "loop.example/quoin/laws.FnExactTextNode", spec := "fnExactTextNode", inPlace := ["internal/bytealg.IndexByteString", "internal/bytealg.IndexString"], recurses := true, named := ["internal/bytealg.MaxLen"], apart := false, narrowed := true }
def FnExactTextNodeUptoSaid : Prop := fnExactTextNodeUptoRow.holds Try.pinned (OpenSpec.upto fnExactTextNodeSpec)

end Rows
end Go.Proofs.Ytjiidjlmdibhdaa
