/-
  No cell of these rows narrows 'for every input' (looked for: loops, veiled, ifaces, maps, wideKeys, modest, calm, conditions, laid).
  DERIVED. THE GIVEN ROWS OF THIS SEAT. 5 by the template 'for every input the law returns true; each argument reads behind the call as it read before'; 0 by the template 'total and deterministic' (their statements: YtjbcffcjepkbgaaTotals.lean).
  GIVEN WITH THE SEED: the statements are not yours to turn. If you find one false, say at which input.
  Laid BY PROGRAM, IN A SANDBOX (cutbox-rows.mjs): the forced cells as the released guide's own fill.sh prints them over the translation b31dd2c55f8f7e3d… (all of the seat's roots in one cut). By AI agents, Wed Nov 11 2026. No macro, syntax, notation, axiom, sorry.
-/
import Derived.Test.YtjbcffcjepkbgaaChecked
import GoSem.Claim
import GoSem.ClaimJoined
import GoSem.ClaimMapViews
import Derived.JoinedTies
import Derived.KernelRfl
namespace Go.Proofs.Ytjbcffcjepkbgaa
/- THE CELL 'sum', in the pinned program and in every row, IS THE sha256 OF THE DUMP (.gsa) THAT YtjbcffcjepkbgaaProg.lean LOADS. Nothing in Lean hashes anything: it is a label: what it is worth is what the hold of that sum in a sandbox is worth. -/
noncomputable def Try.pinned : Pinned := { name := "ytjbcffcjepkbgaa", sum := "b31dd2c55f8f7e3de79f8a3886849a9f6e79d11ef1484e4250434b1c93634622", checked := Try.checked }
namespace Rows
def none {H : Type} : Left H := { results := [], args := [] }

/-- 'quilletlaw06.ClassKnown': WHATEVER THE INPUT: true; the input reads as it did. -/
def classKnownSpec : ChangeSpec := { name := "classKnown", fn := fun _ => fun
  | [] => { results := [.lit (.bool true)], args := [] }
  | _ => none }
def classKnownRow : OpenClaim := { program := "ytjbcffcjepkbgaa", sum := "b31dd2c55f8f7e3de79f8a3886849a9f6e79d11ef1484e4250434b1c93634622", func := "quillet/quilletlaw06.ClassKnown", spec := "classKnown", apart := false }
def ClassKnownSaid : Prop := classKnownRow.holds Try.pinned (OpenSpec.ofChange classKnownSpec)

/-- ITS FALSE NEIGHBOUR: 'it returns false'. Refute it at one input. -/
def classKnownWrong : ChangeSpec := { name := "classKnown", fn := fun _ => fun
  | [] => { results := [.lit (.bool false)], args := [] }
  | _ => none }
def ClassKnownWrongFalsely : Prop := classKnownRow.holds Try.pinned (OpenSpec.ofChange classKnownWrong)

/-- 'quilletlaw06.ClassTells': WHATEVER THE INPUT: true; the input reads as it did. -/
def classTellsSpec : ChangeSpec := { name := "classTells", fn := fun _ => fun
  | [d1, d2, d3, d4] => { results := [.lit (.bool true)], args := [d1, d2, d3, d4] }
  | _ => none }
def classTellsRow : OpenClaim := { program := "ytjbcffcjepkbgaa", sum := "b31dd2c55f8f7e3de79f8a3886849a9f6e79d11ef1484e4250434b1c93634622", func := "quillet/quilletlaw06.ClassTells", spec := "classTells", apart := false }
def ClassTellsSaid : Prop := classTellsRow.holds Try.pinned (OpenSpec.ofChange classTellsSpec)

/-- ITS FALSE NEIGHBOUR: 'it returns false'. Refute it at one input. -/
def classTellsWrong : ChangeSpec := { name := "classTells", fn := fun _ => fun
  | [d1, d2, d3, d4] => { results := [.lit (.bool false)], args := [d1, d2, d3, d4] }
  | _ => none }
def ClassTellsWrongFalsely : Prop := classTellsRow.holds Try.pinned (OpenSpec.ofChange classTellsWrong)

/-- 'quilletlaw06.ClassFits': WHATEVER THE INPUT: true; the input reads as it did. -/
def classFitsSpec : ChangeSpec := { name := "classFits", fn := fun _ => fun
  | [d1, d2, d3] => { results := [.lit (.bool true)], args := [d1, d2, d3] }
  | _ => none }
def classFitsRow : OpenClaim := { program := "ytjbcffcjepkbgaa", sum := "b31dd2c55f8f7e3de79f8a3886849a9f6e79d11ef1484e4250434b1c93634622", func := "quillet/quilletlaw06.ClassFits", spec := "classFits", apart := false }
def ClassFitsSaid : Prop := classFitsRow.holds Try.pinned (OpenSpec.ofChange classFitsSpec)

/-- ITS FALSE NEIGHBOUR: 'it returns false'. Refute it at one input. -/
def classFitsWrong : ChangeSpec := { name := "classFits", fn := fun _ => fun
  | [d1, d2, d3] => { results := [.lit (.bool false)], args := [d1, d2, d3] }
  | _ => none }
def ClassFitsWrongFalsely : Prop := classFitsRow.holds Try.pinned (OpenSpec.ofChange classFitsWrong)

/-- 'quilletlaw06.ClassBlocks': WHATEVER THE INPUT: true; the input reads as it did. -/
def classBlocksSpec : ChangeSpec := { name := "classBlocks", fn := fun _ => fun
  | [d1, d2, d3, d4] => { results := [.lit (.bool true)], args := [d1, d2, d3, d4] }
  | _ => none }
def classBlocksRow : OpenClaim := { program := "ytjbcffcjepkbgaa", sum := "b31dd2c55f8f7e3de79f8a3886849a9f6e79d11ef1484e4250434b1c93634622", func := "quillet/quilletlaw06.ClassBlocks", spec := "classBlocks", apart := false }
def ClassBlocksSaid : Prop := classBlocksRow.holds Try.pinned (OpenSpec.ofChange classBlocksSpec)

/-- ITS FALSE NEIGHBOUR: 'it returns false'. Refute it at one input. -/
def classBlocksWrong : ChangeSpec := { name := "classBlocks", fn := fun _ => fun
  | [d1, d2, d3, d4] => { results := [.lit (.bool false)], args := [d1, d2, d3, d4] }
  | _ => none }
def ClassBlocksWrongFalsely : Prop := classBlocksRow.holds Try.pinned (OpenSpec.ofChange classBlocksWrong)

/-- 'quilletlaw06.ClassWaste': WHATEVER THE INPUT: true; the input reads as it did. -/
def classWasteSpec : ChangeSpec := { name := "classWaste", fn := fun _ => fun
  | [d1, d2, d3, d4, d5] => { results := [.lit (.bool true)], args := [d1, d2, d3, d4, d5] }
  | _ => none }
def classWasteRow : OpenClaim := { program := "ytjbcffcjepkbgaa", sum := "b31dd2c55f8f7e3de79f8a3886849a9f6e79d11ef1484e4250434b1c93634622", func := "quillet/quilletlaw06.ClassWaste", spec := "classWaste", apart := false }
def ClassWasteSaid : Prop := classWasteRow.holds Try.pinned (OpenSpec.ofChange classWasteSpec)

/-- ITS FALSE NEIGHBOUR: 'it returns false'. Refute it at one input. -/
def classWasteWrong : ChangeSpec := { name := "classWaste", fn := fun _ => fun
  | [d1, d2, d3, d4, d5] => { results := [.lit (.bool false)], args := [d1, d2, d3, d4, d5] }
  | _ => none }
def ClassWasteWrongFalsely : Prop := classWasteRow.holds Try.pinned (OpenSpec.ofChange classWasteWrong)

/- THE SECOND FORM. 'bulk': how many values and letters a reading holds, each counted each time it is reached (what is shared counts as often as it is met; a slice's spare places count too). A statement '..UptoSaid' is the law's where the arguments, and the package variables that the reading takes, are together of bulk at most 1048576: NARROWER than '..Said'. Prove '..Said' where nothing that the law and all that it calls make is longer than what came in: it says more and counts as full. Else prove '..UptoSaid'. A law counts once. -/
mutual
def uptoBulk {H : Type} : DataW H → Nat
  | .lit (.string bytes) => bytes.length + 1
  | .lit _ => 1
  | .nil => 1
  | .ptr d => uptoBulk d + 1
  | .slice elems spare => uptoBulkAll elems + uptoBulkAll spare + 1
  | .agg parts => uptoBulkAll parts + 1
  | .iface _ d => uptoBulk d + 1
  | .map entries => uptoBulkEntries entries + 1
  | .held _ => 1
def uptoBulkAll {H : Type} : List (DataW H) → Nat
  | [] => 0
  | d :: r => uptoBulk d + uptoBulkAll r
def uptoBulkEntries {H : Type} : List (Lit × DataW H) → Nat
  | [] => 0
  | x :: r => uptoBulkEntry x + uptoBulkEntries r
def uptoBulkEntry {H : Type} : Lit × DataW H → Nat
  | (.string bytes, d) => bytes.length + uptoBulk d + 1
  | (_, d) => uptoBulk d + 1
 end
def uptoSmall : (H : Type) → List (DataW H) → Bool := fun _ ds => decide (uptoBulkAll ds ≤ 1048576)
def OpenSpec.upto (s : _root_.Go.ChangeSpec) : _root_.Go.OpenSpec := { _root_.Go.OpenSpec.ofChange s with cond := some uptoSmall }

/-- 'quilletlaw06.ClassKnown', WHERE WHAT IT READS IS OF BULK AT MOST 1048576: true; the input reads as it did. -/
def classKnownUptoRow : OpenClaim := { program := "ytjbcffcjepkbgaa", sum := "b31dd2c55f8f7e3de79f8a3886849a9f6e79d11ef1484e4250434b1c93634622", func := "quillet/quilletlaw06.ClassKnown", spec := "classKnown", apart := false, narrowed := true }
def ClassKnownUptoSaid : Prop := classKnownUptoRow.holds Try.pinned (OpenSpec.upto classKnownSpec)

/-- 'quilletlaw06.ClassTells', WHERE WHAT IT READS IS OF BULK AT MOST 1048576: true; the input reads as it did. -/
def classTellsUptoRow : OpenClaim := { program := "ytjbcffcjepkbgaa", sum := "b31dd2c55f8f7e3de79f8a3886849a9f6e79d11ef1484e4250434b1c93634622", func := "quillet/quilletlaw06.ClassTells", spec := "classTells", apart := false, narrowed := true }
def ClassTellsUptoSaid : Prop := classTellsUptoRow.holds Try.pinned (OpenSpec.upto classTellsSpec)

/-- 'quilletlaw06.ClassFits', WHERE WHAT IT READS IS OF BULK AT MOST 1048576: true; the input reads as it did. -/
def classFitsUptoRow : OpenClaim := { program := "ytjbcffcjepkbgaa", sum := "b31dd2c55f8f7e3de79f8a3886849a9f6e79d11ef1484e4250434b1c93634622", func := "quillet/quilletlaw06.ClassFits", spec := "classFits", apart := false, narrowed := true }
def ClassFitsUptoSaid : Prop := classFitsUptoRow.holds Try.pinned (OpenSpec.upto classFitsSpec)

/-- 'quilletlaw06.ClassBlocks', WHERE WHAT IT READS IS OF BULK AT MOST 1048576: true; the input reads as it did. -/
def classBlocksUptoRow : OpenClaim := { program := "ytjbcffcjepkbgaa", sum := "b31dd2c55f8f7e3de79f8a3886849a9f6e79d11ef1484e4250434b1c93634622", func := "quillet/quilletlaw06.ClassBlocks", spec := "classBlocks", apart := false, narrowed := true }
def ClassBlocksUptoSaid : Prop := classBlocksUptoRow.holds Try.pinned (OpenSpec.upto classBlocksSpec)

/-- 'quilletlaw06.ClassWaste', WHERE WHAT IT READS IS OF BULK AT MOST 1048576: true; the input reads as it did. -/
def classWasteUptoRow : OpenClaim := { program := "ytjbcffcjepkbgaa", sum := "b31dd2c55f8f7e3de79f8a3886849a9f6e79d11ef1484e4250434b1c93634622", func := "quillet/quilletlaw06.ClassWaste", spec := "classWaste", apart := false, narrowed := true }
def ClassWasteUptoSaid : Prop := classWasteUptoRow.holds Try.pinned (OpenSpec.upto classWasteSpec)

end Rows
end Go.Proofs.Ytjbcffcjepkbgaa
