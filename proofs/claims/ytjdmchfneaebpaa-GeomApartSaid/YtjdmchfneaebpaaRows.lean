/-
  No cell of these rows narrows 'for every input' (looked for: loops, veiled, ifaces, maps, wideKeys, modest, calm, conditions, laid).
  DERIVED. THE GIVEN ROWS OF THIS SEAT. 4 by the template 'for every input the law returns true; each argument reads behind the call as it read before'; 0 by the template 'total and deterministic' (their statements: YtjdmchfneaebpaaTotals.lean).
  GIVEN WITH THE SEED: the statements are not yours to turn. If you find one false, say at which input.
  Laid BY PROGRAM, IN A SANDBOX (cutbox-rows.mjs): the forced cells as the released guide's own fill.sh prints them over the translation 27dec91999df5553… (all of the seat's roots in one cut). By AI agents, Wed Nov 11 2026. No macro, syntax, notation, axiom, sorry.
-/
import Derived.Test.YtjdmchfneaebpaaChecked
import GoSem.Claim
import GoSem.ClaimJoined
import GoSem.ClaimMapViews
import Derived.JoinedTies
import Derived.KernelRfl
namespace Go.Proofs.Ytjdmchfneaebpaa
/- THE CELL 'sum', in the pinned program and in every row, IS THE sha256 OF THE DUMP (.gsa) THAT YtjdmchfneaebpaaProg.lean LOADS. Nothing in Lean hashes anything: it is a label: what it is worth is what the hold of that sum in a sandbox is worth. -/
noncomputable def Try.pinned : Pinned := { name := "ytjdmchfneaebpaa", sum := "27dec91999df5553e5289724cceab70d0903e17ded18cd3feda755ba71c79a11", checked := Try.checked }
namespace Rows
def none {H : Type} : Left H := { results := [], args := [] }

/-- 'quilletlaw02.GeomRows': WHATEVER THE INPUT: true; the input reads as it did. -/
def geomRowsSpec : ChangeSpec := { name := "geomRows", fn := fun _ => fun
  | [d1, d2, d3, d4, d5, d6, d7, d8] => { results := [.lit (.bool true)], args := [d1, d2, d3, d4, d5, d6, d7, d8] }
  | _ => none }
def geomRowsRow : OpenClaim := { program := "ytjdmchfneaebpaa", sum := "27dec91999df5553e5289724cceab70d0903e17ded18cd3feda755ba71c79a11", func := "quillet/quilletlaw02.GeomRows", spec := "geomRows", apart := false }
def GeomRowsSaid : Prop := geomRowsRow.holds Try.pinned (OpenSpec.ofChange geomRowsSpec)

/-- ITS FALSE NEIGHBOUR: 'it returns false'. Refute it at one input. -/
def geomRowsWrong : ChangeSpec := { name := "geomRows", fn := fun _ => fun
  | [d1, d2, d3, d4, d5, d6, d7, d8] => { results := [.lit (.bool false)], args := [d1, d2, d3, d4, d5, d6, d7, d8] }
  | _ => none }
def GeomRowsWrongFalsely : Prop := geomRowsRow.holds Try.pinned (OpenSpec.ofChange geomRowsWrong)

/-- 'quilletlaw02.GeomWithin': WHATEVER THE INPUT: true; the input reads as it did. -/
def geomWithinSpec : ChangeSpec := { name := "geomWithin", fn := fun _ => fun
  | [d1, d2, d3, d4, d5] => { results := [.lit (.bool true)], args := [d1, d2, d3, d4, d5] }
  | _ => none }
def geomWithinRow : OpenClaim := { program := "ytjdmchfneaebpaa", sum := "27dec91999df5553e5289724cceab70d0903e17ded18cd3feda755ba71c79a11", func := "quillet/quilletlaw02.GeomWithin", spec := "geomWithin", apart := false }
def GeomWithinSaid : Prop := geomWithinRow.holds Try.pinned (OpenSpec.ofChange geomWithinSpec)

/-- ITS FALSE NEIGHBOUR: 'it returns false'. Refute it at one input. -/
def geomWithinWrong : ChangeSpec := { name := "geomWithin", fn := fun _ => fun
  | [d1, d2, d3, d4, d5] => { results := [.lit (.bool false)], args := [d1, d2, d3, d4, d5] }
  | _ => none }
def GeomWithinWrongFalsely : Prop := geomWithinRow.holds Try.pinned (OpenSpec.ofChange geomWithinWrong)

/-- 'quilletlaw02.GeomKnown': WHATEVER THE INPUT: true; the input reads as it did. -/
def geomKnownSpec : ChangeSpec := { name := "geomKnown", fn := fun _ => fun
  | [] => { results := [.lit (.bool true)], args := [] }
  | _ => none }
def geomKnownRow : OpenClaim := { program := "ytjdmchfneaebpaa", sum := "27dec91999df5553e5289724cceab70d0903e17ded18cd3feda755ba71c79a11", func := "quillet/quilletlaw02.GeomKnown", spec := "geomKnown", apart := false }
def GeomKnownSaid : Prop := geomKnownRow.holds Try.pinned (OpenSpec.ofChange geomKnownSpec)

/-- ITS FALSE NEIGHBOUR: 'it returns false'. Refute it at one input. -/
def geomKnownWrong : ChangeSpec := { name := "geomKnown", fn := fun _ => fun
  | [] => { results := [.lit (.bool false)], args := [] }
  | _ => none }
def GeomKnownWrongFalsely : Prop := geomKnownRow.holds Try.pinned (OpenSpec.ofChange geomKnownWrong)

/-- 'quilletlaw02.GeomApart': WHATEVER THE INPUT: true; the input reads as it did. -/
def geomApartSpec : ChangeSpec := { name := "geomApart", fn := fun _ => fun
  | [d1, d2] => { results := [.lit (.bool true)], args := [d1, d2] }
  | _ => none }
def geomApartRow : OpenClaim := { program := "ytjdmchfneaebpaa", sum := "27dec91999df5553e5289724cceab70d0903e17ded18cd3feda755ba71c79a11", func := "quillet/quilletlaw02.GeomApart", spec := "geomApart", apart := false }
def GeomApartSaid : Prop := geomApartRow.holds Try.pinned (OpenSpec.ofChange geomApartSpec)

/-- ITS FALSE NEIGHBOUR: 'it returns false'. Refute it at one input. -/
def geomApartWrong : ChangeSpec := { name := "geomApart", fn := fun _ => fun
  | [d1, d2] => { results := [.lit (.bool false)], args := [d1, d2] }
  | _ => none }
def GeomApartWrongFalsely : Prop := geomApartRow.holds Try.pinned (OpenSpec.ofChange geomApartWrong)

/- THE SECOND FORM. 'bulk': how many values and letters a reading holds, each counted each time it is reached (what is shared counts as often as it is met; a slice's spare places count too). A statement '..UptoSaid' is the law's where the arguments, and the package variables that the reading takes, are together of bulk at most 1048576: NARROWER than '..Said'. Prove '..Said' where nothing that the law and all that it calls make is longer than what came in: it says more and counts as full. Else prove '..UptoSaid'. A law counts once. -/
mutual
def uptoBulk {H : Type} : DataW H → Nat
  | .lit (.string bytes) => bytes.length + 1
  | .lit _ => 1
  | .nil => 1
  | .ptr d => uptoBulk d + 1
  | .slice elems spare => uptoBulkAll elems + uptoBulkAll spare + 1
  | .agg parts => uptoBulkAll parts + 1
  | .iface _ d => uptoBulk d + 1
  | .map entries => uptoBulkEntries entries + 1
  | .held _ => 1
def uptoBulkAll {H : Type} : List (DataW H) → Nat
  | [] => 0
  | d :: r => uptoBulk d + uptoBulkAll r
def uptoBulkEntries {H : Type} : List (Lit × DataW H) → Nat
  | [] => 0
  | x :: r => uptoBulkEntry x + uptoBulkEntries r
def uptoBulkEntry {H : Type} : Lit × DataW H → Nat
  | (.string bytes, d) => bytes.length + uptoBulk d + 1
  | (_, d) => uptoBulk d + 1
 end
def uptoSmall : (H : Type) → List (DataW H) → Bool := fun _ ds => decide (uptoBulkAll ds ≤ 1048576)
def OpenSpec.upto (s : _root_.Go.ChangeSpec) : _root_.Go.OpenSpec := { _root_.Go.OpenSpec.ofChange s with cond := some uptoSmall }

/-- 'quilletlaw02.GeomRows', WHERE WHAT IT READS IS OF BULK AT MOST 1048576: true; the input reads as it did. -/
def geomRowsUptoRow : OpenClaim := { program := "ytjdmchfneaebpaa", sum := "27dec91999df5553e5289724cceab70d0903e17ded18cd3feda755ba71c79a11", func := "quillet/quilletlaw02.GeomRows", spec := "geomRows", apart := false, narrowed := true }
def GeomRowsUptoSaid : Prop := geomRowsUptoRow.holds Try.pinned (OpenSpec.upto geomRowsSpec)

/-- 'quilletlaw02.GeomWithin', WHERE WHAT IT READS IS OF BULK AT MOST 1048576: true; the input reads as it did. -/
def geomWithinUptoRow : OpenClaim := { program := "ytjdmchfneaebpaa", sum := "27dec91999df5553e5289724cceab70d0903e17ded18cd3feda755ba71c79a11", func := "quillet/quilletlaw02.GeomWithin", spec := "geomWithin", apart := false, narrowed := true }
def GeomWithinUptoSaid : Prop := geomWithinUptoRow.holds Try.pinned (OpenSpec.upto geomWithinSpec)

/-- 'quilletlaw02.GeomKnown', WHERE WHAT IT READS IS OF BULK AT MOST 1048576: true; the input reads as it did. -/
def geomKnownUptoRow : OpenClaim := { program := "ytjdmchfneaebpaa", sum := "27dec91999df5553e5289724cceab70d0903e17ded18cd3feda755ba71c79a11", func := "quillet/quilletlaw02.GeomKnown", spec := "geomKnown", apart := false, narrowed := true }
def GeomKnownUptoSaid : Prop := geomKnownUptoRow.holds Try.pinned (OpenSpec.upto geomKnownSpec)

/-- 'quilletlaw02.GeomApart', WHERE WHAT IT READS IS OF BULK AT MOST 1048576: true; the input reads as it did. -/
def geomApartUptoRow : OpenClaim := { program := "ytjdmchfneaebpaa", sum := "27dec91999df5553e5289724cceab70d0903e17ded18cd3feda755ba71c79a11", func := "quillet/quilletlaw02.GeomApart", spec := "geomApart", apart := false, narrowed := true }
def GeomApartUptoSaid : Prop := geomApartUptoRow.holds Try.pinned (OpenSpec.upto geomApartSpec)

end Rows
end Go.Proofs.Ytjdmchfneaebpaa
