/-
  No cell of these rows narrows 'for every input' (looked for: loops, veiled, ifaces, maps, wideKeys, modest, calm, conditions, laid).
  DERIVED. THE GIVEN ROWS OF THIS SEAT. 11 by the template 'for every input the law returns true; each argument reads behind the call as it read before'; 0 by the template 'total and deterministic' (their statements: YtmdagppeeejikaaTotals.lean).
  GIVEN WITH THE SEED: the statements are not yours to turn. If you find one false, say at which input.
  Laid BY PROGRAM, IN A SANDBOX (cutbox-rows.mjs): the forced cells as the released guide's own fill.sh prints them over the translation 7d422aabf42f8813… (all of the seat's roots in one cut). By AI agents, Wed Nov 11 2026. No macro, syntax, notation, axiom, sorry.
-/
import Derived.Test.YtmdagppeeejikaaChecked
import GoSem.Claim
import GoSem.ClaimJoined
import GoSem.ClaimMapViews
import Derived.JoinedTies
import Derived.KernelRfl
namespace Go.Proofs.Ytmdagppeeejikaa
/- THE CELL 'sum', in the pinned program and in every row, IS THE sha256 OF THE DUMP (.gsa) THAT YtmdagppeeejikaaProg.lean LOADS. Nothing in Lean hashes anything: it is a label: what it is worth is what the hold of that sum in a sandbox is worth. -/
noncomputable def Try.pinned : Pinned := { name := "ytmdagppeeejikaa", sum := "7d422aabf42f8813861636769baa9b7ad885b6c43ee2d87d7111054040ec7049", checked := Try.checked }
namespace Rows
def none {H : Type} : Left H := { results := [], args := [] }

/-- 'quilletlaw03.MemOnce': WHATEVER THE INPUT: true; the input reads as it did. -/
def memOnceSpec : ChangeSpec := { name := "memOnce", fn := fun _ => fun
  | [d1, d2, d3, d4, d5] => { results := [.lit (.bool true)], args := [d1, d2, d3, d4, d5] }
  | _ => none }
def memOnceRow : OpenClaim := { program := "ytmdagppeeejikaa", sum := "7d422aabf42f8813861636769baa9b7ad885b6c43ee2d87d7111054040ec7049", func := "quillet/quilletlaw03.MemOnce", spec := "memOnce", unfollowed := true, recurses := true, apart := false }
def MemOnceSaid : Prop := memOnceRow.holds Try.pinned (OpenSpec.ofChange memOnceSpec)

/-- ITS FALSE NEIGHBOUR: 'it returns false'. Refute it at one input. -/
def memOnceWrong : ChangeSpec := { name := "memOnce", fn := fun _ => fun
  | [d1, d2, d3, d4, d5] => { results := [.lit (.bool false)], args := [d1, d2, d3, d4, d5] }
  | _ => none }
def MemOnceWrongFalsely : Prop := memOnceRow.holds Try.pinned (OpenSpec.ofChange memOnceWrong)

/-- 'quilletlaw03.MemAdds': WHATEVER THE INPUT: true; the input reads as it did. -/
def memAddsSpec : ChangeSpec := { name := "memAdds", fn := fun _ => fun
  | [d1, d2, d3] => { results := [.lit (.bool true)], args := [d1, d2, d3] }
  | _ => none }
def memAddsRow : OpenClaim := { program := "ytmdagppeeejikaa", sum := "7d422aabf42f8813861636769baa9b7ad885b6c43ee2d87d7111054040ec7049", func := "quillet/quilletlaw03.MemAdds", spec := "memAdds", unfollowed := true, recurses := true, apart := false }
def MemAddsSaid : Prop := memAddsRow.holds Try.pinned (OpenSpec.ofChange memAddsSpec)

/-- ITS FALSE NEIGHBOUR: 'it returns false'. Refute it at one input. -/
def memAddsWrong : ChangeSpec := { name := "memAdds", fn := fun _ => fun
  | [d1, d2, d3] => { results := [.lit (.bool false)], args := [d1, d2, d3] }
  | _ => none }
def MemAddsWrongFalsely : Prop := memAddsRow.holds Try.pinned (OpenSpec.ofChange memAddsWrong)

/-- 'quilletlaw03.MemOwner': WHATEVER THE INPUT: true; the input reads as it did. -/
def memOwnerSpec : ChangeSpec := { name := "memOwner", fn := fun _ => fun
  | [d] => { results := [.lit (.bool true)], args := [d] }
  | _ => none }
def memOwnerRow : OpenClaim := { program := "ytmdagppeeejikaa", sum := "7d422aabf42f8813861636769baa9b7ad885b6c43ee2d87d7111054040ec7049", func := "quillet/quilletlaw03.MemOwner", spec := "memOwner", unfollowed := true, recurses := true, apart := false }
def MemOwnerSaid : Prop := memOwnerRow.holds Try.pinned (OpenSpec.ofChange memOwnerSpec)

/-- ITS FALSE NEIGHBOUR: 'it returns false'. Refute it at one input. -/
def memOwnerWrong : ChangeSpec := { name := "memOwner", fn := fun _ => fun
  | [d] => { results := [.lit (.bool false)], args := [d] }
  | _ => none }
def MemOwnerWrongFalsely : Prop := memOwnerRow.holds Try.pinned (OpenSpec.ofChange memOwnerWrong)

/-- 'quilletlaw03.MemDoes': WHATEVER THE INPUT: true; the input reads as it did. -/
def memDoesSpec : ChangeSpec := { name := "memDoes", fn := fun _ => fun
  | [d1, d2, d3] => { results := [.lit (.bool true)], args := [d1, d2, d3] }
  | _ => none }
def memDoesRow : OpenClaim := { program := "ytmdagppeeejikaa", sum := "7d422aabf42f8813861636769baa9b7ad885b6c43ee2d87d7111054040ec7049", func := "quillet/quilletlaw03.MemDoes", spec := "memDoes", unfollowed := true, recurses := true, apart := false }
def MemDoesSaid : Prop := memDoesRow.holds Try.pinned (OpenSpec.ofChange memDoesSpec)

/-- ITS FALSE NEIGHBOUR: 'it returns false'. Refute it at one input. -/
def memDoesWrong : ChangeSpec := { name := "memDoes", fn := fun _ => fun
  | [d1, d2, d3] => { results := [.lit (.bool false)], args := [d1, d2, d3] }
  | _ => none }
def MemDoesWrongFalsely : Prop := memDoesRow.holds Try.pinned (OpenSpec.ofChange memDoesWrong)

/-- 'quilletlaw04.PortCounts': WHATEVER THE INPUT: true; the input reads as it did. -/
def portCountsSpec : ChangeSpec := { name := "portCounts", fn := fun _ => fun
  | [d] => { results := [.lit (.bool true)], args := [d] }
  | _ => none }
def portCountsRow : OpenClaim := { program := "ytmdagppeeejikaa", sum := "7d422aabf42f8813861636769baa9b7ad885b6c43ee2d87d7111054040ec7049", func := "quillet/quilletlaw04.PortCounts", spec := "portCounts", unfollowed := true, recurses := true, apart := false }
def PortCountsSaid : Prop := portCountsRow.holds Try.pinned (OpenSpec.ofChange portCountsSpec)

/-- ITS FALSE NEIGHBOUR: 'it returns false'. Refute it at one input. -/
def portCountsWrong : ChangeSpec := { name := "portCounts", fn := fun _ => fun
  | [d] => { results := [.lit (.bool false)], args := [d] }
  | _ => none }
def PortCountsWrongFalsely : Prop := portCountsRow.holds Try.pinned (OpenSpec.ofChange portCountsWrong)

/-- 'quilletlaw04.PortOut': WHATEVER THE INPUT: true; the input reads as it did. -/
def portOutSpec : ChangeSpec := { name := "portOut", fn := fun _ => fun
  | [d1, d2, d3] => { results := [.lit (.bool true)], args := [d1, d2, d3] }
  | _ => none }
def portOutRow : OpenClaim := { program := "ytmdagppeeejikaa", sum := "7d422aabf42f8813861636769baa9b7ad885b6c43ee2d87d7111054040ec7049", func := "quillet/quilletlaw04.PortOut", spec := "portOut", unfollowed := true, recurses := true, apart := false }
def PortOutSaid : Prop := portOutRow.holds Try.pinned (OpenSpec.ofChange portOutSpec)

/-- ITS FALSE NEIGHBOUR: 'it returns false'. Refute it at one input. -/
def portOutWrong : ChangeSpec := { name := "portOut", fn := fun _ => fun
  | [d1, d2, d3] => { results := [.lit (.bool false)], args := [d1, d2, d3] }
  | _ => none }
def PortOutWrongFalsely : Prop := portOutRow.holds Try.pinned (OpenSpec.ofChange portOutWrong)

/-- 'quilletlaw03.MemKnown': WHATEVER THE INPUT: true; the input reads as it did. -/
def memKnownSpec : ChangeSpec := { name := "memKnown", fn := fun _ => fun
  | [] => { results := [.lit (.bool true)], args := [] }
  | _ => none }
def memKnownRow : OpenClaim := { program := "ytmdagppeeejikaa", sum := "7d422aabf42f8813861636769baa9b7ad885b6c43ee2d87d7111054040ec7049", func := "quillet/quilletlaw03.MemKnown", spec := "memKnown", unfollowed := true, recurses := true, apart := false }
def MemKnownSaid : Prop := memKnownRow.holds Try.pinned (OpenSpec.ofChange memKnownSpec)

/-- ITS FALSE NEIGHBOUR: 'it returns false'. Refute it at one input. -/
def memKnownWrong : ChangeSpec := { name := "memKnown", fn := fun _ => fun
  | [] => { results := [.lit (.bool false)], args := [] }
  | _ => none }
def MemKnownWrongFalsely : Prop := memKnownRow.holds Try.pinned (OpenSpec.ofChange memKnownWrong)

/-- 'quilletlaw03.MemStays': WHATEVER THE INPUT: true; the input reads as it did. -/
def memStaysSpec : ChangeSpec := { name := "memStays", fn := fun _ => fun
  | [d1, d2, d3, d4, d5] => { results := [.lit (.bool true)], args := [d1, d2, d3, d4, d5] }
  | _ => none }
def memStaysRow : OpenClaim := { program := "ytmdagppeeejikaa", sum := "7d422aabf42f8813861636769baa9b7ad885b6c43ee2d87d7111054040ec7049", func := "quillet/quilletlaw03.MemStays", spec := "memStays", unfollowed := true, recurses := true, apart := false }
def MemStaysSaid : Prop := memStaysRow.holds Try.pinned (OpenSpec.ofChange memStaysSpec)

/-- ITS FALSE NEIGHBOUR: 'it returns false'. Refute it at one input. -/
def memStaysWrong : ChangeSpec := { name := "memStays", fn := fun _ => fun
  | [d1, d2, d3, d4, d5] => { results := [.lit (.bool false)], args := [d1, d2, d3, d4, d5] }
  | _ => none }
def MemStaysWrongFalsely : Prop := memStaysRow.holds Try.pinned (OpenSpec.ofChange memStaysWrong)

/-- 'quilletlaw04.PortPlay': WHATEVER THE INPUT: true; the input reads as it did. -/
def portPlaySpec : ChangeSpec := { name := "portPlay", fn := fun _ => fun
  | [d1, d2, d3, d4] => { results := [.lit (.bool true)], args := [d1, d2, d3, d4] }
  | _ => none }
def portPlayRow : OpenClaim := { program := "ytmdagppeeejikaa", sum := "7d422aabf42f8813861636769baa9b7ad885b6c43ee2d87d7111054040ec7049", func := "quillet/quilletlaw04.PortPlay", spec := "portPlay", unfollowed := true, recurses := true, apart := false }
def PortPlaySaid : Prop := portPlayRow.holds Try.pinned (OpenSpec.ofChange portPlaySpec)

/-- ITS FALSE NEIGHBOUR: 'it returns false'. Refute it at one input. -/
def portPlayWrong : ChangeSpec := { name := "portPlay", fn := fun _ => fun
  | [d1, d2, d3, d4] => { results := [.lit (.bool false)], args := [d1, d2, d3, d4] }
  | _ => none }
def PortPlayWrongFalsely : Prop := portPlayRow.holds Try.pinned (OpenSpec.ofChange portPlayWrong)

/-- 'quilletlaw04.PortKnown': WHATEVER THE INPUT: true; the input reads as it did. -/
def portKnownSpec : ChangeSpec := { name := "portKnown", fn := fun _ => fun
  | [] => { results := [.lit (.bool true)], args := [] }
  | _ => none }
def portKnownRow : OpenClaim := { program := "ytmdagppeeejikaa", sum := "7d422aabf42f8813861636769baa9b7ad885b6c43ee2d87d7111054040ec7049", func := "quillet/quilletlaw04.PortKnown", spec := "portKnown", unfollowed := true, recurses := true, apart := false }
def PortKnownSaid : Prop := portKnownRow.holds Try.pinned (OpenSpec.ofChange portKnownSpec)

/-- ITS FALSE NEIGHBOUR: 'it returns false'. Refute it at one input. -/
def portKnownWrong : ChangeSpec := { name := "portKnown", fn := fun _ => fun
  | [] => { results := [.lit (.bool false)], args := [] }
  | _ => none }
def PortKnownWrongFalsely : Prop := portKnownRow.holds Try.pinned (OpenSpec.ofChange portKnownWrong)

/-- 'quilletlaw04.PortTells': WHATEVER THE INPUT: true; the input reads as it did. -/
def portTellsSpec : ChangeSpec := { name := "portTells", fn := fun _ => fun
  | [d1, d2] => { results := [.lit (.bool true)], args := [d1, d2] }
  | _ => none }
def portTellsRow : OpenClaim := { program := "ytmdagppeeejikaa", sum := "7d422aabf42f8813861636769baa9b7ad885b6c43ee2d87d7111054040ec7049", func := "quillet/quilletlaw04.PortTells", spec := "portTells", unfollowed := true, recurses := true, apart := false }
def PortTellsSaid : Prop := portTellsRow.holds Try.pinned (OpenSpec.ofChange portTellsSpec)

/-- ITS FALSE NEIGHBOUR: 'it returns false'. Refute it at one input. -/
def portTellsWrong : ChangeSpec := { name := "portTells", fn := fun _ => fun
  | [d1, d2] => { results := [.lit (.bool false)], args := [d1, d2] }
  | _ => none }
def PortTellsWrongFalsely : Prop := portTellsRow.holds Try.pinned (OpenSpec.ofChange portTellsWrong)

/- THE SECOND FORM. 'bulk': how many values and letters a reading holds, each counted each time it is reached (what is shared counts as often as it is met; a slice's spare places count too). A statement '..UptoSaid' is the law's where the arguments, and the package variables that the reading takes, are together of bulk at most 1048576: NARROWER than '..Said'. Prove '..Said' where nothing that the law and all that it calls make is longer than what came in: it says more and counts as full. Else prove '..UptoSaid'. A law counts once. -/
mutual
def uptoBulk {H : Type} : DataW H → Nat
  | .lit (.string bytes) => bytes.length + 1
  | .lit _ => 1
  | .nil => 1
  | .ptr d => uptoBulk d + 1
  | .slice elems spare => uptoBulkAll elems + uptoBulkAll spare + 1
  | .agg parts => uptoBulkAll parts + 1
  | .iface _ d => uptoBulk d + 1
  | .map entries => uptoBulkEntries entries + 1
  | .held _ => 1
def uptoBulkAll {H : Type} : List (DataW H) → Nat
  | [] => 0
  | d :: r => uptoBulk d + uptoBulkAll r
def uptoBulkEntries {H : Type} : List (Lit × DataW H) → Nat
  | [] => 0
  | x :: r => uptoBulkEntry x + uptoBulkEntries r
def uptoBulkEntry {H : Type} : Lit × DataW H → Nat
  | (.string bytes, d) => bytes.length + uptoBulk d + 1
  | (_, d) => uptoBulk d + 1
 end
def uptoSmall : (H : Type) → List (DataW H) → Bool := fun _ ds => decide (uptoBulkAll ds ≤ 1048576)
def OpenSpec.upto (s : _root_.Go.ChangeSpec) : _root_.Go.OpenSpec := { _root_.Go.OpenSpec.ofChange s with cond := some uptoSmall }

/-- 'quilletlaw03.MemOnce', WHERE WHAT IT READS IS OF BULK AT MOST 1048576: true; the input reads as it did. -/
def memOnceUptoRow : OpenClaim := { program := "ytmdagppeeejikaa", sum := "7d422aabf42f8813861636769baa9b7ad885b6c43ee2d87d7111054040ec7049", func := "quillet/quilletlaw03.MemOnce", spec := "memOnce", unfollowed := true, recurses := true, apart := false, narrowed := true }
def MemOnceUptoSaid : Prop := memOnceUptoRow.holds Try.pinned (OpenSpec.upto memOnceSpec)

/-- 'quilletlaw03.MemAdds', WHERE WHAT IT READS IS OF BULK AT MOST 1048576: true; the input reads as it did. -/
def memAddsUptoRow : OpenClaim := { program := "ytmdagppeeejikaa", sum := "7d422aabf42f8813861636769baa9b7ad885b6c43ee2d87d7111054040ec7049", func := "quillet/quilletlaw03.MemAdds", spec := "memAdds", unfollowed := true, recurses := true, apart := false, narrowed := true }
def MemAddsUptoSaid : Prop := memAddsUptoRow.holds Try.pinned (OpenSpec.upto memAddsSpec)

/-- 'quilletlaw03.MemOwner', WHERE WHAT IT READS IS OF BULK AT MOST 1048576: true; the input reads as it did. -/
def memOwnerUptoRow : OpenClaim := { program := "ytmdagppeeejikaa", sum := "7d422aabf42f8813861636769baa9b7ad885b6c43ee2d87d7111054040ec7049", func := "quillet/quilletlaw03.MemOwner", spec := "memOwner", unfollowed := true, recurses := true, apart := false, narrowed := true }
def MemOwnerUptoSaid : Prop := memOwnerUptoRow.holds Try.pinned (OpenSpec.upto memOwnerSpec)

/-- 'quilletlaw03.MemDoes', WHERE WHAT IT READS IS OF BULK AT MOST 1048576: true; the input reads as it did. -/
def memDoesUptoRow : OpenClaim := { program := "ytmdagppeeejikaa", sum := "7d422aabf42f8813861636769baa9b7ad885b6c43ee2d87d7111054040ec7049", func := "quillet/quilletlaw03.MemDoes", spec := "memDoes", unfollowed := true, recurses := true, apart := false, narrowed := true }
def MemDoesUptoSaid : Prop := memDoesUptoRow.holds Try.pinned (OpenSpec.upto memDoesSpec)

/-- 'quilletlaw04.PortCounts', WHERE WHAT IT READS IS OF BULK AT MOST 1048576: true; the input reads as it did. -/
def portCountsUptoRow : OpenClaim := { program := "ytmdagppeeejikaa", sum := "7d422aabf42f8813861636769baa9b7ad885b6c43ee2d87d7111054040ec7049", func := "quillet/quilletlaw04.PortCounts", spec := "portCounts", unfollowed := true, recurses := true, apart := false, narrowed := true }
def PortCountsUptoSaid : Prop := portCountsUptoRow.holds Try.pinned (OpenSpec.upto portCountsSpec)

/-- 'quilletlaw04.PortOut', WHERE WHAT IT READS IS OF BULK AT MOST 1048576: true; the input reads as it did. -/
def portOutUptoRow : OpenClaim := { program := "ytmdagppeeejikaa", sum := "7d422aabf42f8813861636769baa9b7ad885b6c43ee2d87d7111054040ec7049", func := "quillet/quilletlaw04.PortOut", spec := "portOut", unfollowed := true, recurses := true, apart := false, narrowed := true }
def PortOutUptoSaid : Prop := portOutUptoRow.holds Try.pinned (OpenSpec.upto portOutSpec)

/-- 'quilletlaw03.MemKnown', WHERE WHAT IT READS IS OF BULK AT MOST 1048576: true; the input reads as it did. -/
def memKnownUptoRow : OpenClaim := { program := "ytmdagppeeejikaa", sum := "7d422aabf42f8813861636769baa9b7ad885b6c43ee2d87d7111054040ec7049", func := "quillet/quilletlaw03.MemKnown", spec := "memKnown", unfollowed := true, recurses := true, apart := false, narrowed := true }
def MemKnownUptoSaid : Prop := memKnownUptoRow.holds Try.pinned (OpenSpec.upto memKnownSpec)

/-- 'quilletlaw03.MemStays', WHERE WHAT IT READS IS OF BULK AT MOST 1048576: true; the input reads as it did. -/
def memStaysUptoRow : OpenClaim := { program := "ytmdagppeeejikaa", sum := "7d422aabf42f8813861636769baa9b7ad885b6c43ee2d87d7111054040ec7049", func := "quillet/quilletlaw03.MemStays", spec := "memStays", unfollowed := true, recurses := true, apart := false, narrowed := true }
def MemStaysUptoSaid : Prop := memStaysUptoRow.holds Try.pinned (OpenSpec.upto memStaysSpec)

/-- 'quilletlaw04.PortPlay', WHERE WHAT IT READS IS OF BULK AT MOST 1048576: true; the input reads as it did. -/
def portPlayUptoRow : OpenClaim := { program := "ytmdagppeeejikaa", sum := "7d422aabf42f8813861636769baa9b7ad885b6c43ee2d87d7111054040ec7049", func := "quillet/quilletlaw04.PortPlay", spec := "portPlay", unfollowed := true, recurses := true, apart := false, narrowed := true }
def PortPlayUptoSaid : Prop := portPlayUptoRow.holds Try.pinned (OpenSpec.upto portPlaySpec)

/-- 'quilletlaw04.PortKnown', WHERE WHAT IT READS IS OF BULK AT MOST 1048576: true; the input reads as it did. -/
def portKnownUptoRow : OpenClaim := { program := "ytmdagppeeejikaa", sum := "7d422aabf42f8813861636769baa9b7ad885b6c43ee2d87d7111054040ec7049", func := "quillet/quilletlaw04.PortKnown", spec := "portKnown", unfollowed := true, recurses := true, apart := false, narrowed := true }
def PortKnownUptoSaid : Prop := portKnownUptoRow.holds Try.pinned (OpenSpec.upto portKnownSpec)

/-- 'quilletlaw04.PortTells', WHERE WHAT IT READS IS OF BULK AT MOST 1048576: true; the input reads as it did. -/
def portTellsUptoRow : OpenClaim := { program := "ytmdagppeeejikaa", sum := "7d422aabf42f8813861636769baa9b7ad885b6c43ee2d87d7111054040ec7049", func := "quillet/quilletlaw04.PortTells", spec := "portTells", unfollowed := true, recurses := true, apart := false, narrowed := true }
def PortTellsUptoSaid : Prop := portTellsUptoRow.holds Try.pinned (OpenSpec.upto portTellsSpec)

end Rows
end Go.Proofs.Ytmdagppeeejikaa
