/- A region that draws its order, whose operations read what was there and whose callees leave what was there as it was (they may make memory): one walk in the order of the text. No condition but those named. -/
import Derived.Test.YtlipnaninocfhaaProg
import Derived.WalkKit
import Derived.Deep.QuietTactic
import Derived.BigQuiet
import Derived.Deep.RegionWith
namespace Go.Proofs.Ytlipnaninocfhaa
open Go.RowKit

/-- the worlds that hold what w holds, and more -/
def Bel (w : World) : Type := { w' : World // Below w.heap.size w w' }

instance (w : World) : Nonempty (Bel w) := ⟨⟨w, Below.refl _ w⟩⟩

theorem region_below {P : Program} {id : Nat} {Q : Exit → Act → World → Prop} {a : Act} {w : World} {l : List Oper} (hm : P.follows .mixedOrders = true) (hB : Region.lexB .any l.toArray = true)
    (h : wpQuiet P l.toArray (fun w' => ∃ s : Bel w, w' = s.1) (fun a' => ∀ w', (∃ s : Bel w, w' = s.1) → Q .normal a' w') l a) : (Code.region id l.toArray true).wp P Q a w :=
  wp_region_quiet hm hB ⟨⟨_, (Below.refl _ w).drew⟩, rfl⟩ h

/-- a callee's contract, met in such a world -/
theorem below_of {P : Program} {f : FuncId} {args : Array Value} {w : World} {s : Bel w} {v : Value} (h : Calls P f args s.1 fun e w' => e = .returned v ∧ Below s.1.heap.size s.1 w') :
    Calls P f args s.1 fun e w'' => e = .returned v ∧ ∃ s' : Bel w, w'' = s'.1 :=
  h.mono fun _ _ ⟨he, hb⟩ => ⟨he, ⟨_, s.2.trans (hb.mono s.2.size)⟩, rfl⟩
theorem below_same {P : Program} {f : FuncId} {args : Array Value} {w : World} {s : Bel w} {v : Value} (h : Calls P f args s.1 fun e w' => e = .returned v ∧ w' = s.1) :
    Calls P f args s.1 fun e w'' => e = .returned v ∧ ∃ s' : Bel w, w'' = s'.1 :=
  h.mono fun _ _ ⟨he, hb⟩ => ⟨he, s, hb⟩
/-- a cell that was there -/
theorem bel_cell {w : World} {a : Addr} {v : Value} (h : w.cell? a = some v) : ∀ s : Bel w, s.1.cell? a = some v :=
  fun s => (s.2.cell (World.block_lt_of_cell? w _ h)).trans h
end Go.Proofs.Ytlipnaninocfhaa
