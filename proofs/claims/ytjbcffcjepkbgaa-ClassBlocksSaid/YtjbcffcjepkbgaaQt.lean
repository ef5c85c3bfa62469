/- A region that draws its order, the first n operations of which only read, the others forced in their row behind them: one walk in the order of the text. No condition but those named. -/
import Derived.StillTailTactics
import Derived.Deep.QuietTactic
import Derived.BigQuiet
namespace Go.Proofs.Ytjbcffcjepkbgaa
variable {P : Program} {ops : Array Oper}

theorem still_of_quiet {w : World} {o : Oper} {a : Act} {K : Act → Prop} (h : o.quiet P a (fun w' => w' = w) K) : o.still P a w K := by
  obtain ⟨v, hv, hk⟩ := h
  have h1 := hv w rfl
  unfold Oper.quietAt at h1
  unfold Oper.still
  generalize (execOp a.eval o).run P w = r at h1
  cases r with
  | ok n w' =>
    cases n with
    | value u => obtain ⟨e1, e2⟩ := h1; subst e1; subst e2; exact ⟨rfl, hk⟩
    | skip => obtain ⟨e1, e2⟩ := h1; subst e1; subst e2; exact ⟨rfl, hk⟩
    | enter f args => obtain ⟨e1, e2⟩ := h1; subst e1; exact ⟨rfl, v, e2, hk⟩
    | _ => exact h1.elim
  | _ => exact h1.elim

theorem wpStill_of_quiet {w : World} {Q : Act → Prop} : ∀ (l : List Oper) (a : Act), wpQuiet P ops (fun w' => w' = w) Q l a → wpStill P ops w Q l a
  | [], _, h => h
  | o :: rest, a, h => by
    unfold wpQuiet at h
    unfold wpStill
    split
    · rename_i hw
      rw [if_pos hw] at h
      exact still_of_quiet (Oper.quiet_mono (fun a h' => wpStill_of_quiet rest a h') h)
    · rename_i hw
      rw [if_neg hw] at h
      exact wpStill_of_quiet rest _ h

theorem region_quiet_tail {id : Nat} {Q : Exit → Act → World → Prop} {a : Act} {w : World} {l : List Oper} (n : Nat) (hm : P.follows .mixedOrders = true) (hB : Region.lexTailB .any l.toArray n = true)
    (h : wpQuiet P l.toArray (fun w' => w' = w.drew) (fun a' => wpList P l.toArray Q (l.drop n) a' w.drew) (l.take n) a) : (Code.region id l.toArray true).wp P Q a w :=
  wp_region_still_tail n hm hB (wpStill_of_quiet _ _ h)
end Go.Proofs.Ytjbcffcjepkbgaa
