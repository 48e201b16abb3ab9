/- Function values of two arguments that answer a question: how they stand in a world, how they are called, and how that is kept. -/
import Derived.Test.YtkkdmmefnicmaaaZWMore
set_option linter.unusedVariables false
set_option linter.unusedSimpArgs false
namespace Go.Proofs.YtkkdmmefnicmaaaW.PrintWords
open Go.RowKit Go.Proofs.YtkkdmmefnicmaaaW.PrintLast

/-- A function value that answers as lt says, in world W: its function can be entered, and each call leaves what there was. -/
structure FnOk {α : Type} (P : Program) (W : World) (g : Nat) (lb : Array Value) (enc : α → Value) (lt : α → α → Option Bool) : Prop where
  enters : ∀ (args : Array Value) (w : World), (callFunc g args).run P w = .ok (.enter g args) w
  calls : ∀ x y r, lt x y = some r → Calls P g (#[enc x, enc y] ++ lb) W fun e w' => e = .returned (.bool r) ∧ Below W.heap.size W w'
theorem FnOk.call {α : Type} {P : Program} {W : World} {g : Nat} {lb : Array Value} {enc : α → Value} {lt : α → α → Option Bool} (h : FnOk P W g lb enc lt) (x y : α) (r : Bool) {args : Array Value} (ha : args = #[enc x, enc y]) (hr : lt x y = some r) :
    Calls P g (args ++ lb) W fun e w' => e = .returned (.bool r) ∧ Below W.heap.size W w' := by
  subst ha
  exact h.calls x y r hr
theorem FnOk.kept {α : Type} {P : Program} {w W : World} {S S2 : Nat → Prop} {g : Nat} {lb : Array Value} {enc : α → Value} {lt : α → α → Option Bool} (h : ∀ W_, Kept w W_ S → FnOk P W_ g lb enc lt) (hk : Kept w W S) (hs : ∀ k, S2 k → S k ∨ w.heap.size ≤ k) : ∀ W_, Kept W W_ S2 → FnOk P W_ g lb enc lt :=
  fun W_ h_ => h W_ (hk.then_ h_ hs)
section
variable {P : Program} {ops : Array Oper} {Q : Exit → Act → World → Prop} {oi : Oper} {N : Option Tmp} {a : Act} {w : World} {g : FuncId} {lb : Array Value} {s : Operand} {as : Array Operand} {ts : Array TypeId}
end
end Go.Proofs.YtkkdmmefnicmaaaW.PrintWords
