/- Maps that a call makes and uses itself, told as lists of keys and values: what look-ups, stores and deletions leave. -/
import Derived.Test.YtkkdmmefnicmaaaZWMore
import Derived.Maps.Keyed
import Derived.DeepKeys4
import Derived.Maps.OwnSet
set_option linter.unusedVariables false
set_option linter.unusedSimpArgs false
namespace Go.Proofs.YtkkdmmefnicmaaaW.PrintWords
open Go.RowKit Go.MapKept

/-- How a map's keys and values lie in memory. -/
structure Kz (α β : Type) where
  P : Program
  kt : Nat
  enc : α → Value
  encv : β → Value

namespace Kd
section
variable {α β : Type} [DecidableEq α] {d : Kz α β} {e e' : Nat} {w w1 W : World} {base : Nat} {ok ok' : Nat → Prop} {v u : Value} {m : List (α × β)}
end
section
variable {α : Type} {d : Kd α} {e base b : Nat} {ok : Nat → Prop} {W w1 : World} {u : Value} {xs : List α}
end
end Kd
namespace Kd
section
variable {α β : Type} [DecidableEq α] {d : Kz α β} {e : Nat} {base : Nat} {ok : Nat → Prop} {v : Value} {l : List (α × β)} {P : Program} {ops : Array Oper} {rest : List Oper} {o : Oper} {a : Act} {Q : Exit → Act → World → Prop} {W : World}
end
end Kd
namespace Kd
section
variable {α β : Type} [DecidableEq α] {d : Kz α β} {e : Nat} {base : Nat} {ok : Nat → Prop} {v : Value} {l l' : List (α × β)} {P : Program} {o : Oper} {a : Act} {K : Act → World → Prop} {Q : Exit → Act → World → Prop} {W : World}
end
end Kd
end Go.Proofs.YtkkdmmefnicmaaaW.PrintWords
