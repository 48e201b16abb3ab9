/- Small lemmas on rounds (Ev), on sums that do not wrap, and on loops over lists: used by the plain proofs. -/
import Derived.Test.YtggfggmmecbdnaaZWMore
import Derived.Test.YtggfggmmecbdnaaZWLast
import Derived.OpenShut
import Derived.WideShapes
set_option linter.unusedVariables false
namespace Go.Proofs.Ytggfggmmecbdnaa.XEv
open Go.RowKit Go.Proofs.YtggfggmmecbdnaaW.PrintWords

theorem wrap_id {x : Int} (h0 : -9223372036854775808 ≤ x) (h1 : x ≤ 9223372036854775807) : wrap64 x = x := by unfold wrap64; omega
section
variable {α β : Type} {g f : Nat → Option α} {r : α}
theorem ev_pos {c : Prop} [Decidable c] (h : c) (k : Ev f r) : Ev (fun n => if c then f n else g n) r := Ev.congr (fun n => if_pos h) k
theorem ev_neg {c : Prop} [Decidable c] (h : ¬ c) (k : Ev g r) : Ev (fun n => if c then f n else g n) r := Ev.congr (fun n => if_neg h) k
theorem ev_bind0 {a : Option β} {b : β} {f : Nat → β → Option α} (h : a = some b) (k : Ev (fun n => f n b) r) : Ev (fun n => a.bind (f n)) r := Ev.congr (fun n => by rw [h, Option.bind_some]) k
end

theorem rd_at {l : List Int} {i : Nat} (h : i < l.length) : rd l (i : Int) = l[i] := by simp [rd, List.getD, h]
/-! ### Marks -/
/-! ### Texts -/
/-! ### Answers that say a law -/
section
variable {β : Type} {P : Prop} {f g : Nat → Option Bool}
end
end Go.Proofs.Ytggfggmmecbdnaa.XEv
