/- Marks written through slices that lie in structs in a slice: what stays. -/
import Derived.Test.YtkkdmmefnicmaaaZWMore
set_option linter.unusedVariables false
set_option linter.unusedSimpArgs false
namespace Go.Proofs.YtkkdmmefnicmaaaW.PrintWords
open Go.RowKit
/-- Each block keeps its type and its length. -/
def Sz (w w' : World) : Prop := ∀ (g t : Nat) (cs : Array Value), w.heap[g]? = some (.cells cs t (0, 0)) → ∃ cs', w'.heap[g]? = some (.cells cs' t (0, 0)) ∧ cs'.size = cs.size
theorem Sz.refl (w : World) : Sz w w := fun g t cs h => ⟨cs, h, rfl⟩
theorem Sz.trans {w w1 w2 : World} (h : Sz w w1) (k : Sz w1 w2) : Sz w w2 := fun g t cs hg => by
  obtain ⟨c1, h1, e1⟩ := h g t cs hg
  obtain ⟨c2, h2, e2⟩ := k g t c1 h1
  exact ⟨c2, h2, e2.trans e1⟩
theorem Sz.set (w : World) (g j : Nat) (v : Value) : Sz w (w.setCell ⟨g, j, none⟩ v) := fun k t cs h => by
  by_cases e : k = g
  · subst e
    exact ⟨_, blk_set h j v, by simp⟩
  · exact ⟨cs, qe1 h e v, rfl⟩
/-- A row that may be written: nil, or a block's begin. -/
def Row (w : World) (base : Nat) (v : Value) (n m : Nat) : Prop :=
  (v = .slice none 0 0 ∧ n = 0) ∨ ∃ g cap t cur, v = .slice (some ⟨g, 0, none⟩) n cap ∧ base ≤ g ∧ w.heap[g]? = some (.cells cur t (0, 0)) ∧ n * m ≤ cur.size ∧ n ≤ 9223372036854775807
theorem Row.sz {w w' : World} {base : Nat} {v : Value} {n m : Nat} (h : Row w base v n m) (k : Sz w w') : Row w' base v n m := by
  rcases h with h | ⟨g, cap, t, cur, h1, h2, h3, h4, h5⟩
  · exact .inl h
  · obtain ⟨c, h6, h7⟩ := k g t cur h3
    exact .inr ⟨g, cap, t, c, h1, h2, h6, by omega, h5⟩
end Go.Proofs.YtkkdmmefnicmaaaW.PrintWords
