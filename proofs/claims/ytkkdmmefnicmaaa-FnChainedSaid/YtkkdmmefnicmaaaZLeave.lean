/- Where a row speaks of what other goroutines do at the return (its set has a law that starts one), a walk over one goroutine still tells it: there is no other. -/
import Derived.Conc.Holds
import Derived.Handed
namespace Go.Proofs.Ytkkdmmefnicmaaa.XLeave
theorem leaving_of_quiet {P : Program} {m : Machine} {w : World} {t : Trace} (h : aloneAtReturn P m w t) : leavingAtReturn P m w t := by
  obtain ⟨⟨h1, h2⟩, h3, h4⟩ := h
  refine ⟨h3, ⟨fun g hg => ?_, h2⟩, h4⟩
  unfold Machine.othersDone at h1
  have h := List.all_eq_true.1 h1 g hg
  have hs : g.status = .finished := by
    cases hh : g.status <;> rw [hh] at h <;> first | rfl | (exact absurd h (by decide)) | (exact absurd h (by simp [BEq.beq]))
  exact ⟨0, hs⟩
theorem leaving_of_handed {a : Assume} {C : Checked} {os : Os} {f : FuncId} {r : Reach} {Pre : World → Array Value → Prop} {Post : World → Array Value → Value → World → Prop} (h : ReturnsInHanded a C os f r Pre Post) : ReturnsInLeavingWide a C os f r Pre Post :=
  fun enter => ReturnsInOpen.mono (fun _ _ _ x => leaving_of_quiet x) (fun _ x => x) (h enter)
end Go.Proofs.Ytkkdmmefnicmaaa.XLeave
