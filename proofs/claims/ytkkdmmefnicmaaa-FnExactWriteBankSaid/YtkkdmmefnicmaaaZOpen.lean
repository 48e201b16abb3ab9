/- How an argument that reads as data is of a printed kind (whole numbers, bools, strings, slices and structs of these, nested). -/
import Derived.Test.YtkkdmmefnicmaaaZWWords
import Derived.ChangeSlices
import Derived.WideShapes
namespace Go.Proofs.Ytkkdmmefnicmaaa.XOpen
open Go.RowKit Go.Proofs.YtkkdmmefnicmaaaW.PrintWords Go.ChangeShapes Go.WideShapes

/-- A value of type t that reads as data is of the kind d, and good. -/
def Op {α : Type} (P : Program) (d : Kd α) (G : α → Prop) (t : TypeId) : Prop :=
  ∀ {H : Type} {enc : TypeId × Value → H} {W : World} {base : Nat} {spare : Nat → Bool} {held : Bool} {fuel : Nat} {cs : List Value} {x : DataW H × List MemPlace},
    DataW.trod enc P W base spare held fuel t cs = some x → ∃ a, d.K W a cs ∧ G a
/-- The fields from one on, whose cells begin at off. -/
def OpFs {α : Type} (P : Program) (d : Kd α) (G : α → Prop) (fs : List Field) (off : Nat) : Prop :=
  ∀ {H : Type} {enc : TypeId × Value → H} {W : World} {base : Nat} {spare : Nat → Bool} {held : Bool} {n : Nat} {cs : List Value},
    (∀ f ∈ fs, ∃ y, DataW.trod enc P W base spare held n f.type ((cs.drop f.offset).take (P.cellsOf f.type)) = some y) → ∃ a, d.K W a ((cs.drop off).take d.sz) ∧ G a

theorem op_int {P : Program} {t : TypeId} {k : IntKind} (ht : P.underlying t = some (.int k)) : Op P (Kd.int k) (fun n => (Lit.int k n).wf = true) t := by
  intro H enc W base spare held fuel cs x h
  obtain ⟨n, rfl, _, hw⟩ := DataW.trod_int ht h
  exact ⟨n, rfl, hw⟩
theorem op_string {P : Program} {t : TypeId} (ht : P.underlying t = some .string) : Op P Kd.string (fun s => s.size ≤ maxLen) t := by
  intro H enc W base spare held fuel cs x h
  obtain ⟨s, rfl, _, hs⟩ := DataW.trod_string ht h
  exact ⟨s, rfl, hs⟩

theorem exists_list {α : Type} (Q : Nat → α → Prop) : ∀ n, (∀ i, i < n → ∃ p, Q i p) → ∃ l : List α, l.length = n ∧ ∀ (j : Nat) p, l[j]? = some p → Q j p
  | 0, _ => ⟨[], rfl, fun j p h => by simp at h⟩
  | n + 1, h => by
    obtain ⟨l, hl, hq⟩ := exists_list Q n (fun i hi => h i (by omega))
    obtain ⟨p, hp⟩ := h n (by omega)
    refine ⟨l ++ [p], by simp [hl], fun j q hj => ?_⟩
    rcases Nat.lt_or_ge j l.length with hlt | hge
    · rw [List.getElem?_append_left hlt] at hj
      exact hq j q hj
    · have hj' := (List.getElem?_eq_some_iff.1 hj).1
      rw [List.length_append, List.length_singleton] at hj'
      have e : j = l.length := by omega
      subst e
      have : p = q := by simpa using hj
      subst this
      rw [hl]
      exact hp

theorem add_add (a : Addr) (i j : Nat) : (a.add i).add j = a.add (i + j) := by
  unfold Addr.add
  by_cases h1 : i = 0 <;> by_cases h2 : j = 0 <;> simp [h1, h2, Nat.add_assoc]

theorem op_slice {α : Type} {P : Program} {t e : TypeId} {d : Kd α} {G : α → Prop} (ht : P.underlying t = some (.slice e)) (hc : P.cellsOf e = d.sz) (he : Op P d G e) :
    Op P (Kd.slice e d) (fun l => l.length ≤ maxLen ∧ ∀ a ∈ l, G a) t := by
  intro H enc W base spare held fuel cs x h
  rcases DataW.trod_slice ht h with ⟨rfl, _⟩ | ⟨a, len, cap, elems, rest, n, _, rfl, _, hb, hl, hm, hlen, hel, _, _⟩
  · exact ⟨[], ⟨none, 0, rfl, Nat.le_refl _, rfl, by simp, fun h => absurd h (Nat.lt_irrefl 0)⟩, by simp, fun a h => by simp at h⟩
  · have each : ∀ i, i < len → ∃ p : α, G p ∧ ∃ c, c.length = d.sz ∧ d.K W p c ∧ ∀ j u, c[j]? = some u → W.cell? (a.add (i * d.sz + j)) = some u := by
      intro i hi
      have h1 := hel i hi
      have h2 : elems[i]? = some (elems[i]'(by omega)) := List.getElem?_eq_getElem (by omega)
      rw [h2, Option.bind_eq_some_iff, hc] at h1
      obtain ⟨cs', hcs, hy⟩ := h1
      obtain ⟨p, hp, hg⟩ := he hy
      obtain ⟨_, hn, hcell⟩ := World.cells?_some hcs
      refine ⟨p, hg, cs', hn, hp, fun j u hu => ?_⟩
      have hj : j < d.sz := by
        have := (List.getElem?_eq_some_iff.1 hu).1
        omega
      have := hcell j hj
      rw [add_add] at this
      rw [this, hu]
    obtain ⟨l, hll, hlq⟩ := exists_list _ len each
    subst hll
    have hmax : l.length ≤ 9223372036854775807 := by
      have : cap ≤ 9223372036854775807 := hm
      omega
    refine ⟨l, ⟨some a, cap, rfl, hl, rfl, hmax, fun _ => ⟨a, rfl, fun j p hj => (hlq j p hj).2⟩⟩, hmax, fun p hp => ?_⟩
    obtain ⟨j, hj⟩ := List.getElem?_of_mem hp
    exact (hlq j p hj).1

theorem opfs_one {α : Type} {P : Program} {d : Kd α} {G : α → Prop} {f : Field} {off : Nat} (ho : f.offset = off) (hc : P.cellsOf f.type = d.sz) (h : Op P d G f.type) : OpFs P d G [f] off := by
  intro H enc W base spare held n cs hf
  obtain ⟨y, hy⟩ := hf f List.mem_cons_self
  rw [ho, hc] at hy
  exact h hy
theorem opfs_cons {α β : Type} {P : Program} {a : Kd α} {b : Kd β} {Ga : α → Prop} {Gb : β → Prop} {f : Field} {fs : List Field} {off : Nat} (ho : f.offset = off) (hc : P.cellsOf f.type = a.sz) (h : Op P a Ga f.type)
    (hr : OpFs P b Gb fs (off + a.sz)) : OpFs P (Kd.pair a b) (fun x => Ga x.1 ∧ Gb x.2) (f :: fs) off := by
  intro H enc W base spare held n cs hf
  obtain ⟨y, hy⟩ := hf f List.mem_cons_self
  rw [ho, hc] at hy
  obtain ⟨x1, hk1, hg1⟩ := h hy
  obtain ⟨x2, hk2, hg2⟩ := hr (fun f' h' => hf f' (List.mem_cons_of_mem _ h'))
  refine ⟨(x1, x2), ⟨_, _, ?_, hk1, hk2⟩, hg1, hg2⟩
  show (cs.drop off).take (a.sz + b.sz) = _
  rw [List.take_add, List.drop_drop]
theorem op_struct {α β : Type} {P : Program} {t : TypeId} {fs : Array Field} {d : Kd α} {G : α → Prop} {f : β → α} (g : α → β) (ht : P.underlying t = some (.struct fs)) (hc : P.cellsOf t = d.sz) (hg : ∀ y, f (g y) = y) (h : OpFs P d G fs.toList 0) :
    Op P (Kd.iso d f) (fun x => G (f x)) t := by
  intro H enc W base spare held fuel cs x hx
  obtain ⟨xs, n, _, _, hl, hxs, hf⟩ := DataW.trod_struct ht hx
  have := h (enc := enc) (W := W) (base := base) (spare := spare) (held := held) (n := n) (cs := cs) (fun f' hf' => by
    obtain ⟨i, hi⟩ := List.getElem?_of_mem hf'
    rw [Array.getElem?_toList] at hi
    have hlt : i < xs.length := by
      have := (Array.getElem?_eq_some_iff.1 hi).1
      omega
    exact ⟨xs[i], by rw [hf i f' hi]; exact List.getElem?_eq_getElem hlt⟩)
  obtain ⟨a, hk, hga⟩ := this
  refine ⟨g a, ?_, by show G (f (g a)); rw [hg]; exact hga⟩
  show d.K W (f (g a)) cs
  rw [hg]
  rw [List.drop_zero, ← hc, ← hl, List.take_length] at hk
  exact hk

theorem arg_slice {α H : Type} {P : Program} {enc : TypeId × Value → H} {W w2 : World} {r : Reach} {b2 base : Nat} {spare : Nat → Bool} {held : Bool} {t e : TypeId} {d : Kd α} {G : List α → Prop} {v : Value} {x : DataW H} {ps : List MemPlace} (ht : P.underlying t = some (.slice e)) (ho : Op P (Kd.slice e d) G t)
    (hv : Value.okWide P w2 r b2 t v) (h : DataW.Trod enc P W base spare held t v x ps) : ∃ (A : Option Addr) (c : Nat) (l : List α), v = .slice A l.length c ∧ Kd.C d W A l.length l ∧ l.length ≤ c ∧ G l := by
  obtain ⟨a, len, cap, rfl⟩ := okWide_slice ht hv
  obtain ⟨fuel, hf⟩ := h
  obtain ⟨l, ⟨A, c, he, hl, hc⟩, hg⟩ := ho hf
  simp [Value.cells] at he
  obtain ⟨rfl, rfl, rfl⟩ := he
  exact ⟨a, cap, l, rfl, hc, hl, hg⟩
end Go.Proofs.Ytkkdmmefnicmaaa.XOpen
