/- Small lemmas on rounds (Ev), on sums that do not wrap, and on loops over lists: used by the plain proofs. -/
import Derived.Test.YtinibkdbfpafcaaZWMore
import Derived.Test.YtinibkdbfpafcaaZWLast
import Derived.OpenShut
import Derived.WideShapes
set_option linter.unusedVariables false
namespace Go.Proofs.Ytinibkdbfpafcaa.XEv
open Go.RowKit Go.Proofs.YtinibkdbfpafcaaW.PrintWords

theorem wrap_id {x : Int} (h0 : -9223372036854775808 ≤ x) (h1 : x ≤ 9223372036854775807) : wrap64 x = x := by unfold wrap64; omega
theorem wrap_succ {i n : Nat} (h : i < n) (hn : n ≤ 9223372036854775807) : wrap64 ((i : Int) + 1) = ((i + 1 : Nat) : Int) := by rw [wrap_id (by omega) (by omega)]; omega
section
variable {α β : Type} {g f : Nat → Option α} {r : α}
theorem ev_pos {c : Prop} [Decidable c] (h : c) (k : Ev f r) : Ev (fun n => if c then f n else g n) r := Ev.congr (fun n => if_pos h) k
theorem ev_neg {c : Prop} [Decidable c] (h : ¬ c) (k : Ev g r) : Ev (fun n => if c then f n else g n) r := Ev.congr (fun n => if_neg h) k
theorem ev_eq {a : Option α} (h : a = some r) : Ev (fun _ => a) r := ⟨0, fun _ _ => h⟩
theorem ev_bind0 {a : Option β} {b : β} {f : Nat → β → Option α} (h : a = some b) (k : Ev (fun n => f n b) r) : Ev (fun n => a.bind (f n)) r := Ev.congr (fun n => by rw [h, Option.bind_some]) k
end

theorem getD_at {α : Type} {l : List α} {i : Nat} (h : i < l.length) (d : α) : l.getD i d = l[i] := by simp [List.getD, h]
theorem rd_at {l : List Int} {i : Nat} (h : i < l.length) : rd l (i : Int) = l[i] := by simp [rd, List.getD, h]
theorem rdOf_at {α : Type} {l : List α} {i : Nat} (h : i < l.length) (d : α) : rdOf d l (i : Int) = l[i] := by simp [rdOf, List.getD, h]

/-- A loop that asks each place and goes on to what follows. -/
theorem each_ev {α : Type} (l : List α) (L : Nat → Int → Option Bool) (P : Nat → α → Prop) (Q : Prop)
    (hstep : ∀ (i : Nat) (hi : i < l.length), (P i l[i] ∧ ∀ r, Ev (fun k => L k ((i + 1 : Nat) : Int)) r → Ev (fun k => L k (i : Int)) r) ∨ (¬ P i l[i] ∧ Ev (fun k => L k (i : Int)) false))
    (hend : ∃ b, Ev (fun k => L k (l.length : Int)) b ∧ (b = true ↔ Q)) :
    ∃ b, Ev (fun k => L k 0) b ∧ (b = true ↔ (∀ (i : Nat) (hi : i < l.length), P i l[i]) ∧ Q) := by
  have key : ∀ (d i : Nat), i + d = l.length → ∃ b, Ev (fun k => L k (i : Int)) b ∧ (b = true ↔ (∀ (j : Nat) (hj : j < l.length), i ≤ j → P j l[j]) ∧ Q) := by
    intro d
    induction d with
    | zero =>
      intro i hd
      have : i = l.length := by omega
      subst this
      obtain ⟨b, hb, hQ⟩ := hend
      exact ⟨b, hb, hQ.trans ⟨fun h => ⟨fun j hj h1 => absurd hj (by omega), h⟩, fun h => h.2⟩⟩
    | succ d ih =>
      intro i hd
      have hi : i < l.length := by omega
      rcases hstep i hi with ⟨hp, hk⟩ | ⟨hp, hf⟩
      · obtain ⟨b, hb, hQ⟩ := ih (i + 1) (by omega)
        refine ⟨b, hk b hb, hQ.trans ⟨fun h => ⟨fun j hj h1 => ?_, h.2⟩, fun h => ⟨fun j hj h1 => h.1 j hj (by omega), h.2⟩⟩⟩
        rcases Nat.lt_or_ge i j with h3 | h3
        · exact h.1 j hj h3
        · have : i = j := by omega
          subst this
          exact hp
      · exact ⟨false, hf, fun h => (by cases h), fun h => absurd (h.1 i hi (Nat.le_refl _)) hp⟩
  obtain ⟨b, hb, hQ⟩ := key l.length 0 (by omega)
  exact ⟨b, hb, hQ.trans ⟨fun h => ⟨fun i hi => h.1 i hi (Nat.zero_le _), h.2⟩, fun h => ⟨fun j hj _ => h.1 j hj, h.2⟩⟩⟩
/-- A loop that looks for the first that is so. -/
theorem first_loop {α : Type} (l : List α) (L : Nat → Int → Option Int) (P : α → Prop)
    (hstep : ∀ (i : Nat) (hi : i < l.length), (P l[i] ∧ Ev (fun k => L k (i : Int)) (i : Int)) ∨ (¬ P l[i] ∧ ∀ r, Ev (fun k => L k ((i + 1 : Nat) : Int)) r → Ev (fun k => L k (i : Int)) r))
    (hend : Ev (fun k => L k (l.length : Int)) (-1)) :
    ∃ r, Ev (fun k => L k 0) r ∧ ((r = -1 ∧ ∀ y ∈ l, ¬ P y) ∨ ∃ i : Nat, r = (i : Int) ∧ ∃ y, l[i]? = some y ∧ P y ∧ ∀ (j : Nat) z, j < i → l[j]? = some z → ¬ P z) := by
  have key : ∀ (d i : Nat), i + d = l.length → (∀ (j : Nat) y, j < i → l[j]? = some y → ¬ P y) → ∃ r, Ev (fun k => L k (i : Int)) r ∧ ((r = -1 ∧ ∀ y ∈ l, ¬ P y) ∨ ∃ i : Nat, r = (i : Int) ∧ ∃ y, l[i]? = some y ∧ P y ∧ ∀ (j : Nat) z, j < i → l[j]? = some z → ¬ P z) := by
    intro d
    induction d with
    | zero =>
      intro i hd hb
      have : i = l.length := by omega
      subst this
      refine ⟨-1, hend, .inl ⟨rfl, fun y hy => ?_⟩⟩
      obtain ⟨j, hj⟩ := List.getElem?_of_mem hy
      exact hb j y (List.getElem?_eq_some_iff.1 hj).1 hj
    | succ d ih =>
      intro i hd hb
      have hi : i < l.length := by omega
      have hg : l[i]? = some l[i] := List.getElem?_eq_getElem hi
      rcases hstep i hi with ⟨hp, hr⟩ | ⟨hp, hk⟩
      · exact ⟨i, hr, .inr ⟨i, rfl, l[i], hg, hp, hb⟩⟩
      · obtain ⟨r, hr, h⟩ := ih (i + 1) (by omega) (fun j y h1 h2 => by
          rcases Nat.lt_or_ge j i with h3 | h3
          · exact hb j y h3 h2
          · have : j = i := by omega
            subst this
            rw [hg] at h2
            injection h2 with h2
            rw [← h2]
            exact hp)
        exact ⟨r, hk r hr, h⟩
  exact key l.length 0 (by omega) (fun j y h => absurd h (by omega))

/-! ### Marks -/
/-! ### Texts -/
theorem toList_loop (s : ByteArray) : ∀ (d i : Nat) (acc : List UInt8), i + d = s.size → ByteArray.toList.loop s i acc = acc.reverse ++ s.data.toList.drop i := by
  intro d
  induction d with
  | zero =>
    intro i acc h
    unfold ByteArray.toList.loop
    rw [if_neg (by omega), List.drop_eq_nil_of_le (by rw [Array.length_toList]; exact Nat.le_of_eq (h.symm.trans (Nat.add_zero i)))]
    simp
  | succ d ih =>
    intro i acc h
    unfold ByteArray.toList.loop
    have hi : i < s.size := by omega
    rw [if_pos hi, ih (i + 1) _ (by omega)]
    have hi' : i < s.data.toList.length := by rw [Array.length_toList]; exact hi
    rw [List.drop_eq_getElem_cons hi']
    have : s.get! i = s.data.toList[i] := by
      show s.data[i]! = _
      rw [getElem!_pos s.data i hi]
      simp
    simp [this]
theorem toList_data (s : ByteArray) : s.toList = s.data.toList := by
  have := toList_loop s s.size 0 [] (by omega)
  unfold ByteArray.toList
  rw [this]
  simp
theorem str_inj {a b : ByteArray} (h : a.toList = b.toList) : a = b := by
  rw [toList_data, toList_data] at h
  exact Go.WideShapes.bytes_inj h
theorem str_iff {a b : ByteArray} : a.toList = b.toList ↔ a = b := ⟨str_inj, fun h => by rw [h]⟩
theorem str_nil {a : ByteArray} : a.toList = ([] : List UInt8) ↔ a.size = 0 := by
  rw [toList_data]
  constructor
  · intro h
    have : a.data.toList.length = 0 := by rw [h]; rfl
    rw [Array.length_toList] at this
    exact this
  · intro h
    apply List.eq_nil_of_length_eq_zero
    rw [Array.length_toList]
    exact h
theorem bool_of_iff {a b : Bool} {P : Prop} (ha : a = true ↔ P) (hb : b = true ↔ P) : a = b := by
  rw [Bool.eq_iff_iff, ha, hb]

/-- Is a byte one of those that a name may have. -/
def nb (c : Int) : Bool := decide (97 ≤ c ∧ c ≤ 122 ∨ 65 ≤ c ∧ c ≤ 90 ∨ 48 ≤ c ∧ c ≤ 57 ∨ c = 45 ∨ c = 95 ∨ c = 46)
/-- What a name must be. -/
def NameIs (s : ByteArray) : Prop := 1 ≤ s.size ∧ s.size ≤ 20 ∧ ∀ j, j < s.size → nb (bt s (j : Nat)) = true
/-! ### Answers that say a law -/
section
variable {β : Type} {P : Prop} {f g : Nat → Option Bool}
end
end Go.Proofs.Ytinibkdbfpafcaa.XEv
