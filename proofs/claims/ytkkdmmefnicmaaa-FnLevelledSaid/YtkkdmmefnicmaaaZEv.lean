/- Small lemmas on rounds (Ev), on sums that do not wrap, and on loops over lists: used by the plain proofs. -/
import Derived.Test.YtkkdmmefnicmaaaZWMore
import Derived.Test.YtkkdmmefnicmaaaZWLast
import Derived.OpenShut
import Derived.WideShapes
set_option linter.unusedVariables false
namespace Go.Proofs.Ytkkdmmefnicmaaa.XEv
open Go.RowKit Go.Proofs.YtkkdmmefnicmaaaW.PrintWords

theorem wrap_id {x : Int} (h0 : -9223372036854775808 ≤ x) (h1 : x ≤ 9223372036854775807) : wrap64 x = x := by unfold wrap64; omega
theorem wrap_succ {i n : Nat} (h : i < n) (hn : n ≤ 9223372036854775807) : wrap64 ((i : Int) + 1) = ((i + 1 : Nat) : Int) := by rw [wrap_id (by omega) (by omega)]; omega
section
variable {α β : Type} {g f : Nat → Option α} {r : α}
theorem ev_pos {c : Prop} [Decidable c] (h : c) (k : Ev f r) : Ev (fun n => if c then f n else g n) r := Ev.congr (fun n => if_pos h) k
theorem ev_neg {c : Prop} [Decidable c] (h : ¬ c) (k : Ev g r) : Ev (fun n => if c then f n else g n) r := Ev.congr (fun n => if_neg h) k
theorem ev_eq {a : Option α} (h : a = some r) : Ev (fun _ => a) r := ⟨0, fun _ _ => h⟩
theorem ev_bind0 {a : Option β} {b : β} {f : Nat → β → Option α} (h : a = some b) (k : Ev (fun n => f n b) r) : Ev (fun n => a.bind (f n)) r := Ev.congr (fun n => by rw [h, Option.bind_some]) k
theorem ev_unique {r' : α} (h : Ev g r) (h' : Ev g r') : r = r' := by
  obtain ⟨K, h⟩ := h
  obtain ⟨K', h'⟩ := h'
  have h1 := h (max K K') (by omega)
  rw [h' (max K K') (by omega)] at h1
  exact (Option.some.inj h1).symm
end

theorem getD_at {α : Type} {l : List α} {i : Nat} (h : i < l.length) (d : α) : l.getD i d = l[i] := by simp [List.getD, h]
theorem rd_at {l : List Int} {i : Nat} (h : i < l.length) : rd l (i : Int) = l[i] := by simp [rd, List.getD, h]
theorem rdOf_at {α : Type} {l : List α} {i : Nat} (h : i < l.length) (d : α) : rdOf d l (i : Int) = l[i] := by simp [rdOf, List.getD, h]

/-- A loop that asks each place and goes on to what follows. -/
theorem each_ev {α : Type} (l : List α) (L : Nat → Int → Option Bool) (P : Nat → α → Prop) (Q : Prop)
    (hstep : ∀ (i : Nat) (hi : i < l.length), (P i l[i] ∧ ∀ r, Ev (fun k => L k ((i + 1 : Nat) : Int)) r → Ev (fun k => L k (i : Int)) r) ∨ (¬ P i l[i] ∧ Ev (fun k => L k (i : Int)) false))
    (hend : ∃ b, Ev (fun k => L k (l.length : Int)) b ∧ (b = true ↔ Q)) :
    ∃ b, Ev (fun k => L k 0) b ∧ (b = true ↔ (∀ (i : Nat) (hi : i < l.length), P i l[i]) ∧ Q) := by
  have key : ∀ (d i : Nat), i + d = l.length → ∃ b, Ev (fun k => L k (i : Int)) b ∧ (b = true ↔ (∀ (j : Nat) (hj : j < l.length), i ≤ j → P j l[j]) ∧ Q) := by
    intro d
    induction d with
    | zero =>
      intro i hd
      have : i = l.length := by omega
      subst this
      obtain ⟨b, hb, hQ⟩ := hend
      exact ⟨b, hb, hQ.trans ⟨fun h => ⟨fun j hj h1 => absurd hj (by omega), h⟩, fun h => h.2⟩⟩
    | succ d ih =>
      intro i hd
      have hi : i < l.length := by omega
      rcases hstep i hi with ⟨hp, hk⟩ | ⟨hp, hf⟩
      · obtain ⟨b, hb, hQ⟩ := ih (i + 1) (by omega)
        refine ⟨b, hk b hb, hQ.trans ⟨fun h => ⟨fun j hj h1 => ?_, h.2⟩, fun h => ⟨fun j hj h1 => h.1 j hj (by omega), h.2⟩⟩⟩
        rcases Nat.lt_or_ge i j with h3 | h3
        · exact h.1 j hj h3
        · have : i = j := by omega
          subst this
          exact hp
      · exact ⟨false, hf, fun h => (by cases h), fun h => absurd (h.1 i hi (Nat.le_refl _)) hp⟩
  obtain ⟨b, hb, hQ⟩ := key l.length 0 (by omega)
  exact ⟨b, hb, hQ.trans ⟨fun h => ⟨fun i hi => h.1 i hi (Nat.zero_le _), h.2⟩, fun h => ⟨fun j hj _ => h.1 j hj, h.2⟩⟩⟩
theorem all_mem {α : Type} {l : List α} {P : α → Prop} : (∀ (i : Nat) (hi : i < l.length), P l[i]) ↔ ∀ x ∈ l, P x :=
  ⟨fun h x hx => by obtain ⟨i, hi, rfl⟩ := List.getElem_of_mem hx; exact h i hi, fun h i hi => h _ (List.getElem_mem hi)⟩
/-- The same, each place asked of its value alone. -/
theorem each_mem {α : Type} (l : List α) (L : Nat → Int → Option Bool) (P : α → Prop) (Q : Prop)
    (hstep : ∀ (i : Nat) (hi : i < l.length), (P l[i] ∧ ∀ r, Ev (fun k => L k ((i + 1 : Nat) : Int)) r → Ev (fun k => L k (i : Int)) r) ∨ (¬ P l[i] ∧ Ev (fun k => L k (i : Int)) false))
    (hend : ∃ b, Ev (fun k => L k (l.length : Int)) b ∧ (b = true ↔ Q)) :
    ∃ b, Ev (fun k => L k 0) b ∧ (b = true ↔ (∀ x ∈ l, P x) ∧ Q) := by
  obtain ⟨b, hb, h⟩ := each_ev l L (fun _ x => P x) Q hstep hend
  exact ⟨b, hb, by rw [h, all_mem]⟩

/-- A loop inside another: it goes on to what follows if each place holds, and ends the whole if one does not. -/
theorem each_go {α β : Type} (l : List α) (L : Nat → Int → Option β) (P : Nat → α → Prop) (T : Nat → Option β) (f : β)
    (hstep : ∀ (i : Nat) (hi : i < l.length), (P i l[i] ∧ ∀ r, Ev (fun k => L k ((i + 1 : Nat) : Int)) r → Ev (fun k => L k (i : Int)) r) ∨ (¬ P i l[i] ∧ Ev (fun k => L k (i : Int)) f))
    (hend : ∀ r, Ev T r → Ev (fun k => L k (l.length : Int)) r) :
    ((∀ (i : Nat) (hi : i < l.length), P i l[i]) ∧ ∀ r, Ev T r → Ev (fun k => L k 0) r) ∨ (¬ (∀ (i : Nat) (hi : i < l.length), P i l[i]) ∧ Ev (fun k => L k 0) f) := by
  have key : ∀ (d i : Nat), i + d = l.length → ((∀ (j : Nat) (hj : j < l.length), i ≤ j → P j l[j]) ∧ ∀ r, Ev T r → Ev (fun k => L k (i : Int)) r) ∨ (¬ (∀ (j : Nat) (hj : j < l.length), i ≤ j → P j l[j]) ∧ Ev (fun k => L k (i : Int)) f) := by
    intro d
    induction d with
    | zero =>
      intro i hd
      have : i = l.length := by omega
      subst this
      exact .inl ⟨fun j hj h1 => absurd hj (by omega), hend⟩
    | succ d ih =>
      intro i hd
      have hi : i < l.length := by omega
      rcases hstep i hi with ⟨hp, hk⟩ | ⟨hp, hf⟩
      · rcases ih (i + 1) (by omega) with ⟨ha, hr⟩ | ⟨ha, hr⟩
        · refine .inl ⟨fun j hj h1 => ?_, fun r hr' => hk r (hr r hr')⟩
          rcases Nat.lt_or_ge i j with h3 | h3
          · exact ha j hj h3
          · have : i = j := by omega
            subst this
            exact hp
        · exact .inr ⟨fun h => ha fun j hj h1 => h j hj (by omega), hk f hr⟩
      · exact .inr ⟨fun h => hp (h i hi (Nat.le_refl _)), hf⟩
  rcases key l.length 0 (by omega) with ⟨ha, hr⟩ | ⟨ha, hr⟩
  · exact .inl ⟨fun i hi => ha i hi (Nat.zero_le _), hr⟩
  · exact .inr ⟨fun h => ha fun j hj _ => h j hj, hr⟩
/-- The same, each place asked of its value alone. -/
theorem each_mem_go {α β : Type} (l : List α) (L : Nat → Int → Option β) (P : α → Prop) (T : Nat → Option β) (f : β)
    (hstep : ∀ (i : Nat) (hi : i < l.length), (P l[i] ∧ ∀ r, Ev (fun k => L k ((i + 1 : Nat) : Int)) r → Ev (fun k => L k (i : Int)) r) ∨ (¬ P l[i] ∧ Ev (fun k => L k (i : Int)) f))
    (hend : ∀ r, Ev T r → Ev (fun k => L k (l.length : Int)) r) :
    ((∀ x ∈ l, P x) ∧ ∀ r, Ev T r → Ev (fun k => L k 0) r) ∨ (¬ (∀ x ∈ l, P x) ∧ Ev (fun k => L k 0) f) := by
  rcases each_go l L (fun _ x => P x) T f hstep hend with h | h
  · exact .inl ⟨all_mem.1 h.1, h.2⟩
  · exact .inr ⟨fun g => h.1 (all_mem.2 g), h.2⟩

/-! ### Marks -/
/-! ### Texts -/
theorem toList_loop (s : ByteArray) : ∀ (d i : Nat) (acc : List UInt8), i + d = s.size → ByteArray.toList.loop s i acc = acc.reverse ++ s.data.toList.drop i := by
  intro d
  induction d with
  | zero =>
    intro i acc h
    unfold ByteArray.toList.loop
    rw [if_neg (by omega), List.drop_eq_nil_of_le (by rw [Array.length_toList]; exact Nat.le_of_eq (h.symm.trans (Nat.add_zero i)))]
    simp
  | succ d ih =>
    intro i acc h
    unfold ByteArray.toList.loop
    have hi : i < s.size := by omega
    rw [if_pos hi, ih (i + 1) _ (by omega)]
    have hi' : i < s.data.toList.length := by rw [Array.length_toList]; exact hi
    rw [List.drop_eq_getElem_cons hi']
    have : s.get! i = s.data.toList[i] := by
      show s.data[i]! = _
      rw [getElem!_pos s.data i hi]
      simp
    simp [this]
theorem toList_data (s : ByteArray) : s.toList = s.data.toList := by
  have := toList_loop s s.size 0 [] (by omega)
  unfold ByteArray.toList
  rw [this]
  simp
theorem str_inj {a b : ByteArray} (h : a.toList = b.toList) : a = b := by
  rw [toList_data, toList_data] at h
  exact Go.WideShapes.bytes_inj h
theorem str_iff {a b : ByteArray} : a.toList = b.toList ↔ a = b := ⟨str_inj, fun h => by rw [h]⟩
theorem bool_of_iff {a b : Bool} {P : Prop} (ha : a = true ↔ P) (hb : b = true ↔ P) : a = b := by
  rw [Bool.eq_iff_iff, ha, hb]

/-- Is a byte one of those that a name may have. -/
def nb (c : Int) : Bool := decide (97 ≤ c ∧ c ≤ 122 ∨ 65 ≤ c ∧ c ≤ 90 ∨ 48 ≤ c ∧ c ≤ 57 ∨ c = 45 ∨ c = 95 ∨ c = 46)
/-- What a name must be. -/
def NameIs (s : ByteArray) : Prop := 1 ≤ s.size ∧ s.size ≤ 20 ∧ ∀ j, j < s.size → nb (bt s (j : Nat)) = true
/-! ### Answers that say a law -/
section
variable {β : Type} {P : Prop} {f g : Nat → Option Bool}
end
end Go.Proofs.Ytkkdmmefnicmaaa.XEv
