/- Small lemmas on rounds (Ev), on sums that do not wrap, and on loops over lists: used by the plain proofs. -/
import Derived.Test.YtkkdmmefnicmaaaZWMore
import Derived.Test.YtkkdmmefnicmaaaZWLast
import Derived.OpenShut
import Derived.WideShapes
set_option linter.unusedVariables false
namespace Go.Proofs.Ytkkdmmefnicmaaa.XEv
open Go.RowKit Go.Proofs.YtkkdmmefnicmaaaW.PrintWords

theorem wrap_id {x : Int} (h0 : -9223372036854775808 ≤ x) (h1 : x ≤ 9223372036854775807) : wrap64 x = x := by unfold wrap64; omega
theorem wrap_succ {i n : Nat} (h : i < n) (hn : n ≤ 9223372036854775807) : wrap64 ((i : Int) + 1) = ((i + 1 : Nat) : Int) := by rw [wrap_id (by omega) (by omega)]; omega
section
variable {α β : Type} {g f : Nat → Option α} {r : α}
theorem ev_pos {c : Prop} [Decidable c] (h : c) (k : Ev f r) : Ev (fun n => if c then f n else g n) r := Ev.congr (fun n => if_pos h) k
theorem ev_neg {c : Prop} [Decidable c] (h : ¬ c) (k : Ev g r) : Ev (fun n => if c then f n else g n) r := Ev.congr (fun n => if_neg h) k
theorem ev_eq {a : Option α} (h : a = some r) : Ev (fun _ => a) r := ⟨0, fun _ _ => h⟩
theorem ev_bind0 {a : Option β} {b : β} {f : Nat → β → Option α} (h : a = some b) (k : Ev (fun n => f n b) r) : Ev (fun n => a.bind (f n)) r := Ev.congr (fun n => by rw [h, Option.bind_some]) k
end

theorem getD_at {α : Type} {l : List α} {i : Nat} (h : i < l.length) (d : α) : l.getD i d = l[i] := by simp [List.getD, h]
/-- A loop that fills a list of the other's length, place by place. -/
theorem fill_loop {α β : Type} (L : Nat → List β → Int → Option (List β)) (cv : α → β) (z : β) (xs : List α)
    (hstep : ∀ (ys : List β) (i : Nat) (hi : i < xs.length) (r : List β), ys.length = xs.length → Ev (fun k => L k (ys.set i (cv xs[i])) ((i + 1 : Nat) : Int)) r → Ev (fun k => L k ys (i : Int)) r)
    (hend : ∀ ys : List β, Ev (fun k => L k ys (xs.length : Int)) ys) : Ev (fun k => L k (List.replicate xs.length z) 0) (xs.map cv) := by
  have key : ∀ (d i : Nat) (ys : List β), i + d = xs.length → ys.length = xs.length → (∀ j, j < i → ys[j]? = (xs.map cv)[j]?) → Ev (fun k => L k ys (i : Int)) (xs.map cv) := by
    intro d
    induction d with
    | zero =>
      intro i ys hd hl hj
      have e : ys = xs.map cv := by
        apply List.ext_getElem?
        intro j
        rcases Nat.lt_or_ge j i with h | h
        · exact hj j h
        · rw [List.getElem?_eq_none (by omega), List.getElem?_eq_none (by simp; omega)]
      have hi : i = xs.length := by omega
      rw [hi, ← e]
      exact hend ys
    | succ d ih =>
      intro i ys hd hl hj
      have hi : i < xs.length := by omega
      refine hstep ys i hi _ hl (ih (i + 1) _ (by omega) (by simp [hl]) ?_)
      intro j hlt
      rcases Nat.lt_or_ge j i with h | h
      · rw [List.getElem?_set_ne (by omega)]
        exact hj j h
      · have : j = i := by omega
        subst this
        rw [List.getElem?_set_self (by omega)]
        simp [hi]
  exact key xs.length 0 _ (by omega) (by simp) (fun j h => absurd h (by omega))

/-- A loop that asks each place and ends with a yes behind the last. -/
theorem all_loop (L : Nat → Int → Option Bool) (n : Nat) (hstep : ∀ i, i < n → Ev (fun k => L k ((i + 1 : Nat) : Int)) true → Ev (fun k => L k (i : Int)) true) (hend : Ev (fun k => L k (n : Int)) true) : Ev (fun k => L k 0) true := by
  have key : ∀ (d i : Nat), i + d = n → Ev (fun k => L k (i : Int)) true := by
    intro d
    induction d with
    | zero => intro i h; have : i = n := by omega
              subst this; exact hend
    | succ d ih => intro i h; exact hstep i (by omega) (ih (i + 1) (by omega))
  exact key n 0 (by omega)

/-- A loop that takes what each place holds off a number, and ends where that falls below 0. -/
theorem take_loop {α : Type} (L : Nat → Int → Int → Option Int) (xs : List α) (B : Int → α → Prop) (hB : ∀ n m x, n ≤ m → B n x → B m x)
    (hstep : ∀ (left : Int) (i : Nat) (hi : i < xs.length), 0 ≤ left → left ≤ 1048576 → ∃ r, (r < 0 ∧ Ev (fun k => L k left (i : Int)) (-1)) ∨ (0 ≤ r ∧ r ≤ left ∧ B left xs[i] ∧ ∀ q, Ev (fun k => L k r ((i + 1 : Nat) : Int)) q → Ev (fun k => L k left (i : Int)) q))
    (hend : ∀ left, Ev (fun k => L k left (xs.length : Int)) left) (left : Int) (h0 : 0 ≤ left) (h1 : left ≤ 1048576) :
    ∃ r, Ev (fun k => L k left 0) r ∧ (r < 0 ∨ (0 ≤ r ∧ r ≤ left ∧ ∀ a ∈ xs, B left a)) := by
  have key : ∀ (d i : Nat) (left : Int), i + d = xs.length → 0 ≤ left → left ≤ 1048576 → ∃ r, Ev (fun k => L k left (i : Int)) r ∧ (r < 0 ∨ (0 ≤ r ∧ r ≤ left ∧ ∀ j (hj : j < xs.length), i ≤ j → B left xs[j])) := by
    intro d
    induction d with
    | zero =>
      intro i left hd h0 h1
      have : i = xs.length := by omega
      subst this
      exact ⟨left, hend left, .inr ⟨h0, Int.le_refl _, fun j hj h => absurd hj (by omega)⟩⟩
    | succ d ih =>
      intro i left hd h0 h1
      obtain ⟨r, h | ⟨hr0, hr1, hb, hk⟩⟩ := hstep left i (by omega) h0 h1
      · exact ⟨-1, h.2, .inl (by omega)⟩
      · obtain ⟨q, hq, h⟩ := ih (i + 1) r (by omega) hr0 (by omega)
        refine ⟨q, hk q hq, ?_⟩
        rcases h with h | ⟨hq0, hq1, hbs⟩
        · exact .inl h
        · refine .inr ⟨hq0, by omega, fun j hj hij => ?_⟩
          rcases Nat.lt_or_ge i j with h | h
          · exact hB _ _ _ hr1 (hbs j hj (by omega))
          · have : i = j := by omega
            subst this
            exact hb
  obtain ⟨r, hr, h⟩ := key xs.length 0 left (by omega) h0 h1
  refine ⟨r, hr, ?_⟩
  rcases h with h | ⟨a, b, c⟩
  · exact .inl h
  · refine .inr ⟨a, b, fun x hx => ?_⟩
    obtain ⟨j, hj, rfl⟩ := List.getElem_of_mem hx
    exact c j hj (by omega)

/-- A loop that asks each place and goes on to what follows. -/
theorem each_ev {α : Type} (l : List α) (L : Nat → Int → Option Bool) (P : Nat → α → Prop) (Q : Prop)
    (hstep : ∀ (i : Nat) (hi : i < l.length), (P i l[i] ∧ ∀ r, Ev (fun k => L k ((i + 1 : Nat) : Int)) r → Ev (fun k => L k (i : Int)) r) ∨ (¬ P i l[i] ∧ Ev (fun k => L k (i : Int)) false))
    (hend : ∃ b, Ev (fun k => L k (l.length : Int)) b ∧ (b = true ↔ Q)) :
    ∃ b, Ev (fun k => L k 0) b ∧ (b = true ↔ (∀ (i : Nat) (hi : i < l.length), P i l[i]) ∧ Q) := by
  have key : ∀ (d i : Nat), i + d = l.length → ∃ b, Ev (fun k => L k (i : Int)) b ∧ (b = true ↔ (∀ (j : Nat) (hj : j < l.length), i ≤ j → P j l[j]) ∧ Q) := by
    intro d
    induction d with
    | zero =>
      intro i hd
      have : i = l.length := by omega
      subst this
      obtain ⟨b, hb, hQ⟩ := hend
      exact ⟨b, hb, hQ.trans ⟨fun h => ⟨fun j hj h1 => absurd hj (by omega), h⟩, fun h => h.2⟩⟩
    | succ d ih =>
      intro i hd
      have hi : i < l.length := by omega
      rcases hstep i hi with ⟨hp, hk⟩ | ⟨hp, hf⟩
      · obtain ⟨b, hb, hQ⟩ := ih (i + 1) (by omega)
        refine ⟨b, hk b hb, hQ.trans ⟨fun h => ⟨fun j hj h1 => ?_, h.2⟩, fun h => ⟨fun j hj h1 => h.1 j hj (by omega), h.2⟩⟩⟩
        rcases Nat.lt_or_ge i j with h3 | h3
        · exact h.1 j hj h3
        · have : i = j := by omega
          subst this
          exact hp
      · exact ⟨false, hf, fun h => (by cases h), fun h => absurd (h.1 i hi (Nat.le_refl _)) hp⟩
  obtain ⟨b, hb, hQ⟩ := key l.length 0 (by omega)
  exact ⟨b, hb, hQ.trans ⟨fun h => ⟨fun i hi => h.1 i hi (Nat.zero_le _), h.2⟩, fun h => ⟨fun j hj _ => h.1 j hj, h.2⟩⟩⟩
theorem all_mem {α : Type} {l : List α} {P : α → Prop} : (∀ (i : Nat) (hi : i < l.length), P l[i]) ↔ ∀ x ∈ l, P x :=
  ⟨fun h x hx => by obtain ⟨i, hi, rfl⟩ := List.getElem_of_mem hx; exact h i hi, fun h i hi => h _ (List.getElem_mem hi)⟩
/-- A loop inside another: it goes on to what follows if each place holds, and ends the whole if one does not. -/
theorem each_go {α β : Type} (l : List α) (L : Nat → Int → Option β) (P : Nat → α → Prop) (T : Nat → Option β) (f : β)
    (hstep : ∀ (i : Nat) (hi : i < l.length), (P i l[i] ∧ ∀ r, Ev (fun k => L k ((i + 1 : Nat) : Int)) r → Ev (fun k => L k (i : Int)) r) ∨ (¬ P i l[i] ∧ Ev (fun k => L k (i : Int)) f))
    (hend : ∀ r, Ev T r → Ev (fun k => L k (l.length : Int)) r) :
    ((∀ (i : Nat) (hi : i < l.length), P i l[i]) ∧ ∀ r, Ev T r → Ev (fun k => L k 0) r) ∨ (¬ (∀ (i : Nat) (hi : i < l.length), P i l[i]) ∧ Ev (fun k => L k 0) f) := by
  have key : ∀ (d i : Nat), i + d = l.length → ((∀ (j : Nat) (hj : j < l.length), i ≤ j → P j l[j]) ∧ ∀ r, Ev T r → Ev (fun k => L k (i : Int)) r) ∨ (¬ (∀ (j : Nat) (hj : j < l.length), i ≤ j → P j l[j]) ∧ Ev (fun k => L k (i : Int)) f) := by
    intro d
    induction d with
    | zero =>
      intro i hd
      have : i = l.length := by omega
      subst this
      exact .inl ⟨fun j hj h1 => absurd hj (by omega), hend⟩
    | succ d ih =>
      intro i hd
      have hi : i < l.length := by omega
      rcases hstep i hi with ⟨hp, hk⟩ | ⟨hp, hf⟩
      · rcases ih (i + 1) (by omega) with ⟨ha, hr⟩ | ⟨ha, hr⟩
        · refine .inl ⟨fun j hj h1 => ?_, fun r hr' => hk r (hr r hr')⟩
          rcases Nat.lt_or_ge i j with h3 | h3
          · exact ha j hj h3
          · have : i = j := by omega
            subst this
            exact hp
        · exact .inr ⟨fun h => ha fun j hj h1 => h j hj (by omega), hk f hr⟩
      · exact .inr ⟨fun h => hp (h i hi (Nat.le_refl _)), hf⟩
  rcases key l.length 0 (by omega) with ⟨ha, hr⟩ | ⟨ha, hr⟩
  · exact .inl ⟨fun i hi => ha i hi (Nat.zero_le _), hr⟩
  · exact .inr ⟨fun h => ha fun j hj _ => h j hj, hr⟩
/-- The same, each place asked of its value alone. -/
theorem each_mem_go {α β : Type} (l : List α) (L : Nat → Int → Option β) (P : α → Prop) (T : Nat → Option β) (f : β)
    (hstep : ∀ (i : Nat) (hi : i < l.length), (P l[i] ∧ ∀ r, Ev (fun k => L k ((i + 1 : Nat) : Int)) r → Ev (fun k => L k (i : Int)) r) ∨ (¬ P l[i] ∧ Ev (fun k => L k (i : Int)) f))
    (hend : ∀ r, Ev T r → Ev (fun k => L k (l.length : Int)) r) :
    ((∀ x ∈ l, P x) ∧ ∀ r, Ev T r → Ev (fun k => L k 0) r) ∨ (¬ (∀ x ∈ l, P x) ∧ Ev (fun k => L k 0) f) := by
  rcases each_go l L (fun _ x => P x) T f hstep hend with h | h
  · exact .inl ⟨all_mem.1 h.1, h.2⟩
  · exact .inr ⟨fun g => h.1 (all_mem.2 g), h.2⟩

/-! ### Marks -/
/-! ### Texts -/
theorem bool_of_iff {a b : Bool} {P : Prop} (ha : a = true ↔ P) (hb : b = true ↔ P) : a = b := by
  rw [Bool.eq_iff_iff, ha, hb]

/-- Is a byte one of those that a name may have. -/
def nb (c : Int) : Bool := decide (97 ≤ c ∧ c ≤ 122 ∨ 65 ≤ c ∧ c ≤ 90 ∨ 48 ≤ c ∧ c ≤ 57 ∨ c = 45 ∨ c = 95 ∨ c = 46)
/-- What a name must be. -/
def NameIs (s : ByteArray) : Prop := 1 ≤ s.size ∧ s.size ≤ 20 ∧ ∀ j, j < s.size → nb (bt s (j : Nat)) = true
/-! ### Answers that say a law -/
section
variable {β : Type} {P : Prop} {f g : Nat → Option Bool}
end
end Go.Proofs.Ytkkdmmefnicmaaa.XEv
