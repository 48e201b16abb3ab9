/- Small lemmas on rounds (Ev), on sums that do not wrap, and on loops over lists: used by the plain proofs. -/
import Derived.Test.YtdnhpicgjkddbaaZWMore
import Derived.Test.YtdnhpicgjkddbaaZWLast
import Derived.OpenShut
import Derived.WideShapes
set_option linter.unusedVariables false
namespace Go.Proofs.Ytdnhpicgjkddbaa.XEv
open Go.RowKit Go.Proofs.YtdnhpicgjkddbaaW.PrintWords

theorem wrap_id {x : Int} (h0 : -9223372036854775808 ≤ x) (h1 : x ≤ 9223372036854775807) : wrap64 x = x := by unfold wrap64; omega
theorem wrap_succ {i n : Nat} (h : i < n) (hn : n ≤ 9223372036854775807) : wrap64 ((i : Int) + 1) = ((i + 1 : Nat) : Int) := by rw [wrap_id (by omega) (by omega)]; omega
section
variable {α β : Type} {g f : Nat → Option α} {r : α}
theorem ev_pos {c : Prop} [Decidable c] (h : c) (k : Ev f r) : Ev (fun n => if c then f n else g n) r := Ev.congr (fun n => if_pos h) k
theorem ev_neg {c : Prop} [Decidable c] (h : ¬ c) (k : Ev g r) : Ev (fun n => if c then f n else g n) r := Ev.congr (fun n => if_neg h) k
theorem ev_bind0 {a : Option β} {b : β} {f : Nat → β → Option α} (h : a = some b) (k : Ev (fun n => f n b) r) : Ev (fun n => a.bind (f n)) r := Ev.congr (fun n => by rw [h, Option.bind_some]) k
end

theorem getD_at {α : Type} {l : List α} {i : Nat} (h : i < l.length) (d : α) : l.getD i d = l[i] := by simp [List.getD, h]
theorem rd_at {l : List Int} {i : Nat} (h : i < l.length) : rd l (i : Int) = l[i] := by simp [rd, List.getD, h]
/-- A loop that fills a list of the other's length, place by place. -/
theorem fill_loop {α β : Type} (L : Nat → List β → Int → Option (List β)) (cv : α → β) (z : β) (xs : List α)
    (hstep : ∀ (ys : List β) (i : Nat) (hi : i < xs.length) (r : List β), ys.length = xs.length → Ev (fun k => L k (ys.set i (cv xs[i])) ((i + 1 : Nat) : Int)) r → Ev (fun k => L k ys (i : Int)) r)
    (hend : ∀ ys : List β, Ev (fun k => L k ys (xs.length : Int)) ys) : Ev (fun k => L k (List.replicate xs.length z) 0) (xs.map cv) := by
  have key : ∀ (d i : Nat) (ys : List β), i + d = xs.length → ys.length = xs.length → (∀ j, j < i → ys[j]? = (xs.map cv)[j]?) → Ev (fun k => L k ys (i : Int)) (xs.map cv) := by
    intro d
    induction d with
    | zero =>
      intro i ys hd hl hj
      have e : ys = xs.map cv := by
        apply List.ext_getElem?
        intro j
        rcases Nat.lt_or_ge j i with h | h
        · exact hj j h
        · rw [List.getElem?_eq_none (by omega), List.getElem?_eq_none (by simp; omega)]
      have hi : i = xs.length := by omega
      rw [hi, ← e]
      exact hend ys
    | succ d ih =>
      intro i ys hd hl hj
      have hi : i < xs.length := by omega
      refine hstep ys i hi _ hl (ih (i + 1) _ (by omega) (by simp [hl]) ?_)
      intro j hlt
      rcases Nat.lt_or_ge j i with h | h
      · rw [List.getElem?_set_ne (by omega)]
        exact hj j h
      · have : j = i := by omega
        subst this
        rw [List.getElem?_set_self (by omega)]
        simp [hi]
  exact key xs.length 0 _ (by omega) (by simp) (fun j h => absurd h (by omega))

/-- A loop that asks each place and ends with a yes behind the last. -/
theorem all_loop (L : Nat → Int → Option Bool) (n : Nat) (hstep : ∀ i, i < n → Ev (fun k => L k ((i + 1 : Nat) : Int)) true → Ev (fun k => L k (i : Int)) true) (hend : Ev (fun k => L k (n : Int)) true) : Ev (fun k => L k 0) true := by
  have key : ∀ (d i : Nat), i + d = n → Ev (fun k => L k (i : Int)) true := by
    intro d
    induction d with
    | zero => intro i h; have : i = n := by omega
              subst this; exact hend
    | succ d ih => intro i h; exact hstep i (by omega) (ih (i + 1) (by omega))
  exact key n 0 (by omega)

/-- A loop that takes what each place holds off a number, and ends where that falls below 0. -/
theorem take_loop {α : Type} (L : Nat → Int → Int → Option Int) (xs : List α) (B : Int → α → Prop) (hB : ∀ n m x, n ≤ m → B n x → B m x)
    (hstep : ∀ (left : Int) (i : Nat) (hi : i < xs.length), 0 ≤ left → left ≤ 1048576 → ∃ r, (r < 0 ∧ Ev (fun k => L k left (i : Int)) (-1)) ∨ (0 ≤ r ∧ r ≤ left ∧ B left xs[i] ∧ ∀ q, Ev (fun k => L k r ((i + 1 : Nat) : Int)) q → Ev (fun k => L k left (i : Int)) q))
    (hend : ∀ left, Ev (fun k => L k left (xs.length : Int)) left) (left : Int) (h0 : 0 ≤ left) (h1 : left ≤ 1048576) :
    ∃ r, Ev (fun k => L k left 0) r ∧ (r < 0 ∨ (0 ≤ r ∧ r ≤ left ∧ ∀ a ∈ xs, B left a)) := by
  have key : ∀ (d i : Nat) (left : Int), i + d = xs.length → 0 ≤ left → left ≤ 1048576 → ∃ r, Ev (fun k => L k left (i : Int)) r ∧ (r < 0 ∨ (0 ≤ r ∧ r ≤ left ∧ ∀ j (hj : j < xs.length), i ≤ j → B left xs[j])) := by
    intro d
    induction d with
    | zero =>
      intro i left hd h0 h1
      have : i = xs.length := by omega
      subst this
      exact ⟨left, hend left, .inr ⟨h0, Int.le_refl _, fun j hj h => absurd hj (by omega)⟩⟩
    | succ d ih =>
      intro i left hd h0 h1
      obtain ⟨r, h | ⟨hr0, hr1, hb, hk⟩⟩ := hstep left i (by omega) h0 h1
      · exact ⟨-1, h.2, .inl (by omega)⟩
      · obtain ⟨q, hq, h⟩ := ih (i + 1) r (by omega) hr0 (by omega)
        refine ⟨q, hk q hq, ?_⟩
        rcases h with h | ⟨hq0, hq1, hbs⟩
        · exact .inl h
        · refine .inr ⟨hq0, by omega, fun j hj hij => ?_⟩
          rcases Nat.lt_or_ge i j with h | h
          · exact hB _ _ _ hr1 (hbs j hj (by omega))
          · have : i = j := by omega
            subst this
            exact hb
  obtain ⟨r, hr, h⟩ := key xs.length 0 left (by omega) h0 h1
  refine ⟨r, hr, ?_⟩
  rcases h with h | ⟨a, b, c⟩
  · exact .inl h
  · refine .inr ⟨a, b, fun x hx => ?_⟩
    obtain ⟨j, hj, rfl⟩ := List.getElem_of_mem hx
    exact c j hj (by omega)

/-- A loop that asks each place and goes on to what follows. -/
theorem each_ev {α : Type} (l : List α) (L : Nat → Int → Option Bool) (P : Nat → α → Prop) (Q : Prop)
    (hstep : ∀ (i : Nat) (hi : i < l.length), (P i l[i] ∧ ∀ r, Ev (fun k => L k ((i + 1 : Nat) : Int)) r → Ev (fun k => L k (i : Int)) r) ∨ (¬ P i l[i] ∧ Ev (fun k => L k (i : Int)) false))
    (hend : ∃ b, Ev (fun k => L k (l.length : Int)) b ∧ (b = true ↔ Q)) :
    ∃ b, Ev (fun k => L k 0) b ∧ (b = true ↔ (∀ (i : Nat) (hi : i < l.length), P i l[i]) ∧ Q) := by
  have key : ∀ (d i : Nat), i + d = l.length → ∃ b, Ev (fun k => L k (i : Int)) b ∧ (b = true ↔ (∀ (j : Nat) (hj : j < l.length), i ≤ j → P j l[j]) ∧ Q) := by
    intro d
    induction d with
    | zero =>
      intro i hd
      have : i = l.length := by omega
      subst this
      obtain ⟨b, hb, hQ⟩ := hend
      exact ⟨b, hb, hQ.trans ⟨fun h => ⟨fun j hj h1 => absurd hj (by omega), h⟩, fun h => h.2⟩⟩
    | succ d ih =>
      intro i hd
      have hi : i < l.length := by omega
      rcases hstep i hi with ⟨hp, hk⟩ | ⟨hp, hf⟩
      · obtain ⟨b, hb, hQ⟩ := ih (i + 1) (by omega)
        refine ⟨b, hk b hb, hQ.trans ⟨fun h => ⟨fun j hj h1 => ?_, h.2⟩, fun h => ⟨fun j hj h1 => h.1 j hj (by omega), h.2⟩⟩⟩
        rcases Nat.lt_or_ge i j with h3 | h3
        · exact h.1 j hj h3
        · have : i = j := by omega
          subst this
          exact hp
      · exact ⟨false, hf, fun h => (by cases h), fun h => absurd (h.1 i hi (Nat.le_refl _)) hp⟩
  obtain ⟨b, hb, hQ⟩ := key l.length 0 (by omega)
  exact ⟨b, hb, hQ.trans ⟨fun h => ⟨fun i hi => h.1 i hi (Nat.zero_le _), h.2⟩, fun h => ⟨fun j hj _ => h.1 j hj, h.2⟩⟩⟩
theorem all_mem {α : Type} {l : List α} {P : α → Prop} : (∀ (i : Nat) (hi : i < l.length), P l[i]) ↔ ∀ x ∈ l, P x :=
  ⟨fun h x hx => by obtain ⟨i, hi, rfl⟩ := List.getElem_of_mem hx; exact h i hi, fun h i hi => h _ (List.getElem_mem hi)⟩
/-- The same, each place asked of its value alone. -/
theorem each_mem {α : Type} (l : List α) (L : Nat → Int → Option Bool) (P : α → Prop) (Q : Prop)
    (hstep : ∀ (i : Nat) (hi : i < l.length), (P l[i] ∧ ∀ r, Ev (fun k => L k ((i + 1 : Nat) : Int)) r → Ev (fun k => L k (i : Int)) r) ∨ (¬ P l[i] ∧ Ev (fun k => L k (i : Int)) false))
    (hend : ∃ b, Ev (fun k => L k (l.length : Int)) b ∧ (b = true ↔ Q)) :
    ∃ b, Ev (fun k => L k 0) b ∧ (b = true ↔ (∀ x ∈ l, P x) ∧ Q) := by
  obtain ⟨b, hb, h⟩ := each_ev l L (fun _ x => P x) Q hstep hend
  exact ⟨b, hb, by rw [h, all_mem]⟩

/-! ### Marks -/
/-- The marks n, n + 1, .. -/
def seqFrom (n : Int) (m : Nat) : List Int := (List.range m).map fun i => n + ((i : Nat) : Int)
theorem seqFrom_length (n : Int) (m : Nat) : (seqFrom n m).length = m := by simp [seqFrom]
theorem seqFrom_get? (n : Int) {m i : Nat} (h : i < m) : (seqFrom n m)[i]? = some (n + (i : Int)) := by simp [seqFrom, h]
theorem seqFrom_rd (n : Int) {m i : Nat} (h : i < m) : rd (seqFrom n m) (i : Int) = n + (i : Int) := by
  rw [rd_at (by rw [seqFrom_length]; exact h)]
  have := seqFrom_get? n h
  rw [List.getElem?_eq_getElem (by rw [seqFrom_length]; exact h)] at this
  exact Option.some.inj this
/-- A loop that writes the marks into a list of numbers. -/
theorem markInt_loop (L : Nat → List Int → Int → Int → Option (Int × List Int)) (len : Nat)
    (hstep : ∀ (xs : List Int) (n : Int) (i : Nat), i < len → xs.length = len → ∀ r, Ev (fun k => L k (xs.set i n) (wrap64 (n + 1)) ((i + 1 : Nat) : Int)) r → Ev (fun k => L k xs n (i : Int)) r)
    (hend : ∀ (xs : List Int) (n : Int), xs.length = len → Ev (fun k => L k xs n (len : Int)) (n, xs)) (xs : List Int) (n : Int) (hx : xs.length = len) (h0 : 0 ≤ n) (h1 : n + len ≤ 4611686018427387904) :
    Ev (fun k => L k xs n 0) (n + len, seqFrom n len) := by
  have key : ∀ (d i : Nat) (xs : List Int), i + d = len → xs.length = len → (∀ j, j < i → xs[j]? = some (n + (j : Int))) → Ev (fun k => L k xs (n + (i : Int)) (i : Int)) (n + len, seqFrom n len) := by
    intro d
    induction d with
    | zero =>
      intro i xs hd hx hj
      have hi : i = len := by omega
      subst hi
      have e : xs = seqFrom n i := by
        apply List.ext_getElem?
        intro j
        rcases Nat.lt_or_ge j i with h | h
        · rw [hj j h, seqFrom_get? n h]
        · rw [List.getElem?_eq_none (by omega), List.getElem?_eq_none (by rw [seqFrom_length]; exact h)]
      rw [← e]
      exact hend xs _ hx
    | succ d ih =>
      intro i xs hd hx hj
      refine hstep xs _ i (by omega) hx _ ?_
      have hw : wrap64 (n + (i : Int) + 1) = n + ((i + 1 : Nat) : Int) := by rw [wrap_id (by omega) (by omega)]; omega
      rw [hw]
      refine ih (i + 1) _ (by omega) (by simp [hx]) ?_
      intro j hlt
      rcases Nat.lt_or_ge j i with h | h
      · rw [List.getElem?_set_ne (by omega)]
        exact hj j h
      · have : j = i := by omega
        subst this
        rw [List.getElem?_set_self (by omega)]
  have := key len 0 xs (by omega) hx (fun j h => absurd h (by omega))
  simpa using this
/-- A loop that asks for the marks. -/
theorem held_loop (L : Nat → Int → Int → Option Int) (m : Nat) (n : Int) (h0 : 0 ≤ n) (h1 : n + m ≤ 4611686018427387904)
    (hstep : ∀ i : Nat, i < m → ∀ r, Ev (fun k => L k (wrap64 (n + (i : Int) + 1)) ((i + 1 : Nat) : Int)) r → Ev (fun k => L k (n + (i : Int)) (i : Int)) r)
    (hend : Ev (fun k => L k (n + (m : Int)) (m : Int)) (n + (m : Int))) : Ev (fun k => L k n 0) (n + (m : Int)) := by
  have key : ∀ (d i : Nat), i + d = m → Ev (fun k => L k (n + (i : Int)) (i : Int)) (n + (m : Int)) := by
    intro d
    induction d with
    | zero =>
      intro i hd
      have : i = m := by omega
      subst this
      exact hend
    | succ d ih =>
      intro i hd
      refine hstep i (by omega) _ ?_
      have hw : wrap64 (n + (i : Int) + 1) = n + ((i + 1 : Nat) : Int) := by rw [wrap_id (by omega) (by omega)]; omega
      rw [hw]
      exact ih (i + 1) (by omega)
  have := key m 0 (by omega)
  simpa using this

/-! ### Texts -/
/-! ### Answers that say a law -/
section
variable {β : Type} {P : Prop} {f g : Nat → Option Bool}
end
end Go.Proofs.Ytdnhpicgjkddbaa.XEv
