/- Small lemmas on rounds (Ev), on sums that do not wrap, and on loops over lists: used by the plain proofs. -/
import Derived.Test.YtdnenglafphkbaaZWMore
import Derived.Test.YtdnenglafphkbaaZWLast
import Derived.OpenShut
import Derived.WideShapes
set_option linter.unusedVariables false
namespace Go.Proofs.Ytdnenglafphkbaa.XEv
open Go.RowKit Go.Proofs.YtdnenglafphkbaaW.PrintWords

theorem wrap_id {x : Int} (h0 : -9223372036854775808 ≤ x) (h1 : x ≤ 9223372036854775807) : wrap64 x = x := by unfold wrap64; omega
theorem wrap_succ {i n : Nat} (h : i < n) (hn : n ≤ 9223372036854775807) : wrap64 ((i : Int) + 1) = ((i + 1 : Nat) : Int) := by rw [wrap_id (by omega) (by omega)]; omega
section
variable {α β : Type} {g f : Nat → Option α} {r : α}
theorem ev_pos {c : Prop} [Decidable c] (h : c) (k : Ev f r) : Ev (fun n => if c then f n else g n) r := Ev.congr (fun n => if_pos h) k
theorem ev_neg {c : Prop} [Decidable c] (h : ¬ c) (k : Ev g r) : Ev (fun n => if c then f n else g n) r := Ev.congr (fun n => if_neg h) k
theorem ev_eq {a : Option α} (h : a = some r) : Ev (fun _ => a) r := ⟨0, fun _ _ => h⟩
theorem ev_bind0 {a : Option β} {b : β} {f : Nat → β → Option α} (h : a = some b) (k : Ev (fun n => f n b) r) : Ev (fun n => a.bind (f n)) r := Ev.congr (fun n => by rw [h, Option.bind_some]) k
end

theorem getD_at {α : Type} {l : List α} {i : Nat} (h : i < l.length) (d : α) : l.getD i d = l[i] := by simp [List.getD, h]
/-- A loop that fills a list of the other's length, place by place. -/
theorem fill_loop {α β : Type} (L : Nat → List β → Int → Option (List β)) (cv : α → β) (z : β) (xs : List α)
    (hstep : ∀ (ys : List β) (i : Nat) (hi : i < xs.length) (r : List β), ys.length = xs.length → Ev (fun k => L k (ys.set i (cv xs[i])) ((i + 1 : Nat) : Int)) r → Ev (fun k => L k ys (i : Int)) r)
    (hend : ∀ ys : List β, Ev (fun k => L k ys (xs.length : Int)) ys) : Ev (fun k => L k (List.replicate xs.length z) 0) (xs.map cv) := by
  have key : ∀ (d i : Nat) (ys : List β), i + d = xs.length → ys.length = xs.length → (∀ j, j < i → ys[j]? = (xs.map cv)[j]?) → Ev (fun k => L k ys (i : Int)) (xs.map cv) := by
    intro d
    induction d with
    | zero =>
      intro i ys hd hl hj
      have e : ys = xs.map cv := by
        apply List.ext_getElem?
        intro j
        rcases Nat.lt_or_ge j i with h | h
        · exact hj j h
        · rw [List.getElem?_eq_none (by omega), List.getElem?_eq_none (by simp; omega)]
      have hi : i = xs.length := by omega
      rw [hi, ← e]
      exact hend ys
    | succ d ih =>
      intro i ys hd hl hj
      have hi : i < xs.length := by omega
      refine hstep ys i hi _ hl (ih (i + 1) _ (by omega) (by simp [hl]) ?_)
      intro j hlt
      rcases Nat.lt_or_ge j i with h | h
      · rw [List.getElem?_set_ne (by omega)]
        exact hj j h
      · have : j = i := by omega
        subst this
        rw [List.getElem?_set_self (by omega)]
        simp [hi]
  exact key xs.length 0 _ (by omega) (by simp) (fun j h => absurd h (by omega))

/-- A loop that asks each place and ends with a yes behind the last. -/
theorem all_loop (L : Nat → Int → Option Bool) (n : Nat) (hstep : ∀ i, i < n → Ev (fun k => L k ((i + 1 : Nat) : Int)) true → Ev (fun k => L k (i : Int)) true) (hend : Ev (fun k => L k (n : Int)) true) : Ev (fun k => L k 0) true := by
  have key : ∀ (d i : Nat), i + d = n → Ev (fun k => L k (i : Int)) true := by
    intro d
    induction d with
    | zero => intro i h; have : i = n := by omega
              subst this; exact hend
    | succ d ih => intro i h; exact hstep i (by omega) (ih (i + 1) (by omega))
  exact key n 0 (by omega)

/-- A loop that takes what each place holds off a number, and ends where that falls below 0. -/
theorem take_loop {α : Type} (L : Nat → Int → Int → Option Int) (xs : List α) (B : Int → α → Prop) (hB : ∀ n m x, n ≤ m → B n x → B m x)
    (hstep : ∀ (left : Int) (i : Nat) (hi : i < xs.length), 0 ≤ left → left ≤ 1048576 → ∃ r, (r < 0 ∧ Ev (fun k => L k left (i : Int)) (-1)) ∨ (0 ≤ r ∧ r ≤ left ∧ B left xs[i] ∧ ∀ q, Ev (fun k => L k r ((i + 1 : Nat) : Int)) q → Ev (fun k => L k left (i : Int)) q))
    (hend : ∀ left, Ev (fun k => L k left (xs.length : Int)) left) (left : Int) (h0 : 0 ≤ left) (h1 : left ≤ 1048576) :
    ∃ r, Ev (fun k => L k left 0) r ∧ (r < 0 ∨ (0 ≤ r ∧ r ≤ left ∧ ∀ a ∈ xs, B left a)) := by
  have key : ∀ (d i : Nat) (left : Int), i + d = xs.length → 0 ≤ left → left ≤ 1048576 → ∃ r, Ev (fun k => L k left (i : Int)) r ∧ (r < 0 ∨ (0 ≤ r ∧ r ≤ left ∧ ∀ j (hj : j < xs.length), i ≤ j → B left xs[j])) := by
    intro d
    induction d with
    | zero =>
      intro i left hd h0 h1
      have : i = xs.length := by omega
      subst this
      exact ⟨left, hend left, .inr ⟨h0, Int.le_refl _, fun j hj h => absurd hj (by omega)⟩⟩
    | succ d ih =>
      intro i left hd h0 h1
      obtain ⟨r, h | ⟨hr0, hr1, hb, hk⟩⟩ := hstep left i (by omega) h0 h1
      · exact ⟨-1, h.2, .inl (by omega)⟩
      · obtain ⟨q, hq, h⟩ := ih (i + 1) r (by omega) hr0 (by omega)
        refine ⟨q, hk q hq, ?_⟩
        rcases h with h | ⟨hq0, hq1, hbs⟩
        · exact .inl h
        · refine .inr ⟨hq0, by omega, fun j hj hij => ?_⟩
          rcases Nat.lt_or_ge i j with h | h
          · exact hB _ _ _ hr1 (hbs j hj (by omega))
          · have : i = j := by omega
            subst this
            exact hb
  obtain ⟨r, hr, h⟩ := key xs.length 0 left (by omega) h0 h1
  refine ⟨r, hr, ?_⟩
  rcases h with h | ⟨a, b, c⟩
  · exact .inl h
  · refine .inr ⟨a, b, fun x hx => ?_⟩
    obtain ⟨j, hj, rfl⟩ := List.getElem_of_mem hx
    exact c j hj (by omega)

/-- A loop that asks each place and goes on to what follows. -/
theorem each_ev {α : Type} (l : List α) (L : Nat → Int → Option Bool) (P : Nat → α → Prop) (Q : Prop)
    (hstep : ∀ (i : Nat) (hi : i < l.length), (P i l[i] ∧ ∀ r, Ev (fun k => L k ((i + 1 : Nat) : Int)) r → Ev (fun k => L k (i : Int)) r) ∨ (¬ P i l[i] ∧ Ev (fun k => L k (i : Int)) false))
    (hend : ∃ b, Ev (fun k => L k (l.length : Int)) b ∧ (b = true ↔ Q)) :
    ∃ b, Ev (fun k => L k 0) b ∧ (b = true ↔ (∀ (i : Nat) (hi : i < l.length), P i l[i]) ∧ Q) := by
  have key : ∀ (d i : Nat), i + d = l.length → ∃ b, Ev (fun k => L k (i : Int)) b ∧ (b = true ↔ (∀ (j : Nat) (hj : j < l.length), i ≤ j → P j l[j]) ∧ Q) := by
    intro d
    induction d with
    | zero =>
      intro i hd
      have : i = l.length := by omega
      subst this
      obtain ⟨b, hb, hQ⟩ := hend
      exact ⟨b, hb, hQ.trans ⟨fun h => ⟨fun j hj h1 => absurd hj (by omega), h⟩, fun h => h.2⟩⟩
    | succ d ih =>
      intro i hd
      have hi : i < l.length := by omega
      rcases hstep i hi with ⟨hp, hk⟩ | ⟨hp, hf⟩
      · obtain ⟨b, hb, hQ⟩ := ih (i + 1) (by omega)
        refine ⟨b, hk b hb, hQ.trans ⟨fun h => ⟨fun j hj h1 => ?_, h.2⟩, fun h => ⟨fun j hj h1 => h.1 j hj (by omega), h.2⟩⟩⟩
        rcases Nat.lt_or_ge i j with h3 | h3
        · exact h.1 j hj h3
        · have : i = j := by omega
          subst this
          exact hp
      · exact ⟨false, hf, fun h => (by cases h), fun h => absurd (h.1 i hi (Nat.le_refl _)) hp⟩
  obtain ⟨b, hb, hQ⟩ := key l.length 0 (by omega)
  exact ⟨b, hb, hQ.trans ⟨fun h => ⟨fun i hi => h.1 i hi (Nat.zero_le _), h.2⟩, fun h => ⟨fun j hj _ => h.1 j hj, h.2⟩⟩⟩
/-- A loop that looks for the first that is so. -/
theorem first_loop {α : Type} (l : List α) (L : Nat → Int → Option Int) (P : α → Prop)
    (hstep : ∀ (i : Nat) (hi : i < l.length), (P l[i] ∧ Ev (fun k => L k (i : Int)) (i : Int)) ∨ (¬ P l[i] ∧ ∀ r, Ev (fun k => L k ((i + 1 : Nat) : Int)) r → Ev (fun k => L k (i : Int)) r))
    (hend : Ev (fun k => L k (l.length : Int)) (-1)) :
    ∃ r, Ev (fun k => L k 0) r ∧ ((r = -1 ∧ ∀ y ∈ l, ¬ P y) ∨ ∃ i : Nat, r = (i : Int) ∧ ∃ y, l[i]? = some y ∧ P y ∧ ∀ (j : Nat) z, j < i → l[j]? = some z → ¬ P z) := by
  have key : ∀ (d i : Nat), i + d = l.length → (∀ (j : Nat) y, j < i → l[j]? = some y → ¬ P y) → ∃ r, Ev (fun k => L k (i : Int)) r ∧ ((r = -1 ∧ ∀ y ∈ l, ¬ P y) ∨ ∃ i : Nat, r = (i : Int) ∧ ∃ y, l[i]? = some y ∧ P y ∧ ∀ (j : Nat) z, j < i → l[j]? = some z → ¬ P z) := by
    intro d
    induction d with
    | zero =>
      intro i hd hb
      have : i = l.length := by omega
      subst this
      refine ⟨-1, hend, .inl ⟨rfl, fun y hy => ?_⟩⟩
      obtain ⟨j, hj⟩ := List.getElem?_of_mem hy
      exact hb j y (List.getElem?_eq_some_iff.1 hj).1 hj
    | succ d ih =>
      intro i hd hb
      have hi : i < l.length := by omega
      have hg : l[i]? = some l[i] := List.getElem?_eq_getElem hi
      rcases hstep i hi with ⟨hp, hr⟩ | ⟨hp, hk⟩
      · exact ⟨i, hr, .inr ⟨i, rfl, l[i], hg, hp, hb⟩⟩
      · obtain ⟨r, hr, h⟩ := ih (i + 1) (by omega) (fun j y h1 h2 => by
          rcases Nat.lt_or_ge j i with h3 | h3
          · exact hb j y h3 h2
          · have : j = i := by omega
            subst this
            rw [hg] at h2
            injection h2 with h2
            rw [← h2]
            exact hp)
        exact ⟨r, hk r hr, h⟩
  exact key l.length 0 (by omega) (fun j y h => absurd h (by omega))

/-! ### Marks -/
/-- A loop that writes something into each place and counts on. -/
theorem mark_loop {α : Type} (L : Nat → List α → Int → Int → Option (Int × List α)) (len : Nat) (c : Int) (hc : 0 ≤ c)
    (hstep : ∀ (xs : List α) (n : Int) (i : Nat), i < len → xs.length = len → 0 ≤ n → n ≤ 2305843009213693952 → ∃ (n' : Int) (xs' : List α), n ≤ n' ∧ n' ≤ n + c ∧ xs'.length = len ∧ ∀ r, Ev (fun k => L k xs' n' ((i + 1 : Nat) : Int)) r → Ev (fun k => L k xs n (i : Int)) r)
    (hend : ∀ (xs : List α) (n : Int), xs.length = len → Ev (fun k => L k xs n (len : Int)) (n, xs)) (xs : List α) (n : Int) (hx : xs.length = len) (h0 : 0 ≤ n) (h1 : n + len * c ≤ 2305843009213693952) :
    ∃ r, Ev (fun k => L k xs n 0) r ∧ n ≤ r.1 ∧ r.1 ≤ n + len * c ∧ r.2.length = len := by
  have key : ∀ (d i : Nat) (xs : List α) (n : Int), i + d = len → xs.length = len → 0 ≤ n → n + d * c ≤ 2305843009213693952 → ∃ r, Ev (fun k => L k xs n (i : Int)) r ∧ n ≤ r.1 ∧ r.1 ≤ n + d * c ∧ r.2.length = len := by
    intro d
    induction d with
    | zero =>
      intro i xs n hd hx h0 h1
      have : i = len := by omega
      subst this
      exact ⟨(n, xs), hend xs n hx, Int.le_refl _, by simp, hx⟩
    | succ d ih =>
      intro i xs n hd hx h0 h1
      have e : ((d + 1 : Nat) : Int) * c = d * c + c := by rw [Int.natCast_succ, Int.add_mul, Int.one_mul]
      have hdc : 0 ≤ (d : Int) * c := Int.mul_nonneg (by omega) hc
      rw [e] at h1
      obtain ⟨n', xs', a, b, hx', hk⟩ := hstep xs n i (by omega) hx h0 (by omega)
      obtain ⟨r, hr, p, q, hl⟩ := ih (i + 1) xs' n' (by omega) hx' (by omega) (by omega)
      exact ⟨r, hk r hr, by omega, by rw [e]; omega, hl⟩
  exact key len 0 xs n (by omega) hx h0 h1
/-- A loop that writes what each place's mark says, place by place. -/
theorem mark_loop2 {α : Type} (L : Nat → List α → Int → Int → Option (Int × List α)) (mk : Int → α) (len : Nat) (c : Int) (hc : 0 ≤ c)
    (hstep : ∀ (xs : List α) (n : Int) (i : Nat), i < len → xs.length = len → 0 ≤ n → n ≤ 1152921504606846976 → ∀ r, Ev (fun k => L k (xs.set i (mk n)) (n + c) ((i + 1 : Nat) : Int)) r → Ev (fun k => L k xs n (i : Int)) r)
    (hend : ∀ (xs : List α) (n : Int), xs.length = len → Ev (fun k => L k xs n (len : Int)) (n, xs)) (xs : List α) (n : Int) (hx : xs.length = len) (h0 : 0 ≤ n) (h1 : n + len * c ≤ 1152921504606846976) :
    Ev (fun k => L k xs n 0) (n + len * c, (List.range len).map fun i => mk (n + ((i : Nat) : Int) * c)) := by
  have key : ∀ (d i : Nat) (xs : List α), i + d = len → xs.length = len → (∀ j, j < i → xs[j]? = some (mk (n + (j : Int) * c))) → Ev (fun k => L k xs (n + (i : Int) * c) (i : Int)) (n + len * c, (List.range len).map fun i => mk (n + ((i : Nat) : Int) * c)) := by
    intro d
    induction d with
    | zero =>
      intro i xs hd hx hj
      have hi : i = len := by omega
      subst hi
      have e : xs = (List.range i).map fun q => mk (n + ((q : Nat) : Int) * c) := by
        apply List.ext_getElem?
        intro j
        rcases Nat.lt_or_ge j i with h | h
        · rw [hj j h]; simp [h]
        · rw [List.getElem?_eq_none (by omega), List.getElem?_eq_none (by simp; omega)]
      rw [← e]
      exact hend xs _ hx
    | succ d ih =>
      intro i xs hd hx hj
      have e : ((i + 1 : Nat) : Int) * c = (i : Int) * c + c := by rw [Int.natCast_succ, Int.add_mul, Int.one_mul]
      have hic : 0 ≤ (i : Int) * c := Int.mul_nonneg (by omega) hc
      have hle : (i : Int) * c ≤ len * c := Int.mul_le_mul_of_nonneg_right (by omega) hc
      refine hstep xs _ i (by omega) hx (by omega) (by omega) _ ?_
      have := ih (i + 1) (xs.set i (mk (n + (i : Int) * c))) (by omega) (by simp [hx]) (by
        intro j hlt
        rcases Nat.lt_or_ge j i with h | h
        · rw [List.getElem?_set_ne (by omega)]
          exact hj j h
        · have : j = i := by omega
          subst this
          rw [List.getElem?_set_self (by omega)])
      rw [e, ← Int.add_assoc] at this
      exact this
  have := key len 0 xs (by omega) hx (fun j h => absurd h (by omega))
  simpa using this
/-- A loop that asks for them. -/
theorem held_loop2 (L : Nat → Int → Int → Option Int) (m : Nat) (c n : Int) (hc : 0 ≤ c) (h0 : 0 ≤ n) (h1 : n + m * c ≤ 1152921504606846976)
    (hstep : ∀ i : Nat, i < m → 0 ≤ n + (i : Int) * c → n + (i : Int) * c ≤ 1152921504606846976 → ∀ r, Ev (fun k => L k (n + (i : Int) * c + c) ((i + 1 : Nat) : Int)) r → Ev (fun k => L k (n + (i : Int) * c) (i : Int)) r)
    (hend : Ev (fun k => L k (n + (m : Int) * c) (m : Int)) (n + (m : Int) * c)) : Ev (fun k => L k n 0) (n + (m : Int) * c) := by
  have key : ∀ (d i : Nat), i + d = m → Ev (fun k => L k (n + (i : Int) * c) (i : Int)) (n + (m : Int) * c) := by
    intro d
    induction d with
    | zero =>
      intro i hd
      have : i = m := by omega
      subst this
      exact hend
    | succ d ih =>
      intro i hd
      have e : ((i + 1 : Nat) : Int) * c = (i : Int) * c + c := by rw [Int.natCast_succ, Int.add_mul, Int.one_mul]
      have hic : 0 ≤ (i : Int) * c := Int.mul_nonneg (by omega) hc
      have hle : (i : Int) * c ≤ m * c := Int.mul_le_mul_of_nonneg_right (by omega) hc
      refine hstep i (by omega) (by omega) (by omega) _ ?_
      have := ih (i + 1) (by omega)
      rw [e, ← Int.add_assoc] at this
      exact this
  have := key m 0 (by omega)
  simpa using this

/-! ### Texts -/
theorem toList_loop (s : ByteArray) : ∀ (d i : Nat) (acc : List UInt8), i + d = s.size → ByteArray.toList.loop s i acc = acc.reverse ++ s.data.toList.drop i := by
  intro d
  induction d with
  | zero =>
    intro i acc h
    unfold ByteArray.toList.loop
    rw [if_neg (by omega), List.drop_eq_nil_of_le (by rw [Array.length_toList]; exact Nat.le_of_eq (h.symm.trans (Nat.add_zero i)))]
    simp
  | succ d ih =>
    intro i acc h
    unfold ByteArray.toList.loop
    have hi : i < s.size := by omega
    rw [if_pos hi, ih (i + 1) _ (by omega)]
    have hi' : i < s.data.toList.length := by rw [Array.length_toList]; exact hi
    rw [List.drop_eq_getElem_cons hi']
    have : s.get! i = s.data.toList[i] := by
      show s.data[i]! = _
      rw [getElem!_pos s.data i hi]
      simp
    simp [this]
theorem toList_data (s : ByteArray) : s.toList = s.data.toList := by
  have := toList_loop s s.size 0 [] (by omega)
  unfold ByteArray.toList
  rw [this]
  simp
theorem str_inj {a b : ByteArray} (h : a.toList = b.toList) : a = b := by
  rw [toList_data, toList_data] at h
  exact Go.WideShapes.bytes_inj h
theorem str_iff {a b : ByteArray} : a.toList = b.toList ↔ a = b := ⟨str_inj, fun h => by rw [h]⟩
theorem str_nil {a : ByteArray} : a.toList = ([] : List UInt8) ↔ a.size = 0 := by
  rw [toList_data]
  constructor
  · intro h
    have : a.data.toList.length = 0 := by rw [h]; rfl
    rw [Array.length_toList] at this
    exact this
  · intro h
    apply List.eq_nil_of_length_eq_zero
    rw [Array.length_toList]
    exact h
/-- Is a byte one of those that a name may have. -/
def nb (c : Int) : Bool := decide (97 ≤ c ∧ c ≤ 122 ∨ 65 ≤ c ∧ c ≤ 90 ∨ 48 ≤ c ∧ c ≤ 57 ∨ c = 45 ∨ c = 95 ∨ c = 46)
/-- What a name must be. -/
def NameIs (s : ByteArray) : Prop := 1 ≤ s.size ∧ s.size ≤ 20 ∧ ∀ j, j < s.size → nb (bt s (j : Nat)) = true
/-! ### Answers that say a law -/
section
variable {β : Type} {P : Prop} {f g : Nat → Option Bool}
end
end Go.Proofs.Ytdnenglafphkbaa.XEv
