/- Small lemmas on rounds (Ev), on sums that do not wrap, and on loops over lists: used by the plain proofs. -/
import Derived.Test.YtggfggmmecbdnaaZWMore
import Derived.Test.YtggfggmmecbdnaaZWLast
import Derived.OpenShut
import Derived.WideShapes
set_option linter.unusedVariables false
namespace Go.Proofs.Ytggfggmmecbdnaa.XEv
open Go.RowKit Go.Proofs.YtggfggmmecbdnaaW.PrintWords

theorem wrap_id {x : Int} (h0 : -9223372036854775808 ≤ x) (h1 : x ≤ 9223372036854775807) : wrap64 x = x := by unfold wrap64; omega
theorem wrap_succ {i n : Nat} (h : i < n) (hn : n ≤ 9223372036854775807) : wrap64 ((i : Int) + 1) = ((i + 1 : Nat) : Int) := by rw [wrap_id (by omega) (by omega)]; omega
section
variable {α β : Type} {g f : Nat → Option α} {r : α}
theorem ev_pos {c : Prop} [Decidable c] (h : c) (k : Ev f r) : Ev (fun n => if c then f n else g n) r := Ev.congr (fun n => if_pos h) k
theorem ev_neg {c : Prop} [Decidable c] (h : ¬ c) (k : Ev g r) : Ev (fun n => if c then f n else g n) r := Ev.congr (fun n => if_neg h) k
theorem ev_ite {c : Prop} [Decidable c] (h : c → Ev f r) (k : ¬ c → Ev g r) : Ev (fun n => if c then f n else g n) r := by
  by_cases hc : c
  · exact ev_pos hc (h hc)
  · exact ev_neg hc (k hc)
theorem ev_bind0 {a : Option β} {b : β} {f : Nat → β → Option α} (h : a = some b) (k : Ev (fun n => f n b) r) : Ev (fun n => a.bind (f n)) r := Ev.congr (fun n => by rw [h, Option.bind_some]) k
end

theorem getD_at {α : Type} {l : List α} {i : Nat} (h : i < l.length) (d : α) : l.getD i d = l[i] := by simp [List.getD, h]
/-- A loop that fills a list of the other's length, place by place. -/
theorem fill_loop {α β : Type} (L : Nat → List β → Int → Option (List β)) (cv : α → β) (z : β) (xs : List α)
    (hstep : ∀ (ys : List β) (i : Nat) (hi : i < xs.length) (r : List β), ys.length = xs.length → Ev (fun k => L k (ys.set i (cv xs[i])) ((i + 1 : Nat) : Int)) r → Ev (fun k => L k ys (i : Int)) r)
    (hend : ∀ ys : List β, Ev (fun k => L k ys (xs.length : Int)) ys) : Ev (fun k => L k (List.replicate xs.length z) 0) (xs.map cv) := by
  have key : ∀ (d i : Nat) (ys : List β), i + d = xs.length → ys.length = xs.length → (∀ j, j < i → ys[j]? = (xs.map cv)[j]?) → Ev (fun k => L k ys (i : Int)) (xs.map cv) := by
    intro d
    induction d with
    | zero =>
      intro i ys hd hl hj
      have e : ys = xs.map cv := by
        apply List.ext_getElem?
        intro j
        rcases Nat.lt_or_ge j i with h | h
        · exact hj j h
        · rw [List.getElem?_eq_none (by omega), List.getElem?_eq_none (by simp; omega)]
      have hi : i = xs.length := by omega
      rw [hi, ← e]
      exact hend ys
    | succ d ih =>
      intro i ys hd hl hj
      have hi : i < xs.length := by omega
      refine hstep ys i hi _ hl (ih (i + 1) _ (by omega) (by simp [hl]) ?_)
      intro j hlt
      rcases Nat.lt_or_ge j i with h | h
      · rw [List.getElem?_set_ne (by omega)]
        exact hj j h
      · have : j = i := by omega
        subst this
        rw [List.getElem?_set_self (by omega)]
        simp [hi]
  exact key xs.length 0 _ (by omega) (by simp) (fun j h => absurd h (by omega))

/-- A loop that asks each place and ends with a yes behind the last. -/
theorem all_loop (L : Nat → Int → Option Bool) (n : Nat) (hstep : ∀ i, i < n → Ev (fun k => L k ((i + 1 : Nat) : Int)) true → Ev (fun k => L k (i : Int)) true) (hend : Ev (fun k => L k (n : Int)) true) : Ev (fun k => L k 0) true := by
  have key : ∀ (d i : Nat), i + d = n → Ev (fun k => L k (i : Int)) true := by
    intro d
    induction d with
    | zero => intro i h; have : i = n := by omega
              subst this; exact hend
    | succ d ih => intro i h; exact hstep i (by omega) (ih (i + 1) (by omega))
  exact key n 0 (by omega)

/-! ### Marks -/
/-- A loop that writes what each place's mark says, place by place. -/
theorem mark_loop2 {α : Type} (L : Nat → List α → Int → Int → Option (Int × List α)) (mk : Int → α) (len : Nat) (c : Int) (hc : 0 ≤ c)
    (hstep : ∀ (xs : List α) (n : Int) (i : Nat), i < len → xs.length = len → 0 ≤ n → n ≤ 1152921504606846976 → ∀ r, Ev (fun k => L k (xs.set i (mk n)) (n + c) ((i + 1 : Nat) : Int)) r → Ev (fun k => L k xs n (i : Int)) r)
    (hend : ∀ (xs : List α) (n : Int), xs.length = len → Ev (fun k => L k xs n (len : Int)) (n, xs)) (xs : List α) (n : Int) (hx : xs.length = len) (h0 : 0 ≤ n) (h1 : n + len * c ≤ 1152921504606846976) :
    Ev (fun k => L k xs n 0) (n + len * c, (List.range len).map fun i => mk (n + ((i : Nat) : Int) * c)) := by
  have key : ∀ (d i : Nat) (xs : List α), i + d = len → xs.length = len → (∀ j, j < i → xs[j]? = some (mk (n + (j : Int) * c))) → Ev (fun k => L k xs (n + (i : Int) * c) (i : Int)) (n + len * c, (List.range len).map fun i => mk (n + ((i : Nat) : Int) * c)) := by
    intro d
    induction d with
    | zero =>
      intro i xs hd hx hj
      have hi : i = len := by omega
      subst hi
      have e : xs = (List.range i).map fun q => mk (n + ((q : Nat) : Int) * c) := by
        apply List.ext_getElem?
        intro j
        rcases Nat.lt_or_ge j i with h | h
        · rw [hj j h]; simp [h]
        · rw [List.getElem?_eq_none (by omega), List.getElem?_eq_none (by simp; omega)]
      rw [← e]
      exact hend xs _ hx
    | succ d ih =>
      intro i xs hd hx hj
      have e : ((i + 1 : Nat) : Int) * c = (i : Int) * c + c := by rw [Int.natCast_succ, Int.add_mul, Int.one_mul]
      have hic : 0 ≤ (i : Int) * c := Int.mul_nonneg (by omega) hc
      have hle : (i : Int) * c ≤ len * c := Int.mul_le_mul_of_nonneg_right (by omega) hc
      refine hstep xs _ i (by omega) hx (by omega) (by omega) _ ?_
      have := ih (i + 1) (xs.set i (mk (n + (i : Int) * c))) (by omega) (by simp [hx]) (by
        intro j hlt
        rcases Nat.lt_or_ge j i with h | h
        · rw [List.getElem?_set_ne (by omega)]
          exact hj j h
        · have : j = i := by omega
          subst this
          rw [List.getElem?_set_self (by omega)])
      rw [e, ← Int.add_assoc] at this
      exact this
  have := key len 0 xs (by omega) hx (fun j h => absurd h (by omega))
  simpa using this
/-- A loop that asks for them. -/
theorem held_loop2 (L : Nat → Int → Int → Option Int) (m : Nat) (c n : Int) (hc : 0 ≤ c) (h0 : 0 ≤ n) (h1 : n + m * c ≤ 1152921504606846976)
    (hstep : ∀ i : Nat, i < m → 0 ≤ n + (i : Int) * c → n + (i : Int) * c ≤ 1152921504606846976 → ∀ r, Ev (fun k => L k (n + (i : Int) * c + c) ((i + 1 : Nat) : Int)) r → Ev (fun k => L k (n + (i : Int) * c) (i : Int)) r)
    (hend : Ev (fun k => L k (n + (m : Int) * c) (m : Int)) (n + (m : Int) * c)) : Ev (fun k => L k n 0) (n + (m : Int) * c) := by
  have key : ∀ (d i : Nat), i + d = m → Ev (fun k => L k (n + (i : Int) * c) (i : Int)) (n + (m : Int) * c) := by
    intro d
    induction d with
    | zero =>
      intro i hd
      have : i = m := by omega
      subst this
      exact hend
    | succ d ih =>
      intro i hd
      have e : ((i + 1 : Nat) : Int) * c = (i : Int) * c + c := by rw [Int.natCast_succ, Int.add_mul, Int.one_mul]
      have hic : 0 ≤ (i : Int) * c := Int.mul_nonneg (by omega) hc
      have hle : (i : Int) * c ≤ m * c := Int.mul_le_mul_of_nonneg_right (by omega) hc
      refine hstep i (by omega) (by omega) (by omega) _ ?_
      have := ih (i + 1) (by omega)
      rw [e, ← Int.add_assoc] at this
      exact this
  have := key m 0 (by omega)
  simpa using this

/-! ### Texts -/
/-! ### Answers that say a law -/
section
variable {β : Type} {P : Prop} {f g : Nat → Option Bool}
end
end Go.Proofs.Ytggfggmmecbdnaa.XEv
