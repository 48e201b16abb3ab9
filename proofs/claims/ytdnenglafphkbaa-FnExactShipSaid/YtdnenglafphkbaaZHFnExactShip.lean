/- What the law's helper functions answer: sizes, conversions, comparisons. By this repo's wip/tools/pg.py. -/
import Derived.Test.YtdnenglafphkbaaZPFnExactShipx0
import Derived.Test.YtdnenglafphkbaaZPFnExactShipx1
import Derived.Test.YtdnenglafphkbaaZPFnExactShipx2
import Derived.Test.YtdnenglafphkbaaZPFnExactShipx3
import Derived.Test.YtdnenglafphkbaaZPFnExactShipx4
import Derived.Test.YtdnenglafphkbaaZPFnExactShipx5
import Derived.Test.YtdnenglafphkbaaZPFnExactShipx6
import Derived.Test.YtdnenglafphkbaaZPFnExactShipx7
import Derived.Test.YtdnenglafphkbaaZPFnExactShipx8
import Derived.Test.YtdnenglafphkbaaZPFnExactShipx9
import Derived.Test.YtdnenglafphkbaaZEv
set_option maxHeartbeats 2000000
set_option linter.unusedVariables false
set_option linter.unusedSimpArgs false
namespace Go.Proofs.Ytdnenglafphkbaa.PFnExactShip
open Go.RowKit Go.Proofs.YtdnenglafphkbaaW.PrintWords Go.Proofs.YtdnenglafphkbaaW.PrintLast Go.Proofs.Ytdnenglafphkbaa.XEv

/-- What is counted of it is at most n. -/
def B104 (n : Int) (x : S104) : Prop := ((x.f0.size : Int) ≤ n) ∧ ((x.f1.size : Int) ≤ n) ∧ ((x.f2.size : Int) ≤ n)
theorem B104_mono {n m : Int} {x : S104} (h : n ≤ m) (hb : B104 n x) : B104 m x := ⟨Int.le_trans hb.1 h, Int.le_trans hb.2.1 h, Int.le_trans hb.2.2 h⟩
/-- What is counted of it is at most n. -/
def B106 (n : Int) (x : S106) : Prop := ((x.f0.size : Int) ≤ n) ∧ ((x.f1.size : Int) ≤ n) ∧ ((x.f2.size : Int) ≤ n)
theorem laws_szCell_ev (x : S104) (n : Int) (h0 : 0 ≤ n) (h1 : n ≤ 1048576) (hg : G104 x) : ∃ r, Ev (fun _ => laws_szCell.f (x.f0) (x.f1) (x.f2) (x.f3) (x.f4) (x.f5) n) r ∧ (r < 0 ∨ (0 ≤ r ∧ r ≤ n ∧ B104 n x)) := by
  unfold laws_szCell.f
  have hs0 := hg.1
  unfold maxLen at hs0
  have hw0 : wrap64 (n - (x.f0.size : Int)) = n - (x.f0.size : Int) := wrap_id (by omega) (by omega)
  by_cases c0 : wrap64 (n - (x.f0.size : Int)) < 0
  · exact ⟨-1, ev_pos c0 (Ev.now _), .inl (by decide)⟩
  · skip
    have hs1 := hg.2.1
    unfold maxLen at hs1
    have hw1 : wrap64 ((wrap64 (n - (x.f0.size : Int))) - (x.f1.size : Int)) = (wrap64 (n - (x.f0.size : Int))) - (x.f1.size : Int) := wrap_id (by omega) (by omega)
    by_cases c1 : wrap64 ((wrap64 (n - (x.f0.size : Int))) - (x.f1.size : Int)) < 0
    · exact ⟨-1, ev_neg c0 (ev_pos c1 (Ev.now _)), .inl (by decide)⟩
    · skip
      have hs2 := hg.2.2.1
      unfold maxLen at hs2
      have hw2 : wrap64 ((wrap64 ((wrap64 (n - (x.f0.size : Int))) - (x.f1.size : Int))) - (x.f2.size : Int)) = (wrap64 ((wrap64 (n - (x.f0.size : Int))) - (x.f1.size : Int))) - (x.f2.size : Int) := wrap_id (by omega) (by omega)
      by_cases c2 : wrap64 ((wrap64 ((wrap64 (n - (x.f0.size : Int))) - (x.f1.size : Int))) - (x.f2.size : Int)) < 0
      · exact ⟨-1, ev_neg c0 (ev_neg c1 (ev_pos c2 (Ev.now _))), .inl (by decide)⟩
      · skip
        exact ⟨(wrap64 ((wrap64 ((wrap64 (n - (x.f0.size : Int))) - (x.f1.size : Int))) - (x.f2.size : Int))), ev_neg c0 (ev_neg c1 (ev_neg c2 (Ev.now _))), .inr ⟨by omega, by omega, ⟨(by omega : (x.f0.size : Int) ≤ n), (by omega : (x.f1.size : Int) ≤ n), (by omega : (x.f2.size : Int) ≤ n)⟩⟩⟩
theorem laws_szCellS_ev (l : List (S104)) (n : Int) (h0 : 0 ≤ n) (h1 : n ≤ 1048576) (hg : l.length ≤ maxLen ∧ ∀ a_ ∈ l, G104 a_) : ∃ r, Ev (fun k => laws_szCellS.f k l n) r ∧ (r < 0 ∨ (0 ≤ r ∧ r ≤ n ∧ (l.length : Int) ≤ n ∧ ∀ a_ ∈ l, B104 n a_)) := by
  have hl := hg.1
  unfold maxLen at hl
  have hw : wrap64 (n - (l.length : Int)) = n - (l.length : Int) := wrap_id (by omega) (by omega)
  unfold laws_szCellS.f
  simp only [hw]
  by_cases c : n - (l.length : Int) < 0
  · exact ⟨-1, ev_pos c (Ev.now _), .inl (by decide)⟩
  · have tl := take_loop (fun k left i => laws_szCellS.l0 k l left i) l (fun n a_ => B104 n a_) (fun _ _ _ h hb => B104_mono h hb) ?_ ?_ (n - (l.length : Int)) (by omega) (by omega)
    · obtain ⟨r, hr, h⟩ := tl
      refine ⟨r, ev_neg c hr, ?_⟩
      rcases h with h | ⟨a, b, c'⟩
      · exact .inl h
      · exact .inr ⟨a, by omega, by omega, fun x hx => B104_mono (by omega) (c' x hx)⟩
    · intro left i hi h0 h1
      have hrd : rd_T104 l (i : Int) = l[i] := getD_at hi _
      obtain ⟨r, hr, h⟩ := laws_szCell_ev l[i] left h0 h1 (hg.2 _ (List.getElem_mem hi))
      refine ⟨r, ?_⟩
      rcases h with h | ⟨a, b, c'⟩
      · refine .inl ⟨h, Ev.step (fun k => by rw [laws_szCellS.l0]) ?_⟩
        simp only [hrd]
        exact ev_pos (by omega) (ev_pos (by omega) (Ev.bind hr (ev_pos h (Ev.now _))))
      · refine .inr ⟨a, b, c', fun q hq => Ev.step (fun k => by rw [laws_szCellS.l0]) ?_⟩
        simp only [hrd]
        refine ev_pos (by omega) (ev_pos (by omega) (Ev.bind hr (ev_neg (by omega) ?_)))
        rw [wrap_succ hi (by omega)]
        exact hq
    · intro left
      refine Ev.step (fun k => by rw [laws_szCellS.l0]) ?_
      exact ev_neg (by omega) (Ev.now _)
theorem laws_szPickS_ev (l : List (S111)) (n : Int) (h0 : 0 ≤ n) (h1 : n ≤ 1048576) (hg : l.length ≤ maxLen ∧ ∀ a_ ∈ l, G111 a_) : ∃ r, Ev (fun _ => laws_szPickS.f l n) r ∧ (r < 0 ∨ (0 ≤ r ∧ r ≤ n ∧ (l.length : Int) ≤ n)) := by
  have hl := hg.1
  unfold maxLen at hl
  have hw : wrap64 (n - (l.length : Int)) = n - (l.length : Int) := wrap_id (by omega) (by omega)
  unfold laws_szPickS.f
  simp only [hw]
  by_cases c : n - (l.length : Int) < 0
  · exact ⟨-1, ev_pos c (Ev.now _), .inl (by decide)⟩
  · exact ⟨n - (l.length : Int), ev_neg c (Ev.now _), .inr ⟨by omega, by omega, by omega⟩⟩
/-- The law's own value as the program's. -/
def cv104 (x : S104) : S106 := ⟨x.f0, x.f1, x.f2, x.f3, x.f4, x.f5⟩
theorem cv104_B {n : Int} {x : S104} (hb : B104 n x) : B106 n (cv104 x) := ⟨hb.1, hb.2.1, hb.2.2⟩
theorem laws_toCell_ev (x : S104) : Ev (fun _ => laws_toCell.f (x.f0) (x.f1) (x.f2) (x.f3) (x.f4) (x.f5)) (x.f0, x.f1, x.f2, x.f3, x.f4, x.f5) := by
  unfold laws_toCell.f
  exact Ev.now _
theorem laws_toCellS_ev (l : List (S104)) (hb : (l.length : Int) ≤ 1048576 ∧ ∀ a_ ∈ l, B104 1048576 a_) : Ev (fun k => laws_toCellS.f k l) (l.map cv104) := by
  have hl := hb.1
  unfold laws_toCellS.f
  refine ev_pos (by omega) (ev_pos (by omega) ?_)
  have hfl := fill_loop (fun k ys i => laws_toCellS.l0 k l ys i) cv104 (z106) l ?_ ?_
  · simpa only [Int.toNat_natCast] using hfl
  · intro ys i hi r hy hq
    have hrd : rd_T104 l (i : Int) = l[i] := getD_at hi _
    refine Ev.step (fun k => by rw [laws_toCellS.l0]) ?_
    simp only [hrd]
    refine ev_pos (by omega) (ev_pos (by omega) (Ev.bind (laws_toCell_ev l[i]) (ev_pos (by omega) ?_)))
    rw [wrap_succ hi (by omega)]
    simp only [Int.toNat_natCast]
    exact hq
  · intro ys
    refine Ev.step (fun k => by rw [laws_toCellS.l0]) ?_
    exact ev_neg (by omega) (Ev.now _)
/-- The law's own value as the program's. -/
def cv111 (x : S111) : S109 := ⟨x.f0, x.f1⟩
theorem laws_toPick_ev (x : S111) : Ev (fun _ => laws_toPick.f (x.f0) (x.f1)) (x.f0, x.f1) := by
  unfold laws_toPick.f
  exact Ev.now _
theorem laws_toPickS_ev (l : List (S111)) (hb : (l.length : Int) ≤ 1048576) : Ev (fun k => laws_toPickS.f k l) (l.map cv111) := by
  have hl := hb
  unfold laws_toPickS.f
  refine ev_pos (by omega) (ev_pos (by omega) ?_)
  have hfl := fill_loop (fun k ys i => laws_toPickS.l0 k l ys i) cv111 (z109) l ?_ ?_
  · simpa only [Int.toNat_natCast] using hfl
  · intro ys i hi r hy hq
    have hrd : rd_T111 l (i : Int) = l[i] := getD_at hi _
    refine Ev.step (fun k => by rw [laws_toPickS.l0]) ?_
    simp only [hrd]
    refine ev_pos (by omega) (ev_pos (by omega) (Ev.bind (laws_toPick_ev l[i]) (ev_pos (by omega) ?_)))
    rw [wrap_succ hi (by omega)]
    simp only [Int.toNat_natCast]
    exact hq
  · intro ys
    refine Ev.step (fun k => by rw [laws_toPickS.l0]) ?_
    exact ev_neg (by omega) (Ev.now _)
theorem laws_eqCell_ev (x : S106) (hb : B106 1048576 x) : Ev (fun _ => laws_eqCell.f (x.f0) (x.f1) (x.f2) (x.f3) (x.f4) (x.f5) (x.f0) (x.f1) (x.f2) (x.f3) (x.f4) (x.f5)) true := by
  unfold laws_eqCell.f
  refine ev_pos rfl ?_
  refine ev_pos rfl ?_
  refine ev_pos rfl ?_
  refine ev_pos rfl ?_
  refine ev_pos rfl ?_
  refine ev_pos rfl ?_
  exact Ev.now _
theorem laws_eqCellS_ev (l : List (S106)) (hb : (l.length : Int) ≤ 1048576 ∧ ∀ a_ ∈ l, B106 1048576 a_) : Ev (fun k => laws_eqCellS.f k l l) true := by
  have hl := hb.1
  unfold laws_eqCellS.f
  refine ev_pos rfl ?_
  refine all_loop (fun k i => laws_eqCellS.l0 k l l i) l.length ?_ ?_
  · intro i hi hq
    refine Ev.step (fun k => by rw [laws_eqCellS.l0]) ?_
    have hrd : rd_T106 l (i : Int) = l[i] := getD_at hi _
    simp only [hrd]
    refine ev_pos (by omega) (ev_pos (by omega) (ev_pos (by omega) (Ev.bind (laws_eqCell_ev l[i] (hb.2 _ (List.getElem_mem hi))) (ev_pos rfl ?_))))
    rw [wrap_succ hi (by omega)]
    exact hq
  · refine Ev.step (fun k => by rw [laws_eqCellS.l0]) ?_
    exact ev_neg (by omega) (Ev.now _)
theorem laws_eqPick_ev (x : S109) : Ev (fun _ => laws_eqPick.f (x.f0) (x.f1) (x.f0) (x.f1)) true := by
  unfold laws_eqPick.f
  refine ev_pos rfl ?_
  refine ev_pos rfl ?_
  exact Ev.now _
theorem laws_eqPickS_ev (l : List (S109)) (hb : (l.length : Int) ≤ 1048576) : Ev (fun k => laws_eqPickS.f k l l) true := by
  have hl := hb
  unfold laws_eqPickS.f
  refine ev_pos rfl ?_
  refine all_loop (fun k i => laws_eqPickS.l0 k l l i) l.length ?_ ?_
  · intro i hi hq
    refine Ev.step (fun k => by rw [laws_eqPickS.l0]) ?_
    have hrd : rd_T109 l (i : Int) = l[i] := getD_at hi _
    simp only [hrd]
    refine ev_pos (by omega) (ev_pos (by omega) (ev_pos (by omega) (Ev.bind (laws_eqPick_ev l[i]) (ev_pos rfl ?_))))
    rw [wrap_succ hi (by omega)]
    exact hq
  · refine Ev.step (fun k => by rw [laws_eqPickS.l0]) ?_
    exact ev_neg (by omega) (Ev.now _)
theorem laws_markText_ev (n : Int) (h : n ≤ 4611686018427387904) : ∃ r, Ev (fun k => laws_markText.f k n) r := by
  unfold laws_markText.f
  by_cases c : n ≤ 0
  · exact ⟨_, ev_pos c (Ev.now _)⟩
  · have key : ∀ (m : Nat) (s : ByteArray), m + s.size ≤ 4611686018427387905 → ∃ r, Ev (fun k => laws_markText.l0 k (m : Int) s) r := by
      intro m
      induction m using Nat.strongRecOn with
      | ind m ih =>
        intro s hs
        by_cases c0 : m = 0
        · subst c0
          have h1 : ¬ ((0 : Nat) : Int) > 0 := by omega
          refine ⟨(⟨#[109]⟩ : ByteArray) ++ s, ?_⟩
          refine Ev.step (fun k => by rw [laws_markText.l0]) ?_
          exact ev_neg h1 (ev_pos (by omega) (Ev.now _))
        · have hd : wrap64 (Int.tdiv (m : Int) 10) = ((m / 10 : Nat) : Int) := by
            have e : Int.tdiv (m : Int) 10 = ((m / 10 : Nat) : Int) := by rw [Int.tdiv_eq_ediv_of_nonneg (by omega)]; omega
            rw [e, wrap_id (by omega) (by omega)]
          obtain ⟨r, hr⟩ := ih (m / 10) (by omega) (strOfNums [(wrap64 (48 + (Int.tmod (m : Int) 10))) % 256] ++ s) (by rw [ByteArray.size_append, strOfNums_size]; simp only [List.length_cons, List.length_nil]; omega)
          refine ⟨r, ?_⟩
          refine Ev.step (fun k => by rw [laws_markText.l0]) ?_
          simp only [hd]
          exact ev_pos (by omega) (ev_bind0 rfl (ev_pos (by rw [strOfNums_size]; simp only [List.length_cons, List.length_nil]; omega) hr))
    obtain ⟨r, hr⟩ := key n.toNat (⟨#[]⟩ : ByteArray) (by have : (⟨#[]⟩ : ByteArray).size = 0 := rfl; omega)
    rw [show ((n.toNat : Nat) : Int) = n by omega] at hr
    exact ⟨r, ev_neg c hr⟩
/-- A mark as a text. -/
noncomputable def mtx (n : Int) : ByteArray := open Classical in if h : ∃ r, Ev (fun k => laws_markText.f k n) r then Classical.choose h else ByteArray.empty
theorem mtx_ev (n : Int) (h : n ≤ 4611686018427387904) : Ev (fun k => laws_markText.f k n) (mtx n) := by
  unfold mtx
  rw [dif_pos (laws_markText_ev n h)]
  exact Classical.choose_spec (laws_markText_ev n h)
theorem laws_markCellS_ev (l : List (S106)) (n : Int) (h0 : 0 ≤ n) (h1 : n ≤ 1152921504606846976) (hb : (l.length : Int) ≤ 1048576) : ∃ r, Ev (fun k => laws_markCellS.f k l n) r ∧ n ≤ r.1 ∧ r.1 ≤ n + l.length * 6 ∧ r.2.length = l.length := by
  unfold laws_markCellS.f
  refine mark_loop (fun k xs n i => laws_markCellS.l0 k xs n i) l.length 6 (by decide) ?_ ?_ l n rfl h0 (by omega)
  · intro xs n i hi hx h0 h1
    have hw0 : wrap64 (n + 1) = n + 1 := wrap_id (by omega) (by omega)
    have hw1 : wrap64 (n + 1 + 1) = n + 1 + 1 := wrap_id (by omega) (by omega)
    have hw2 : wrap64 (n + 1 + 1 + 1) = n + 1 + 1 + 1 := wrap_id (by omega) (by omega)
    have hw3 : wrap64 (n + 1 + 1 + 1 + 1) = n + 1 + 1 + 1 + 1 := wrap_id (by omega) (by omega)
    have hw4 : wrap64 (n + 1 + 1 + 1 + 1 + 1) = n + 1 + 1 + 1 + 1 + 1 := wrap_id (by omega) (by omega)
    have hw5 : wrap64 (n + 1 + 1 + 1 + 1 + 1 + 1) = n + 1 + 1 + 1 + 1 + 1 + 1 := wrap_id (by omega) (by omega)
    obtain ⟨s0, e0⟩ := laws_markText_ev (n) (by omega)
    obtain ⟨s1, e1⟩ := laws_markText_ev (n + 1) (by omega)
    obtain ⟨s2, e2⟩ := laws_markText_ev (n + 1 + 1) (by omega)
    refine ⟨?n', ?x', ?b0, ?b1, ?b2, fun r hr => ?main⟩
    case main =>
      refine Ev.step (fun k => by rw [laws_markCellS.l0]) ?_
      simp only [hw0, hw1, hw2, hw3, hw4, hw5, wrap_succ hi (show l.length ≤ 9223372036854775807 by omega)]
      refine ev_pos (by omega) ?_
      refine Ev.bind e0 ?_
      refine ev_pos (by omega) ?_
      refine ev_bind0 rfl ?_
      refine Ev.bind e1 ?_
      refine ev_bind0 rfl ?_
      refine Ev.bind e2 ?_
      refine ev_bind0 rfl ?_
      refine ev_bind0 rfl ?_
      refine ev_bind0 rfl ?_
      exact hr
    all_goals first | omega | (simp [hx]; done)
  · intro xs n hx
    refine Ev.step (fun k => by rw [laws_markCellS.l0]) ?_
    exact ev_neg (by omega) (Ev.now _)
/-- What marks write. -/
noncomputable def mk106 (n : Int) : S106 := ⟨mtx (n), mtx (n + 1), mtx (n + 1 + 1), n + 1 + 1 + 1, n + 1 + 1 + 1 + 1, n + 1 + 1 + 1 + 1 + 1⟩
theorem laws_markCellS_eq (l : List (S106)) (n : Int) (h0 : 0 ≤ n) (h1 : n ≤ 576460752303423488) (hb : (l.length : Int) ≤ 1048576) : Ev (fun k => laws_markCellS.f k l n) (n + l.length * 6, (List.range l.length).map fun i => mk106 (n + ((i : Nat) : Int) * 6)) := by
  unfold laws_markCellS.f
  refine mark_loop2 (fun k xs n i => laws_markCellS.l0 k xs n i) mk106 l.length 6 (by decide) ?_ ?_ l n rfl h0 (by omega)
  · intro xs n i hi hx h0 h1 r hr
    have hw0 : wrap64 (n + 1) = n + 1 := wrap_id (by omega) (by omega)
    have hw1 : wrap64 (n + 1 + 1) = n + 1 + 1 := wrap_id (by omega) (by omega)
    have hw2 : wrap64 (n + 1 + 1 + 1) = n + 1 + 1 + 1 := wrap_id (by omega) (by omega)
    have hw3 : wrap64 (n + 1 + 1 + 1 + 1) = n + 1 + 1 + 1 + 1 := wrap_id (by omega) (by omega)
    have hw4 : wrap64 (n + 1 + 1 + 1 + 1 + 1) = n + 1 + 1 + 1 + 1 + 1 := wrap_id (by omega) (by omega)
    have hw5 : wrap64 (n + 1 + 1 + 1 + 1 + 1 + 1) = n + 1 + 1 + 1 + 1 + 1 + 1 := wrap_id (by omega) (by omega)
    have e0 := mtx_ev (n) (by omega)
    have e1 := mtx_ev (n + 1) (by omega)
    have e2 := mtx_ev (n + 1 + 1) (by omega)
    have hset : ∀ a b : S106, (xs.set i a).set i b = xs.set i b := fun a b => by simp
    have hrs : ∀ a : S106, rd_T106 (xs.set i a) (i : Int) = a := fun a => by unfold rd_T106; simp [List.getD, List.getElem?_set_self (show i < xs.length by omega)]
    have hil : (i : Int) < (xs.length : Int) := by omega
    have hi0 : 0 ≤ (i : Int) := by omega
    have hr' : Ev (fun k => laws_markCellS.l0 k (xs.set i ⟨mtx (n), mtx (n + 1), mtx (n + 1 + 1), n + 1 + 1 + 1, n + 1 + 1 + 1 + 1, n + 1 + 1 + 1 + 1 + 1⟩) (n + 1 + 1 + 1 + 1 + 1 + 1) ((i + 1 : Nat) : Int)) r := by
      have en : n + 6 = n + 1 + 1 + 1 + 1 + 1 + 1 := by omega
      rw [← en]
      exact hr
    refine Ev.step (fun k => by rw [laws_markCellS.l0]) ?_
    simp only [hw0, hw1, hw2, hw3, hw4, hw5, wrap_succ hi (show l.length ≤ 9223372036854775807 by omega), Int.toNat_natCast, Option.bind_some, hset, hrs]
    (repeat' (first | with_reducible exact hr' | refine Ev.bind (by with_reducible assumption) ?_ | refine ev_pos (by first | with_reducible exact hil | with_reducible exact hi0 | (simp only [List.length_set]; first | with_reducible exact hil | with_reducible exact hi0)) ?_ | (simp only [Int.toNat_natCast, Option.bind_some, hset, hrs])))
  · intro xs n hx
    refine Ev.step (fun k => by rw [laws_markCellS.l0]) ?_
    exact ev_neg (by omega) (Ev.now _)
theorem laws_markPickS_ev (l : List (S109)) (n : Int) (h0 : 0 ≤ n) (h1 : n ≤ 1152921504606846976) (hb : (l.length : Int) ≤ 1048576) : ∃ r, Ev (fun k => laws_markPickS.f k l n) r ∧ n ≤ r.1 ∧ r.1 ≤ n + l.length * 2 ∧ r.2.length = l.length := by
  unfold laws_markPickS.f
  refine mark_loop (fun k xs n i => laws_markPickS.l0 k xs n i) l.length 2 (by decide) ?_ ?_ l n rfl h0 (by omega)
  · intro xs n i hi hx h0 h1
    have hw0 : wrap64 (n + 1) = n + 1 := wrap_id (by omega) (by omega)
    have hw1 : wrap64 (n + 1 + 1) = n + 1 + 1 := wrap_id (by omega) (by omega)
    refine ⟨?n', ?x', ?b0, ?b1, ?b2, fun r hr => ?main⟩
    case main =>
      refine Ev.step (fun k => by rw [laws_markPickS.l0]) ?_
      simp only [hw0, hw1, wrap_succ hi (show l.length ≤ 9223372036854775807 by omega)]
      refine ev_pos (by omega) ?_
      refine ev_pos (by omega) ?_
      refine ev_bind0 rfl ?_
      exact hr
    all_goals first | omega | (simp [hx]; done)
  · intro xs n hx
    refine Ev.step (fun k => by rw [laws_markPickS.l0]) ?_
    exact ev_neg (by omega) (Ev.now _)
theorem laws_heldCellS_eq (n : Int) (m : Nat) (h0 : 0 ≤ n) (h1 : n ≤ 576460752303423488) (hb : (m : Int) ≤ 1048576) : Ev (fun k => laws_heldCellS.f k ((List.range m).map fun i => mk106 (n + ((i : Nat) : Int) * 6)) n) (n + (m : Int) * 6) := by
  unfold laws_heldCellS.f
  refine held_loop2 (fun k q i => laws_heldCellS.l0 k ((List.range m).map fun i => mk106 (n + ((i : Nat) : Int) * 6)) q i) m 6 n (by decide) h0 (by omega) ?_ ?_
  · intro i hi h0 h1 r hr
    have hrd : rd_T106 ((List.range m).map fun i => mk106 (n + ((i : Nat) : Int) * 6)) (i : Int) = ⟨mtx (n + (i : Int) * 6), mtx (n + (i : Int) * 6 + 1), mtx (n + (i : Int) * 6 + 1 + 1), n + (i : Int) * 6 + 1 + 1 + 1, n + (i : Int) * 6 + 1 + 1 + 1 + 1, n + (i : Int) * 6 + 1 + 1 + 1 + 1 + 1⟩ := by
      unfold rd_T106
      rw [Int.toNat_natCast, getD_at (by simpa using hi), List.getElem_map, List.getElem_range]
      rfl
    have hw0 : wrap64 (n + (i : Int) * 6 + 1) = n + (i : Int) * 6 + 1 := wrap_id (by omega) (by omega)
    have hw1 : wrap64 (n + (i : Int) * 6 + 1 + 1) = n + (i : Int) * 6 + 1 + 1 := wrap_id (by omega) (by omega)
    have hw2 : wrap64 (n + (i : Int) * 6 + 1 + 1 + 1) = n + (i : Int) * 6 + 1 + 1 + 1 := wrap_id (by omega) (by omega)
    have hw3 : wrap64 (n + (i : Int) * 6 + 1 + 1 + 1 + 1) = n + (i : Int) * 6 + 1 + 1 + 1 + 1 := wrap_id (by omega) (by omega)
    have hw4 : wrap64 (n + (i : Int) * 6 + 1 + 1 + 1 + 1 + 1) = n + (i : Int) * 6 + 1 + 1 + 1 + 1 + 1 := wrap_id (by omega) (by omega)
    have hw5 : wrap64 (n + (i : Int) * 6 + 1 + 1 + 1 + 1 + 1 + 1) = n + (i : Int) * 6 + 1 + 1 + 1 + 1 + 1 + 1 := wrap_id (by omega) (by omega)
    have e0 := mtx_ev (n + (i : Int) * 6) (by omega)
    have e1 := mtx_ev (n + (i : Int) * 6 + 1) (by omega)
    have e2 := mtx_ev (n + (i : Int) * 6 + 1 + 1) (by omega)
    have hil : (i : Int) < (((List.range m).map fun i => mk106 (n + ((i : Nat) : Int) * 6)).length : Int) := by rw [List.length_map, List.length_range]; omega
    have hi0 : 0 ≤ (i : Int) := by omega
    have hr' : Ev (fun k => laws_heldCellS.l0 k ((List.range m).map fun i => mk106 (n + ((i : Nat) : Int) * 6)) (n + (i : Int) * 6 + 1 + 1 + 1 + 1 + 1 + 1) ((i + 1 : Nat) : Int)) r := by
      have en : n + (i : Int) * 6 + 6 = n + (i : Int) * 6 + 1 + 1 + 1 + 1 + 1 + 1 := by omega
      rw [← en]
      exact hr
    refine Ev.step (fun k => by rw [laws_heldCellS.l0]) ?_
    simp only [hrd, hw0, hw1, hw2, hw3, hw4, hw5, wrap_succ hi (show m ≤ 9223372036854775807 by omega)]
    (repeat' (first | with_reducible exact hr' | refine Ev.bind (by with_reducible assumption) ?_ | refine ev_pos (by first | with_reducible exact hil | with_reducible exact hi0 | with_reducible rfl | trivial) ?_))
  · refine Ev.step (fun k => by rw [laws_heldCellS.l0]) ?_
    exact ev_neg (by rw [List.length_map, List.length_range]; omega) (Ev.now _)
theorem spec_l1In_eq (a b c : Int) : spec_l1In.f a b c = some (decide (b ≤ a ∧ a ≤ c)) := by
  unfold spec_l1In.f
  by_cases h : a ≥ b
  · rw [if_pos h]; simp [show b ≤ a from h]
  · rw [if_neg h]; simp [show ¬ b ≤ a from h]
theorem impl_between_eq (a b c : Int) : impl_between.f a b c = some (decide (b ≤ a ∧ a ≤ c)) := by
  unfold impl_between.f
  by_cases h : a ≥ b
  · rw [if_pos h]; simp [show b ≤ a from h]
  · rw [if_neg h]; simp [show ¬ b ≤ a from h]
theorem spec_l2Day_eq (a : Int) : spec_l2Day.f a = some (decide (0 ≤ a ∧ a ≤ 40000)) := by
  unfold spec_l2Day.f
  rw [spec_l1In_eq]
  rfl
theorem spec_l12Qty_eq (a : Int) : spec_l12Qty.f a = some (decide (0 ≤ a ∧ a ≤ 1000000)) := by
  unfold spec_l12Qty.f
  rw [spec_l1In_eq]
  rfl
theorem impl_isDay_eq (a : Int) : impl_isDay.f a = some (decide (0 ≤ a ∧ a ≤ 40000)) := by
  unfold impl_isDay.f
  rw [impl_between_eq]
  rfl
theorem impl_quantity_eq (a : Int) : impl_quantity.f a = some (decide (0 ≤ a ∧ a ≤ 1000000)) := by
  unfold impl_quantity.f
  rw [impl_between_eq]
  rfl
theorem impl_nameByte_eq (c : Int) : impl_nameByte.f c = some (nb c) := by
  unfold impl_nameByte.f nb
  repeat' split
  all_goals first | (congr 1; symm; simp only [decide_eq_true_eq]; omega) | (congr 1; rw [Bool.eq_iff_iff]; simp only [beq_iff_eq, decide_eq_true_eq]; omega)
theorem spec_NameOk_l0 (k : Nat) (s : ByteArray) (x : Int) : spec_NameOk.l0 (k + 1) s x = if x < (s.size : Int) then (if 0 ≤ x then (if nb (bt s x) = true then spec_NameOk.l0 k s (wrap64 (x + 1)) else some false) else none) else ((spec_l1In.f (s.size : Int) 1 20).bind fun t => some t) := by
  rw [spec_NameOk.l0]
  by_cases h : x < (s.size : Int)
  · rw [if_pos h, if_pos h]
    by_cases h0 : 0 ≤ x
    · rw [if_pos h0, if_pos h0]
      generalize bt s x = c
      generalize spec_NameOk.l0 k s (wrap64 (x + 1)) = L
      unfold nb
      simp only [decide_eq_true_eq]
      repeat' split
      all_goals first | rfl | omega
    · rw [if_neg h0, if_neg h0]
  · rw [if_neg h, if_neg h]
theorem spec_NameOk_ev (s : ByteArray) (hs : (s.size : Int) ≤ 1048576) : ∃ b, Ev (fun k => spec_NameOk.f k s) b ∧ (b = true ↔ NameIs s) := by
  have key : ∀ (d i : Nat), i + d = s.size → ∃ b, Ev (fun k => spec_NameOk.l0 k s (i : Int)) b ∧ (b = true ↔ (1 ≤ s.size ∧ s.size ≤ 20) ∧ ∀ j, i ≤ j → j < s.size → nb (bt s (j : Nat)) = true) := by
    intro d
    induction d with
    | zero =>
      intro i hi
      refine ⟨decide (1 ≤ (s.size : Int) ∧ (s.size : Int) ≤ 20), Ev.step (fun k => spec_NameOk_l0 ..) (ev_neg (by omega) (ev_bind0 (spec_l1In_eq ..) (Ev.now _))), ?_⟩
      rw [decide_eq_true_eq]
      exact ⟨fun h => ⟨by omega, fun j h1 h2 => absurd h2 (by omega)⟩, fun h => by omega⟩
    | succ d ih =>
      intro i hi
      by_cases c : nb (bt s (i : Int)) = true
      · obtain ⟨b, hb, hP⟩ := ih (i + 1) (by omega)
        refine ⟨b, Ev.step (fun k => spec_NameOk_l0 ..) (ev_pos (by omega) (ev_pos (by omega) (ev_pos c (by rw [wrap_succ (n := s.size) (i := i) (by omega) (by omega)]; exact hb)))), ?_⟩
        rw [hP]
        refine ⟨fun h => ⟨h.1, fun j h1 h2 => ?_⟩, fun h => ⟨h.1, fun j h1 h2 => h.2 j (by omega) h2⟩⟩
        rcases Nat.lt_or_ge i j with h3 | h3
        · exact h.2 j h3 h2
        · have : i = j := by omega
          subst this
          exact c
      · refine ⟨false, Ev.step (fun k => spec_NameOk_l0 ..) (ev_pos (by omega) (ev_pos (by omega) (ev_neg c (Ev.now _)))), ?_⟩
        exact ⟨fun h => (by cases h), fun h => absurd (h.2 i (Nat.le_refl _) (by omega)) c⟩
  obtain ⟨b, hb, hP⟩ := key s.size 0 (by omega)
  refine ⟨b, by unfold spec_NameOk.f; exact hb, hP.trans ⟨fun h => ⟨h.1.1, h.1.2, fun j hj => h.2 j (by omega) hj⟩, fun h => ⟨⟨h.1, h.2.1⟩, fun j _ hj => h.2.2 j hj⟩⟩⟩
theorem impl_NameOk_ev (s : ByteArray) : ∃ b, Ev (fun k => impl_NameOk.f k s) b ∧ (b = true ↔ NameIs s) := by
  have key : s.size ≤ 20 → ∀ (d i : Nat), i + d = s.size → ∃ b, Ev (fun k => impl_NameOk.l0 k s (i : Int)) b ∧ (b = true ↔ ∀ j, i ≤ j → j < s.size → nb (bt s (j : Nat)) = true) := by
    intro hs d
    induction d with
    | zero =>
      intro i hi
      refine ⟨true, Ev.step (fun k => by rw [impl_NameOk.l0]) (ev_neg (by omega) (Ev.now _)), ?_⟩
      exact ⟨fun _ j h1 h2 => absurd h2 (by omega), fun _ => rfl⟩
    | succ d ih =>
      intro i hi
      by_cases c : nb (bt s (i : Int)) = true
      · obtain ⟨b, hb, hP⟩ := ih (i + 1) (by omega)
        have hb' : Ev (fun k => impl_NameOk.l0 k s (i : Int)) b := by
          refine Ev.step (fun k => by rw [impl_NameOk.l0]) ?_
          refine ev_pos (by omega) (ev_pos (by omega) (ev_bind0 (impl_nameByte_eq ..) (ev_pos c ?_)))
          rw [wrap_succ (n := s.size) (i := i) (by omega) (by omega)]
          exact hb
        refine ⟨b, hb', ?_⟩
        rw [hP]
        refine ⟨fun h j h1 h2 => ?_, fun h j h1 h2 => h j (by omega) h2⟩
        rcases Nat.lt_or_ge i j with h3 | h3
        · exact h j h3 h2
        · have : i = j := by omega
          subst this
          exact c
      · refine ⟨false, Ev.step (fun k => by rw [impl_NameOk.l0]) (ev_pos (by omega) (ev_pos (by omega) (ev_bind0 (impl_nameByte_eq ..) (ev_neg c (Ev.now _))))), ?_⟩
        exact ⟨fun h => (by cases h), fun h => absurd (h i (Nat.le_refl _) (by omega)) c⟩
  unfold impl_NameOk.f
  by_cases c1 : (s.size : Int) < 1
  · refine ⟨false, ev_pos c1 (Ev.step (fun k => by rw [impl_NameOk.j0]) (ev_pos rfl (Ev.now _))), fun h => (by cases h), fun h => absurd h.1 (by omega)⟩
  · by_cases c2 : (s.size : Int) > 20
    · refine ⟨false, ev_neg c1 (Ev.step (fun k => by rw [impl_NameOk.j0]) (ev_pos (by simp [c2]) (Ev.now _))), fun h => (by cases h), fun h => absurd h.2.1 (by omega)⟩
    · obtain ⟨b, hb, hP⟩ := key (by omega) s.size 0 (by omega)
      have hb' : Ev (fun k => impl_NameOk.j0 k s (decide ((s.size : Int) > 20))) b := by
        refine Ev.step (fun k => by rw [impl_NameOk.j0]) ?_
        exact ev_neg (by simp; omega) hb
      refine ⟨b, ev_neg c1 hb', hP.trans ⟨fun h => ⟨by omega, by omega, fun j hj => h j (by omega) hj⟩, fun h j _ hj => h.2.2 j hj⟩⟩
/-- What a cell must be. -/
def CellIs (x : S106) : Prop := NameIs x.f0 ∧ NameIs x.f1 ∧ (x.f2.size = 0 ∨ NameIs x.f2) ∧ (0 ≤ x.f3 ∧ x.f3 ≤ 40000) ∧ (0 ≤ x.f4 ∧ x.f4 ≤ 1000000) ∧ (0 ≤ x.f5 ∧ x.f5 ≤ x.f4)
/-- Cells of one place. -/
def Same (y x : S106) : Prop := y.f0 = x.f0 ∧ y.f1 = x.f1 ∧ y.f2 = x.f2
/-- What a stock must be. -/
def StockIs (l : List S106) : Prop := (l.length : Int) ≤ 100 ∧ ∀ (i : Nat) (hi : i < l.length), CellIs l[i] ∧ ∀ (j : Nat) y, j < i → l[j]? = some y → ¬ Same y l[i]
theorem spec_cell_ev (x : S106) (hb : B106 1048576 x) : ∃ b, Ev (fun k => spec_l15Cell.f k x.f0 x.f1 x.f2 x.f3 x.f4 x.f5) b ∧ (b = true ↔ CellIs x) := by
  obtain ⟨b0, e0, p0⟩ := spec_NameOk_ev x.f0 hb.1
  obtain ⟨b1, e1, p1⟩ := spec_NameOk_ev x.f1 hb.2.1
  obtain ⟨b2, e2, p2⟩ := spec_NameOk_ev x.f2 hb.2.2
  unfold spec_l15Cell.f CellIs
  by_cases c0 : b0 = true
  case neg => exact ⟨false, Ev.bind e0 (ev_neg c0 (Ev.now _)), fun h => (by cases h), fun h => absurd (p0.2 h.1) c0⟩
  by_cases c1 : b1 = true
  case neg => exact ⟨false, Ev.bind e0 (ev_pos c0 (Ev.bind e1 (ev_neg c1 (Ev.now _)))), fun h => (by cases h), fun h => absurd (p1.2 h.2.1) c1⟩
  have tail : ∃ b, ((spec_l2Day.f x.f3).bind fun t114 => (if t114 = true then ((spec_l12Qty.f x.f4).bind fun t115 => (if t115 = true then ((spec_l1In.f x.f5 0 x.f4).bind fun t116 => (some t116)) else (some false))) else (some false))) = some b ∧ (b = true ↔ (0 ≤ x.f3 ∧ x.f3 ≤ 40000) ∧ (0 ≤ x.f4 ∧ x.f4 ≤ 1000000) ∧ (0 ≤ x.f5 ∧ x.f5 ≤ x.f4)) := by
    rw [spec_l2Day_eq, Option.bind_some]
    by_cases d0 : 0 ≤ x.f3 ∧ x.f3 ≤ 40000
    · rw [if_pos (by simpa using d0), spec_l12Qty_eq, Option.bind_some]
      by_cases d1 : 0 ≤ x.f4 ∧ x.f4 ≤ 1000000
      · rw [if_pos (by simpa using d1), spec_l1In_eq, Option.bind_some]
        refine ⟨_, rfl, ?_⟩
        rw [decide_eq_true_eq]
        exact ⟨fun h => ⟨d0, d1, h⟩, fun h => h.2.2⟩
      · rw [if_neg (by rw [decide_eq_true_eq]; exact d1)]
        exact ⟨_, rfl, fun h => (by cases h), fun h => absurd h.2.1 d1⟩
    · rw [if_neg (by rw [decide_eq_true_eq]; exact d0)]
      exact ⟨_, rfl, fun h => (by cases h), fun h => absurd h.1 d0⟩
  obtain ⟨b, eb, pb⟩ := tail
  by_cases c2 : x.f2.toList = ([] : List UInt8)
  · refine ⟨b, Ev.bind e0 (ev_pos c0 (Ev.bind e1 (ev_pos c1 (ev_pos c2 (ev_eq eb))))), ?_⟩
    rw [pb]
    exact ⟨fun h => ⟨p0.1 c0, p1.1 c1, .inl (str_nil.1 c2), h⟩, fun h => h.2.2.2⟩
  · by_cases c3 : b2 = true
    · refine ⟨b, Ev.bind e0 (ev_pos c0 (Ev.bind e1 (ev_pos c1 (ev_neg c2 (Ev.bind e2 (ev_pos c3 (ev_eq eb))))))), ?_⟩
      rw [pb]
      exact ⟨fun h => ⟨p0.1 c0, p1.1 c1, .inr (p2.1 c3), h⟩, fun h => h.2.2.2⟩
    · refine ⟨false, Ev.bind e0 (ev_pos c0 (Ev.bind e1 (ev_pos c1 (ev_neg c2 (Ev.bind e2 (ev_neg c3 (Ev.now _))))))), fun h => (by cases h), fun h => ?_⟩
      rcases h.2.2.1 with h | h
      · exact absurd (str_nil.2 h) c2
      · exact absurd (p2.2 h) c3
theorem impl_cell_ev (x : S106) (hb : B106 1048576 x) : ∃ b, Ev (fun k => impl_cellOk.f k x.f0 x.f1 x.f2 x.f3 x.f4 x.f5) b ∧ (b = true ↔ CellIs x) := by
  obtain ⟨b0, e0, p0⟩ := impl_NameOk_ev x.f0
  obtain ⟨b1, e1, p1⟩ := impl_NameOk_ev x.f1
  obtain ⟨b2, e2, p2⟩ := impl_NameOk_ev x.f2
  unfold impl_cellOk.f CellIs
  by_cases c0 : b0 = true
  case neg => exact ⟨false, Ev.bind e0 (ev_neg c0 (Ev.now _)), fun h => (by cases h), fun h => absurd (p0.2 h.1) c0⟩
  by_cases c1 : b1 = true
  case neg => exact ⟨false, Ev.bind e0 (ev_pos c0 (Ev.bind e1 (ev_neg c1 (Ev.now _)))), fun h => (by cases h), fun h => absurd (p1.2 h.2.1) c1⟩
  have tail : ∃ b, ((impl_isDay.f x.f3).bind fun t114 => (if t114 = true then ((impl_quantity.f x.f4).bind fun t115 => (if t115 = true then ((impl_between.f x.f5 0 x.f4).bind fun t116 => (some t116)) else (some false))) else (some false))) = some b ∧ (b = true ↔ (0 ≤ x.f3 ∧ x.f3 ≤ 40000) ∧ (0 ≤ x.f4 ∧ x.f4 ≤ 1000000) ∧ (0 ≤ x.f5 ∧ x.f5 ≤ x.f4)) := by
    rw [impl_isDay_eq, Option.bind_some]
    by_cases d0 : 0 ≤ x.f3 ∧ x.f3 ≤ 40000
    · rw [if_pos (by simpa using d0), impl_quantity_eq, Option.bind_some]
      by_cases d1 : 0 ≤ x.f4 ∧ x.f4 ≤ 1000000
      · rw [if_pos (by simpa using d1), impl_between_eq, Option.bind_some]
        refine ⟨_, rfl, ?_⟩
        rw [decide_eq_true_eq]
        exact ⟨fun h => ⟨d0, d1, h⟩, fun h => h.2.2⟩
      · rw [if_neg (by rw [decide_eq_true_eq]; exact d1)]
        exact ⟨_, rfl, fun h => (by cases h), fun h => absurd h.2.1 d1⟩
    · rw [if_neg (by rw [decide_eq_true_eq]; exact d0)]
      exact ⟨_, rfl, fun h => (by cases h), fun h => absurd h.1 d0⟩
  obtain ⟨b, eb, pb⟩ := tail
  by_cases c2 : x.f2.toList = ([] : List UInt8)
  · refine ⟨b, Ev.bind e0 (ev_pos c0 (Ev.bind e1 (ev_pos c1 (ev_pos c2 (ev_eq eb))))), ?_⟩
    rw [pb]
    exact ⟨fun h => ⟨p0.1 c0, p1.1 c1, .inl (str_nil.1 c2), h⟩, fun h => h.2.2.2⟩
  · by_cases c3 : b2 = true
    · refine ⟨b, Ev.bind e0 (ev_pos c0 (Ev.bind e1 (ev_pos c1 (ev_neg c2 (Ev.bind e2 (ev_pos c3 (ev_eq eb))))))), ?_⟩
      rw [pb]
      exact ⟨fun h => ⟨p0.1 c0, p1.1 c1, .inr (p2.1 c3), h⟩, fun h => h.2.2.2⟩
    · refine ⟨false, Ev.bind e0 (ev_pos c0 (Ev.bind e1 (ev_pos c1 (ev_neg c2 (Ev.bind e2 (ev_neg c3 (Ev.now _))))))), fun h => (by cases h), fun h => ?_⟩
      rcases h.2.2.1 with h | h
      · exact absurd (str_nil.2 h) c2
      · exact absurd (p2.2 h) c3
theorem spec_find_ev (l : List S106) (x : S106) (hl : (l.length : Int) ≤ 1048576) : ∃ r, Ev (fun k => spec_l15Find.f k l x.f0 x.f1 x.f2 x.f3 x.f4 x.f5) r ∧ ((r = -1 ∧ ∀ y ∈ l, ¬ Same y x) ∨ ∃ i : Nat, r = (i : Int) ∧ ∃ y, l[i]? = some y ∧ Same y x ∧ ∀ (j : Nat) z, j < i → l[j]? = some z → ¬ Same z x) := by
  unfold spec_l15Find.f
  refine first_loop l (fun k i => spec_l15Find.l0 k l i x.f0 x.f1 x.f2 x.f3 x.f4 x.f5) (fun y => Same y x) ?_ ?_
  · intro i hi
    have hrd : rd_T106 l (i : Int) = l[i] := getD_at hi _
    by_cases c0 : l[i].f0 = x.f0
    · by_cases c1 : l[i].f1 = x.f1
      · by_cases c2 : l[i].f2 = x.f2
        · refine .inl ⟨⟨c0, c1, c2⟩, ?_⟩
          refine Ev.step (fun k => by rw [spec_l15Find.l0]) ?_
          simp only [hrd, str_iff]
          exact ev_pos (by omega) (ev_pos (by omega) (ev_pos c0 (ev_pos c1 (ev_pos c2 (Ev.now _)))))
        · refine .inr ⟨fun h => c2 h.2.2, fun r hr => ?_⟩
          refine Ev.step (fun k => by rw [spec_l15Find.l0]) ?_
          simp only [hrd, str_iff]
          refine ev_pos (by omega) (ev_pos (by omega) (ev_pos c0 (ev_pos c1 (ev_neg c2 ?_))))
          rw [wrap_succ hi (by omega)]
          exact hr
      · refine .inr ⟨fun h => c1 h.2.1, fun r hr => ?_⟩
        refine Ev.step (fun k => by rw [spec_l15Find.l0]) ?_
        simp only [hrd, str_iff]
        refine ev_pos (by omega) (ev_pos (by omega) (ev_pos c0 (ev_neg c1 ?_)))
        rw [wrap_succ hi (by omega)]
        exact hr
    · refine .inr ⟨fun h => c0 h.1, fun r hr => ?_⟩
      refine Ev.step (fun k => by rw [spec_l15Find.l0]) ?_
      simp only [hrd, str_iff]
      refine ev_pos (by omega) (ev_pos (by omega) (ev_neg c0 ?_))
      rw [wrap_succ hi (by omega)]
      exact hr
  · refine Ev.step (fun k => by rw [spec_l15Find.l0]) ?_
    exact ev_neg (by omega) (Ev.now _)
theorem spec_stock_ev (l : List S106) (hl : (l.length : Int) ≤ 1048576 ∧ ∀ x ∈ l, B106 1048576 x) : ∃ b, Ev (fun k => spec_StockOk.f k l) b ∧ (b = true ↔ StockIs l) := by
  have hl1 := hl.1
  unfold spec_StockOk.f StockIs
  by_cases c : (l.length : Int) > 100
  · exact ⟨false, ev_pos c (Ev.now _), fun h => (by cases h), fun h => absurd h.1 (by omega)⟩
  obtain ⟨b, hb, hP⟩ := each_ev l (fun k i => spec_StockOk.l0 k l i) (fun i x => CellIs x ∧ ∀ (j : Nat) y, j < i → l[j]? = some y → ¬ Same y x) True (by
    intro i hi
    have hrd : rd_T106 l (i : Int) = l[i] := getD_at hi _
    have hg : l[i]? = some l[i] := List.getElem?_eq_getElem hi
    obtain ⟨b0, e0, p0⟩ := spec_cell_ev l[i] (hl.2 _ (List.getElem_mem hi))
    by_cases c0 : b0 = true
    · obtain ⟨r, er, pr⟩ := spec_find_ev l l[i] hl1
      rcases pr with ⟨_, h⟩ | ⟨q, rfl, y, hq, hs, hf⟩
      · exact absurd ⟨rfl, rfl, rfl⟩ (h _ (List.getElem_mem hi))
      · by_cases c1 : q = i
        · subst c1
          refine .inl ⟨⟨p0.1 c0, hf⟩, fun r hr => ?_⟩
          refine Ev.step (fun k => by rw [spec_StockOk.l0]) ?_
          simp only [hrd]
          refine ev_pos (by omega) (ev_pos (by omega) (Ev.bind e0 (ev_pos c0 (Ev.bind er (ev_pos rfl ?_)))))
          rw [wrap_succ hi (by omega)]
          exact hr
        · refine .inr ⟨fun h => ?_, ?_⟩
          · rcases Nat.lt_or_ge q i with h1 | h1
            · exact h.2 q y h1 hq hs
            · exact hf i _ (by omega) hg ⟨rfl, rfl, rfl⟩
          · refine Ev.step (fun k => by rw [spec_StockOk.l0]) ?_
            simp only [hrd]
            exact ev_pos (by omega) (ev_pos (by omega) (Ev.bind e0 (ev_pos c0 (Ev.bind er (ev_neg (by omega) (Ev.now _))))))
    · refine .inr ⟨fun h => c0 (p0.2 h.1), ?_⟩
      refine Ev.step (fun k => by rw [spec_StockOk.l0]) ?_
      simp only [hrd]
      exact ev_pos (by omega) (ev_pos (by omega) (Ev.bind e0 (ev_neg c0 (Ev.now _))))) (by
    refine ⟨true, ?_, by simp⟩
    refine Ev.step (fun k => by rw [spec_StockOk.l0]) ?_
    exact ev_neg (by omega) (Ev.now _))
  exact ⟨b, ev_neg c hb, hP.trans ⟨fun h => ⟨by omega, h.1⟩, fun h => ⟨h.2, True.intro⟩⟩⟩
/-- The places seen by then. -/
def seenBy (l : List S106) : Nat → List (S164 × Bool)
  | 0 => []
  | i + 1 => mset (seenBy l i) (⟨(rd_T106 l (i : Int)).f0, (rd_T106 l (i : Int)).f1, (rd_T106 l (i : Int)).f2⟩ : S164) true
theorem seenBy_get (l : List S106) (x : S106) : ∀ i, i ≤ l.length → ((mget (seenBy l i) (⟨x.f0, x.f1, x.f2⟩ : S164)).getD false = true ↔ ∃ (j : Nat) (y : S106), j < i ∧ l[j]? = some y ∧ Same y x) := by
  intro i
  induction i with
  | zero => intro _; exact ⟨fun h => by simp [seenBy, mget] at h, fun ⟨j, y, h, _⟩ => absurd h (by omega)⟩
  | succ i ih =>
    intro hi
    have hlt : i < l.length := by omega
    have hrd : rd_T106 l (i : Int) = l[i] := getD_at hlt _
    have hg : l[i]? = some l[i] := List.getElem?_eq_getElem hlt
    rw [seenBy, mget_set, hrd]
    by_cases c : (⟨l[i].f0, l[i].f1, l[i].f2⟩ : S164) = ⟨x.f0, x.f1, x.f2⟩
    · rw [if_pos c]
      injection c with c0 c1 c2
      exact ⟨fun _ => ⟨i, l[i], by omega, hg, c0, c1, c2⟩, fun _ => rfl⟩
    · rw [if_neg c, ih (by omega)]
      refine ⟨fun ⟨j, y, h1, h2, h3⟩ => ⟨j, y, by omega, h2, h3⟩, fun ⟨j, y, h1, h2, h3⟩ => ?_⟩
      rcases Nat.lt_or_ge j i with h4 | h4
      · exact ⟨j, y, h4, h2, h3⟩
      · have : j = i := by omega
        subst this
        rw [hg] at h2
        injection h2 with h2
        subst h2
        exact absurd (by rw [h3.1, h3.2.1, h3.2.2]) c
theorem impl_stock_ev (l : List S106) (hl : (l.length : Int) ≤ 1048576 ∧ ∀ x ∈ l, B106 1048576 x) : ∃ b, Ev (fun k => impl_StockOk.f k l) b ∧ (b = true ↔ StockIs l) := by
  have hl1 := hl.1
  unfold impl_StockOk.f StockIs
  by_cases c : (l.length : Int) > 100
  · exact ⟨false, ev_pos c (Ev.now _), fun h => (by cases h), fun h => absurd h.1 (by omega)⟩
  obtain ⟨b, hb, hP⟩ := each_ev l (fun k i => impl_StockOk.l0 k (seenBy l i.toNat) l (l.length : Int) i) (fun i x => CellIs x ∧ ∀ (j : Nat) y, j < i → l[j]? = some y → ¬ Same y x) True (by
    intro i hi
    have hrd : rd_T106 l (i : Int) = l[i] := getD_at hi _
    have hB := hl.2 _ (List.getElem_mem hi)
    have hb0 := hB.1
    have hb1 := hB.2.1
    have hb2 := hB.2.2
    obtain ⟨b0, e0, p0⟩ := impl_cell_ev l[i] hB
    simp only [Int.toNat_natCast]
    have hw : ∀ x : S106, impl_Cell_where.f x.f0 x.f1 x.f2 x.f3 x.f4 x.f5 = some (x.f0, x.f1, x.f2) := fun _ => rfl
    by_cases c0 : b0 = true
    · by_cases c1 : (mget (seenBy l i) (⟨l[i].f0, l[i].f1, l[i].f2⟩ : S164)).getD false = true
      · refine .inr ⟨fun h => ?_, ?_⟩
        · obtain ⟨j, y, h1, h2, h3⟩ := (seenBy_get l l[i] i (by omega)).1 c1
          exact h.2 j y h1 h2 h3
        · refine Ev.step (fun k => by rw [impl_StockOk.l0]) ?_
          simp only [hrd, hw, Option.bind_some]
          exact ev_pos (by omega) (ev_pos (by omega) (ev_pos (by omega) (Ev.bind e0 (ev_pos c0 (ev_pos (by omega) (ev_pos (by omega) (ev_pos (by omega) (ev_pos c1 (Ev.now _)))))))))
      · refine .inl ⟨⟨p0.1 c0, fun j y h1 h2 h3 => c1 ((seenBy_get l l[i] i (by omega)).2 ⟨j, y, h1, h2, h3⟩)⟩, fun r hr => ?_⟩
        refine Ev.step (fun k => by rw [impl_StockOk.l0]) ?_
        simp only [hrd, hw, Option.bind_some]
        refine ev_pos (by omega) (ev_pos (by omega) (ev_pos (by omega) (Ev.bind e0 (ev_pos c0 (ev_pos (by omega) (ev_pos (by omega) (ev_pos (by omega) (ev_neg c1 (ev_pos (by omega) (ev_pos (by omega) (ev_pos (by omega) ?_)))))))))))
        rw [wrap_succ hi (by omega)]
        rw [seenBy, hrd] at hr
        exact hr
    · refine .inr ⟨fun h => c0 (p0.2 h.1), ?_⟩
      refine Ev.step (fun k => by rw [impl_StockOk.l0]) ?_
      simp only [hrd]
      exact ev_pos (by omega) (ev_pos (by omega) (ev_pos (by omega) (Ev.bind e0 (ev_neg c0 (Ev.now _)))))) (by
    refine ⟨true, ?_, by simp⟩
    refine Ev.step (fun k => by rw [impl_StockOk.l0]) ?_
    exact ev_neg (by omega) (Ev.now _))
  exact ⟨b, ev_neg c hb, hP.trans ⟨fun h => ⟨by omega, h.1⟩, fun h => ⟨h.2, True.intro⟩⟩⟩
end Go.Proofs.Ytdnenglafphkbaa.PFnExactShip
