/- What the law's helper functions answer: sizes, conversions, comparisons. By this repo's wip/tools/pg.py. -/
import Derived.Test.YtiamlcnmjicpaaaPFnExactBalancex1
import Derived.Test.YtiamlcnmjicpaaaPFnExactBalancex3
import Derived.Test.YtiamlcnmjicpaaaPFnExactBalancex5
import Derived.Test.YtiamlcnmjicpaaaPFnExactBalancex6
import Derived.Test.YtiamlcnmjicpaaaEv
set_option linter.unusedVariables false
set_option linter.unusedSimpArgs false
namespace Go.Proofs.Ytiamlcnmjicpaaa.PFnExactBalance
open Go.RowKit Go.Proofs.YtiamlcnmjicpaaaW.PrintWords Go.Proofs.YtiamlcnmjicpaaaW.PrintLast Go.Proofs.Ytiamlcnmjicpaaa.XEv

/-- What is counted of it is at most n. -/
def B208 (n : Int) (x : S208) : Prop := True
theorem B208_mono {n m : Int} {x : S208} (h : n ≤ m) (hb : B208 n x) : B208 m x := True.intro
theorem laws_szLineS_ev (l : List (S208)) (n : Int) (h0 : 0 ≤ n) (h1 : n ≤ 1048576) (hg : l.length ≤ maxLen ∧ ∀ a_ ∈ l, G208 a_) : ∃ r, Ev (fun _ => laws_szLineS.f l n) r ∧ (r < 0 ∨ (0 ≤ r ∧ r ≤ n ∧ (l.length : Int) ≤ n)) := by
  have hl := hg.1
  unfold maxLen at hl
  have hw : wrap64 (n - (l.length : Int)) = n - (l.length : Int) := wrap_id (by omega) (by omega)
  unfold laws_szLineS.f
  simp only [hw]
  by_cases c : n - (l.length : Int) < 0
  · exact ⟨-1, ev_pos c (Ev.now _), .inl (by decide)⟩
  · exact ⟨n - (l.length : Int), ev_neg c (Ev.now _), .inr ⟨by omega, by omega, by omega⟩⟩
/-- What is counted of it is at most n. -/
def B131 (n : Int) (x : S131) : Prop := ((x.f2.size : Int) ≤ n) ∧ ((x.f3.length : Int) ≤ n)
theorem B131_mono {n m : Int} {x : S131} (h : n ≤ m) (hb : B131 n x) : B131 m x := ⟨Int.le_trans hb.1 h, Int.le_trans hb.2 h⟩
/-- What is counted of it is at most n. -/
def B127 (n : Int) (x : S127) : Prop := True
theorem B127_mono {n m : Int} {x : S127} (h : n ≤ m) (hb : B127 n x) : B127 m x := True.intro
/-- What is counted of it is at most n. -/
def B125 (n : Int) (x : S125) : Prop := ((x.f2.size : Int) ≤ n) ∧ ((x.f3.length : Int) ≤ n)
theorem B125_mono {n m : Int} {x : S125} (h : n ≤ m) (hb : B125 n x) : B125 m x := ⟨Int.le_trans hb.1 h, Int.le_trans hb.2 h⟩
theorem laws_szEntry_ev (x : S131) (n : Int) (h0 : 0 ≤ n) (h1 : n ≤ 1048576) (hg : G131 x) : ∃ r, Ev (fun _ => laws_szEntry.f (x.f0) (x.f1) (x.f2) (x.f3) n) r ∧ (r < 0 ∨ (0 ≤ r ∧ r ≤ n ∧ B131 n x)) := by
  unfold laws_szEntry.f
  have hs2 := hg.2.2.1
  unfold maxLen at hs2
  have hw2 : wrap64 (n - (x.f2.size : Int)) = n - (x.f2.size : Int) := wrap_id (by omega) (by omega)
  simp only [hw2]
  by_cases c2 : n - (x.f2.size : Int) < 0
  · exact ⟨-1, ev_pos c2 (Ev.now _), .inl (by decide)⟩
  · skip
    obtain ⟨r3, e3, h3⟩ := laws_szLineS_ev x.f3 (n - (x.f2.size : Int)) (by omega) (by omega) hg.2.2.2
    rcases h3 with h3 | ⟨p3, q3, b3⟩
    · exact ⟨-1, ev_neg c2 (Ev.bind e3 (ev_pos h3 (Ev.now _))), .inl (by decide)⟩
    · skip
      exact ⟨r3, ev_neg c2 (Ev.bind e3 (ev_neg (by omega) (Ev.now _))), .inr ⟨by omega, by omega, ⟨by omega, Int.le_trans b3 (by omega)⟩⟩⟩
theorem laws_szEntryS_ev (l : List (S131)) (n : Int) (h0 : 0 ≤ n) (h1 : n ≤ 1048576) (hg : l.length ≤ maxLen ∧ ∀ a_ ∈ l, G131 a_) : ∃ r, Ev (fun k => laws_szEntryS.f k l n) r ∧ (r < 0 ∨ (0 ≤ r ∧ r ≤ n ∧ (l.length : Int) ≤ n ∧ ∀ a_ ∈ l, B131 n a_)) := by
  have hl := hg.1
  unfold maxLen at hl
  have hw : wrap64 (n - (l.length : Int)) = n - (l.length : Int) := wrap_id (by omega) (by omega)
  unfold laws_szEntryS.f
  simp only [hw]
  by_cases c : n - (l.length : Int) < 0
  · exact ⟨-1, ev_pos c (Ev.now _), .inl (by decide)⟩
  · have tl := take_loop (fun k left i => laws_szEntryS.l0 k l left i) l (fun n a_ => B131 n a_) (fun _ _ _ h hb => B131_mono h hb) ?_ ?_ (n - (l.length : Int)) (by omega) (by omega)
    · obtain ⟨r, hr, h⟩ := tl
      refine ⟨r, ev_neg c hr, ?_⟩
      rcases h with h | ⟨a, b, c'⟩
      · exact .inl h
      · exact .inr ⟨a, by omega, by omega, fun x hx => B131_mono (by omega) (c' x hx)⟩
    · intro left i hi h0 h1
      have hrd : rd_T131 l (i : Int) = l[i] := getD_at hi _
      obtain ⟨r, hr, h⟩ := laws_szEntry_ev l[i] left h0 h1 (hg.2 _ (List.getElem_mem hi))
      refine ⟨r, ?_⟩
      rcases h with h | ⟨a, b, c'⟩
      · refine .inl ⟨h, Ev.step (fun k => by rw [laws_szEntryS.l0]) ?_⟩
        simp only [hrd]
        exact ev_pos (by omega) (ev_pos (by omega) (Ev.bind hr (ev_pos h (Ev.now _))))
      · refine .inr ⟨a, b, c', fun q hq => Ev.step (fun k => by rw [laws_szEntryS.l0]) ?_⟩
        simp only [hrd]
        refine ev_pos (by omega) (ev_pos (by omega) (Ev.bind hr (ev_neg (by omega) ?_)))
        rw [wrap_succ hi (by omega)]
        exact hq
    · intro left
      refine Ev.step (fun k => by rw [laws_szEntryS.l0]) ?_
      exact ev_neg (by omega) (Ev.now _)
/-- What is counted of it is at most n. -/
def B44 (n : Int) (x : S44) : Prop := ((x.f0.length : Int) ≤ n ∧ ∀ a_ ∈ x.f0, B131 n a_)
theorem B44_mono {n m : Int} {x : S44} (h : n ≤ m) (hb : B44 n x) : B44 m x := ⟨Int.le_trans hb.1 h, fun a_ ha_ => B131_mono h (hb.2 a_ ha_)⟩
/-- What is counted of it is at most n. -/
def B50 (n : Int) (x : S50) : Prop := ((x.f0.length : Int) ≤ n ∧ ∀ a_ ∈ x.f0, B125 n a_)
theorem B50_mono {n m : Int} {x : S50} (h : n ≤ m) (hb : B50 n x) : B50 m x := ⟨Int.le_trans hb.1 h, fun a_ ha_ => B125_mono h (hb.2 a_ ha_)⟩
theorem laws_szLedger_ev (x : S44) (n : Int) (h0 : 0 ≤ n) (h1 : n ≤ 1048576) (hg : G44 x) : ∃ r, Ev (fun k => laws_szLedger.f k (x.f0) (x.f1) n) r ∧ (r < 0 ∨ (0 ≤ r ∧ r ≤ n ∧ B44 n x)) := by
  unfold laws_szLedger.f
  obtain ⟨r0, e0, h0⟩ := laws_szEntryS_ev x.f0 n (by omega) (by omega) hg.1
  rcases h0 with h0 | ⟨p0, q0, b0⟩
  · exact ⟨-1, Ev.bind e0 (ev_pos h0 (Ev.now _)), .inl (by decide)⟩
  · skip
    exact ⟨r0, Ev.bind e0 (ev_neg (by omega) (Ev.now _)), .inr ⟨by omega, by omega, ⟨Int.le_trans b0.1 (by omega), fun a_ ha_ => B131_mono (by omega) (b0.2 a_ ha_)⟩⟩⟩
/-- The law's own value as the program's. -/
def cv208 (x : S208) : S127 := ⟨x.f0, x.f1, x.f2, x.f3, x.f4⟩
theorem cv208_B {n : Int} {x : S208} (hb : B208 n x) : B127 n (cv208 x) := True.intro
theorem laws_toLine_ev (x : S208) : Ev (fun _ => laws_toLine.f (x.f0) (x.f1) (x.f2) (x.f3) (x.f4)) (x.f0, x.f1, x.f2, x.f3, x.f4) := by
  unfold laws_toLine.f
  exact Ev.now _
theorem laws_toLineS_ev (l : List (S208)) (hb : (l.length : Int) ≤ 1048576) : Ev (fun k => laws_toLineS.f k l) (l.map cv208) := by
  have hl := hb
  unfold laws_toLineS.f
  refine ev_pos (by omega) (ev_pos (by omega) ?_)
  have hfl := fill_loop (fun k ys i => laws_toLineS.l0 k l ys i) cv208 (z127) l ?_ ?_
  · simpa only [Int.toNat_natCast] using hfl
  · intro ys i hi r hy hq
    have hrd : rd_T208 l (i : Int) = l[i] := getD_at hi _
    refine Ev.step (fun k => by rw [laws_toLineS.l0]) ?_
    simp only [hrd]
    refine ev_pos (by omega) (ev_pos (by omega) (Ev.bind (laws_toLine_ev l[i]) (ev_pos (by omega) ?_)))
    rw [wrap_succ hi (by omega)]
    simp only [Int.toNat_natCast]
    exact hq
  · intro ys
    refine Ev.step (fun k => by rw [laws_toLineS.l0]) ?_
    exact ev_neg (by omega) (Ev.now _)
/-- The law's own value as the program's. -/
def cv131 (x : S131) : S125 := ⟨x.f0, x.f1, x.f2, x.f3.map cv208⟩
theorem cv131_B {n : Int} {x : S131} (hb : B131 n x) : B125 n (cv131 x) := ⟨hb.1, (by simp only [cv131, List.length_map]; exact hb.2)⟩
theorem laws_toEntry_ev (x : S131) (hb : B131 1048576 x) : Ev (fun k => laws_toEntry.f k (x.f0) (x.f1) (x.f2) (x.f3)) (x.f0, x.f1, x.f2, x.f3.map cv208) := by
  unfold laws_toEntry.f
  exact Ev.bind (laws_toLineS_ev x.f3 hb.2) (Ev.now _)
theorem laws_toEntryS_ev (l : List (S131)) (hb : (l.length : Int) ≤ 1048576 ∧ ∀ a_ ∈ l, B131 1048576 a_) : Ev (fun k => laws_toEntryS.f k l) (l.map cv131) := by
  have hl := hb.1
  unfold laws_toEntryS.f
  refine ev_pos (by omega) (ev_pos (by omega) ?_)
  have hfl := fill_loop (fun k ys i => laws_toEntryS.l0 k l ys i) cv131 (z125) l ?_ ?_
  · simpa only [Int.toNat_natCast] using hfl
  · intro ys i hi r hy hq
    have hrd : rd_T131 l (i : Int) = l[i] := getD_at hi _
    refine Ev.step (fun k => by rw [laws_toEntryS.l0]) ?_
    simp only [hrd]
    refine ev_pos (by omega) (ev_pos (by omega) (Ev.bind (laws_toEntry_ev l[i] (hb.2 _ (List.getElem_mem hi))) (ev_pos (by omega) ?_)))
    rw [wrap_succ hi (by omega)]
    simp only [Int.toNat_natCast]
    exact hq
  · intro ys
    refine Ev.step (fun k => by rw [laws_toEntryS.l0]) ?_
    exact ev_neg (by omega) (Ev.now _)
/-- The law's own value as the program's. -/
def cv44 (x : S44) : S50 := ⟨x.f0.map cv131, x.f1⟩
theorem cv44_B {n : Int} {x : S44} (hb : B44 n x) : B50 n (cv44 x) := ⟨by simp only [cv44, List.length_map]; exact hb.1, fun a_ ha_ => by obtain ⟨y_, hy_, rfl⟩ := List.mem_map.1 ha_; exact (cv131_B (hb.2 y_ hy_))⟩
theorem laws_toLedger_ev (x : S44) (hb : B44 1048576 x) : Ev (fun k => laws_toLedger.f k (x.f0) (x.f1)) (x.f0.map cv131, x.f1) := by
  unfold laws_toLedger.f
  exact Ev.bind (laws_toEntryS_ev x.f0 hb) (Ev.now _)
theorem laws_eqLine_ev (x : S127) : Ev (fun _ => laws_eqLine.f (x.f0) (x.f1) (x.f2) (x.f3) (x.f4) (x.f0) (x.f1) (x.f2) (x.f3) (x.f4)) true := by
  unfold laws_eqLine.f
  refine ev_pos rfl ?_
  refine ev_pos rfl ?_
  refine ev_pos rfl ?_
  refine ev_pos rfl ?_
  refine ev_pos rfl ?_
  exact Ev.now _
theorem laws_eqLineS_ev (l : List (S127)) (hb : (l.length : Int) ≤ 1048576) : Ev (fun k => laws_eqLineS.f k l l) true := by
  have hl := hb
  unfold laws_eqLineS.f
  refine ev_pos rfl ?_
  refine all_loop (fun k i => laws_eqLineS.l0 k l l i) l.length ?_ ?_
  · intro i hi hq
    refine Ev.step (fun k => by rw [laws_eqLineS.l0]) ?_
    have hrd : rd_T127 l (i : Int) = l[i] := getD_at hi _
    simp only [hrd]
    refine ev_pos (by omega) (ev_pos (by omega) (ev_pos (by omega) (Ev.bind (laws_eqLine_ev l[i]) (ev_pos rfl ?_))))
    rw [wrap_succ hi (by omega)]
    exact hq
  · refine Ev.step (fun k => by rw [laws_eqLineS.l0]) ?_
    exact ev_neg (by omega) (Ev.now _)
theorem laws_eqEntry_ev (x : S125) (hb : B125 1048576 x) : Ev (fun k => laws_eqEntry.f k (x.f0) (x.f1) (x.f2) (x.f3) (x.f0) (x.f1) (x.f2) (x.f3)) true := by
  unfold laws_eqEntry.f
  refine ev_pos rfl ?_
  refine ev_pos rfl ?_
  refine ev_pos rfl ?_
  refine Ev.bind (laws_eqLineS_ev x.f3 hb.2) (ev_pos rfl ?_)
  exact Ev.now _
theorem laws_eqEntryS_ev (l : List (S125)) (hb : (l.length : Int) ≤ 1048576 ∧ ∀ a_ ∈ l, B125 1048576 a_) : Ev (fun k => laws_eqEntryS.f k l l) true := by
  have hl := hb.1
  unfold laws_eqEntryS.f
  refine ev_pos rfl ?_
  refine all_loop (fun k i => laws_eqEntryS.l0 k l l i) l.length ?_ ?_
  · intro i hi hq
    refine Ev.step (fun k => by rw [laws_eqEntryS.l0]) ?_
    have hrd : rd_T125 l (i : Int) = l[i] := getD_at hi _
    simp only [hrd]
    refine ev_pos (by omega) (ev_pos (by omega) (ev_pos (by omega) (Ev.bind (laws_eqEntry_ev l[i] (hb.2 _ (List.getElem_mem hi))) (ev_pos rfl ?_))))
    rw [wrap_succ hi (by omega)]
    exact hq
  · refine Ev.step (fun k => by rw [laws_eqEntryS.l0]) ?_
    exact ev_neg (by omega) (Ev.now _)
theorem laws_eqLedger_ev (x : S50) (hb : B50 1048576 x) : Ev (fun k => laws_eqLedger.f k (x.f0) (x.f1) (x.f0) (x.f1)) true := by
  unfold laws_eqLedger.f
  refine Ev.bind (laws_eqEntryS_ev x.f0 hb) (ev_pos rfl ?_)
  refine ev_pos rfl ?_
  exact Ev.now _
end Go.Proofs.Ytiamlcnmjicpaaa.PFnExactBalance
