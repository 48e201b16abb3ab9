/- Move: the program's answer is the reference's, whatever the stock, the place and the quantity. -/
import Derived.Test.YtflagondodkonaaZPFnExactMovex
import Derived.Test.YtflagondodkonaaZHFnExactMove
set_option linter.unusedVariables false
set_option maxHeartbeats 4000000
set_option linter.unusedSimpArgs false
set_option linter.unusedSectionVars false
namespace Go.Proofs.Ytflagondodkonaa.Pure
open Go.RowKit Go.Proofs.Ytflagondodkonaa.PFnExactMove Go.Proofs.YtflagondodkonaaW.PrintWords Go.Proofs.YtflagondodkonaaW.PrintLast Go.Proofs.Ytflagondodkonaa.XEv
abbrev CC := S76
def BC (l : List CC) : Prop := (l.length : Int) ≤ 1048576 ∧ ∀ y ∈ l, B76 1048576 y
def more (y : CC) (q : Int) : CC := ⟨y.f0, y.f1, y.f2, y.f3, wrap64 (y.f4 + q), y.f5⟩
theorem same_iff (y x : CC) : (y.f0.toList == x.f0.toList && (y.f1.toList == x.f1.toList && (y.f2.toList == x.f2.toList))) = true ↔ Same y x := by
  simp only [Bool.and_eq_true, beq_iff_eq, str_iff]
  rfl
theorem bring_go (l : List CC) (x : CC) (hl : (l.length : Int) ≤ 100) : ∀ (d i j : Nat), i + d = j → j ≤ l.length → (∀ (q : Nat) y, q < j → l[q]? = some y → ¬ Same y x) → ∀ r, Ev (fun k => impl_bring.l0 k l (l.length : Int) (j : Int) x.f0 x.f1 x.f2 x.f3 x.f4 x.f5) r → Ev (fun k => impl_bring.l0 k l (l.length : Int) (i : Int) x.f0 x.f1 x.f2 x.f3 x.f4 x.f5) r := by
  have hw : ∀ y : CC, impl_Cell_where.f y.f0 y.f1 y.f2 y.f3 y.f4 y.f5 = some (y.f0, y.f1, y.f2) := fun _ => rfl
  intro d
  induction d with
  | zero => intro i j h _ _ r hr; have : i = j := by omega
            subst this; exact hr
  | succ d ih =>
    intro i j h hj hn r hr
    have hi : i < l.length := by omega
    have hrd : rd_T76 l (i : Int) = l[i] := getD_at hi _
    have hs : ¬ Same l[i] x := hn i _ (by omega) (List.getElem?_eq_getElem hi)
    refine Ev.step (fun k => by rw [impl_bring.l0]) ?_
    simp only [hrd, hw, Option.bind_some, show impl_Cell_where.f x.f0 x.f1 x.f2 x.f3 x.f4 x.f5 = some (x.f0, x.f1, x.f2) from rfl, wrap_succ hi (show l.length ≤ 9223372036854775807 by omega)]
    exact ev_pos (by omega) (ev_pos (by omega) (ev_pos (by omega) (ev_neg (fun h => hs ((same_iff _ _).1 h)) (ih (i + 1) j (by omega) hj hn r hr))))
/-- None is of its kind. -/
theorem bring_none (l : List CC) (x : CC) (hl : (l.length : Int) ≤ 100) (hn : ∀ y ∈ l, ¬ Same y x) :
    ((l.length : Int) ≥ 100 ∧ Ev (fun k => spec_l15Add.f k l x.f0 x.f1 x.f2 x.f3 x.f4 x.f5) (l, false) ∧ Ev (fun k => impl_bring.f k l x.f0 x.f1 x.f2 x.f3 x.f4 x.f5) ([], false)) ∨
    ((l.length : Int) < 100 ∧ Ev (fun k => spec_l15Add.f k l x.f0 x.f1 x.f2 x.f3 x.f4 x.f5) (l ++ [x], true) ∧ Ev (fun k => impl_bring.f k l x.f0 x.f1 x.f2 x.f3 x.f4 x.f5) (l ++ [x], true)) := by
  obtain ⟨r, er, pr⟩ := spec_find_ev l x (by omega)
  have hn' : ∀ (q : Nat) y, q < l.length → l[q]? = some y → ¬ Same y x := fun q y _ h => hn y (List.mem_of_getElem? h)
  have hr : r = -1 := by
    rcases pr with ⟨h, _⟩ | ⟨i, _, y, hy, hs, _⟩
    · exact h
    · exact absurd hs (hn y (List.mem_of_getElem? hy))
  subst hr
  unfold spec_l15Add.f impl_bring.f
  by_cases c : (l.length : Int) ≥ 100
  · refine .inl ⟨c, Ev.bind er (ev_pos (by omega) (ev_pos c (Ev.now _))), ?_⟩
    refine bring_go l x hl l.length 0 l.length (by omega) (Nat.le_refl _) hn' _ ?_
    refine Ev.step (fun k => by rw [impl_bring.l0]) ?_
    exact ev_neg (by omega) (ev_pos (by omega) (Ev.now _))
  · refine .inr ⟨by omega, Ev.bind er (ev_pos (by omega) (ev_neg c (ev_pos (by omega) (Ev.now _)))), ?_⟩
    refine bring_go l x hl l.length 0 l.length (by omega) (Nat.le_refl _) hn' _ ?_
    refine Ev.step (fun k => by rw [impl_bring.l0]) ?_
    exact ev_neg (by omega) (ev_neg (by omega) (ev_pos (by omega) (Ev.now _)))
/-- The first of its kind is at i. -/
theorem bring_some (l : List CC) (x : CC) (hl : (l.length : Int) ≤ 100) (i : Nat) (y : CC) (hy : l[i]? = some y) (hs : Same y x) (hf : ∀ (j : Nat) z, j < i → l[j]? = some z → ¬ Same z x) :
    (wrap64 (y.f4 + x.f4) > 1000000 ∧ Ev (fun k => spec_l15Add.f k l x.f0 x.f1 x.f2 x.f3 x.f4 x.f5) (l, false) ∧ Ev (fun k => impl_bring.f k l x.f0 x.f1 x.f2 x.f3 x.f4 x.f5) ([], false)) ∨
    (¬ wrap64 (y.f4 + x.f4) > 1000000 ∧ Ev (fun k => spec_l15Add.f k l x.f0 x.f1 x.f2 x.f3 x.f4 x.f5) (l.set i (more y x.f4), true) ∧ Ev (fun k => impl_bring.f k l x.f0 x.f1 x.f2 x.f3 x.f4 x.f5) (l.set i (more y x.f4), true)) := by
  obtain ⟨r, er, pr⟩ := spec_find_ev l x (by omega)
  have hw : ∀ y : CC, impl_Cell_where.f y.f0 y.f1 y.f2 y.f3 y.f4 y.f5 = some (y.f0, y.f1, y.f2) := fun _ => rfl
  have hi : i < l.length := (List.getElem?_eq_some_iff.1 hy).1
  have hyi : l[i] = y := (List.getElem?_eq_some_iff.1 hy).2
  have hr : r = (i : Int) := by
    rcases pr with ⟨_, h⟩ | ⟨j, hj, z, hz, hsz, hfz⟩
    · exact absurd hs (h y (List.mem_of_getElem? hy))
    · rcases Nat.lt_trichotomy j i with h | h | h
      · exact absurd hsz (hf j z h hz)
      · rw [hj, h]
      · exact absurd hs (hfz i y h hy)
  subst hr
  have hrd : rd_T76 l (i : Int) = y := by rw [← hyi]; exact getD_at hi _
  unfold spec_l15Add.f impl_bring.f
  have head : ∀ r, Ev (fun k => impl_bring.l0 k l (l.length : Int) (i : Int) x.f0 x.f1 x.f2 x.f3 x.f4 x.f5) r → Ev (fun k => impl_bring.l0 k l (l.length : Int) 0 x.f0 x.f1 x.f2 x.f3 x.f4 x.f5) r := bring_go l x hl i 0 i (by omega) (by omega) hf
  by_cases c : wrap64 (y.f4 + x.f4) > 1000000
  · refine .inl ⟨c, Ev.bind er ?_, head _ ?_⟩
    · simp only [hrd]
      exact ev_neg (by omega) (ev_pos (by omega) (ev_pos (by omega) (ev_pos c (Ev.now _))))
    · refine Ev.step (fun k => by rw [impl_bring.l0]) ?_
      simp only [hrd, hw, Option.bind_some, show impl_Cell_where.f x.f0 x.f1 x.f2 x.f3 x.f4 x.f5 = some (x.f0, x.f1, x.f2) from rfl]
      exact ev_pos (by omega) (ev_pos (by omega) (ev_pos (by omega) (ev_pos ((same_iff _ _).2 hs) (ev_pos c (Ev.now _)))))
  · refine .inr ⟨c, Ev.bind er ?_, head _ ?_⟩
    · simp only [hrd, Int.toNat_natCast]
      exact ev_neg (by omega) (ev_pos (by omega) (ev_pos (by omega) (ev_neg c (Ev.now _))))
    · refine Ev.step (fun k => by rw [impl_bring.l0]) ?_
      simp only [hrd, hw, Option.bind_some, Int.toNat_natCast, show impl_Cell_where.f x.f0 x.f1 x.f2 x.f3 x.f4 x.f5 = some (x.f0, x.f1, x.f2) from rfl]
      exact ev_pos (by omega) (ev_pos (by omega) (ev_pos (by omega) (ev_pos ((same_iff _ _).2 hs) (ev_neg c (Ev.now _)))))
theorem first_of (l : List CC) (x : CC) : (∀ y ∈ l, ¬ Same y x) ∨ ∃ (i : Nat) (y : CC), l[i]? = some y ∧ Same y x ∧ ∀ (j : Nat) z, j < i → l[j]? = some z → ¬ Same z x := by
  induction l with
  | nil => exact .inl (fun y hy => by cases hy)
  | cons a l ih =>
    by_cases c : Same a x
    · exact .inr ⟨0, a, rfl, c, fun j z h => by omega⟩
    · rcases ih with h | ⟨i, y, hy, hs, hf⟩
      · exact .inl (fun y hy => by rcases List.mem_cons.1 hy with h2 | h2; rw [h2]; exact c; exact h y h2)
      · refine .inr ⟨i + 1, y, by simpa using hy, hs, fun j z hj hz => ?_⟩
        cases j with
        | zero => simp at hz; rw [← hz]; exact c
        | succ j => exact hf j z (by omega) (by simpa using hz)
/-- Both sides bring a cell into a stock, or have no room. -/
theorem bring_ev (l : List CC) (x : CC) (hl : (l.length : Int) ≤ 100) : ∃ (b : Bool) (rs ri : List CC), Ev (fun k => spec_l15Add.f k l x.f0 x.f1 x.f2 x.f3 x.f4 x.f5) (rs, b) ∧ Ev (fun k => impl_bring.f k l x.f0 x.f1 x.f2 x.f3 x.f4 x.f5) (ri, b) ∧
    (b = true → rs = ri ∧ ((rs = l ++ [x] ∧ (l.length : Int) < 100 ∧ ∀ y ∈ l, ¬ Same y x) ∨ ∃ (i : Nat) (y : CC), l[i]? = some y ∧ Same y x ∧ rs = l.set i (more y x.f4) ∧ ¬ wrap64 (y.f4 + x.f4) > 1000000)) := by
  rcases first_of l x with hn | ⟨i, y, hy, hs, hf⟩
  · rcases bring_none l x hl hn with ⟨_, h1, h2⟩ | ⟨c, h1, h2⟩
    · exact ⟨false, _, _, h1, h2, fun h => (by cases h)⟩
    · exact ⟨true, _, _, h1, h2, fun _ => ⟨rfl, .inl ⟨rfl, c, hn⟩⟩⟩
  · rcases bring_some l x hl i y hy hs hf with ⟨_, h1, h2⟩ | ⟨c, h1, h2⟩
    · exact ⟨false, _, _, h1, h2, fun h => (by cases h)⟩
    · exact ⟨true, _, _, h1, h2, fun _ => ⟨rfl, .inr ⟨i, y, hy, hs, rfl, c⟩⟩⟩
theorem impl_copy_eq (l : List CC) (hl : (l.length : Int) ≤ 1048576) : impl_copyStock.f l = some l := by
  unfold impl_copyStock.f
  simp only [Option.bind_some, List.nil_append]
  exact if_pos (by simp; omega)
theorem spec_copy_eq (l : List CC) (hl : (l.length : Int) ≤ 1048576) : spec_l15Copy.f l = some l := by
  unfold spec_l15Copy.f
  simp only [Option.bind_some, List.nil_append]
  exact if_pos (by simp; omega)
theorem BC_set {l : List CC} {i : Nat} {y : CC} (h : BC l) (hy : B76 1048576 y) : BC (l.set i y) := by
  refine ⟨by rw [List.length_set]; exact h.1, fun z hz => ?_⟩
  rcases List.mem_or_eq_of_mem_set hz with h2 | h2
  · exact h.2 z h2
  · rw [h2]; exact hy
theorem bring_B {l rs : List CC} {x : CC} (h : BC l) (hl : (l.length : Int) ≤ 100) (hx : B76 1048576 x) (hr : (rs = l ++ [x] ∧ (l.length : Int) < 100 ∧ ∀ y ∈ l, ¬ Same y x) ∨ ∃ (i : Nat) (y : CC), l[i]? = some y ∧ Same y x ∧ rs = l.set i (more y x.f4) ∧ ¬ wrap64 (y.f4 + x.f4) > 1000000) : BC rs := by
  rcases hr with ⟨rfl, _, _⟩ | ⟨i, y, hy, _, rfl, _⟩
  · refine ⟨by simp; omega, fun z hz => ?_⟩
    rcases List.mem_append.1 hz with h2 | h2
    · exact h.2 z h2
    · rw [List.mem_singleton.1 h2]; exact hx
  · have := h.2 y (List.mem_of_getElem? hy)
    exact BC_set h this
def less1 (y : CC) (q : Int) : CC := ⟨y.f0, y.f1, y.f2, y.f3, wrap64 (y.f4 - q), y.f5⟩
theorem same_less {y x : CC} {q : Int} : Same (less1 y q) x ↔ Same y x := Iff.rfl
/-- One side takes away ahead of bringing, the other behind it. -/
theorem bring_two (l : List CC) (i : Nat) (hi : i < l.length) (q : Int) (x : CC) (h100 : (l.length : Int) ≤ 100) (hnx : ¬ Same l[i] x) :
    ∃ (b : Bool) (rs ri : List CC), Ev (fun k => spec_l15Add.f k l x.f0 x.f1 x.f2 x.f3 x.f4 x.f5) (rs, b) ∧ Ev (fun k => impl_bring.f k (l.set i (less1 l[i] q)) x.f0 x.f1 x.f2 x.f3 x.f4 x.f5) (ri, b) ∧
    (b = true → rd_T76 rs (i : Int) = l[i] ∧ ri = rs.set i (less1 l[i] q) ∧ (i : Int) < (rs.length : Int) ∧ ((rs = l ++ [x] ∧ (l.length : Int) < 100 ∧ ∀ y ∈ l, ¬ Same y x) ∨ ∃ (i : Nat) (y : CC), l[i]? = some y ∧ Same y x ∧ rs = l.set i (more y x.f4) ∧ ¬ wrap64 (y.f4 + x.f4) > 1000000)) := by
  have hsl : ((l.set i (less1 l[i] q)).length : Int) ≤ 100 := by rw [List.length_set]; exact h100
  have hset : ∀ (j : Nat) z, (l.set i (less1 l[i] q))[j]? = some z → Same z x → j ≠ i ∧ l[j]? = some z := by
    intro j z hz hs
    by_cases c : j = i
    · subst c
      rw [List.getElem?_set_self hi] at hz
      injection hz with hz
      rw [← hz] at hs
      exact absurd hs hnx
    · rw [List.getElem?_set_ne (Ne.symm c)] at hz
      exact ⟨c, hz⟩
  rcases first_of l x with hn | ⟨j, y, hy, hs, hf⟩
  · have hn' : ∀ y ∈ l.set i (less1 l[i] q), ¬ Same y x := by
      intro y hy hs
      obtain ⟨j, hj⟩ := List.getElem?_of_mem hy
      exact hn y (List.mem_of_getElem? (hset j y hj hs).2) hs
    rcases bring_none l x h100 hn with ⟨c, h1, _⟩ | ⟨c, h1, _⟩
    · rcases bring_none _ x hsl hn' with ⟨_, _, h2⟩ | ⟨c2, _, _⟩
      · exact ⟨false, _, _, h1, h2, fun h => (by cases h)⟩
      · rw [List.length_set] at c2; omega
    · rcases bring_none _ x hsl hn' with ⟨c2, _, _⟩ | ⟨_, _, h2⟩
      · rw [List.length_set] at c2; omega
      · refine ⟨true, _, _, h1, h2, fun _ => ⟨?_, ?_, by simp; omega, .inl ⟨rfl, c, hn⟩⟩⟩
        · unfold rd_T76
          rw [Int.toNat_natCast, getD_at (by simp; omega), List.getElem_append_left hi]
        · rw [List.set_append_left _ _ hi]
  · have hji : j ≠ i := by
      intro h
      subst h
      have : l[j] = y := (List.getElem?_eq_some_iff.1 hy).2
      rw [this] at hnx
      exact hnx hs
    have hjl : j < l.length := (List.getElem?_eq_some_iff.1 hy).1
    have hy' : (l.set i (less1 l[i] q))[j]? = some y := by rw [List.getElem?_set_ne (Ne.symm hji)]; exact hy
    have hf' : ∀ (p : Nat) z, p < j → (l.set i (less1 l[i] q))[p]? = some z → ¬ Same z x := fun p z hp hz hsz => hf p z hp (hset p z hz hsz).2 hsz
    rcases bring_some l x h100 j y hy hs hf with ⟨c, h1, _⟩ | ⟨c, h1, _⟩
    · rcases bring_some _ x hsl j y hy' hs hf' with ⟨_, _, h2⟩ | ⟨c2, _, _⟩
      · exact ⟨false, _, _, h1, h2, fun h => (by cases h)⟩
      · exact absurd c c2
    · rcases bring_some _ x hsl j y hy' hs hf' with ⟨c2, _, _⟩ | ⟨_, _, h2⟩
      · exact absurd c2 c
      · refine ⟨true, _, _, h1, h2, fun _ => ⟨?_, ?_, by simp; omega, .inr ⟨j, y, hy, hs, rfl, c⟩⟩⟩
        · unfold rd_T76
          rw [Int.toNat_natCast, getD_at (by simp; omega), List.getElem_set_ne hji]
        · exact List.set_comm _ _ (Ne.symm hji)
/-- Both sides move a quantity to a place, or tell the same reason why not. -/
theorem move_ev (l : List CC) (a : Int) (place : ByteArray) (q : Int) (hl : BC l) (hp : (place.size : Int) ≤ 1048576) : ∃ (r : List CC) (n : Int), Ev (fun k => spec_Move.f k l a place q) (r, n) ∧ Ev (fun k => impl_Move.f k l a place q) (r, n) ∧ BC r := by
  have hl1 := hl.1
  obtain ⟨b, e1, p1⟩ := spec_stock_ev l hl
  obtain ⟨b', e2, p2⟩ := impl_stock_ev l hl
  have hbb : b = b' := bool_of_iff p1 p2
  subst hbb
  obtain ⟨m, f1, g1⟩ := spec_NameOk_ev place hp
  obtain ⟨m', f2, g2⟩ := impl_NameOk_ev place
  have hmm : m = m' := bool_of_iff g1 g2
  subst hmm
  unfold spec_Move.f impl_Move.f
  by_cases c : b = true
  case neg => exact ⟨[], 1, Ev.bind e1 (ev_neg c (Ev.now _)), Ev.bind e2 (ev_neg c (Ev.now _)), by simp, fun y hy => by cases hy⟩
  have hs := p1.1 c
  have h100 := hs.1
  have hw1 : wrap64 ((l.length : Int) - 1) = (l.length : Int) - 1 := wrap_id (by omega) (by omega)
  have sT : Ev (fun k => spec_Move.j0 k l a place q true) (l, 2) := by
    refine Ev.step (fun k => by rw [spec_Move.j0]) ?_
    exact ev_pos rfl (ev_bind0 (spec_copy_eq l hl1) (Ev.now _))
  have iT : Ev (fun k => impl_Move.j0 k l a place q true) (l, 2) := by
    refine Ev.step (fun k => by rw [impl_Move.j0]) ?_
    exact ev_pos rfl (ev_bind0 (impl_copy_eq l hl1) (Ev.now _))
  simp only [hw1, spec_l1In_eq, spec_l12Qty_eq, impl_quantity_eq, Option.bind_some, decide_eq_true_eq]
  by_cases ca : 0 ≤ a ∧ a ≤ (l.length : Int) - 1
  case neg =>
    refine ⟨l, 2, Ev.bind e1 (ev_pos c (ev_neg ca sT)), Ev.bind e2 (ev_pos c ?_), hl⟩
    by_cases c2 : a < 0
    · exact ev_pos c2 iT
    · exact ev_neg c2 (ev_pos (by omega) iT)
  obtain ⟨i, rfl⟩ : ∃ i : Nat, a = (i : Int) := ⟨a.toNat, by omega⟩
  have hi : i < l.length := by omega
  have hrd : rd_T76 l (i : Int) = l[i] := getD_at hi _
  have hg : l[i]? = some l[i] := List.getElem?_eq_getElem hi
  have hBi := hl.2 _ (List.getElem_mem hi)
  have hci := (hs.2 i hi).1
  have hun : ∀ (j : Nat) y, l[j]? = some y → Same y l[i] → j = i := by
    intro j y hy hsm
    rcases Nat.lt_trichotomy j i with h | h | h
    · exact absurd hsm ((hs.2 i hi).2 j y h hy)
    · exact h
    · have hj : j < l.length := (List.getElem?_eq_some_iff.1 hy).1
      have hyj : l[j] = y := (List.getElem?_eq_some_iff.1 hy).2
      have := (hs.2 j hj).2 i l[i] h hg
      rw [hyj] at this
      exact absurd ⟨hsm.1.symm, hsm.2.1.symm, hsm.2.2.symm⟩ this
  by_cases cm : m = true
  case neg => exact ⟨l, 2, Ev.bind e1 (ev_pos c (ev_pos ca (Ev.bind f1 (ev_neg cm sT)))), Ev.bind e2 (ev_pos c (ev_neg (by omega) (ev_neg (by omega) (Ev.bind f2 (ev_neg cm iT))))), hl⟩
  simp only [hrd, str_iff]
  by_cases cp : l[i].f1 = place
  · exact ⟨l, 2, Ev.bind e1 (ev_pos c (ev_pos ca (Ev.bind f1 (ev_pos cm (ev_pos (by omega) (ev_pos (by omega) (ev_pos cp sT))))))), Ev.bind e2 (ev_pos c (ev_neg (by omega) (ev_neg (by omega) (Ev.bind f2 (ev_pos cm (ev_pos (by omega) (ev_pos (by omega) (ev_pos cp.symm iT)))))))), hl⟩
  have cp' : ¬ place = l[i].f1 := fun h => cp h.symm
  have sH : ∀ r bad, (!decide (0 ≤ q ∧ q ≤ 1000000)) = bad → Ev (fun k => spec_Move.j0 k l (i : Int) place q bad) r → Ev (fun k => (spec_StockOk.f k l).bind fun t179 => if t179 = true then if 0 ≤ (i : Int) ∧ (i : Int) ≤ (l.length : Int) - 1 then (spec_NameOk.f k place).bind fun t184 => if t184 = true then if 0 ≤ (i : Int) then if (i : Int) < (l.length : Int) then if l[i].f1 = place then spec_Move.j0 k l (i : Int) place q true else spec_Move.j0 k l (i : Int) place q (!decide (0 ≤ q ∧ q ≤ 1000000)) else none else none else spec_Move.j0 k l (i : Int) place q true else spec_Move.j0 k l (i : Int) place q true else some ([], 1)) r := by
    intro r bad hb hr
    subst hb
    exact Ev.bind e1 (ev_pos c (ev_pos ca (Ev.bind f1 (ev_pos cm (ev_pos (by omega) (ev_pos (by omega) (ev_neg cp hr)))))))
  have iH : ∀ r bad, (!decide (0 ≤ q ∧ q ≤ 1000000)) = bad → Ev (fun k => impl_Move.j0 k l (i : Int) place q bad) r → Ev (fun k => (impl_StockOk.f k l).bind fun t258 => if t258 = true then if (i : Int) < 0 then impl_Move.j0 k l (i : Int) place q true else if (i : Int) ≥ (l.length : Int) then impl_Move.j0 k l (i : Int) place q true else (impl_NameOk.f k place).bind fun t259 => if t259 = true then if 0 ≤ (i : Int) then if (i : Int) < (l.length : Int) then if place = l[i].f1 then impl_Move.j0 k l (i : Int) place q true else impl_Move.j0 k l (i : Int) place q (!decide (0 ≤ q ∧ q ≤ 1000000)) else none else none else impl_Move.j0 k l (i : Int) place q true else some ([], 1)) r := by
    intro r bad hb hr
    subst hb
    exact Ev.bind e2 (ev_pos c (ev_neg (by omega) (ev_neg (by omega) (Ev.bind f2 (ev_pos cm (ev_pos (by omega) (ev_pos (by omega) (ev_neg cp' hr))))))))
  by_cases cq : 0 ≤ q ∧ q ≤ 1000000
  case neg => exact ⟨l, 2, sH _ true (by rw [decide_eq_false cq]; rfl) sT, iH _ true (by rw [decide_eq_false cq]; rfl) iT, hl⟩
  have eb : (!decide (0 ≤ q ∧ q ≤ 1000000)) = false := by rw [decide_eq_true cq]; rfl
  obtain ⟨_, _, _, _, ⟨k0, k1⟩, ⟨d0, d1⟩⟩ := hci
  have hw2 : wrap64 (l[i].f4 - l[i].f5) = l[i].f4 - l[i].f5 := wrap_id (by omega) (by omega)
  by_cases cs : l[i].f4 - l[i].f5 < q
  · refine ⟨l, 3, sH _ false eb ?_, iH _ false eb ?_, hl⟩
    · refine Ev.step (fun k => by rw [spec_Move.j0]) ?_
      simp only [hrd, hw2]
      exact ev_neg (by simp) (ev_pos (by omega) (ev_pos (by omega) (ev_pos cs (ev_bind0 (spec_copy_eq l hl1) (Ev.now _)))))
    · refine Ev.step (fun k => by rw [impl_Move.j0]) ?_
      simp only [hrd, hw2]
      exact ev_neg (by simp) (ev_pos (by omega) (ev_pos (by omega) (ev_pos (by omega) (ev_bind0 (impl_copy_eq l hl1) (Ev.now _)))))
  -- the cell that comes to the place, and the stock from which it is taken
  have hlt : (i : Int) < (l.length : Int) := by omega
  have hge : 0 ≤ (i : Int) := by omega
  have hnx : ¬ Same l[i] (⟨l[i].f0, place, l[i].f2, l[i].f3, q, 0⟩ : CC) := fun h => cp h.2.1
  have hbx : B76 1048576 (⟨l[i].f0, place, l[i].f2, l[i].f3, q, 0⟩ : CC) := ⟨hBi.1, hp, hBi.2.2⟩
  have key := bring_two l i hi q (⟨l[i].f0, place, l[i].f2, l[i].f3, q, 0⟩ : CC) h100 hnx
  obtain ⟨t, rs, rt, hA, hBr, hrel⟩ := key
  have sJ : ∀ r, Ev (fun k => (spec_l15Add.f k l l[i].f0 place l[i].f2 l[i].f3 q 0).bind fun bt200 => if bt200.2 = true then if (i : Int) < (bt200.1.length : Int) then some (bt200.1.set i (⟨(rd_T76 bt200.1 (i : Int)).f0, (rd_T76 bt200.1 (i : Int)).f1, (rd_T76 bt200.1 (i : Int)).f2, (rd_T76 bt200.1 (i : Int)).f3, wrap64 ((rd_T76 bt200.1 (i : Int)).f4 - q), (rd_T76 bt200.1 (i : Int)).f5⟩ : CC), 0) else none else (spec_l15Copy.f l).bind fun t206 => some (t206, 4)) r → Ev (fun k => spec_Move.j0 k l (i : Int) place q false) r := by
    intro r hr
    refine Ev.step (fun k => by rw [spec_Move.j0]) ?_
    simp only [hrd, hw2, Int.toNat_natCast]
    exact ev_neg (by simp) (ev_pos hge (ev_pos hlt (ev_neg cs (ev_bind0 (spec_copy_eq l hl1) hr))))
  have iJ : ∀ r, Ev (fun k => (impl_bring.f k (l.set i (less1 l[i] q)) l[i].f0 place l[i].f2 l[i].f3 q 0).bind fun bt275 => if bt275.2 = true then some (bt275.1, 0) else (impl_copyStock.f l).bind fun t279 => some (t279, 4)) r → Ev (fun k => impl_Move.j0 k l (i : Int) place q false) r := by
    intro r hr
    refine Ev.step (fun k => by rw [impl_Move.j0]) ?_
    simp only [hrd, hw2]
    refine ev_neg (by simp) (ev_pos hge (ev_pos hlt (ev_neg (by omega) (ev_bind0 (impl_copy_eq l hl1) (ev_pos hlt ?_)))))
    simp only [hrd, Int.toNat_natCast]
    exact hr
  cases t with
  | false =>
    refine ⟨l, 4, sH _ false eb (sJ _ ?_), iH _ false eb (iJ _ ?_), hl⟩
    · exact Ev.bind hA (ev_neg (by simp) (ev_bind0 (spec_copy_eq l hl1) (Ev.now _)))
    · exact Ev.bind hBr (ev_neg (by simp) (ev_bind0 (impl_copy_eq l hl1) (Ev.now _)))
  | true =>
    obtain ⟨hri, hrt, hlen, hshape⟩ := hrel rfl
    have hBrs : BC rs := bring_B hl h100 hbx hshape
    refine ⟨rs.set i (less1 l[i] q), 0, sH _ false eb (sJ _ ?_), iH _ false eb (iJ _ ?_), BC_set hBrs hBi⟩
    · have hr2 : rd_T76 rs (i : Int) = l[i] := hri
      refine Ev.bind hA (ev_pos rfl (ev_pos (by omega) ?_))
      simp only [hr2]
      exact Ev.now _
    · rw [hrt] at hBr
      exact Ev.bind hBr (ev_pos rfl (Ev.now _))
theorem FnExactMove : laws_FnExactMove.Pure := by
  intro l0 a1 a2 a3 hg0 g1 g2 g3
  apply Ev.rounds
  unfold laws_FnExactMove.f
  by_cases ca : (a2.size : Int) > 1048576
  · exact ev_pos ca (Ev.now _)
  refine ev_neg ca ?_
  obtain ⟨s, hs, h⟩ := laws_szCellS_ev l0 1048576 (by omega) (by omega) hg0
  refine Ev.bind hs ?_
  rcases h with h | ⟨n0, n1, hB0⟩
  · exact ev_pos h (Ev.now _)
  refine ev_neg (by omega) ?_
  have to0 := laws_toCellS_ev l0 hB0
  have hB0' : BC (l0.map cv69) := ⟨by rw [List.length_map]; exact hB0.1, fun x hx => by
    obtain ⟨y, hy, rfl⟩ := List.mem_map.1 hx
    exact cv69_B (hB0.2 y hy)⟩
  obtain ⟨r, n, h1, h2, hr⟩ := move_ev _ a1 a2 a3 hB0' (by omega)
  have er := laws_eqCellS_ev r hr
  refine Ev.bind to0 (Ev.bind h1 (Ev.bind to0 (Ev.bind h2 (Ev.bind er (ev_pos rfl ?_)))))
  have en : (n != n) = false := by simp
  simp only [en]
  refine Ev.step (fun k => by rw [laws_FnExactMove.j0]) ?_
  refine ev_neg (by simp) (Ev.bind to0 (Ev.bind (laws_eqCellS_ev _ hB0') (ev_pos rfl ?_)))
  obtain ⟨q, hq, q0, q1, _⟩ := laws_markCellS_ev (l0.map cv69) 1 (by omega) (by omega) hB0'.1
  refine Ev.bind hq (ev_neg (by omega) (Ev.bind er (ev_pos rfl ?_)))
  simp only [en]
  refine Ev.step (fun k => by rw [laws_FnExactMove.j1]) ?_
  have hm := laws_markCellS_eq r 1 (by omega) (by omega) hr.1
  have hh := laws_heldCellS_eq 1 r.length (by omega) (by omega) hr.1
  refine ev_neg (by simp) (Ev.bind hm (Ev.bind hh (ev_neg (by omega) (ev_pos rfl ?_))))
  refine Ev.bind to0 (Ev.bind h2 (Ev.bind er (ev_pos rfl ?_)))
  simp only [en]
  refine Ev.step (fun k => by rw [laws_FnExactMove.j2]) ?_
  exact ev_neg (by simp) (Ev.bind hh (ev_neg (by omega) (ev_pos rfl (Ev.now _))))
end Go.Proofs.Ytflagondodkonaa.Pure
