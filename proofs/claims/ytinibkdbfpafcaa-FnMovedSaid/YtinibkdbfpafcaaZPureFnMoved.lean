/- A drawn move leaves every item as much of it as there was, and what is held held; brought back it leaves the cell it came from as it was; what is refused leaves the stock. -/
import Derived.Test.YtinibkdbfpafcaaZPFnMovedx
import Derived.Test.YtinibkdbfpafcaaZHFnMoved
set_option linter.unusedVariables false
set_option maxHeartbeats 4000000
set_option linter.unusedSimpArgs false
set_option linter.unusedSectionVars false
namespace Go.Proofs.Ytinibkdbfpafcaa.Pure
open Go.RowKit Go.Proofs.Ytinibkdbfpafcaa.PFnMoved Go.Proofs.YtinibkdbfpafcaaW.PrintWords Go.Proofs.YtinibkdbfpafcaaW.PrintLast Go.Proofs.Ytinibkdbfpafcaa.XEv
abbrev CC := S117
def BC (l : List CC) : Prop := (l.length : Int) ≤ 1048576 ∧ ∀ y ∈ l, B117 1048576 y
def more (y : CC) (q : Int) : CC := ⟨y.f0, y.f1, y.f2, y.f3, wrap64 (y.f4 + q), y.f5⟩
theorem same_iff (y x : CC) : (y.f0.toList == x.f0.toList && (y.f1.toList == x.f1.toList && (y.f2.toList == x.f2.toList))) = true ↔ Same y x := by
  simp only [Bool.and_eq_true, beq_iff_eq, str_iff]
  rfl
theorem bring_go (l : List CC) (x : CC) (hl : (l.length : Int) ≤ 100) : ∀ (d i j : Nat), i + d = j → j ≤ l.length → (∀ (q : Nat) y, q < j → l[q]? = some y → ¬ Same y x) → ∀ r, Ev (fun k => impl_bring.l0 k l (l.length : Int) (j : Int) x.f0 x.f1 x.f2 x.f3 x.f4 x.f5) r → Ev (fun k => impl_bring.l0 k l (l.length : Int) (i : Int) x.f0 x.f1 x.f2 x.f3 x.f4 x.f5) r := by
  have hw : ∀ y : CC, impl_Cell_where.f y.f0 y.f1 y.f2 y.f3 y.f4 y.f5 = some (y.f0, y.f1, y.f2) := fun _ => rfl
  intro d
  induction d with
  | zero => intro i j h _ _ r hr; have : i = j := by omega
            subst this; exact hr
  | succ d ih =>
    intro i j h hj hn r hr
    have hi : i < l.length := by omega
    have hrd : rd_T117 l (i : Int) = l[i] := getD_at hi _
    have hs : ¬ Same l[i] x := hn i _ (by omega) (List.getElem?_eq_getElem hi)
    refine Ev.step (fun k => by rw [impl_bring.l0]) ?_
    simp only [hrd, hw, Option.bind_some, show impl_Cell_where.f x.f0 x.f1 x.f2 x.f3 x.f4 x.f5 = some (x.f0, x.f1, x.f2) from rfl, wrap_succ hi (show l.length ≤ 9223372036854775807 by omega)]
    exact ev_pos (by omega) (ev_pos (by omega) (ev_pos (by omega) (ev_neg (fun h => hs ((same_iff _ _).1 h)) (ih (i + 1) j (by omega) hj hn r hr))))
/-- None is of its kind. -/
theorem bring_none (l : List CC) (x : CC) (hl : (l.length : Int) ≤ 100) (hn : ∀ y ∈ l, ¬ Same y x) :
    ((l.length : Int) ≥ 100 ∧ Ev (fun k => spec_l15Add.f k l x.f0 x.f1 x.f2 x.f3 x.f4 x.f5) (l, false) ∧ Ev (fun k => impl_bring.f k l x.f0 x.f1 x.f2 x.f3 x.f4 x.f5) ([], false)) ∨
    ((l.length : Int) < 100 ∧ Ev (fun k => spec_l15Add.f k l x.f0 x.f1 x.f2 x.f3 x.f4 x.f5) (l ++ [x], true) ∧ Ev (fun k => impl_bring.f k l x.f0 x.f1 x.f2 x.f3 x.f4 x.f5) (l ++ [x], true)) := by
  obtain ⟨r, er, pr⟩ := spec_find_ev l x (by omega)
  have hn' : ∀ (q : Nat) y, q < l.length → l[q]? = some y → ¬ Same y x := fun q y _ h => hn y (List.mem_of_getElem? h)
  have hr : r = -1 := by
    rcases pr with ⟨h, _⟩ | ⟨i, _, y, hy, hs, _⟩
    · exact h
    · exact absurd hs (hn y (List.mem_of_getElem? hy))
  subst hr
  unfold spec_l15Add.f impl_bring.f
  by_cases c : (l.length : Int) ≥ 100
  · refine .inl ⟨c, Ev.bind er (ev_pos (by omega) (ev_pos c (Ev.now _))), ?_⟩
    refine bring_go l x hl l.length 0 l.length (by omega) (Nat.le_refl _) hn' _ ?_
    refine Ev.step (fun k => by rw [impl_bring.l0]) ?_
    exact ev_neg (by omega) (ev_pos (by omega) (Ev.now _))
  · refine .inr ⟨by omega, Ev.bind er (ev_pos (by omega) (ev_neg c (ev_pos (by omega) (Ev.now _)))), ?_⟩
    refine bring_go l x hl l.length 0 l.length (by omega) (Nat.le_refl _) hn' _ ?_
    refine Ev.step (fun k => by rw [impl_bring.l0]) ?_
    exact ev_neg (by omega) (ev_neg (by omega) (ev_pos (by omega) (Ev.now _)))
/-- The first of its kind is at i. -/
theorem bring_some (l : List CC) (x : CC) (hl : (l.length : Int) ≤ 100) (i : Nat) (y : CC) (hy : l[i]? = some y) (hs : Same y x) (hf : ∀ (j : Nat) z, j < i → l[j]? = some z → ¬ Same z x) :
    (wrap64 (y.f4 + x.f4) > 1000000 ∧ Ev (fun k => spec_l15Add.f k l x.f0 x.f1 x.f2 x.f3 x.f4 x.f5) (l, false) ∧ Ev (fun k => impl_bring.f k l x.f0 x.f1 x.f2 x.f3 x.f4 x.f5) ([], false)) ∨
    (¬ wrap64 (y.f4 + x.f4) > 1000000 ∧ Ev (fun k => spec_l15Add.f k l x.f0 x.f1 x.f2 x.f3 x.f4 x.f5) (l.set i (more y x.f4), true) ∧ Ev (fun k => impl_bring.f k l x.f0 x.f1 x.f2 x.f3 x.f4 x.f5) (l.set i (more y x.f4), true)) := by
  obtain ⟨r, er, pr⟩ := spec_find_ev l x (by omega)
  have hw : ∀ y : CC, impl_Cell_where.f y.f0 y.f1 y.f2 y.f3 y.f4 y.f5 = some (y.f0, y.f1, y.f2) := fun _ => rfl
  have hi : i < l.length := (List.getElem?_eq_some_iff.1 hy).1
  have hyi : l[i] = y := (List.getElem?_eq_some_iff.1 hy).2
  have hr : r = (i : Int) := by
    rcases pr with ⟨_, h⟩ | ⟨j, hj, z, hz, hsz, hfz⟩
    · exact absurd hs (h y (List.mem_of_getElem? hy))
    · rcases Nat.lt_trichotomy j i with h | h | h
      · exact absurd hsz (hf j z h hz)
      · rw [hj, h]
      · exact absurd hs (hfz i y h hy)
  subst hr
  have hrd : rd_T117 l (i : Int) = y := by rw [← hyi]; exact getD_at hi _
  unfold spec_l15Add.f impl_bring.f
  have head : ∀ r, Ev (fun k => impl_bring.l0 k l (l.length : Int) (i : Int) x.f0 x.f1 x.f2 x.f3 x.f4 x.f5) r → Ev (fun k => impl_bring.l0 k l (l.length : Int) 0 x.f0 x.f1 x.f2 x.f3 x.f4 x.f5) r := bring_go l x hl i 0 i (by omega) (by omega) hf
  by_cases c : wrap64 (y.f4 + x.f4) > 1000000
  · refine .inl ⟨c, Ev.bind er ?_, head _ ?_⟩
    · simp only [hrd]
      exact ev_neg (by omega) (ev_pos (by omega) (ev_pos (by omega) (ev_pos c (Ev.now _))))
    · refine Ev.step (fun k => by rw [impl_bring.l0]) ?_
      simp only [hrd, hw, Option.bind_some, show impl_Cell_where.f x.f0 x.f1 x.f2 x.f3 x.f4 x.f5 = some (x.f0, x.f1, x.f2) from rfl]
      exact ev_pos (by omega) (ev_pos (by omega) (ev_pos (by omega) (ev_pos ((same_iff _ _).2 hs) (ev_pos c (Ev.now _)))))
  · refine .inr ⟨c, Ev.bind er ?_, head _ ?_⟩
    · simp only [hrd, Int.toNat_natCast]
      exact ev_neg (by omega) (ev_pos (by omega) (ev_pos (by omega) (ev_neg c (Ev.now _))))
    · refine Ev.step (fun k => by rw [impl_bring.l0]) ?_
      simp only [hrd, hw, Option.bind_some, Int.toNat_natCast, show impl_Cell_where.f x.f0 x.f1 x.f2 x.f3 x.f4 x.f5 = some (x.f0, x.f1, x.f2) from rfl]
      exact ev_pos (by omega) (ev_pos (by omega) (ev_pos (by omega) (ev_pos ((same_iff _ _).2 hs) (ev_neg c (Ev.now _)))))
theorem first_of (l : List CC) (x : CC) : (∀ y ∈ l, ¬ Same y x) ∨ ∃ (i : Nat) (y : CC), l[i]? = some y ∧ Same y x ∧ ∀ (j : Nat) z, j < i → l[j]? = some z → ¬ Same z x := by
  induction l with
  | nil => exact .inl (fun y hy => by cases hy)
  | cons a l ih =>
    by_cases c : Same a x
    · exact .inr ⟨0, a, rfl, c, fun j z h => by omega⟩
    · rcases ih with h | ⟨i, y, hy, hs, hf⟩
      · exact .inl (fun y hy => by rcases List.mem_cons.1 hy with h2 | h2; rw [h2]; exact c; exact h y h2)
      · refine .inr ⟨i + 1, y, by simpa using hy, hs, fun j z hj hz => ?_⟩
        cases j with
        | zero => simp at hz; rw [← hz]; exact c
        | succ j => exact hf j z (by omega) (by simpa using hz)
theorem impl_copy_eq (l : List CC) (hl : (l.length : Int) ≤ 1048576) : impl_copyStock.f l = some l := by
  unfold impl_copyStock.f
  simp only [Option.bind_some, List.nil_append]
  exact if_pos (by simp; omega)
theorem spec_copy_eq (l : List CC) (hl : (l.length : Int) ≤ 1048576) : spec_l15Copy.f l = some l := by
  unfold spec_l15Copy.f
  simp only [Option.bind_some, List.nil_append]
  exact if_pos (by simp; omega)
theorem BC_set {l : List CC} {i : Nat} {y : CC} (h : BC l) (hy : B117 1048576 y) : BC (l.set i y) := by
  refine ⟨by rw [List.length_set]; exact h.1, fun z hz => ?_⟩
  rcases List.mem_or_eq_of_mem_set hz with h2 | h2
  · exact h.2 z h2
  · rw [h2]; exact hy
theorem bring_B {l rs : List CC} {x : CC} (h : BC l) (hl : (l.length : Int) ≤ 100) (hx : B117 1048576 x) (hr : (rs = l ++ [x] ∧ (l.length : Int) < 100 ∧ ∀ y ∈ l, ¬ Same y x) ∨ ∃ (i : Nat) (y : CC), l[i]? = some y ∧ Same y x ∧ rs = l.set i (more y x.f4) ∧ ¬ wrap64 (y.f4 + x.f4) > 1000000) : BC rs := by
  rcases hr with ⟨rfl, _, _⟩ | ⟨i, y, hy, _, rfl, _⟩
  · refine ⟨by simp; omega, fun z hz => ?_⟩
    rcases List.mem_append.1 hz with h2 | h2
    · exact h.2 z h2
    · rw [List.mem_singleton.1 h2]; exact hx
  · have := h.2 y (List.mem_of_getElem? hy)
    exact BC_set h this
def less1 (y : CC) (q : Int) : CC := ⟨y.f0, y.f1, y.f2, y.f3, wrap64 (y.f4 - q), y.f5⟩
/-- There is no room for it. -/
def Full (l : List CC) (x : CC) : Prop := ((l.length : Int) ≥ 100 ∧ ∀ y ∈ l, ¬ Same y x) ∨ ∃ (j : Nat) (y : CC), l[j]? = some y ∧ Same y x ∧ wrap64 (y.f4 + x.f4) > 1000000
/-- One side takes away ahead of bringing, the other behind it. -/
theorem bring_two (l : List CC) (i : Nat) (hi : i < l.length) (q : Int) (x : CC) (h100 : (l.length : Int) ≤ 100) (hnx : ¬ Same l[i] x) :
    ∃ (b : Bool) (rs ri : List CC), Ev (fun k => spec_l15Add.f k l x.f0 x.f1 x.f2 x.f3 x.f4 x.f5) (rs, b) ∧ Ev (fun k => impl_bring.f k (l.set i (less1 l[i] q)) x.f0 x.f1 x.f2 x.f3 x.f4 x.f5) (ri, b) ∧
    (b = true → rd_T117 rs (i : Int) = l[i] ∧ ri = rs.set i (less1 l[i] q) ∧ (i : Int) < (rs.length : Int) ∧ ((rs = l ++ [x] ∧ (l.length : Int) < 100 ∧ ∀ y ∈ l, ¬ Same y x) ∨ ∃ (i : Nat) (y : CC), l[i]? = some y ∧ Same y x ∧ rs = l.set i (more y x.f4) ∧ ¬ wrap64 (y.f4 + x.f4) > 1000000)) ∧ (b = false → Full l x) := by
  have hsl : ((l.set i (less1 l[i] q)).length : Int) ≤ 100 := by rw [List.length_set]; exact h100
  have hset : ∀ (j : Nat) z, (l.set i (less1 l[i] q))[j]? = some z → Same z x → j ≠ i ∧ l[j]? = some z := by
    intro j z hz hs
    by_cases c : j = i
    · subst c
      rw [List.getElem?_set_self hi] at hz
      injection hz with hz
      rw [← hz] at hs
      exact absurd hs hnx
    · rw [List.getElem?_set_ne (Ne.symm c)] at hz
      exact ⟨c, hz⟩
  rcases first_of l x with hn | ⟨j, y, hy, hs, hf⟩
  · have hn' : ∀ y ∈ l.set i (less1 l[i] q), ¬ Same y x := by
      intro y hy hs
      obtain ⟨j, hj⟩ := List.getElem?_of_mem hy
      exact hn y (List.mem_of_getElem? (hset j y hj hs).2) hs
    rcases bring_none l x h100 hn with ⟨c, h1, _⟩ | ⟨c, h1, _⟩
    · rcases bring_none _ x hsl hn' with ⟨_, _, h2⟩ | ⟨c2, _, _⟩
      · exact ⟨false, _, _, h1, h2, fun h => (by cases h), fun _ => .inl ⟨c, hn⟩⟩
      · rw [List.length_set] at c2; omega
    · rcases bring_none _ x hsl hn' with ⟨c2, _, _⟩ | ⟨_, _, h2⟩
      · rw [List.length_set] at c2; omega
      · refine ⟨true, _, _, h1, h2, fun _ => ⟨?_, ?_, by simp; omega, .inl ⟨rfl, c, hn⟩⟩, fun h => (by cases h)⟩
        · unfold rd_T117
          rw [Int.toNat_natCast, getD_at (by simp; omega), List.getElem_append_left hi]
        · rw [List.set_append_left _ _ hi]
  · have hji : j ≠ i := by
      intro h
      subst h
      have : l[j] = y := (List.getElem?_eq_some_iff.1 hy).2
      rw [this] at hnx
      exact hnx hs
    have hjl : j < l.length := (List.getElem?_eq_some_iff.1 hy).1
    have hy' : (l.set i (less1 l[i] q))[j]? = some y := by rw [List.getElem?_set_ne (Ne.symm hji)]; exact hy
    have hf' : ∀ (p : Nat) z, p < j → (l.set i (less1 l[i] q))[p]? = some z → ¬ Same z x := fun p z hp hz hsz => hf p z hp (hset p z hz hsz).2 hsz
    rcases bring_some l x h100 j y hy hs hf with ⟨c, h1, _⟩ | ⟨c, h1, _⟩
    · rcases bring_some _ x hsl j y hy' hs hf' with ⟨_, _, h2⟩ | ⟨c2, _, _⟩
      · exact ⟨false, _, _, h1, h2, fun h => (by cases h), fun _ => .inr ⟨j, y, hy, hs, c⟩⟩
      · exact absurd c c2
    · rcases bring_some _ x hsl j y hy' hs hf' with ⟨c2, _, _⟩ | ⟨_, _, h2⟩
      · exact absurd c2 c
      · refine ⟨true, _, _, h1, h2, fun _ => ⟨?_, ?_, by simp; omega, .inr ⟨j, y, hy, hs, rfl, c⟩⟩, fun h => (by cases h)⟩
        · unfold rd_T117
          rw [Int.toNat_natCast, getD_at (by simp; omega), List.getElem_set_ne hji]
        · exact List.set_comm _ _ (Ne.symm hji)
/-- Why nothing is moved (2). -/
def Why (l : List CC) (a : Int) (place : ByteArray) (q : Int) : Prop := ¬ (0 ≤ a ∧ a ≤ (l.length : Int) - 1) ∨ ¬ NameIs place ∨ (rd_T117 l a).f1 = place ∨ ¬ (0 ≤ q ∧ q ≤ 1000000)
/-- The cell that comes to the place. -/
def moved (l : List CC) (a : Int) (place : ByteArray) (q : Int) : CC := ⟨(rd_T117 l a).f0, place, (rd_T117 l a).f2, (rd_T117 l a).f3, q, 0⟩
def Brought (l : List CC) (x : CC) (rs : List CC) : Prop := (rs = l ++ [x] ∧ (l.length : Int) < 100 ∧ ∀ y ∈ l, ¬ Same y x) ∨ ∃ (i : Nat) (y : CC), l[i]? = some y ∧ Same y x ∧ rs = l.set i (more y x.f4) ∧ ¬ wrap64 (y.f4 + x.f4) > 1000000
/-- What became of a move. -/
def Out (l : List CC) (a : Int) (place : ByteArray) (q : Int) (r : List CC) (n : Int) : Prop :=
  (n = 1 ∧ r = [] ∧ ¬ StockIs l) ∨ (n = 2 ∧ StockIs l ∧ r = l ∧ Why l a place q) ∨ (n = 3 ∧ StockIs l ∧ r = l ∧ (rd_T117 l a).f4 - (rd_T117 l a).f5 < q) ∨ (n = 4 ∧ StockIs l ∧ r = l ∧ Full l (moved l a place q)) ∨
  (n = 0 ∧ StockIs l ∧ ∃ i : Nat, a = (i : Int) ∧ i < l.length ∧ NameIs place ∧ (rd_T117 l a).f1 ≠ place ∧ 0 ≤ q ∧ q ≤ 1000000 ∧ q ≤ (rd_T117 l a).f4 - (rd_T117 l a).f5 ∧ ∃ rs, Brought l (moved l a place q) rs ∧ r = rs.set i (less1 (rd_T117 l a) q))
/-- Both sides move a quantity to a place, or tell the same reason why not. -/
theorem move_out (l : List CC) (a : Int) (place : ByteArray) (q : Int) (hl : BC l) (hp : (place.size : Int) ≤ 1048576) : ∃ (r : List CC) (n : Int), Ev (fun k => spec_Move.f k l a place q) (r, n) ∧ Ev (fun k => impl_Move.f k l a place q) (r, n) ∧ BC r ∧ Out l a place q r n := by
  have hl1 := hl.1
  obtain ⟨b, e1, p1⟩ := spec_stock_ev l hl
  obtain ⟨b', e2, p2⟩ := impl_stock_ev l hl
  have hbb : b = b' := bool_of_iff p1 p2
  subst hbb
  obtain ⟨m, f1, g1⟩ := spec_NameOk_ev place hp
  obtain ⟨m', f2, g2⟩ := impl_NameOk_ev place
  have hmm : m = m' := bool_of_iff g1 g2
  subst hmm
  unfold spec_Move.f impl_Move.f
  by_cases c : b = true
  case neg => exact ⟨[], 1, Ev.bind e1 (ev_neg c (Ev.now _)), Ev.bind e2 (ev_neg c (Ev.now _)), ⟨by simp, fun y hy => by cases hy⟩, .inl ⟨rfl, rfl, fun h => c (p1.2 h)⟩⟩
  have hs := p1.1 c
  have h100 := hs.1
  have hw1 : wrap64 ((l.length : Int) - 1) = (l.length : Int) - 1 := wrap_id (by omega) (by omega)
  have sT : Ev (fun k => spec_Move.j0 k l a place q true) (l, 2) := by
    refine Ev.step (fun k => by rw [spec_Move.j0]) ?_
    exact ev_pos rfl (ev_bind0 (spec_copy_eq l hl1) (Ev.now _))
  have iT : Ev (fun k => impl_Move.j0 k l a place q true) (l, 2) := by
    refine Ev.step (fun k => by rw [impl_Move.j0]) ?_
    exact ev_pos rfl (ev_bind0 (impl_copy_eq l hl1) (Ev.now _))
  simp only [hw1, spec_l1In_eq, spec_l12Qty_eq, impl_quantity_eq, Option.bind_some, decide_eq_true_eq]
  by_cases ca : 0 ≤ a ∧ a ≤ (l.length : Int) - 1
  case neg =>
    refine ⟨l, 2, Ev.bind e1 (ev_pos c (ev_neg ca sT)), Ev.bind e2 (ev_pos c ?_), hl, .inr (.inl ⟨rfl, hs, rfl, .inl ca⟩)⟩
    by_cases c2 : a < 0
    · exact ev_pos c2 iT
    · exact ev_neg c2 (ev_pos (by omega) iT)
  obtain ⟨i, rfl⟩ : ∃ i : Nat, a = (i : Int) := ⟨a.toNat, by omega⟩
  have hi : i < l.length := by omega
  have hrd : rd_T117 l (i : Int) = l[i] := getD_at hi _
  have hg : l[i]? = some l[i] := List.getElem?_eq_getElem hi
  have hBi := hl.2 _ (List.getElem_mem hi)
  have hci := (hs.2 i hi).1
  have hun : ∀ (j : Nat) y, l[j]? = some y → Same y l[i] → j = i := by
    intro j y hy hsm
    rcases Nat.lt_trichotomy j i with h | h | h
    · exact absurd hsm ((hs.2 i hi).2 j y h hy)
    · exact h
    · have hj : j < l.length := (List.getElem?_eq_some_iff.1 hy).1
      have hyj : l[j] = y := (List.getElem?_eq_some_iff.1 hy).2
      have := (hs.2 j hj).2 i l[i] h hg
      rw [hyj] at this
      exact absurd ⟨hsm.1.symm, hsm.2.1.symm, hsm.2.2.symm⟩ this
  by_cases cm : m = true
  case neg => exact ⟨l, 2, Ev.bind e1 (ev_pos c (ev_pos ca (Ev.bind f1 (ev_neg cm sT)))), Ev.bind e2 (ev_pos c (ev_neg (by omega) (ev_neg (by omega) (Ev.bind f2 (ev_neg cm iT))))), hl, .inr (.inl ⟨rfl, hs, rfl, .inr (.inl fun h => cm (g1.2 h))⟩)⟩
  simp only [hrd, str_iff]
  by_cases cp : l[i].f1 = place
  · exact ⟨l, 2, Ev.bind e1 (ev_pos c (ev_pos ca (Ev.bind f1 (ev_pos cm (ev_pos (by omega) (ev_pos (by omega) (ev_pos cp sT))))))), Ev.bind e2 (ev_pos c (ev_neg (by omega) (ev_neg (by omega) (Ev.bind f2 (ev_pos cm (ev_pos (by omega) (ev_pos (by omega) (ev_pos cp.symm iT)))))))), hl, .inr (.inl ⟨rfl, hs, rfl, .inr (.inr (.inl (by rw [hrd]; exact cp)))⟩)⟩
  have cp' : ¬ place = l[i].f1 := fun h => cp h.symm
  have sH : ∀ r bad, (!decide (0 ≤ q ∧ q ≤ 1000000)) = bad → Ev (fun k => spec_Move.j0 k l (i : Int) place q bad) r → Ev (fun k => (spec_StockOk.f k l).bind fun t179 => if t179 = true then if 0 ≤ (i : Int) ∧ (i : Int) ≤ (l.length : Int) - 1 then (spec_NameOk.f k place).bind fun t184 => if t184 = true then if 0 ≤ (i : Int) then if (i : Int) < (l.length : Int) then if l[i].f1 = place then spec_Move.j0 k l (i : Int) place q true else spec_Move.j0 k l (i : Int) place q (!decide (0 ≤ q ∧ q ≤ 1000000)) else none else none else spec_Move.j0 k l (i : Int) place q true else spec_Move.j0 k l (i : Int) place q true else some ([], 1)) r := by
    intro r bad hb hr
    subst hb
    exact Ev.bind e1 (ev_pos c (ev_pos ca (Ev.bind f1 (ev_pos cm (ev_pos (by omega) (ev_pos (by omega) (ev_neg cp hr)))))))
  have iH : ∀ r bad, (!decide (0 ≤ q ∧ q ≤ 1000000)) = bad → Ev (fun k => impl_Move.j0 k l (i : Int) place q bad) r → Ev (fun k => (impl_StockOk.f k l).bind fun t258 => if t258 = true then if (i : Int) < 0 then impl_Move.j0 k l (i : Int) place q true else if (i : Int) ≥ (l.length : Int) then impl_Move.j0 k l (i : Int) place q true else (impl_NameOk.f k place).bind fun t259 => if t259 = true then if 0 ≤ (i : Int) then if (i : Int) < (l.length : Int) then if place = l[i].f1 then impl_Move.j0 k l (i : Int) place q true else impl_Move.j0 k l (i : Int) place q (!decide (0 ≤ q ∧ q ≤ 1000000)) else none else none else impl_Move.j0 k l (i : Int) place q true else some ([], 1)) r := by
    intro r bad hb hr
    subst hb
    exact Ev.bind e2 (ev_pos c (ev_neg (by omega) (ev_neg (by omega) (Ev.bind f2 (ev_pos cm (ev_pos (by omega) (ev_pos (by omega) (ev_neg cp' hr))))))))
  by_cases cq : 0 ≤ q ∧ q ≤ 1000000
  case neg => exact ⟨l, 2, sH _ true (by rw [decide_eq_false cq]; rfl) sT, iH _ true (by rw [decide_eq_false cq]; rfl) iT, hl, .inr (.inl ⟨rfl, hs, rfl, .inr (.inr (.inr cq))⟩)⟩
  have eb : (!decide (0 ≤ q ∧ q ≤ 1000000)) = false := by rw [decide_eq_true cq]; rfl
  obtain ⟨_, _, _, _, ⟨k0, k1⟩, ⟨d0, d1⟩⟩ := hci
  have hw2 : wrap64 (l[i].f4 - l[i].f5) = l[i].f4 - l[i].f5 := wrap_id (by omega) (by omega)
  by_cases cs : l[i].f4 - l[i].f5 < q
  · refine ⟨l, 3, sH _ false eb ?_, iH _ false eb ?_, hl, .inr (.inr (.inl ⟨rfl, hs, rfl, by rw [hrd]; exact cs⟩))⟩
    · refine Ev.step (fun k => by rw [spec_Move.j0]) ?_
      simp only [hrd, hw2]
      exact ev_neg (by simp) (ev_pos (by omega) (ev_pos (by omega) (ev_pos cs (ev_bind0 (spec_copy_eq l hl1) (Ev.now _)))))
    · refine Ev.step (fun k => by rw [impl_Move.j0]) ?_
      simp only [hrd, hw2]
      exact ev_neg (by simp) (ev_pos (by omega) (ev_pos (by omega) (ev_pos (by omega) (ev_bind0 (impl_copy_eq l hl1) (Ev.now _)))))
  -- the cell that comes to the place, and the stock from which it is taken
  have hlt : (i : Int) < (l.length : Int) := by omega
  have hge : 0 ≤ (i : Int) := by omega
  have hnx : ¬ Same l[i] (⟨l[i].f0, place, l[i].f2, l[i].f3, q, 0⟩ : CC) := fun h => cp h.2.1
  have hbx : B117 1048576 (⟨l[i].f0, place, l[i].f2, l[i].f3, q, 0⟩ : CC) := ⟨hBi.1, hp, hBi.2.2⟩
  have key := bring_two l i hi q (⟨l[i].f0, place, l[i].f2, l[i].f3, q, 0⟩ : CC) h100 hnx
  obtain ⟨t, rs, rt, hA, hBr, hrel, hfull⟩ := key
  have sJ : ∀ r, Ev (fun k => (spec_l15Add.f k l l[i].f0 place l[i].f2 l[i].f3 q 0).bind fun bt200 => if bt200.2 = true then if (i : Int) < (bt200.1.length : Int) then some (bt200.1.set i (⟨(rd_T117 bt200.1 (i : Int)).f0, (rd_T117 bt200.1 (i : Int)).f1, (rd_T117 bt200.1 (i : Int)).f2, (rd_T117 bt200.1 (i : Int)).f3, wrap64 ((rd_T117 bt200.1 (i : Int)).f4 - q), (rd_T117 bt200.1 (i : Int)).f5⟩ : CC), 0) else none else (spec_l15Copy.f l).bind fun t206 => some (t206, 4)) r → Ev (fun k => spec_Move.j0 k l (i : Int) place q false) r := by
    intro r hr
    refine Ev.step (fun k => by rw [spec_Move.j0]) ?_
    simp only [hrd, hw2, Int.toNat_natCast]
    exact ev_neg (by simp) (ev_pos hge (ev_pos hlt (ev_neg cs (ev_bind0 (spec_copy_eq l hl1) hr))))
  have iJ : ∀ r, Ev (fun k => (impl_bring.f k (l.set i (less1 l[i] q)) l[i].f0 place l[i].f2 l[i].f3 q 0).bind fun bt275 => if bt275.2 = true then some (bt275.1, 0) else (impl_copyStock.f l).bind fun t279 => some (t279, 4)) r → Ev (fun k => impl_Move.j0 k l (i : Int) place q false) r := by
    intro r hr
    refine Ev.step (fun k => by rw [impl_Move.j0]) ?_
    simp only [hrd, hw2]
    refine ev_neg (by simp) (ev_pos hge (ev_pos hlt (ev_neg (by omega) (ev_bind0 (impl_copy_eq l hl1) (ev_pos hlt ?_)))))
    simp only [hrd, Int.toNat_natCast]
    exact hr
  cases t with
  | false =>
    refine ⟨l, 4, sH _ false eb (sJ _ ?_), iH _ false eb (iJ _ ?_), hl, .inr (.inr (.inr (.inl ⟨rfl, hs, rfl, by unfold moved; rw [hrd]; exact hfull rfl⟩)))⟩
    · exact Ev.bind hA (ev_neg (by simp) (ev_bind0 (spec_copy_eq l hl1) (Ev.now _)))
    · exact Ev.bind hBr (ev_neg (by simp) (ev_bind0 (impl_copy_eq l hl1) (Ev.now _)))
  | true =>
    obtain ⟨hri, hrt, hlen, hshape⟩ := hrel rfl
    have hBrs : BC rs := bring_B hl h100 hbx hshape
    refine ⟨rs.set i (less1 l[i] q), 0, sH _ false eb (sJ _ ?_), iH _ false eb (iJ _ ?_), BC_set hBrs hBi, .inr (.inr (.inr (.inr ⟨rfl, hs, i, rfl, hi, g1.1 cm, by rw [hrd]; exact cp, cq.1, cq.2, by rw [hrd]; omega, rs, by unfold moved; rw [hrd]; exact hshape, by rw [hrd]⟩)))⟩
    · have hr2 : rd_T117 rs (i : Int) = l[i] := hri
      refine Ev.bind hA (ev_pos rfl (ev_pos (by omega) ?_))
      simp only [hr2]
      exact Ev.now _
    · rw [hrt] at hBr
      exact Ev.bind hBr (ev_pos rfl (Ev.now _))
theorem rd_of {l : List CC} {i : Nat} (hi : i < l.length) : rd_T117 l (i : Int) = l[i] := getD_at hi _
theorem same_refl (y : CC) : Same y y := ⟨rfl, rfl, rfl⟩
theorem same_symm {y x : CC} (h : Same y x) : Same x y := ⟨h.1.symm, h.2.1.symm, h.2.2.symm⟩
theorem same_trans {y x z : CC} (h : Same y x) (g : Same x z) : Same y z := ⟨h.1.trans g.1, h.2.1.trans g.2.1, h.2.2.trans g.2.2⟩
theorem one_at {l : List CC} (h : StockIs l) {i j : Nat} {y z : CC} (hi : l[i]? = some y) (hj : l[j]? = some z) (hs : Same y z) : i = j := by
  have hil := (List.getElem?_eq_some_iff.1 hi).1
  have hjl := (List.getElem?_eq_some_iff.1 hj).1
  have ei := (List.getElem?_eq_some_iff.1 hi).2
  have ej := (List.getElem?_eq_some_iff.1 hj).2
  rcases Nat.lt_trichotomy i j with c | c | c
  · exact absurd (by rw [ej]; exact hs) ((h.2 j hjl).2 i y c hi)
  · exact c
  · exact absurd (by rw [ei]; exact same_symm hs) ((h.2 i hil).2 j z c hj)
theorem StockIs_set {l : List CC} (h : StockIs l) {i : Nat} {y z : CC} (hi : l[i]? = some y) (hs : Same z y) (hz : CellIs z) : StockIs (l.set i z) := by
  refine ⟨by rw [List.length_set]; exact h.1, fun p hp => ?_⟩
  have hpl : p < l.length := by rw [List.length_set] at hp; exact hp
  have back : ∀ (q : Nat) w, (l.set i z)[q]? = some w → ∃ w', l[q]? = some w' ∧ Same w w' := by
    intro q w hw
    by_cases c : i = q
    · subst c
      rw [List.getElem?_set_self (List.getElem?_eq_some_iff.1 hi).1] at hw
      injection hw with hw
      exact ⟨y, hi, by rw [← hw]; exact hs⟩
    · rw [List.getElem?_set_ne c] at hw
      exact ⟨w, hw, same_refl w⟩
  obtain ⟨w', hw', hsw⟩ := back p (l.set i z)[p] (List.getElem?_eq_getElem hp)
  refine ⟨?_, fun j y hj hy hsy => ?_⟩
  · by_cases c : i = p
    · subst c
      rw [List.getElem_set_self]
      exact hz
    · rw [List.getElem_set_ne c]
      exact (h.2 p hpl).1
  · obtain ⟨y', hy', hs'⟩ := back j y hy
    have := one_at h hy' hw' (same_trans (same_symm hs') (same_trans hsy hsw))
    omega
theorem StockIs_add {l : List CC} (h : StockIs l) {x : CC} (hl : (l.length : Int) < 100) (hx : CellIs x) (hn : ∀ y ∈ l, ¬ Same y x) : StockIs (l ++ [x]) := by
  refine ⟨by simp; omega, fun p hp => ?_⟩
  by_cases c : p < l.length
  · rw [List.getElem_append_left c]
    refine ⟨(h.2 p c).1, fun j y hj hy => ?_⟩
    rw [List.getElem?_append_left (by omega)] at hy
    exact (h.2 p c).2 j y hj hy
  · have : p = l.length := by simp at hp; omega
    subst this
    rw [List.getElem_append_right (Nat.le_refl _)]
    simp only [Nat.sub_self, List.getElem_singleton]
    refine ⟨hx, fun j y hj hy => ?_⟩
    rw [List.getElem?_append_left hj] at hy
    exact hn y (List.mem_of_getElem? hy)
/-- How much a list has of an item. -/
def own (f : CC → Int) (it : ByteArray) (y : CC) : Int := if y.f0 = it then f y else 0
def have_ (f : CC → Int) (it : ByteArray) (l : List CC) : Int := (l.map (own f it)).sum
theorem have_add (f : CC → Int) (it : ByteArray) (l : List CC) (x : CC) : have_ f it (l ++ [x]) = have_ f it l + own f it x := by
  unfold have_
  rw [List.map_append, List.sum_append]
  simp
theorem have_set (f : CC → Int) (it : ByteArray) : ∀ (l : List CC) (i : Nat) (y z : CC), l[i]? = some y → have_ f it (l.set i z) = have_ f it l - own f it y + own f it z := by
  intro l
  induction l with
  | nil => intro i y z h; cases h
  | cons a l ih =>
    intro i y z h
    unfold have_
    cases i with
    | zero =>
      simp at h
      subst h
      simp only [List.set_cons_zero, List.map_cons, List.sum_cons]
      omega
    | succ i =>
      have := ih i y z (by simpa using h)
      unfold have_ at this
      simp only [List.set_cons_succ, List.map_cons, List.sum_cons, this]
      omega
theorem have_take (f : CC → Int) (it : ByteArray) (l : List CC) (i : Nat) (hi : i < l.length) : have_ f it (l.take (i + 1)) = have_ f it (l.take i) + own f it l[i] := by
  rw [List.take_succ_eq_append_getElem hi, have_add]
theorem have_bound (f : CC → Int) (it : ByteArray) : ∀ l : List CC, (∀ y ∈ l, 0 ≤ f y ∧ f y ≤ 1000000) → 0 ≤ have_ f it l ∧ have_ f it l ≤ l.length * 1000000 := by
  intro l
  induction l with
  | nil => intro _; exact ⟨by simp [have_], by simp [have_]⟩
  | cons a l ih =>
    intro h
    have h1 := h a (by simp)
    have h2 := ih (fun y hy => h y (by simp [hy]))
    unfold have_ own at *
    rw [List.map_cons, List.sum_cons, List.length_cons]
    split <;> omega
theorem cellSum_ev (l : List CC) (it : ByteArray) (h : StockIs l) : Ev (fun k => laws_cellSum.f k l it) (have_ (fun y => y.f4) it l, have_ (fun y => y.f5) it l) := by
  have h100 := h.1
  have hq : ∀ y ∈ l, 0 ≤ y.f4 ∧ y.f4 ≤ 1000000 := fun y hy => by
    obtain ⟨i, hi, rfl⟩ := List.getElem_of_mem hy
    exact (h.2 i hi).1.2.2.2.2.1
  have hh : ∀ y ∈ l, 0 ≤ y.f5 ∧ y.f5 ≤ 1000000 := fun y hy => by
    obtain ⟨i, hi, rfl⟩ := List.getElem_of_mem hy
    have h1 := (h.2 i hi).1.2.2.2.2.1
    have h2 := (h.2 i hi).1.2.2.2.2.2
    omega
  have go : ∀ (d i : Nat), i + d = l.length → Ev (fun k => laws_cellSum.l0 k l it (have_ (fun y => y.f4) it (l.take i)) (have_ (fun y => y.f5) it (l.take i)) (i : Int)) (have_ (fun y => y.f4) it l, have_ (fun y => y.f5) it l) := by
    intro d
    induction d with
    | zero =>
      intro i hd
      rw [List.take_of_length_le (by omega)]
      refine Ev.step (fun k => by rw [laws_cellSum.l0]) ?_
      exact ev_neg (by omega) (Ev.now _)
    | succ d ih =>
      intro i hd
      have hi : i < l.length := by omega
      have hrd := rd_of hi
      have hn := ih (i + 1) (by omega)
      have b1 := have_bound (fun y => y.f4) it (l.take (i + 1)) (fun y hy => hq y (List.mem_of_mem_take hy))
      have b2 := have_bound (fun y => y.f5) it (l.take (i + 1)) (fun y hy => hh y (List.mem_of_mem_take hy))
      rw [List.length_take] at b1 b2
      rw [have_take _ it l i hi] at b1 b2
      rw [have_take _ it l i hi, have_take _ it l i hi] at hn
      refine Ev.step (fun k => by rw [laws_cellSum.l0]) ?_
      simp only [hrd, str_iff, wrap_succ hi (show l.length ≤ 9223372036854775807 by omega)]
      by_cases c : l[i].f0 = it
      · unfold own at hn b1 b2
        rw [if_pos c] at b1 b2
        rw [if_pos c, if_pos c] at hn
        replace b1 : 0 ≤ have_ (fun y => y.f4) it (l.take i) + l[i].f4 ∧ have_ (fun y => y.f4) it (l.take i) + l[i].f4 ≤ (min (i + 1) l.length : Nat) * 1000000 := b1
        replace b2 : 0 ≤ have_ (fun y => y.f5) it (l.take i) + l[i].f5 ∧ have_ (fun y => y.f5) it (l.take i) + l[i].f5 ≤ (min (i + 1) l.length : Nat) * 1000000 := b2
        rw [wrap_id (x := have_ (fun y => y.f4) it (l.take i) + l[i].f4) (by omega) (by omega), wrap_id (x := have_ (fun y => y.f5) it (l.take i) + l[i].f5) (by omega) (by omega)]
        exact ev_pos (by omega) (ev_pos (by omega) (ev_pos c hn))
      · unfold own at hn
        rw [if_neg c, if_neg c, Int.add_zero, Int.add_zero] at hn
        exact ev_pos (by omega) (ev_pos (by omega) (ev_neg c hn))
  have := go l.length 0 (by omega)
  unfold laws_cellSum.f
  exact this
/-! ### Draws -/
theorem and255 (n : Int) : Go.bits .and .i64 n 255 = n % 256 := by
  have h255 : (BitVec.ofInt 64 255).toNat = 2 ^ 8 - 1 := by decide
  have key : (BitVec.ofInt 64 n &&& BitVec.ofInt 64 255).toNat = (n % ((2 ^ 64 : Nat) : Int)).toNat % 2 ^ 8 := by
    rw [BitVec.toNat_and, BitVec.toNat_ofInt, h255, Nat.and_two_pow_sub_one_eq_mod]
  show IntKind.i64.wrap ((BitVec.ofInt 64 n &&& BitVec.ofInt 64 255).toNat : Nat) = n % 256
  rw [key, IntKind.wrap_i64]
  omega
/-- A draw's state: where it stands in its bytes. -/
def Cu (b : List Int) (i : Int) : Prop := 0 ≤ i ∧ i ≤ (b.length : Int) ∧ (b.length : Int) ≤ 140737488351232
theorem byte_ok (b : List Int) (i h : Int) (hc : Cu b i) : ∃ x i' h', spec_l1Byte.f b i h = some (x, i', h') ∧ 0 ≤ x ∧ x ≤ 255 ∧ Cu b i' := by
  obtain ⟨h0, h1, h2⟩ := hc
  unfold spec_l1Byte.f
  simp only [and255]
  by_cases c : i < (b.length : Int)
  · rw [if_pos c, if_pos h0]
    refine ⟨_, _, _, rfl, Int.emod_nonneg _ (by decide), ?_, ?_⟩
    · have := Int.emod_lt_of_pos (wrap64 (Go.bits .xor .i64 ((wrap64 ((wrap64 (h * 6364136223846793005)) + 1442695040888963407)) / 8589934592) ((wrap64 ((wrap64 (h * 6364136223846793005)) + 1442695040888963407)) / 35184372088832) % 256 + (wrap64 (rd b i)))) (show (0 : Int) < 256 by decide)
      exact Int.le_of_lt_add_one this
    · rw [wrap_id (by omega) (by omega)]
      exact ⟨by omega, by omega, h2⟩
  · rw [if_neg c]
    refine ⟨_, _, _, rfl, Int.emod_nonneg _ (by decide), ?_, h0, h1, h2⟩
    exact Int.le_of_lt_add_one (Int.emod_lt_of_pos _ (show (0 : Int) < 256 by decide))
theorem below_ok (b : List Int) (i h n : Int) (hc : Cu b i) : ∃ x i' h', spec_l1Below.f b i h n = some (x, i', h') ∧ Cu b i' ∧ 0 ≤ x ∧ (0 < n → x < n) ∧ (n ≤ 0 → x = 0) := by
  unfold spec_l1Below.f
  by_cases c0 : n ≤ 0
  · exact ⟨0, i, h, if_pos c0, hc, by decide, fun h => by omega, fun _ => rfl⟩
  rw [if_neg c0]
  obtain ⟨x1, i1, h1, e1, a1, b1, c1⟩ := byte_ok b i h hc
  by_cases c : n ≤ 256
  · rw [if_pos c, e1, Option.bind_some, if_neg (by omega)]
    exact ⟨_, _, _, rfl, c1, Int.tmod_nonneg _ a1, fun _ => Int.tmod_lt_of_pos _ (by omega), fun h => absurd h c0⟩
  · obtain ⟨x2, i2, h2, e2, a2, b2, c2⟩ := byte_ok b i1 h1 c1
    obtain ⟨x3, i3, h3, e3, a3, b3, c3⟩ := byte_ok b i2 h2 c2
    obtain ⟨x4, i4, h4, e4, a4, b4, c4⟩ := byte_ok b i3 h3 c3
    rw [if_neg c, e1, Option.bind_some, e2, Option.bind_some, e3, Option.bind_some, e4, Option.bind_some, if_neg (by omega)]
    refine ⟨_, _, _, rfl, c4, Int.tmod_nonneg _ ?_, fun _ => Int.tmod_lt_of_pos _ (by omega), fun h => absurd h c0⟩
    rw [wrap_id (x := x1 * 16777216) (by omega) (by omega), wrap_id (x := x2 * 65536) (by omega) (by omega), wrap_id (x := x3 * 256) (by omega) (by omega), wrap_id (x := x1 * 16777216 + x2 * 65536) (by omega) (by omega), wrap_id (x := x1 * 16777216 + x2 * 65536 + x3 * 256) (by omega) (by omega), wrap_id (by omega) (by omega)]
    omega
theorem once_ok (b : List Int) (i h n : Int) (hc : Cu b i) : ∃ (v : Bool) (i' h' : Int), spec_l1Once.f b i h n = some (v, i', h') ∧ Cu b i' := by
  obtain ⟨x, i', h', e, c, _⟩ := below_ok b i h n hc
  unfold spec_l1Once.f
  rw [e]
  exact ⟨_, _, _, rfl, c⟩
theorem pick_ok (b : List Int) (i h : Int) (l : List ByteArray) (hl : 0 < l.length) (hc : Cu b i) : ∃ s i' h', spec_l1Pick.f b i h l = some (s, i', h') ∧ Cu b i' ∧ s ∈ l := by
  obtain ⟨x, i', h', e, c, x0, x1, _⟩ := below_ok b i h (l.length : Int) hc
  have := x1 (by omega)
  unfold spec_l1Pick.f
  rw [e, Option.bind_some, if_pos x0, if_pos this]
  refine ⟨_, _, _, rfl, c, ?_⟩
  have hx : x.toNat < l.length := by omega
  have e2 := rdOf_at hx ByteArray.empty
  rw [show ((x.toNat : Nat) : Int) = x by omega] at e2
  show rdOf ByteArray.empty l x ∈ l
  rw [e2]
  exact List.getElem_mem hx
theorem pickInt_ok (b : List Int) (i h : Int) (l : List Int) (hl : 0 < l.length) (hc : Cu b i) : ∃ s i' h', spec_l1PickInt.f b i h l = some (s, i', h') ∧ Cu b i' ∧ s ∈ l := by
  obtain ⟨x, i', h', e, c, x0, x1, _⟩ := below_ok b i h (l.length : Int) hc
  have := x1 (by omega)
  unfold spec_l1PickInt.f
  rw [e, Option.bind_some, if_pos x0, if_pos this]
  refine ⟨_, _, _, rfl, c, ?_⟩
  have hx : x.toNat < l.length := by omega
  have e2 := rd_at hx
  rw [show ((x.toNat : Nat) : Int) = x by omega] at e2
  show rd l x ∈ l
  rw [e2]
  exact List.getElem_mem hx
theorem spoil_ok (b : List Int) (i h a : Int) (l : List Int) (hl : 0 < l.length) (hc : Cu b i) : ∃ s i' h', spec_l1Spoil.f b i h a l = some (s, i', h') ∧ Cu b i' ∧ (s = a ∨ s ∈ l) := by
  obtain ⟨v, i1, h1, e, c⟩ := once_ok b i h 40 hc
  unfold spec_l1Spoil.f
  rw [e, Option.bind_some]
  by_cases cv : v = true
  · obtain ⟨s, i2, h2, e2, c2, m⟩ := pickInt_ok b i1 h1 l hl c
    rw [if_pos cv, e2]
    exact ⟨_, _, _, rfl, c2, .inr m⟩
  · rw [if_neg cv]
    exact ⟨_, _, _, rfl, c, .inl rfl⟩
theorem name_ok (b : List Int) (i h : Int) (hc : Cu b i) : ∃ s i' h', spec_l1DrawName.f b i h = some (s, i', h') ∧ Cu b i' ∧ (s.size : Int) ≤ 21 := by
  unfold spec_l1DrawName.f
  obtain ⟨s, i1, h1, e, c, m⟩ := pick_ok b i h [(⟨#[98, 97, 110, 107]⟩ : ByteArray), (⟨#[99, 97, 115, 104]⟩ : ByteArray), (⟨#[115, 97, 108, 101, 115]⟩ : ByteArray), (⟨#[115, 116, 111, 99, 107]⟩ : ByteArray), (⟨#[97]⟩ : ByteArray), (⟨#[98]⟩ : ByteArray), (⟨#[99, 45, 49]⟩ : ByteArray), (⟨#[100, 117, 101, 115]⟩ : ByteArray), (⟨#[116, 97, 120, 46, 100, 117, 101]⟩ : ByteArray), (⟨#[82, 50]⟩ : ByteArray), (⟨#[103, 111, 111, 100, 115]⟩ : ByteArray), (⟨#[119, 97, 103, 101, 115]⟩ : ByteArray), (⟨#[114, 101, 110, 116]⟩ : ByteArray), (⟨#[120, 95, 121]⟩ : ByteArray), (⟨#[112, 108, 97, 110, 116]⟩ : ByteArray)] (by decide) hc
  rw [e]
  refine ⟨_, _, _, rfl, c, ?_⟩
  show (s.size : Int) ≤ 21
  clear e
  revert m
  generalize s = t
  intro m
  simp only [List.mem_cons, List.not_mem_nil, or_false] at m
  rcases m with m | m | m | m | m | m | m | m | m | m | m | m | m | m | m <;> (rw [m]; decide)
theorem new_ok (l : List Int) (hl : (l.length : Int) ≤ 140737488351232) : ∃ h, Ev (fun k => spec_l1New.f k l) (l, 0, h) := by
  have go : ∀ (d i : Nat) (h : Int), i + d = l.length → ∃ h', Ev (fun k => spec_l1New.l0 k l h (i : Int)) (l, 0, h') := by
    intro d
    induction d with
    | zero =>
      intro i h hd
      refine ⟨h, Ev.step (fun k => by rw [spec_l1New.l0]) ?_⟩
      exact ev_neg (by omega) (Ev.now _)
    | succ d ih =>
      intro i h hd
      have hw : wrap64 ((i : Int) + 1) = ((i + 1 : Nat) : Int) := wrap_id (by omega) (by omega)
      by_cases c : (i : Int) < 4000
      · obtain ⟨h', hh⟩ := ih (i + 1) (Go.bits .and .i64 (wrap64 ((wrap64 ((wrap64 (h * 131)) + (wrap64 (rd l (i : Int))))) + 7)) 1073741823) (by omega)
        refine ⟨h', Ev.step (fun k => by rw [spec_l1New.l0]) ?_⟩
        simp only [hw]
        exact ev_pos (by omega) (ev_pos c (ev_pos (by omega) hh))
      · refine ⟨h, Ev.step (fun k => by rw [spec_l1New.l0]) ?_⟩
        exact ev_pos (by omega) (ev_neg c (Ev.now _))
  obtain ⟨h, hh⟩ := go l.length 0 (wrap64 (71933 + (l.length : Int))) (by omega)
  exact ⟨h, by unfold spec_l1New.f; exact hh⟩
theorem anyName_ok (b : List Int) (i h : Int) (hc : Cu b i) : ∃ s i' h', spec_l1AnyName.f b i h = some (s, i', h') ∧ Cu b i' ∧ (s.size : Int) ≤ 21 := by
  unfold spec_l1AnyName.f
  obtain ⟨v, i1, h1, e1, c1⟩ := once_ok b i h 20 hc
  rw [e1, Option.bind_some]
  by_cases cv : v = true
  · obtain ⟨s, i2, h2, e2, c2, m⟩ := pick_ok b i1 h1 [(⟨#[]⟩ : ByteArray), (⟨#[97, 32, 98]⟩ : ByteArray), (⟨#[97, 98, 99, 100, 101, 102, 103, 104, 105, 106, 107, 108, 109, 110, 111, 112, 113, 114, 115, 116]⟩ : ByteArray), (⟨#[97, 98, 99, 100, 101, 102, 103, 104, 105, 106, 107, 108, 109, 110, 111, 112, 113, 114, 115, 116, 117]⟩ : ByteArray), (⟨#[255]⟩ : ByteArray), (⟨#[97, 44, 98]⟩ : ByteArray), (⟨#[195, 169]⟩ : ByteArray)] (by decide) c1
    rw [if_pos cv, e2]
    refine ⟨_, _, _, rfl, c2, ?_⟩
    show (s.size : Int) ≤ 21
    clear e2
    revert m
    generalize s = t
    intro m
    simp only [List.mem_cons, List.not_mem_nil, or_false] at m
    rcases m with m | m | m | m | m | m | m <;> (rw [m]; decide)
  · obtain ⟨s, i2, h2, e2, c2, m⟩ := name_ok b i1 h1 c1
    rw [if_neg cv, e2]
    exact ⟨_, _, _, rfl, c2, m⟩
theorem stock_loop (b : List Int) : ∀ (n : Nat) (l : List CC) (i h : Int), (l.length : Int) + n ≤ 500 → BC l → Cu b i → ∃ (l' : List CC) (i' h' : Int), Ev (fun k => spec_l15DrawStock.l0 k l (n : Int) b i h) (l', i', h') ∧ Cu b i' ∧ (l'.length : Int) ≤ 500 ∧ BC l' := by
  intro n
  induction n with
  | zero =>
    intro l i h hn hl hc
    refine ⟨l, i, h, Ev.step (fun k => by rw [spec_l15DrawStock.l0]) ?_, hc, by omega, hl⟩
    exact ev_neg (by omega) (Ev.now _)
  | succ n ih =>
    intro l i h hn hl hc
    obtain ⟨s1, i1, h1, e1, c1, m1⟩ := pick_ok b i h [(⟨#[98, 111, 108, 116]⟩ : ByteArray), ⟨#[110, 117, 116]⟩, ⟨#[114, 111, 100]⟩] (by decide) hc
    obtain ⟨s2, i2, h2, e2, c2, m2⟩ := pick_ok b i1 h1 [(⟨#[97]⟩ : ByteArray), ⟨#[98]⟩, ⟨#[104, 97, 108, 108]⟩] (by decide) c1
    obtain ⟨s3, i3, h3, e3, c3, m3⟩ := pick_ok b i2 h2 [(⟨#[]⟩ : ByteArray), ⟨#[76, 49]⟩, ⟨#[76, 50]⟩] (by decide) c2
    obtain ⟨q4, i4, h4, e4, c4, _⟩ := below_ok b i3 h3 100 c3
    obtain ⟨q5, i5, h5, e5, c5, _⟩ := below_ok b i4 h4 60 c4
    obtain ⟨q6, i6, h6, e6, c6, _⟩ := below_ok b i5 h5 (wrap64 (q5 + 1)) c5
    obtain ⟨q7, i7, h7, e7, c7, w70, w71, _⟩ := below_ok b i6 h6 4 c6
    have w71 := w71 (by decide)
    have hw7 : wrap64 (1 + q7) = 1 + q7 := wrap_id (by omega) (by omega)
    have z1 : (s1.size : Int) ≤ 10 := by
      simp only [List.mem_cons, List.not_mem_nil, or_false] at m1
      rcases m1 with m | m | m <;> (rw [m]; decide)
    have z2 : (s2.size : Int) ≤ 10 := by
      simp only [List.mem_cons, List.not_mem_nil, or_false] at m2
      rcases m2 with m | m | m <;> (rw [m]; decide)
    have z3 : (s3.size : Int) ≤ 10 := by
      simp only [List.mem_cons, List.not_mem_nil, or_false] at m3
      rcases m3 with m | m | m <;> (rw [m]; decide)
    have hw : wrap64 (((n + 1 : Nat) : Int) - 1) = (n : Int) := by rw [wrap_id (by omega) (by omega)]; omega
    obtain ⟨r, er, _⟩ := spec_find_ev l ⟨s1, s2, s3, q4, q5, wrap64 (Int.tdiv q6 (1 + q7))⟩ hl.1
    have head : ∀ R, Ev (fun k => if r < 0 then (if l.length < 1954687338268 then (spec_l15DrawStock.l0 k (l ++ [(⟨s1, s2, s3, q4, q5, wrap64 (Int.tdiv q6 (1 + q7))⟩ : CC)]) (n : Int) b i7 h7) else none) else spec_l15DrawStock.l0 k l (n : Int) b i7 h7) R → Ev (fun k => spec_l15DrawStock.l0 k l ((n + 1 : Nat) : Int) b i h) R := by
      intro R hR
      refine Ev.step (fun k => by rw [spec_l15DrawStock.l0]) ?_
      refine ev_pos (by omega) (ev_bind0 e1 (ev_bind0 e2 (ev_bind0 e3 (ev_bind0 e4 (ev_bind0 e5 (ev_bind0 e6 (ev_bind0 e7 ?_)))))))
      simp only [hw7, hw]
      exact ev_neg (by omega) (Ev.bind er hR)
    by_cases c : r < 0
    · obtain ⟨l', i', h', g1, g2⟩ := ih (l ++ [(⟨s1, s2, s3, q4, q5, wrap64 (Int.tdiv q6 (1 + q7))⟩ : CC)]) i7 h7 (by simp; omega) ⟨by simp; omega, fun y hy => by
        rcases List.mem_append.1 hy with h | h
        · exact hl.2 y h
        · rw [List.mem_singleton.1 h]; exact ⟨by show (s1.size : Int) ≤ 1048576; omega, by show (s2.size : Int) ≤ 1048576; omega, by show (s3.size : Int) ≤ 1048576; omega⟩⟩ c7
      exact ⟨l', i', h', head _ (ev_pos c (ev_pos (by omega) g1)), g2⟩
    · obtain ⟨l', i', h', g1, g2⟩ := ih l i7 h7 (by omega) hl c7
      exact ⟨l', i', h', head _ (ev_neg c g1), g2⟩
theorem drawStock_ok (b : List Int) (i h m : Int) (hm0 : 0 ≤ m) (hm : m ≤ 100) (hc : Cu b i) : ∃ (l' : List CC) (i' h' : Int), Ev (fun k => spec_l15DrawStock.f k b i h m) (l', i', h') ∧ Cu b i' ∧ (l'.length : Int) ≤ 500 ∧ BC l' := by
  have hw : wrap64 (m + 1) = m + 1 := wrap_id (by omega) (by omega)
  obtain ⟨q, i1, h1, e1, c1, q0, q1, _⟩ := below_ok b i h (m + 1) hc
  have q1 := q1 (by omega)
  obtain ⟨l', i', h', g1, g2⟩ := stock_loop b q.toNat [] i1 h1 (by simp; omega) ⟨by simp, fun y hy => by cases hy⟩ c1
  rw [show ((q.toNat : Nat) : Int) = q by omega] at g1
  refine ⟨l', i', h', ?_, g2⟩
  unfold spec_l15DrawStock.f
  simp only [hw]
  exact ev_bind0 e1 g1
theorem spoilStock_ok (b : List Int) (i h : Int) (l : List CC) (hl : (l.length : Int) ≤ 500) (hB : BC l) (hc : Cu b i) : ∃ (l' : List CC) (i' h' : Int), Ev (fun k => spec_l15SpoilStock.f k b i h l) (l', i', h') ∧ Cu b i' ∧ (l'.length : Int) ≤ 501 ∧ BC l' := by
  obtain ⟨v, i1, h1, e1, c1⟩ := once_ok b i h 15 hc
  unfold spec_l15SpoilStock.f
  have jT : ∀ i h, Cu b i → ∃ (l' : List CC) (i' h' : Int), Ev (fun k => spec_l15SpoilStock.j0 k l true b i h) (l', i', h') ∧ Cu b i' ∧ (l'.length : Int) ≤ 501 ∧ BC l' := by
    intro i h hc
    refine ⟨l, i, h, Ev.step (fun k => by rw [spec_l15SpoilStock.j0]) ?_, hc, by omega, hB⟩
    exact ev_pos rfl (Ev.now _)
  by_cases cv : v = true
  case neg =>
    obtain ⟨l', i', h', g1, g2⟩ := jT i1 h1 c1
    exact ⟨l', i', h', ev_bind0 e1 (ev_neg cv g1), g2⟩
  by_cases cl : (l.length : Int) = 0
  · obtain ⟨l', i', h', g1, g2⟩ := jT i1 h1 c1
    refine ⟨l', i', h', ev_bind0 e1 (ev_pos cv ?_), g2⟩
    rw [show ((l.length : Int) == 0) = true by simpa using cl]
    exact g1
  have ef : ((l.length : Int) == 0) = false := by simpa using cl
  obtain ⟨q, i2, h2, e2, c2, q0, q1, _⟩ := below_ok b i1 h1 (l.length : Int) c1
  have q1 := q1 (by omega)
  obtain ⟨w, i3, h3, e3, c3, w0, w1, _⟩ := below_ok b i2 h2 6 c2
  have hq : q.toNat < l.length := by omega
  have hBq : B117 1048576 (rd_T117 l q) := by
    have : rd_T117 l q = l[q.toNat] := getD_at hq _
    rw [this]
    exact hB.2 _ (List.getElem_mem hq)
  have hset : ∀ y : CC, B117 1048576 y → ((l.set q.toNat y).length : Int) ≤ 501 ∧ BC (l.set q.toNat y) := fun y hy => ⟨by rw [List.length_set]; omega, BC_set hB hy⟩
  have go : ∀ R : List CC × Int × Int, Ev (fun k => (if w = 0 then ((spec_l1AnyName.f b i3 h3).bind fun bt237 => (if 0 ≤ q then (if q < (l.length : Int) then (some ((l.set (q : Int).toNat (⟨bt237.1, (rd_T117 l q).f1, (rd_T117 l q).f2, (rd_T117 l q).f3, (rd_T117 l q).f4, (rd_T117 l q).f5⟩ : CC)), bt237.2.1, bt237.2.2)) else (none)) else (none))) else (if w = 1 then (if 0 ≤ q then (if q < (l.length : Int) then (some ((l.set (q : Int).toNat (⟨(rd_T117 l q).f0, (rd_T117 l q).f1, (rd_T117 l q).f2, (rd_T117 l q).f3, (rd_T117 l q).f4, wrap64 (((rd_T117 l q).f4) + 1)⟩ : CC)), i3, h3)) else (none)) else (none)) else (if w = 2 then ((spec_l1PickInt.f b i3 h3 (([(-1), 1000000, 1000001] : List Int))).bind fun bt246 => (if 0 ≤ q then (if q < (l.length : Int) then (some ((l.set (q : Int).toNat (⟨(rd_T117 l q).f0, (rd_T117 l q).f1, (rd_T117 l q).f2, (rd_T117 l q).f3, bt246.1, (rd_T117 l q).f5⟩ : CC)), bt246.2.1, bt246.2.2)) else (none)) else (none))) else (if w = 3 then ((spec_l1PickInt.f b i3 h3 (([(-1), 40001] : List Int))).bind fun bt253 => (if 0 ≤ q then (if q < (l.length : Int) then (some ((l.set (q : Int).toNat (⟨(rd_T117 l q).f0, (rd_T117 l q).f1, (rd_T117 l q).f2, bt253.1, (rd_T117 l q).f4, (rd_T117 l q).f5⟩ : CC)), bt253.2.1, bt253.2.2)) else (none)) else (none))) else (if w = 4 then (if 0 ≤ q then (if q < (l.length : Int) then (if l.length < 1954687338268 then (some ((l ++ [(⟨(rd_T117 l q).f0, (rd_T117 l q).f1, (rd_T117 l q).f2, (rd_T117 l q).f3, (rd_T117 l q).f4, (rd_T117 l q).f5⟩ : CC)]), i3, h3)) else (none)) else (none)) else (none)) else (if w = 5 then ((spec_l1AnyName.f b i3 h3).bind fun bt261 => (if 0 ≤ q then (if q < (l.length : Int) then (some ((l.set (q : Int).toNat (⟨(rd_T117 l q).f0, (rd_T117 l q).f1, bt261.1, (rd_T117 l q).f3, (rd_T117 l q).f4, (rd_T117 l q).f5⟩ : CC)), bt261.2.1, bt261.2.2)) else (none)) else (none))) else (some (l, i3, h3))))))))) R → Ev (fun k => (spec_l1Once.f b i h 15).bind fun bt228 => (if bt228.1 = true then (spec_l15SpoilStock.j0 k l ((l.length : Int) == 0) b bt228.2.1 bt228.2.2) else (spec_l15SpoilStock.j0 k l true b bt228.2.1 bt228.2.2))) R := by
    intro R hR
    refine ev_bind0 e1 (ev_pos cv ?_)
    rw [ef]
    refine Ev.step (fun k => by rw [spec_l15SpoilStock.j0]) ?_
    exact ev_neg (by simp) (ev_bind0 e2 (ev_bind0 e3 hR))
  by_cases a0 : w = 0
  · obtain ⟨s, i4, h4, e4, c4, z4⟩ := anyName_ok b i3 h3 c3
    exact ⟨_, _, _, go _ (ev_pos a0 (ev_bind0 e4 (ev_pos q0 (ev_pos q1 (Ev.now _))))), c4, hset _ ⟨by show (s.size : Int) ≤ 1048576; omega, hBq.2⟩⟩
  by_cases a1 : w = 1
  · exact ⟨_, _, _, go _ (ev_neg a0 (ev_pos a1 (ev_pos q0 (ev_pos q1 (Ev.now _))))), c3, hset _ hBq⟩
  by_cases a2 : w = 2
  · obtain ⟨s, i4, h4, e4, c4, _⟩ := pickInt_ok b i3 h3 [-1, 1000000, 1000001] (by decide) c3
    exact ⟨_, _, _, go _ (ev_neg a0 (ev_neg a1 (ev_pos a2 (ev_bind0 e4 (ev_pos q0 (ev_pos q1 (Ev.now _))))))), c4, hset _ hBq⟩
  by_cases a3 : w = 3
  · obtain ⟨s, i4, h4, e4, c4, _⟩ := pickInt_ok b i3 h3 [-1, 40001] (by decide) c3
    exact ⟨_, _, _, go _ (ev_neg a0 (ev_neg a1 (ev_neg a2 (ev_pos a3 (ev_bind0 e4 (ev_pos q0 (ev_pos q1 (Ev.now _)))))))), c4, hset _ hBq⟩
  by_cases a4 : w = 4
  · refine ⟨_, _, _, go _ (ev_neg a0 (ev_neg a1 (ev_neg a2 (ev_neg a3 (ev_pos a4 (ev_pos q0 (ev_pos q1 (ev_pos (by omega) (Ev.now _))))))))), c3, by simp; omega, by simp; omega, fun y hy => ?_⟩
    rcases List.mem_append.1 hy with h | h
    · exact hB.2 y h
    · rw [List.mem_singleton.1 h]; exact hBq
  by_cases a5 : w = 5
  · obtain ⟨s, i4, h4, e4, c4, z4⟩ := anyName_ok b i3 h3 c3
    exact ⟨_, _, _, go _ (ev_neg a0 (ev_neg a1 (ev_neg a2 (ev_neg a3 (ev_neg a4 (ev_pos a5 (ev_bind0 e4 (ev_pos q0 (ev_pos q1 (Ev.now _)))))))))), c4, hset _ ⟨hBq.1, hBq.2.1, by show (s.size : Int) ≤ 1048576; omega⟩⟩
  · exact ⟨_, _, _, go _ (ev_neg a0 (ev_neg a1 (ev_neg a2 (ev_neg a3 (ev_neg a4 (ev_neg a5 (Ev.now _))))))), c3, by omega, hB⟩
theorem drawMove_ok (l0 : List Int) (h0 : (l0.length : Int) ≤ 1048576) : ∃ (l : List CC) (a : Int) (p : ByteArray) (q : Int), Ev (fun k => spec_DrawMove.f k l0) (l, a, p, q) ∧ BC l ∧ (p.size : Int) ≤ 1048576 := by
  obtain ⟨h, hn⟩ := new_ok l0 (by omega)
  obtain ⟨l1, i1, h1, e1, c1, z1, b1⟩ := drawStock_ok l0 0 h 10 (by decide) (by decide) ⟨by omega, by omega, by omega⟩
  obtain ⟨l2, i2, h2, e2, c2, z2, b2⟩ := spoilStock_ok l0 i1 h1 l1 z1 b1 c1
  obtain ⟨x3, i3, h3, e3, c3, _⟩ := below_ok l0 i2 h2 (l2.length : Int) c2
  obtain ⟨x4, i4, h4, e4, c4, _⟩ := spoil_ok l0 i3 h3 x3 [-1, (l2.length : Int)] (by simp) c3
  obtain ⟨x5, i5, h5, e5, c5, _⟩ := below_ok l0 i4 h4 40 c4
  have hw : wrap64 ((l2.length : Int) - 1) = (l2.length : Int) - 1 := wrap_id (by omega) (by omega)
  have hp : ∀ s : ByteArray, s ∈ [(⟨#[97]⟩ : ByteArray), ⟨#[98]⟩, ⟨#[104, 97, 108, 108]⟩, ⟨#[110, 101, 119]⟩, ⟨#[]⟩] → (s.size : Int) ≤ 1048576 := by
    intro s m
    simp only [List.mem_cons, List.not_mem_nil, or_false] at m
    rcases m with m | m | m | m | m <;> (rw [m]; decide)
  have jF : ∀ i h, Cu l0 i → ∃ (p : ByteArray) (q : Int), Ev (fun k => spec_DrawMove.j0 k l2 x4 x5 false l0 i h) (l2, x4, p, q) ∧ (p.size : Int) ≤ 1048576 := by
    intro i h hc
    obtain ⟨s, i6, h6, e6, c6, m6⟩ := pick_ok l0 i h [(⟨#[97]⟩ : ByteArray), ⟨#[98]⟩, ⟨#[104, 97, 108, 108]⟩, ⟨#[110, 101, 119]⟩, ⟨#[]⟩] (by decide) hc
    obtain ⟨x7, i7, h7, e7, c7, _⟩ := spoil_ok l0 i6 h6 x5 [-1, 1000000] (by decide) c6
    refine ⟨s, x7, Ev.step (fun k => by rw [spec_DrawMove.j0]) ?_, hp s m6⟩
    exact ev_neg (by simp) (ev_bind0 e6 (ev_bind0 e7 (Ev.now _)))
  have jT : ∀ i h, 0 ≤ x4 → x4 < (l2.length : Int) → Cu l0 i → ∃ (p : ByteArray) (q : Int), Ev (fun k => spec_DrawMove.j0 k l2 x4 x5 true l0 i h) (l2, x4, p, q) ∧ (p.size : Int) ≤ 1048576 := by
    intro i h g0 g1 hc
    obtain ⟨y, i5, h5, e5, c5, _⟩ := below_ok l0 i h 2 hc
    obtain ⟨s, i6, h6, e6, c6, m6⟩ := pick_ok l0 i5 h5 [(⟨#[97]⟩ : ByteArray), ⟨#[98]⟩, ⟨#[104, 97, 108, 108]⟩, ⟨#[110, 101, 119]⟩, ⟨#[]⟩] (by decide) c5
    obtain ⟨x7, i7, h7, e7, c7, _⟩ := spoil_ok l0 i6 h6 (wrap64 ((wrap64 (((rd_T117 l2 x4).f4) - ((rd_T117 l2 x4).f5))) + y)) [-1, 1000000] (by decide) c6
    refine ⟨s, x7, Ev.step (fun k => by rw [spec_DrawMove.j0]) ?_, hp s m6⟩
    exact ev_pos rfl (ev_pos g0 (ev_pos g1 (ev_bind0 e5 (ev_bind0 e6 (ev_bind0 e7 (Ev.now _))))))
  have fin : ∃ (p : ByteArray) (q : Int), Ev (fun k => if (decide (0 ≤ x4 ∧ x4 ≤ (l2.length : Int) - 1)) = true then ((spec_l1Once.f l0 i5 h5 2).bind fun bt337 => (spec_DrawMove.j0 k l2 x4 x5 bt337.1 l0 bt337.2.1 bt337.2.2)) else (spec_DrawMove.j0 k l2 x4 x5 false l0 i5 h5)) (l2, x4, p, q) ∧ (p.size : Int) ≤ 1048576 := by
    by_cases c : 0 ≤ x4 ∧ x4 ≤ (l2.length : Int) - 1
    · obtain ⟨v, i6, h6, e6, c6⟩ := once_ok l0 i5 h5 2 c5
      cases v with
      | true =>
        obtain ⟨p, q, g1, g2⟩ := jT i6 h6 c.1 (by omega) c6
        exact ⟨p, q, ev_pos (by simpa using c) (ev_bind0 e6 g1), g2⟩
      | false =>
        obtain ⟨p, q, g1, g2⟩ := jF i6 h6 c6
        exact ⟨p, q, ev_pos (by simpa using c) (ev_bind0 e6 g1), g2⟩
    · obtain ⟨p, q, g1, g2⟩ := jF i5 h5 c5
      exact ⟨p, q, ev_neg (by rw [decide_eq_true_eq]; exact c) g1, g2⟩
  obtain ⟨p, q, g1, g2⟩ := fin
  refine ⟨l2, x4, p, q, ?_, b2, g2⟩
  unfold spec_DrawMove.f
  refine Ev.bind hn (Ev.bind e1 (Ev.bind e2 (ev_bind0 e3 (ev_bind0 e4 (ev_bind0 e5 (ev_bind0 (by rw [hw, spec_l1In_eq]) g1))))))

/-- What a move leaves is right, and as much of each item. -/
theorem after {l r : List CC} {i : Nat} {place : ByteArray} {q : Int} (h : StockIs l) (hi : i < l.length) (hp : NameIs place) (hne : l[i].f1 ≠ place) (q0 : 0 ≤ q) (q1 : q ≤ 1000000) (q2 : q ≤ l[i].f4 - l[i].f5) {rs : List CC} (hb : Brought l ⟨l[i].f0, place, l[i].f2, l[i].f3, q, 0⟩ rs) (hr : r = rs.set i (less1 l[i] q)) :
    StockIs r ∧ (∀ it, have_ (fun y => y.f4) it r = have_ (fun y => y.f4) it l ∧ have_ (fun y => y.f5) it r = have_ (fun y => y.f5) it l) ∧ l.length ≤ r.length ∧ r[i]? = some (less1 l[i] q) ∧ ∃ (p : Nat) (z : CC), p ≠ i ∧ r[p]? = some z ∧ Same z ⟨l[i].f0, place, l[i].f2, l[i].f3, q, 0⟩ ∧ q ≤ z.f4 - z.f5 := by
  have hg : l[i]? = some l[i] := List.getElem?_eq_getElem hi
  obtain ⟨n0, n1, n2, n3, ⟨k0, k1⟩, ⟨d0, d1⟩⟩ := (h.2 i hi).1
  have hwl : wrap64 (l[i].f4 - q) = l[i].f4 - q := wrap_id (by omega) (by omega)
  have hless : CellIs (less1 l[i] q) := ⟨n0, n1, n2, n3, by show 0 ≤ wrap64 (l[i].f4 - q) ∧ wrap64 (l[i].f4 - q) ≤ 1000000; omega, by show 0 ≤ l[i].f5 ∧ l[i].f5 ≤ wrap64 (l[i].f4 - q); omega⟩
  have hx : CellIs (⟨l[i].f0, place, l[i].f2, l[i].f3, q, 0⟩ : CC) := ⟨n0, hp, n2, n3, ⟨q0, q1⟩, ⟨Int.le_refl _, q0⟩⟩
  have f4less : (less1 l[i] q).f4 = l[i].f4 - q := hwl
  rcases hb with ⟨rfl, hl, hn⟩ | ⟨j, y, hy, hs, rfl, hm⟩
  · have hgi : (l ++ [(⟨l[i].f0, place, l[i].f2, l[i].f3, q, 0⟩ : CC)])[i]? = some l[i] := by rw [List.getElem?_append_left hi]; exact hg
    subst hr
    refine ⟨StockIs_set (StockIs_add h hl hx hn) hgi (same_refl _ : Same (less1 l[i] q) l[i]) hless, fun it => ⟨?_, ?_⟩, by simp, by rw [List.getElem?_set_self (by simp; omega)], l.length, ⟨l[i].f0, place, l[i].f2, l[i].f3, q, 0⟩, by omega, ?_, same_refl _, by show q ≤ q - 0; omega⟩
    · rw [have_set _ it _ i l[i] _ hgi, have_add]
      unfold own
      show _ - (if l[i].f0 = it then l[i].f4 else 0) + (if l[i].f0 = it then (less1 l[i] q).f4 else 0) = _
      rw [f4less]
      show have_ (fun y => y.f4) it l + (if l[i].f0 = it then q else 0) - _ + _ = _
      split <;> omega
    · rw [have_set _ it _ i l[i] _ hgi, have_add]
      unfold own
      show have_ (fun y => y.f5) it l + (if l[i].f0 = it then 0 else 0) - (if l[i].f0 = it then l[i].f5 else 0) + (if l[i].f0 = it then l[i].f5 else 0) = _
      split <;> omega
    · rw [List.getElem?_set_ne (by omega), List.getElem?_append_right (Nat.le_refl _)]
      simp
  · have hji : j ≠ i := by
      intro e
      subst e
      rw [hg] at hy
      injection hy with hy
      exact hne (by rw [hy]; exact hs.2.1)
    have hjl := (List.getElem?_eq_some_iff.1 hy).1
    have hyj := (List.getElem?_eq_some_iff.1 hy).2
    obtain ⟨m0, m1, m2, m3, ⟨a0, a1⟩, ⟨b0, b1⟩⟩ := (h.2 j hjl).1
    rw [hyj] at m0 m1 m2 m3 a0 a1 b0 b1
    have hwm : wrap64 (y.f4 + q) = y.f4 + q := wrap_id (by omega) (by omega)
    have hm' : ¬ y.f4 + q > 1000000 := by have : ¬ wrap64 (y.f4 + q) > 1000000 := hm; omega
    have hmore : CellIs (more y q) := ⟨m0, m1, m2, m3, by show 0 ≤ wrap64 (y.f4 + q) ∧ wrap64 (y.f4 + q) ≤ 1000000; omega, by show 0 ≤ y.f5 ∧ y.f5 ≤ wrap64 (y.f4 + q); omega⟩
    have f4more : (more y q).f4 = y.f4 + q := hwm
    have hgi : (l.set j (more y q))[i]? = some l[i] := by rw [List.getElem?_set_ne hji]; exact hg
    have hit : y.f0 = l[i].f0 := hs.1
    subst hr
    refine ⟨StockIs_set (StockIs_set h hy (same_refl _ : Same (more y q) y) hmore) hgi (same_refl _ : Same (less1 l[i] q) l[i]) hless, fun it => ⟨?_, ?_⟩, by simp, by rw [List.getElem?_set_self (by simp; omega)], j, more y q, hji, ?_, hs, by rw [f4more]; show q ≤ y.f4 + q - y.f5; omega⟩
    · show have_ _ it ((l.set j (more y q)).set i (less1 l[i] q)) = _
      rw [have_set _ it _ i l[i] _ hgi, have_set _ it _ j y _ hy]
      unfold own
      show have_ (fun y => y.f4) it l - (if y.f0 = it then y.f4 else 0) + (if y.f0 = it then (more y q).f4 else 0) - (if l[i].f0 = it then l[i].f4 else 0) + (if l[i].f0 = it then (less1 l[i] q).f4 else 0) = _
      rw [f4more, f4less, hit]
      split <;> omega
    · show have_ _ it ((l.set j (more y q)).set i (less1 l[i] q)) = _
      rw [have_set _ it _ i l[i] _ hgi, have_set _ it _ j y _ hy]
      unfold own
      show have_ (fun y => y.f5) it l - (if y.f0 = it then y.f5 else 0) + (if y.f0 = it then y.f5 else 0) - (if l[i].f0 = it then l[i].f5 else 0) + (if l[i].f0 = it then l[i].f5 else 0) = _
      omega
    · show ((l.set j (more y q)).set i (less1 l[i] q))[j]? = _
      rw [List.getElem?_set_ne (Ne.symm hji), List.getElem?_set_self hjl]

/-- Brought back: the cell as it was. -/
theorem back_ok {l r : List CC} {i p : Nat} {place : ByteArray} {q : Int} (h : StockIs l) (hi : i < l.length) (hne : l[i].f1 ≠ place) (q0 : 0 ≤ q) (q1 : q ≤ 1000000) (hr : StockIs r) (hBr : BC r) (hlen : l.length ≤ r.length) (hri : r[i]? = some (less1 l[i] q)) (hp : p < r.length) (hps : Same r[p] ⟨l[i].f0, place, l[i].f2, l[i].f3, q, 0⟩) (hpq : q ≤ r[p].f4 - r[p].f5) (hsz : (l[i].f1.size : Int) ≤ 1048576) :
    ∃ b : List CC, Ev (fun k => impl_Move.f k r (p : Int) l[i].f1 q) (b, 0) ∧ b[i]? = some l[i] ∧ b.length = r.length := by
  obtain ⟨n0, n1, n2, n3, ⟨k0, k1⟩, ⟨d0, d1⟩⟩ := (h.2 i hi).1
  have hwl : wrap64 (l[i].f4 - q) = l[i].f4 - q := wrap_id (by omega) (by omega)
  have hrp := rd_of hp
  have hmv : moved r (p : Int) l[i].f1 q = ⟨r[p].f0, l[i].f1, r[p].f2, r[p].f3, q, 0⟩ := by unfold moved; rw [hrp]
  have hsk : Same (less1 l[i] q) (moved r (p : Int) l[i].f1 q) := by rw [hmv]; exact ⟨hps.1.symm, rfl, hps.2.2.symm⟩
  have hpi : p ≠ i := by
    intro e
    subst e
    rw [List.getElem?_eq_getElem hp] at hri
    injection hri with hri
    rw [hri] at hps
    exact hne hps.2.1
  have hback : wrap64 ((less1 l[i] q).f4 + q) = l[i].f4 := by
    show wrap64 (wrap64 (l[i].f4 - q) + q) = l[i].f4
    rw [hwl, show l[i].f4 - q + q = l[i].f4 by omega]
    exact wrap_id (by omega) (by omega)
  obtain ⟨b, n, _, h2, _, ho⟩ := move_out r (p : Int) l[i].f1 q hBr hsz
  rcases ho with ⟨_, _, ho⟩ | ⟨_, _, _, ho⟩ | ⟨_, _, _, ho⟩ | ⟨_, _, _, ho⟩ | ⟨rfl, _, p', hpp, hp', _, _, _, _, _, rs, hb, hbr⟩
  · exact absurd hr ho
  · rcases ho with ho | ho | ho | ho
    · exact absurd ⟨by omega, by omega⟩ ho
    · exact absurd n1 ho
    · rw [hrp, hps.2.1] at ho
      exact absurd ho.symm hne
    · exact absurd ⟨q0, q1⟩ ho
  · rw [hrp] at ho; omega
  · rcases ho with ⟨_, ho⟩ | ⟨j, y, hy, hs, ho⟩
    · exact absurd hsk (ho _ (List.mem_of_getElem? hri))
    · have := one_at hr hy hri (same_trans hs (same_symm hsk))
      subst this
      rw [hri] at hy
      injection hy with hy
      subst hy
      have e : (moved r (p : Int) l[j].f1 q).f4 = q := rfl
      rw [e, hback] at ho
      omega
  · have hpe : p' = p := by omega
    subst hpe
    rcases hb with ⟨_, _, ho⟩ | ⟨j, y, hy, hs, hrs, _⟩
    · exact absurd hsk (ho _ (List.mem_of_getElem? hri))
    · have := one_at hr hy hri (same_trans hs (same_symm hsk))
      subst this
      rw [hri] at hy
      injection hy with hy
      subst hy
      subst hrs
      refine ⟨b, h2, ?_, ?_⟩
      · rw [hbr, List.getElem?_set_ne hpi, List.getElem?_set_self (by omega)]
        congr 1
        show (⟨l[j].f0, l[j].f1, l[j].f2, l[j].f3, wrap64 ((less1 l[j] q).f4 + q), l[j].f5⟩ : CC) = l[j]
        rw [hback]
      · rw [hbr]; simp

theorem name1 (c : UInt8) (h : nb (c.toNat : Int) = true) : NameIs (⟨#[c]⟩ : ByteArray) := by
  refine ⟨by show 1 ≤ 1; decide, by show 1 ≤ 20; decide, fun j hj => ?_⟩
  have hj' : j < 1 := hj
  have : j = 0 := by omega
  subst this
  exact h
/-- The law's own example. -/
theorem example_ok : ∃ y z : CC, Ev (fun k => impl_Move.f k ([(⟨(⟨#[105]⟩ : ByteArray), (⟨#[112]⟩ : ByteArray), (⟨#[]⟩ : ByteArray), 3, 5, 2⟩ : CC)]) 0 (⟨#[113]⟩ : ByteArray) 3) ([y, z], 0) ∧ y.f4 = 2 ∧ z.f4 = 3 ∧ z.f3 = 3 ∧ z.f1 = ⟨#[113]⟩ := by
  have hs : StockIs ([(⟨(⟨#[105]⟩ : ByteArray), (⟨#[112]⟩ : ByteArray), (⟨#[]⟩ : ByteArray), 3, 5, 2⟩ : CC)]) := by
    refine ⟨by decide, fun i hi => ?_⟩
    have : i = 0 := by simp at hi; exact hi
    subst this
    exact ⟨⟨name1 105 (by decide), name1 112 (by decide), .inl rfl, by show (0 : Int) ≤ 3 ∧ (3 : Int) ≤ 40000; decide, by show (0 : Int) ≤ 5 ∧ (5 : Int) ≤ 1000000; decide, by show (0 : Int) ≤ 2 ∧ (2 : Int) ≤ 5; decide⟩, fun j y hj => by omega⟩
  have hB : BC ([(⟨(⟨#[105]⟩ : ByteArray), (⟨#[112]⟩ : ByteArray), (⟨#[]⟩ : ByteArray), 3, 5, 2⟩ : CC)]) := ⟨by decide, fun y hy => by
    rw [List.mem_singleton.1 hy]
    refine ⟨?_, ?_, ?_⟩ <;> decide⟩
  have hpq : (⟨#[112]⟩ : ByteArray) ≠ ⟨#[113]⟩ := by decide
  obtain ⟨r, n, _, h2, _, ho⟩ := move_out _ 0 (⟨#[113]⟩ : ByteArray) 3 hB (by decide)
  rcases ho with ⟨_, _, ho⟩ | ⟨_, _, _, ho⟩ | ⟨_, _, _, ho⟩ | ⟨_, _, _, ho⟩ | ⟨rfl, _, p', hpp, hp', _, _, _, _, _, rs, hb, hbr⟩
  · exact absurd hs ho
  · rcases ho with ho | ho | ho | ho
    · exact absurd ⟨by decide, by decide⟩ ho
    · exact absurd (name1 113 (by decide)) ho
    · exact absurd ho hpq
    · exact absurd ⟨by decide, by decide⟩ ho
  · exact absurd (show (5 : Int) - 2 < 3 from ho) (by decide)
  · rcases ho with ⟨ho, _⟩ | ⟨j, y, hy, hsm, _⟩
    · exact absurd ho (by decide)
    · have := List.mem_singleton.1 (List.mem_of_getElem? hy)
      subst this
      exact absurd hsm.2.1 hpq
  · have hp0 : p' = 0 := by omega
    subst hp0
    rcases hb with ⟨hrs, _, _⟩ | ⟨j, y, hy, hsm, _⟩
    · subst hrs
      subst hbr
      refine ⟨_, _, h2, ?_, rfl, rfl, rfl⟩
      show wrap64 ((5 : Int) - 3) = 2
      rw [wrap_id (by decide) (by decide)]
      rfl
    · have := List.mem_singleton.1 (List.mem_of_getElem? hy)
      subst this
      exact absurd hsm.2.1 hpq

theorem loop0 {l r : List CC} {a : Int} {p : ByteArray} {q n : Int} (h : StockIs l) (hr : StockIs r) (hlen : l.length ≤ r.length) (hs : ∀ it, have_ (fun y => y.f4) it r = have_ (fun y => y.f4) it l ∧ have_ (fun y => y.f5) it r = have_ (fun y => y.f5) it l) (hn : n ≠ 0 → r = l) {R : Bool}
    (hend : Ev (fun k => if n = 0 then laws_FnMoved.l1 k l a p q r 0 else some ((r.length : Int) == (l.length : Int))) R) : Ev (fun k => laws_FnMoved.l0 k l a p q n r 0) R := by
  have h100 := h.1
  have go : ∀ (d i : Nat), i + d = l.length → Ev (fun k => laws_FnMoved.l0 k l a p q n r (i : Int)) R := by
    intro d
    induction d with
    | zero =>
      intro i hd
      refine Ev.step (fun k => by rw [laws_FnMoved.l0]) ?_
      exact ev_neg (by omega) hend
    | succ d ih =>
      intro i hd
      have hi : i < l.length := by omega
      have hrd := rd_of hi
      have hw : wrap64 ((i : Int) + 1) = ((i + 1 : Nat) : Int) := wrap_succ hi (by omega)
      have c1 := cellSum_ev l l[i].f0 h
      have c2 := cellSum_ev r l[i].f0 hr
      have hk := ih (i + 1) (by omega)
      refine Ev.step (fun k => by rw [laws_FnMoved.l0]) ?_
      simp only [hrd, hw]
      refine ev_pos (by omega) (ev_pos (by omega) (Ev.bind c1 (Ev.bind c2 (ev_pos (hs _).1.symm (ev_pos (hs _).2.symm ?_)))))
      by_cases cn : n = 0
      · exact ev_pos cn hk
      · have e := hn cn
        subst e
        simp only [hrd]
        refine ev_neg cn (ev_pos (by omega) (ev_neg ?_ hk))
        simp
  exact go l.length 0 (by omega)

theorem loop1 {l r : List CC} {i : Nat} {place : ByteArray} {q : Int} (h : StockIs l) (hi : i < l.length) (hne : l[i].f1 ≠ place) (q0 : 0 ≤ q) (q1 : q ≤ 1000000) (hr : StockIs r) (hBr : BC r) (hlen : l.length ≤ r.length) (hri : r[i]? = some (less1 l[i] q)) (hsz : (l[i].f1.size : Int) ≤ 1048576)
    (hex : ∃ (p : Nat) (z : CC), p ≠ i ∧ r[p]? = some z ∧ Same z ⟨l[i].f0, place, l[i].f2, l[i].f3, q, 0⟩ ∧ q ≤ z.f4 - z.f5) : Ev (fun k => laws_FnMoved.l1 k l (i : Int) place q r 0) true := by
  obtain ⟨p, z, hpi, hpz, hzs, hzq⟩ := hex
  have hp := (List.getElem?_eq_some_iff.1 hpz).1
  have hpe := (List.getElem?_eq_some_iff.1 hpz).2
  have h100 := hr.1
  have hrl := rd_of hi
  have go : ∀ (d j : Nat), j + d = p → Ev (fun k => laws_FnMoved.l1 k l (i : Int) place q r (j : Int)) true := by
    intro d
    induction d with
    | zero =>
      intro j hd
      have : j = p := by omega
      subst this
      rw [← hpe] at hzs hzq
      obtain ⟨b, hb, hbi, hbl⟩ := back_ok h hi hne q0 q1 hr hBr hlen hri hp hzs hzq hsz
      have hrr := rd_of hp
      have hbil : i < b.length := by omega
      have hrb : rd_T117 b (i : Int) = l[i] := by
        rw [rd_of hbil]
        rw [List.getElem?_eq_getElem hbil] at hbi
        exact Option.some.inj hbi
      refine Ev.step (fun k => by rw [laws_FnMoved.l1]) ?_
      simp only [hrr, hrl, str_iff]
      refine ev_pos (by omega) (ev_pos (by omega) (ev_pos (by omega) (ev_pos (by omega) (ev_pos hzs.1 (ev_pos hzs.2.2 (ev_pos hzs.2.1 (Ev.bind hb (ev_pos rfl (ev_pos (show (i : Int) < (b.length : Int) by omega) ?_)))))))))
      simp only [hrb]
      refine ev_pos (by simp) ?_
      rw [hbl]
      simp only [beq_self_eq_true]
      exact Ev.now _
    | succ d ih =>
      intro j hd
      have hj : j < r.length := by omega
      have hrj := rd_of hj
      have hw : wrap64 ((j : Int) + 1) = ((j + 1 : Nat) : Int) := wrap_succ hj (by omega)
      have hk := ih (j + 1) (by omega)
      refine Ev.step (fun k => by rw [laws_FnMoved.l1]) ?_
      simp only [hrj, hrl, str_iff, hw]
      refine ev_pos (Int.ofNat_lt.2 hj) (ev_pos (Int.natCast_nonneg j) (ev_pos (Int.natCast_nonneg i) (ev_pos (Int.ofNat_lt.2 hi) ?_)))
      by_cases a0 : r[j].f0 = l[i].f0
      · by_cases a1 : r[j].f2 = l[i].f2
        · by_cases a2 : r[j].f1 = place
          · have := one_at hr (List.getElem?_eq_getElem hj) hpz (⟨a0.trans hzs.1.symm, a2.trans hzs.2.1.symm, a1.trans hzs.2.2.symm⟩ : Same r[j] z)
            omega
          · exact ev_pos a0 (ev_pos a1 (ev_neg a2 hk))
        · exact ev_pos a0 (ev_neg a1 hk)
      · exact ev_neg a0 hk
  exact go p 0 (by omega)

theorem FnMoved : laws_FnMoved.Pure := by
  intro l0 hg0 hg1 hg2
  apply Ev.rounds
  unfold laws_FnMoved.f
  refine ev_bind0 (show laws_big.f l0 = some (decide ((l0.length : Int) > 1048576)) from rfl) ?_
  by_cases cb : (l0.length : Int) > 1048576
  · exact ev_pos (decide_eq_true cb) (Ev.now _)
  refine ev_neg (by rw [decide_eq_true_eq]; exact cb) ?_
  obtain ⟨l, a, p, q, hd, hB, hps⟩ := drawMove_ok l0 (by omega)
  obtain ⟨r, n, h1, h2, hBr, ho⟩ := move_out l a p q hB hps
  have hj : Ev (fun k => laws_FnMoved.j0 k l0 false) true := by
    refine Ev.step (fun k => by rw [laws_FnMoved.j0]) ?_
    refine ev_neg (by simp) (Ev.bind hd (Ev.bind h1 (Ev.bind h2 (ev_pos rfl ?_))))
    have same : n ≠ 0 → n ≠ 1 → StockIs l → r = l → Ev (fun k => if n = 1 then some ((r.length : Int) == 0) else (impl_StockOk.f k r).bind fun t459 => if t459 = true then laws_FnMoved.l0 k l a p q n r 0 else some false) true := by
      intro n0 n1 hs e
      subst e
      obtain ⟨b, e2, p2⟩ := impl_stock_ev r hB
      refine ev_neg n1 (Ev.bind e2 (ev_pos (p2.2 hs) ?_))
      refine loop0 hs hs (Nat.le_refl _) (fun _ => ⟨rfl, rfl⟩) (fun _ => rfl) (ev_neg n0 ?_)
      simp only [beq_self_eq_true]
      exact Ev.now _
    rcases ho with ⟨rfl, rfl, _⟩ | ⟨rfl, hs, e, _⟩ | ⟨rfl, hs, e, _⟩ | ⟨rfl, hs, e, _⟩ | ⟨rfl, hs, i, rfl, hi, hp, hne, q0, q1, q2, rs, hb, hr⟩
    · exact ev_pos rfl (Ev.now _)
    · exact same (by decide) (by decide) hs e
    · exact same (by decide) (by decide) hs e
    · exact same (by decide) (by decide) hs e
    · have hrd := rd_of hi
      rw [hrd] at hne q2 hr
      have hb' : Brought l ⟨l[i].f0, p, l[i].f2, l[i].f3, q, 0⟩ rs := by
        have := hb
        unfold moved at this
        rw [hrd] at this
        exact this
      obtain ⟨hsr, hsum, hlen, hri, hex⟩ := after hs hi hp hne q0 q1 q2 hb' hr
      obtain ⟨b, e2, p2⟩ := impl_stock_ev r hBr
      refine ev_neg (show ¬ (0 : Int) = 1 by decide) (Ev.bind e2 (ev_pos (p2.2 hsr) ?_))
      exact loop0 hs hsr hlen hsum (fun h => absurd rfl h) (ev_pos rfl (loop1 hs hi hne q0 q1 hsr hBr hlen hri (hB.2 _ (List.getElem_mem hi)).2.1 hex))
  obtain ⟨y, z, he, f1, f2, f3, f4⟩ := example_ok
  have r0 : rd_T117 [y, z] 0 = y := rfl
  have r1 : rd_T117 [y, z] 1 = z := rfl
  refine Ev.bind he (ev_pos rfl (ev_pos (by simp) (ev_pos (by simp) ?_)))
  simp only [r0, r1, f1, f2, f3, f4]
  refine ev_pos trivial (ev_pos (by simp) (ev_pos trivial (ev_pos trivial ?_)))
  have e : ((⟨#[113]⟩ : ByteArray).toList != ([113] : List UInt8)) = false := by
    rw [toList_data]
    decide
  rw [e]
  exact hj
end Go.Proofs.Ytinibkdbfpafcaa.Pure
