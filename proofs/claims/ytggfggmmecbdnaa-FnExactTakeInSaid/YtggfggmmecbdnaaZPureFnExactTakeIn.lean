/- TakeIn: the program's answer is the reference's, whatever the worth. -/
import Derived.Test.YtggfggmmecbdnaaZPFnExactTakeInx
import Derived.Test.YtggfggmmecbdnaaZHFnExactTakeIn
set_option maxHeartbeats 4000000
set_option linter.unusedVariables false
set_option linter.unusedSimpArgs false
namespace Go.Proofs.Ytggfggmmecbdnaa.Pure
open Go.RowKit Go.Proofs.Ytggfggmmecbdnaa.PFnExactTakeIn Go.Proofs.YtggfggmmecbdnaaW.PrintWords Go.Proofs.YtggfggmmecbdnaaW.PrintLast Go.Proofs.Ytggfggmmecbdnaa.XEv
abbrev TT := S59
def qsum : List TT → Int
  | [] => 0
  | x :: l => x.f0 + qsum l
def csum : List TT → Int
  | [] => 0
  | x :: l => x.f1 + csum l
def Lok (p m : Int) (x : TT) : Prop := (1 ≤ x.f0 ∧ x.f0 ≤ 1000000) ∧ (0 ≤ x.f1 ∧ x.f1 ≤ 100000000000) ∧ (m = 4 → x.f1 = wrap64 (x.f0 * p))
def WOK (m p : Int) (l : List TT) (o : Int) : Prop :=
  (1 ≤ m ∧ m ≤ 4) ∧ (-100000000000 ≤ o ∧ o ≤ 100000000000) ∧ (m = 4 → 0 ≤ p ∧ p ≤ 100000) ∧ (m ≠ 4 → p = 0 ∧ o = 0) ∧ (m ≥ 3 → (l.length : Int) ≤ 1) ∧ (∀ x ∈ l, Lok p m x) ∧ qsum l ≤ 1000000 ∧ csum l ≤ 100000000000
theorem sums_nonneg {p m : Int} : ∀ {l : List TT}, (∀ x ∈ l, Lok p m x) → 0 ≤ qsum l ∧ 0 ≤ csum l
  | [], _ => ⟨Int.le_refl _, Int.le_refl _⟩
  | x :: l, h => by
    have h1 := h x (List.mem_cons_self ..)
    have h2 := sums_nonneg (fun y hy => h y (List.mem_cons_of_mem _ hy))
    have h3 := h1.1
    have h4 := h1.2.1
    simp only [qsum, csum]
    omega
theorem rd_mid (pre rest : List TT) (x : TT) : rd_T59 (pre ++ x :: rest) (pre.length : Int) = x := by
  unfold rd_T59
  simp [List.getD]
theorem layOk_eq (a b : Int) : impl_layOk.f a b = some (decide ((1 ≤ a ∧ a ≤ 1000000) ∧ 0 ≤ b ∧ b ≤ 100000000000)) := by
  unfold impl_layOk.f
  rw [impl_between_eq, Option.bind_some]
  by_cases c : 1 ≤ a ∧ a ≤ 1000000
  · rw [if_pos (decide_eq_true c), impl_money_eq, Option.bind_some]
    simp [c]
  · rw [if_neg (by rw [decide_eq_true_eq]; exact c)]
    simp [c]
theorem layOk2_eq (a b : Int) : spec_l16Lay.f a b = some (decide ((1 ≤ a ∧ a ≤ 1000000) ∧ 0 ≤ b ∧ b ≤ 100000000000)) := by
  unfold spec_l16Lay.f
  rw [spec_l1In_eq, Option.bind_some]
  by_cases c : 1 ≤ a ∧ a ≤ 1000000
  · rw [if_pos (decide_eq_true c), spec_l1In_eq, Option.bind_some]
    simp [c]
  · rw [if_neg (by rw [decide_eq_true_eq]; exact c)]
    simp [c]
theorem iw_loop (m p o : Int) (l : List TT) (hl : l.length ≤ 1048577) : ∀ (rest pre : List TT) (a c : Int), l = pre ++ rest → 0 ≤ a → a ≤ 1000000 → 0 ≤ c → c ≤ 100000000000 →
    ∃ b, Ev (fun k => impl_WorthOk.l0 k a c l (l.length : Int) (pre.length : Int) m p l o) b ∧ (b = true ↔ (∀ x ∈ rest, Lok p m x) ∧ a + qsum rest ≤ 1000000 ∧ c + csum rest ≤ 100000000000)
  | [], pre, a, c, h, a0, a1, c0, c1 => by
    refine ⟨true, Ev.step (fun k => by rw [impl_WorthOk.l0]) (ev_neg (by rw [h, List.append_nil]; omega) (Ev.now _)), ?_⟩
    simp only [qsum, csum]
    exact ⟨fun _ => ⟨fun x hx => (by cases hx), by omega, by omega⟩, fun _ => (by trivial)⟩
  | x :: rest, pre, a, c, h, a0, a1, c0, c1 => by
    have hlen : (l.length : Int) = (pre.length : Int) + (rest.length : Int) + 1 := by rw [h, List.length_append, List.length_cons]; omega
    have hrd : rd_T59 l (pre.length : Int) = x := by rw [h]; exact rd_mid pre rest x
    have bad : ∀ F : Nat → Option Bool, Ev F false → ¬ ((∀ y ∈ x :: rest, Lok p m y) ∧ a + qsum (x :: rest) ≤ 1000000 ∧ c + csum (x :: rest) ≤ 100000000000) → ∃ b, Ev F b ∧ (b = true ↔ (∀ y ∈ x :: rest, Lok p m y) ∧ a + qsum (x :: rest) ≤ 1000000 ∧ c + csum (x :: rest) ≤ 100000000000) :=
      fun F hF hn => ⟨false, hF, ⟨fun h => (by cases h), fun h => absurd h hn⟩⟩
    by_cases hL : (1 ≤ x.f0 ∧ x.f0 ≤ 1000000) ∧ 0 ≤ x.f1 ∧ x.f1 ≤ 100000000000
    case neg =>
      refine bad _ ?_ (fun hh => hL ⟨(hh.1 x (List.mem_cons_self ..)).1, (hh.1 x (List.mem_cons_self ..)).2.1⟩)
      refine Ev.step (fun k => by rw [impl_WorthOk.l0]) ?_
      refine ev_pos (by omega) (ev_pos (by omega) (ev_pos (by omega) ?_))
      simp only [hrd]
      refine ev_bind0 (layOk_eq _ _) ?_
      refine ev_neg (by rw [decide_eq_true_eq]; exact hL) ?_
      exact Ev.step (fun k => by rw [impl_WorthOk.j4]) (ev_pos rfl (Ev.now _))
    have hL0 := hL.1
    have hL1 := hL.2
    have key : ∀ f : Bool, (f = true → ¬ Lok p m x) → (f = false → Lok p m x) → ∃ b, Ev (fun k => impl_WorthOk.j4 k a c l (l.length : Int) (pre.length : Int) f m p l o x.f0 x.f1) b ∧ (b = true ↔ (∀ y ∈ x :: rest, Lok p m y) ∧ a + qsum (x :: rest) ≤ 1000000 ∧ c + csum (x :: rest) ≤ 100000000000) := by
      intro f h1 h2
      cases f with
      | true => exact bad _ (Ev.step (fun k => by rw [impl_WorthOk.j4]) (ev_pos rfl (Ev.now _))) (fun hh => h1 rfl (hh.1 x (List.mem_cons_self ..)))
      | false =>
        have hx := h2 rfl
        have wa : wrap64 (a + x.f0) = a + x.f0 := wrap_id (by omega) (by omega)
        have wc : wrap64 (c + x.f1) = c + x.f1 := wrap_id (by omega) (by omega)
        have wi : wrap64 ((pre.length : Int) + 1) = ((pre ++ [x]).length : Int) := by rw [wrap_id (by omega) (by omega), List.length_append]; simp
        by_cases ca : a + x.f0 > 1000000
        · refine bad _ (Ev.step (fun k => by rw [impl_WorthOk.j4]) (ev_neg (by decide) ?_)) (fun hh => ?_)
          · rw [wa]; exact ev_pos ca (Ev.now _)
          · have := sums_nonneg (fun y hy => hh.1 y (List.mem_cons_of_mem _ hy))
            have h3 := hh.2.1
            simp only [qsum] at h3
            omega
        by_cases cc : c + x.f1 > 100000000000
        · refine bad _ (Ev.step (fun k => by rw [impl_WorthOk.j4]) (ev_neg (by decide) ?_)) (fun hh => ?_)
          · rw [wa, wc]; exact ev_neg ca (ev_pos cc (Ev.now _))
          · have := sums_nonneg (fun y hy => hh.1 y (List.mem_cons_of_mem _ hy))
            have h3 := hh.2.2
            simp only [csum] at h3
            omega
        obtain ⟨b, e, hb⟩ := iw_loop m p o l hl rest (pre ++ [x]) (a + x.f0) (c + x.f1) (by rw [h]; simp) (by omega) (by omega) (by omega) (by omega)
        refine ⟨b, Ev.step (fun k => by rw [impl_WorthOk.j4]) (ev_neg (by decide) ?_), ?_⟩
        · rw [wa, wc, wi]; exact ev_neg ca (ev_neg cc e)
        · rw [hb]
          simp only [qsum, csum]
          constructor
          · rintro ⟨q1, q2, q3⟩
            exact ⟨fun y hy => by cases hy with | head => exact hx | tail _ hy => exact q1 y hy, by omega, by omega⟩
          · rintro ⟨q1, q2, q3⟩
            exact ⟨fun y hy => q1 y (List.mem_cons_of_mem _ hy), by omega, by omega⟩
    have start : ∀ b, Ev (fun k => if m = 4 then (impl_WorthOk.j4 k a c l (l.length : Int) (pre.length : Int) (x.f1 != (wrap64 (x.f0 * p))) m p l o x.f0 x.f1) else (impl_WorthOk.j4 k a c l (l.length : Int) (pre.length : Int) false m p l o x.f0 x.f1)) b → Ev (fun k => impl_WorthOk.l0 k a c l (l.length : Int) (pre.length : Int) m p l o) b := by
      intro b hb
      refine Ev.step (fun k => by rw [impl_WorthOk.l0]) ?_
      refine ev_pos (by omega) (ev_pos (by omega) (ev_pos (by omega) ?_))
      simp only [hrd]
      refine ev_bind0 (layOk_eq _ _) ?_
      refine ev_pos (decide_eq_true hL) (ev_neg (by omega) hb)
    by_cases h4 : m = 4
    · obtain ⟨b, e, hb⟩ := key (x.f1 != wrap64 (x.f0 * p)) (fun hf hx => by rw [bne_iff_ne] at hf; exact hf (hx.2.2 h4)) (fun hf => ⟨hL0, hL1, fun _ => by simpa using hf⟩)
      exact ⟨b, start b (ev_pos h4 e), hb⟩
    · obtain ⟨b, e, hb⟩ := key false (fun hf => by cases hf) (fun hf => ⟨hL0, hL1, fun h => absurd h h4⟩)
      exact ⟨b, start b (ev_neg h4 e), hb⟩
theorem iw (m p : Int) (l : List TT) (o : Int) (hl : l.length ≤ 1048577) : ∃ b, Ev (fun k => impl_WorthOk.f k m p l o) b ∧ (b = true ↔ WOK m p l o) := by
  have bad : ∀ F : Nat → Option Bool, Ev F false → ¬ WOK m p l o → ∃ b, Ev F b ∧ (b = true ↔ WOK m p l o) := fun F hF hn => ⟨false, hF, ⟨fun h => (by cases h), fun h => absurd h hn⟩⟩
  have j0t : Ev (fun k => impl_WorthOk.j0 k true m p l o) false := Ev.step (fun k => by rw [impl_WorthOk.j0]) (ev_pos rfl (Ev.now _))
  have j1t : Ev (fun k => impl_WorthOk.j1 k true m p l o) false := Ev.step (fun k => by rw [impl_WorthOk.j1]) (ev_pos rfl (Ev.now _))
  have j2t : Ev (fun k => impl_WorthOk.j2 k true m p l o) false := Ev.step (fun k => by rw [impl_WorthOk.j2]) (ev_pos rfl (Ev.now _))
  unfold impl_WorthOk.f
  by_cases hm : 1 ≤ m ∧ m ≤ 4
  case neg => exact bad _ (ev_bind0 (impl_between_eq _ _ _) (ev_neg (by rw [decide_eq_true_eq]; exact hm) j0t)) (fun h => hm h.1)
  by_cases ho : -100000000000 ≤ o ∧ o ≤ 100000000000
  case neg => exact bad _ (ev_bind0 (impl_between_eq _ _ _) (ev_pos (decide_eq_true hm) (ev_bind0 (impl_amount_eq _) (by rw [decide_eq_false ho]; exact j0t)))) (fun h => ho h.2.1)
  have top : ∀ b, Ev (fun k => impl_WorthOk.j0 k false m p l o) b → Ev (fun k => (impl_between.f m 1 4).bind fun t184 => (if t184 = true then ((impl_amount.f o).bind fun t185 => (impl_WorthOk.j0 k (!t185) m p l o)) else (impl_WorthOk.j0 k true m p l o))) b :=
    fun b hb => ev_bind0 (impl_between_eq _ _ _) (ev_pos (decide_eq_true hm) (ev_bind0 (impl_amount_eq _) (by rw [decide_eq_true ho]; exact hb)))
  have j0f : ∀ b, Ev (fun k => if m = 4 then ((impl_price.f p).bind fun t186 => (if t186 = true then (impl_WorthOk.j1 k false m p l o) else (impl_WorthOk.j1 k true m p l o))) else (if p = 0 then (impl_WorthOk.j1 k (o != 0) m p l o) else (impl_WorthOk.j1 k true m p l o))) b → Ev (fun k => impl_WorthOk.j0 k false m p l o) b := by
    intro b hb
    refine Ev.step (fun k => by rw [impl_WorthOk.j0]) ?_
    exact ev_neg (by decide) hb
  have j1f : ∀ b, Ev (fun k => if m ≥ 3 then (impl_WorthOk.j2 k (decide ((l.length : Int) > 1)) m p l o) else (impl_WorthOk.j2 k false m p l o)) b → Ev (fun k => impl_WorthOk.j1 k false m p l o) b := by
    intro b hb
    refine Ev.step (fun k => by rw [impl_WorthOk.j1]) ?_
    exact ev_neg (by decide) hb
  have fin : ((m = 4 → 0 ≤ p ∧ p ≤ 100000) ∧ (m ≠ 4 → p = 0 ∧ o = 0)) → ∃ b, Ev (fun k => impl_WorthOk.j1 k false m p l o) b ∧ (b = true ↔ WOK m p l o) := by
    intro hp
    have loop : ((m ≥ 3 → (l.length : Int) ≤ 1)) → ∃ b, Ev (fun k => impl_WorthOk.j2 k false m p l o) b ∧ (b = true ↔ WOK m p l o) := by
      intro h3
      obtain ⟨b, e, hb⟩ := iw_loop m p o l hl l [] 0 0 rfl (by omega) (by omega) (by omega) (by omega)
      have e2 : Ev (fun k => impl_WorthOk.j2 k false m p l o) b := by
        refine Ev.step (fun k => by rw [impl_WorthOk.j2]) ?_
        exact ev_neg (by decide) e
      refine ⟨b, e2, ?_⟩
      rw [hb]
      simp only [Int.zero_add]
      exact ⟨fun h => ⟨hm, ho, hp.1, hp.2, h3, h.1, h.2.1, h.2.2⟩, fun h => ⟨h.2.2.2.2.2.1, h.2.2.2.2.2.2.1, h.2.2.2.2.2.2.2⟩⟩
    by_cases c3 : m ≥ 3
    · by_cases c1 : (l.length : Int) > 1
      · refine bad _ (j1f _ (ev_pos c3 (by rw [decide_eq_true c1]; exact j2t))) (fun h => by have := h.2.2.2.2.1 c3; omega)
      · obtain ⟨b, e, hb⟩ := loop (fun _ => by omega)
        exact ⟨b, j1f b (ev_pos c3 (by rw [decide_eq_false c1]; exact e)), hb⟩
    · obtain ⟨b, e, hb⟩ := loop (fun h => absurd h c3)
      exact ⟨b, j1f b (ev_neg c3 e), hb⟩
  by_cases h4 : m = 4
  · by_cases hp : 0 ≤ p ∧ p ≤ 100000
    · obtain ⟨b, e, hb⟩ := fin ⟨fun _ => hp, fun h => absurd h4 h⟩
      exact ⟨b, top b (j0f _ ((ev_pos h4 (ev_bind0 (impl_price_eq _) (ev_pos (decide_eq_true hp) e))))), hb⟩
    · exact bad _ (top false (j0f _ ((ev_pos h4 (ev_bind0 (impl_price_eq _) (ev_neg (by rw [decide_eq_true_eq]; exact hp) j1t)))))) (fun h => hp (h.2.2.1 h4))
  · by_cases hp : p = 0
    · by_cases h0 : o = 0
      · obtain ⟨b, e, hb⟩ := fin ⟨fun h => absurd h h4, fun _ => ⟨hp, h0⟩⟩
        exact ⟨b, top b (j0f _ ((ev_neg h4 (ev_pos hp (by rw [show (o != 0) = false by rw [h0]; rfl]; exact e))))), hb⟩
      · exact bad _ (top false (j0f _ ((ev_neg h4 (ev_pos hp (by rw [show (o != 0) = true from bne_iff_ne.mpr h0]; exact j1t)))))) (fun h => h0 (h.2.2.2.1 h4).2)
    · exact bad _ (top false (j0f _ ((ev_neg h4 (ev_neg hp j1t))))) (fun h => hp (h.2.2.2.1 h4).1)
theorem sums_ev (l : List TT) (hl : l.length ≤ 1000) (hb : ∀ x ∈ l, (0 ≤ x.f0 ∧ x.f0 ≤ 1000000) ∧ 0 ≤ x.f1 ∧ x.f1 ≤ 100000000000) : Ev (fun k => spec_l16Sums.f k l) (qsum l, csum l) := by
  have key : ∀ (rest pre : List TT) (a c : Int), l = pre ++ rest → 0 ≤ a → a ≤ 1000000 * pre.length → 0 ≤ c → c ≤ 100000000000 * pre.length → Ev (fun k => spec_l16Sums.l0 k l a c (pre.length : Int)) (a + qsum rest, c + csum rest) := by
    intro rest
    induction rest with
    | nil =>
      intro pre a c h a0 a1 c0 c1
      simp only [qsum, csum, Int.add_zero]
      exact Ev.step (fun k => by rw [spec_l16Sums.l0]) (ev_neg (by rw [h, List.append_nil]; omega) (Ev.now _))
    | cons x rest ih =>
      intro pre a c h a0 a1 c0 c1
      have hlen : (l.length : Int) = (pre.length : Int) + (rest.length : Int) + 1 := by rw [h, List.length_append, List.length_cons]; omega
      have hrd : rd_T59 l (pre.length : Int) = x := by rw [h]; exact rd_mid pre rest x
      have hx := hb x (by rw [h]; simp)
      have h0 := hx.1
      have h1 := hx.2
      have hpl : ((pre ++ [x]).length : Int) = (pre.length : Int) + 1 := by simp
      have e := ih (pre ++ [x]) (a + x.f0) (c + x.f1) (by rw [h]; simp) (by omega) (by omega) (by omega) (by omega)
      have b1 : (pre.length : Int) < (l.length : Int) := by omega
      have b2 : 0 ≤ (pre.length : Int) := by omega
      have b3 : (pre.length : Int) + 1 ≤ 9223372036854775807 := by omega
      have b4 : a + x.f0 ≤ 9223372036854775807 := by omega
      have b5 : c + x.f1 ≤ 9223372036854775807 := by omega
      have b6 : -9223372036854775808 ≤ a + x.f0 := by omega
      have b7 : -9223372036854775808 ≤ c + x.f1 := by omega
      have b8 : -9223372036854775808 ≤ (pre.length : Int) + 1 := by omega
      have b9 : a + (x.f0 + qsum rest) = a + x.f0 + qsum rest := by omega
      have b0 : c + (x.f1 + csum rest) = c + x.f1 + csum rest := by omega
      have wi : wrap64 ((pre.length : Int) + 1) = ((pre ++ [x]).length : Int) := by rw [wrap_id b8 b3, hpl]
      have wa : wrap64 (a + x.f0) = a + x.f0 := wrap_id b6 b4
      have wc : wrap64 (c + x.f1) = c + x.f1 := wrap_id b7 b5
      refine Ev.step (fun k => by rw [spec_l16Sums.l0]) ?_
      refine ev_pos b1 (ev_pos b2 ?_)
      simp only [hrd, wa, wc, wi, qsum, csum]
      rw [b9, b0]
      exact e
  have e := key l [] 0 0 rfl (by omega) (by simp) (by omega) (by simp)
  simp only [Int.zero_add] at e
  exact e
theorem sw_loop (m p o : Int) (l : List TT) (hl : l.length ≤ 300) (F : Nat → Option Bool) (b : Bool) (hF : (∀ x ∈ l, Lok p m x) → Ev F b)
    (hl0 : ∀ k i, spec_WorthOk.l0 (k + 1) i m p l o = if i < (l.length : Int) then (if 0 ≤ i then ((spec_l16Lay.f ((rd_T59 l i).f0) ((rd_T59 l i).f1)).bind fun t114 => (if t114 = true then (if m = 4 then (if ((rd_T59 l i).f1) = (wrap64 (((rd_T59 l i).f0) * p)) then (spec_WorthOk.l0 k (wrap64 (i + 1)) m p l o) else (some false)) else (spec_WorthOk.l0 k (wrap64 (i + 1)) m p l o)) else (some false))) else (none)) else F k) :
    ∀ (rest pre : List TT), l = pre ++ rest → (∀ x ∈ pre, Lok p m x) → ∃ b', Ev (fun k => spec_WorthOk.l0 k (pre.length : Int) m p l o) b' ∧ (b' = true ↔ (∀ x ∈ l, Lok p m x) ∧ b = true)
  | [], pre, h, hp => by
    have hall : ∀ x ∈ l, Lok p m x := by rw [h, List.append_nil]; exact hp
    refine ⟨b, ?_, ⟨fun hb => ⟨hall, hb⟩, fun hb => hb.2⟩⟩
    refine Ev.step (fun k => hl0 k _) ?_
    exact ev_neg (by rw [h, List.append_nil]; omega) (hF hall)
  | x :: rest, pre, h, hp => by
    have hlen : (l.length : Int) = (pre.length : Int) + (rest.length : Int) + 1 := by rw [h, List.length_append, List.length_cons]; omega
    have hrd : rd_T59 l (pre.length : Int) = x := by rw [h]; exact rd_mid pre rest x
    have hmem : x ∈ l := by rw [h]; simp
    have wi : wrap64 ((pre.length : Int) + 1) = ((pre ++ [x]).length : Int) := by rw [wrap_id (by omega) (by omega), List.length_append]; simp
    by_cases hL : (1 ≤ x.f0 ∧ x.f0 ≤ 1000000) ∧ 0 ≤ x.f1 ∧ x.f1 ≤ 100000000000
    case neg =>
      refine ⟨false, ?_, ⟨fun h => (by cases h), fun hh => absurd ⟨(hh.1 x hmem).1, (hh.1 x hmem).2.1⟩ hL⟩⟩
      refine Ev.step (fun k => hl0 k _) (ev_pos (by omega) (ev_pos (by omega) ?_))
      simp only [hrd]
      exact ev_bind0 (layOk2_eq _ _) (ev_neg (by rw [decide_eq_true_eq]; exact hL) (Ev.now _))
    have next : Lok p m x → ∃ b', Ev (fun k => spec_WorthOk.l0 k (wrap64 ((pre.length : Int) + 1)) m p l o) b' ∧ (b' = true ↔ (∀ x ∈ l, Lok p m x) ∧ b = true) := by
      intro hx
      rw [wi]
      exact sw_loop m p o l hl F b hF hl0 rest (pre ++ [x]) (by rw [h]; simp) (fun y hy => by
        rcases List.mem_append.1 hy with hy | hy
        · exact hp y hy
        · rw [List.mem_singleton.1 hy]; exact hx)
    by_cases h4 : m = 4
    · by_cases hq : x.f1 = wrap64 (x.f0 * p)
      · obtain ⟨b', e, hb⟩ := next ⟨hL.1, hL.2, fun _ => hq⟩
        refine ⟨b', ?_, hb⟩
        refine Ev.step (fun k => hl0 k _) (ev_pos (by omega) (ev_pos (by omega) ?_))
        simp only [hrd]
        exact ev_bind0 (layOk2_eq _ _) (ev_pos (decide_eq_true hL) (ev_pos h4 (ev_pos hq e)))
      · refine ⟨false, ?_, ⟨fun h => (by cases h), fun hh => absurd ((hh.1 x hmem).2.2 h4) hq⟩⟩
        refine Ev.step (fun k => hl0 k _) (ev_pos (by omega) (ev_pos (by omega) ?_))
        simp only [hrd]
        exact ev_bind0 (layOk2_eq _ _) (ev_pos (decide_eq_true hL) (ev_pos h4 (ev_neg hq (Ev.now _))))
    · obtain ⟨b', e, hb⟩ := next ⟨hL.1, hL.2, fun h => absurd h h4⟩
      refine ⟨b', ?_, hb⟩
      refine Ev.step (fun k => hl0 k _) (ev_pos (by omega) (ev_pos (by omega) ?_))
      simp only [hrd]
      exact ev_bind0 (layOk2_eq _ _) (ev_pos (decide_eq_true hL) (ev_neg h4 e))
theorem spec_l12Price_eq (a : Int) : spec_l12Price.f a = some (decide (0 ≤ a ∧ a ≤ 100000)) := by
  unfold spec_l12Price.f
  rw [spec_l1In_eq, Option.bind_some]
theorem sw_tail (l : List TT) (hl : l.length ≤ 300) (m p : Int) (hb : ∀ x ∈ l, Lok p m x) : ∃ b, Ev (fun k => (spec_l16Sums.f k l).bind fun bt119 => ((spec_l12Qty.f bt119.1).bind fun t121 => (if t121 = true then ((spec_l1Amount.f bt119.2).bind fun t122 => (some t122)) else (some false)))) b ∧ (b = true ↔ qsum l ≤ 1000000 ∧ csum l ≤ 100000000000) := by
  have h0 := sums_nonneg hb
  have e := sums_ev l (by omega) (fun x hx => ⟨⟨by have := (hb x hx).1; omega, (hb x hx).1.2⟩, (hb x hx).2.1⟩)
  by_cases hq : 0 ≤ qsum l ∧ qsum l ≤ 1000000
  · refine ⟨decide (-100000000000 ≤ csum l ∧ csum l ≤ 100000000000), Ev.bind e (ev_bind0 (spec_l12Qty_eq _) (ev_pos (decide_eq_true hq) (ev_bind0 (spec_l1Amount_eq _) (Ev.now _)))), ?_⟩
    rw [decide_eq_true_eq]
    omega
  · refine ⟨false, Ev.bind e (ev_bind0 (spec_l12Qty_eq _) (ev_neg (by rw [decide_eq_true_eq]; exact hq) (Ev.now _))), ?_⟩
    exact ⟨fun h => (by cases h), fun h => absurd ⟨h0.1, h.1⟩ hq⟩
theorem sw (m p : Int) (l : List TT) (o : Int) : ∃ b, Ev (fun k => spec_WorthOk.f k m p l o) b ∧ (b = true ↔ WOK m p l o ∧ l.length ≤ 300) := by
  have bad : ∀ F : Nat → Option Bool, Ev F false → ¬ (WOK m p l o ∧ l.length ≤ 300) → ∃ b, Ev F b ∧ (b = true ↔ WOK m p l o ∧ l.length ≤ 300) := fun F hF hn => ⟨false, hF, ⟨fun h => (by cases h), fun h => absurd h hn⟩⟩
  have j0t : Ev (fun k => spec_WorthOk.j0 k true m p l o) false := Ev.step (fun k => by rw [spec_WorthOk.j0]) (ev_pos rfl (Ev.now _))
  have j2t : Ev (fun k => spec_WorthOk.j2 k true m p l o) false := Ev.step (fun k => by rw [spec_WorthOk.j2]) (ev_pos rfl (Ev.now _))
  have j3t : Ev (fun k => spec_WorthOk.j3 k true m p l o) false := Ev.step (fun k => by rw [spec_WorthOk.j3]) (ev_pos rfl (Ev.now _))
  unfold spec_WorthOk.f
  by_cases hm : 1 ≤ m ∧ m ≤ 4
  case neg => exact bad _ (ev_bind0 (spec_l1In_eq _ _ _) (ev_neg (by rw [decide_eq_true_eq]; exact hm) j0t)) (fun h => hm h.1.1)
  by_cases hlen : (l.length : Int) > 300
  · exact bad _ (ev_bind0 (spec_l1In_eq _ _ _) (ev_pos (decide_eq_true hm) (ev_pos hlen j0t))) (fun h => by have := h.2; omega)
  have hl : l.length ≤ 300 := by omega
  have top : (m ≥ 3 → (l.length : Int) ≤ 1) → ∀ b, Ev (fun k => spec_WorthOk.j0 k false m p l o) b → Ev (fun k => (spec_l1In.f m 1 4).bind fun t112 => (if t112 = true then (if (l.length : Int) > 300 then (spec_WorthOk.j0 k true m p l o) else (if m ≥ 3 then (spec_WorthOk.j0 k (decide ((l.length : Int) > 1)) m p l o) else (spec_WorthOk.j0 k false m p l o))) else (spec_WorthOk.j0 k true m p l o))) b := by
    intro h3 b hb
    refine ev_bind0 (spec_l1In_eq _ _ _) (ev_pos (decide_eq_true hm) (ev_neg hlen ?_))
    by_cases c3 : m ≥ 3
    · exact ev_pos c3 (by rw [decide_eq_false (show ¬ ((l.length : Int) > 1) by have := h3 c3; omega)]; exact hb)
    · exact ev_neg c3 hb
  by_cases h3 : m ≥ 3 → (l.length : Int) ≤ 1
  case neg =>
    have c3 : m ≥ 3 := Classical.byContradiction fun h => h3 (fun h' => absurd h' h)
    have c1 : (l.length : Int) > 1 := Classical.byContradiction fun h => h3 (fun _ => by omega)
    exact bad _ (ev_bind0 (spec_l1In_eq _ _ _) (ev_pos (decide_eq_true hm) (ev_neg hlen (ev_pos c3 (by rw [decide_eq_true c1]; exact j0t))))) (fun h => h3 h.1.2.2.2.2.1)
  have run : ∀ b, ((∀ x ∈ l, Lok p m x) → Ev (fun k => if m = 4 then ((spec_l12Price.f p).bind fun t117 => (if t117 = true then ((spec_l1Amount.f o).bind fun t118 => (spec_WorthOk.j2 k (!t118) m p l o)) else (spec_WorthOk.j2 k true m p l o))) else (if p = 0 then (spec_WorthOk.j3 k (o != 0) m p l o) else (spec_WorthOk.j3 k true m p l o))) b) → ∃ b', Ev (fun k => spec_WorthOk.j0 k false m p l o) b' ∧ (b' = true ↔ (∀ x ∈ l, Lok p m x) ∧ b = true) := by
    intro b hb
    obtain ⟨b', e, h⟩ := sw_loop m p o l hl _ b hb (fun k i => by rw [spec_WorthOk.l0]) l [] rfl (fun x hx => by cases hx)
    have e2 : Ev (fun k => spec_WorthOk.j0 k false m p l o) b' := by
      refine Ev.step (fun k => by rw [spec_WorthOk.j0]) ?_
      exact ev_neg (by decide) e
    exact ⟨b', e2, h⟩
  by_cases hall : ∀ x ∈ l, Lok p m x
  case neg =>
    obtain ⟨b', e, h⟩ := run false (fun h => absurd h hall)
    refine ⟨b', top h3 b' e, ?_⟩
    rw [h]
    exact ⟨fun h => (by cases h.2), fun h => absurd h.1.2.2.2.2.2.1 hall⟩
  have fin : ∀ b, Ev (fun k => if m = 4 then ((spec_l12Price.f p).bind fun t117 => (if t117 = true then ((spec_l1Amount.f o).bind fun t118 => (spec_WorthOk.j2 k (!t118) m p l o)) else (spec_WorthOk.j2 k true m p l o))) else (if p = 0 then (spec_WorthOk.j3 k (o != 0) m p l o) else (spec_WorthOk.j3 k true m p l o))) b → (b = true ↔ (-100000000000 ≤ o ∧ o ≤ 100000000000) ∧ (m = 4 → 0 ≤ p ∧ p ≤ 100000) ∧ (m ≠ 4 → p = 0 ∧ o = 0) ∧ qsum l ≤ 1000000 ∧ csum l ≤ 100000000000) → ∃ b', Ev (fun k => (spec_l1In.f m 1 4).bind fun t112 => (if t112 = true then (if (l.length : Int) > 300 then (spec_WorthOk.j0 k true m p l o) else (if m ≥ 3 then (spec_WorthOk.j0 k (decide ((l.length : Int) > 1)) m p l o) else (spec_WorthOk.j0 k false m p l o))) else (spec_WorthOk.j0 k true m p l o))) b' ∧ (b' = true ↔ WOK m p l o ∧ l.length ≤ 300) := by
    intro b e hb
    obtain ⟨b', e', h⟩ := run b (fun _ => e)
    refine ⟨b', top h3 b' e', ?_⟩
    rw [h, hb]
    exact ⟨fun h => ⟨⟨hm, h.2.1, h.2.2.1, h.2.2.2.1, h3, hall, h.2.2.2.2.1, h.2.2.2.2.2⟩, hl⟩, fun h => ⟨hall, h.1.2.1, h.1.2.2.1, h.1.2.2.2.1, h.1.2.2.2.2.2.2.1, h.1.2.2.2.2.2.2.2⟩⟩
  obtain ⟨bt, et, ht⟩ := sw_tail l hl m p hall
  by_cases h4 : m = 4
  · by_cases hp : 0 ≤ p ∧ p ≤ 100000
    · by_cases ho : -100000000000 ≤ o ∧ o ≤ 100000000000
      · refine fin bt (ev_pos h4 (ev_bind0 (spec_l12Price_eq _) (ev_pos (decide_eq_true hp) (ev_bind0 (spec_l1Amount_eq _) ?_)))) ?_
        · rw [decide_eq_true ho]
          exact Ev.step (fun k => by rw [spec_WorthOk.j2]) (ev_neg (by decide) et)
        · rw [ht]
          exact ⟨fun h => ⟨ho, fun _ => hp, fun h' => absurd h4 h', h.1, h.2⟩, fun h => ⟨h.2.2.2.1, h.2.2.2.2⟩⟩
      · refine fin false (ev_pos h4 (ev_bind0 (spec_l12Price_eq _) (ev_pos (decide_eq_true hp) (ev_bind0 (spec_l1Amount_eq _) ?_)))) ⟨fun h => (by cases h), fun h => absurd h.1 ho⟩
        rw [decide_eq_false ho]
        exact j2t
    · exact fin false (ev_pos h4 (ev_bind0 (spec_l12Price_eq _) (ev_neg (by rw [decide_eq_true_eq]; exact hp) j2t))) ⟨fun h => (by cases h), fun h => absurd (h.2.1 h4) hp⟩
  · by_cases hp : p = 0
    · by_cases h0 : o = 0
      · refine fin bt (ev_neg h4 (ev_pos hp ?_)) ?_
        · rw [show (o != 0) = false by rw [h0]; rfl]
          exact Ev.step (fun k => by rw [spec_WorthOk.j3]) (ev_neg (by decide) et)
        · rw [ht]
          exact ⟨fun h => ⟨by omega, fun h' => absurd h' h4, fun _ => ⟨hp, h0⟩, h.1, h.2⟩, fun h => ⟨h.2.2.2.1, h.2.2.2.2⟩⟩
      · exact fin false (ev_neg h4 (ev_pos hp (by rw [show (o != 0) = true from bne_iff_ne.mpr h0]; exact j3t))) ⟨fun h => (by cases h), fun h => absurd (h.2.2.1 h4).2 h0⟩
    · exact fin false (ev_neg h4 (ev_neg hp j3t)) ⟨fun h => (by cases h), fun h => absurd (h.2.2.1 h4).1 hp⟩
/-- The lays behind a taking in, and what is off. -/
def newL (m p : Int) (l : List TT) (q c : Int) : List TT := if m < 3 then l ++ [⟨q, c⟩] else if m = 4 then [⟨qsum l + q, wrap64 ((qsum l + q) * p)⟩] else [⟨qsum l + q, csum l + c⟩]
def newO (m p o q c : Int) : Int := if m = 4 then wrap64 (wrap64 (o + c) - wrap64 (q * p)) else o
theorem qsum_append (l : List TT) (x : TT) : qsum (l ++ [x]) = qsum l + x.f0 := by
  induction l with
  | nil => simp [qsum]
  | cons y l ih => simp only [List.cons_append, qsum, ih]; omega
theorem csum_append (l : List TT) (x : TT) : csum (l ++ [x]) = csum l + x.f1 := by
  induction l with
  | nil => simp [csum]
  | cons y l ih => simp only [List.cons_append, csum, ih]; omega
theorem getD0 {x : TT} {l : List TT} : rd_T59 (x :: l) 0 = x := rfl
theorem in_ok (m p : Int) (l : List TT) (o q c : Int) (hl : l.length ≤ 1048576) (hw : WOK m p l o) (hq : 1 ≤ q ∧ q ≤ 1000000) (hc : 0 ≤ c ∧ c ≤ 100000000000) : impl_in.f m m p l o q c = some (m, p, newL m p l q c, newO m p o q c) := by
  obtain ⟨hm, ho, hp4, hpn, h3, hall, hqs, hcs⟩ := hw
  have h0 := sums_nonneg hall
  have old : ∀ z, impl_oldest_in.f z m p l o q c = some (m, p, l ++ [⟨q, c⟩], o) := by
    intro z
    unfold impl_oldest_in.f
    rw [if_pos (by omega)]
  have mid : ∀ z c', 3 ≤ m → 0 ≤ c' → c' ≤ 100000000000 → impl_middle_in.f z m p l o q c' = some (m, p, [⟨qsum l + q, csum l + c'⟩], o) := by
    intro z c' hm3 hc0 hc1
    have hl1 := h3 hm3
    unfold impl_middle_in.f
    cases l with
    | nil =>
      have e1 : wrap64 (0 + q) = 0 + q := wrap_id (by omega) (by omega)
      have e2 : wrap64 (0 + c') = 0 + c' := wrap_id (by omega) (by omega)
      rw [if_pos (by rfl)]
      simp [getD0, qsum, csum, e1, e2, wrap_id (x := q) (by omega) (by omega), wrap_id (x := c') (by omega) (by omega)]
    | cons x r =>
      cases r with
      | cons y r => simp at hl1; omega
      | nil =>
        simp only [qsum, csum, Int.add_zero] at h0 hqs hcs ⊢
        have e1 : wrap64 (x.f0 + q) = x.f0 + q := wrap_id (by omega) (by omega)
        have e2 : wrap64 (x.f1 + c') = x.f1 + c' := wrap_id (by omega) (by omega)
        rw [if_neg (by simp), if_pos (by simp)]
        simp [getD0, e1, e2]
  unfold impl_in.f newL newO
  by_cases m1 : m = 1
  · rw [if_pos m1, old, if_pos (by omega), if_neg (by omega)]
  rw [if_neg m1]
  by_cases m2 : m = 2
  · rw [if_pos m2]
    unfold impl_newest_in.f
    rw [old, Option.bind_some, if_pos (by omega), if_neg (by omega)]
  rw [if_neg m2]
  by_cases m3 : m = 3
  · rw [if_pos m3, mid _ _ (by omega) hc.1 hc.2, if_neg (by omega), if_neg (by omega), if_neg (by omega)]
  rw [if_neg m3]
  have m4 : m = 4 := by omega
  have hp := hp4 m4
  unfold impl_fixed_in.f
  have u0 : 0 ≤ q * p := Int.mul_nonneg (by omega) (by omega)
  have u1 : q * p ≤ 1000000 * 100000 := Int.mul_le_mul hq.2 hp.2 (by omega) (by omega)
  have v0 : 0 ≤ qsum l * p := Int.mul_nonneg (by omega) (by omega)
  have v1 : qsum l * p ≤ 1000000 * 100000 := Int.mul_le_mul hqs hp.2 (by omega) (by omega)
  have wu : wrap64 (q * p) = q * p := wrap_id (by omega) (by omega)
  rw [wu, mid _ _ (by omega) u0 (by omega), Option.bind_some, if_neg (by omega), if_pos m4, if_pos m4]
  have hcq : csum l = qsum l * p := by
    cases l with
    | nil => simp [qsum, csum]
    | cons x r =>
      cases r with
      | cons y r => have := h3 (by omega); simp at this; omega
      | nil =>
        have hx := (hall x (by simp)).2.2 m4
        simp only [qsum, csum, Int.add_zero] at v0 v1 ⊢
        rw [hx, wrap_id (by omega) (by omega)]
  have e1 : wrap64 ((qsum l + q) * p) = csum l + q * p := by rw [hcq, ← Int.add_mul, wrap_id (by rw [Int.add_mul]; omega) (by rw [Int.add_mul]; omega)]
  have e2 : wrap64 (c - q * p) = c - q * p := wrap_id (by omega) (by omega)
  have e3 : wrap64 (o + c) = o + c := wrap_id (by omega) (by omega)
  have e4 : wrap64 (o + (c - q * p)) = wrap64 (o + c - q * p) := by rw [show o + (c - q * p) = o + c - q * p by omega]
  simp only [e1, wu, e2, e3, e4]
theorem newL_len (m p : Int) (l : List TT) (q c : Int) : (newL m p l q c).length ≤ l.length + 1 := by
  unfold newL
  by_cases h : m < 3
  · rw [if_pos h]; simp
  · rw [if_neg h]
    by_cases h4 : m = 4
    · rw [if_pos h4]; simp
    · rw [if_neg h4]; simp
theorem copy1 (m p o : Int) (l : List TT) (hl : l.length ≤ 1048576) : impl_copyWorth.f m p l o = some (m, p, l, o) := by
  unfold impl_copyWorth.f
  rw [Option.bind_some, if_pos (by simp; omega), List.nil_append]
theorem copy2 (m p o : Int) (l : List TT) (hl : l.length ≤ 1048576) : spec_l16Copy.f m p l o = some (m, p, l, o) := by
  unfold spec_l16Copy.f
  rw [Option.bind_some, if_pos (by simp; omega), List.nil_append]
abbrev Ans := Int × Int × List TT × Int × Bool
theorem take_ev (m p : Int) (l : List TT) (o q c : Int) (hl : l.length ≤ 1048576) : ∃ r : Ans, Ev (fun k => impl_TakeIn.f k m p l o q c) r ∧ Ev (fun k => spec_TakeIn.f k m p l o q c) r ∧ r.2.2.1.length ≤ 300 := by
  obtain ⟨bi, ei, hi⟩ := iw m p l o (by omega)
  obtain ⟨bs, es, hs⟩ := sw m p l o
  have i0t : Ev (fun k => impl_takeIn.j0 k q c true m p l o) (0, 0, [], 0, false) := Ev.step (fun k => by rw [impl_takeIn.j0]) (ev_pos rfl (Ev.now _))
  have s0t : Ev (fun k => spec_TakeIn.j0 k q c true m p l o) (0, 0, [], 0, false) := Ev.step (fun k => by rw [spec_TakeIn.j0]) (ev_pos rfl (Ev.now _))
  have iok : ∀ r : Ans, bi = true → Ev (fun k => impl_takeIn.f k m p l o q c) r → Ev (fun k => impl_TakeIn.f k m p l o q c) r := by
    intro r hb h
    unfold impl_TakeIn.f
    exact Ev.bind ei (ev_pos hb (Ev.bind h (Ev.now _)))
  by_cases W : WOK m p l o
  case neg =>
    have b1 : ¬ bi = true := fun h => W (hi.1 h)
    have b2 : ¬ bs = true := fun h => W (hs.1 h).1
    refine ⟨(0, 0, [], 0, false), ?_, ?_, by simp⟩
    · unfold impl_TakeIn.f
      exact Ev.bind ei (ev_neg b1 (Ev.now _))
    · unfold spec_TakeIn.f
      exact Ev.bind es (ev_neg b2 s0t)
  have b1 := hi.2 W
  by_cases hq : 1 ≤ q ∧ q ≤ 1000000
  case neg =>
    refine ⟨(0, 0, [], 0, false), iok _ b1 ?_, ?_, by simp⟩
    · unfold impl_takeIn.f
      exact ev_bind0 (impl_between_eq _ _ _) (ev_neg (by rw [decide_eq_true_eq]; exact hq) i0t)
    · unfold spec_TakeIn.f
      refine Ev.bind es (ev_ite (fun _ => ?_) (fun _ => s0t))
      exact ev_bind0 (spec_l1In_eq _ _ _) (ev_neg (by rw [decide_eq_true_eq]; exact hq) s0t)
  by_cases hc : 0 ≤ c ∧ c ≤ 100000000000
  case neg =>
    refine ⟨(0, 0, [], 0, false), iok _ b1 ?_, ?_, by simp⟩
    · unfold impl_takeIn.f
      exact ev_bind0 (impl_between_eq _ _ _) (ev_pos (decide_eq_true hq) (ev_bind0 (impl_money_eq _) (by rw [decide_eq_false hc]; exact i0t)))
    · unfold spec_TakeIn.f
      refine Ev.bind es (ev_ite (fun _ => ?_) (fun _ => s0t))
      exact ev_bind0 (spec_l1In_eq _ _ _) (ev_pos (decide_eq_true hq) (ev_bind0 (spec_l1In_eq _ _ _) (by rw [decide_eq_false hc]; exact s0t)))
  have hnl := newL_len m p l q c
  obtain ⟨ni, eni, hni⟩ := iw m p (newL m p l q c) (newO m p o q c) (by omega)
  obtain ⟨ns, ens, hns⟩ := sw m p (newL m p l q c) (newO m p o q c)
  have iin : ∀ r : Ans, Ev (fun k => if ((newL m p l q c).length : Int) > 300 then (some (0, 0, ([] : List TT), 0, false)) else ((impl_WorthOk.f k m p (newL m p l q c) (newO m p o q c)).bind fun t249 => (if t249 = true then (some (m, p, newL m p l q c, newO m p o q c, true)) else (some (0, 0, ([] : List TT), 0, false))))) r → Ev (fun k => impl_TakeIn.f k m p l o q c) r := by
    intro r h
    refine iok r b1 ?_
    unfold impl_takeIn.f
    refine ev_bind0 (impl_between_eq _ _ _) (ev_pos (decide_eq_true hq) (ev_bind0 (impl_money_eq _) ?_))
    rw [decide_eq_true hc]
    refine Ev.step (fun k => by rw [impl_takeIn.j0]) (ev_neg (by decide) ?_)
    refine ev_bind0 (show impl_methodOf.f m = some m from rfl) ?_
    refine ev_bind0 (copy1 m p o l hl) ?_
    exact ev_bind0 (in_ok m p l o q c hl W hq hc) h
  by_cases hlen : l.length ≤ 300
  case neg =>
    have m3 : m < 3 := Classical.byContradiction fun h => by have := W.2.2.2.2.1 (by omega); omega
    have b2 : ¬ bs = true := fun h => hlen (hs.1 h).2
    refine ⟨(0, 0, [], 0, false), iin _ (ev_pos ?_ (Ev.now _)), ?_, by simp⟩
    · unfold newL
      rw [if_pos m3]
      simp
      omega
    · unfold spec_TakeIn.f
      exact Ev.bind es (ev_neg b2 s0t)
  have b2 := hs.2 ⟨W, hlen⟩
  have sin : ∀ r : Ans, Ev (fun k => (spec_WorthOk.f k m p (newL m p l q c) (newO m p o q c)).bind fun t155 => (if t155 = true then (some (m, p, newL m p l q c, newO m p o q c, true)) else (some (0, 0, ([] : List TT), 0, false)))) r → Ev (fun k => spec_TakeIn.f k m p l o q c) r := by
    intro r h
    have hall := W.2.2.2.2.2.1
    have hsum := sums_ev (l ++ [(⟨q, c⟩ : TT)]) (by simp; omega) (fun x hx => by
      rcases List.mem_append.1 hx with hx | hx
      · have := hall x hx
        exact ⟨⟨by have := this.1; omega, this.1.2⟩, this.2.1⟩
      · rw [List.mem_singleton.1 hx]
        exact ⟨⟨by show 0 ≤ q; omega, hq.2⟩, hc⟩)
    rw [qsum_append, csum_append] at hsum
    unfold spec_TakeIn.f
    refine Ev.bind es (ev_pos b2 (ev_bind0 (spec_l1In_eq _ _ _) (ev_pos (decide_eq_true hq) (ev_bind0 (spec_l1In_eq _ _ _) ?_))))
    rw [decide_eq_true hc]
    refine Ev.step (fun k => by rw [spec_TakeIn.j0]) (ev_neg (by decide) ?_)
    refine ev_bind0 (copy2 m p o l hl) (ev_pos (by show l.length < _; omega) (ev_bind0 rfl ?_))
    unfold newL newO at h
    by_cases m3 : m < 3
    · rw [if_pos m3, if_neg (by omega)] at h
      exact ev_neg (by omega) h
    · refine ev_pos (by omega) (Ev.bind hsum ?_)
      rw [if_neg m3] at h
      by_cases m4 : m = 4
      · rw [if_pos m4, if_pos m4] at h
        exact ev_pos m4 (ev_bind0 rfl h)
      · rw [if_neg m4, if_neg m4] at h
        exact ev_neg m4 (ev_bind0 rfl h)
  by_cases hN : WOK m p (newL m p l q c) (newO m p o q c) ∧ (newL m p l q c).length ≤ 300
  · have n1 := hni.2 hN.1
    have n2 := hns.2 hN
    exact ⟨(m, p, newL m p l q c, newO m p o q c, true), iin _ (ev_neg (by omega) (Ev.bind eni (ev_pos n1 (Ev.now _)))), sin _ (Ev.bind ens (ev_pos n2 (Ev.now _))), hN.2⟩
  · have n2 : ¬ ns = true := fun h => hN (hns.1 h)
    refine ⟨(0, 0, [], 0, false), iin _ ?_, sin _ (Ev.bind ens (ev_neg n2 (Ev.now _))), by simp⟩
    by_cases h3 : ((newL m p l q c).length : Int) > 300
    · exact ev_pos h3 (Ev.now _)
    · exact ev_neg h3 (Ev.bind eni (ev_neg (fun h => hN ⟨hni.1 h, by omega⟩) (Ev.now _)))
theorem mark_ev (x y o : Int) (l : List TT) (hl : l.length ≤ 1048576) : Ev (fun k => laws_markWorth.f k x y l o 1) (1 + (l.length : Int) * 2, (List.range l.length).map fun i => mk59 (1 + ((i : Nat) : Int) * 2)) := by
  unfold laws_markWorth.f
  exact Ev.bind (laws_markLayS_eq l 1 (by omega) (by omega) (by omega)) (Ev.now _)
theorem held_ev (x y o : Int) (n : Nat) (hl : n ≤ 1048576) : Ev (fun k => laws_heldWorth.f k x y ((List.range n).map fun i => mk59 (1 + ((i : Nat) : Int) * 2)) o 1) (1 + (n : Int) * 2) := by
  unfold laws_heldWorth.f
  exact Ev.bind (laws_heldLayS_eq 1 n (by omega) (by omega) (by omega)) (ev_neg (by omega) (Ev.now _))
theorem eq_ev (x y o : Int) (l : List TT) (hl : l.length ≤ 1048576) : Ev (fun k => laws_eqWorth.f k x y l o x y l o) true := laws_eqWorth_ev ⟨x, y, l, o⟩ (by show (l.length : Int) ≤ 1048576; omega)
theorem FnExactTakeIn : laws_FnExactTakeIn.Pure := by
  intro m p l o q c hg0 hg1 hg2 hg3 hg4 hg5
  apply Ev.rounds
  unfold laws_FnExactTakeIn.f
  obtain ⟨s, hs, h⟩ := laws_szWorth_ev ⟨m, p, l, o⟩ 1048576 (by omega) (by omega) ⟨hg0, hg1, hg2, hg3⟩
  refine Ev.bind hs ?_
  rcases h with h | ⟨n0, n1, hB0⟩
  · exact ev_pos h (Ev.now _)
  refine ev_neg (by omega) ?_
  have hB1 : (l.length : Int) ≤ 1048576 := hB0
  have to0 := laws_toWorth_ev ⟨m, p, l, o⟩ hB0
  have hml : (l.map cv73).length ≤ 1048576 := by rw [List.length_map]; omega
  obtain ⟨r, e1, e2, hr⟩ := take_ev m p (l.map cv73) o q c hml
  have er := eq_ev r.1 r.2.1 r.2.2.2.1 r.2.2.1 (by omega)
  have hbb : (r.2.2.2.2 != r.2.2.2.2) = false := by cases r.2.2.2.2 <;> rfl
  refine Ev.bind to0 (Ev.bind e2 (Ev.bind to0 (Ev.bind e1 (Ev.bind er (ev_pos rfl ?_)))))
  refine Ev.step (fun k => by rw [laws_FnExactTakeIn.j0]) ?_
  simp only [hbb]
  refine ev_neg (by decide) ?_
  refine Ev.bind to0 (Ev.bind (eq_ev m p o _ hml) (ev_pos rfl ?_))
  refine Ev.bind (mark_ev m p o _ hml) (ev_neg (by omega) (Ev.bind er (ev_pos rfl ?_)))
  refine Ev.step (fun k => by rw [laws_FnExactTakeIn.j1]) ?_
  have hh := held_ev r.1 r.2.1 r.2.2.2.1 r.2.2.1.length (by omega)
  refine ev_neg (by decide) (Ev.bind (mark_ev _ _ _ _ (by omega)) (Ev.bind hh (ev_neg (by omega) (ev_pos rfl ?_))))
  refine Ev.bind to0 (Ev.bind e1 (Ev.bind er (ev_pos rfl ?_)))
  refine Ev.step (fun k => by rw [laws_FnExactTakeIn.j2]) ?_
  simp only [hbb]
  exact ev_neg (by decide) (Ev.bind hh (ev_neg (by omega) (ev_pos rfl (Ev.now _))))
end Go.Proofs.Ytggfggmmecbdnaa.Pure
