/- ItemsOk: the program's answer is the reference's, whatever the items. -/
import Derived.Test.YtflagondodkonaaZPFnExactItemsOkx
import Derived.Test.YtflagondodkonaaZHFnExactItemsOk
set_option linter.unusedVariables false
set_option maxHeartbeats 4000000
set_option linter.unusedSimpArgs false
set_option linter.unusedSectionVars false
namespace Go.Proofs.Ytflagondodkonaa.Pure
open Go.RowKit Go.Proofs.Ytflagondodkonaa.PFnExactItemsOk Go.Proofs.YtflagondodkonaaW.PrintWords Go.Proofs.YtflagondodkonaaW.PrintLast Go.Proofs.Ytflagondodkonaa.XEv
abbrev PP := S147
abbrev II := S143
def PartIs (i n : Int) (p : PP) : Prop := (i + 1 ≤ p.f0 ∧ p.f0 ≤ n - 1) ∧ (1 ≤ p.f1 ∧ p.f1 ≤ 1000000) ∧ (0 ≤ p.f2 ∧ p.f2 ≤ 100) ∧ (0 ≤ p.f3 ∧ p.f3 ≤ 40000) ∧ (0 ≤ p.f4 ∧ p.f4 ≤ 40000) ∧ p.f3 ≤ p.f4 ∧ (0 ≤ p.f5 ∧ p.f5 ≤ 9)
def AlsoIs (i n : Int) (p : PP) : Prop := PartIs i n p ∧ p.f2 = 0 ∧ p.f5 = 0
/-- What an item's own fields must be. -/
def HeadIs (x : II) : Prop := NameIs x.f0 ∧ (1 ≤ x.f1 ∧ x.f1 ≤ 1000000) ∧ ¬ (x.f3.length : Int) > 30 ∧ ¬ (x.f4.length : Int) > 30 ∧ (x.f2 = true → (x.f3.length : Int) ≠ 0 ∧ ¬ (x.f4.length : Int) > 0)
/-- What an item must be at its place. -/
def ItemIs (l : List II) (i : Nat) (x : II) : Prop := HeadIs x ∧ (∀ (j : Nat) (y : II), j < i → l[j]? = some y → y.f0 ≠ x.f0) ∧ (∀ p ∈ x.f3, PartIs (i : Int) (l.length : Int) p) ∧ ∀ p ∈ x.f4, AlsoIs (i : Int) (l.length : Int) p
theorem spec_part_ev (p : PP) (i n : Int) (hi0 : 0 ≤ i) (hi : i ≤ 1048576) (hn0 : 0 ≤ n) (hn : n ≤ 1048576) : ∃ b, spec_l17Part.f p.f0 p.f1 p.f2 p.f3 p.f4 p.f5 i n = some b ∧ (b = true ↔ PartIs i n p) := by
  unfold spec_l17Part.f PartIs
  have w1 : wrap64 (i + 1) = i + 1 := wrap_id (by omega) (by omega)
  have w2 : wrap64 (n - 1) = n - 1 := wrap_id (by omega) (by omega)
  simp only [w1, w2, spec_l1In_eq, spec_l2Day_eq, Option.bind_some, decide_eq_true_eq]
  clear w1 w2
  repeat' split
  all_goals (refine ⟨_, rfl, ?_⟩; (try simp only [decide_eq_true_eq, Bool.false_eq_true, false_iff]); omega)
theorem impl_part_ev (p : PP) (i n : Int) (also : Bool) (hi0 : 0 ≤ i) (hi : i ≤ 1048576) (hn0 : 0 ≤ n) (hn : n ≤ 1048576) : ∃ b, impl_partOk.f p.f0 p.f1 p.f2 p.f3 p.f4 p.f5 i n also = some b ∧ (b = true ↔ PartIs i n p ∧ (also = true → p.f2 = 0 ∧ p.f5 = 0)) := by
  unfold impl_partOk.f PartIs
  have w1 : wrap64 (i + 1) = i + 1 := wrap_id (by omega) (by omega)
  have w2 : wrap64 (n - 1) = n - 1 := wrap_id (by omega) (by omega)
  simp only [w1, w2, impl_between_eq, impl_isDay_eq, Option.bind_some, decide_eq_true_eq]
  clear w1 w2
  cases also with
  | true =>
    simp only [if_true, true_implies]
    repeat' split
    all_goals (refine ⟨_, rfl, ?_⟩; (try simp only [beq_iff_eq, decide_eq_true_eq, Bool.false_eq_true, false_iff]); omega)
  | false =>
    simp only [Bool.false_eq_true, if_false, false_implies, and_true]
    repeat' split
    all_goals (refine ⟨_, rfl, ?_⟩; (try simp only [decide_eq_true_eq, Bool.false_eq_true, false_iff, true_iff]); omega)
theorem spec_max (a b : Int) : spec_l9Max.f a b = some (if a > b then a else b) := by
  unfold spec_l9Max.f
  split <;> rfl
/-- Both sides reckon the same levels. -/
theorem levels_in (l : List II) (hl : (l.length : Int) ≤ 60) (i : Nat) (hi : i < l.length) (hp : ∀ p ∈ l[i].f3, PartIs (i : Int) (l.length : Int) p) (h30 : (l[i].f3.length : Int) ≤ 30) (R : List Int → Prop)
    (hk : ∀ lv : List Int, lv.length = l.length → (∀ v ∈ lv, 0 ≤ v ∧ v ≤ (i + 1 : Nat)) → ∃ r, R r ∧ Ev (fun k => spec_l17Levels.l0 k l lv ((i + 1 : Nat) : Int)) r ∧ Ev (fun k => impl_levels.l0 k lv l (l.length : Int) ((i + 1 : Nat) : Int)) r) :
    ∀ (d j : Nat) (lv : List Int), j + d = l[i].f3.length → lv.length = l.length → (∀ v ∈ lv, 0 ≤ v ∧ v ≤ (i + 1 : Nat)) → rd lv (i : Int) ≤ (i : Int) →
      ∃ r, R r ∧ Ev (fun k => spec_l17Levels.l1 k l lv (i : Int) (j : Int)) r ∧ Ev (fun k => impl_levels.l1 k lv (i : Int) l (l.length : Int) (i : Int) l[i].f3 (l[i].f3.length : Int) (j : Int)) r := by
  have hrd : rd_T143 l (i : Int) = l[i] := getD_at hi _
  have hA : (i : Int) < (l.length : Int) := Int.ofNat_lt.2 hi
  have hB : 0 ≤ (i : Int) := Int.natCast_nonneg i
  intro d
  induction d with
  | zero =>
    intro j lv hd hlv hb hbi
    have : j = l[i].f3.length := by omega
    obtain ⟨r, h0, h1, h2⟩ := hk lv hlv hb
    have hw : wrap64 ((i : Int) + 1) = ((i + 1 : Nat) : Int) := wrap_succ hi (by omega)
    refine ⟨r, h0, ?_, ?_⟩
    · refine Ev.step (fun k => by rw [spec_l17Levels.l1]) ?_
      simp only [hrd, hw]
      exact ev_pos hB (ev_pos hA (ev_neg (by omega) h1))
    · refine Ev.step (fun k => by rw [impl_levels.l1]) ?_
      simp only [hw]
      exact ev_neg (by omega) h2
  | succ d ih =>
    intro j lv hd hlv hb hbi
    have hj : j < l[i].f3.length := by omega
    have hrj : rd_T147 l[i].f3 (j : Int) = l[i].f3[j] := getD_at hj _
    obtain ⟨⟨p0, p1⟩, _⟩ := hp _ (List.getElem_mem hj)
    generalize l[i].f3[j] = p at hrj p0 p1
    obtain ⟨q, hq⟩ : ∃ q : Nat, p.f0 = (q : Int) := ⟨p.f0.toNat, by omega⟩
    have hql : q < lv.length := by omega
    have hqi : i < q := by omega
    have hil : i < lv.length := by omega
    have hrq : rd lv (q : Int) = lv[q] := rd_at hql
    have hri : rd lv (i : Int) = lv[i] := rd_at hil
    obtain ⟨v0, v1⟩ := hb _ (List.getElem_mem hql)
    obtain ⟨u0, u1⟩ := hb _ (List.getElem_mem hil)
    have hw1 : wrap64 (lv[i] + 1) = lv[i] + 1 := wrap_id (by omega) (by omega)
    have c1 : (j : Int) < (l[i].f3.length : Int) := Int.ofNat_lt.2 hj
    have c2 : 0 ≤ (j : Int) := Int.natCast_nonneg j
    have c3 : 0 ≤ (q : Int) := Int.natCast_nonneg q
    have c4 : (q : Int) < (lv.length : Int) := Int.ofNat_lt.2 hql
    have c5 : (i : Int) < (lv.length : Int) := Int.ofNat_lt.2 hil
    rw [hri] at hbi
    have go : ∀ v : Int, 0 ≤ v → v ≤ (i : Int) + 1 → ∃ r, R r ∧ Ev (fun k => spec_l17Levels.l1 k l (lv.set q v) (i : Int) ((j + 1 : Nat) : Int)) r ∧ Ev (fun k => impl_levels.l1 k (lv.set q v) (i : Int) l (l.length : Int) (i : Int) l[i].f3 (l[i].f3.length : Int) ((j + 1 : Nat) : Int)) r := by
      intro v w0 w1
      refine ih (j + 1) (lv.set q v) (by omega) (by rw [List.length_set]; exact hlv) (fun z hz => ?_) ?_
      · rcases List.mem_or_eq_of_mem_set hz with h | h
        · exact hb z h
        · rw [h]; omega
      · have : i < (lv.set q v).length := by rw [List.length_set]; exact hil
        rw [rd_at this, List.getElem_set_ne (by omega)]
        exact hbi
    have hw : wrap64 ((j : Int) + 1) = ((j + 1 : Nat) : Int) := wrap_succ hj (by omega)
    by_cases c : lv[q] < lv[i] + 1
    · obtain ⟨r, h0, h1, h2⟩ := go (lv[i] + 1) (by omega) (by omega)
      have e : (if lv[q] > lv[i] + 1 then lv[q] else lv[i] + 1) = lv[i] + 1 := if_neg (by omega)
      refine ⟨r, h0, ?_, ?_⟩
      · refine Ev.step (fun k => by rw [spec_l17Levels.l1]) ?_
        simp only [hrd, hrj, hq, hrq, hri, hw1, hw, spec_max, Option.bind_some, e, Int.toNat_natCast]
        exact ev_pos hB (ev_pos hA (ev_pos c1 (ev_pos c2 (ev_pos c3 (ev_pos c4 (ev_pos c5 h1))))))
      · refine Ev.step (fun k => by rw [impl_levels.l1]) ?_
        simp only [hrj, hq, hrq, hri, hw1, hw, Int.toNat_natCast]
        exact ev_pos c1 (ev_pos c2 (ev_pos c1 (ev_pos c3 (ev_pos c4 (ev_pos hB (ev_pos c5 (ev_pos c h2)))))))
    · obtain ⟨r, h0, h1, h2⟩ := go lv[q] (by omega) (by
        by_cases c6 : lv[q] = lv[i] + 1
        · omega
        · omega)
      have hset : lv.set q lv[q] = lv := by
        apply List.ext_getElem?
        intro z
        by_cases cz : q = z
        · subst cz; rw [List.getElem?_set_self hql, List.getElem?_eq_getElem hql]
        · rw [List.getElem?_set_ne cz]
      rw [hset] at h1 h2
      have e : (if lv[q] > lv[i] + 1 then lv[q] else lv[i] + 1) = lv[q] := by split <;> omega
      refine ⟨r, h0, ?_, ?_⟩
      · refine Ev.step (fun k => by rw [spec_l17Levels.l1]) ?_
        simp only [hrd, hrj, hq, hrq, hri, hw1, hw, spec_max, Option.bind_some, e, Int.toNat_natCast, hset]
        exact ev_pos hB (ev_pos hA (ev_pos c1 (ev_pos c2 (ev_pos c3 (ev_pos c4 (ev_pos c5 h1))))))
      · refine Ev.step (fun k => by rw [impl_levels.l1]) ?_
        simp only [hrj, hq, hrq, hri, hw1, hw]
        exact ev_pos c1 (ev_pos c2 (ev_pos c1 (ev_pos c3 (ev_pos c4 (ev_pos hB (ev_pos c5 (ev_neg c h2)))))))
/-- The levels as both sides reckon them. -/
theorem levels_out (l : List II) (hl : (l.length : Int) ≤ 60) (hp : ∀ (i : Nat) (hi : i < l.length), (∀ p ∈ l[i].f3, PartIs (i : Int) (l.length : Int) p) ∧ (l[i].f3.length : Int) ≤ 30) :
    ∀ (d i : Nat) (lv : List Int), i + d = l.length → lv.length = l.length → (∀ v ∈ lv, 0 ≤ v ∧ v ≤ (i : Int)) →
      ∃ r : List Int, r.length = l.length ∧ Ev (fun k => spec_l17Levels.l0 k l lv (i : Int)) r ∧ Ev (fun k => impl_levels.l0 k lv l (l.length : Int) (i : Int)) r := by
  intro d
  induction d with
  | zero =>
    intro i lv hd hlv _
    refine ⟨lv, hlv, ?_, ?_⟩
    · refine Ev.step (fun k => by rw [spec_l17Levels.l0]) ?_
      exact ev_neg (by omega) (Ev.now _)
    · refine Ev.step (fun k => by rw [impl_levels.l0]) ?_
      exact ev_neg (by omega) (Ev.now _)
  | succ d ih =>
    intro i lv hd hlv hb
    have hi : i < l.length := by omega
    have hil : i < lv.length := by omega
    have hrd : rd_T143 l (i : Int) = l[i] := getD_at hi _
    have hA : (i : Int) < (l.length : Int) := Int.ofNat_lt.2 hi
    have hB : 0 ≤ (i : Int) := Int.natCast_nonneg i
    obtain ⟨r, h0, h1, h2⟩ := levels_in l hl i hi (hp i hi).1 (hp i hi).2 (fun r => r.length = l.length) (fun lv' a b => ih (i + 1) lv' (by omega) a b) l[i].f3.length 0 lv (by omega) hlv
      (fun v hv => ⟨(hb v hv).1, by have := (hb v hv).2; omega⟩) (by rw [rd_at hil]; exact (hb _ (List.getElem_mem hil)).2)
    refine ⟨r, h0, ?_, ?_⟩
    · refine Ev.step (fun k => by rw [spec_l17Levels.l0]) ?_
      exact ev_pos hA h1
    · refine Ev.step (fun k => by rw [impl_levels.l0]) ?_
      simp only [hrd]
      exact ev_pos hA (ev_pos hB (ev_pos hA h2))
theorem levels_ev (l : List II) (hl : (l.length : Int) ≤ 60) (hp : ∀ (i : Nat) (hi : i < l.length), (∀ p ∈ l[i].f3, PartIs (i : Int) (l.length : Int) p) ∧ (l[i].f3.length : Int) ≤ 30) :
    ∃ r : List Int, r.length = l.length ∧ Ev (fun k => spec_l17Levels.f k l) r ∧ Ev (fun k => impl_levels.f k l) r := by
  obtain ⟨r, h0, h1, h2⟩ := levels_out l hl hp l.length 0 (List.replicate l.length 0) (by omega) (by rw [List.length_replicate]) (by
    intro v hv
    have := List.eq_of_mem_replicate hv
    omega)
  have h1' : Ev (fun k => spec_l17Levels.l0 k l (List.replicate ((l.length : Int) : Int).toNat 0) 0) r := by simpa using h1
  have h2' : Ev (fun k => impl_levels.l0 k (List.replicate ((l.length : Int) : Int).toNat 0) l (l.length : Int) 0) r := by simpa using h2
  unfold spec_l17Levels.f impl_levels.f
  exact ⟨r, h0, ev_pos (by omega) (ev_pos (by omega) h1'), ev_pos (by omega) (ev_pos (by omega) h2')⟩
/-- What both ask of the levels. -/
theorem depth_ev (r : List Int) (hr : (r.length : Int) ≤ 60) : ∃ b, Ev (fun k => spec_ItemsOk.l4 k (r.length : Int) r 0) b ∧ Ev (fun k => impl_ItemsOk.l3 k r (r.length : Int) 0) b := by
  obtain ⟨b1, h1, p1⟩ := each_mem r (fun k i => spec_ItemsOk.l4 k (r.length : Int) r i) (fun v => ¬ v > 20) True (by
    intro i hi
    have hri : rd r (i : Int) = r[i] := rd_at hi
    by_cases c : r[i] > 20
    · refine .inr ⟨fun h => h c, Ev.step (fun k => by rw [spec_ItemsOk.l4]) ?_⟩
      simp only [hri]
      exact ev_pos (by omega) (ev_pos (by omega) (ev_pos (by omega) (ev_pos c (Ev.now _))))
    · refine .inl ⟨c, fun v hv => Ev.step (fun k => by rw [spec_ItemsOk.l4]) ?_⟩
      simp only [hri]
      refine ev_pos (by omega) (ev_pos (by omega) (ev_pos (by omega) (ev_neg c ?_)))
      rw [wrap_succ hi (by omega)]
      exact hv) ⟨true, Ev.step (fun k => by rw [spec_ItemsOk.l4]) (ev_neg (by omega) (Ev.now _)), by simp⟩
  obtain ⟨b2, h2, p2⟩ := each_mem r (fun k i => impl_ItemsOk.l3 k r (r.length : Int) i) (fun v => ¬ v > 20) True (by
    intro i hi
    have hri : rd r (i : Int) = r[i] := rd_at hi
    by_cases c : r[i] > 20
    · refine .inr ⟨fun h => h c, Ev.step (fun k => by rw [impl_ItemsOk.l3]) ?_⟩
      simp only [hri]
      exact ev_pos (by omega) (ev_pos (by omega) (ev_pos (by omega) (ev_pos c (Ev.now _))))
    · refine .inl ⟨c, fun v hv => Ev.step (fun k => by rw [impl_ItemsOk.l3]) ?_⟩
      simp only [hri]
      refine ev_pos (by omega) (ev_pos (by omega) (ev_pos (by omega) (ev_neg c ?_)))
      rw [wrap_succ hi (by omega)]
      exact hv) ⟨true, Ev.step (fun k => by rw [impl_ItemsOk.l3]) (ev_neg (by omega) (Ev.now _)), by simp⟩
  have : b1 = b2 := bool_of_iff p1 p2
  subst this
  exact ⟨b1, h1, h2⟩
/-- The names ahead of a place, as the program's map holds them. -/
def seenAt (l : List II) : Nat → List (ByteArray × Bool)
  | 0 => []
  | i + 1 => mset (seenAt l i) (rd_T143 l (i : Int)).f0 true
theorem seenAt_iff (l : List II) (s : ByteArray) : ∀ i : Nat, i ≤ l.length → ((mget (seenAt l i) s).getD false = true ↔ ∃ (j : Nat) (y : II), j < i ∧ l[j]? = some y ∧ y.f0 = s) := by
  intro i
  induction i with
  | zero =>
    intro _
    refine ⟨fun h => by simp [seenAt, mget] at h, fun ⟨j, y, h, _⟩ => absurd h (by omega)⟩
  | succ i ih =>
    intro hi
    have hlt : i < l.length := by omega
    have hrd : rd_T143 l (i : Int) = l[i] := getD_at hlt _
    have hg : l[i]? = some l[i] := List.getElem?_eq_getElem hlt
    rw [seenAt, hrd, mget_set]
    by_cases e : l[i].f0 = s
    · rw [if_pos e]
      exact ⟨fun _ => ⟨i, l[i], by omega, hg, e⟩, fun _ => rfl⟩
    · rw [if_neg e, ih (by omega)]
      refine ⟨fun ⟨j, y, h1, h2, h3⟩ => ⟨j, y, by omega, h2, h3⟩, fun ⟨j, y, h1, h2, h3⟩ => ⟨j, y, ?_, h2, h3⟩⟩
      have : j ≠ i := by
        rintro rfl
        rw [hg] at h2
        injection h2 with h2
        exact e (by rw [h2, h3])
      omega
/-- The reference's loop over the items. -/
theorem spec_items (l : List II) (hl : (l.length : Int) ≤ 60) (hB : ∀ x ∈ l, B143 1048576 x) :
    ((∀ (i : Nat) (hi : i < l.length), ItemIs l i l[i]) ∧ ∀ r, Ev (fun k => (spec_l17Levels.f k l).bind fun t => spec_ItemsOk.l4 k (l.length : Int) t 0) r → Ev (fun k => spec_ItemsOk.l0 k l (l.length : Int) 0) r) ∨
    (¬ (∀ (i : Nat) (hi : i < l.length), ItemIs l i l[i]) ∧ Ev (fun k => spec_ItemsOk.l0 k l (l.length : Int) 0) false) := by
  refine each_go l (fun k i => spec_ItemsOk.l0 k l (l.length : Int) i) (fun i x => ItemIs l i x) _ false ?_ (fun r h => ?_)
  case refine_2 =>
    refine Ev.step (fun k => by rw [spec_ItemsOk.l0]) ?_
    exact ev_neg (by omega) h
  intro i hi
  have hrd : rd_T143 l (i : Int) = l[i] := getD_at hi _
  have hA : (i : Int) < (l.length : Int) := Int.ofNat_lt.2 hi
  have hC : 0 ≤ (i : Int) := Int.natCast_nonneg i
  have hb := hB _ (List.getElem_mem hi)
  have hb3 := hb.2.1
  have hb4 := hb.2.2
  have hw : wrap64 ((i : Int) + 1) = ((i + 1 : Nat) : Int) := wrap_succ hi (by omega)
  obtain ⟨bn, en, pn⟩ := spec_NameOk_ev l[i].f0 hb.1
  have F : Ev (fun k => spec_ItemsOk.j1 k l (l.length : Int) (i : Int) true l[i].f0 l[i].f1 l[i].f2 l[i].f3 l[i].f4) false := by
    refine Ev.step (fun k => by rw [spec_ItemsOk.j1]) ?_
    exact ev_pos rfl (Ev.now _)
  have also := each_mem_go l[i].f4 (fun k j => spec_ItemsOk.l3 k l (l.length : Int) (i : Int) j l[i].f0 l[i].f1 l[i].f2 l[i].f3 l[i].f4) (fun p => AlsoIs (i : Int) (l.length : Int) p) (fun k => spec_ItemsOk.l0 k l (l.length : Int) ((i + 1 : Nat) : Int)) false (by
    intro j hj
    have hrj : rd_T147 l[i].f4 (j : Int) = l[i].f4[j] := getD_at hj _
    obtain ⟨b, e, p⟩ := spec_part_ev l[i].f4[j] (i : Int) (l.length : Int) hC (by omega) (by omega) (by omega)
    have c1 : (j : Int) < (l[i].f4.length : Int) := Int.ofNat_lt.2 hj
    have c2 : 0 ≤ (j : Int) := Int.natCast_nonneg j
    have hwj : wrap64 ((j : Int) + 1) = ((j + 1 : Nat) : Int) := wrap_succ hj (by omega)
    by_cases c : b = true
    · by_cases d : l[i].f4[j].f2 = 0
      · by_cases g : l[i].f4[j].f5 = 0
        · refine .inl ⟨⟨p.1 c, d, g⟩, fun r hr => Ev.step (fun k => by rw [spec_ItemsOk.l3]) ?_⟩
          simp only [hrj, hwj]
          exact ev_pos c1 (ev_pos c2 (ev_bind0 e (ev_pos c (ev_pos d (ev_pos g hr)))))
        · refine .inr ⟨fun h => g h.2.2, Ev.step (fun k => by rw [spec_ItemsOk.l3]) ?_⟩
          simp only [hrj, hwj]
          exact ev_pos c1 (ev_pos c2 (ev_bind0 e (ev_pos c (ev_pos d (ev_neg g (Ev.now _))))))
      · refine .inr ⟨fun h => d h.2.1, Ev.step (fun k => by rw [spec_ItemsOk.l3]) ?_⟩
        simp only [hrj, hwj]
        exact ev_pos c1 (ev_pos c2 (ev_bind0 e (ev_pos c (ev_neg d (Ev.now _)))))
    · refine .inr ⟨fun h => c (p.2 h.1), Ev.step (fun k => by rw [spec_ItemsOk.l3]) ?_⟩
      simp only [hrj, hwj]
      exact ev_pos c1 (ev_pos c2 (ev_bind0 e (ev_neg c (Ev.now _))))) (fun r h => by
    refine Ev.step (fun k => by rw [spec_ItemsOk.l3]) ?_
    simp only [hw]
    exact ev_neg (by omega) h)
  have parts := each_mem_go l[i].f3 (fun k j => spec_ItemsOk.l2 k l (l.length : Int) (i : Int) j l[i].f0 l[i].f1 l[i].f2 l[i].f3 l[i].f4) (fun p => PartIs (i : Int) (l.length : Int) p) (fun k => spec_ItemsOk.l3 k l (l.length : Int) (i : Int) 0 l[i].f0 l[i].f1 l[i].f2 l[i].f3 l[i].f4) false (by
    intro j hj
    have hrj : rd_T147 l[i].f3 (j : Int) = l[i].f3[j] := getD_at hj _
    obtain ⟨b, e, p⟩ := spec_part_ev l[i].f3[j] (i : Int) (l.length : Int) hC (by omega) (by omega) (by omega)
    have c1 : (j : Int) < (l[i].f3.length : Int) := Int.ofNat_lt.2 hj
    have c2 : 0 ≤ (j : Int) := Int.natCast_nonneg j
    have hwj : wrap64 ((j : Int) + 1) = ((j + 1 : Nat) : Int) := wrap_succ hj (by omega)
    by_cases c : b = true
    · refine .inl ⟨p.1 c, fun r hr => Ev.step (fun k => by rw [spec_ItemsOk.l2]) ?_⟩
      simp only [hrj, hwj]
      exact ev_pos c1 (ev_pos c2 (ev_bind0 e (ev_pos c hr)))
    · refine .inr ⟨fun h => c (p.2 h), Ev.step (fun k => by rw [spec_ItemsOk.l2]) ?_⟩
      simp only [hrj, hwj]
      exact ev_pos c1 (ev_pos c2 (ev_bind0 e (ev_neg c (Ev.now _))))) (fun r h => by
    refine Ev.step (fun k => by rw [spec_ItemsOk.l2]) ?_
    exact ev_neg (by omega) h)
  have dup := each_go (List.range i) (fun k j => spec_ItemsOk.l1 k l (l.length : Int) (i : Int) j l[i].f0 l[i].f1 l[i].f2 l[i].f3 l[i].f4) (fun j _ => (rd_T143 l ((j : Nat) : Int)).f0 ≠ l[i].f0) (fun k => spec_ItemsOk.l2 k l (l.length : Int) (i : Int) 0 l[i].f0 l[i].f1 l[i].f2 l[i].f3 l[i].f4) false (by
    intro j hj
    have hj' : j < i := by simpa using hj
    by_cases c : (rd_T143 l ((j : Nat) : Int)).f0 = l[i].f0
    · refine .inr ⟨fun h => h c, ?_⟩
      refine Ev.step (fun k => by rw [spec_ItemsOk.l1]) ?_
      simp only [str_iff]
      exact ev_pos (by omega) (ev_pos (by omega) (ev_pos (by omega) (ev_pos c (Ev.now _))))
    · refine .inl ⟨c, fun r hr => ?_⟩
      refine Ev.step (fun k => by rw [spec_ItemsOk.l1]) ?_
      simp only [str_iff]
      refine ev_pos (by omega) (ev_pos (by omega) (ev_pos (by omega) (ev_neg c ?_)))
      rw [wrap_succ hj' (by omega)]
      exact hr) (by
    intro r hr
    rw [List.length_range]
    refine Ev.step (fun k => by rw [spec_ItemsOk.l1]) ?_
    exact ev_neg (by omega) hr)
  have hD : (∀ (j : Nat) (hj : j < (List.range i).length), (rd_T143 l ((j : Nat) : Int)).f0 ≠ l[i].f0) ↔ ∀ (j : Nat) (y : II), j < i → l[j]? = some y → y.f0 ≠ l[i].f0 := by
    constructor
    · intro h j y h1 h2
      have hjl : j < l.length := by omega
      have e : rd_T143 l ((j : Nat) : Int) = y := by
        rw [List.getElem?_eq_getElem hjl] at h2
        injection h2 with h2
        rw [← h2]
        exact getD_at hjl _
      have := h j (by simpa using h1)
      rw [e] at this
      exact this
    · intro h j hj
      have hj' : j < i := by simpa using hj
      have hjl : j < l.length := by omega
      have e : rd_T143 l ((j : Nat) : Int) = l[j] := getD_at hjl _
      rw [e]
      exact h j l[j] hj' (List.getElem?_eq_getElem hjl)
  -- behind the head
  have tail : HeadIs l[i] → (ItemIs l i l[i] ∧ ∀ r, Ev (fun k => spec_ItemsOk.l0 k l (l.length : Int) ((i + 1 : Nat) : Int)) r → Ev (fun k => spec_ItemsOk.j1 k l (l.length : Int) (i : Int) false l[i].f0 l[i].f1 l[i].f2 l[i].f3 l[i].f4) r) ∨ (¬ ItemIs l i l[i] ∧ Ev (fun k => spec_ItemsOk.j1 k l (l.length : Int) (i : Int) false l[i].f0 l[i].f1 l[i].f2 l[i].f3 l[i].f4) false) := by
    intro hh
    have st : ∀ r, Ev (fun k => spec_ItemsOk.l1 k l (l.length : Int) (i : Int) 0 l[i].f0 l[i].f1 l[i].f2 l[i].f3 l[i].f4) r → Ev (fun k => spec_ItemsOk.j1 k l (l.length : Int) (i : Int) false l[i].f0 l[i].f1 l[i].f2 l[i].f3 l[i].f4) r := by
      intro r hr
      refine Ev.step (fun k => by rw [spec_ItemsOk.j1]) ?_
      exact ev_neg (by simp) hr
    rcases dup with ⟨d1, d2⟩ | ⟨d1, d2⟩
    · rcases parts with ⟨q1, q2⟩ | ⟨q1, q2⟩
      · rcases also with ⟨a1, a2⟩ | ⟨a1, a2⟩
        · exact .inl ⟨⟨hh, hD.1 d1, q1, a1⟩, fun r hr => st r (d2 r (q2 r (a2 r hr)))⟩
        · exact .inr ⟨fun h => a1 h.2.2.2, st _ (d2 _ (q2 _ a2))⟩
      · exact .inr ⟨fun h => q1 h.2.2.1, st _ (d2 _ q2)⟩
    · exact .inr ⟨fun h => d1 (hD.2 h.2.1), st _ d2⟩
  by_cases cn : bn = true
  case neg =>
    refine .inr ⟨fun h => cn (pn.2 h.1.1), Ev.step (fun k => by rw [spec_ItemsOk.l0]) ?_⟩
    simp only [hrd]
    exact ev_pos hA (ev_pos hC (ev_pos hA (Ev.bind en (ev_neg cn F))))
  by_cases c1 : 1 ≤ l[i].f1 ∧ l[i].f1 ≤ 1000000
  case neg =>
    refine .inr ⟨fun h => c1 h.1.2.1, Ev.step (fun k => by rw [spec_ItemsOk.l0]) ?_⟩
    simp only [hrd]
    exact ev_pos hA (ev_pos hC (ev_pos hA (Ev.bind en (ev_pos cn (ev_bind0 (spec_l1In_eq ..) (ev_neg (by rw [decide_eq_true_eq]; exact c1) F))))))
  by_cases c3 : (l[i].f3.length : Int) > 30
  · refine .inr ⟨fun h => h.1.2.2.1 c3, Ev.step (fun k => by rw [spec_ItemsOk.l0]) ?_⟩
    simp only [hrd]
    exact ev_pos hA (ev_pos hC (ev_pos hA (Ev.bind en (ev_pos cn (ev_bind0 (spec_l1In_eq ..) (ev_pos (decide_eq_true c1) (ev_pos c3 F)))))))
  by_cases c4 : (l[i].f4.length : Int) > 30
  · refine .inr ⟨fun h => h.1.2.2.2.1 c4, Ev.step (fun k => by rw [spec_ItemsOk.l0]) ?_⟩
    simp only [hrd]
    exact ev_pos hA (ev_pos hC (ev_pos hA (Ev.bind en (ev_pos cn (ev_bind0 (spec_l1In_eq ..) (ev_pos (decide_eq_true c1) (ev_neg c3 (ev_pos c4 F))))))))
  have into : ∀ r, Ev (fun k => if l[i].f2 = true then (if ((l[i].f3).length : Int) = 0 then (spec_ItemsOk.j1 k l (l.length : Int) (i : Int) true l[i].f0 l[i].f1 l[i].f2 l[i].f3 l[i].f4) else (spec_ItemsOk.j1 k l (l.length : Int) (i : Int) (decide (((l[i].f4).length : Int) > 0)) l[i].f0 l[i].f1 l[i].f2 l[i].f3 l[i].f4)) else (spec_ItemsOk.j1 k l (l.length : Int) (i : Int) false l[i].f0 l[i].f1 l[i].f2 l[i].f3 l[i].f4)) r → Ev (fun k => spec_ItemsOk.l0 k l (l.length : Int) (i : Int)) r := by
    intro r hr
    refine Ev.step (fun k => by rw [spec_ItemsOk.l0]) ?_
    simp only [hrd]
    exact ev_pos hA (ev_pos hC (ev_pos hA (Ev.bind en (ev_pos cn (ev_bind0 (spec_l1In_eq ..) (ev_pos (decide_eq_true c1) (ev_neg c3 (ev_neg c4 hr))))))))
  by_cases c5 : l[i].f2 = true
  · by_cases c6 : (l[i].f3.length : Int) = 0
    · exact .inr ⟨fun h => (h.1.2.2.2.2 c5).1 c6, into _ (ev_pos c5 (ev_pos c6 F))⟩
    · by_cases c7 : (l[i].f4.length : Int) > 0
      · refine .inr ⟨fun h => (h.1.2.2.2.2 c5).2 c7, into _ (ev_pos c5 (ev_neg c6 ?_))⟩
        rw [decide_eq_true c7]
        exact F
      · have hh : HeadIs l[i] := ⟨pn.1 cn, c1, c3, c4, fun _ => ⟨c6, c7⟩⟩
        have e7 := decide_eq_false c7
        rcases tail hh with ⟨t1, t2⟩ | ⟨t1, t2⟩
        · refine .inl ⟨t1, fun r hr => into _ (ev_pos c5 (ev_neg c6 ?_))⟩
          rw [e7]
          exact t2 r hr
        · refine .inr ⟨t1, into _ (ev_pos c5 (ev_neg c6 ?_))⟩
          rw [e7]
          exact t2
  · have hh : HeadIs l[i] := ⟨pn.1 cn, c1, c3, c4, fun h => absurd h c5⟩
    rcases tail hh with ⟨t1, t2⟩ | ⟨t1, t2⟩
    · exact .inl ⟨t1, fun r hr => into _ (ev_neg c5 (t2 r hr))⟩
    · exact .inr ⟨t1, into _ (ev_neg c5 t2)⟩
/-- The program's loop over the items. -/
theorem impl_items (l : List II) (hl : (l.length : Int) ≤ 60) (hB : ∀ x ∈ l, B143 1048576 x) :
    ((∀ (i : Nat) (hi : i < l.length), ItemIs l i l[i]) ∧ ∀ r, Ev (fun k => (impl_levels.f k l).bind fun t => impl_ItemsOk.l3 k t (t.length : Int) 0) r → Ev (fun k => impl_ItemsOk.l0 k l (seenAt l (0 : Int).toNat) l (l.length : Int) 0) r) ∨
    (¬ (∀ (i : Nat) (hi : i < l.length), ItemIs l i l[i]) ∧ Ev (fun k => impl_ItemsOk.l0 k l (seenAt l (0 : Int).toNat) l (l.length : Int) 0) false) := by
  refine each_go l (fun k i => impl_ItemsOk.l0 k l (seenAt l i.toNat) l (l.length : Int) i) (fun i x => ItemIs l i x) _ false ?_ (fun r h => ?_)
  case refine_2 =>
    refine Ev.step (fun k => by rw [impl_ItemsOk.l0]) ?_
    exact ev_neg (by omega) h
  intro i hi
  simp only [Int.toNat_natCast]
  have hrd : rd_T143 l (i : Int) = l[i] := getD_at hi _
  have hA : (i : Int) < (l.length : Int) := Int.ofNat_lt.2 hi
  have hC : 0 ≤ (i : Int) := Int.natCast_nonneg i
  have hb := hB _ (List.getElem_mem hi)
  have hb1 := hb.1
  have hb3 := hb.2.1
  have hb4 := hb.2.2
  have hS : l[i].f0.size ≤ 9223372036854775807 := by omega
  have hw : wrap64 ((i : Int) + 1) = ((i + 1 : Nat) : Int) := wrap_succ hi (by omega)
  have hseen := seenAt_iff l l[i].f0 i (by omega)
  have hm : mset (seenAt l i) l[i].f0 true = seenAt l (i + 1) := by rw [seenAt, hrd]
  generalize seenAt l i = m at hseen hm
  obtain ⟨bn, en, pn⟩ := impl_NameOk_ev l[i].f0
  have F : Ev (fun k => impl_ItemsOk.j2 k l m (i : Int) l (l.length : Int) (i : Int) true l[i].f0 l[i].f1 l[i].f2 l[i].f3 l[i].f4) false := by
    refine Ev.step (fun k => by rw [impl_ItemsOk.j2]) ?_
    exact ev_pos rfl (Ev.now _)
  have also := each_mem_go l[i].f4 (fun k j => impl_ItemsOk.l2 k l (seenAt l (i + 1)) (i : Int) l (l.length : Int) (i : Int) l[i].f4 (l[i].f4.length : Int) j) (fun p => AlsoIs (i : Int) (l.length : Int) p) (fun k => impl_ItemsOk.l0 k l (seenAt l (i + 1)) l (l.length : Int) ((i + 1 : Nat) : Int)) false (by
    intro j hj
    have hrj : rd_T147 l[i].f4 (j : Int) = l[i].f4[j] := getD_at hj _
    obtain ⟨b, e, p⟩ := impl_part_ev l[i].f4[j] (i : Int) (l.length : Int) true hC (by omega) (by omega) (by omega)
    have c1 : (j : Int) < (l[i].f4.length : Int) := Int.ofNat_lt.2 hj
    have c2 : 0 ≤ (j : Int) := Int.natCast_nonneg j
    have hwj : wrap64 ((j : Int) + 1) = ((j + 1 : Nat) : Int) := wrap_succ hj (by omega)
    by_cases c : b = true
    · refine .inl ⟨⟨(p.1 c).1, (p.1 c).2 rfl⟩, fun r hr => Ev.step (fun k => by rw [impl_ItemsOk.l2]) ?_⟩
      simp only [hrj, hwj]
      exact ev_pos c1 (ev_pos c2 (ev_pos c1 (ev_bind0 e (ev_pos c hr))))
    · refine .inr ⟨fun h => c (p.2 ⟨h.1, fun _ => h.2⟩), Ev.step (fun k => by rw [impl_ItemsOk.l2]) ?_⟩
      simp only [hrj, hwj]
      exact ev_pos c1 (ev_pos c2 (ev_pos c1 (ev_bind0 e (ev_neg c (Ev.now _)))))) (fun r h => by
    refine Ev.step (fun k => by rw [impl_ItemsOk.l2]) ?_
    simp only [hw]
    exact ev_neg (by omega) h)
  have parts := each_mem_go l[i].f3 (fun k j => impl_ItemsOk.l1 k l (seenAt l (i + 1)) (i : Int) l (l.length : Int) (i : Int) l[i].f3 (l[i].f3.length : Int) j l[i].f0 l[i].f1 l[i].f2 l[i].f3 l[i].f4) (fun p => PartIs (i : Int) (l.length : Int) p) (fun k => impl_ItemsOk.l2 k l (seenAt l (i + 1)) (i : Int) l (l.length : Int) (i : Int) l[i].f4 (l[i].f4.length : Int) 0) false (by
    intro j hj
    have hrj : rd_T147 l[i].f3 (j : Int) = l[i].f3[j] := getD_at hj _
    obtain ⟨b, e, p⟩ := impl_part_ev l[i].f3[j] (i : Int) (l.length : Int) false hC (by omega) (by omega) (by omega)
    have c1 : (j : Int) < (l[i].f3.length : Int) := Int.ofNat_lt.2 hj
    have c2 : 0 ≤ (j : Int) := Int.natCast_nonneg j
    have hwj : wrap64 ((j : Int) + 1) = ((j + 1 : Nat) : Int) := wrap_succ hj (by omega)
    by_cases c : b = true
    · refine .inl ⟨(p.1 c).1, fun r hr => Ev.step (fun k => by rw [impl_ItemsOk.l1]) ?_⟩
      simp only [hrj, hwj]
      exact ev_pos c1 (ev_pos c2 (ev_pos c1 (ev_bind0 e (ev_pos c hr))))
    · refine .inr ⟨fun h => c (p.2 ⟨h, fun h => (by cases h)⟩), Ev.step (fun k => by rw [impl_ItemsOk.l1]) ?_⟩
      simp only [hrj, hwj]
      exact ev_pos c1 (ev_pos c2 (ev_pos c1 (ev_bind0 e (ev_neg c (Ev.now _)))))) (fun r h => by
    refine Ev.step (fun k => by rw [impl_ItemsOk.l1]) ?_
    exact ev_neg (by omega) h)
  have tail : HeadIs l[i] → (∀ (j : Nat) (y : II), j < i → l[j]? = some y → y.f0 ≠ l[i].f0) → (ItemIs l i l[i] ∧ ∀ r, Ev (fun k => impl_ItemsOk.l0 k l (seenAt l (i + 1)) l (l.length : Int) ((i + 1 : Nat) : Int)) r → Ev (fun k => impl_ItemsOk.j2 k l m (i : Int) l (l.length : Int) (i : Int) false l[i].f0 l[i].f1 l[i].f2 l[i].f3 l[i].f4) r) ∨ (¬ ItemIs l i l[i] ∧ Ev (fun k => impl_ItemsOk.j2 k l m (i : Int) l (l.length : Int) (i : Int) false l[i].f0 l[i].f1 l[i].f2 l[i].f3 l[i].f4) false) := by
    intro hh hd
    have st : ∀ r, Ev (fun k => impl_ItemsOk.l1 k l (seenAt l (i + 1)) (i : Int) l (l.length : Int) (i : Int) l[i].f3 (l[i].f3.length : Int) 0 l[i].f0 l[i].f1 l[i].f2 l[i].f3 l[i].f4) r → Ev (fun k => impl_ItemsOk.j2 k l m (i : Int) l (l.length : Int) (i : Int) false l[i].f0 l[i].f1 l[i].f2 l[i].f3 l[i].f4) r := by
      intro r hr
      refine Ev.step (fun k => by rw [impl_ItemsOk.j2]) ?_
      simp only [hm]
      exact ev_neg (by simp) (ev_pos hS hr)
    rcases parts with ⟨q1, q2⟩ | ⟨q1, q2⟩
    · rcases also with ⟨a1, a2⟩ | ⟨a1, a2⟩
      · exact .inl ⟨⟨hh, hd, q1, a1⟩, fun r hr => st r (q2 r (a2 r hr))⟩
      · exact .inr ⟨fun h => a1 h.2.2.2, st _ (q2 _ a2)⟩
    · exact .inr ⟨fun h => q1 h.2.2.1, st _ q2⟩
  by_cases cn : bn = true
  case neg =>
    refine .inr ⟨fun h => cn (pn.2 h.1.1), Ev.step (fun k => by rw [impl_ItemsOk.l0]) ?_⟩
    simp only [hrd]
    exact ev_pos hA (ev_pos hC (ev_pos hA (Ev.bind en (ev_neg cn F))))
  by_cases cs : (mget m l[i].f0).getD false = true
  · refine .inr ⟨fun h => ?_, Ev.step (fun k => by rw [impl_ItemsOk.l0]) ?_⟩
    · obtain ⟨j, y, h1, h2, h3⟩ := hseen.1 cs
      exact h.2.1 j y h1 h2 h3
    · simp only [hrd]
      exact ev_pos hA (ev_pos hC (ev_pos hA (Ev.bind en (ev_pos cn (ev_pos hS (ev_pos cs F))))))
  have hd : ∀ (j : Nat) (y : II), j < i → l[j]? = some y → y.f0 ≠ l[i].f0 := fun j y h1 h2 h3 => cs (hseen.2 ⟨j, y, h1, h2, h3⟩)
  by_cases c1 : 1 ≤ l[i].f1 ∧ l[i].f1 ≤ 1000000
  case neg =>
    refine .inr ⟨fun h => c1 h.1.2.1, Ev.step (fun k => by rw [impl_ItemsOk.l0]) ?_⟩
    simp only [hrd]
    exact ev_pos hA (ev_pos hC (ev_pos hA (Ev.bind en (ev_pos cn (ev_pos hS (ev_neg cs (ev_bind0 (impl_between_eq ..) (ev_neg (by rw [decide_eq_true_eq]; exact c1) F))))))))
  by_cases c3 : (l[i].f3.length : Int) > 30
  · refine .inr ⟨fun h => h.1.2.2.1 c3, Ev.step (fun k => by rw [impl_ItemsOk.l0]) ?_⟩
    simp only [hrd]
    exact ev_pos hA (ev_pos hC (ev_pos hA (Ev.bind en (ev_pos cn (ev_pos hS (ev_neg cs (ev_bind0 (impl_between_eq ..) (ev_pos (decide_eq_true c1) (ev_pos c3 F)))))))))
  by_cases c4 : (l[i].f4.length : Int) > 30
  · refine .inr ⟨fun h => h.1.2.2.2.1 c4, Ev.step (fun k => by rw [impl_ItemsOk.l0]) ?_⟩
    simp only [hrd]
    exact ev_pos hA (ev_pos hC (ev_pos hA (Ev.bind en (ev_pos cn (ev_pos hS (ev_neg cs (ev_bind0 (impl_between_eq ..) (ev_pos (decide_eq_true c1) (ev_neg c3 (ev_pos c4 F))))))))))
  have into : ∀ r, Ev (fun k => if l[i].f2 = true then (if ((l[i].f3).length : Int) = 0 then (impl_ItemsOk.j2 k l m (i : Int) l (l.length : Int) (i : Int) true l[i].f0 l[i].f1 l[i].f2 l[i].f3 l[i].f4) else (impl_ItemsOk.j2 k l m (i : Int) l (l.length : Int) (i : Int) (decide (((l[i].f4).length : Int) > 0)) l[i].f0 l[i].f1 l[i].f2 l[i].f3 l[i].f4)) else (impl_ItemsOk.j2 k l m (i : Int) l (l.length : Int) (i : Int) false l[i].f0 l[i].f1 l[i].f2 l[i].f3 l[i].f4)) r → Ev (fun k => impl_ItemsOk.l0 k l m l (l.length : Int) (i : Int)) r := by
    intro r hr
    refine Ev.step (fun k => by rw [impl_ItemsOk.l0]) ?_
    simp only [hrd]
    exact ev_pos hA (ev_pos hC (ev_pos hA (Ev.bind en (ev_pos cn (ev_pos hS (ev_neg cs (ev_bind0 (impl_between_eq ..) (ev_pos (decide_eq_true c1) (ev_neg c3 (ev_neg c4 hr))))))))))
  by_cases c5 : l[i].f2 = true
  · by_cases c6 : (l[i].f3.length : Int) = 0
    · exact .inr ⟨fun h => (h.1.2.2.2.2 c5).1 c6, into _ (ev_pos c5 (ev_pos c6 F))⟩
    · by_cases c7 : (l[i].f4.length : Int) > 0
      · refine .inr ⟨fun h => (h.1.2.2.2.2 c5).2 c7, into _ (ev_pos c5 (ev_neg c6 ?_))⟩
        rw [decide_eq_true c7]
        exact F
      · have hh : HeadIs l[i] := ⟨pn.1 cn, c1, c3, c4, fun _ => ⟨c6, c7⟩⟩
        have e7 := decide_eq_false c7
        rcases tail hh hd with ⟨t1, t2⟩ | ⟨t1, t2⟩
        · refine .inl ⟨t1, fun r hr => into _ (ev_pos c5 (ev_neg c6 ?_))⟩
          rw [e7]
          exact t2 r hr
        · refine .inr ⟨t1, into _ (ev_pos c5 (ev_neg c6 ?_))⟩
          rw [e7]
          exact t2
  · have hh : HeadIs l[i] := ⟨pn.1 cn, c1, c3, c4, fun h => absurd h c5⟩
    rcases tail hh hd with ⟨t1, t2⟩ | ⟨t1, t2⟩
    · exact .inl ⟨t1, fun r hr => into _ (ev_neg c5 (t2 r hr))⟩
    · exact .inr ⟨t1, into _ (ev_neg c5 t2)⟩
theorem items_ev (l : List II) (hB : (l.length : Int) ≤ 1048576 ∧ ∀ x ∈ l, B143 1048576 x) : ∃ b, Ev (fun k => spec_ItemsOk.f k l) b ∧ Ev (fun k => impl_ItemsOk.f k l) b := by
  unfold spec_ItemsOk.f impl_ItemsOk.f
  have iF : Ev (fun k => impl_ItemsOk.j0 k l true) false := by
    refine Ev.step (fun k => by rw [impl_ItemsOk.j0]) ?_
    exact ev_pos rfl (Ev.now _)
  by_cases c0 : (l.length : Int) < 1
  · exact ⟨false, ev_bind0 (spec_l1In_eq ..) (ev_neg (by rw [decide_eq_true_eq]; omega) (Ev.now _)), ev_pos c0 iF⟩
  by_cases c1 : (l.length : Int) > 60
  · refine ⟨false, ev_bind0 (spec_l1In_eq ..) (ev_neg (by rw [decide_eq_true_eq]; omega) (Ev.now _)), ev_neg c0 ?_⟩
    rw [decide_eq_true c1]
    exact iF
  have hl : (l.length : Int) ≤ 60 := by omega
  have si : ∀ r, Ev (fun k => spec_ItemsOk.l0 k l (l.length : Int) 0) r → Ev (fun k => (spec_l1In.f (l.length : Int) 1 60).bind fun t125 => (if t125 = true then (spec_ItemsOk.l0 k l (l.length : Int) 0) else (some false))) r :=
    fun r h => ev_bind0 (spec_l1In_eq ..) (ev_pos (by rw [decide_eq_true_eq]; omega) h)
  have ii : ∀ r, Ev (fun k => impl_ItemsOk.l0 k l (seenAt l (0 : Int).toNat) l (l.length : Int) 0) r → Ev (fun k => if (l.length : Int) < 1 then (impl_ItemsOk.j0 k l true) else (impl_ItemsOk.j0 k l (decide ((l.length : Int) > 60)))) r := by
    intro r h
    refine ev_neg c0 ?_
    rw [decide_eq_false c1]
    refine Ev.step (fun k => by rw [impl_ItemsOk.j0]) ?_
    exact ev_neg (by simp) h
  rcases spec_items l hl hB.2 with ⟨p1, s1⟩ | ⟨p1, s1⟩
  · rcases impl_items l hl hB.2 with ⟨_, s2⟩ | ⟨p2, _⟩
    · obtain ⟨r, hr, e1, e2⟩ := levels_ev l hl (fun i hi => ⟨(p1 i hi).2.2.1, by have := (p1 i hi).1.2.2.1; omega⟩)
      obtain ⟨b, d1, d2⟩ := depth_ev r (by omega)
      have d1' : Ev (fun k => spec_ItemsOk.l4 k (l.length : Int) r 0) b := by rw [← hr]; exact d1
      exact ⟨b, si _ (s1 _ (Ev.bind e1 d1')), ii _ (s2 _ (Ev.bind e2 d2))⟩
    · exact absurd p1 p2
  · rcases impl_items l hl hB.2 with ⟨p2, _⟩ | ⟨_, s2⟩
    · exact absurd p2 p1
    · exact ⟨false, si _ s1, ii _ s2⟩

theorem FnExactItemsOk : laws_FnExactItemsOk.Pure := by
  intro l hg
  apply Ev.rounds
  obtain ⟨s, hs, h⟩ := laws_szItemS_ev l 1048576 (by omega) (by omega) hg
  unfold laws_FnExactItemsOk.f
  refine Ev.bind hs ?_
  rcases h with h | ⟨_, _, hB⟩
  · exact ev_pos h (Ev.now _)
  refine ev_neg (by omega) ?_
  have hto := laws_toItemS_ev l hB
  have hB' : ((l.map cv140).length : Int) ≤ 1048576 ∧ ∀ x ∈ l.map cv140, B143 1048576 x := ⟨by rw [List.length_map]; exact hB.1, fun x hx => by
    obtain ⟨y, hy, rfl⟩ := List.mem_map.1 hx
    exact cv140_B (hB.2 y hy)⟩
  obtain ⟨r, h1, h2⟩ := items_ev _ hB'
  refine Ev.bind hto (Ev.bind h1 (Ev.bind hto (Ev.bind h2 (ev_neg (by simp) (Ev.bind hto (Ev.bind (laws_eqItemS_ev _ hB') (ev_pos rfl (Ev.now _))))))))
end Go.Proofs.Ytflagondodkonaa.Pure
