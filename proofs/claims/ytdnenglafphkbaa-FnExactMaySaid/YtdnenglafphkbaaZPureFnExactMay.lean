/- May: the program's answer is the reference's, whatever the people. -/
import Derived.Test.YtdnenglafphkbaaZPFnExactMayx
import Derived.Test.YtdnenglafphkbaaZHFnExactMay
set_option maxHeartbeats 4000000
set_option linter.unusedVariables false
set_option linter.unusedSimpArgs false
namespace Go.Proofs.Ytdnenglafphkbaa.Pure
open Go.RowKit Go.Proofs.Ytdnenglafphkbaa.PFnExactMay Go.Proofs.YtdnenglafphkbaaW.PrintWords Go.Proofs.YtdnenglafphkbaaW.PrintLast Go.Proofs.Ytdnenglafphkbaa.XEv
/-- What each person must be, by those ahead. -/
def One (l : List S123) (i : Nat) (x : S123) : Prop :=
  NameIs x.f0 ∧ (∀ (j : Nat) y, j < i → l[j]? = some y → y.f0 ≠ x.f0) ∧ x.f1.length ≤ 8 ∧ (0 ≤ x.f2 ∧ x.f2 ≤ 100000000000) ∧ ∀ r ∈ x.f1, NameIs r
/-- Whom each may stand for. -/
def Two (l : List S123) (x : S123) : Prop := x.f3.size = 0 ∨ (x.f3 ≠ x.f0 ∧ ∃ y ∈ l, y.f0 = x.f3)

/-- The first of a name. -/
theorem person (l : List S123) (s : ByteArray) (hl : (l.length : Int) ≤ 1048576) :
    ∃ r, Ev (fun k => spec_l11Person.f k l s) r ∧ ((r = -1 ∧ ∀ y ∈ l, y.f0 ≠ s) ∨ ∃ i : Nat, r = (i : Int) ∧ ∃ x, l[i]? = some x ∧ x.f0 = s ∧ ∀ (j : Nat) y, j < i → l[j]? = some y → y.f0 ≠ s) := by
  have key : ∀ (d i : Nat), i + d = l.length → (∀ (j : Nat) y, j < i → l[j]? = some y → y.f0 ≠ s) → ∃ r, Ev (fun k => spec_l11Person.l0 k l s (i : Int)) r ∧ ((r = -1 ∧ ∀ y ∈ l, y.f0 ≠ s) ∨ ∃ i : Nat, r = (i : Int) ∧ ∃ x, l[i]? = some x ∧ x.f0 = s ∧ ∀ (j : Nat) y, j < i → l[j]? = some y → y.f0 ≠ s) := by
    intro d
    induction d with
    | zero =>
      intro i hi hb
      refine ⟨-1, Ev.step (fun k => by rw [spec_l11Person.l0]) (ev_neg (by omega) (Ev.now _)), .inl ⟨rfl, fun y hy => ?_⟩⟩
      obtain ⟨j, hj⟩ := List.getElem?_of_mem hy
      exact hb j y (by have := (List.getElem?_eq_some_iff.1 hj).1; omega) hj
    | succ d ih =>
      intro i hi hb
      have hlt : i < l.length := by omega
      have hrd : rd_T123 l (i : Int) = l[i] := getD_at hlt _
      have hg : l[i]? = some l[i] := List.getElem?_eq_getElem hlt
      by_cases c : l[i].f0 = s
      · refine ⟨(i : Int), Ev.step (fun k => by rw [spec_l11Person.l0]) ?_, .inr ⟨i, rfl, l[i], hg, c, hb⟩⟩
        simp only [hrd, str_iff]
        exact ev_pos (by omega) (ev_pos (by omega) (ev_pos c (Ev.now _)))
      · obtain ⟨r, hr, h⟩ := ih (i + 1) (by omega) (fun j y h1 h2 => by
          rcases Nat.lt_or_ge j i with h3 | h3
          · exact hb j y h3 h2
          · have : j = i := by omega
            subst this
            rw [hg] at h2
            injection h2 with h2
            rw [← h2]
            exact c)
        refine ⟨r, Ev.step (fun k => by rw [spec_l11Person.l0]) ?_, h⟩
        simp only [hrd, str_iff]
        refine ev_pos (by omega) (ev_pos (by omega) (ev_neg c ?_))
        rw [wrap_succ hlt (by omega)]
        exact hr
  obtain ⟨r, hr, h⟩ := key l.length 0 (by omega) (fun j y h => absurd h (by omega))
  exact ⟨r, by unfold spec_l11Person.f; exact hr, h⟩

/-- A person's roles, in the reference: all must be names, and then what follows. -/
theorem spec_roles (l : List S123) (i : Int) (x : S123) (Q : Prop) (hb : B123 1048576 x) (T : Nat → Option Bool)
    (hT : ∀ k, (if x.f3.toList = ([] : List UInt8) then (spec_PeopleOk.l0 k l (wrap64 (i + 1))) else (if x.f3.toList = x.f0.toList then (some false) else ((spec_l11Person.f k l x.f3).bind fun t115 => (if t115 < 0 then (some false) else (spec_PeopleOk.l0 k l (wrap64 (i + 1))))))) = T k)
    (h : ∃ b, Ev T b ∧ (b = true ↔ Q)) :
    ∃ b, Ev (fun k => spec_PeopleOk.l1 k l i 0 x.f0 x.f1 x.f2 x.f3 x.f4) b ∧ (b = true ↔ (∀ r ∈ x.f1, NameIs r) ∧ Q) := by
  have hl := hb.2.1.1
  have key : ∀ (d j : Nat), j + d = x.f1.length → ∃ b, Ev (fun k => spec_PeopleOk.l1 k l i (j : Int) x.f0 x.f1 x.f2 x.f3 x.f4) b ∧ (b = true ↔ (∀ (q : Nat) r, j ≤ q → x.f1[q]? = some r → NameIs r) ∧ Q) := by
    intro d
    induction d with
    | zero =>
      intro j hj
      obtain ⟨b, hb, hQ⟩ := h
      refine ⟨b, Ev.step (fun k => by rw [spec_PeopleOk.l1]) (ev_neg (by omega) (Ev.congr hT hb)), ?_⟩
      rw [hQ]
      refine ⟨fun h => ⟨fun q r h1 h2 => ?_, h⟩, fun h => h.2⟩
      have := (List.getElem?_eq_some_iff.1 h2).1
      omega
    | succ d ih =>
      intro j hj
      have hlt : j < x.f1.length := by omega
      have hrd : rdOf ByteArray.empty x.f1 (j : Int) = x.f1[j] := rdOf_at hlt _
      have hg : x.f1[j]? = some x.f1[j] := List.getElem?_eq_getElem hlt
      obtain ⟨b1, hb1, hn⟩ := spec_NameOk_ev x.f1[j] (hb.2.1.2 _ (List.getElem_mem hlt))
      by_cases c : b1 = true
      · obtain ⟨b, hb2, hP⟩ := ih (j + 1) (by omega)
        refine ⟨b, Ev.step (fun k => by rw [spec_PeopleOk.l1]) ?_, ?_⟩
        · simp only [hrd]
          refine ev_pos (by omega) (ev_pos (by omega) (Ev.bind hb1 (ev_pos c ?_)))
          rw [wrap_succ hlt (by omega)]
          exact hb2
        · rw [hP]
          refine ⟨fun h => ⟨fun q r h1 h2 => ?_, h.2⟩, fun h => ⟨fun q r h1 h2 => h.1 q r (by omega) h2, h.2⟩⟩
          rcases Nat.lt_or_ge j q with h3 | h3
          · exact h.1 q r h3 h2
          · have : j = q := by omega
            subst this
            rw [hg] at h2
            injection h2 with h2
            rw [← h2]
            exact hn.1 c
      · refine ⟨false, Ev.step (fun k => by rw [spec_PeopleOk.l1]) ?_, fun h => (by cases h), fun h => absurd (hn.2 (h.1 j _ (Nat.le_refl _) hg)) c⟩
        simp only [hrd]
        exact ev_pos (by omega) (ev_pos (by omega) (Ev.bind hb1 (ev_neg c (Ev.now _))))
  obtain ⟨b, hb, hP⟩ := key x.f1.length 0 (by omega)
  refine ⟨b, hb, hP.trans ⟨fun h => ⟨fun r hr => ?_, h.2⟩, fun h => ⟨fun q r _ hq => h.1 r (List.mem_of_getElem? hq), h.2⟩⟩⟩
  obtain ⟨q, hq⟩ := List.getElem?_of_mem hr
  exact h.1 q r (Nat.zero_le _) hq

theorem spec_all (l : List S123) (hl : (l.length : Int) ≤ 1048576 ∧ ∀ x ∈ l, B123 1048576 x) (d : Nat) : ∀ i : Nat, i + d = l.length →
    ∃ b, Ev (fun k => spec_PeopleOk.l0 k l (i : Int)) b ∧ (b = true ↔ ∀ (j : Nat) x, i ≤ j → l[j]? = some x → One l j x ∧ Two l x) := by
  have hl1 := hl.1
  induction d with
  | zero =>
    intro i hi
    refine ⟨true, Ev.step (fun k => by rw [spec_PeopleOk.l0]) (ev_neg (by omega) (Ev.now _)), fun _ j x h1 h2 => ?_, fun _ => rfl⟩
    have := (List.getElem?_eq_some_iff.1 h2).1
    omega
  | succ d ih =>
    intro i hi
    have hlt : i < l.length := by omega
    have hrd : rd_T123 l (i : Int) = l[i] := getD_at hlt _
    have hg : l[i]? = some l[i] := List.getElem?_eq_getElem hlt
    have hB := hl.2 _ (List.getElem_mem hlt)
    obtain ⟨bn, hbn, hn⟩ := ih (i + 1) (by omega)
    -- what stands behind the roles
    have htail : ∃ b, Ev (fun k => if l[i].f3.toList = ([] : List UInt8) then (spec_PeopleOk.l0 k l (wrap64 ((i : Int) + 1))) else (if l[i].f3.toList = l[i].f0.toList then (some false) else ((spec_l11Person.f k l l[i].f3).bind fun t115 => (if t115 < 0 then (some false) else (spec_PeopleOk.l0 k l (wrap64 ((i : Int) + 1))))))) b ∧
        (b = true ↔ Two l l[i] ∧ ∀ (j : Nat) x, i + 1 ≤ j → l[j]? = some x → One l j x ∧ Two l x) := by
      rw [wrap_succ hlt (by omega)]
      by_cases c : l[i].f3.toList = ([] : List UInt8)
      · refine ⟨bn, ev_pos c hbn, hn.trans ⟨fun h => ⟨.inl (str_nil.1 c), h⟩, fun h => h.2⟩⟩
      · have cs : ¬ l[i].f3.size = 0 := fun e => c (str_nil.2 e)
        by_cases c2 : l[i].f3.toList = l[i].f0.toList
        · refine ⟨false, ev_neg c (ev_pos c2 (Ev.now _)), fun h => (by cases h), fun h => ?_⟩
          rcases h.1 with h | h
          · exact absurd h cs
          · exact absurd (str_inj c2) h.1
        · obtain ⟨r, hr, hp⟩ := person l l[i].f3 hl1
          rcases hp with ⟨h0, h1⟩ | ⟨q, h0, x, hx, hxs, _⟩
          · refine ⟨false, ev_neg c (ev_neg c2 (Ev.bind hr (ev_pos (by omega) (Ev.now _)))), fun h => (by cases h), fun h => ?_⟩
            rcases h.1 with h | ⟨_, y, hy, hys⟩
            · exact absurd h cs
            · exact absurd hys (h1 y hy)
          · refine ⟨bn, ev_neg c (ev_neg c2 (Ev.bind hr (ev_neg (by omega) hbn))), hn.trans ⟨fun h => ⟨.inr ⟨fun e => c2 (by rw [e]), x, List.mem_of_getElem? hx, hxs⟩, h⟩, fun h => h.2⟩⟩
    obtain ⟨b, hb, hP⟩ := spec_roles l (i : Int) l[i] _ hB _ (fun k => rfl) htail
    -- what stands ahead of them
    have hj1 : ∀ bad : Bool, ∃ b', Ev (fun k => spec_PeopleOk.j1 k l (i : Int) bad l[i].f0 l[i].f1 l[i].f2 l[i].f3 l[i].f4) b' ∧ (b' = true ↔ bad = false ∧ (∀ r ∈ l[i].f1, NameIs r) ∧ Two l l[i] ∧ ∀ (j : Nat) x, i + 1 ≤ j → l[j]? = some x → One l j x ∧ Two l x) := by
      intro bad
      cases bad with
      | true => exact ⟨false, Ev.step (fun k => by rw [spec_PeopleOk.j1]) (ev_pos rfl (Ev.now _)), fun h => (by cases h), fun h => (by cases h.1)⟩
      | false => exact ⟨b, Ev.step (fun k => by rw [spec_PeopleOk.j1]) (ev_neg (by simp) hb), hP.trans ⟨fun h => ⟨rfl, h⟩, fun h => h.2⟩⟩
    have fin : (∀ (j : Nat) x, i ≤ j → l[j]? = some x → One l j x ∧ Two l x) ↔ One l i l[i] ∧ Two l l[i] ∧ ∀ (j : Nat) x, i + 1 ≤ j → l[j]? = some x → One l j x ∧ Two l x := by
      refine ⟨fun h => ⟨(h i _ (Nat.le_refl _) hg).1, (h i _ (Nat.le_refl _) hg).2, fun j x h1 h2 => h j x (by omega) h2⟩, fun h j x h1 h2 => ?_⟩
      rcases Nat.lt_or_ge i j with h3 | h3
      · exact h.2.2 j x h3 h2
      · have : i = j := by omega
        subst this
        rw [hg] at h2
        injection h2 with h2
        rw [← h2]
        exact ⟨h.1, h.2.1⟩
    obtain ⟨b1, hb1, hn1⟩ := spec_NameOk_ev l[i].f0 hB.1
    rw [fin]
    by_cases c1 : b1 = true
    · obtain ⟨r, hr, hp⟩ := person l l[i].f0 hl1
      have hfirst : r = (i : Int) ↔ ∀ (j : Nat) y, j < i → l[j]? = some y → y.f0 ≠ l[i].f0 := by
        rcases hp with ⟨h0, h1⟩ | ⟨q, h0, x, hx, hxs, hb'⟩
        · exact absurd rfl (h1 _ (List.getElem_mem hlt))
        · constructor
          · intro e
            have : q = i := by omega
            subst this
            exact hb'
          · intro h
            have h1 : ¬ q < i := fun hq => h q x hq hx hxs
            have h2 : ¬ i < q := fun hq => hb' i _ hq hg rfl
            omega
      by_cases c2 : r = (i : Int)
      · by_cases c3 : (l[i].f1.length : Int) > 8
        · obtain ⟨b', hb', hP'⟩ := hj1 true
          refine ⟨b', Ev.step (fun k => by rw [spec_PeopleOk.l0]) ?_, ?_⟩
          · simp only [hrd]
            exact ev_pos (by omega) (ev_pos (by omega) (Ev.bind hb1 (ev_pos c1 (Ev.bind hr (ev_pos c2 (ev_pos c3 hb'))))))
          · rw [hP']
            exact ⟨fun h => (by cases h.1), fun h => absurd h.1.2.2.1 (by omega)⟩
        · obtain ⟨b', hb', hP'⟩ := hj1 (!decide (0 ≤ l[i].f2 ∧ l[i].f2 ≤ 100000000000))
          refine ⟨b', Ev.step (fun k => by rw [spec_PeopleOk.l0]) ?_, ?_⟩
          · simp only [hrd]
            exact ev_pos (by omega) (ev_pos (by omega) (Ev.bind hb1 (ev_pos c1 (Ev.bind hr (ev_pos c2 (ev_neg c3 (ev_bind0 (spec_l1In_eq ..) hb')))))))
          · rw [hP']
            simp only [Bool.not_eq_false', decide_eq_true_eq]
            exact ⟨fun h => ⟨⟨hn1.1 c1, hfirst.1 c2, by omega, h.1, h.2.1⟩, h.2.2⟩, fun h => ⟨h.1.2.2.2.1, h.1.2.2.2.2, h.2⟩⟩
      · obtain ⟨b', hb', hP'⟩ := hj1 true
        refine ⟨b', Ev.step (fun k => by rw [spec_PeopleOk.l0]) ?_, ?_⟩
        · simp only [hrd]
          exact ev_pos (by omega) (ev_pos (by omega) (Ev.bind hb1 (ev_pos c1 (Ev.bind hr (ev_neg c2 hb')))))
        · rw [hP']
          exact ⟨fun h => (by cases h.1), fun h => absurd (hfirst.2 h.1.2.1) c2⟩
    · obtain ⟨b', hb', hP'⟩ := hj1 true
      refine ⟨b', Ev.step (fun k => by rw [spec_PeopleOk.l0]) ?_, ?_⟩
      · simp only [hrd]
        exact ev_pos (by omega) (ev_pos (by omega) (Ev.bind hb1 (ev_neg c1 hb')))
      · rw [hP']
        exact ⟨fun h => (by cases h.1), fun h => absurd (hn1.2 h.1.1) c1⟩

/-- The program's second pass: whom each stands for, by the names in the map. -/
theorem impl_second (l : List S123) (m : List (ByteArray × Bool)) (hl : (l.length : Int) ≤ 1048576 ∧ ∀ x ∈ l, B123 1048576 x) (hm : ∀ s, (mget m s).getD false = true ↔ ∃ y ∈ l, y.f0 = s) (d : Nat) :
    ∀ i : Nat, i + d = l.length → ∃ b, Ev (fun k => impl_PeopleOk.l2 k m l (l.length : Int) (i : Int)) b ∧ (b = true ↔ ∀ (j : Nat) x, i ≤ j → l[j]? = some x → Two l x) := by
  have hl1 := hl.1
  induction d with
  | zero =>
    intro i hi
    refine ⟨true, Ev.step (fun k => by rw [impl_PeopleOk.l2]) (ev_neg (by omega) (Ev.now _)), fun _ j x h1 h2 => ?_, fun _ => rfl⟩
    have := (List.getElem?_eq_some_iff.1 h2).1
    omega
  | succ d ih =>
    intro i hi
    have hlt : i < l.length := by omega
    have hrd : rd_T123 l (i : Int) = l[i] := getD_at hlt _
    have hg : l[i]? = some l[i] := List.getElem?_eq_getElem hlt
    have hB := (hl.2 _ (List.getElem_mem hlt)).2.2
    obtain ⟨bn, hbn, hn⟩ := ih (i + 1) (by omega)
    have fin : (∀ (j : Nat) x, i ≤ j → l[j]? = some x → Two l x) ↔ Two l l[i] ∧ ∀ (j : Nat) x, i + 1 ≤ j → l[j]? = some x → Two l x := by
      refine ⟨fun h => ⟨h i _ (Nat.le_refl _) hg, fun j x h1 h2 => h j x (by omega) h2⟩, fun h j x h1 h2 => ?_⟩
      rcases Nat.lt_or_ge i j with h3 | h3
      · exact h.2 j x h3 h2
      · have : i = j := by omega
        subst this
        rw [hg] at h2
        injection h2 with h2
        rw [← h2]
        exact h.1
    rw [fin]
    rw [← wrap_succ hlt (by omega)] at hbn
    by_cases c : l[i].f3.toList = ([] : List UInt8)
    · refine ⟨bn, Ev.step (fun k => by rw [impl_PeopleOk.l2]) ?_, hn.trans ⟨fun h => ⟨.inl (str_nil.1 c), h⟩, fun h => h.2⟩⟩
      simp only [hrd]
      exact ev_pos (by omega) (ev_pos (by omega) (ev_pos (by omega) (ev_pos c hbn)))
    · have cs : ¬ l[i].f3.size = 0 := fun e => c (str_nil.2 e)
      by_cases c2 : l[i].f3.toList = l[i].f0.toList
      · refine ⟨false, Ev.step (fun k => by rw [impl_PeopleOk.l2]) ?_, fun h => (by cases h), fun h => ?_⟩
        · simp only [hrd]
          exact ev_pos (by omega) (ev_pos (by omega) (ev_pos (by omega) (ev_neg c (ev_pos c2 (Ev.now _)))))
        · rcases h.1 with h | h
          · exact absurd h cs
          · exact absurd (str_inj c2) h.1
      · by_cases c3 : (mget m l[i].f3).getD false = true
        · refine ⟨bn, Ev.step (fun k => by rw [impl_PeopleOk.l2]) ?_, hn.trans ⟨fun h => ⟨.inr ⟨fun e => c2 (by rw [e]), (hm _).1 c3⟩, h⟩, fun h => h.2⟩⟩
          simp only [hrd]
          exact ev_pos (by omega) (ev_pos (by omega) (ev_pos (by omega) (ev_neg c (ev_neg c2 (ev_pos (by omega) (ev_pos c3 hbn))))))
        · refine ⟨false, Ev.step (fun k => by rw [impl_PeopleOk.l2]) ?_, fun h => (by cases h), fun h => ?_⟩
          · simp only [hrd]
            exact ev_pos (by omega) (ev_pos (by omega) (ev_pos (by omega) (ev_neg c (ev_neg c2 (ev_pos (by omega) (ev_neg c3 (Ev.now _)))))))
          · rcases h.1 with h | h
            · exact absurd h cs
            · exact absurd ((hm _).2 h.2) c3

/-- A person's roles, in the program. -/
theorem impl_roles (l0 l : List S123) (m : List (ByteArray × Bool)) (n i : Int) (x : S123) (Q : Prop) (hb : B123 1048576 x)
    (h : ∃ b, Ev (fun k => impl_PeopleOk.l0 k l0 (mset m x.f0 true) l n (wrap64 (i + 1))) b ∧ (b = true ↔ Q)) :
    ∃ b, Ev (fun k => impl_PeopleOk.l1 k l0 m l n i x.f1 (x.f1.length : Int) 0 x.f0 x.f1 x.f2 x.f3 x.f4) b ∧ (b = true ↔ (∀ r ∈ x.f1, NameIs r) ∧ Q) := by
  have hl := hb.2.1.1
  have hs := hb.1
  have key : ∀ (d j : Nat), j + d = x.f1.length → ∃ b, Ev (fun k => impl_PeopleOk.l1 k l0 m l n i x.f1 (x.f1.length : Int) (j : Int) x.f0 x.f1 x.f2 x.f3 x.f4) b ∧ (b = true ↔ (∀ (q : Nat) r, j ≤ q → x.f1[q]? = some r → NameIs r) ∧ Q) := by
    intro d
    induction d with
    | zero =>
      intro j hj
      obtain ⟨b, hb, hQ⟩ := h
      refine ⟨b, Ev.step (fun k => by rw [impl_PeopleOk.l1]) (ev_neg (by omega) (ev_pos (by omega) hb)), ?_⟩
      rw [hQ]
      refine ⟨fun h => ⟨fun q r h1 h2 => ?_, h⟩, fun h => h.2⟩
      have := (List.getElem?_eq_some_iff.1 h2).1
      omega
    | succ d ih =>
      intro j hj
      have hlt : j < x.f1.length := by omega
      have hrd : rdOf ByteArray.empty x.f1 (j : Int) = x.f1[j] := rdOf_at hlt _
      have hg : x.f1[j]? = some x.f1[j] := List.getElem?_eq_getElem hlt
      obtain ⟨b1, hb1, hn⟩ := impl_NameOk_ev x.f1[j]
      by_cases c : b1 = true
      · obtain ⟨b, hb2, hP⟩ := ih (j + 1) (by omega)
        refine ⟨b, Ev.step (fun k => by rw [impl_PeopleOk.l1]) ?_, ?_⟩
        · simp only [hrd]
          refine ev_pos (by omega) (ev_pos (by omega) (ev_pos (by omega) (Ev.bind hb1 (ev_pos c ?_))))
          rw [wrap_succ hlt (by omega)]
          exact hb2
        · rw [hP]
          refine ⟨fun h => ⟨fun q r h1 h2 => ?_, h.2⟩, fun h => ⟨fun q r h1 h2 => h.1 q r (by omega) h2, h.2⟩⟩
          rcases Nat.lt_or_ge j q with h3 | h3
          · exact h.1 q r h3 h2
          · have : j = q := by omega
            subst this
            rw [hg] at h2
            injection h2 with h2
            rw [← h2]
            exact hn.1 c
      · refine ⟨false, Ev.step (fun k => by rw [impl_PeopleOk.l1]) ?_, fun h => (by cases h), fun h => absurd (hn.2 (h.1 j _ (Nat.le_refl _) hg)) c⟩
        simp only [hrd]
        exact ev_pos (by omega) (ev_pos (by omega) (ev_pos (by omega) (Ev.bind hb1 (ev_neg c (Ev.now _)))))
  obtain ⟨b, hb, hP⟩ := key x.f1.length 0 (by omega)
  refine ⟨b, hb, hP.trans ⟨fun h => ⟨fun r hr => ?_, h.2⟩, fun h => ⟨fun q r _ hq => h.1 r (List.mem_of_getElem? hq), h.2⟩⟩⟩
  obtain ⟨q, hq⟩ := List.getElem?_of_mem hr
  exact h.1 q r (Nat.zero_le _) hq

theorem impl_all (l : List S123) (hl : (l.length : Int) ≤ 1048576 ∧ ∀ x ∈ l, B123 1048576 x) (d : Nat) : ∀ (i : Nat) (m : List (ByteArray × Bool)), i + d = l.length →
    (∀ s, (mget m s).getD false = true ↔ ∃ (j : Nat) (y : S123), j < i ∧ l[j]? = some y ∧ y.f0 = s) →
    ∃ b, Ev (fun k => impl_PeopleOk.l0 k l m l (l.length : Int) (i : Int)) b ∧ (b = true ↔ (∀ (j : Nat) x, i ≤ j → l[j]? = some x → One l j x) ∧ ∀ x ∈ l, Two l x) := by
  have hl1 := hl.1
  induction d with
  | zero =>
    intro i m hi hm
    obtain ⟨b, hb, hP⟩ := impl_second l m hl (fun s => (hm s).trans ⟨fun ⟨j, y, _, h2, h3⟩ => ⟨y, List.mem_of_getElem? h2, h3⟩, fun ⟨y, hy, h3⟩ => by
      obtain ⟨j, hj⟩ := List.getElem?_of_mem hy
      exact ⟨j, y, by have := (List.getElem?_eq_some_iff.1 hj).1; omega, hj, h3⟩⟩) l.length 0 (by omega)
    have hb' : Ev (fun k => impl_PeopleOk.l0 k l m l (l.length : Int) (i : Int)) b := by
      refine Ev.step (fun k => by rw [impl_PeopleOk.l0]) ?_
      exact ev_neg (by omega) hb
    refine ⟨b, hb', hP.trans ⟨fun h => ⟨fun j x h1 h2 => ?_, fun x hx => ?_⟩, fun h j x _ h2 => h.2 x (List.mem_of_getElem? h2)⟩⟩
    · have := (List.getElem?_eq_some_iff.1 h2).1
      omega
    · obtain ⟨j, hj⟩ := List.getElem?_of_mem hx
      exact h j x (Nat.zero_le _) hj
  | succ d ih =>
    intro i m hi hm
    have hlt : i < l.length := by omega
    have hrd : rd_T123 l (i : Int) = l[i] := getD_at hlt _
    have hg : l[i]? = some l[i] := List.getElem?_eq_getElem hlt
    have hB := hl.2 _ (List.getElem_mem hlt)
    have hs := hB.1
    obtain ⟨b, hb, hP⟩ := ih (i + 1) (mset m l[i].f0 true) (by omega) (fun s => by
      rw [mget_set]
      by_cases e : l[i].f0 = s
      · rw [if_pos e]
        exact ⟨fun _ => ⟨i, l[i], by omega, hg, e⟩, fun _ => rfl⟩
      · rw [if_neg e, hm s]
        refine ⟨fun ⟨j, y, h1, h2, h3⟩ => ⟨j, y, by omega, h2, h3⟩, fun ⟨j, y, h1, h2, h3⟩ => ⟨j, y, ?_, h2, h3⟩⟩
        have : j ≠ i := by
          rintro rfl
          rw [hg] at h2
          injection h2 with h2
          exact e (by rw [h2, h3])
        omega)
    rw [← wrap_succ hlt (by omega)] at hb
    obtain ⟨b1, hb1, hP1⟩ := impl_roles l l m (l.length : Int) (i : Int) l[i] _ hB ⟨b, hb, hP⟩
    have hj1 : ∀ bad : Bool, ∃ b', Ev (fun k => impl_PeopleOk.j1 k l m l (l.length : Int) (i : Int) bad l[i].f0 l[i].f1 l[i].f2 l[i].f3 l[i].f4) b' ∧ (b' = true ↔ bad = false ∧ (∀ r ∈ l[i].f1, NameIs r) ∧ (∀ (j : Nat) x, i + 1 ≤ j → l[j]? = some x → One l j x) ∧ ∀ x ∈ l, Two l x) := by
      intro bad
      cases bad with
      | true => exact ⟨false, Ev.step (fun k => by rw [impl_PeopleOk.j1]) (ev_pos rfl (Ev.now _)), fun h => (by cases h), fun h => (by cases h.1)⟩
      | false => exact ⟨b1, Ev.step (fun k => by rw [impl_PeopleOk.j1]) (ev_neg (by simp) hb1), hP1.trans ⟨fun h => ⟨rfl, h⟩, fun h => h.2⟩⟩
    have fin : ((∀ (j : Nat) x, i ≤ j → l[j]? = some x → One l j x) ∧ ∀ x ∈ l, Two l x) ↔ One l i l[i] ∧ (∀ (j : Nat) x, i + 1 ≤ j → l[j]? = some x → One l j x) ∧ ∀ x ∈ l, Two l x := by
      refine ⟨fun h => ⟨h.1 i _ (Nat.le_refl _) hg, fun j x h1 h2 => h.1 j x (by omega) h2, h.2⟩, fun h => ⟨fun j x h1 h2 => ?_, h.2.2⟩⟩
      rcases Nat.lt_or_ge i j with h3 | h3
      · exact h.2.1 j x h3 h2
      · have : i = j := by omega
        subst this
        rw [hg] at h2
        injection h2 with h2
        rw [← h2]
        exact h.1
    rw [fin]
    obtain ⟨bq, hbq, hnq⟩ := impl_NameOk_ev l[i].f0
    by_cases c1 : bq = true
    · by_cases c2 : (mget m l[i].f0).getD false = true
      · obtain ⟨b', hb', hP'⟩ := hj1 true
        refine ⟨b', Ev.step (fun k => by rw [impl_PeopleOk.l0]) ?_, ?_⟩
        · simp only [hrd]
          exact ev_pos (by omega) (ev_pos (by omega) (ev_pos (by omega) (Ev.bind hbq (ev_pos c1 (ev_pos (by omega) (ev_pos c2 hb'))))))
        · rw [hP']
          refine ⟨fun h => (by cases h.1), fun h => ?_⟩
          obtain ⟨j, y, h1, h2, h3⟩ := (hm _).1 c2
          exact absurd h3 (h.1.2.1 j y h1 h2)
      · have hfirst : ∀ (j : Nat) y, j < i → l[j]? = some y → y.f0 ≠ l[i].f0 := fun j y h1 h2 h3 => c2 ((hm _).2 ⟨j, y, h1, h2, h3⟩)
        by_cases c3 : (l[i].f1.length : Int) > 8
        · obtain ⟨b', hb', hP'⟩ := hj1 true
          refine ⟨b', Ev.step (fun k => by rw [impl_PeopleOk.l0]) ?_, ?_⟩
          · simp only [hrd]
            exact ev_pos (by omega) (ev_pos (by omega) (ev_pos (by omega) (Ev.bind hbq (ev_pos c1 (ev_pos (by omega) (ev_neg c2 (ev_pos c3 hb')))))))
          · rw [hP']
            exact ⟨fun h => (by cases h.1), fun h => absurd h.1.2.2.1 (by omega)⟩
        · obtain ⟨b', hb', hP'⟩ := hj1 (!decide (0 ≤ l[i].f2 ∧ l[i].f2 ≤ 100000000000))
          refine ⟨b', Ev.step (fun k => by rw [impl_PeopleOk.l0]) ?_, ?_⟩
          · simp only [hrd]
            exact ev_pos (by omega) (ev_pos (by omega) (ev_pos (by omega) (Ev.bind hbq (ev_pos c1 (ev_pos (by omega) (ev_neg c2 (ev_neg c3 (ev_bind0 (impl_money_eq ..) hb'))))))))
          · rw [hP']
            simp only [Bool.not_eq_false', decide_eq_true_eq]
            exact ⟨fun h => ⟨⟨hnq.1 c1, hfirst, by omega, h.1, h.2.1⟩, h.2.2⟩, fun h => ⟨h.1.2.2.2.1, h.1.2.2.2.2, h.2⟩⟩
    · obtain ⟨b', hb', hP'⟩ := hj1 true
      refine ⟨b', Ev.step (fun k => by rw [impl_PeopleOk.l0]) ?_, ?_⟩
      · simp only [hrd]
        exact ev_pos (by omega) (ev_pos (by omega) (ev_pos (by omega) (Ev.bind hbq (ev_neg c1 hb'))))
      · rw [hP']
        exact ⟨fun h => (by cases h.1), fun h => absurd (hnq.2 h.1.1) c1⟩

theorem main (l : List S123) (hl : (l.length : Int) ≤ 1048576 ∧ ∀ x ∈ l, B123 1048576 x) : ∃ b, Ev (fun k => spec_PeopleOk.f k l) b ∧ Ev (fun k => impl_PeopleOk.f k l) b := by
  unfold spec_PeopleOk.f impl_PeopleOk.f
  by_cases c : (l.length : Int) > 40
  · exact ⟨false, ev_pos c (Ev.now _), ev_pos c (Ev.now _)⟩
  · obtain ⟨b1, h1, p1⟩ := spec_all l hl l.length 0 (by omega)
    obtain ⟨b2, h2, p2⟩ := impl_all l hl l.length 0 [] (by omega) (fun s => by simp [mget])
    have : b1 = b2 := bool_of_iff (p1.trans ⟨fun h => ⟨fun j x h1 h2 => (h j x h1 h2).1, fun x hx => by
      obtain ⟨j, hj⟩ := List.getElem?_of_mem hx
      exact (h j x (Nat.zero_le _) hj).2⟩, fun h j x h1 h2 => ⟨h.1 j x h1 h2, h.2 x (List.mem_of_getElem? h2)⟩⟩) p2
    subst this
    exact ⟨b1, ev_neg c h1, ev_neg c h2⟩

theorem fitsB_eq (x : S123) (role : ByteArray) (a : Int) : fitsB x role a = ((x.f1.any fun r => r.toList == role.toList) && decide (x.f2 ≥ a)) := by
  unfold fitsB
  cases h : decide (a ≤ x.f2) <;> simp
theorem may_eq (l : List S123) (who : Int) (role : ByteArray) (a : Int) : maySpec l who role a = mayB l who role a := by
  unfold maySpec mayB
  by_cases hw : 0 ≤ who ∧ who < (l.length : Int)
  · rw [if_pos hw, if_pos (by omega)]
    by_cases c2 : (rd_T123 l who).f4 = true
    · rw [if_pos c2, if_pos c2]
    · rw [if_neg c2, if_neg c2]
      obtain ⟨n, rfl⟩ : ∃ n : Nat, who = (n : Int) := ⟨who.toNat, by omega⟩
      have hn : n < l.length := by omega
      have hrd : rd_T123 l (n : Int) = l[n] := getD_at hn _
      rw [Bool.eq_iff_iff, Bool.or_eq_true, List.any_eq_true]
      unfold letsB
      rw [List.any_eq_true]
      have lb : ∀ j, j < l.length → (letB l (n : Int) role a j = true ↔ fitsB (rd_T123 l (j : Int)) role a = true ∧ ((j : Int) = (n : Int) ∨ ((rd_T123 l (j : Int)).f4 = true ∧ (rd_T123 l (j : Int)).f3.toList = (rd_T123 l (n : Int)).f0.toList))) := by
        intro j hj
        unfold letB
        rw [← fitsB_eq, Bool.and_eq_true, Bool.or_eq_true, Bool.and_eq_true, decide_eq_true_eq, beq_iff_eq]
      constructor
      · rintro ⟨j, hj, h⟩
        have hj' := List.mem_range.1 hj
        have hrj : rd_T123 l (j : Int) = l[j] := getD_at hj' _
        obtain ⟨hf, h | h⟩ := (lb j hj').1 h
        · left
          have e : j = n := by omega
          subst e
          exact hf
        · right
          refine ⟨l[j], List.getElem_mem _, ?_⟩
          rw [hrj] at h hf
          unfold mayOf
          rw [Bool.and_eq_true, Bool.and_eq_true, beq_iff_eq]
          exact ⟨h, hf⟩
      · rintro (h | ⟨x, hx, h⟩)
        · exact ⟨n, List.mem_range.2 hn, (lb n hn).2 ⟨h, .inl rfl⟩⟩
        · obtain ⟨j, hj, rfl⟩ := List.getElem_of_mem hx
          have hrj : rd_T123 l (j : Int) = l[j] := getD_at hj _
          unfold mayOf at h
          rw [Bool.and_eq_true, Bool.and_eq_true, beq_iff_eq] at h
          exact ⟨j, List.mem_range.2 hj, (lb j hj).2 (by rw [hrj]; exact ⟨h.2, .inr h.1⟩)⟩
  · rw [if_neg hw, if_neg (by omega)]
theorem may_ev (l : List S123) (hl : (l.length : Int) ≤ 1048576 ∧ ∀ x ∈ l, B123 1048576 x) (who : Int) (role : ByteArray) (a : Int) : ∃ b, Ev (fun k => spec_May.f k l who role a) b ∧ Ev (fun k => impl_May.f k l who role a) b := by
  obtain ⟨b, h1, h2⟩ := main l hl
  unfold spec_May.f impl_May.f
  by_cases c : b = true
  · refine ⟨mayB l who role a, Ev.bind h1 ?_, Ev.bind h2 (ev_pos c (ev_bind0 (show impl_may.f l who role a = some _ from rfl) (Ev.now _)))⟩
    rw [if_pos c, may_eq]
    exact Ev.now _
  · refine ⟨false, Ev.bind h1 ?_, Ev.bind h2 (ev_neg c (Ev.now _))⟩
    rw [if_neg c]
    exact Ev.now _
theorem FnExactMay : laws_FnExactMay.Pure := by
  intro l a1 a2 a3 hg _ _ _
  apply Ev.rounds
  unfold laws_FnExactMay.f
  by_cases c : (a2.size : Int) > 1048576
  · exact ev_pos c (Ev.now _)
  refine ev_neg c ?_
  obtain ⟨s, hs, h⟩ := laws_szPersonS_ev l 1048576 (by omega) (by omega) hg
  refine Ev.bind hs ?_
  rcases h with h | ⟨_, _, hB⟩
  · exact ev_pos h (Ev.now _)
  refine ev_neg (by omega) ?_
  have hto := laws_toPersonS_ev l hB
  have hB' : ((l.map cv121).length : Int) ≤ 1048576 ∧ ∀ x ∈ l.map cv121, B123 1048576 x := ⟨by rw [List.length_map]; exact hB.1, fun x hx => by
    obtain ⟨y, hy, rfl⟩ := List.mem_map.1 hx
    exact cv121_B (hB.2 y hy)⟩
  obtain ⟨r, h1, h2⟩ := may_ev _ hB' a1 a2 a3
  refine Ev.bind hto (Ev.bind h1 (Ev.bind hto (Ev.bind h2 (ev_neg (by simp) (Ev.bind hto (Ev.bind (laws_eqPersonS_ev _ hB') (ev_pos rfl (Ev.now _))))))))
end Go.Proofs.Ytdnenglafphkbaa.Pure
