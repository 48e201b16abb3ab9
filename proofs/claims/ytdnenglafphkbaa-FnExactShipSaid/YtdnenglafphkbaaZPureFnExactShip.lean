/- Ship: the program's answer is the reference's, whatever the stock and the picks. -/
import Derived.Test.YtdnenglafphkbaaZPFnExactShipx
import Derived.Test.YtdnenglafphkbaaZHFnExactShip
set_option maxHeartbeats 4000000
set_option linter.unusedVariables false
set_option linter.unusedSimpArgs false
namespace Go.Proofs.Ytdnenglafphkbaa.Pure
open Go.RowKit Go.Proofs.Ytdnenglafphkbaa.PFnExactShip Go.Proofs.YtdnenglafphkbaaW.PrintWords Go.Proofs.YtdnenglafphkbaaW.PrintLast Go.Proofs.Ytdnenglafphkbaa.XEv
def BC (l : List S106) : Prop := (l.length : Int) ≤ 1048576 ∧ ∀ x ∈ l, B106 1048576 x
def FitC (x : S106) : Prop := 0 ≤ x.f5 ∧ x.f5 ≤ x.f4 ∧ x.f4 ≤ 1000000
theorem copy_spec (l : List S106) (h : l.length ≤ 1048576) : spec_l15Copy.f l = some l := by
  unfold spec_l15Copy.f
  rw [Option.bind_some, if_pos (by simp; omega)]
  rfl
theorem copy_impl (l : List S106) (h : l.length ≤ 1048576) : impl_copyStock.f l = some l := by
  unfold impl_copyStock.f
  rw [Option.bind_some, if_pos (by simp; omega)]
  rfl
section
variable (l : List S106) (ps : List S109) (hl : l.length ≤ 100) (hp : ps.length ≤ 1048576)
include hl hp
theorem each_from (hB : BC l) : ∀ (d i : Nat) (out : List S106), i + d = ps.length → out.length = l.length → BC out → (∀ x ∈ out, FitC x) →
    ∃ r n, Ev (fun k => spec_l15Each.l0 k l ps true out (i : Int)) (r, n) ∧ eachFrom l shipD (ps.drop i) out = (r, n) ∧ BC r := by
  intro d
  induction d with
  | zero =>
    intro i out hd ho hb hf
    refine ⟨out, 0, Ev.step (fun k => by rw [spec_l15Each.l0]) (ev_neg (by omega) (Ev.now _)), ?_, hb⟩
    rw [List.drop_eq_nil_of_le (by omega), eachFrom]
  | succ d ih =>
    intro i out hd ho hb hf
    have hi : i < ps.length := by omega
    have hrd : rd_T109 ps (i : Int) = ps[i] := getD_at hi _
    have hw1 : wrap64 ((l.length : Int) - 1) = (l.length : Int) - 1 := wrap_id (by omega) (by omega)
    have bad : ∀ (f q : Int), Ev (fun k => spec_l15Each.j1 k l ps true out (i : Int) true f q) (l, 2) := fun f q => by
      refine Ev.step (fun k => by rw [spec_l15Each.j1]) (ev_pos rfl (ev_bind0 (copy_spec l (by omega)) (Ev.now _)))
    rw [List.drop_eq_getElem_cons hi, eachFrom]
    by_cases c1 : 0 ≤ ps[i].f0 ∧ ps[i].f0 ≤ (l.length : Int) - 1
    · by_cases c2 : 1 ≤ ps[i].f1 ∧ ps[i].f1 ≤ 1000000
      · rw [if_pos (by omega)]
        have hq : ps[i].f0.toNat < out.length := by omega
        have hrc : rd_T106 out ps[i].f0 = out[ps[i].f0.toNat] := getD_at hq _
        have hx := hf _ (List.getElem_mem hq)
        have hxb := hb.2 _ (List.getElem_mem hq)
        generalize out[ps[i].f0.toNat] = x at hrc hx hxb
        have okn : (shipD x ps[i].f1).2 = true ↔ x.f5 - ps[i].f1 ≥ 0 := by
          unfold shipD shipOk
          rw [decide_eq_true_eq]
          rw [wrap_id (by unfold FitC at hx; omega) (by unfold FitC at hx; omega)]
        have j2t : Ev (fun k => spec_l15Each.j2 k l ps true out (i : Int) true ps[i].f0 ps[i].f1 x.f0 x.f1 x.f2 x.f3 x.f4 x.f5) (l, 3) := by
          refine Ev.step (fun k => by rw [spec_l15Each.j2]) (ev_pos rfl (ev_bind0 (copy_spec l (by omega)) (Ev.now _)))
        have enter : ∀ r, Ev (fun k => spec_l15Each.j1 k l ps true out (i : Int) false ps[i].f0 ps[i].f1) r → Ev (fun k => spec_l15Each.l0 k l ps true out (i : Int)) r := by
          intro r h
          refine Ev.step (fun k => by rw [spec_l15Each.l0]) ?_
          simp only [hrd, hw1]
          refine ev_pos (by omega) (ev_pos (by omega) (ev_bind0 (spec_l1In_eq ..) (ev_pos (decide_eq_true c1) (ev_bind0 (spec_l1In_eq ..) ?_))))
          rw [decide_eq_true c2]
          exact h
        rw [hrc]
        by_cases c3 : x.f5 - ps[i].f1 ≥ 0
        · rw [if_pos (okn.2 c3)]
          have hset : ∀ y ∈ out.set ps[i].f0.toNat (shipD x ps[i].f1).1, y ∈ out ∨ y = (shipD x ps[i].f1).1 := fun y hy => List.mem_or_eq_of_mem_set hy
          have hfit : FitC (shipD x ps[i].f1).1 := (by unfold FitC at hx ⊢; unfold shipD shipCell; simp only; rw [wrap_id (x := x.f5 - ps[i].f1) (by omega) (by omega), wrap_id (x := x.f4 - ps[i].f1) (by omega) (by omega)]; omega)
          obtain ⟨r, n, h1, h2, h3⟩ := ih (i + 1) (out.set ps[i].f0.toNat (shipD x ps[i].f1).1) (by omega) (by rw [List.length_set]; exact ho) ⟨by rw [List.length_set]; exact hb.1, fun y hy => by rcases hset y hy with h | rfl; exact hb.2 y h; exact hxb⟩ (fun y hy => by rcases hset y hy with h | rfl; exact hf y h; exact hfit)
          refine ⟨r, n, enter _ ?_, h2, h3⟩
          rw [← wrap_succ hi (by omega)] at h1
          have j2f : Ev (fun k => spec_l15Each.j2 k l ps true out (i : Int) false ps[i].f0 ps[i].f1 x.f0 x.f1 x.f2 x.f3 x.f4 x.f5) (r, n) := by
            refine Ev.step (fun k => by rw [spec_l15Each.j2]) (ev_neg (by decide) ?_)
            exact ev_pos (by first | rfl | trivial) (ev_pos c1.1 (ev_pos (by omega) h1))
          refine Ev.step (fun k => by rw [spec_l15Each.j1]) (ev_neg (by decide) (ev_pos c1.1 (ev_pos (by omega) ?_)))
          simp only [hrc]
          exact ev_pos (by first | rfl | trivial) (ev_neg (by omega) j2f)
        · rw [if_neg (fun h => c3 (okn.1 h))]
          refine ⟨l, 3, enter _ ?_, rfl, hB⟩
          refine Ev.step (fun k => by rw [spec_l15Each.j1]) (ev_neg (by decide) (ev_pos c1.1 (ev_pos (by omega) ?_)))
          simp only [hrc]
          exact ev_pos (by first | rfl | trivial) (ev_pos (by omega) j2t)
      · rw [if_neg (by omega)]
        refine ⟨l, 2, Ev.step (fun k => by rw [spec_l15Each.l0]) ?_, rfl, hB⟩
        simp only [hrd, hw1]
        refine ev_pos (by omega) (ev_pos (by omega) (ev_bind0 (spec_l1In_eq ..) (ev_pos (decide_eq_true c1) (ev_bind0 (spec_l1In_eq ..) ?_))))
        rw [decide_eq_false c2]
        exact bad _ _
    · rw [if_neg (by omega)]
      refine ⟨l, 2, Ev.step (fun k => by rw [spec_l15Each.l0]) ?_, rfl, hB⟩
      simp only [hrd, hw1]
      exact ev_pos (by omega) (ev_pos (by omega) (ev_bind0 (spec_l1In_eq ..) (ev_neg (by rw [decide_eq_true_eq]; exact c1) (bad _ _))))
end
theorem ship_ev (l : List S106) (ps : List S109) (hB : BC l) (hp : ps.length ≤ 1048576) : ∃ r n, Ev (fun k => spec_Ship.f k l ps) (r, n) ∧ Ev (fun k => impl_Ship.f k l ps) (r, n) ∧ BC r := by
  obtain ⟨bs, hs, qs⟩ := spec_stock_ev l hB
  obtain ⟨bi, hi, qi⟩ := impl_stock_ev l hB
  have e : bi = bs := by rw [Bool.eq_iff_iff, qs, qi]
  subst e
  unfold spec_Ship.f impl_Ship.f each.f spec_l15Each.f
  by_cases c : bi = true
  · have hS := qs.1 c
    have hl : l.length ≤ 100 := by have := hS.1; omega
    have hfit : ∀ x ∈ l, FitC x := fun x hx => by
      obtain ⟨j, hj, rfl⟩ := List.getElem_of_mem hx
      have h := (hS.2 j hj).1.2.2.2.2
      exact ⟨h.2.1, h.2.2, h.1.2⟩
    by_cases c1 : (ps.length : Int) > 100
    · refine ⟨l, 2, Ev.bind (Ev.bind hs (ev_pos c (ev_bind0 (copy_spec l (by omega)) (ev_pos c1 (Ev.now _))))) (Ev.now _), Ev.bind hi (ev_pos c (ev_bind0 (copy_impl l (by omega)) ?_)), hB⟩
      rw [if_pos c1]
      exact Ev.now _
    · obtain ⟨r, n, h1, h2, h3⟩ := each_from l ps hl hp hB ps.length 0 l (by omega) rfl hB hfit
      have h1' : Ev (fun k => spec_l15Each.l0 k l ps true l 0) (r, n) := h1
      rw [List.drop_zero] at h2
      refine ⟨r, n, Ev.bind (Ev.bind hs (ev_pos c (ev_bind0 (copy_spec l (by omega)) (ev_neg c1 h1')))) (Ev.now _), Ev.bind hi (ev_pos c (ev_bind0 (copy_impl l (by omega)) ?_)), h3⟩
      rw [if_neg c1, h2]
      exact Ev.now _
  · exact ⟨[], 1, Ev.bind (Ev.bind hs (ev_neg c (Ev.now _))) (Ev.now _), Ev.bind hi (ev_neg c (Ev.now _)), by simp, by simp⟩
theorem FnExactShip : laws_FnExactShip.Pure := by
  intro l0 l1 hg0 hg1
  apply Ev.rounds
  unfold laws_FnExactShip.f
  obtain ⟨s, hs, h⟩ := laws_szCellS_ev l0 1048576 (by omega) (by omega) hg0
  refine Ev.bind hs ?_
  rcases h with h | ⟨n0, n1, hB0⟩
  · exact ev_pos h (Ev.now _)
  refine ev_neg (by omega) ?_
  obtain ⟨s1, hs1, h⟩ := laws_szPickS_ev l1 s n0 (by omega) hg1
  refine Ev.bind hs1 ?_
  rcases h with h | ⟨m0, m1, hB1⟩
  · exact ev_pos h (Ev.now _)
  refine ev_neg (by omega) ?_
  have hB0_ : (l0.length : Int) ≤ 1048576 ∧ ∀ x ∈ l0, B104 1048576 x := hB0
  have hp1 : (l1.length : Int) ≤ 1048576 := by first | exact Int.le_trans hB1 (by omega) | exact Int.le_trans hB1.1 (by omega)
  have to0 := laws_toCellS_ev l0 hB0_
  have to1 := laws_toPickS_ev l1 hp1
  have hB0' : BC (l0.map cv104) := ⟨by rw [List.length_map]; exact hB0_.1, fun x hx => by
    obtain ⟨y, hy, rfl⟩ := List.mem_map.1 hx
    exact cv104_B (hB0_.2 y hy)⟩
  have hq1 : ((l1.map cv111).length : Int) ≤ 1048576 := by rw [List.length_map]; exact hp1
  obtain ⟨r, n, h1, h2, hr⟩ := ship_ev (l0.map cv104) (l1.map cv111) hB0' (by omega)
  have er := laws_eqCellS_ev r hr
  refine Ev.bind to0 (Ev.bind to1 (Ev.bind h1 (Ev.bind to0 (Ev.bind to1 (Ev.bind h2 (Ev.bind er (ev_pos rfl ?_)))))))
  have en : (n != n) = false := by simp
  simp only [en]
  refine Ev.step (fun k => by rw [laws_FnExactShip.j0]) ?_
  refine ev_neg (by simp) (Ev.bind to0 (Ev.bind (laws_eqCellS_ev _ hB0') (ev_pos rfl (Ev.bind to1 (Ev.bind (laws_eqPickS_ev _ hq1) (ev_pos rfl ?_))))))
  obtain ⟨q, hq, q0, q1, _⟩ := laws_markCellS_ev (l0.map cv104) 1 (by omega) (by omega) hB0'.1
  obtain ⟨q', hq', q0', q1', _⟩ := laws_markPickS_ev (l1.map cv111) q.1 (by omega) (by have := hB0'.1; omega) hq1
  refine Ev.bind hq (Ev.bind hq' (ev_neg (by omega) (Ev.bind er (ev_pos rfl ?_))))
  simp only [en]
  refine Ev.step (fun k => by rw [laws_FnExactShip.j1]) ?_
  have hm := laws_markCellS_eq r 1 (by omega) (by omega) hr.1
  have hh := laws_heldCellS_eq 1 r.length (by omega) (by omega) hr.1
  refine ev_neg (by simp) (Ev.bind hm (Ev.bind hh (ev_neg (by omega) (ev_pos rfl ?_))))
  refine Ev.bind to0 (Ev.bind to1 (Ev.bind h2 (Ev.bind er (ev_pos rfl ?_))))
  simp only [en]
  refine Ev.step (fun k => by rw [laws_FnExactShip.j2]) ?_
  exact ev_neg (by simp) (Ev.bind hh (ev_neg (by omega) (ev_pos rfl (Ev.now _))))
end Go.Proofs.Ytdnenglafphkbaa.Pure
