/- Lines by a program (a changed copy of the kit's print: this repo's wip/tools): Go functions as Lean functions, and proofs that the calls answer so. -/
import Derived.Test.YtlodndejipjceaaZPFnExactSettlex0
import Derived.Test.YtlodndejipjceaaZPFnExactSettlex4
namespace Go.Proofs.Ytlodndejipjceaa.PFnExactSettle
open Go.RowKit Go.Proofs.YtlodndejipjceaaW.PrintWords Go.Proofs.YtlodndejipjceaaW.PrintLast Go.Proofs.YtlodndejipjceaaW.PrintMore
attribute [local go_sem] max2_int min2_int max_two min_two max_three min_three max_four min_four   -- for this text's walks alone
set_option linter.unusedVariables false
set_option linter.unusedSimpArgs false

/-! ### spec_Settle: function 18 -/
mutual
def spec_Settle.j0 : Nat → List (S27) → List (S27) → List (S30) → Bool → Option ((List (S30)))
 | 0, _, _, _, _ => none
 | k + 1, x0, x1, x5, x19 => if x19 = true then (some x5) else ((spec_l13Amounts.f k x0).bind fun t192 => ((spec_l13Amounts.f k x1).bind fun t195 => (spec_Settle.l0 k x0 x1 x5 t192 t195)))
def spec_Settle.l0 : Nat → List (S27) → List (S27) → List (S30) → List Int → List Int → Option ((List (S30)))
 | 0, _, _, _, _, _ => none
 | k + 1, x0, x1, x5, x6, x7 => (spec_l13Next.f k x0 x6).bind fun t198 => ((spec_l13Next.f k x1 x7).bind fun t199 => (if t198 < 0 then (spec_Settle.j2 k x0 x1 x5 x6 x7 t198 t199 true) else (spec_Settle.j2 k x0 x1 x5 x6 x7 t198 t199 (decide (t199 < 0)))))
def spec_Settle.j2 : Nat → List (S27) → List (S27) → List (S30) → List Int → List Int → Int → Int → Bool → Option ((List (S30)))
 | 0, _, _, _, _, _, _, _, _ => none
 | k + 1, x0, x1, x5, x6, x7, x8, x9, x36 => if x36 = true then (some x5) else (if 0 ≤ x8 then (if x8 < (x6.length : Int) then (if 0 ≤ x9 then (if x9 < (x7.length : Int) then (if (rd x7 x9) < (rd x6 x8) then (if x5.length < 5864062014805 then (spec_Settle.l0 k x0 x1 (x5 ++ [(⟨x8, x9, rd x7 x9⟩ : S30)]) (x6.set (x8 : Int).toNat (wrap64 ((rd x6 x8) - (rd x7 x9)))) (x7.set (x9 : Int).toNat 0)) else (none)) else (if x5.length < 5864062014805 then (spec_Settle.l0 k x0 x1 (x5 ++ [(⟨x8, x9, rd x6 x8⟩ : S30)]) (x6.set (x8 : Int).toNat 0) (x7.set (x9 : Int).toNat (wrap64 ((rd x7 x9) - (rd x6 x8))))) else (none))) else (none)) else (none)) else (none)) else (none))
end
def spec_Settle.f (k : Nat) (l0 : List (S27)) (l1 : List (S27)) : Option ((List (S30))) := (some (([] : List (S30)) : List (S30))).bind fun y187 => ((spec_l13Open.f k l0).bind fun t190 => (if t190 = true then ((spec_l13Open.f k l1).bind fun t191 => (spec_Settle.j0 k l0 l1 y187 (!t191))) else (spec_Settle.j0 k l0 l1 y187 true)))
theorem spec_Settle.mono_l : ∀ k, (∀ y0 y1 y2 y3, LeO (spec_Settle.j0 k y0 y1 y2 y3) (spec_Settle.j0 (k + 1) y0 y1 y2 y3)) ∧ (∀ y0 y1 y2 y3 y4, LeO (spec_Settle.l0 k y0 y1 y2 y3 y4) (spec_Settle.l0 (k + 1) y0 y1 y2 y3 y4)) ∧ (∀ y0 y1 y2 y3 y4 y5 y6 y7, LeO (spec_Settle.j2 k y0 y1 y2 y3 y4 y5 y6 y7) (spec_Settle.j2 (k + 1) y0 y1 y2 y3 y4 y5 y6 y7))
 | 0 => ⟨fun _ _ _ _ r h => by simp [spec_Settle.j0] at h, fun _ _ _ _ _ r h => by simp [spec_Settle.l0] at h, fun _ _ _ _ _ _ _ _ r h => by simp [spec_Settle.j2] at h⟩
 | k + 1 => by
  obtain ⟨ih0, ih1, ih2⟩ := spec_Settle.mono_l k
  refine ⟨?_, ?_, ?_⟩
  ·intro y0 y1 y2 y3
   unfold spec_Settle.j0
   repeat' first
   | (with_reducible exact ih0 _ _ _ _)
   | (with_reducible exact ih1 _ _ _ _ _)
   | (with_reducible exact ih2 _ _ _ _ _ _ _ _)
   | (with_reducible exact spec_l13Amounts.mono _ _)
   | (with_reducible exact spec_l13Next.mono _ _ _)
   | (with_reducible exact spec_l13Open.mono _ _)
   | (with_reducible exact LeO.refl _)
   | (with_reducible exact LeO.none _)
   | (with_reducible refine LeO.ite ?_ ?_)
   | (with_reducible refine LeO.bind ?_ (fun _ => ?_))
   | exact ih0 _ _ _ _
   | exact ih1 _ _ _ _ _
   | exact ih2 _ _ _ _ _ _ _ _
   | exact spec_l13Amounts.mono _ _
   | exact spec_l13Next.mono _ _ _
   | exact spec_l13Open.mono _ _
   | exact LeO.none _
   | refine LeO.ite ?_ ?_
   | refine LeO.bind ?_ (fun _ => ?_)
  ·intro y0 y1 y2 y3 y4
   unfold spec_Settle.l0
   repeat' first
   | (with_reducible exact ih0 _ _ _ _)
   | (with_reducible exact ih1 _ _ _ _ _)
   | (with_reducible exact ih2 _ _ _ _ _ _ _ _)
   | (with_reducible exact spec_l13Amounts.mono _ _)
   | (with_reducible exact spec_l13Next.mono _ _ _)
   | (with_reducible exact spec_l13Open.mono _ _)
   | (with_reducible exact LeO.refl _)
   | (with_reducible exact LeO.none _)
   | (with_reducible refine LeO.ite ?_ ?_)
   | (with_reducible refine LeO.bind ?_ (fun _ => ?_))
   | exact ih0 _ _ _ _
   | exact ih1 _ _ _ _ _
   | exact ih2 _ _ _ _ _ _ _ _
   | exact spec_l13Amounts.mono _ _
   | exact spec_l13Next.mono _ _ _
   | exact spec_l13Open.mono _ _
   | exact LeO.none _
   | refine LeO.ite ?_ ?_
   | refine LeO.bind ?_ (fun _ => ?_)
  ·intro y0 y1 y2 y3 y4 y5 y6 y7
   unfold spec_Settle.j2
   repeat' first
   | (with_reducible exact ih0 _ _ _ _)
   | (with_reducible exact ih1 _ _ _ _ _)
   | (with_reducible exact ih2 _ _ _ _ _ _ _ _)
   | (with_reducible exact spec_l13Amounts.mono _ _)
   | (with_reducible exact spec_l13Next.mono _ _ _)
   | (with_reducible exact spec_l13Open.mono _ _)
   | (with_reducible exact LeO.refl _)
   | (with_reducible exact LeO.none _)
   | (with_reducible refine LeO.ite ?_ ?_)
   | (with_reducible refine LeO.bind ?_ (fun _ => ?_))
   | exact ih0 _ _ _ _
   | exact ih1 _ _ _ _ _
   | exact ih2 _ _ _ _ _ _ _ _
   | exact spec_l13Amounts.mono _ _
   | exact spec_l13Next.mono _ _ _
   | exact spec_l13Open.mono _ _
   | exact LeO.none _
   | refine LeO.ite ?_ ?_
   | refine LeO.bind ?_ (fun _ => ?_)
theorem spec_Settle.mono : ∀ a0 a1 k, LeO (spec_Settle.f k a0 a1) (spec_Settle.f (k + 1) a0 a1) := by
 intro a0 a1 k
 obtain ⟨ih0, ih1, ih2⟩ := spec_Settle.mono_l k
 unfold spec_Settle.f
 repeat' first
   | (with_reducible exact ih0 _ _ _ _)
   | (with_reducible exact ih1 _ _ _ _ _)
   | (with_reducible exact ih2 _ _ _ _ _ _ _ _)
   | (with_reducible exact spec_l13Amounts.mono _ _)
   | (with_reducible exact spec_l13Next.mono _ _ _)
   | (with_reducible exact spec_l13Open.mono _ _)
   | (with_reducible exact LeO.refl _)
   | (with_reducible exact LeO.none _)
   | (with_reducible refine LeO.ite ?_ ?_)
   | (with_reducible refine LeO.bind ?_ (fun _ => ?_))
   | exact ih0 _ _ _ _
   | exact ih1 _ _ _ _ _
   | exact ih2 _ _ _ _ _ _ _ _
   | exact spec_l13Amounts.mono _ _
   | exact spec_l13Next.mono _ _ _
   | exact spec_l13Open.mono _ _
   | exact LeO.none _
   | refine LeO.ite ?_ ?_
   | refine LeO.bind ?_ (fun _ => ?_)
set_option maxHeartbeats 8000000 in
set_option maxRecDepth 100000 in
theorem spec_Settle.calls (k : Nat) (A0 : Option Addr) (c0 : Nat) (l0 : List (S27)) (A1 : Option Addr) (c1 : Nat) (l1 : List (S27)) (r : List (S30)) (w : World) (hr0 : Kd.C k27 w A0 l0.length l0) (hc0 : l0.length ≤ c0) (hr1 : Kd.C k27 w A1 l1.length l1) (hc1 : l1.length ≤ c1) (h : spec_Settle.f k l0 l1 = some r) :
  Calls Try.prog 18 #[.slice A0 l0.length c0, .slice A1 l1.length c1] w fun e w' => ∃ v0_ : Value, e = .returned (v0_) ∧ Kd.R k30 30 w' w.heap.size (fun _ => True) v0_ r ∧ Below w.heap.size w w' := by
 have hu30 := Try.underlying30
 have HR0 := Aside0.mk hr0
 have HC0 := Aside0.mk hc0
 clear hr0 hc0
 have HR1 := Aside0.mk hr1
 have HC1 := Aside0.mk hc1
 clear hr1 hc1
 have HB := Aside0.mk (Below.refl w.heap.size w)
 have H : ((some (([] : List (S30)) : List (S30))).bind fun y187 => ((spec_l13Open.f k l0).bind fun t190 => (if t190 = true then ((spec_l13Open.f k l1).bind fun t191 => (spec_Settle.j0 k l0 l1 y187 (!t191))) else (spec_Settle.j0 k l0 l1 y187 true)))) = some r := h
 clear h
 obtain ⟨y187, hy187⟩ : ∃ y_ : List (S30), y_ = (([] : List (S30))) := ⟨_, rfl⟩
 replace H : ((spec_l13Open.f k l0).bind fun t190 => (if t190 = true then ((spec_l13Open.f k l1).bind fun t191 => (spec_Settle.j0 k l0 l1 y187 (!t191))) else (spec_Settle.j0 k l0 l1 y187 true))) = some r := by first | (rw [hy187]; with_reducible exact H) | (have H2_ := (Option.bind_some _ _).symm.trans H; rw [hy187]; with_reducible exact H2_) | (have H2_ := (Option.bind_some _ _).symm.trans H; with_reducible exact H2_) | with_reducible exact H | (rw [hy187]; exact H) | exact H
 have Ny187 := Aside0.mk hy187
 clear hy187
 have HC3 := Aside0.mk H
 clear H
 go_enter Try.func18, Try.ntmps18
 go_upto_region 2 with (first | ((with_reducible refine qe1 (N := 11) rfl ?_); refine Kd.R_lit k30 _ 30 ?hg (N := 11) ?hd (xs := ([] : List (S30))) (inner := []) (ok := fun _ => True) (okp := fun _ => True) ?hr ?hp (fun _ hk => hk) trivial (Below.refl _ _) (Nat.le_refl _) (by simp) ?_; (case hd => rfl); (case hg => rfl); (case hr => first | (go_simp; done) | (go_simp; rfl)); (case hp => exact (Reps.none _ _)); intro v188 w4 ho5 hb hg_ hnew_; clear hg_ hnew_; (first | rw [← Ny187.out] at ho5 | (simp only [Int.reduceToNat] at ho5; rw [← Ny187.out] at ho5)); have n0_ := Aside0.mk (Kd.qz0 ho5 (qi0 (by repeat (first | (with_reducible first | exact HB.out | apply qc0 | apply qa0 | apply qb0) | exact HB.out)))); have n1_ := Aside0.mk (qk0 (by repeat (first | (with_reducible first | exact HB.out | apply qc0 | apply qa0 | apply qb0) | exact HB.out)) hb); clear HB; have HO189 := n0_; have HB := n1_; clear n0_ n1_; clear hb ho5))
 (try simp only [Act.put, List.setIfInBounds_toArray, List.set_cons_zero, List.set_cons_succ])
 go_cut [19] (fun v19 wc => ∃ (kq : Nat) (x19_2 : Bool), v19 = .bool x19_2 ∧ Aside0 (spec_Settle.j0 kq l0 l1 y187 x19_2 = some r) ∧ Aside0 (kq ≤ k) ∧ Aside0 (Kd.R k30 30 wc w.heap.size (fun _ => True) v188 y187) ∧ Aside0 (Below w.heap.size w wc))
 case first =>
  have H := HC3.out
  clear HC3
  replace H := Option.bind_eq_some_iff.mp H
  obtain ⟨t190, A60, H⟩ := H
  replace H : (if t190 = true then ((spec_l13Open.f k l1).bind fun t191 => (spec_Settle.j0 k l0 l1 y187 (!t191))) else (spec_Settle.j0 k l0 l1 y187 true)) = some r := H
  have A6 := Aside0.mk A60
  clear A60
  by_cases c7 : t190 = true
  ·subst c7
   have H1 : ((spec_l13Open.f k l1).bind fun t191 => (spec_Settle.j0 k l0 l1 y187 (!t191))) = some r := by rw [if_pos rfl] at H; exact H
   clear H
   have H := H1
   clear H1
   replace H := Option.bind_eq_some_iff.mp H
   obtain ⟨t191, A80, H⟩ := H
   replace H : (spec_Settle.j0 k l0 l1 y187 (!t191)) = some r := H
   have A8 := Aside0.mk A80
   clear A80
   have H' := Aside0.mk H
   clear H
   go_wp2_with (first | ((with_reducible refine qh0 (f := 86) rfl ?_); refine qu0 (some 13) rfl rfl Try.func86 (by kernel_rfl) rfl #[.slice A0 l0.length c0] rfl (by (try simp only [List.map_toArray, List.map_cons, List.map_nil]); first | done | rfl | (simp only [List.length_drop, List.length_take]; rfl)) ?_; (with_reducible refine (spec_l13Open.calls k _ _ l0 true _ ?side1 ?side2 A6.out).mono ?_); (case side1 => repeat (first | exact (Kd.qd1 HR0.out HB.out) | (with_reducible refine Kd.qn0 ?_ _) | (with_reducible refine Kd.qm0 ?_ _) | (with_reducible refine Kd.qs0 ?_))); (case side2 => exact HC0.out); rintro e w' ⟨rfl, ⟨nd, rfl⟩⟩; refine ⟨_, rfl, ?_⟩) | (go_at_call 86; (with_reducible refine (spec_l13Open.calls k _ _ l1 t191 _ ?side1 ?side2 A8.out).mono ?_); (case side1 => repeat (first | exact (Kd.qd1 HR1.out (by repeat (first | (with_reducible first | exact HB.out | apply qc0 | apply qa0 | apply qb0) | exact HB.out))) | (with_reducible refine Kd.qn0 ?_ _) | (with_reducible refine Kd.qm0 ?_ _) | (with_reducible refine Kd.qs0 ?_))); (case side2 => exact HC1.out); rintro e w' ⟨rfl, ⟨nd, rfl⟩⟩))
   go_meet
   case rel => exact ⟨_, (!t191), (by first | rfl | (simp; done) | (simp [*]; done)), H', ⟨by first | omega | exact Nat.le_refl _⟩, ⟨by (with_reducible repeat (first | apply Kd.qe0 | apply Kd.qd0 | apply Kd.qf0)); exact HO189.out⟩, ⟨by repeat (first | (with_reducible first | exact HB.out | apply qc0 | apply qa0 | apply qb0) | exact HB.out)⟩⟩
  replace c7 := Bool.eq_false_iff.mpr c7
  subst c7
  have H1 : (spec_Settle.j0 k l0 l1 y187 true) = some r := by rw [if_neg (show ¬ (false = true) by decide)] at H; exact H
  clear H
  have H := H1
  clear H1
  have H' := Aside0.mk H
  clear H
  go_wp2_with (first | ((with_reducible refine qh0 (f := 86) rfl ?_); refine qu0 (some 13) rfl rfl Try.func86 (by kernel_rfl) rfl #[.slice A0 l0.length c0] rfl (by (try simp only [List.map_toArray, List.map_cons, List.map_nil]); first | done | rfl | (simp only [List.length_drop, List.length_take]; rfl)) ?_; (with_reducible refine (spec_l13Open.calls k _ _ l0 false _ ?side1 ?side2 A6.out).mono ?_); (case side1 => repeat (first | exact (Kd.qd1 HR0.out HB.out) | (with_reducible refine Kd.qn0 ?_ _) | (with_reducible refine Kd.qm0 ?_ _) | (with_reducible refine Kd.qs0 ?_))); (case side2 => exact HC0.out); rintro e w' ⟨rfl, ⟨nd, rfl⟩⟩; refine ⟨_, rfl, ?_⟩))
  go_meet
  case rel => exact ⟨_, (true), (by first | rfl | (simp; done) | (simp [*]; done)), H', ⟨by first | omega | exact Nat.le_refl _⟩, ⟨by (with_reducible repeat (first | apply Kd.qe0 | apply Kd.qd0 | apply Kd.qf0)); exact HO189.out⟩, ⟨by repeat (first | (with_reducible first | exact HB.out | apply qc0 | apply qa0 | apply qb0) | exact HB.out)⟩⟩
 case rest =>
  clear HC3
  try clear c1
  try clear p2
  try clear c7
  try clear c8
  obtain ⟨kq, x19_2, rfl, HA, HJ2, HO_5, HB⟩ := hcut
  cases kq with
  | zero => exact absurd HA.out (by simp [spec_Settle.j0])
  | succ kj2 =>
   have H := HA.out
   clear HA
   simp only [spec_Settle.j0] at H
   by_cases c9 : x19_2 = true
   ·subst c9
    have H1 : (some y187) = some r := by rw [if_pos rfl] at H; exact H
    clear H
    have H := H1
    clear H1
    obtain rfl := Option.some.inj H
    go_wp2
    go_ret
    exact ⟨_, by first | rfl | (simp [errW_none, errW_some] <;> rfl) | (simp [*, errW_none, errW_some] <;> rfl), by (with_reducible repeat (first | apply Kd.qe0 | apply Kd.qd0 | apply Kd.qf0)); exact HO_5.out, by repeat (first | (with_reducible first | exact HB.out | apply qc0 | apply qa0 | apply qb0) | exact HB.out)⟩
   replace c9 := Bool.eq_false_iff.mpr c9
   subst c9
   have H1 : ((spec_l13Amounts.f kj2 l0).bind fun t192 => ((spec_l13Amounts.f kj2 l1).bind fun t195 => (spec_Settle.l0 kj2 l0 l1 y187 t192 t195))) = some r := by rw [if_neg (show ¬ (false = true) by decide)] at H; exact H
   clear H
   have H := H1
   clear H1
   replace H := Option.bind_eq_some_iff.mp H
   obtain ⟨t192, A100, H⟩ := H
   replace H : ((spec_l13Amounts.f kj2 l1).bind fun t195 => (spec_Settle.l0 kj2 l0 l1 y187 t192 t195)) = some r := H
   have A10 := Aside0.mk A100
   clear A100
   replace H := Option.bind_eq_some_iff.mp H
   obtain ⟨t195, A110, H⟩ := H
   replace H : (spec_Settle.l0 kj2 l0 l1 y187 t192 t195) = some r := H
   have A11 := Aside0.mk A110
   clear A110
   have H' := Aside0.mk H
   clear H
   go_wp2_with (first | ((with_reducible refine qh0 (f := 87) rfl ?_); refine qu0 (some 22) rfl rfl Try.func87 (by kernel_rfl) rfl #[.slice A0 l0.length c0] rfl (by (try simp only [List.map_toArray, List.map_cons, List.map_nil]); first | done | rfl | (simp only [List.length_drop, List.length_take]; rfl)) ?_; (with_reducible refine (spec_l13Amounts.calls kj2 _ _ l0 t192 _ ?side1 ?side2 A10.out).mono ?_); (case side1 => repeat (first | exact (Kd.qd1 HR0.out HB.out) | (with_reducible refine Kd.qn0 ?_ _) | (with_reducible refine Kd.qm0 ?_ _) | (with_reducible refine Kd.qs0 ?_))); (case side2 => exact HC0.out); rintro e w12 ⟨v193, rfl, ho0, hb⟩; refine ⟨_, rfl, ?_⟩; have n0_ := Aside0.mk (Kd.qj0 (by (with_reducible repeat (first | apply Kd.qe0 | apply Kd.qd0 | apply Kd.qf0)); exact HO_5.out) hb); have n1_ := Aside0.mk (Kd.qz0 ho0 (qi0 (by repeat (first | (with_reducible first | exact HB.out | apply qc0 | apply qa0 | apply qb0) | exact HB.out)))); have n2_ := Aside0.mk (qk0 (by repeat (first | (with_reducible first | exact HB.out | apply qc0 | apply qa0 | apply qb0) | exact HB.out)) hb); clear HO_5; clear HB; have HO_5 := n0_; have HO194 := n1_; have HB := n2_; clear n0_ n1_ n2_; (try clear hb); (try clear hb2); (try clear hk); (try clear hi); (try clear ho0)) | ((with_reducible refine qh0 (f := 87) rfl ?_); refine qu0 (some 24) rfl rfl Try.func87 (by kernel_rfl) rfl #[.slice A1 l1.length c1] rfl (by (try simp only [List.map_toArray, List.map_cons, List.map_nil]); first | done | rfl | (simp only [List.length_drop, List.length_take]; rfl)) ?_; (with_reducible refine (spec_l13Amounts.calls kj2 _ _ l1 t195 _ ?side1 ?side2 A11.out).mono ?_); (case side1 => repeat (first | exact (Kd.qd1 HR1.out HB.out) | (with_reducible refine Kd.qn0 ?_ _) | (with_reducible refine Kd.qm0 ?_ _) | (with_reducible refine Kd.qs0 ?_))); (case side2 => exact HC1.out); rintro e w13 ⟨v196, rfl, ho0, hb⟩; refine ⟨_, rfl, ?_⟩; have n0_ := Aside0.mk (Kd.qj0 (by (with_reducible repeat (first | apply Kd.qe0 | apply Kd.qd0 | apply Kd.qf0)); exact HO_5.out) hb); have n1_ := Aside0.mk (Kd.qt0 (by (with_reducible repeat (first | apply Kd.qe0 | apply Kd.qd0 | apply Kd.qf0)); exact HO194.out) (Kd.qa1 ho0) hb); have n2_ := Aside0.mk (Kd.qz0 (Kd.qb1 ho0 (Kd.R_lt (by (with_reducible repeat (first | apply Kd.qe0 | apply Kd.qd0 | apply Kd.qf0)); exact HO194.out))) (qi0 (by repeat (first | (with_reducible first | exact HB.out | apply qc0 | apply qa0 | apply qb0) | exact HB.out)))); have n3_ := Aside0.mk (qk0 (by repeat (first | (with_reducible first | exact HB.out | apply qc0 | apply qa0 | apply qb0) | exact HB.out)) hb); clear HO_5; clear HO194; clear HB; have HO_5 := n0_; have HO194 := n1_; have HO197 := n2_; have HB := n3_; clear n0_ n1_ n2_ n3_; (try clear hb); (try clear hb2); (try clear hk); (try clear hi); (try clear ho0)))
   go_loopg [5] kj2 (fun kq v5 w' => ∃ (x5_2 : List (S30)) (x6_2 : List Int) (x7_2 : List Int), Aside0 (spec_Settle.l0 kq l0 l1 x5_2 x6_2 x7_2 = some r) ∧ Aside0 (kq ≤ kj2) ∧ Aside0 (Kd.R k30 30 w' w.heap.size (fun _ => True) v5 x5_2) ∧ Aside0 (Kd.R (Kd.int .i64) 3 w' w.heap.size (fun k_ => some k_ ≠ (v196 : Value).ownBlock) v193 x6_2) ∧ Aside0 (Kd.R (Kd.int .i64) 3 w' w.heap.size (fun k_ => some k_ ≠ (v193 : Value).ownBlock) v196 x7_2) ∧ Aside0 (Below w.heap.size w w'))
   case atStart => exact ⟨(y187), (t192), (t195), H', ⟨Nat.le_refl _⟩, ⟨by (with_reducible repeat (first | apply Kd.qe0 | apply Kd.qd0 | apply Kd.qf0)); exact HO_5.out⟩, ⟨by (with_reducible repeat (first | apply Kd.qe0 | apply Kd.qd0 | apply Kd.qf0)); exact Kd.qy0 HO194.out (fun _ hk => hk.2)⟩, ⟨by (with_reducible repeat (first | apply Kd.qe0 | apply Kd.qd0 | apply Kd.qf0)); exact Kd.qy0 HO197.out (fun _ hk => hk.2)⟩, ⟨by repeat (first | (with_reducible first | exact HB.out | apply qc0 | apply qa0 | apply qb0) | exact HB.out)⟩⟩
   case round =>
    clear H'
    try clear c1
    try clear p2
    try clear c7
    try clear c8
    try clear c9
    try clear p2
    obtain ⟨x5_2, x6_2, x7_2, HA, HK2, HO_5, HO_6, HO_7, HB⟩ := hrel
    cases gk with
    | zero => exact absurd HA.out (by simp [spec_Settle.l0])
    | succ k2 =>
     have H := HA.out
     clear HA
     simp only [spec_Settle.l0] at H
     replace H := Option.bind_eq_some_iff.mp H
     obtain ⟨t198, A140, H⟩ := H
     replace H : ((spec_l13Next.f k2 l1 x7_2).bind fun t199 => (if t198 < 0 then (spec_Settle.j2 k2 l0 l1 x5_2 x6_2 x7_2 t198 t199 true) else (spec_Settle.j2 k2 l0 l1 x5_2 x6_2 x7_2 t198 t199 (decide (t199 < 0))))) = some r := H
     have A14 := Aside0.mk A140
     clear A140
     replace H := Option.bind_eq_some_iff.mp H
     obtain ⟨t199, A150, H⟩ := H
     replace H : (if t198 < 0 then (spec_Settle.j2 k2 l0 l1 x5_2 x6_2 x7_2 t198 t199 true) else (spec_Settle.j2 k2 l0 l1 x5_2 x6_2 x7_2 t198 t199 (decide (t199 < 0)))) = some r := H
     have A15 := Aside0.mk A150
     clear A150
     have HC16 := Aside0.mk H
     clear H
     obtain ⟨Ao17, co17, eo17⟩ := Kd.qx0 HO_6.out
     subst eo17
     go_upto_region 8 with (first | ((with_reducible refine qh0 (f := 88) rfl ?_); refine qu0 (some 27) rfl rfl Try.func88 (by kernel_rfl) rfl #[.slice A0 l0.length c0, .slice Ao17 x6_2.length co17] rfl (by (try simp only [List.map_toArray, List.map_cons, List.map_nil]); first | done | rfl | (simp only [List.length_drop, List.length_take]; rfl)) ?_; (with_reducible refine (spec_l13Next.calls k2 _ _ l0 _ _ x6_2 t198 _ ?side1 ?side2 ?side3 ?side4 A14.out).mono ?_); (case side1 => repeat (first | exact (Kd.qd1 HR0.out HB.out) | (with_reducible refine Kd.qn0 ?_ _) | (with_reducible refine Kd.qm0 ?_ _) | (with_reducible refine Kd.qs0 ?_))); (case side2 => exact HC0.out); (case side3 => repeat (first | exact (Kd.qg0 HO_6.out).2.2 | (with_reducible refine Kd.qn0 ?_ _) | (with_reducible refine Kd.qm0 ?_ _) | (with_reducible refine Kd.qs0 ?_))); (case side4 => exact (Kd.qg0 HO_6.out).2.1); rintro e w' ⟨rfl, ⟨nd, rfl⟩⟩; refine ⟨_, rfl, ?_⟩; obtain ⟨Ao18, co18, eo18⟩ := Kd.qx0 HO_7.out; subst eo18) | ((with_reducible refine qh0 (f := 88) rfl ?_); refine qu0 (some 30) rfl rfl Try.func88 (by kernel_rfl) rfl #[.slice A1 l1.length c1, .slice Ao18 x7_2.length co18] rfl (by (try simp only [List.map_toArray, List.map_cons, List.map_nil]); first | done | rfl | (simp only [List.length_drop, List.length_take]; rfl)) ?_; (with_reducible refine (spec_l13Next.calls k2 _ _ l1 _ _ x7_2 t199 _ ?side1 ?side2 ?side3 ?side4 A15.out).mono ?_); (case side1 => repeat (first | exact (Kd.qd1 HR1.out (by repeat (first | (with_reducible first | exact HB.out | apply qc0 | apply qa0 | apply qb0) | exact HB.out))) | (with_reducible refine Kd.qn0 ?_ _) | (with_reducible refine Kd.qm0 ?_ _) | (with_reducible refine Kd.qs0 ?_))); (case side2 => exact HC1.out); (case side3 => repeat (first | exact (Kd.qg0 HO_7.out).2.2 | (with_reducible refine Kd.qn0 ?_ _) | (with_reducible refine Kd.qm0 ?_ _) | (with_reducible refine Kd.qs0 ?_))); (case side4 => exact (Kd.qg0 HO_7.out).2.1); rintro e w' ⟨rfl, ⟨nd, rfl⟩⟩; refine ⟨_, rfl, ?_⟩))
     (try simp only [Act.put, List.setIfInBounds_toArray, List.set_cons_zero, List.set_cons_succ])
     go_cut [36] (fun v36 wc => ∃ (kq : Nat) (x36_15 : Bool), v36 = .bool x36_15 ∧ Aside0 (spec_Settle.j2 kq l0 l1 x5_2 x6_2 x7_2 t198 t199 x36_15 = some r) ∧ Aside0 (kq ≤ k2) ∧ Aside0 (Kd.R k30 30 wc w.heap.size (fun _ => True) u5 x5_2) ∧ Aside0 (Kd.R (Kd.int .i64) 3 wc w.heap.size (fun k_ => some k_ ≠ ((.slice Ao18 x7_2.length co18) : Value).ownBlock) (.slice Ao17 x6_2.length co17) x6_2) ∧ Aside0 (Kd.R (Kd.int .i64) 3 wc w.heap.size (fun k_ => some k_ ≠ ((.slice Ao17 x6_2.length co17) : Value).ownBlock) (.slice Ao18 x7_2.length co18) x7_2) ∧ Aside0 (Below w.heap.size w wc))
     case first =>
      have H := HC16.out
      clear HC16
      by_cases c19 : t198 < 0
      ·rw [if_pos c19] at H
       have c19b0 : decide (t198 < 0) = true := decide_eq_true c19
       clear c19
       (first | rw [c19b0] | (simp only [i64_w, i32_w]; rw [c19b0]) | skip)
       have H' := Aside0.mk H
       clear H
       go_wp2
       go_meet
       case rel => exact ⟨_, (true), (by first | rfl | (simp; done) | (simp [*]; done)), H', ⟨by have := HJ2.out; have := HK2.out; first | omega | exact Nat.le_refl _⟩, ⟨by (with_reducible repeat (first | apply Kd.qe0 | apply Kd.qd0 | apply Kd.qf0)); exact HO_5.out⟩, ⟨by (with_reducible repeat (first | apply Kd.qe0 | apply Kd.qd0 | apply Kd.qf0)); exact HO_6.out⟩, ⟨by (with_reducible repeat (first | apply Kd.qe0 | apply Kd.qd0 | apply Kd.qf0)); exact HO_7.out⟩, ⟨by repeat (first | (with_reducible first | exact HB.out | apply qc0 | apply qa0 | apply qb0) | exact HB.out)⟩⟩
      rw [if_neg c19] at H
      have c19b0 : decide (t198 < 0) = false := decide_eq_false c19
      clear c19
      (first | rw [c19b0] | (simp only [i64_w, i32_w]; rw [c19b0]) | skip)
      have H' := Aside0.mk H
      clear H
      go_wp2
      go_meet
      case rel => exact ⟨_, (decide (t199 < 0)), (by first | rfl | (simp; done) | (simp [*]; done)), H', ⟨by have := HJ2.out; have := HK2.out; first | omega | exact Nat.le_refl _⟩, ⟨by (with_reducible repeat (first | apply Kd.qe0 | apply Kd.qd0 | apply Kd.qf0)); exact HO_5.out⟩, ⟨by (with_reducible repeat (first | apply Kd.qe0 | apply Kd.qd0 | apply Kd.qf0)); exact HO_6.out⟩, ⟨by (with_reducible repeat (first | apply Kd.qe0 | apply Kd.qd0 | apply Kd.qf0)); exact HO_7.out⟩, ⟨by repeat (first | (with_reducible first | exact HB.out | apply qc0 | apply qa0 | apply qb0) | exact HB.out)⟩⟩
     case rest =>
      clear HC16
      try clear c1
      try clear p2
      try clear c7
      try clear c8
      try clear c9
      try clear c18
      try clear c19
      try clear c19b0
      try clear p2
      obtain ⟨kq, x36_15, rfl, HA, HJ15, HO_5, HO_6, HO_7, HB⟩ := hcut
      cases kq with
      | zero => exact absurd HA.out (by simp [spec_Settle.j2])
      | succ kj15 =>
       have H := HA.out
       clear HA
       simp only [spec_Settle.j2] at H
       by_cases c20 : x36_15 = true
       ·subst c20
        have H1 : (some x5_2) = some r := by rw [if_pos rfl] at H; exact H
        clear H
        have H := H1
        clear H1
        obtain rfl := Option.some.inj H
        go_wp2
        go_ret
        exact ⟨_, by first | rfl | (simp [errW_none, errW_some] <;> rfl) | (simp [*, errW_none, errW_some] <;> rfl), by (with_reducible repeat (first | apply Kd.qe0 | apply Kd.qd0 | apply Kd.qf0)); exact HO_5.out, by repeat (first | (with_reducible first | exact HB.out | apply qc0 | apply qa0 | apply qb0) | exact HB.out)⟩
       replace c20 := Bool.eq_false_iff.mpr c20
       subst c20
       have H1 : (if 0 ≤ t198 then (if t198 < (x6_2.length : Int) then (if 0 ≤ t199 then (if t199 < (x7_2.length : Int) then (if (rd x7_2 t199) < (rd x6_2 t198) then (if x5_2.length < 5864062014805 then (spec_Settle.l0 kj15 l0 l1 (x5_2 ++ [(⟨t198, t199, rd x7_2 t199⟩ : S30)]) (x6_2.set (t198 : Int).toNat (wrap64 ((rd x6_2 t198) - (rd x7_2 t199)))) (x7_2.set (t199 : Int).toNat 0)) else (none)) else (if x5_2.length < 5864062014805 then (spec_Settle.l0 kj15 l0 l1 (x5_2 ++ [(⟨t198, t199, rd x6_2 t198⟩ : S30)]) (x6_2.set (t198 : Int).toNat 0) (x7_2.set (t199 : Int).toNat (wrap64 ((rd x7_2 t199) - (rd x6_2 t198))))) else (none))) else (none)) else (none)) else (none)) else (none)) = some r := by rw [if_neg (show ¬ (false = true) by decide)] at H; exact H
       clear H
       have H := H1
       clear H1
       by_cases c21 : 0 ≤ t198
       case neg => rw [if_neg c21] at H; exact absurd H (by simp)
       rw [if_pos c21] at H
       have c21b0 : decide (0 ≤ t198) = true := decide_eq_true c21
       clear c21
       by_cases c22 : t198 < (x6_2.length : Int)
       case neg => rw [if_neg c22] at H; exact absurd H (by simp)
       rw [if_pos c22] at H
       have c22b0 : decide (t198 < (x6_2.length : Int)) = true := decide_eq_true c22
       clear c22
       by_cases c23 : 0 ≤ t199
       case neg => rw [if_neg c23] at H; exact absurd H (by simp)
       rw [if_pos c23] at H
       have c23b0 : decide (0 ≤ t199) = true := decide_eq_true c23
       clear c23
       by_cases c24 : t199 < (x7_2.length : Int)
       case neg => rw [if_neg c24] at H; exact absurd H (by simp)
       rw [if_pos c24] at H
       have c24b0 : decide (t199 < (x7_2.length : Int)) = true := decide_eq_true c24
       clear c24
       by_cases c25 : (rd x7_2 t199) < (rd x6_2 t198)
       ·rw [if_pos c25] at H
        have c25b0 : decide ((rd x7_2 t199) < (rd x6_2 t198)) = true := decide_eq_true c25
        clear c25
        obtain ⟨y204, hy204⟩ : ∃ y_ : List Int, y_ = (x6_2.set (t198 : Int).toNat (wrap64 ((rd x6_2 t198) - (rd x7_2 t199)))) := ⟨_, rfl⟩
        replace H : (if x5_2.length < 5864062014805 then (spec_Settle.l0 kj15 l0 l1 (x5_2 ++ [(⟨t198, t199, rd x7_2 t199⟩ : S30)]) y204 (x7_2.set (t199 : Int).toNat 0)) else (none)) = some r := by first | (rw [hy204]; with_reducible exact H) | (have H2_ := (Option.bind_some _ _).symm.trans H; rw [hy204]; with_reducible exact H2_) | (have H2_ := (Option.bind_some _ _).symm.trans H; with_reducible exact H2_) | with_reducible exact H | (rw [hy204]; exact H) | exact H
        have Ny204 := Aside0.mk hy204
        clear hy204
        obtain ⟨y206, hy206⟩ : ∃ y_ : List Int, y_ = (x7_2.set (t199 : Int).toNat 0) := ⟨_, rfl⟩
        replace H : (if x5_2.length < 5864062014805 then (spec_Settle.l0 kj15 l0 l1 (x5_2 ++ [(⟨t198, t199, rd x7_2 t199⟩ : S30)]) y204 y206) else (none)) = some r := by first | (rw [hy206]; with_reducible exact H) | (have H2_ := (Option.bind_some _ _).symm.trans H; rw [hy206]; with_reducible exact H2_) | (have H2_ := (Option.bind_some _ _).symm.trans H; with_reducible exact H2_) | with_reducible exact H | (rw [hy206]; exact H) | exact H
        have Ny206 := Aside0.mk hy206
        clear hy206
        by_cases c28 : x5_2.length < 5864062014805
        case neg => rw [if_neg c28] at H; exact absurd H (by simp)
        rw [if_pos c28] at H
        have LMc28 := Aside0.mk c28
        clear c28
        obtain ⟨y207, hy207⟩ : ∃ y_ : List (S30), y_ = (x5_2 ++ [(⟨t198, t199, rd x7_2 t199⟩ : S30)]) := ⟨_, rfl⟩
        replace H : (spec_Settle.l0 kj15 l0 l1 y207 y204 y206) = some r := by first | (rw [hy207]; with_reducible exact H) | (have H2_ := (Option.bind_some _ _).symm.trans H; rw [hy207]; with_reducible exact H2_) | (have H2_ := (Option.bind_some _ _).symm.trans H; with_reducible exact H2_) | with_reducible exact H | (rw [hy207]; exact H) | exact H
        have Ny207 := Aside0.mk hy207
        clear hy207
        have H' := Aside0.mk H
        clear H
        have p200 : 0 ≤ (t198 : Int) := of_decide_eq_true (by first | (with_reducible assumption) | assumption)
        have q200 : t198 < (x6_2.length : Int) := of_decide_eq_true (by first | (with_reducible assumption) | assumption)
        obtain ⟨ad200, e200, hx200_0⟩ := Kd.ql1 (Kd.qg0 HO_6.out).2.2 t198 p200 q200
        cases e200
        replace p200 := eq_true p200
        replace q200 := eq_true q200
        have p201 : 0 ≤ (t199 : Int) := of_decide_eq_true (by first | (with_reducible assumption) | assumption)
        have q201 : t199 < (x7_2.length : Int) := of_decide_eq_true (by first | (with_reducible assumption) | assumption)
        obtain ⟨ad201, e201, hx201_0⟩ := Kd.ql1 (Kd.qg0 HO_7.out).2.2 t199 p201 q201
        cases e201
        replace p201 := eq_true p201
        replace q201 := eq_true q201
        have p202 : 0 ≤ (t199 : Int) := of_decide_eq_true (by first | (with_reducible assumption) | assumption)
        have q202 : t199 < (x7_2.length : Int) := of_decide_eq_true (by first | (with_reducible assumption) | assumption)
        obtain ⟨ad202, e202, hx202_0⟩ := Kd.ql1 (Kd.qg0 HO_7.out).2.2 t199 p202 q202
        obtain rfl : ad201 = ad202 := (by injection e202)
        replace p202 := eq_true p202
        replace q202 := eq_true q202
        have p203 : 0 ≤ (t198 : Int) := of_decide_eq_true (by first | (with_reducible assumption) | assumption)
        have q203 : t198 < (x6_2.length : Int) := of_decide_eq_true (by first | (with_reducible assumption) | assumption)
        obtain ⟨ad203, e203, hx203_0⟩ := Kd.ql1 (Kd.qg0 HO_6.out).2.2 t198 p203 q203
        obtain rfl : ad200 = ad203 := (by injection e203)
        replace p203 := eq_true p203
        replace q203 := eq_true q203
        have p26 : 0 ≤ (t198 : Int) := of_decide_eq_true (by first | (with_reducible assumption) | assumption)
        have q26 : (t198 : Int) < ((x6_2.length : Int) : Int) := of_decide_eq_true (by first | (with_reducible assumption) | assumption)
        obtain ⟨go26, co26, eo26, gb26, gl26, cl26, HG26⟩ := Kd.R_form HO_6.out (by omega)
        (first | cases eo26 | (injection eo26 with ea_ en_ ec_; (first | subst ea_ | (injection ea_ with ea_; subst ea_)); subst ec_; clear en_))
        have GB26 := Aside0.mk gb26
        have GG26 := Aside0.mk HG26
        clear gb26 gl26 HG26
        (first | simp only [add_plain] at hx200_0 | skip)
        (first | simp only [add_plain] at hx203_0 | skip)
        obtain ⟨hx26_0, hf26_0⟩ := Kd.R_celln 0 HO_6.out (t198 : Int) p26 q26
        replace p26 := eq_true p26
        replace q26 := eq_true q26
        have HP29 := Kd.R_putg HO_6.out (t198 : Int) (wrap64 ((rd x6_2 t198) - (rd x7_2 t199)))
        go_wp2_with (first | ((with_reducible refine gate_store (t := 3) (p := 60) rfl ?_); refine store_event (t := 3) (p := 60) (v := ?vo_w30) (w1 := (wc.setCell ⟨go26, (t198 : Int).toNat, none⟩ (.int .i64 (wrap64 ((rd x6_2 t198) - (rd x7_2 t199)))))) ?hg ?ho ?hn ?hr ?_; (case ho => rfl); (case hg => rfl); (case hn => rfl); (case hr => first | (go_simp; done) | (go_simp; rfl)); intro w30 hw; have hg : wc.grownBy w30 (some go26) := (by rw [hw]; exact HP29.2); have hp_ : Kd.R (Kd.int .i64) 3 w30 w.heap.size (fun k_ => some k_ ≠ (.slice (some ad201) x7_2.length co18 : Value).ownBlock) (.slice (some ⟨go26, 0, none⟩) x6_2.length co17) y204 := (by rw [hw, Ny204.out]; exact HP29.1); clear HP29; have n0_ := Aside0.mk (Kd.R_over' (v := (.slice (some ⟨go26, 0, none⟩) x6_2.length co17)) (by (with_reducible repeat (first | apply Kd.qe0 | apply Kd.qd0 | apply Kd.qf0)); exact HO_5.out) (Kd.qn1 HO_6.out) (by decide) hg); have n1_ := Aside0.mk (hp_); have n2_ := Aside0.mk (Kd.R_after (v := (.slice (some ⟨go26, 0, none⟩) x6_2.length co17)) (v1 := (.slice (some ⟨go26, 0, none⟩) x6_2.length co17)) (ok := (fun _ => True)) (by (with_reducible repeat (first | apply Kd.qe0 | apply Kd.qd0 | apply Kd.qf0)); exact Kd.qy0 HO_7.out (fun _ hk => ⟨trivial, hk⟩)) hg (.inl rfl)); have n3_ := Aside0.mk ((by rw [hw]; exact ql0 (HB.out) GB26.out : Below w.heap.size w w30)); clear HO_5; clear HO_6; clear HO_7; clear HB; have HO_5 := n0_; have HO_6 := n1_; have HO_7 := n2_; have HB := n3_; clear n0_ n1_ n2_ n3_; clear hg hw hp_; have p205 : 0 ≤ (t199 : Int) := of_decide_eq_true (by first | (with_reducible assumption) | assumption); have q205 : t199 < (x7_2.length : Int) := of_decide_eq_true (by first | (with_reducible assumption) | assumption); obtain ⟨ad205, e205, hx205_0⟩ := Kd.ql1 (Kd.qg0 HO_7.out).2.2 t199 p205 q205; obtain rfl : ad201 = ad205 := (by injection e205); replace p205 := eq_true p205; replace q205 := eq_true q205; have p27 : 0 ≤ (t199 : Int) := of_decide_eq_true (by first | (with_reducible assumption) | assumption); have q27 : (t199 : Int) < ((x7_2.length : Int) : Int) := of_decide_eq_true (by first | (with_reducible assumption) | assumption); obtain ⟨go27, co27, eo27, gb27, gl27, cl27, HG27⟩ := Kd.R_form HO_7.out (by omega); (first | cases eo27 | (injection eo27 with ea_ en_ ec_; (first | subst ea_ | (injection ea_ with ea_; subst ea_)); subst ec_; clear en_)); have GB27 := Aside0.mk gb27; have GG27 := Aside0.mk HG27; clear gb27 gl27 HG27; (first | simp only [add_plain] at hx201_0 | skip); (first | simp only [add_plain] at hx202_0 | skip); (first | simp only [add_plain] at hx205_0 | skip); obtain ⟨hx27_0, hf27_0⟩ := Kd.R_celln 0 HO_7.out (t199 : Int) p27 q27; replace p27 := eq_true p27; replace q27 := eq_true q27; have n_ := Aside0.mk (Kd.qy0 (ok' := (fun k_ => some k_ ≠ (.slice (some ⟨go26, 0, none⟩) x6_2.length co17 : Value).ownBlock)) HO_7.out (fun k_ hk => hk.2)); clear HO_7; have HO_7 := n_; clear n_; obtain ⟨hy31_, hz31_⟩ := Kd.R_celln 0 HO_7.out (t199 : Int) (of_decide_eq_true (by first | (with_reducible assumption) | assumption)) (of_decide_eq_true (by first | (with_reducible assumption) | assumption)); have HP31 := Kd.R_putg HO_7.out (t199 : Int) 0) | ((with_reducible refine gate_store (t := 3) (p := 69) rfl ?_); refine store_event (t := 3) (p := 69) (v := ?vo_w32) (w1 := (w30.setCell ⟨go27, (t199 : Int).toNat, none⟩ (.int .i64 0))) ?hg ?ho ?hn ?hr ?_; (case ho => rfl); (case hg => rfl); (case hn => rfl); (case hr => first | (go_simp; done) | (go_simp; rfl)); intro w32 hw; have hg : w30.grownBy w32 (some go27) := (by rw [hw]; exact HP31.2); have hp_ : Kd.R (Kd.int .i64) 3 w32 w.heap.size (fun k_ => some k_ ≠ (.slice (some ⟨go26, 0, none⟩) x6_2.length co17 : Value).ownBlock) (.slice (some ⟨go27, 0, none⟩) x7_2.length co18) y206 := (by rw [hw, Ny206.out]; exact HP31.1); clear HP31; have n0_ := Aside0.mk (Kd.R_over' (v := (.slice (some ⟨go27, 0, none⟩) x7_2.length co18)) (by (with_reducible repeat (first | apply Kd.qe0 | apply Kd.qd0 | apply Kd.qf0)); exact HO_5.out) (Kd.qn1 HO_7.out) (by decide) hg); have n1_ := Aside0.mk (Kd.R_after (v := (.slice (some ⟨go27, 0, none⟩) x7_2.length co18)) (v1 := (.slice (some ⟨go27, 0, none⟩) x7_2.length co18)) (ok := (fun _ => True)) (by (with_reducible repeat (first | apply Kd.qe0 | apply Kd.qd0 | apply Kd.qf0)); exact Kd.qy0 HO_6.out (fun _ hk => ⟨trivial, hk⟩)) hg (.inl rfl)); have n2_ := Aside0.mk (hp_); have n3_ := Aside0.mk ((by rw [hw]; exact ql0 (HB.out) GB27.out : Below w.heap.size w w32)); clear HO_5; clear HO_6; clear HO_7; clear HB; have HO_5 := n0_; have HO_6 := n1_; have HO_7 := n2_; have HB := n3_; clear n0_ n1_ n2_ n3_; clear hg hw hp_) | ((with_reducible refine gate_builtin (b := .append) (xs := #[.tmp 70, .tmp 75]) rfl ?_); at_builtin; refine Kd.R_append k30 (w0 := w) w.heap.size rfl (.tmp 70) (.tmp 75) 24 30 (.agg #[(.int .i64 0), (.int .i64 0), (.int .i64 0)]) 24 rfl Try.underlying24 info30 rfl (by decide) (by omega) u5 x5_2 (⟨t198, t199, rd x7_2 t199⟩ : S30) [.int .i64 t198, .int .i64 t199, .int .i64 (rd x7_2 t199)] (fun _ => True) (fun _ => False) rfl rfl ?aP (fun _ hk => hk.elim) ?aF ?aO ?aB ?aS ?aL ?_; (case aP => exact k30_mkM _ _ _ (⟨t198, t199, rd x7_2 t199⟩ : S30)); (case aB => exact (by repeat (first | (with_reducible first | exact HB.out | apply qc0 | apply qa0 | apply qb0) | exact HB.out))); (case aF => exact (fun _ _ => trivial)); (case aO => exact (by (with_reducible repeat (first | apply Kd.qe0 | apply Kd.qd0 | apply Kd.qf0)); exact HO_5.out)); (case aS => exact (qi0 (by repeat (first | (with_reducible first | exact HB.out | apply qc0 | apply qa0 | apply qb0) | exact HB.out)))); (case aL => have := LMc28.out; omega); intro v208 w33 ho hb hg hat; rw [← Ny207.out] at ho; have n0_ := Aside0.mk (Kd.R_over' (by (with_reducible repeat (first | apply Kd.qe0 | apply Kd.qd0 | apply Kd.qf0)); exact HO_6.out) (Kd.qn1 (by (with_reducible repeat (first | apply Kd.qe0 | apply Kd.qd0 | apply Kd.qf0)); exact HO_5.out)) (by decide) hg); have n1_ := Aside0.mk (Kd.R_over' (by (with_reducible repeat (first | apply Kd.qe0 | apply Kd.qd0 | apply Kd.qf0)); exact HO_7.out) (Kd.qn1 (by (with_reducible repeat (first | apply Kd.qe0 | apply Kd.qd0 | apply Kd.qf0)); exact HO_5.out)) (by decide) hg); have n2_ := Aside0.mk (hb); have n3_ := Aside0.mk (ho); clear HO_6; clear HO_7; clear HB; clear HO_5; have HO_6 := n0_; have HO_7 := n1_; have HB := n2_; have HO209 := n3_; clear n0_ n1_ n2_ n3_; clear ho hb hg hat))
        go_roundg kj15
        case measure => have := HJ2.out; have := HK2.out; have := HJ15.out; omega
        case rel => exact ⟨(y207), (y204), (y206), H', ⟨by have := HJ2.out; have := HK2.out; have := HJ15.out; omega⟩, ⟨by (with_reducible repeat (first | apply Kd.qe0 | apply Kd.qd0 | apply Kd.qf0)); exact HO209.out⟩, ⟨by (with_reducible repeat (first | apply Kd.qe0 | apply Kd.qd0 | apply Kd.qf0)); exact Kd.qy0 HO_6.out (fun _ hk => hk.2)⟩, ⟨by (with_reducible repeat (first | apply Kd.qe0 | apply Kd.qd0 | apply Kd.qf0)); exact HO_7.out⟩, ⟨by repeat (first | (with_reducible first | exact HB.out | apply qc0 | apply qa0 | apply qb0) | exact HB.out)⟩⟩
       rw [if_neg c25] at H
       have c25b0 : decide ((rd x7_2 t199) < (rd x6_2 t198)) = false := decide_eq_false c25
       clear c25
       obtain ⟨y211, hy211⟩ : ∃ y_ : List Int, y_ = (x6_2.set (t198 : Int).toNat 0) := ⟨_, rfl⟩
       replace H : (if x5_2.length < 5864062014805 then (spec_Settle.l0 kj15 l0 l1 (x5_2 ++ [(⟨t198, t199, rd x6_2 t198⟩ : S30)]) y211 (x7_2.set (t199 : Int).toNat (wrap64 ((rd x7_2 t199) - (rd x6_2 t198))))) else (none)) = some r := by first | (rw [hy211]; with_reducible exact H) | (have H2_ := (Option.bind_some _ _).symm.trans H; rw [hy211]; with_reducible exact H2_) | (have H2_ := (Option.bind_some _ _).symm.trans H; with_reducible exact H2_) | with_reducible exact H | (rw [hy211]; exact H) | exact H
       have Ny211 := Aside0.mk hy211
       clear hy211
       obtain ⟨y213, hy213⟩ : ∃ y_ : List Int, y_ = (x7_2.set (t199 : Int).toNat (wrap64 ((rd x7_2 t199) - (rd x6_2 t198)))) := ⟨_, rfl⟩
       replace H : (if x5_2.length < 5864062014805 then (spec_Settle.l0 kj15 l0 l1 (x5_2 ++ [(⟨t198, t199, rd x6_2 t198⟩ : S30)]) y211 y213) else (none)) = some r := by first | (rw [hy213]; with_reducible exact H) | (have H2_ := (Option.bind_some _ _).symm.trans H; rw [hy213]; with_reducible exact H2_) | (have H2_ := (Option.bind_some _ _).symm.trans H; with_reducible exact H2_) | with_reducible exact H | (rw [hy213]; exact H) | exact H
       have Ny213 := Aside0.mk hy213
       clear hy213
       by_cases c36 : x5_2.length < 5864062014805
       case neg => rw [if_neg c36] at H; exact absurd H (by simp)
       rw [if_pos c36] at H
       have LMc36 := Aside0.mk c36
       clear c36
       obtain ⟨y214, hy214⟩ : ∃ y_ : List (S30), y_ = (x5_2 ++ [(⟨t198, t199, rd x6_2 t198⟩ : S30)]) := ⟨_, rfl⟩
       replace H : (spec_Settle.l0 kj15 l0 l1 y214 y211 y213) = some r := by first | (rw [hy214]; with_reducible exact H) | (have H2_ := (Option.bind_some _ _).symm.trans H; rw [hy214]; with_reducible exact H2_) | (have H2_ := (Option.bind_some _ _).symm.trans H; with_reducible exact H2_) | with_reducible exact H | (rw [hy214]; exact H) | exact H
       have Ny214 := Aside0.mk hy214
       clear hy214
       have H' := Aside0.mk H
       clear H
       have p200 : 0 ≤ (t198 : Int) := of_decide_eq_true (by first | (with_reducible assumption) | assumption)
       have q200 : t198 < (x6_2.length : Int) := of_decide_eq_true (by first | (with_reducible assumption) | assumption)
       obtain ⟨ad200, e200, hx200_0⟩ := Kd.ql1 (Kd.qg0 HO_6.out).2.2 t198 p200 q200
       cases e200
       replace p200 := eq_true p200
       replace q200 := eq_true q200
       have p201 : 0 ≤ (t199 : Int) := of_decide_eq_true (by first | (with_reducible assumption) | assumption)
       have q201 : t199 < (x7_2.length : Int) := of_decide_eq_true (by first | (with_reducible assumption) | assumption)
       obtain ⟨ad201, e201, hx201_0⟩ := Kd.ql1 (Kd.qg0 HO_7.out).2.2 t199 p201 q201
       cases e201
       replace p201 := eq_true p201
       replace q201 := eq_true q201
       have p210 : 0 ≤ (t198 : Int) := of_decide_eq_true (by first | (with_reducible assumption) | assumption)
       have q210 : t198 < (x6_2.length : Int) := of_decide_eq_true (by first | (with_reducible assumption) | assumption)
       obtain ⟨ad210, e210, hx210_0⟩ := Kd.ql1 (Kd.qg0 HO_6.out).2.2 t198 p210 q210
       obtain rfl : ad200 = ad210 := (by injection e210)
       replace p210 := eq_true p210
       replace q210 := eq_true q210
       have p34 : 0 ≤ (t198 : Int) := of_decide_eq_true (by first | (with_reducible assumption) | assumption)
       have q34 : (t198 : Int) < ((x6_2.length : Int) : Int) := of_decide_eq_true (by first | (with_reducible assumption) | assumption)
       obtain ⟨go34, co34, eo34, gb34, gl34, cl34, HG34⟩ := Kd.R_form HO_6.out (by omega)
       (first | cases eo34 | (injection eo34 with ea_ en_ ec_; (first | subst ea_ | (injection ea_ with ea_; subst ea_)); subst ec_; clear en_))
       have GB34 := Aside0.mk gb34
       have GG34 := Aside0.mk HG34
       clear gb34 gl34 HG34
       (first | simp only [add_plain] at hx200_0 | skip)
       (first | simp only [add_plain] at hx210_0 | skip)
       obtain ⟨hx34_0, hf34_0⟩ := Kd.R_celln 0 HO_6.out (t198 : Int) p34 q34
       replace p34 := eq_true p34
       replace q34 := eq_true q34
       have HP37 := Kd.R_putg HO_6.out (t198 : Int) 0
       go_wp2_with (first | ((with_reducible refine gate_store (t := 3) (p := 60) rfl ?_); refine store_event (t := 3) (p := 60) (v := ?vo_w38) (w1 := (wc.setCell ⟨go34, (t198 : Int).toNat, none⟩ (.int .i64 0))) ?hg ?ho ?hn ?hr ?_; (case ho => rfl); (case hg => rfl); (case hn => rfl); (case hr => first | (go_simp; done) | (go_simp; rfl)); intro w38 hw; have hg : wc.grownBy w38 (some go34) := (by rw [hw]; exact HP37.2); have hp_ : Kd.R (Kd.int .i64) 3 w38 w.heap.size (fun k_ => some k_ ≠ (.slice (some ad201) x7_2.length co18 : Value).ownBlock) (.slice (some ⟨go34, 0, none⟩) x6_2.length co17) y211 := (by rw [hw, Ny211.out]; exact HP37.1); clear HP37; have n0_ := Aside0.mk (Kd.R_over' (v := (.slice (some ⟨go34, 0, none⟩) x6_2.length co17)) (by (with_reducible repeat (first | apply Kd.qe0 | apply Kd.qd0 | apply Kd.qf0)); exact HO_5.out) (Kd.qn1 HO_6.out) (by decide) hg); have n1_ := Aside0.mk (hp_); have n2_ := Aside0.mk (Kd.R_after (v := (.slice (some ⟨go34, 0, none⟩) x6_2.length co17)) (v1 := (.slice (some ⟨go34, 0, none⟩) x6_2.length co17)) (ok := (fun _ => True)) (by (with_reducible repeat (first | apply Kd.qe0 | apply Kd.qd0 | apply Kd.qf0)); exact Kd.qy0 HO_7.out (fun _ hk => ⟨trivial, hk⟩)) hg (.inl rfl)); have n3_ := Aside0.mk ((by rw [hw]; exact ql0 (HB.out) GB34.out : Below w.heap.size w w38)); clear HO_5; clear HO_6; clear HO_7; clear HB; have HO_5 := n0_; have HO_6 := n1_; have HO_7 := n2_; have HB := n3_; clear n0_ n1_ n2_ n3_; clear hg hw hp_; have p212 : 0 ≤ (t199 : Int) := of_decide_eq_true (by first | (with_reducible assumption) | assumption); have q212 : t199 < (x7_2.length : Int) := of_decide_eq_true (by first | (with_reducible assumption) | assumption); obtain ⟨ad212, e212, hx212_0⟩ := Kd.ql1 (Kd.qg0 HO_7.out).2.2 t199 p212 q212; obtain rfl : ad201 = ad212 := (by injection e212); replace p212 := eq_true p212; replace q212 := eq_true q212; have p35 : 0 ≤ (t199 : Int) := of_decide_eq_true (by first | (with_reducible assumption) | assumption); have q35 : (t199 : Int) < ((x7_2.length : Int) : Int) := of_decide_eq_true (by first | (with_reducible assumption) | assumption); obtain ⟨go35, co35, eo35, gb35, gl35, cl35, HG35⟩ := Kd.R_form HO_7.out (by omega); (first | cases eo35 | (injection eo35 with ea_ en_ ec_; (first | subst ea_ | (injection ea_ with ea_; subst ea_)); subst ec_; clear en_)); have GB35 := Aside0.mk gb35; have GG35 := Aside0.mk HG35; clear gb35 gl35 HG35; (first | simp only [add_plain] at hx201_0 | skip); (first | simp only [add_plain] at hx212_0 | skip); obtain ⟨hx35_0, hf35_0⟩ := Kd.R_celln 0 HO_7.out (t199 : Int) p35 q35; replace p35 := eq_true p35; replace q35 := eq_true q35; have n_ := Aside0.mk (Kd.qy0 (ok' := (fun k_ => some k_ ≠ (.slice (some ⟨go34, 0, none⟩) x6_2.length co17 : Value).ownBlock)) HO_7.out (fun k_ hk => hk.2)); clear HO_7; have HO_7 := n_; clear n_; obtain ⟨hy39_, hz39_⟩ := Kd.R_celln 0 HO_7.out (t199 : Int) (of_decide_eq_true (by first | (with_reducible assumption) | assumption)) (of_decide_eq_true (by first | (with_reducible assumption) | assumption)); have HP39 := Kd.R_putg HO_7.out (t199 : Int) (wrap64 ((rd x7_2 t199) - (rd x6_2 t198)))) | ((with_reducible refine gate_store (t := 3) (p := 69) rfl ?_); refine store_event (t := 3) (p := 69) (v := ?vo_w40) (w1 := (w38.setCell ⟨go35, (t199 : Int).toNat, none⟩ (.int .i64 (wrap64 ((rd x7_2 t199) - (rd x6_2 t198)))))) ?hg ?ho ?hn ?hr ?_; (case ho => rfl); (case hg => rfl); (case hn => rfl); (case hr => first | (go_simp; done) | (go_simp; rfl)); intro w40 hw; have hg : w38.grownBy w40 (some go35) := (by rw [hw]; exact HP39.2); have hp_ : Kd.R (Kd.int .i64) 3 w40 w.heap.size (fun k_ => some k_ ≠ (.slice (some ⟨go34, 0, none⟩) x6_2.length co17 : Value).ownBlock) (.slice (some ⟨go35, 0, none⟩) x7_2.length co18) y213 := (by rw [hw, Ny213.out]; exact HP39.1); clear HP39; have n0_ := Aside0.mk (Kd.R_over' (v := (.slice (some ⟨go35, 0, none⟩) x7_2.length co18)) (by (with_reducible repeat (first | apply Kd.qe0 | apply Kd.qd0 | apply Kd.qf0)); exact HO_5.out) (Kd.qn1 HO_7.out) (by decide) hg); have n1_ := Aside0.mk (Kd.R_after (v := (.slice (some ⟨go35, 0, none⟩) x7_2.length co18)) (v1 := (.slice (some ⟨go35, 0, none⟩) x7_2.length co18)) (ok := (fun _ => True)) (by (with_reducible repeat (first | apply Kd.qe0 | apply Kd.qd0 | apply Kd.qf0)); exact Kd.qy0 HO_6.out (fun _ hk => ⟨trivial, hk⟩)) hg (.inl rfl)); have n2_ := Aside0.mk (hp_); have n3_ := Aside0.mk ((by rw [hw]; exact ql0 (HB.out) GB35.out : Below w.heap.size w w40)); clear HO_5; clear HO_6; clear HO_7; clear HB; have HO_5 := n0_; have HO_6 := n1_; have HO_7 := n2_; have HB := n3_; clear n0_ n1_ n2_ n3_; clear hg hw hp_) | ((with_reducible refine gate_builtin (b := .append) (xs := #[.tmp 70, .tmp 75]) rfl ?_); at_builtin; refine Kd.R_append k30 (w0 := w) w.heap.size rfl (.tmp 70) (.tmp 75) 24 30 (.agg #[(.int .i64 0), (.int .i64 0), (.int .i64 0)]) 24 rfl Try.underlying24 info30 rfl (by decide) (by omega) u5 x5_2 (⟨t198, t199, rd x6_2 t198⟩ : S30) [.int .i64 t198, .int .i64 t199, .int .i64 (rd x6_2 t198)] (fun _ => True) (fun _ => False) rfl rfl ?aP (fun _ hk => hk.elim) ?aF ?aO ?aB ?aS ?aL ?_; (case aP => exact k30_mkM _ _ _ (⟨t198, t199, rd x6_2 t198⟩ : S30)); (case aB => exact (by repeat (first | (with_reducible first | exact HB.out | apply qc0 | apply qa0 | apply qb0) | exact HB.out))); (case aF => exact (fun _ _ => trivial)); (case aO => exact (by (with_reducible repeat (first | apply Kd.qe0 | apply Kd.qd0 | apply Kd.qf0)); exact HO_5.out)); (case aS => exact (qi0 (by repeat (first | (with_reducible first | exact HB.out | apply qc0 | apply qa0 | apply qb0) | exact HB.out)))); (case aL => have := LMc36.out; omega); intro v215 w41 ho hb hg hat; rw [← Ny214.out] at ho; have n0_ := Aside0.mk (Kd.R_over' (by (with_reducible repeat (first | apply Kd.qe0 | apply Kd.qd0 | apply Kd.qf0)); exact HO_6.out) (Kd.qn1 (by (with_reducible repeat (first | apply Kd.qe0 | apply Kd.qd0 | apply Kd.qf0)); exact HO_5.out)) (by decide) hg); have n1_ := Aside0.mk (Kd.R_over' (by (with_reducible repeat (first | apply Kd.qe0 | apply Kd.qd0 | apply Kd.qf0)); exact HO_7.out) (Kd.qn1 (by (with_reducible repeat (first | apply Kd.qe0 | apply Kd.qd0 | apply Kd.qf0)); exact HO_5.out)) (by decide) hg); have n2_ := Aside0.mk (hb); have n3_ := Aside0.mk (ho); clear HO_6; clear HO_7; clear HB; clear HO_5; have HO_6 := n0_; have HO_7 := n1_; have HB := n2_; have HO216 := n3_; clear n0_ n1_ n2_ n3_; clear ho hb hg hat))
       go_roundg kj15
       case measure => have := HJ2.out; have := HK2.out; have := HJ15.out; omega
       case rel => exact ⟨(y214), (y211), (y213), H', ⟨by have := HJ2.out; have := HK2.out; have := HJ15.out; omega⟩, ⟨by (with_reducible repeat (first | apply Kd.qe0 | apply Kd.qd0 | apply Kd.qf0)); exact HO216.out⟩, ⟨by (with_reducible repeat (first | apply Kd.qe0 | apply Kd.qd0 | apply Kd.qf0)); exact Kd.qy0 HO_6.out (fun _ hk => hk.2)⟩, ⟨by (with_reducible repeat (first | apply Kd.qe0 | apply Kd.qd0 | apply Kd.qf0)); exact HO_7.out⟩, ⟨by repeat (first | (with_reducible first | exact HB.out | apply qc0 | apply qa0 | apply qb0) | exact HB.out)⟩⟩

/-! ### laws_szOpenItemS: function 33 -/
def laws_szOpenItemS.f (l0 : List (S147)) (a1 : Int) : Option (Int) := if (wrap64 (a1 - (l0.length : Int))) < 0 then (some (-1)) else (some (wrap64 (a1 - (l0.length : Int))))
set_option maxHeartbeats 8000000 in
set_option maxRecDepth 100000 in
theorem laws_szOpenItemS.calls (A0 : Option Addr) (c0 : Nat) (l0 : List (S147)) (a1 : Int) (r : Int) (w : World) (hr0 : Kd.C k147 w A0 l0.length l0) (hc0 : l0.length ≤ c0) (h : laws_szOpenItemS.f l0 a1 = some r) :
  Calls Try.prog 33 #[.slice A0 l0.length c0, .int .i64 a1] w fun e w' => e = .returned (.int .i64 r) ∧ Drawn0 w w' := by
 have HR0 := Aside0.mk hr0
 have HC0 := Aside0.mk hc0
 clear hr0 hc0
 have H : (if (wrap64 (a1 - (l0.length : Int))) < 0 then (some (-1)) else (some (wrap64 (a1 - (l0.length : Int))))) = some r := h
 clear h
 by_cases c3 : (wrap64 (a1 - (l0.length : Int))) < 0
 ·rw [if_pos c3] at H
  have c3b0 : decide ((wrap64 (a1 - (l0.length : Int))) < 0) = true := decide_eq_true c3
  clear c3
  obtain rfl := Option.some.inj H
  go_enter Try.func33, Try.ntmps33
  go_wp2
  go_ret
  exact ⟨by first | rfl | (simp; done) | (simp [*]; done), by repeat (first | exact Drawn0.refl _ | apply Drawn0.step)⟩
 rw [if_neg c3] at H
 have c3b0 : decide ((wrap64 (a1 - (l0.length : Int))) < 0) = false := decide_eq_false c3
 clear c3
 obtain rfl := Option.some.inj H
 go_enter Try.func33, Try.ntmps33
 go_wp2
 go_ret
 exact ⟨by first | rfl | (simp; done) | (simp [*]; done), by repeat (first | exact Drawn0.refl _ | apply Drawn0.step)⟩

/-! ### laws_toOpenItem: function 115 -/
def laws_toOpenItem.f (a0_0 : Int) (a0_1 : Int) : Option (Int × Int) := some (a0_0, a0_1)
set_option maxHeartbeats 8000000 in
set_option maxRecDepth 100000 in
theorem laws_toOpenItem.calls (a0_0 : Int) (a0_1 : Int) (r1 : Int) (r2 : Int) (w : World) (h : laws_toOpenItem.f a0_0 a0_1 = some (r1, r2)) :
  Calls Try.prog 115 #[.agg #[.int .i64 a0_0, .int .i64 a0_1]] w fun e w' => e = .returned (.agg #[.int .i64 r1, .int .i64 r2]) ∧ Below w.heap.size w w' := by
 have hu147 := Try.underlying147
 have hu27 := Try.underlying27
 have HB := Aside0.mk (Below.refl w.heap.size w)
 have H : (some (a0_0, a0_1)) = some (r1, r2) := h
 clear h
 simp only [Option.some.injEq, Prod.mk.injEq] at H
 obtain ⟨rfl, rfl⟩ := H
 go_enter Try.func115, Try.ntmps115
 go_wp2_with (first | ((with_reducible refine qe1 (N := 1) rfl ?_); refine qf1 ?hg (N := 1) ?hd (cs := #[.int .i64 a0_0, .int .i64 a0_1]) (t := 147) ?hr ?_; (case hd => rfl); (case hg => rfl); (case hr => first | (go_simp; done) | (go_simp; rfl)); intro gb217 hg w2 hbox hb; have n0_ := Aside0.mk (qk0 (by repeat (first | (with_reducible first | exact HB.out | apply qc0 | apply qa0 | apply qb0) | exact HB.out)) hb); have n1_ := Aside0.mk (hbox); have n2_ := Aside0.mk ((by rw [hg]; exact (qi0 (by repeat (first | (with_reducible first | exact HB.out | apply qc0 | apply qa0 | apply qb0) | exact HB.out))) : w.heap.size ≤ gb217)); have n3_ := Aside0.mk ((by rw [hg]; exact (qi0 (by repeat (first | (with_reducible first | exact HB.out | apply qc0 | apply qa0 | apply qb0) | exact HB.out))) : w.heap.size ≤ gb217)); clear HB; have HB := n0_; have BK217 := n1_; have GW217 := n2_; have GE217 := n3_; clear n0_ n1_ n2_ n3_; clear hb hbox hg) | ((with_reducible refine qe1 (N := 2) rfl ?_); refine qf1 ?hg (N := 2) ?hd (cs := #[.int .i64 0, .int .i64 0]) (t := 27) ?hr ?_; (case hd => rfl); (case hg => rfl); (case hr => first | (go_simp; done) | (go_simp; rfl)); intro gb218 hg w3 hbox hb; have n0_ := Aside0.mk (blk_below (g := gb217) (o := .cells #[.int .i64 a0_0, .int .i64 a0_1] 147 (0, 0)) (by (with_reducible repeat (first | refine qq0 ?_ _ | refine qv0 ?_ | refine qr0 ?_ _)); exact BK217.out) hb); have n1_ := Aside0.mk (qk0 (by repeat (first | (with_reducible first | exact HB.out | apply qc0 | apply qa0 | apply qb0 | refine ql0 ?_ GE217.out) | exact HB.out)) hb); have n2_ := Aside0.mk (hbox); have n3_ := Aside0.mk ((by rw [hg]; exact (qi0 (by repeat (first | (with_reducible first | exact HB.out | apply qc0 | apply qa0 | apply qb0 | refine ql0 ?_ GE217.out) | exact HB.out))) : w.heap.size ≤ gb218)); have n4_ := Aside0.mk ((by rw [hg]; exact (qi0 (by repeat (first | (with_reducible first | exact HB.out | apply qc0 | apply qa0 | apply qb0 | refine ql0 ?_ GE217.out) | exact HB.out))) : w.heap.size ≤ gb218)); have n5_ := Aside0.mk ((by rw [hg]; exact Nat.ne_of_lt (qm1 (g := gb217) (o := .cells #[.int .i64 a0_0, .int .i64 a0_1] 147 (0, 0)) (by (with_reducible repeat (first | refine qq0 ?_ _ | refine qv0 ?_ | refine qr0 ?_ _)); exact BK217.out)) : gb217 ≠ gb218)); have n6_ := Aside0.mk ((by rw [hg]; exact Nat.ne_of_gt (qm1 (g := gb217) (o := .cells #[.int .i64 a0_0, .int .i64 a0_1] 147 (0, 0)) (by (with_reducible repeat (first | refine qq0 ?_ _ | refine qv0 ?_ | refine qr0 ?_ _)); exact BK217.out)) : gb218 ≠ gb217)); clear BK217; clear HB; have BK217 := n0_; have HB := n1_; have BK218 := n2_; have GW218 := n3_; have GE218 := n4_; have NB217_218 := n5_; have NB218_217 := n6_; clear n0_ n1_ n2_ n3_ n4_ n5_ n6_; clear hb hbox hg) | ((with_reducible refine qe1 (N := 3) rfl ?_); refine qf1 ?hg (N := 3) ?hd (cs := #[.int .i64 0, .int .i64 0]) (t := 27) ?hr ?_; (case hd => rfl); (case hg => rfl); (case hr => first | (go_simp; done) | (go_simp; rfl)); intro gb219 hg w4 hbox hb; have n0_ := Aside0.mk (blk_below (g := gb217) (o := .cells #[.int .i64 a0_0, .int .i64 a0_1] 147 (0, 0)) (by (with_reducible repeat (first | refine qq0 ?_ _ | refine qv0 ?_ | refine qr0 ?_ _)); exact BK217.out) hb); have n1_ := Aside0.mk (blk_below (g := gb218) (o := .cells #[.int .i64 0, .int .i64 0] 27 (0, 0)) (by (with_reducible repeat (first | refine qq0 ?_ _ | refine qv0 ?_ | refine qr0 ?_ _)); exact BK218.out) hb); have n2_ := Aside0.mk (qk0 (by repeat (first | (with_reducible first | exact HB.out | apply qc0 | apply qa0 | apply qb0 | refine ql0 ?_ GE217.out | refine ql0 ?_ GE218.out) | exact HB.out)) hb); have n3_ := Aside0.mk (hbox); have n4_ := Aside0.mk ((by rw [hg]; exact (qi0 (by repeat (first | (with_reducible first | exact HB.out | apply qc0 | apply qa0 | apply qb0 | refine ql0 ?_ GE217.out | refine ql0 ?_ GE218.out) | exact HB.out))) : w.heap.size ≤ gb219)); have n5_ := Aside0.mk ((by rw [hg]; exact (qi0 (by repeat (first | (with_reducible first | exact HB.out | apply qc0 | apply qa0 | apply qb0 | refine ql0 ?_ GE217.out | refine ql0 ?_ GE218.out) | exact HB.out))) : w.heap.size ≤ gb219)); have n6_ := Aside0.mk ((by rw [hg]; exact Nat.ne_of_lt (qm1 (g := gb217) (o := .cells #[.int .i64 a0_0, .int .i64 a0_1] 147 (0, 0)) (by (with_reducible repeat (first | refine qq0 ?_ _ | refine qv0 ?_ | refine qr0 ?_ _)); exact BK217.out)) : gb217 ≠ gb219)); have n7_ := Aside0.mk ((by rw [hg]; exact Nat.ne_of_gt (qm1 (g := gb217) (o := .cells #[.int .i64 a0_0, .int .i64 a0_1] 147 (0, 0)) (by (with_reducible repeat (first | refine qq0 ?_ _ | refine qv0 ?_ | refine qr0 ?_ _)); exact BK217.out)) : gb219 ≠ gb217)); have n8_ := Aside0.mk ((by rw [hg]; exact Nat.ne_of_lt (qm1 (g := gb218) (o := .cells #[.int .i64 0, .int .i64 0] 27 (0, 0)) (by (with_reducible repeat (first | refine qq0 ?_ _ | refine qv0 ?_ | refine qr0 ?_ _)); exact BK218.out)) : gb218 ≠ gb219)); have n9_ := Aside0.mk ((by rw [hg]; exact Nat.ne_of_gt (qm1 (g := gb218) (o := .cells #[.int .i64 0, .int .i64 0] 27 (0, 0)) (by (with_reducible repeat (first | refine qq0 ?_ _ | refine qv0 ?_ | refine qr0 ?_ _)); exact BK218.out)) : gb219 ≠ gb218)); clear BK217; clear BK218; clear HB; have BK217 := n0_; have BK218 := n1_; have HB := n2_; have BK219 := n3_; have GW219 := n4_; have GE219 := n5_; have NB217_219 := n6_; have NB219_217 := n7_; have NB218_219 := n8_; have NB219_218 := n9_; clear n0_ n1_ n2_ n3_ n4_ n5_ n6_ n7_ n8_ n9_; clear hb hbox hg; have hnb5 := NB217_218.out; have hnc5 := NB218_217.out; have hnb6 := NB217_219.out; have hnc6 := NB219_217.out; have hcz7_0 : w4.cell? ⟨gb217, 0, none⟩ = some (.int .i64 a0_0) := (qw0 BK217.out 0).trans rfl; have hcz7_1 : w4.cell? ⟨gb217, 1, none⟩ = some (.int .i64 a0_1) := (qw0 BK217.out 1).trans rfl; have hfz7_0 := qp0 BK217.out 0; have hfz7_1 := qp0 BK217.out 1; have hnb8 := NB219_218.out; have hnc8 := NB218_219.out; have hcz9_0 : w4.cell? ⟨gb219, 0, none⟩ = some (.int .i64 0) := (qw0 BK219.out 0).trans rfl; have hcz9_1 : w4.cell? ⟨gb219, 1, none⟩ = some (.int .i64 0) := (qw0 BK219.out 1).trans rfl; have hfz9_0 := qp0 BK219.out 0; have hfz9_1 := qp0 BK219.out 1; have hcz10_0 : w4.cell? ⟨gb218, 0, none⟩ = some (.int .i64 0) := (qw0 BK218.out 0).trans rfl; have hcz10_1 : w4.cell? ⟨gb218, 1, none⟩ = some (.int .i64 0) := (qw0 BK218.out 1).trans rfl; have hfz10_0 := qp0 BK218.out 0; have hfz10_1 := qp0 BK218.out 1))
 refine bodyPost_ret (results_cell_row rfl _ _ gb218 27 #[.int .i64 a0_0, .int .i64 a0_1] (0, 0) _ rfl (by (with_reducible repeat (first | refine qq0 ?_ _ | refine qv0 ?_ | refine qr0 ?_ _)); refine blk_put (cs := #[.int .i64 a0_0, .int .i64 0]) ?_ 1 _ rfl; (with_reducible repeat (first | refine qq0 ?_ _ | refine qv0 ?_ | refine qr0 ?_ _)); refine blk_put (cs := #[.int .i64 0, .int .i64 0]) ?_ 0 _ rfl; (with_reducible repeat (first | refine qq0 ?_ _ | refine qv0 ?_ | refine qr0 ?_ _)); refine blk_far ?_ NB218_219.out _; (with_reducible repeat (first | refine qq0 ?_ _ | refine qv0 ?_ | refine qr0 ?_ _)); refine blk_far ?_ NB218_219.out _; (with_reducible repeat (first | refine qq0 ?_ _ | refine qv0 ?_ | refine qr0 ?_ _)); exact BK218.out) Try.underlying27 rfl (by kernel_rfl)) rfl ?_
 exact ⟨by first | rfl | (simp [errW_none, errW_some] <;> rfl) | (simp [*, errW_none, errW_some] <;> rfl), by repeat (first | (with_reducible first | exact HB.out | apply qc0 | apply qa0 | apply qb0 | refine ql0 ?_ GE217.out | refine ql0 ?_ GE218.out | refine ql0 ?_ GE219.out) | exact HB.out)⟩

/-! ### laws_toOpenItemS: function 34 -/
def laws_toOpenItemS.l0 : Nat → List (S147) → List (S27) → Int → Option ((List (S27)))
 | 0, _, _, _ => none
 | k + 1, x0, x3, x4 => if x4 < (x0.length : Int) then (if 0 ≤ x4 then ((laws_toOpenItem.f ((rd_T147 x0 x4).f0) ((rd_T147 x0 x4).f1)).bind fun bt224 => (if x4 < (x3.length : Int) then (laws_toOpenItemS.l0 k x0 (x3.set (x4 : Int).toNat (⟨bt224.1, bt224.2⟩ : S27)) (wrap64 (x4 + 1))) else (none))) else (none)) else (some x3)
def laws_toOpenItemS.f (k : Nat) (l0 : List (S147)) : Option ((List (S27))) := if 0 ≤ (l0.length : Int) then (if ((l0.length : Int) : Int).toNat ≤ 17592186044416 then (laws_toOpenItemS.l0 k l0 (List.replicate ((l0.length : Int) : Int).toNat z27) 0) else (none)) else (none)
theorem laws_toOpenItemS.mono_l : ∀ k, (∀ y0 y1 y2, LeO (laws_toOpenItemS.l0 k y0 y1 y2) (laws_toOpenItemS.l0 (k + 1) y0 y1 y2))
 | 0 => fun _ _ _ r h => by simp [laws_toOpenItemS.l0] at h
 | k + 1 => by
  have ih0 := laws_toOpenItemS.mono_l k
  ·intro y0 y1 y2
   unfold laws_toOpenItemS.l0
   repeat' first
   | (with_reducible exact ih0 _ _ _)
   | (with_reducible exact LeO.refl _)
   | (with_reducible exact LeO.none _)
   | (with_reducible refine LeO.ite ?_ ?_)
   | (with_reducible refine LeO.bind ?_ (fun _ => ?_))
   | exact ih0 _ _ _
   | exact LeO.none _
   | refine LeO.ite ?_ ?_
   | refine LeO.bind ?_ (fun _ => ?_)
theorem laws_toOpenItemS.mono : ∀ a0 k, LeO (laws_toOpenItemS.f k a0) (laws_toOpenItemS.f (k + 1) a0) := by
 intro a0 k
 have ih0 := laws_toOpenItemS.mono_l k
 unfold laws_toOpenItemS.f
 repeat' first
   | (with_reducible exact ih0 _ _ _)
   | (with_reducible exact LeO.refl _)
   | (with_reducible exact LeO.none _)
   | (with_reducible refine LeO.ite ?_ ?_)
   | (with_reducible refine LeO.bind ?_ (fun _ => ?_))
   | exact ih0 _ _ _
   | exact LeO.none _
   | refine LeO.ite ?_ ?_
   | refine LeO.bind ?_ (fun _ => ?_)
set_option maxHeartbeats 8000000 in
set_option maxRecDepth 100000 in
theorem laws_toOpenItemS.calls (k : Nat) (A0 : Option Addr) (c0 : Nat) (l0 : List (S147)) (r : List (S27)) (w : World) (hr0 : Kd.C k147 w A0 l0.length l0) (hc0 : l0.length ≤ c0) (h : laws_toOpenItemS.f k l0 = some r) :
  Calls Try.prog 34 #[.slice A0 l0.length c0] w fun e w' => ∃ v0_ : Value, e = .returned (v0_) ∧ Kd.R k27 27 w' w.heap.size (fun _ => True) v0_ r ∧ Below w.heap.size w w' := by
 have hu147 := Try.underlying147
 have hu27 := Try.underlying27
 have HR0 := Aside0.mk hr0
 have HC0 := Aside0.mk hc0
 clear hr0 hc0
 have HB := Aside0.mk (Below.refl w.heap.size w)
 have H : (if 0 ≤ (l0.length : Int) then (if ((l0.length : Int) : Int).toNat ≤ 17592186044416 then (laws_toOpenItemS.l0 k l0 (List.replicate ((l0.length : Int) : Int).toNat z27) 0) else (none)) else (none)) = some r := h
 clear h
 by_cases c2 : 0 ≤ (l0.length : Int)
 case neg => rw [if_neg c2] at H; exact absurd H (by simp)
 rw [if_pos c2] at H
 have c2b0 := eq_true c2
 have c2b1 : decide (0 ≤ (l0.length : Int)) = true := decide_eq_true c2
 clear c2
 by_cases c3 : ((l0.length : Int) : Int).toNat ≤ 17592186044416
 case neg => rw [if_neg c3] at H; exact absurd H (by simp)
 rw [if_pos c3] at H
 have c3b0 := eq_true c3
 have c3b1 : decide (((l0.length : Int) : Int).toNat ≤ 17592186044416) = true := decide_eq_true c3
 clear c3
 obtain ⟨y220, hy220⟩ : ∃ y_ : List (S27), y_ = (List.replicate ((l0.length : Int) : Int).toNat z27) := ⟨_, rfl⟩
 replace H : (laws_toOpenItemS.l0 k l0 y220 0) = some r := by first | (rw [hy220]; with_reducible exact H) | (have H2_ := (Option.bind_some _ _).symm.trans H; rw [hy220]; with_reducible exact H2_) | (have H2_ := (Option.bind_some _ _).symm.trans H; with_reducible exact H2_) | with_reducible exact H | (rw [hy220]; exact H) | exact H
 have Ny220 := Aside0.mk hy220
 clear hy220
 have H' := Aside0.mk H
 clear H
 go_enter Try.func34, Try.ntmps34
 go_wp2_with (first | ((with_reducible refine qe1 (N := 7) rfl ?_); refine Kd.R_make k27 _ 27 rfl (N := 7) rfl 28 _ _ rfl (l0.length : Int) rfl rfl Try.underlying28 (.agg #[(.int .i64 0), (.int .i64 0)]) 16 info27 rfl (by decide) (by omega) z27 (ok := fun _ => True) (okp := fun _ => True) (k27_mkM _ _ _ z27 ) (fun _ hk => hk) trivial (of_decide_eq_true (by first | (with_reducible assumption) | assumption)) (Nat.le_trans (Nat.mul_le_mul_right _ (of_decide_eq_true (by first | (with_reducible assumption) | assumption) : (l0.length : Int).toNat ≤ 17592186044416)) (by omega)) (Below.refl _ _) (Nat.le_refl _) ?_; intro v221 w4 ho5 hb hg_ hnew_; clear hg_ hnew_; (first | rw [← Ny220.out] at ho5 | (simp only [Int.reduceToNat] at ho5; rw [← Ny220.out] at ho5)); have n0_ := Aside0.mk (Kd.qz0 ho5 (qi0 (by repeat (first | (with_reducible first | exact HB.out | apply qc0 | apply qa0 | apply qb0) | exact HB.out)))); have n1_ := Aside0.mk (qk0 (by repeat (first | (with_reducible first | exact HB.out | apply qc0 | apply qa0 | apply qb0) | exact HB.out)) hb); clear HB; have HO222 := n0_; have HB := n1_; clear n0_ n1_; clear hb ho5))
 go_loopg [4] k (fun kq v4 w' => ∃ (x3_1 : List (S27)) (x4_1 : Int), v4 = .int .i64 x4_1 ∧ Aside0 (laws_toOpenItemS.l0 kq l0 x3_1 x4_1 = some r) ∧ Aside0 (kq ≤ k) ∧ Aside0 (Kd.R k27 27 w' w.heap.size (fun _ => True) v221 x3_1) ∧ Aside0 (Below w.heap.size w w'))
 case atStart => exact ⟨(y220), (0), (by first | rfl | (simp; done) | (simp [*]; done)), H', ⟨Nat.le_refl _⟩, ⟨by (with_reducible repeat (first | apply Kd.qe0 | apply Kd.qd0 | apply Kd.qf0)); exact HO222.out⟩, ⟨by repeat (first | (with_reducible first | exact HB.out | apply qc0 | apply qa0 | apply qb0) | exact HB.out)⟩⟩
 case round =>
  clear H'
  try clear c2
  try clear c2b0
  try clear c2b1
  try clear p2
  try clear c3
  try clear c3b0
  try clear c3b1
  obtain ⟨x3_1, x4_1, rfl, HA, HK1, HO_3, HB⟩ := hrel
  cases gk with
  | zero => exact absurd HA.out (by simp [laws_toOpenItemS.l0])
  | succ k1 =>
   have H := HA.out
   clear HA
   simp only [laws_toOpenItemS.l0] at H
   by_cases c6 : x4_1 < (l0.length : Int)
   ·rw [if_pos c6] at H
    have c6b0 : decide (x4_1 < (l0.length : Int)) = true := decide_eq_true c6
    clear c6
    by_cases c7 : 0 ≤ x4_1
    case neg => rw [if_neg c7] at H; exact absurd H (by simp)
    rw [if_pos c7] at H
    have c7b0 : decide (0 ≤ x4_1) = true := decide_eq_true c7
    clear c7
    replace H := Option.bind_eq_some_iff.mp H
    obtain ⟨⟨t224, t225⟩, A80, H⟩ := H
    replace H : (if x4_1 < (x3_1.length : Int) then (laws_toOpenItemS.l0 k1 l0 (x3_1.set (x4_1 : Int).toNat (⟨t224, t225⟩ : S27)) (wrap64 (x4_1 + 1))) else (none)) = some r := H
    have A8 := Aside0.mk A80
    clear A80
    by_cases c9 : x4_1 < (x3_1.length : Int)
    case neg => rw [if_neg c9] at H; exact absurd H (by simp)
    rw [if_pos c9] at H
    have c9b0 : decide (x4_1 < (x3_1.length : Int)) = true := decide_eq_true c9
    clear c9
    obtain ⟨y226, hy226⟩ : ∃ y_ : List (S27), y_ = (x3_1.set (x4_1 : Int).toNat (⟨t224, t225⟩ : S27)) := ⟨_, rfl⟩
    replace H : (laws_toOpenItemS.l0 k1 l0 y226 (wrap64 (x4_1 + 1))) = some r := by first | (rw [hy226]; with_reducible exact H) | (have H2_ := (Option.bind_some _ _).symm.trans H; rw [hy226]; with_reducible exact H2_) | (have H2_ := (Option.bind_some _ _).symm.trans H; with_reducible exact H2_) | with_reducible exact H | (rw [hy226]; exact H) | exact H
    have Ny226 := Aside0.mk hy226
    clear hy226
    have H' := Aside0.mk H
    clear H
    have p223 : 0 ≤ (x4_1 : Int) := of_decide_eq_true (by first | (with_reducible assumption) | assumption)
    have q223 : x4_1 < (l0.length : Int) := of_decide_eq_true (by first | (with_reducible assumption) | assumption)
    obtain ⟨ad223, e223, hx223_0, hx223_1⟩ := at_T147 HR0.out x4_1 p223 q223
    cases e223
    replace hx223_0 := (HB.out.cell (World.block_lt_of_cell? w _ hx223_0)).trans hx223_0
    replace hx223_1 := (HB.out.cell (World.block_lt_of_cell? w _ hx223_1)).trans hx223_1
    replace p223 := eq_true p223
    replace q223 := eq_true q223
    go_wp2_with (first | ((with_reducible refine qh0 (f := 115) rfl ?_); refine qu0 (some 20) rfl rfl Try.func115 (by kernel_rfl) rfl #[.agg #[.int .i64 ((rd_T147 l0 x4_1).f0), .int .i64 ((rd_T147 l0 x4_1).f1)]] rfl (by (try simp only [List.map_toArray, List.map_cons, List.map_nil]); first | done | rfl | (simp only [List.length_drop, List.length_take]; rfl)) ?_; (with_reducible refine (laws_toOpenItem.calls ((rd_T147 l0 x4_1).f0) ((rd_T147 l0 x4_1).f1) t224 t225 _ A8.out).mono ?_); rintro e w11 ⟨rfl, hb⟩; refine ⟨_, rfl, ?_⟩; have n0_ := Aside0.mk (Kd.qj0 (by (with_reducible repeat (first | apply Kd.qe0 | apply Kd.qd0 | apply Kd.qf0)); exact HO_3.out) hb); have n1_ := Aside0.mk (qk0 (by repeat (first | (with_reducible first | exact HB.out | apply qc0 | apply qa0 | apply qb0) | exact HB.out)) hb); clear HO_3; clear HB; have HO_3 := n0_; have HB := n1_; clear n0_ n1_; (try clear hb); (try clear hb2); (try clear hk); (try clear hi); have p10 : 0 ≤ (x4_1 : Int) := of_decide_eq_true (by first | (with_reducible assumption) | assumption); have q10 : (x4_1 : Int) < ((x3_1.length : Int) : Int) := of_decide_eq_true (by first | (with_reducible assumption) | assumption); obtain ⟨go10, co10, eo10, gb10, gl10, cl10, HG10⟩ := Kd.R_form HO_3.out (by omega); (first | cases eo10 | (injection eo10 with ea_ en_ ec_; (first | subst ea_ | (injection ea_ with ea_; subst ea_)); subst ec_; clear en_)); have GB10 := Aside0.mk gb10; have GG10 := Aside0.mk HG10; clear gb10 gl10 HG10; obtain ⟨ce10, hcl10, hM10, hcc10, hfr10⟩ := Kd.R_elem HO_3.out z27 (x4_1 : Int) p10 q10; obtain rfl := k27_openM hM10; have hx10_0 : w11.cell? ⟨go10, (x4_1 : Int).toNat * 2, none⟩ = some (.int .i64 ((rd_T27 x3_1 x4_1).f0)) := hcc10 0 _ rfl; have hx10_1 : w11.cell? ⟨go10, (x4_1 : Int).toNat * 2 + 1, none⟩ = some (.int .i64 ((rd_T27 x3_1 x4_1).f1)) := hcc10 1 _ rfl; have hf10_0 : w11.frozen? ⟨go10, (x4_1 : Int).toNat * 2, none⟩ = false := hfr10 0; have hf10_1 : w11.frozen? ⟨go10, (x4_1 : Int).toNat * 2 + 1, none⟩ = false := hfr10 1; clear hcl10 hcc10 hfr10 hM10; replace p10 := eq_true p10; replace q10 := eq_true q10; have HX12 := Aside0.mk (show Kd.R k27 27 w11 w.heap.size (fun _ => True) (.slice (some ⟨go10, 0, none⟩) x3_1.length co10) x3_1 from (by (with_reducible repeat (first | apply Kd.qe0 | apply Kd.qd0 | apply Kd.qf0)); exact HO_3.out)); obtain ⟨ce12, hcl12, hM12, hcc12, hfr12⟩ := Kd.R_elem HX12.out z27 (x4_1 : Int) (of_decide_eq_true (by first | (with_reducible assumption) | assumption)) (by have h_ : (x4_1 : Int) < ((x3_1.length : Int) : Int) := of_decide_eq_true (by first | (with_reducible assumption) | assumption); first | exact h_ | (have e_ := (Kd.qg0 HO_3.out).1; omega) | simpa using h_); obtain rfl := k27_openM hM12; have HP12 := Kd.R_seg HX12.out (x4_1 : Int) (of_decide_eq_true (by first | (with_reducible assumption) | assumption)) (by have h_ : (x4_1 : Int) < ((x3_1.length : Int) : Int) := of_decide_eq_true (by first | (with_reducible assumption) | assumption); first | exact h_ | (have e_ := (Kd.qg0 HO_3.out).1; omega) | simpa using h_) (seg := [.int .i64 t224, .int .i64 t225]) (j := 0) hcl12 hcc12 (show 2 ≤ 2 from by decide) (x' := (⟨t224, t225⟩ : S27)) (k27_mkM _ _ _ (⟨t224, t225⟩ : S27) ) (fun _ hk => hk); have hx12_0 := hcc12 0 _ rfl; (try simp only [show (k27).sz = 2 from rfl, Nat.mul_one, Nat.add_zero] at hx12_0); have hf12_0 := hfr12 0; (try simp only [show (k27).sz = 2 from rfl, Nat.mul_one, Nat.add_zero] at hf12_0); have hx12_1 := hcc12 1 _ rfl; (try simp only [show (k27).sz = 2 from rfl, Nat.mul_one, Nat.add_zero] at hx12_1); have hf12_1 := hfr12 1; (try simp only [show (k27).sz = 2 from rfl, Nat.mul_one, Nat.add_zero] at hf12_1); clear hcl12 hcc12 hfr12 hM12) | ((with_reducible refine gate_store (t := 27) (p := 21) rfl ?_); refine store_event (t := 27) (p := 21) (v := ?vo_w13) (w1 := ((w11.setCell ⟨go10, (x4_1 : Int).toNat * 2, none⟩ (.int .i64 t224)).setCell ⟨go10, (x4_1 : Int).toNat * 2 + 1, none⟩ (.int .i64 t225))) ?hg ?ho ?hn ?hr ?_; (case ho => rfl); (case hg => rfl); (case hn => rfl); (case hr => first | (go_simp; done) | (go_simp; rfl)); intro w13 hw; have hg : w11.grownBy w13 (some go10) := (by rw [hw]; exact HP12.2); have hp_ : Kd.R k27 27 w13 w.heap.size (fun _ => True) (.slice (some ⟨go10, 0, none⟩) x3_1.length co10) y226 := (by rw [hw, Ny226.out]; exact HP12.1); clear HP12; have n0_ := Aside0.mk (hp_); have n1_ := Aside0.mk ((by rw [hw]; exact ql0 (ql0 (HB.out) GB10.out) GB10.out : Below w.heap.size w w13)); clear HO_3; clear HB; have HO_3 := n0_; have HB := n1_; clear n0_ n1_; clear hg hw hp_))
    go_roundg k1
    case measure => have := HK1.out; omega
    case rel => exact ⟨(y226), (wrap64 (x4_1 + 1)), (by first | rfl | (simp; done) | (simp [*]; done)), H', ⟨by have := HK1.out; omega⟩, ⟨by (with_reducible repeat (first | apply Kd.qe0 | apply Kd.qd0 | apply Kd.qf0)); exact HO_3.out⟩, ⟨by repeat (first | (with_reducible first | exact HB.out | apply qc0 | apply qa0 | apply qb0) | exact HB.out)⟩⟩
   rw [if_neg c6] at H
   have c6b0 : decide (x4_1 < (l0.length : Int)) = false := decide_eq_false c6
   clear c6
   obtain rfl := Option.some.inj H
   go_wp2
   go_ret
   exact ⟨_, by first | rfl | (simp [errW_none, errW_some] <;> rfl) | (simp [*, errW_none, errW_some] <;> rfl), by (with_reducible repeat (first | apply Kd.qe0 | apply Kd.qd0 | apply Kd.qf0)); exact HO_3.out, by repeat (first | (with_reducible first | exact HB.out | apply qc0 | apply qa0 | apply qb0) | exact HB.out)⟩

/-! ### laws_eqPair: function 116 -/
def laws_eqPair.f (a0_0 : Int) (a0_1 : Int) (a0_2 : Int) (a1_0 : Int) (a1_1 : Int) (a1_2 : Int) : Option (Bool) := if a0_0 = a1_0 then (if a0_1 = a1_1 then (if a0_2 = a1_2 then (some true) else (some false)) else (some false)) else (some false)
set_option maxHeartbeats 8000000 in
set_option maxRecDepth 100000 in
theorem laws_eqPair.calls (a0_0 : Int) (a0_1 : Int) (a0_2 : Int) (a1_0 : Int) (a1_1 : Int) (a1_2 : Int) (r : Bool) (w : World) (h : laws_eqPair.f a0_0 a0_1 a0_2 a1_0 a1_1 a1_2 = some r) :
  Calls Try.prog 116 #[.agg #[.int .i64 a0_0, .int .i64 a0_1, .int .i64 a0_2], .agg #[.int .i64 a1_0, .int .i64 a1_1, .int .i64 a1_2]] w fun e w' => e = .returned (.bool r) ∧ Below w.heap.size w w' := by
 have hu30 := Try.underlying30
 have HB := Aside0.mk (Below.refl w.heap.size w)
 have H : (if a0_0 = a1_0 then (if a0_1 = a1_1 then (if a0_2 = a1_2 then (some true) else (some false)) else (some false)) else (some false)) = some r := h
 clear h
 by_cases c3 : a0_0 = a1_0
 ·rw [if_pos c3] at H
  have c3b0 : (a0_0 == a1_0) = true := beq_iff_eq.mpr c3
  have c3b1 : (a0_0 != a1_0) = false := bne_eq_false_iff_eq.mpr c3
  clear c3
  by_cases c4 : a0_1 = a1_1
  ·rw [if_pos c4] at H
   have c4b0 : (a0_1 == a1_1) = true := beq_iff_eq.mpr c4
   have c4b1 : (a0_1 != a1_1) = false := bne_eq_false_iff_eq.mpr c4
   clear c4
   by_cases c5 : a0_2 = a1_2
   ·rw [if_pos c5] at H
    have c5b0 : (a0_2 == a1_2) = true := beq_iff_eq.mpr c5
    have c5b1 : (a0_2 != a1_2) = false := bne_eq_false_iff_eq.mpr c5
    clear c5
    obtain rfl := Option.some.inj H
    go_enter Try.func116, Try.ntmps116
    go_wp2_with (first | ((with_reducible refine qe1 (N := 2) rfl ?_); refine qf1 ?hg (N := 2) ?hd (cs := #[.int .i64 a0_0, .int .i64 a0_1, .int .i64 a0_2]) (t := 30) ?hr ?_; (case hd => rfl); (case hg => rfl); (case hr => first | (go_simp; done) | (go_simp; rfl)); intro gb227 hg w6 hbox hb; have n0_ := Aside0.mk (qk0 (by repeat (first | (with_reducible first | exact HB.out | apply qc0 | apply qa0 | apply qb0) | exact HB.out)) hb); have n1_ := Aside0.mk (hbox); have n2_ := Aside0.mk ((by rw [hg]; exact (qi0 (by repeat (first | (with_reducible first | exact HB.out | apply qc0 | apply qa0 | apply qb0) | exact HB.out))) : w.heap.size ≤ gb227)); have n3_ := Aside0.mk ((by rw [hg]; exact (qi0 (by repeat (first | (with_reducible first | exact HB.out | apply qc0 | apply qa0 | apply qb0) | exact HB.out))) : w.heap.size ≤ gb227)); clear HB; have HB := n0_; have BK227 := n1_; have GW227 := n2_; have GE227 := n3_; clear n0_ n1_ n2_ n3_; clear hb hbox hg) | ((with_reducible refine qe1 (N := 3) rfl ?_); refine qf1 ?hg (N := 3) ?hd (cs := #[.int .i64 a1_0, .int .i64 a1_1, .int .i64 a1_2]) (t := 30) ?hr ?_; (case hd => rfl); (case hg => rfl); (case hr => first | (go_simp; done) | (go_simp; rfl)); intro gb228 hg w7 hbox hb; have n0_ := Aside0.mk (blk_below (g := gb227) (o := .cells #[.int .i64 a0_0, .int .i64 a0_1, .int .i64 a0_2] 30 (0, 0)) (by (with_reducible repeat (first | refine qq0 ?_ _ | refine qv0 ?_ | refine qr0 ?_ _)); exact BK227.out) hb); have n1_ := Aside0.mk (qk0 (by repeat (first | (with_reducible first | exact HB.out | apply qc0 | apply qa0 | apply qb0 | refine ql0 ?_ GE227.out) | exact HB.out)) hb); have n2_ := Aside0.mk (hbox); have n3_ := Aside0.mk ((by rw [hg]; exact (qi0 (by repeat (first | (with_reducible first | exact HB.out | apply qc0 | apply qa0 | apply qb0 | refine ql0 ?_ GE227.out) | exact HB.out))) : w.heap.size ≤ gb228)); have n4_ := Aside0.mk ((by rw [hg]; exact (qi0 (by repeat (first | (with_reducible first | exact HB.out | apply qc0 | apply qa0 | apply qb0 | refine ql0 ?_ GE227.out) | exact HB.out))) : w.heap.size ≤ gb228)); have n5_ := Aside0.mk ((by rw [hg]; exact Nat.ne_of_lt (qm1 (g := gb227) (o := .cells #[.int .i64 a0_0, .int .i64 a0_1, .int .i64 a0_2] 30 (0, 0)) (by (with_reducible repeat (first | refine qq0 ?_ _ | refine qv0 ?_ | refine qr0 ?_ _)); exact BK227.out)) : gb227 ≠ gb228)); have n6_ := Aside0.mk ((by rw [hg]; exact Nat.ne_of_gt (qm1 (g := gb227) (o := .cells #[.int .i64 a0_0, .int .i64 a0_1, .int .i64 a0_2] 30 (0, 0)) (by (with_reducible repeat (first | refine qq0 ?_ _ | refine qv0 ?_ | refine qr0 ?_ _)); exact BK227.out)) : gb228 ≠ gb227)); clear BK227; clear HB; have BK227 := n0_; have HB := n1_; have BK228 := n2_; have GW228 := n3_; have GE228 := n4_; have NB227_228 := n5_; have NB228_227 := n6_; clear n0_ n1_ n2_ n3_ n4_ n5_ n6_; clear hb hbox hg; have hnb8 := NB227_228.out; have hnc8 := NB228_227.out; have hcz9_0 : w7.cell? ⟨gb227, 0, none⟩ = some (.int .i64 a0_0) := (qw0 BK227.out 0).trans rfl; have hcz9_1 : w7.cell? ⟨gb227, 1, none⟩ = some (.int .i64 a0_1) := (qw0 BK227.out 1).trans rfl; have hcz9_2 : w7.cell? ⟨gb227, 2, none⟩ = some (.int .i64 a0_2) := (qw0 BK227.out 2).trans rfl; have hfz9_0 := qp0 BK227.out 0; have hfz9_1 := qp0 BK227.out 1; have hfz9_2 := qp0 BK227.out 2; have hcz10_0 : w7.cell? ⟨gb228, 0, none⟩ = some (.int .i64 a1_0) := (qw0 BK228.out 0).trans rfl; have hcz10_1 : w7.cell? ⟨gb228, 1, none⟩ = some (.int .i64 a1_1) := (qw0 BK228.out 1).trans rfl; have hcz10_2 : w7.cell? ⟨gb228, 2, none⟩ = some (.int .i64 a1_2) := (qw0 BK228.out 2).trans rfl; have hfz10_0 := qp0 BK228.out 0; have hfz10_1 := qp0 BK228.out 1; have hfz10_2 := qp0 BK228.out 2))
    go_ret
    exact ⟨by first | rfl | (simp [errW_none, errW_some] <;> rfl) | (simp [*, errW_none, errW_some] <;> rfl), by repeat (first | (with_reducible first | exact HB.out | apply qc0 | apply qa0 | apply qb0 | refine ql0 ?_ GE227.out | refine ql0 ?_ GE228.out) | exact HB.out)⟩
   rw [if_neg c5] at H
   have c5b0 : (a0_2 == a1_2) = false := beq_eq_false_iff_ne.mpr c5
   have c5b1 : (a0_2 != a1_2) = true := bne_iff_ne.mpr c5
   obtain rfl := Option.some.inj H
   go_enter Try.func116, Try.ntmps116
   go_wp2_with (first | ((with_reducible refine qe1 (N := 2) rfl ?_); refine qf1 ?hg (N := 2) ?hd (cs := #[.int .i64 a0_0, .int .i64 a0_1, .int .i64 a0_2]) (t := 30) ?hr ?_; (case hd => rfl); (case hg => rfl); (case hr => first | (go_simp; done) | (go_simp; rfl)); intro gb227 hg w11 hbox hb; have n0_ := Aside0.mk (qk0 (by repeat (first | (with_reducible first | exact HB.out | apply qc0 | apply qa0 | apply qb0) | exact HB.out)) hb); have n1_ := Aside0.mk (hbox); have n2_ := Aside0.mk ((by rw [hg]; exact (qi0 (by repeat (first | (with_reducible first | exact HB.out | apply qc0 | apply qa0 | apply qb0) | exact HB.out))) : w.heap.size ≤ gb227)); have n3_ := Aside0.mk ((by rw [hg]; exact (qi0 (by repeat (first | (with_reducible first | exact HB.out | apply qc0 | apply qa0 | apply qb0) | exact HB.out))) : w.heap.size ≤ gb227)); clear HB; have HB := n0_; have BK227 := n1_; have GW227 := n2_; have GE227 := n3_; clear n0_ n1_ n2_ n3_; clear hb hbox hg) | ((with_reducible refine qe1 (N := 3) rfl ?_); refine qf1 ?hg (N := 3) ?hd (cs := #[.int .i64 a1_0, .int .i64 a1_1, .int .i64 a1_2]) (t := 30) ?hr ?_; (case hd => rfl); (case hg => rfl); (case hr => first | (go_simp; done) | (go_simp; rfl)); intro gb228 hg w12 hbox hb; have n0_ := Aside0.mk (blk_below (g := gb227) (o := .cells #[.int .i64 a0_0, .int .i64 a0_1, .int .i64 a0_2] 30 (0, 0)) (by (with_reducible repeat (first | refine qq0 ?_ _ | refine qv0 ?_ | refine qr0 ?_ _)); exact BK227.out) hb); have n1_ := Aside0.mk (qk0 (by repeat (first | (with_reducible first | exact HB.out | apply qc0 | apply qa0 | apply qb0 | refine ql0 ?_ GE227.out) | exact HB.out)) hb); have n2_ := Aside0.mk (hbox); have n3_ := Aside0.mk ((by rw [hg]; exact (qi0 (by repeat (first | (with_reducible first | exact HB.out | apply qc0 | apply qa0 | apply qb0 | refine ql0 ?_ GE227.out) | exact HB.out))) : w.heap.size ≤ gb228)); have n4_ := Aside0.mk ((by rw [hg]; exact (qi0 (by repeat (first | (with_reducible first | exact HB.out | apply qc0 | apply qa0 | apply qb0 | refine ql0 ?_ GE227.out) | exact HB.out))) : w.heap.size ≤ gb228)); have n5_ := Aside0.mk ((by rw [hg]; exact Nat.ne_of_lt (qm1 (g := gb227) (o := .cells #[.int .i64 a0_0, .int .i64 a0_1, .int .i64 a0_2] 30 (0, 0)) (by (with_reducible repeat (first | refine qq0 ?_ _ | refine qv0 ?_ | refine qr0 ?_ _)); exact BK227.out)) : gb227 ≠ gb228)); have n6_ := Aside0.mk ((by rw [hg]; exact Nat.ne_of_gt (qm1 (g := gb227) (o := .cells #[.int .i64 a0_0, .int .i64 a0_1, .int .i64 a0_2] 30 (0, 0)) (by (with_reducible repeat (first | refine qq0 ?_ _ | refine qv0 ?_ | refine qr0 ?_ _)); exact BK227.out)) : gb228 ≠ gb227)); clear BK227; clear HB; have BK227 := n0_; have HB := n1_; have BK228 := n2_; have GW228 := n3_; have GE228 := n4_; have NB227_228 := n5_; have NB228_227 := n6_; clear n0_ n1_ n2_ n3_ n4_ n5_ n6_; clear hb hbox hg; have hnb13 := NB227_228.out; have hnc13 := NB228_227.out; have hcz14_0 : w12.cell? ⟨gb227, 0, none⟩ = some (.int .i64 a0_0) := (qw0 BK227.out 0).trans rfl; have hcz14_1 : w12.cell? ⟨gb227, 1, none⟩ = some (.int .i64 a0_1) := (qw0 BK227.out 1).trans rfl; have hcz14_2 : w12.cell? ⟨gb227, 2, none⟩ = some (.int .i64 a0_2) := (qw0 BK227.out 2).trans rfl; have hfz14_0 := qp0 BK227.out 0; have hfz14_1 := qp0 BK227.out 1; have hfz14_2 := qp0 BK227.out 2; have hcz15_0 : w12.cell? ⟨gb228, 0, none⟩ = some (.int .i64 a1_0) := (qw0 BK228.out 0).trans rfl; have hcz15_1 : w12.cell? ⟨gb228, 1, none⟩ = some (.int .i64 a1_1) := (qw0 BK228.out 1).trans rfl; have hcz15_2 : w12.cell? ⟨gb228, 2, none⟩ = some (.int .i64 a1_2) := (qw0 BK228.out 2).trans rfl; have hfz15_0 := qp0 BK228.out 0; have hfz15_1 := qp0 BK228.out 1; have hfz15_2 := qp0 BK228.out 2))
   go_ret
   exact ⟨by first | rfl | (simp [errW_none, errW_some] <;> rfl) | (simp [*, errW_none, errW_some] <;> rfl), by repeat (first | (with_reducible first | exact HB.out | apply qc0 | apply qa0 | apply qb0 | refine ql0 ?_ GE227.out | refine ql0 ?_ GE228.out) | exact HB.out)⟩
  rw [if_neg c4] at H
  have c4b0 : (a0_1 == a1_1) = false := beq_eq_false_iff_ne.mpr c4
  have c4b1 : (a0_1 != a1_1) = true := bne_iff_ne.mpr c4
  obtain rfl := Option.some.inj H
  go_enter Try.func116, Try.ntmps116
  go_wp2_with (first | ((with_reducible refine qe1 (N := 2) rfl ?_); refine qf1 ?hg (N := 2) ?hd (cs := #[.int .i64 a0_0, .int .i64 a0_1, .int .i64 a0_2]) (t := 30) ?hr ?_; (case hd => rfl); (case hg => rfl); (case hr => first | (go_simp; done) | (go_simp; rfl)); intro gb227 hg w16 hbox hb; have n0_ := Aside0.mk (qk0 (by repeat (first | (with_reducible first | exact HB.out | apply qc0 | apply qa0 | apply qb0) | exact HB.out)) hb); have n1_ := Aside0.mk (hbox); have n2_ := Aside0.mk ((by rw [hg]; exact (qi0 (by repeat (first | (with_reducible first | exact HB.out | apply qc0 | apply qa0 | apply qb0) | exact HB.out))) : w.heap.size ≤ gb227)); have n3_ := Aside0.mk ((by rw [hg]; exact (qi0 (by repeat (first | (with_reducible first | exact HB.out | apply qc0 | apply qa0 | apply qb0) | exact HB.out))) : w.heap.size ≤ gb227)); clear HB; have HB := n0_; have BK227 := n1_; have GW227 := n2_; have GE227 := n3_; clear n0_ n1_ n2_ n3_; clear hb hbox hg) | ((with_reducible refine qe1 (N := 3) rfl ?_); refine qf1 ?hg (N := 3) ?hd (cs := #[.int .i64 a1_0, .int .i64 a1_1, .int .i64 a1_2]) (t := 30) ?hr ?_; (case hd => rfl); (case hg => rfl); (case hr => first | (go_simp; done) | (go_simp; rfl)); intro gb228 hg w17 hbox hb; have n0_ := Aside0.mk (blk_below (g := gb227) (o := .cells #[.int .i64 a0_0, .int .i64 a0_1, .int .i64 a0_2] 30 (0, 0)) (by (with_reducible repeat (first | refine qq0 ?_ _ | refine qv0 ?_ | refine qr0 ?_ _)); exact BK227.out) hb); have n1_ := Aside0.mk (qk0 (by repeat (first | (with_reducible first | exact HB.out | apply qc0 | apply qa0 | apply qb0 | refine ql0 ?_ GE227.out) | exact HB.out)) hb); have n2_ := Aside0.mk (hbox); have n3_ := Aside0.mk ((by rw [hg]; exact (qi0 (by repeat (first | (with_reducible first | exact HB.out | apply qc0 | apply qa0 | apply qb0 | refine ql0 ?_ GE227.out) | exact HB.out))) : w.heap.size ≤ gb228)); have n4_ := Aside0.mk ((by rw [hg]; exact (qi0 (by repeat (first | (with_reducible first | exact HB.out | apply qc0 | apply qa0 | apply qb0 | refine ql0 ?_ GE227.out) | exact HB.out))) : w.heap.size ≤ gb228)); have n5_ := Aside0.mk ((by rw [hg]; exact Nat.ne_of_lt (qm1 (g := gb227) (o := .cells #[.int .i64 a0_0, .int .i64 a0_1, .int .i64 a0_2] 30 (0, 0)) (by (with_reducible repeat (first | refine qq0 ?_ _ | refine qv0 ?_ | refine qr0 ?_ _)); exact BK227.out)) : gb227 ≠ gb228)); have n6_ := Aside0.mk ((by rw [hg]; exact Nat.ne_of_gt (qm1 (g := gb227) (o := .cells #[.int .i64 a0_0, .int .i64 a0_1, .int .i64 a0_2] 30 (0, 0)) (by (with_reducible repeat (first | refine qq0 ?_ _ | refine qv0 ?_ | refine qr0 ?_ _)); exact BK227.out)) : gb228 ≠ gb227)); clear BK227; clear HB; have BK227 := n0_; have HB := n1_; have BK228 := n2_; have GW228 := n3_; have GE228 := n4_; have NB227_228 := n5_; have NB228_227 := n6_; clear n0_ n1_ n2_ n3_ n4_ n5_ n6_; clear hb hbox hg; have hnb18 := NB227_228.out; have hnc18 := NB228_227.out; have hcz19_0 : w17.cell? ⟨gb227, 0, none⟩ = some (.int .i64 a0_0) := (qw0 BK227.out 0).trans rfl; have hcz19_1 : w17.cell? ⟨gb227, 1, none⟩ = some (.int .i64 a0_1) := (qw0 BK227.out 1).trans rfl; have hcz19_2 : w17.cell? ⟨gb227, 2, none⟩ = some (.int .i64 a0_2) := (qw0 BK227.out 2).trans rfl; have hfz19_0 := qp0 BK227.out 0; have hfz19_1 := qp0 BK227.out 1; have hfz19_2 := qp0 BK227.out 2; have hcz20_0 : w17.cell? ⟨gb228, 0, none⟩ = some (.int .i64 a1_0) := (qw0 BK228.out 0).trans rfl; have hcz20_1 : w17.cell? ⟨gb228, 1, none⟩ = some (.int .i64 a1_1) := (qw0 BK228.out 1).trans rfl; have hcz20_2 : w17.cell? ⟨gb228, 2, none⟩ = some (.int .i64 a1_2) := (qw0 BK228.out 2).trans rfl; have hfz20_0 := qp0 BK228.out 0; have hfz20_1 := qp0 BK228.out 1; have hfz20_2 := qp0 BK228.out 2))
  go_ret
  exact ⟨by first | rfl | (simp [errW_none, errW_some] <;> rfl) | (simp [*, errW_none, errW_some] <;> rfl), by repeat (first | (with_reducible first | exact HB.out | apply qc0 | apply qa0 | apply qb0 | refine ql0 ?_ GE227.out | refine ql0 ?_ GE228.out) | exact HB.out)⟩
 rw [if_neg c3] at H
 have c3b0 : (a0_0 == a1_0) = false := beq_eq_false_iff_ne.mpr c3
 have c3b1 : (a0_0 != a1_0) = true := bne_iff_ne.mpr c3
 obtain rfl := Option.some.inj H
 go_enter Try.func116, Try.ntmps116
 go_wp2_with (first | ((with_reducible refine qe1 (N := 2) rfl ?_); refine qf1 ?hg (N := 2) ?hd (cs := #[.int .i64 a0_0, .int .i64 a0_1, .int .i64 a0_2]) (t := 30) ?hr ?_; (case hd => rfl); (case hg => rfl); (case hr => first | (go_simp; done) | (go_simp; rfl)); intro gb227 hg w21 hbox hb; have n0_ := Aside0.mk (qk0 (by repeat (first | (with_reducible first | exact HB.out | apply qc0 | apply qa0 | apply qb0) | exact HB.out)) hb); have n1_ := Aside0.mk (hbox); have n2_ := Aside0.mk ((by rw [hg]; exact (qi0 (by repeat (first | (with_reducible first | exact HB.out | apply qc0 | apply qa0 | apply qb0) | exact HB.out))) : w.heap.size ≤ gb227)); have n3_ := Aside0.mk ((by rw [hg]; exact (qi0 (by repeat (first | (with_reducible first | exact HB.out | apply qc0 | apply qa0 | apply qb0) | exact HB.out))) : w.heap.size ≤ gb227)); clear HB; have HB := n0_; have BK227 := n1_; have GW227 := n2_; have GE227 := n3_; clear n0_ n1_ n2_ n3_; clear hb hbox hg) | ((with_reducible refine qe1 (N := 3) rfl ?_); refine qf1 ?hg (N := 3) ?hd (cs := #[.int .i64 a1_0, .int .i64 a1_1, .int .i64 a1_2]) (t := 30) ?hr ?_; (case hd => rfl); (case hg => rfl); (case hr => first | (go_simp; done) | (go_simp; rfl)); intro gb228 hg w22 hbox hb; have n0_ := Aside0.mk (blk_below (g := gb227) (o := .cells #[.int .i64 a0_0, .int .i64 a0_1, .int .i64 a0_2] 30 (0, 0)) (by (with_reducible repeat (first | refine qq0 ?_ _ | refine qv0 ?_ | refine qr0 ?_ _)); exact BK227.out) hb); have n1_ := Aside0.mk (qk0 (by repeat (first | (with_reducible first | exact HB.out | apply qc0 | apply qa0 | apply qb0 | refine ql0 ?_ GE227.out) | exact HB.out)) hb); have n2_ := Aside0.mk (hbox); have n3_ := Aside0.mk ((by rw [hg]; exact (qi0 (by repeat (first | (with_reducible first | exact HB.out | apply qc0 | apply qa0 | apply qb0 | refine ql0 ?_ GE227.out) | exact HB.out))) : w.heap.size ≤ gb228)); have n4_ := Aside0.mk ((by rw [hg]; exact (qi0 (by repeat (first | (with_reducible first | exact HB.out | apply qc0 | apply qa0 | apply qb0 | refine ql0 ?_ GE227.out) | exact HB.out))) : w.heap.size ≤ gb228)); have n5_ := Aside0.mk ((by rw [hg]; exact Nat.ne_of_lt (qm1 (g := gb227) (o := .cells #[.int .i64 a0_0, .int .i64 a0_1, .int .i64 a0_2] 30 (0, 0)) (by (with_reducible repeat (first | refine qq0 ?_ _ | refine qv0 ?_ | refine qr0 ?_ _)); exact BK227.out)) : gb227 ≠ gb228)); have n6_ := Aside0.mk ((by rw [hg]; exact Nat.ne_of_gt (qm1 (g := gb227) (o := .cells #[.int .i64 a0_0, .int .i64 a0_1, .int .i64 a0_2] 30 (0, 0)) (by (with_reducible repeat (first | refine qq0 ?_ _ | refine qv0 ?_ | refine qr0 ?_ _)); exact BK227.out)) : gb228 ≠ gb227)); clear BK227; clear HB; have BK227 := n0_; have HB := n1_; have BK228 := n2_; have GW228 := n3_; have GE228 := n4_; have NB227_228 := n5_; have NB228_227 := n6_; clear n0_ n1_ n2_ n3_ n4_ n5_ n6_; clear hb hbox hg; have hnb23 := NB227_228.out; have hnc23 := NB228_227.out; have hcz24_0 : w22.cell? ⟨gb227, 0, none⟩ = some (.int .i64 a0_0) := (qw0 BK227.out 0).trans rfl; have hcz24_1 : w22.cell? ⟨gb227, 1, none⟩ = some (.int .i64 a0_1) := (qw0 BK227.out 1).trans rfl; have hcz24_2 : w22.cell? ⟨gb227, 2, none⟩ = some (.int .i64 a0_2) := (qw0 BK227.out 2).trans rfl; have hfz24_0 := qp0 BK227.out 0; have hfz24_1 := qp0 BK227.out 1; have hfz24_2 := qp0 BK227.out 2; have hcz25_0 : w22.cell? ⟨gb228, 0, none⟩ = some (.int .i64 a1_0) := (qw0 BK228.out 0).trans rfl; have hcz25_1 : w22.cell? ⟨gb228, 1, none⟩ = some (.int .i64 a1_1) := (qw0 BK228.out 1).trans rfl; have hcz25_2 : w22.cell? ⟨gb228, 2, none⟩ = some (.int .i64 a1_2) := (qw0 BK228.out 2).trans rfl; have hfz25_0 := qp0 BK228.out 0; have hfz25_1 := qp0 BK228.out 1; have hfz25_2 := qp0 BK228.out 2))
 go_ret
 exact ⟨by first | rfl | (simp [errW_none, errW_some] <;> rfl) | (simp [*, errW_none, errW_some] <;> rfl), by repeat (first | (with_reducible first | exact HB.out | apply qc0 | apply qa0 | apply qb0 | refine ql0 ?_ GE227.out | refine ql0 ?_ GE228.out) | exact HB.out)⟩

end Go.Proofs.Ytlodndejipjceaa.PFnExactSettle
