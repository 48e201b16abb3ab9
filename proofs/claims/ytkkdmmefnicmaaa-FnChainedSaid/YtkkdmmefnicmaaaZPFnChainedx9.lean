/- Lines by a program (a changed copy of the kit's print: this repo's wip/tools): Go functions as Lean functions, and proofs that the calls answer so. -/
import Derived.Test.YtkkdmmefnicmaaaZPFnChainedx0
import Derived.Test.YtkkdmmefnicmaaaZPFnChainedx1
import Derived.Test.YtkkdmmefnicmaaaZPFnChainedx5
import Derived.Test.YtkkdmmefnicmaaaZPFnChainedx8
namespace Go.Proofs.Ytkkdmmefnicmaaa.PFnChained
open Go.RowKit Go.Proofs.YtkkdmmefnicmaaaW.PrintWords Go.Proofs.YtkkdmmefnicmaaaW.PrintLast Go.Proofs.YtkkdmmefnicmaaaW.PrintMore
/-- Closing blocks told once. -/
theorem z9_0 {P : Prop} (h : P := by repeat (first | (with_reducible first | exact HK.out | apply qc0.set_ | apply qf1 | apply qh1 | apply qg1 | refine qp1 ?_ GW336.out _) | exact HK.out)) : P := h
theorem z9_1 {P : Prop} (h : P := by repeat (first | (with_reducible first | exact HI0.out | apply IsS186.alloc | apply IsS186.drewN | apply IsS186.drew | apply IsS186.set_1 | apply IsS186.set_2 | refine IsS186.far ?_ NB0_336.out _) | exact HI0.out)) : P := h
theorem z9_2 {P : Prop} (h : P := by repeat (first | (with_reducible first | exact HB.out | apply qj0 | apply qh0 | apply qi0 | refine qk0 ?_ (IsS186.ge HI0.out) | refine qk0 ?_ GE336.out) | exact HB.out)) : P := h
theorem z9_3 {P : Prop} (h : P := by (with_reducible repeat (first | refine qe0 ?_ _ | refine qf0 ?_ | refine qd0 ?_ _)); refine qo0 (cs := #[.string x337000_2, .int .i64 x10_4, .int .i64 (wrap64 (1 + t333))]) ?_ 2 _ rfl; (with_reducible repeat (first | refine qe0 ?_ _ | refine qf0 ?_ | refine qd0 ?_ _)); refine qo0 (cs := #[.string x337000_2, .int .i64 (-1), .int .i64 (wrap64 (1 + t333))]) ?_ 1 _ rfl; (with_reducible repeat (first | refine qe0 ?_ _ | refine qf0 ?_ | refine qd0 ?_ _)); exact BK336.out) : P := h
theorem z9_4 {P : Prop} (h : P := by repeat (first | (with_reducible first | exact HI0.out | apply IsS186.alloc | apply IsS186.drewN | apply IsS186.drew | apply IsS186.set_1 | apply IsS186.set_2) | exact HI0.out)) : P := h
theorem z9_5 {P : Prop} (h : P := by repeat (first | (with_reducible first | exact HK.out | apply qc0.set_ | apply qf1 | apply qh1 | apply qg1) | exact HK.out)) : P := h
theorem z9_6 {P : Prop} (h : P := by (with_reducible repeat (first | refine qe0 ?_ _ | refine qf0 ?_ | refine qd0 ?_ _)); exact BK336.out) : P := h
theorem z9_7 {P : Prop} (h : P := by (with_reducible repeat (first | apply Kd.qr0 | apply Kd.qp0 | apply Kd.qu0)); exact HO_5.out) : P := h
theorem z9_8 {P : Prop} (h : P := by repeat (first | (with_reducible first | exact HB.out | apply qj0 | apply qh0 | apply qi0 | refine qk0 ?_ (IsS186.ge HI0.out)) | exact HB.out)) : P := h
theorem z9_9 {P : Prop} (h : P := by (with_reducible repeat (first | apply Kd.qr0 | apply Kd.qp0 | apply Kd.qu0)); exact Kd.qm0 (Kd.R_far (p := ⟨gb336, 2, none⟩) (Kd.R_far (p := ⟨gb336, 1, none⟩) (Kd.qm0 HO_5.out (fun k_ hk => (⟨hk, hk⟩ : _ ∧ k_ ≠ gb336))) (fun _ hk => hk.2) (.int .i64 x10_4)) (fun _ hk => hk.2) (.int .i64 ((rd_T209 x5_1 x10_4).f2))) (fun _ hk => hk.1)) : P := h
theorem z9_10 {P : Prop} (h : P := by repeat (first | exact (Kd.qn0 HO_5.out).2.2 | (with_reducible refine Kd.qx1 ?_ _) | (with_reducible refine Kd.qw1 ?_ _) | (with_reducible refine Kd.qg2 ?_))) : P := h
theorem z9_11 {P : Prop} (h : P := by rw [hg]; exact (qx0 (w := w) (g := g) (row := none) (by repeat (first | (with_reducible first | exact HK.out | apply qc0.set_ | apply qf1 | apply qh1 | apply qg1) | exact HK.out)))) : P := h
theorem z9_12 {P : Prop} (h : P := by repeat (first | (with_reducible first | exact HI0.out | apply IsS186.alloc | apply IsS186.drewN | apply IsS186.drew | apply IsS186.set_1 | apply IsS186.set_2 | refine IsS186.far ?_ NB0_366.out _) | exact HI0.out)) : P := h
theorem z9_13 {P : Prop} (h : P := by first | (with_reducible assumption) | assumption) : P := h
theorem z9_14 {P : Prop} (h : P := by first | (rw [add_block]; exact hn348_0) | (show (Addr.add _ _).block ≠ _; rw [add_block]; exact hn348_0) | exact hn348_0) : P := h
theorem z9_15 {P : Prop} (h : P := by first | (rw [add_block]; exact hn356_0) | (show (Addr.add _ _).block ≠ _; rw [add_block]; exact hn356_0) | exact hn356_0) : P := h
theorem z9_16 {P : Prop} (h : P := by repeat (first | (with_reducible first | exact HK.out | apply qc0.set_ | apply qf1 | apply qh1 | apply qg1 | refine qp1 ?_ GW366.out _) | exact HK.out)) : P := h
theorem z9_17 {P : Prop} (h : P := by repeat (first | (with_reducible first | exact HB.out | apply qj0 | apply qh0 | apply qi0 | refine qk0 ?_ (IsS186.ge HI0.out) | refine qk0 ?_ GE366.out) | exact HB.out)) : P := h
theorem z9_18 {P : Prop} (h : P := by rw [hg]; exact Nat.ne_of_lt (IsS186.lt (show IsS186 w0 _ g s0_0 t334 t335 from by repeat (first | (with_reducible first | exact HI0.out | apply IsS186.alloc | apply IsS186.drewN | apply IsS186.drew | apply IsS186.set_1 | apply IsS186.set_2) | exact HI0.out)))) : P := h
theorem z9_19 {P : Prop} (h : P := by rw [hg]; exact Nat.ne_of_gt (IsS186.lt (show IsS186 w0 _ g s0_0 t334 t335 from by repeat (first | (with_reducible first | exact HI0.out | apply IsS186.alloc | apply IsS186.drewN | apply IsS186.drew | apply IsS186.set_1 | apply IsS186.set_2) | exact HI0.out)))) : P := h
theorem z9_20 {P : Prop} (h : P := by first | rfl | (simp; done) | (simp [*]; done)) : P := h
theorem z9_21 {P : Prop} (h : P := by first | (go_simp; done) | (go_simp; rfl)) : P := h
theorem z9_22 {P : Prop} (h : P := by (try simp only [List.map_toArray, List.map_cons, List.map_nil]); first | done | rfl | (simp only [List.length_drop, List.length_take]; rfl)) : P := h
theorem z9_23 {P : Prop} (h : P := by (with_reducible repeat (first | apply Kd.qr0 | apply Kd.qp0 | apply Kd.qu0)); exact HO326.out) : P := h
theorem z9_24 {P : Prop} (h : P := by have := HK1.out; have := HK2.out; have := HJ27.out; have := HK4.out; omega) : P := h
theorem z9_25 {P : Prop} (h : P := by (with_reducible repeat (first | refine qe0 ?_ _ | refine qf0 ?_ | refine qd0 ?_ _)); exact BK366.out) : P := h
attribute [local go_sem] max2_int min2_int max_two min_two max_three min_three max_four min_four   -- for this text's walks alone
set_option linter.unusedVariables false
set_option linter.unusedSimpArgs false

/-! ### spec_l4DrawChart: function 156 -/
mutual
def spec_l4DrawChart.l0 : Nat → List (S209) → Int → List Int → Int → Int → Option ((List (S209)) × Int × Int)
 | 0, _, _, _, _, _ => none
 | k + 1, x5, x6, x1000, x1001, x1002 => if x6 > 0 then ((spec_l1DrawName.f x1000 x1001 x1002).bind fun bt330 => ((spec_l1Below.f x1000 bt330.2.1 bt330.2.2 5).bind fun bt333 => (spec_l4DrawChart.l1 k x5 x6 (x5.length : Int) 0 x1000 bt333.2.1 bt333.2.2 bt330.1 (-1) (wrap64 (1 + bt333.1))))) else (some (x5, x1001, x1002))
def spec_l4DrawChart.l1 : Nat → List (S209) → Int → Int → Int → List Int → Int → Int → ByteArray → Int → Int → Option ((List (S209)) × Int × Int)
 | 0, _, _, _, _, _, _, _, _, _, _ => none
 | k + 1, x5, x6, x7, x9, x1000, x1001, x1002, x337000, x337001, x337002 => if x9 < x7 then (if 0 ≤ x9 then (if x9 < (x5.length : Int) then (if ((rd_T209 x5 x9).f0).toList = x337000.toList then ((spec_l1Text.f k x7).bind fun t338 => (if 1 + t338.size ≤ 9223372036854775807 then (spec_l4DrawChart.l1 k x5 x6 x7 (wrap64 (x9 + 1)) x1000 x1001 x1002 ((⟨#[110]⟩ : ByteArray) ++ t338) x337001 x337002) else (none))) else (spec_l4DrawChart.l1 k x5 x6 x7 (wrap64 (x9 + 1)) x1000 x1001 x1002 x337000 x337001 x337002)) else (none)) else (none)) else (if x7 > 0 then ((spec_l1Once.f x1000 x1001 x1002 3).bind fun bt339 => (spec_l4DrawChart.j2 k x5 x6 x7 (!bt339.1) x1000 bt339.2.1 bt339.2.2 x337000 x337001 x337002)) else (spec_l4DrawChart.j2 k x5 x6 x7 false x1000 x1001 x1002 x337000 x337001 x337002))
def spec_l4DrawChart.j2 : Nat → List (S209) → Int → Int → Bool → List Int → Int → Int → ByteArray → Int → Int → Option ((List (S209)) × Int × Int)
 | 0, _, _, _, _, _, _, _, _, _, _ => none
 | k + 1, x5, x6, x7, x52, x1000, x1001, x1002, x337000, x337001, x337002 => if x52 = true then ((spec_l1Below.f x1000 x1001 x1002 3).bind fun bt342 => (spec_l4DrawChart.l2 k x5 x6 (wrap64 (x7 - 1)) bt342.1 x1000 bt342.2.1 bt342.2.2 x337000 x337001 x337002)) else (if x5.length < 4398046511104 then (spec_l4DrawChart.l0 k (x5 ++ [(⟨x337000, x337001, x337002⟩ : S209)]) (wrap64 (x6 - 1)) x1000 x1001 x1002) else (none))
def spec_l4DrawChart.l2 : Nat → List (S209) → Int → Int → Int → List Int → Int → Int → ByteArray → Int → Int → Option ((List (S209)) × Int × Int)
 | 0, _, _, _, _, _, _, _, _, _, _ => none
 | k + 1, x5, x6, x10, x11, x1000, x1001, x1002, x337000, x337001, x337002 => if x11 > 0 then (if 0 ≤ x10 then (if x10 < (x5.length : Int) then (if ((rd_T209 x5 x10).f1) ≥ 0 then (spec_l4DrawChart.l2 k x5 x6 ((rd_T209 x5 x10).f1) (wrap64 (x11 - 1)) x1000 x1001 x1002 x337000 x337001 x337002) else ((spec_l4Deep.f k x5 x10).bind fun t347 => (if t347 < 8 then (if x5.length < 4398046511104 then (spec_l4DrawChart.l0 k (x5 ++ [(⟨x337000, x10, (rd_T209 x5 x10).f2⟩ : S209)]) (wrap64 (x6 - 1)) x1000 x1001 x1002) else (none)) else (if x5.length < 4398046511104 then (spec_l4DrawChart.l0 k (x5 ++ [(⟨x337000, x337001, x337002⟩ : S209)]) (wrap64 (x6 - 1)) x1000 x1001 x1002) else (none))))) else (none)) else (none)) else ((spec_l4Deep.f k x5 x10).bind fun t355 => (if t355 < 8 then (if 0 ≤ x10 then (if x10 < (x5.length : Int) then (if x5.length < 4398046511104 then (spec_l4DrawChart.l0 k (x5 ++ [(⟨x337000, x10, (rd_T209 x5 x10).f2⟩ : S209)]) (wrap64 (x6 - 1)) x1000 x1001 x1002) else (none)) else (none)) else (none)) else (if x5.length < 4398046511104 then (spec_l4DrawChart.l0 k (x5 ++ [(⟨x337000, x337001, x337002⟩ : S209)]) (wrap64 (x6 - 1)) x1000 x1001 x1002) else (none))))
end
def spec_l4DrawChart.f (k : Nat) (s0_0 : List Int) (s0_1 : Int) (s0_2 : Int) (a1 : Int) : Option ((List (S209)) × Int × Int) := (spec_l1Below.f s0_0 s0_1 s0_2 a1).bind fun bt327 => (spec_l4DrawChart.l0 k (([] : List (S209))) (wrap64 (3 + bt327.1)) s0_0 bt327.2.1 bt327.2.2)
theorem spec_l4DrawChart.mono_l : ∀ k, (∀ y0 y1 y2 y3 y4, LeO (spec_l4DrawChart.l0 k y0 y1 y2 y3 y4) (spec_l4DrawChart.l0 (k + 1) y0 y1 y2 y3 y4)) ∧ (∀ y0 y1 y2 y3 y4 y5 y6 y7 y8 y9, LeO (spec_l4DrawChart.l1 k y0 y1 y2 y3 y4 y5 y6 y7 y8 y9) (spec_l4DrawChart.l1 (k + 1) y0 y1 y2 y3 y4 y5 y6 y7 y8 y9)) ∧ (∀ y0 y1 y2 y3 y4 y5 y6 y7 y8 y9, LeO (spec_l4DrawChart.j2 k y0 y1 y2 y3 y4 y5 y6 y7 y8 y9) (spec_l4DrawChart.j2 (k + 1) y0 y1 y2 y3 y4 y5 y6 y7 y8 y9)) ∧ (∀ y0 y1 y2 y3 y4 y5 y6 y7 y8 y9, LeO (spec_l4DrawChart.l2 k y0 y1 y2 y3 y4 y5 y6 y7 y8 y9) (spec_l4DrawChart.l2 (k + 1) y0 y1 y2 y3 y4 y5 y6 y7 y8 y9))
 | 0 => ⟨fun _ _ _ _ _ r h => by simp [spec_l4DrawChart.l0] at h, fun _ _ _ _ _ _ _ _ _ _ r h => by simp [spec_l4DrawChart.l1] at h, fun _ _ _ _ _ _ _ _ _ _ r h => by simp [spec_l4DrawChart.j2] at h, fun _ _ _ _ _ _ _ _ _ _ r h => by simp [spec_l4DrawChart.l2] at h⟩
 | k + 1 => by
  obtain ⟨ih0, ih1, ih2, ih3⟩ := spec_l4DrawChart.mono_l k
  refine ⟨?_, ?_, ?_, ?_⟩
  ·intro y0 y1 y2 y3 y4
   unfold spec_l4DrawChart.l0
   repeat' first
   | (with_reducible exact ih0 _ _ _ _ _)
   | (with_reducible exact ih1 _ _ _ _ _ _ _ _ _ _)
   | (with_reducible exact ih2 _ _ _ _ _ _ _ _ _ _)
   | (with_reducible exact ih3 _ _ _ _ _ _ _ _ _ _)
   | (with_reducible exact spec_l1Text.mono _ _)
   | (with_reducible exact spec_l4Deep.mono _ _ _)
   | (with_reducible exact LeO.refl _)
   | (with_reducible exact LeO.none _)
   | (with_reducible refine LeO.ite ?_ ?_)
   | (with_reducible refine LeO.bind ?_ (fun _ => ?_))
   | exact ih0 _ _ _ _ _
   | exact ih1 _ _ _ _ _ _ _ _ _ _
   | exact ih2 _ _ _ _ _ _ _ _ _ _
   | exact ih3 _ _ _ _ _ _ _ _ _ _
   | exact spec_l1Text.mono _ _
   | exact spec_l4Deep.mono _ _ _
   | exact LeO.none _
   | refine LeO.ite ?_ ?_
   | refine LeO.bind ?_ (fun _ => ?_)
  ·intro y0 y1 y2 y3 y4 y5 y6 y7 y8 y9
   unfold spec_l4DrawChart.l1
   repeat' first
   | (with_reducible exact ih0 _ _ _ _ _)
   | (with_reducible exact ih1 _ _ _ _ _ _ _ _ _ _)
   | (with_reducible exact ih2 _ _ _ _ _ _ _ _ _ _)
   | (with_reducible exact ih3 _ _ _ _ _ _ _ _ _ _)
   | (with_reducible exact spec_l1Text.mono _ _)
   | (with_reducible exact spec_l4Deep.mono _ _ _)
   | (with_reducible exact LeO.refl _)
   | (with_reducible exact LeO.none _)
   | (with_reducible refine LeO.ite ?_ ?_)
   | (with_reducible refine LeO.bind ?_ (fun _ => ?_))
   | exact ih0 _ _ _ _ _
   | exact ih1 _ _ _ _ _ _ _ _ _ _
   | exact ih2 _ _ _ _ _ _ _ _ _ _
   | exact ih3 _ _ _ _ _ _ _ _ _ _
   | exact spec_l1Text.mono _ _
   | exact spec_l4Deep.mono _ _ _
   | exact LeO.none _
   | refine LeO.ite ?_ ?_
   | refine LeO.bind ?_ (fun _ => ?_)
  ·intro y0 y1 y2 y3 y4 y5 y6 y7 y8 y9
   unfold spec_l4DrawChart.j2
   repeat' first
   | (with_reducible exact ih0 _ _ _ _ _)
   | (with_reducible exact ih1 _ _ _ _ _ _ _ _ _ _)
   | (with_reducible exact ih2 _ _ _ _ _ _ _ _ _ _)
   | (with_reducible exact ih3 _ _ _ _ _ _ _ _ _ _)
   | (with_reducible exact spec_l1Text.mono _ _)
   | (with_reducible exact spec_l4Deep.mono _ _ _)
   | (with_reducible exact LeO.refl _)
   | (with_reducible exact LeO.none _)
   | (with_reducible refine LeO.ite ?_ ?_)
   | (with_reducible refine LeO.bind ?_ (fun _ => ?_))
   | exact ih0 _ _ _ _ _
   | exact ih1 _ _ _ _ _ _ _ _ _ _
   | exact ih2 _ _ _ _ _ _ _ _ _ _
   | exact ih3 _ _ _ _ _ _ _ _ _ _
   | exact spec_l1Text.mono _ _
   | exact spec_l4Deep.mono _ _ _
   | exact LeO.none _
   | refine LeO.ite ?_ ?_
   | refine LeO.bind ?_ (fun _ => ?_)
  ·intro y0 y1 y2 y3 y4 y5 y6 y7 y8 y9
   unfold spec_l4DrawChart.l2
   repeat' first
   | (with_reducible exact ih0 _ _ _ _ _)
   | (with_reducible exact ih1 _ _ _ _ _ _ _ _ _ _)
   | (with_reducible exact ih2 _ _ _ _ _ _ _ _ _ _)
   | (with_reducible exact ih3 _ _ _ _ _ _ _ _ _ _)
   | (with_reducible exact spec_l1Text.mono _ _)
   | (with_reducible exact spec_l4Deep.mono _ _ _)
   | (with_reducible exact LeO.refl _)
   | (with_reducible exact LeO.none _)
   | (with_reducible refine LeO.ite ?_ ?_)
   | (with_reducible refine LeO.bind ?_ (fun _ => ?_))
   | exact ih0 _ _ _ _ _
   | exact ih1 _ _ _ _ _ _ _ _ _ _
   | exact ih2 _ _ _ _ _ _ _ _ _ _
   | exact ih3 _ _ _ _ _ _ _ _ _ _
   | exact spec_l1Text.mono _ _
   | exact spec_l4Deep.mono _ _ _
   | exact LeO.none _
   | refine LeO.ite ?_ ?_
   | refine LeO.bind ?_ (fun _ => ?_)
theorem spec_l4DrawChart.mono : ∀ a0 a1 a2 a3 k, LeO (spec_l4DrawChart.f k a0 a1 a2 a3) (spec_l4DrawChart.f (k + 1) a0 a1 a2 a3) := by
 intro a0 a1 a2 a3 k
 obtain ⟨ih0, ih1, ih2, ih3⟩ := spec_l4DrawChart.mono_l k
 unfold spec_l4DrawChart.f
 repeat' first
   | (with_reducible exact ih0 _ _ _ _ _)
   | (with_reducible exact ih1 _ _ _ _ _ _ _ _ _ _)
   | (with_reducible exact ih2 _ _ _ _ _ _ _ _ _ _)
   | (with_reducible exact ih3 _ _ _ _ _ _ _ _ _ _)
   | (with_reducible exact spec_l1Text.mono _ _)
   | (with_reducible exact spec_l4Deep.mono _ _ _)
   | (with_reducible exact LeO.refl _)
   | (with_reducible exact LeO.none _)
   | (with_reducible refine LeO.ite ?_ ?_)
   | (with_reducible refine LeO.bind ?_ (fun _ => ?_))
   | exact ih0 _ _ _ _ _
   | exact ih1 _ _ _ _ _ _ _ _ _ _
   | exact ih2 _ _ _ _ _ _ _ _ _ _
   | exact ih3 _ _ _ _ _ _ _ _ _ _
   | exact spec_l1Text.mono _ _
   | exact spec_l4Deep.mono _ _ _
   | exact LeO.none _
   | refine LeO.ite ?_ ?_
   | refine LeO.bind ?_ (fun _ => ?_)
set_option maxHeartbeats 8000000 in
set_option maxRecDepth 100000 in
theorem spec_l4DrawChart.calls (k : Nat) (g : Nat) (s0_0 : List Int) (s0_1 : Int) (s0_2 : Int) (a1 : Int) (r1 : List (S209)) (r2 : Int) (r3 : Int) (w0 w : World) (hI : IsS186 w0 w g s0_0 s0_1 s0_2) (hB : Below w0.heap.size w0 w) (h : spec_l4DrawChart.f k s0_0 s0_1 s0_2 a1 = some (r1, r2, r3)) :
  Calls Try.prog 156 #[.pointer (some ⟨g, 0, none⟩), .int .i64 a1] w fun e w' => ∃ v0_ : Value, e = .returned (v0_) ∧ Kd.R k209 209 w' w.heap.size (fun _ => True) v0_ r1 ∧ IsS186 w0 w' g s0_0 r2 r3 ∧ Below w0.heap.size w0 w' ∧ qc0 w w' g none := by
 have hu209 := Try.underlying209
 have HI0 := Aside0.mk hI
 have HK := Aside0.mk (qc0.refl w g none)
 have HL := Aside0.mk hB.size
 clear hI
 have HW0 := Aside0.mk hB.size
 have HB := Aside0.mk hB
 clear hB
 have H : ((spec_l1Below.f s0_0 s0_1 s0_2 a1).bind fun bt327 => (spec_l4DrawChart.l0 k (([] : List (S209))) (wrap64 (3 + bt327.1)) s0_0 bt327.2.1 bt327.2.2)) = some (r1, r2, r3) := h
 clear h
 obtain ⟨y324, hy324⟩ : ∃ y_ : List (S209), y_ = (([] : List (S209))) := ⟨_, rfl⟩
 replace H : ((spec_l1Below.f s0_0 s0_1 s0_2 a1).bind fun bt327 => (spec_l4DrawChart.l0 k y324 (wrap64 (3 + bt327.1)) s0_0 bt327.2.1 bt327.2.2)) = some (r1, r2, r3) := by first | (rw [hy324]; with_reducible exact H) | (have H2_ := (Option.bind_some _ _).symm.trans H; rw [hy324]; with_reducible exact H2_) | (have H2_ := (Option.bind_some _ _).symm.trans H; with_reducible exact H2_) | with_reducible exact H | (rw [hy324]; exact H) | exact H
 have Ny324 := Aside0.mk hy324
 clear hy324
 replace H := Option.bind_eq_some_iff.mp H
 obtain ⟨⟨t327, t328, t329⟩, A30, H⟩ := H
 replace H : (spec_l4DrawChart.l0 k y324 (wrap64 (3 + t327)) s0_0 t328 t329) = some (r1, r2, r3) := H
 have A3 := Aside0.mk A30
 clear A30
 have H' := Aside0.mk H
 clear H
 go_enter Try.func156, Try.ntmps156
 go_wp2_with (first | ((with_reducible refine qa1 (N := 12) rfl ?_); refine Kd.R_lit k209 _ 209 ?hg (N := 12) ?hd (xs := ([] : List (S209))) (inner := []) (ok := fun _ => True) (okp := fun _ => True) ?hr ?hp (fun _ hk => hk) trivial (Below.refl _ _) (Nat.le_refl _) (by simp) ?_; (case hd => rfl); (case hg => rfl); (case hr => exact z9_21); (case hp => exact (Reps.none _ _)); intro v325 w4 ho5 hb hg_ hnew_; clear hg_ hnew_; (first | rw [← Ny324.out] at ho5 | (simp only [Int.reduceToNat] at ho5; rw [← Ny324.out] at ho5)); have n0_ := Aside0.mk (Kd.qu1 ho5 (qx0 (w := w) (g := g) (row := none) z9_5)); have n1_ := Aside0.mk (IsS186.below z9_4 hb); have n2_ := Aside0.mk (qc0.trans z9_5 (qc0.of_below hb g none) (.inl rfl)); have n3_ := Aside0.mk (ql0 z9_8 hb); clear HI0; clear HK; clear HB; have HO326 := n0_; have HI0 := n1_; have HK := n2_; have HB := n3_; clear n0_ n1_ n2_ n3_; clear hb ho5) | (go_at_call 61; (with_reducible refine (spec_l1Below.calls g s0_0 s0_1 s0_2 a1 t327 t328 t329 w0 _ ?side1 ?side2 A3.out).mono ?_); (case side1 => exact z9_4); (case side2 => exact z9_8); rintro e w6 ⟨rfl, hi, hb, hk⟩; have n0_ := Aside0.mk (Kd.qm0 (Kd.qy0 (IsS186.apart (show IsS186 w0 _ g s0_0 s0_1 s0_2 from z9_4) z9_23 (by decide)) hk (fun _ h => h.2)) (fun _ h => h.1)); have n1_ := Aside0.mk (qc0.trans z9_5 hk (.inl rfl)); have n2_ := Aside0.mk (hb); have n3_ := Aside0.mk (hi); clear HO326; clear HK; clear HB; clear HI0; have HO326 := n0_; have HK := n1_; have HB := n2_; have HI0 := n3_; clear n0_ n1_ n2_ n3_; (try clear hb); (try clear hb2); (try clear hk); (try clear hi)))
 repeat (go_quiet (first | ((with_reducible refine qa1 (N := 12) rfl ?_); refine Kd.R_lit k209 _ 209 ?hg (N := 12) ?hd (xs := ([] : List (S209))) (inner := []) (ok := fun _ => True) (okp := fun _ => True) ?hr ?hp (fun _ hk => hk) trivial (Below.refl _ _) (Nat.le_refl _) (by simp) ?_; (case hd => rfl); (case hg => rfl); (case hr => exact z9_21); (case hp => exact (Reps.none _ _)); intro v325 w4 ho5 hb hg_ hnew_; clear hg_ hnew_; (first | rw [← Ny324.out] at ho5 | (simp only [Int.reduceToNat] at ho5; rw [← Ny324.out] at ho5)); have n0_ := Aside0.mk (Kd.qu1 ho5 (qx0 (w := w) (g := g) (row := none) z9_5)); have n1_ := Aside0.mk (IsS186.below z9_4 hb); have n2_ := Aside0.mk (qc0.trans z9_5 (qc0.of_below hb g none) (.inl rfl)); have n3_ := Aside0.mk (ql0 z9_8 hb); clear HI0; clear HK; clear HB; have HO326 := n0_; have HI0 := n1_; have HK := n2_; have HB := n3_; clear n0_ n1_ n2_ n3_; clear hb ho5) | (go_at_call 61; (with_reducible refine (spec_l1Below.calls g s0_0 s0_1 s0_2 a1 t327 t328 t329 w0 _ ?side1 ?side2 A3.out).mono ?_); (case side1 => exact z9_4); (case side2 => exact z9_8); rintro e w6 ⟨rfl, hi, hb, hk⟩; have n0_ := Aside0.mk (Kd.qm0 (Kd.qy0 (IsS186.apart (show IsS186 w0 _ g s0_0 s0_1 s0_2 from z9_4) z9_23 (by decide)) hk (fun _ h => h.2)) (fun _ h => h.1)); have n1_ := Aside0.mk (qc0.trans z9_5 hk (.inl rfl)); have n2_ := Aside0.mk (hb); have n3_ := Aside0.mk (hi); clear HO326; clear HK; clear HB; clear HI0; have HO326 := n0_; have HK := n1_; have HB := n2_; have HI0 := n3_; clear n0_ n1_ n2_ n3_; (try clear hb); (try clear hb2); (try clear hk); (try clear hi))); try go_wp2_with (first | ((with_reducible refine qa1 (N := 12) rfl ?_); refine Kd.R_lit k209 _ 209 ?hg (N := 12) ?hd (xs := ([] : List (S209))) (inner := []) (ok := fun _ => True) (okp := fun _ => True) ?hr ?hp (fun _ hk => hk) trivial (Below.refl _ _) (Nat.le_refl _) (by simp) ?_; (case hd => rfl); (case hg => rfl); (case hr => exact z9_21); (case hp => exact (Reps.none _ _)); intro v325 w4 ho5 hb hg_ hnew_; clear hg_ hnew_; (first | rw [← Ny324.out] at ho5 | (simp only [Int.reduceToNat] at ho5; rw [← Ny324.out] at ho5)); have n0_ := Aside0.mk (Kd.qu1 ho5 (qx0 (w := w) (g := g) (row := none) z9_5)); have n1_ := Aside0.mk (IsS186.below z9_4 hb); have n2_ := Aside0.mk (qc0.trans z9_5 (qc0.of_below hb g none) (.inl rfl)); have n3_ := Aside0.mk (ql0 z9_8 hb); clear HI0; clear HK; clear HB; have HO326 := n0_; have HI0 := n1_; have HK := n2_; have HB := n3_; clear n0_ n1_ n2_ n3_; clear hb ho5) | (go_at_call 61; (with_reducible refine (spec_l1Below.calls g s0_0 s0_1 s0_2 a1 t327 t328 t329 w0 _ ?side1 ?side2 A3.out).mono ?_); (case side1 => exact z9_4); (case side2 => exact z9_8); rintro e w6 ⟨rfl, hi, hb, hk⟩; have n0_ := Aside0.mk (Kd.qm0 (Kd.qy0 (IsS186.apart (show IsS186 w0 _ g s0_0 s0_1 s0_2 from z9_4) z9_23 (by decide)) hk (fun _ h => h.2)) (fun _ h => h.1)); have n1_ := Aside0.mk (qc0.trans z9_5 hk (.inl rfl)); have n2_ := Aside0.mk (hb); have n3_ := Aside0.mk (hi); clear HO326; clear HK; clear HB; clear HI0; have HO326 := n0_; have HK := n1_; have HB := n2_; have HI0 := n3_; clear n0_ n1_ n2_ n3_; (try clear hb); (try clear hb2); (try clear hk); (try clear hi))))
 go_loopg [5, 6] k (fun kq v5 v6 w' => ∃ (x5_1 : List (S209)) (x6_1 : Int) (x1001_1 : Int) (x1002_1 : Int), v6 = .int .i64 x6_1 ∧ Aside0 (spec_l4DrawChart.l0 kq x5_1 x6_1 s0_0 x1001_1 x1002_1 = some (r1, r2, r3)) ∧ Aside0 (kq ≤ k) ∧ Aside0 (Kd.R k209 209 w' w.heap.size (fun _ => True) v5 x5_1) ∧ Aside0 (IsS186 w0 w' g s0_0 x1001_1 x1002_1) ∧ Aside0 (qc0 w w' g none) ∧ Aside0 (Below w0.heap.size w0 w'))
 case atStart => exact ⟨(y324), (wrap64 (3 + t327)), (t328), (t329), z9_20, H', ⟨Nat.le_refl _⟩, ⟨z9_23⟩, ⟨z9_4⟩, ⟨z9_5⟩, ⟨z9_8⟩⟩
 case round =>
  clear H'
  try clear c1
  try clear p2
  try clear p6
  obtain ⟨x5_1, x6_1, x1001_1, x1002_1, rfl, HA, HK1, HO_5, HI0, HK, HB⟩ := hrel
  cases gk with
  | zero => exact absurd HA.out (by simp [spec_l4DrawChart.l0])
  | succ k1 =>
   have H := HA.out
   clear HA
   simp only [spec_l4DrawChart.l0] at H
   by_cases c7 : x6_1 > 0
   ·rw [if_pos c7] at H
    have c7b0 : decide (0 < x6_1) = true := decide_eq_true c7
    clear c7
    replace H := Option.bind_eq_some_iff.mp H
    obtain ⟨⟨t330, t331, t332⟩, A80, H⟩ := H
    replace H : ((spec_l1Below.f s0_0 t331 t332 5).bind fun bt333 => (spec_l4DrawChart.l1 k1 x5_1 x6_1 (x5_1.length : Int) 0 s0_0 bt333.2.1 bt333.2.2 t330 (-1) (wrap64 (1 + bt333.1)))) = some (r1, r2, r3) := H
    have A8 := Aside0.mk A80
    clear A80
    replace H := Option.bind_eq_some_iff.mp H
    obtain ⟨⟨t333, t334, t335⟩, A90, H⟩ := H
    replace H : (spec_l4DrawChart.l1 k1 x5_1 x6_1 (x5_1.length : Int) 0 s0_0 t334 t335 t330 (-1) (wrap64 (1 + t333))) = some (r1, r2, r3) := H
    have A9 := Aside0.mk A90
    clear A90
    have H' := Aside0.mk H
    clear H
    obtain ⟨Ao10, co10, eo10⟩ := Kd.qn1 HO_5.out
    subst eo10
    go_wp2_with (first | (go_at_call 162; (with_reducible refine (spec_l1DrawName.calls g s0_0 x1001_1 x1002_1 t330 t331 t332 w0 _ ?side1 ?side2 A8.out).mono ?_); (case side1 => exact z9_4); (case side2 => exact z9_8); rintro e w11 ⟨rfl, hi, hb, hk⟩; have n0_ := Aside0.mk (Kd.qm0 (Kd.qy0 (IsS186.apart (show IsS186 w0 _ g s0_0 x1001_1 x1002_1 from z9_4) z9_7 (by decide)) hk (fun _ h => h.2)) (fun _ h => h.1)); have n1_ := Aside0.mk (qc0.trans z9_5 hk (.inl rfl)); have n2_ := Aside0.mk (hb); have n3_ := Aside0.mk (hi); clear HO_5; clear HK; clear HB; clear HI0; have HO_5 := n0_; have HK := n1_; have HB := n2_; have HI0 := n3_; clear n0_ n1_ n2_ n3_; (try clear hb); (try clear hb2); (try clear hk); (try clear hi)) | (go_at_call 61; (with_reducible refine (spec_l1Below.calls g s0_0 t331 t332 5 t333 t334 t335 w0 _ ?side1 ?side2 A9.out).mono ?_); (case side1 => exact z9_4); (case side2 => exact z9_8); rintro e w12 ⟨rfl, hi, hb, hk⟩; have n0_ := Aside0.mk (Kd.qm0 (Kd.qy0 (IsS186.apart (show IsS186 w0 _ g s0_0 t331 t332 from z9_4) z9_7 (by decide)) hk (fun _ h => h.2)) (fun _ h => h.1)); have n1_ := Aside0.mk (qc0.trans z9_5 hk (.inl rfl)); have n2_ := Aside0.mk (hb); have n3_ := Aside0.mk (hi); clear HO_5; clear HK; clear HB; clear HI0; have HO_5 := n0_; have HK := n1_; have HB := n2_; have HI0 := n3_; clear n0_ n1_ n2_ n3_; (try clear hb); (try clear hb2); (try clear hk); (try clear hi)) | ((with_reducible refine qa1 (N := 8) rfl ?_); refine qe1 ?hg (N := 8) ?hd (cs := #[.string (⟨#[]⟩ : ByteArray), .int .i64 0, .int .i64 0]) (t := 209) ?hr ?_; (case hd => rfl); (case hg => rfl); (case hr => exact z9_21); intro gb336 hg w13 hbox hb; have n0_ := Aside0.mk (Kd.qy1 (Kd.R_elderB z9_7 gb336 (Nat.le_of_eq hg.symm)) hb); have n1_ := Aside0.mk (IsS186.below z9_4 hb); have n2_ := Aside0.mk (qc0.trans z9_5 (qc0.of_below hb g none) (.inl rfl)); have n3_ := Aside0.mk (ql0 z9_8 hb); have n4_ := Aside0.mk (hbox); have n5_ := Aside0.mk ((z9_11 : w.heap.size ≤ gb336)); have n6_ := Aside0.mk ((Nat.le_trans HW0.out (z9_11 : w.heap.size ≤ gb336) : w0.heap.size ≤ gb336)); have n7_ := Aside0.mk ((z9_18 : g ≠ gb336)); have n8_ := Aside0.mk ((z9_19 : gb336 ≠ g)); clear HO_5; clear HI0; clear HK; clear HB; have HO_5 := n0_; have HI0 := n1_; have HK := n2_; have HB := n3_; have BK336 := n4_; have GW336 := n5_; have GE336 := n6_; have NB0_336 := n7_; have NB336_0 := n8_; clear n0_ n1_ n2_ n3_ n4_ n5_ n6_ n7_ n8_; clear hb hbox hg; have hnb14 := NB336_0.out; have hnc14 := NB0_336.out; have hcz15_0 : w13.cell? ⟨gb336, 0, none⟩ = some (.string (⟨#[]⟩ : ByteArray)) := (qb0 BK336.out 0).trans rfl; have hcz15_1 : w13.cell? ⟨gb336, 1, none⟩ = some (.int .i64 0) := (qb0 BK336.out 1).trans rfl; have hcz15_2 : w13.cell? ⟨gb336, 2, none⟩ = some (.int .i64 0) := (qb0 BK336.out 2).trans rfl; have hfz15_0 := qa0 BK336.out 0; have hfz15_1 := qa0 BK336.out 1; have hfz15_2 := qa0 BK336.out 2))
    repeat (go_quiet (first | (go_at_call 162; (with_reducible refine (spec_l1DrawName.calls g s0_0 x1001_1 x1002_1 t330 t331 t332 w0 _ ?side1 ?side2 A8.out).mono ?_); (case side1 => exact z9_4); (case side2 => exact z9_8); rintro e w11 ⟨rfl, hi, hb, hk⟩; have n0_ := Aside0.mk (Kd.qm0 (Kd.qy0 (IsS186.apart (show IsS186 w0 _ g s0_0 x1001_1 x1002_1 from z9_4) z9_7 (by decide)) hk (fun _ h => h.2)) (fun _ h => h.1)); have n1_ := Aside0.mk (qc0.trans z9_5 hk (.inl rfl)); have n2_ := Aside0.mk (hb); have n3_ := Aside0.mk (hi); clear HO_5; clear HK; clear HB; clear HI0; have HO_5 := n0_; have HK := n1_; have HB := n2_; have HI0 := n3_; clear n0_ n1_ n2_ n3_; (try clear hb); (try clear hb2); (try clear hk); (try clear hi)) | (go_at_call 61; (with_reducible refine (spec_l1Below.calls g s0_0 t331 t332 5 t333 t334 t335 w0 _ ?side1 ?side2 A9.out).mono ?_); (case side1 => exact z9_4); (case side2 => exact z9_8); rintro e w12 ⟨rfl, hi, hb, hk⟩; have n0_ := Aside0.mk (Kd.qm0 (Kd.qy0 (IsS186.apart (show IsS186 w0 _ g s0_0 t331 t332 from z9_4) z9_7 (by decide)) hk (fun _ h => h.2)) (fun _ h => h.1)); have n1_ := Aside0.mk (qc0.trans z9_5 hk (.inl rfl)); have n2_ := Aside0.mk (hb); have n3_ := Aside0.mk (hi); clear HO_5; clear HK; clear HB; clear HI0; have HO_5 := n0_; have HK := n1_; have HB := n2_; have HI0 := n3_; clear n0_ n1_ n2_ n3_; (try clear hb); (try clear hb2); (try clear hk); (try clear hi)) | ((with_reducible refine qa1 (N := 8) rfl ?_); refine qe1 ?hg (N := 8) ?hd (cs := #[.string (⟨#[]⟩ : ByteArray), .int .i64 0, .int .i64 0]) (t := 209) ?hr ?_; (case hd => rfl); (case hg => rfl); (case hr => exact z9_21); intro gb336 hg w13 hbox hb; have n0_ := Aside0.mk (Kd.qy1 (Kd.R_elderB z9_7 gb336 (Nat.le_of_eq hg.symm)) hb); have n1_ := Aside0.mk (IsS186.below z9_4 hb); have n2_ := Aside0.mk (qc0.trans z9_5 (qc0.of_below hb g none) (.inl rfl)); have n3_ := Aside0.mk (ql0 z9_8 hb); have n4_ := Aside0.mk (hbox); have n5_ := Aside0.mk ((z9_11 : w.heap.size ≤ gb336)); have n6_ := Aside0.mk ((Nat.le_trans HW0.out (z9_11 : w.heap.size ≤ gb336) : w0.heap.size ≤ gb336)); have n7_ := Aside0.mk ((z9_18 : g ≠ gb336)); have n8_ := Aside0.mk ((z9_19 : gb336 ≠ g)); clear HO_5; clear HI0; clear HK; clear HB; have HO_5 := n0_; have HI0 := n1_; have HK := n2_; have HB := n3_; have BK336 := n4_; have GW336 := n5_; have GE336 := n6_; have NB0_336 := n7_; have NB336_0 := n8_; clear n0_ n1_ n2_ n3_ n4_ n5_ n6_ n7_ n8_; clear hb hbox hg; have hnb14 := NB336_0.out; have hnc14 := NB0_336.out; have hcz15_0 : w13.cell? ⟨gb336, 0, none⟩ = some (.string (⟨#[]⟩ : ByteArray)) := (qb0 BK336.out 0).trans rfl; have hcz15_1 : w13.cell? ⟨gb336, 1, none⟩ = some (.int .i64 0) := (qb0 BK336.out 1).trans rfl; have hcz15_2 : w13.cell? ⟨gb336, 2, none⟩ = some (.int .i64 0) := (qb0 BK336.out 2).trans rfl; have hfz15_0 := qa0 BK336.out 0; have hfz15_1 := qa0 BK336.out 1; have hfz15_2 := qa0 BK336.out 2)); try go_wp2_with (first | (go_at_call 162; (with_reducible refine (spec_l1DrawName.calls g s0_0 x1001_1 x1002_1 t330 t331 t332 w0 _ ?side1 ?side2 A8.out).mono ?_); (case side1 => exact z9_4); (case side2 => exact z9_8); rintro e w11 ⟨rfl, hi, hb, hk⟩; have n0_ := Aside0.mk (Kd.qm0 (Kd.qy0 (IsS186.apart (show IsS186 w0 _ g s0_0 x1001_1 x1002_1 from z9_4) z9_7 (by decide)) hk (fun _ h => h.2)) (fun _ h => h.1)); have n1_ := Aside0.mk (qc0.trans z9_5 hk (.inl rfl)); have n2_ := Aside0.mk (hb); have n3_ := Aside0.mk (hi); clear HO_5; clear HK; clear HB; clear HI0; have HO_5 := n0_; have HK := n1_; have HB := n2_; have HI0 := n3_; clear n0_ n1_ n2_ n3_; (try clear hb); (try clear hb2); (try clear hk); (try clear hi)) | (go_at_call 61; (with_reducible refine (spec_l1Below.calls g s0_0 t331 t332 5 t333 t334 t335 w0 _ ?side1 ?side2 A9.out).mono ?_); (case side1 => exact z9_4); (case side2 => exact z9_8); rintro e w12 ⟨rfl, hi, hb, hk⟩; have n0_ := Aside0.mk (Kd.qm0 (Kd.qy0 (IsS186.apart (show IsS186 w0 _ g s0_0 t331 t332 from z9_4) z9_7 (by decide)) hk (fun _ h => h.2)) (fun _ h => h.1)); have n1_ := Aside0.mk (qc0.trans z9_5 hk (.inl rfl)); have n2_ := Aside0.mk (hb); have n3_ := Aside0.mk (hi); clear HO_5; clear HK; clear HB; clear HI0; have HO_5 := n0_; have HK := n1_; have HB := n2_; have HI0 := n3_; clear n0_ n1_ n2_ n3_; (try clear hb); (try clear hb2); (try clear hk); (try clear hi)) | ((with_reducible refine qa1 (N := 8) rfl ?_); refine qe1 ?hg (N := 8) ?hd (cs := #[.string (⟨#[]⟩ : ByteArray), .int .i64 0, .int .i64 0]) (t := 209) ?hr ?_; (case hd => rfl); (case hg => rfl); (case hr => exact z9_21); intro gb336 hg w13 hbox hb; have n0_ := Aside0.mk (Kd.qy1 (Kd.R_elderB z9_7 gb336 (Nat.le_of_eq hg.symm)) hb); have n1_ := Aside0.mk (IsS186.below z9_4 hb); have n2_ := Aside0.mk (qc0.trans z9_5 (qc0.of_below hb g none) (.inl rfl)); have n3_ := Aside0.mk (ql0 z9_8 hb); have n4_ := Aside0.mk (hbox); have n5_ := Aside0.mk ((z9_11 : w.heap.size ≤ gb336)); have n6_ := Aside0.mk ((Nat.le_trans HW0.out (z9_11 : w.heap.size ≤ gb336) : w0.heap.size ≤ gb336)); have n7_ := Aside0.mk ((z9_18 : g ≠ gb336)); have n8_ := Aside0.mk ((z9_19 : gb336 ≠ g)); clear HO_5; clear HI0; clear HK; clear HB; have HO_5 := n0_; have HI0 := n1_; have HK := n2_; have HB := n3_; have BK336 := n4_; have GW336 := n5_; have GE336 := n6_; have NB0_336 := n7_; have NB336_0 := n8_; clear n0_ n1_ n2_ n3_ n4_ n5_ n6_ n7_ n8_; clear hb hbox hg; have hnb14 := NB336_0.out; have hnc14 := NB0_336.out; have hcz15_0 : w13.cell? ⟨gb336, 0, none⟩ = some (.string (⟨#[]⟩ : ByteArray)) := (qb0 BK336.out 0).trans rfl; have hcz15_1 : w13.cell? ⟨gb336, 1, none⟩ = some (.int .i64 0) := (qb0 BK336.out 1).trans rfl; have hcz15_2 : w13.cell? ⟨gb336, 2, none⟩ = some (.int .i64 0) := (qb0 BK336.out 2).trans rfl; have hfz15_0 := qa0 BK336.out 0; have hfz15_1 := qa0 BK336.out 1; have hfz15_2 := qa0 BK336.out 2)))
    go_loopg [9] k1 (fun kq v9 w' => ∃ (x9_2 : Int) (x337000_2 : ByteArray), v9 = .int .i64 x9_2 ∧ Aside0 (spec_l4DrawChart.l1 kq x5_1 x6_1 (x5_1.length : Int) x9_2 s0_0 t334 t335 x337000_2 (-1) (wrap64 (1 + t333)) = some (r1, r2, r3)) ∧ Aside0 (kq ≤ k1) ∧ Aside0 (Kd.R k209 209 w' w.heap.size (fun k_ => k_ ≠ gb336) (.slice Ao10 x5_1.length co10) x5_1) ∧ Aside0 (w'.heap[gb336]? = some (.cells #[.string x337000_2, .int .i64 (-1), .int .i64 (wrap64 (1 + t333))] 209 (0, 0))) ∧ Aside0 (IsS186 w0 w' g s0_0 t334 t335) ∧ Aside0 (qc0 w w' g none) ∧ Aside0 (Below w0.heap.size w0 w'))
    case atStart => exact ⟨(0), (t330), z9_20, H', ⟨Nat.le_refl _⟩, ⟨by (with_reducible repeat (first | apply Kd.qr0 | apply Kd.qp0 | apply Kd.qu0)); exact Kd.qm0 (Kd.R_far (p := ⟨gb336, 2, none⟩) (Kd.R_far (p := ⟨gb336, 1, none⟩) (Kd.R_far (p := ⟨gb336, 0, none⟩) (Kd.qm0 HO_5.out (fun k_ hk => (⟨hk, hk.2⟩ : _ ∧ k_ ≠ gb336))) (fun _ hk => hk.2) (.string t330)) (fun _ hk => hk.2) (.int .i64 (-1))) (fun _ hk => hk.2) (.int .i64 (wrap64 (1 + t333)))) (fun _ hk => hk.1.2)⟩, ⟨by (with_reducible repeat (first | refine qe0 ?_ _ | refine qf0 ?_ | refine qd0 ?_ _)); refine qo0 (cs := #[.string t330, .int .i64 (-1), .int .i64 0]) ?_ 2 _ rfl; (with_reducible repeat (first | refine qe0 ?_ _ | refine qf0 ?_ | refine qd0 ?_ _)); refine qo0 (cs := #[.string t330, .int .i64 0, .int .i64 0]) ?_ 1 _ rfl; (with_reducible repeat (first | refine qe0 ?_ _ | refine qf0 ?_ | refine qd0 ?_ _)); refine qo0 (cs := #[.string (⟨#[]⟩ : ByteArray), .int .i64 0, .int .i64 0]) ?_ 0 _ rfl; (with_reducible repeat (first | refine qe0 ?_ _ | refine qf0 ?_ | refine qd0 ?_ _)); exact BK336.out⟩, ⟨z9_1⟩, ⟨z9_0⟩, ⟨z9_2⟩⟩
    case round =>
     clear H'
     try clear c1
     try clear p2
     try clear p6
     try clear c7
     try clear c7b0
     try clear c14
     try clear c15
     try clear hcz15_0
     try clear hcz15_1
     try clear hcz15_2
     try clear hfz15_0
     try clear hfz15_1
     try clear hfz15_2
     try clear p2
     try clear p6
     obtain ⟨x9_2, x337000_2, rfl, HA, HK2, HO_5, BK336, HI0, HK, HB⟩ := hrel
     cases gk with
     | zero => exact absurd HA.out (by simp [spec_l4DrawChart.l1])
     | succ k2 =>
      have H := HA.out
      clear HA
      simp only [spec_l4DrawChart.l1] at H
      by_cases c16 : x9_2 < (x5_1.length : Int)
      ·rw [if_pos c16] at H
       have c16b0 : decide (x9_2 < (x5_1.length : Int)) = true := decide_eq_true c16
       clear c16
       by_cases c17 : 0 ≤ x9_2
       case neg => rw [if_neg c17] at H; exact absurd H (by simp)
       rw [if_pos c17] at H
       have c17b0 : decide (0 ≤ x9_2) = true := decide_eq_true c17
       clear c17
       by_cases c18 : x9_2 < (x5_1.length : Int)
       case neg => rw [if_neg c18] at H; exact absurd H (by simp)
       rw [if_pos c18] at H
       have c18b0 : decide (x9_2 < (x5_1.length : Int)) = true := decide_eq_true c18
       clear c18
       by_cases c19 : ((rd_T209 x5_1 x9_2).f0).toList = x337000_2.toList
       ·rw [if_pos c19] at H
        have c19b0 : (((rd_T209 x5_1 x9_2).f0).toList == x337000_2.toList) = true := beq_iff_eq.mpr c19
        have c19b1 : (((rd_T209 x5_1 x9_2).f0).toList != x337000_2.toList) = false := bne_eq_false_iff_eq.mpr c19
        clear c19
        replace H := Option.bind_eq_some_iff.mp H
        obtain ⟨t338, A200, H⟩ := H
        replace H : (if 1 + t338.size ≤ 9223372036854775807 then (spec_l4DrawChart.l1 k2 x5_1 x6_1 (x5_1.length : Int) (wrap64 (x9_2 + 1)) s0_0 t334 t335 ((⟨#[110]⟩ : ByteArray) ++ t338) (-1) (wrap64 (1 + t333))) else (none)) = some (r1, r2, r3) := H
        have A20 := Aside0.mk A200
        clear A200
        by_cases c21 : 1 + t338.size ≤ 9223372036854775807
        case neg => rw [if_neg c21] at H; exact absurd H (by simp)
        rw [if_pos c21] at H
        have c21b0 := eq_true c21
        have c21b1 : decide (1 + t338.size ≤ 9223372036854775807) = true := decide_eq_true c21
        try have c21b2 : (9223372036854775807 < 1 + t338.size) = False := eq_false (Nat.not_lt.2 c21)
        have H' := Aside0.mk H
        clear H
        have p337 : 0 ≤ (x9_2 : Int) := of_decide_eq_true z9_13
        have q337 : x9_2 < (x5_1.length : Int) := of_decide_eq_true z9_13
        obtain ⟨ad337, e337, hx337_0, hx337_1, hx337_2⟩ := at_T209 (Kd.qn0 HO_5.out).2.2 x9_2 p337 q337
        cases e337
        replace p337 := eq_true p337
        replace q337 := eq_true q337
        have hnb22 := NB336_0.out
        have hnc22 := NB0_336.out
        have hcz23_0 : wr.cell? ⟨gb336, 0, none⟩ = some (.string x337000_2) := (qb0 BK336.out 0).trans rfl
        have hcz23_1 : wr.cell? ⟨gb336, 1, none⟩ = some (.int .i64 (-1)) := (qb0 BK336.out 1).trans rfl
        have hcz23_2 : wr.cell? ⟨gb336, 2, none⟩ = some (.int .i64 (wrap64 (1 + t333))) := (qb0 BK336.out 2).trans rfl
        have hfz23_0 := qa0 BK336.out 0
        have hfz23_1 := qa0 BK336.out 1
        have hfz23_2 := qa0 BK336.out 2
        go_wp2_with (first | (go_at_call 94; (with_reducible refine (spec_l1Text.calls k2 (x5_1.length : Int) t338 _ A20.out).mono ?_); rintro e w24 ⟨rfl, hb⟩; have n0_ := Aside0.mk (Kd.qy1 z9_7 hb); have n1_ := Aside0.mk (qz0 (g := gb336) (o := .cells #[.string x337000_2, .int .i64 (-1), .int .i64 (wrap64 (1 + t333))] 209 (0, 0)) z9_6 hb); have n2_ := Aside0.mk (IsS186.below z9_1 hb); have n3_ := Aside0.mk (qc0.trans z9_0 (qc0.of_below hb g none) (.inl rfl)); have n4_ := Aside0.mk (ql0 z9_2 hb); clear HO_5; clear BK336; clear HI0; clear HK; clear HB; have HO_5 := n0_; have BK336 := n1_; have HI0 := n2_; have HK := n3_; have HB := n4_; clear n0_ n1_ n2_ n3_ n4_; (try clear hb); (try clear hb2); (try clear hk); (try clear hi); have hcz25_0 : w24.cell? ⟨gb336, 0, none⟩ = some (.string x337000_2) := (qb0 BK336.out 0).trans rfl; have hcz25_1 : w24.cell? ⟨gb336, 1, none⟩ = some (.int .i64 (-1)) := (qb0 BK336.out 1).trans rfl; have hcz25_2 : w24.cell? ⟨gb336, 2, none⟩ = some (.int .i64 (wrap64 (1 + t333))) := (qb0 BK336.out 2).trans rfl; have hfz25_0 := qa0 BK336.out 0; have hfz25_1 := qa0 BK336.out 1; have hfz25_2 := qa0 BK336.out 2))
        repeat (go_quiet (first | (go_at_call 94; (with_reducible refine (spec_l1Text.calls k2 (x5_1.length : Int) t338 _ A20.out).mono ?_); rintro e w24 ⟨rfl, hb⟩; have n0_ := Aside0.mk (Kd.qy1 z9_7 hb); have n1_ := Aside0.mk (qz0 (g := gb336) (o := .cells #[.string x337000_2, .int .i64 (-1), .int .i64 (wrap64 (1 + t333))] 209 (0, 0)) z9_6 hb); have n2_ := Aside0.mk (IsS186.below z9_1 hb); have n3_ := Aside0.mk (qc0.trans z9_0 (qc0.of_below hb g none) (.inl rfl)); have n4_ := Aside0.mk (ql0 z9_2 hb); clear HO_5; clear BK336; clear HI0; clear HK; clear HB; have HO_5 := n0_; have BK336 := n1_; have HI0 := n2_; have HK := n3_; have HB := n4_; clear n0_ n1_ n2_ n3_ n4_; (try clear hb); (try clear hb2); (try clear hk); (try clear hi); have hcz25_0 : w24.cell? ⟨gb336, 0, none⟩ = some (.string x337000_2) := (qb0 BK336.out 0).trans rfl; have hcz25_1 : w24.cell? ⟨gb336, 1, none⟩ = some (.int .i64 (-1)) := (qb0 BK336.out 1).trans rfl; have hcz25_2 : w24.cell? ⟨gb336, 2, none⟩ = some (.int .i64 (wrap64 (1 + t333))) := (qb0 BK336.out 2).trans rfl; have hfz25_0 := qa0 BK336.out 0; have hfz25_1 := qa0 BK336.out 1; have hfz25_2 := qa0 BK336.out 2)); try go_wp2_with (first | (go_at_call 94; (with_reducible refine (spec_l1Text.calls k2 (x5_1.length : Int) t338 _ A20.out).mono ?_); rintro e w24 ⟨rfl, hb⟩; have n0_ := Aside0.mk (Kd.qy1 z9_7 hb); have n1_ := Aside0.mk (qz0 (g := gb336) (o := .cells #[.string x337000_2, .int .i64 (-1), .int .i64 (wrap64 (1 + t333))] 209 (0, 0)) z9_6 hb); have n2_ := Aside0.mk (IsS186.below z9_1 hb); have n3_ := Aside0.mk (qc0.trans z9_0 (qc0.of_below hb g none) (.inl rfl)); have n4_ := Aside0.mk (ql0 z9_2 hb); clear HO_5; clear BK336; clear HI0; clear HK; clear HB; have HO_5 := n0_; have BK336 := n1_; have HI0 := n2_; have HK := n3_; have HB := n4_; clear n0_ n1_ n2_ n3_ n4_; (try clear hb); (try clear hb2); (try clear hk); (try clear hi); have hcz25_0 : w24.cell? ⟨gb336, 0, none⟩ = some (.string x337000_2) := (qb0 BK336.out 0).trans rfl; have hcz25_1 : w24.cell? ⟨gb336, 1, none⟩ = some (.int .i64 (-1)) := (qb0 BK336.out 1).trans rfl; have hcz25_2 : w24.cell? ⟨gb336, 2, none⟩ = some (.int .i64 (wrap64 (1 + t333))) := (qb0 BK336.out 2).trans rfl; have hfz25_0 := qa0 BK336.out 0; have hfz25_1 := qa0 BK336.out 1; have hfz25_2 := qa0 BK336.out 2)))
        go_roundg k2
        case measure => have := HK1.out; have := HK2.out; omega
        case rel => exact ⟨(wrap64 (x9_2 + 1)), ((⟨#[110]⟩ : ByteArray) ++ t338), z9_20, H', ⟨by have := HK1.out; have := HK2.out; omega⟩, ⟨by (with_reducible repeat (first | apply Kd.qr0 | apply Kd.qp0 | apply Kd.qu0)); exact Kd.qm0 (Kd.R_far (p := ⟨gb336, 0, none⟩) (Kd.qm0 HO_5.out (fun k_ hk => (⟨hk, hk⟩ : _ ∧ k_ ≠ gb336))) (fun _ hk => hk.2) (.string ((⟨#[110]⟩ : ByteArray) ++ t338))) (fun _ hk => hk.1)⟩, ⟨by (with_reducible repeat (first | refine qe0 ?_ _ | refine qf0 ?_ | refine qd0 ?_ _)); refine qo0 (cs := #[.string x337000_2, .int .i64 (-1), .int .i64 (wrap64 (1 + t333))]) ?_ 0 _ rfl; (with_reducible repeat (first | refine qe0 ?_ _ | refine qf0 ?_ | refine qd0 ?_ _)); exact BK336.out⟩, ⟨z9_1⟩, ⟨z9_0⟩, ⟨z9_2⟩⟩
       rw [if_neg c19] at H
       have c19b0 : (((rd_T209 x5_1 x9_2).f0).toList == x337000_2.toList) = false := beq_eq_false_iff_ne.mpr c19
       have c19b1 : (((rd_T209 x5_1 x9_2).f0).toList != x337000_2.toList) = true := bne_iff_ne.mpr c19
       have H' := Aside0.mk H
       clear H
       have p337 : 0 ≤ (x9_2 : Int) := of_decide_eq_true z9_13
       have q337 : x9_2 < (x5_1.length : Int) := of_decide_eq_true z9_13
       obtain ⟨ad337, e337, hx337_0, hx337_1, hx337_2⟩ := at_T209 (Kd.qn0 HO_5.out).2.2 x9_2 p337 q337
       cases e337
       replace p337 := eq_true p337
       replace q337 := eq_true q337
       have hnb26 := NB336_0.out
       have hnc26 := NB0_336.out
       have hcz27_0 : wr.cell? ⟨gb336, 0, none⟩ = some (.string x337000_2) := (qb0 BK336.out 0).trans rfl
       have hcz27_1 : wr.cell? ⟨gb336, 1, none⟩ = some (.int .i64 (-1)) := (qb0 BK336.out 1).trans rfl
       have hcz27_2 : wr.cell? ⟨gb336, 2, none⟩ = some (.int .i64 (wrap64 (1 + t333))) := (qb0 BK336.out 2).trans rfl
       have hfz27_0 := qa0 BK336.out 0
       have hfz27_1 := qa0 BK336.out 1
       have hfz27_2 := qa0 BK336.out 2
       go_wp2
       repeat (go_quiet (fail); try go_wp2)
       go_roundg k2
       case measure => have := HK1.out; have := HK2.out; omega
       case rel => exact ⟨(wrap64 (x9_2 + 1)), (x337000_2), z9_20, H', ⟨by have := HK1.out; have := HK2.out; omega⟩, ⟨z9_7⟩, ⟨z9_6⟩, ⟨z9_1⟩, ⟨z9_0⟩, ⟨z9_2⟩⟩
      rw [if_neg c16] at H
      have c16b0 : decide (x9_2 < (x5_1.length : Int)) = false := decide_eq_false c16
      clear c16
      have HC28 := Aside0.mk H
      clear H
      go_upto_region 12 with (fail)
      repeat (go_quiet (fail); go_upto_region 12 with (fail))
      go_cut [52] (fun v52 wc => ∃ (kq : Nat) (x52_27 : Bool) (x1001_27 : Int) (x1002_27 : Int), v52 = .bool x52_27 ∧ Aside0 (spec_l4DrawChart.j2 kq x5_1 x6_1 (x5_1.length : Int) x52_27 s0_0 x1001_27 x1002_27 x337000_2 (-1) (wrap64 (1 + t333)) = some (r1, r2, r3)) ∧ Aside0 (kq ≤ k2) ∧ Aside0 (Kd.R k209 209 wc w.heap.size (fun k_ => k_ ≠ gb336) (.slice Ao10 x5_1.length co10) x5_1) ∧ Aside0 (wc.heap[gb336]? = some (.cells #[.string x337000_2, .int .i64 (-1), .int .i64 (wrap64 (1 + t333))] 209 (0, 0))) ∧ Aside0 (IsS186 w0 wc g s0_0 x1001_27 x1002_27) ∧ Aside0 (qc0 w wc g none) ∧ Aside0 (Below w0.heap.size w0 wc))
      case first =>
       have H := HC28.out
       clear HC28
       by_cases c29 : (x5_1.length : Int) > 0
       ·rw [if_pos c29] at H
        have c29b0 : decide (0 < (x5_1.length : Int)) = true := decide_eq_true c29
        have c29b1 : decide (0 < x5_1.length) = true := decide_eq_true (by omega)
        clear c29
        (first | rw [c29b0] | (simp only [i64_w, i32_w]; rw [c29b0]) | skip)
        replace H := Option.bind_eq_some_iff.mp H
        obtain ⟨⟨t339, t340, t341⟩, A300, H⟩ := H
        replace H : (spec_l4DrawChart.j2 k2 x5_1 x6_1 (x5_1.length : Int) (!t339) s0_0 t340 t341 x337000_2 (-1) (wrap64 (1 + t333))) = some (r1, r2, r3) := H
        have A30 := Aside0.mk A300
        clear A300
        have H' := Aside0.mk H
        clear H
        go_wp2_with (first | (go_at_call 63; (with_reducible refine (spec_l1Once.calls g s0_0 t334 t335 3 t339 t340 t341 w0 _ ?side1 ?side2 A30.out).mono ?_); (case side1 => exact z9_1); (case side2 => exact z9_2); rintro e w31 ⟨rfl, hi, hb, hk⟩; have n0_ := Aside0.mk (Kd.qm0 (Kd.qy0 (IsS186.apart (show IsS186 w0 _ g s0_0 t334 t335 from z9_1) z9_7 (by decide)) hk (fun _ h => h.2)) (fun _ h => h.1)); have n1_ := Aside0.mk (qc0.blk hk (g' := gb336) (o := .cells #[.string x337000_2, .int .i64 (-1), .int .i64 (wrap64 (1 + t333))] 209 (0, 0)) z9_6 NB336_0.out (by simp)); have n2_ := Aside0.mk (qc0.trans z9_0 hk (.inl rfl)); have n3_ := Aside0.mk (hb); have n4_ := Aside0.mk (hi); clear HO_5; clear BK336; clear HK; clear HB; clear HI0; have HO_5 := n0_; have BK336 := n1_; have HK := n2_; have HB := n3_; have HI0 := n4_; clear n0_ n1_ n2_ n3_ n4_; (try clear hb); (try clear hb2); (try clear hk); (try clear hi)))
        repeat (go_quiet (first | (go_at_call 63; (with_reducible refine (spec_l1Once.calls g s0_0 t334 t335 3 t339 t340 t341 w0 _ ?side1 ?side2 A30.out).mono ?_); (case side1 => exact z9_1); (case side2 => exact z9_2); rintro e w31 ⟨rfl, hi, hb, hk⟩; have n0_ := Aside0.mk (Kd.qm0 (Kd.qy0 (IsS186.apart (show IsS186 w0 _ g s0_0 t334 t335 from z9_1) z9_7 (by decide)) hk (fun _ h => h.2)) (fun _ h => h.1)); have n1_ := Aside0.mk (qc0.blk hk (g' := gb336) (o := .cells #[.string x337000_2, .int .i64 (-1), .int .i64 (wrap64 (1 + t333))] 209 (0, 0)) z9_6 NB336_0.out (by simp)); have n2_ := Aside0.mk (qc0.trans z9_0 hk (.inl rfl)); have n3_ := Aside0.mk (hb); have n4_ := Aside0.mk (hi); clear HO_5; clear BK336; clear HK; clear HB; clear HI0; have HO_5 := n0_; have BK336 := n1_; have HK := n2_; have HB := n3_; have HI0 := n4_; clear n0_ n1_ n2_ n3_ n4_; (try clear hb); (try clear hb2); (try clear hk); (try clear hi))); try go_wp2_with (first | (go_at_call 63; (with_reducible refine (spec_l1Once.calls g s0_0 t334 t335 3 t339 t340 t341 w0 _ ?side1 ?side2 A30.out).mono ?_); (case side1 => exact z9_1); (case side2 => exact z9_2); rintro e w31 ⟨rfl, hi, hb, hk⟩; have n0_ := Aside0.mk (Kd.qm0 (Kd.qy0 (IsS186.apart (show IsS186 w0 _ g s0_0 t334 t335 from z9_1) z9_7 (by decide)) hk (fun _ h => h.2)) (fun _ h => h.1)); have n1_ := Aside0.mk (qc0.blk hk (g' := gb336) (o := .cells #[.string x337000_2, .int .i64 (-1), .int .i64 (wrap64 (1 + t333))] 209 (0, 0)) z9_6 NB336_0.out (by simp)); have n2_ := Aside0.mk (qc0.trans z9_0 hk (.inl rfl)); have n3_ := Aside0.mk (hb); have n4_ := Aside0.mk (hi); clear HO_5; clear BK336; clear HK; clear HB; clear HI0; have HO_5 := n0_; have BK336 := n1_; have HK := n2_; have HB := n3_; have HI0 := n4_; clear n0_ n1_ n2_ n3_ n4_; (try clear hb); (try clear hb2); (try clear hk); (try clear hi))))
        go_meet
        case rel => exact ⟨_, (!t339), (t340), (t341), z9_20, H', ⟨by have := HK1.out; have := HK2.out; first | omega | exact Nat.le_refl _⟩, ⟨z9_7⟩, ⟨z9_6⟩, ⟨z9_1⟩, ⟨z9_0⟩, ⟨z9_2⟩⟩
       rw [if_neg c29] at H
       have c29b0 : decide (0 < (x5_1.length : Int)) = false := decide_eq_false c29
       have c29b1 : decide (0 < x5_1.length) = false := decide_eq_false (by omega)
       clear c29
       (first | rw [c29b0] | (simp only [i64_w, i32_w]; rw [c29b0]) | skip)
       have H' := Aside0.mk H
       clear H
       go_wp2
       repeat (go_quiet (fail); try go_wp2)
       go_meet
       case rel => exact ⟨_, (false), (t334), (t335), z9_20, H', ⟨by have := HK1.out; have := HK2.out; first | omega | exact Nat.le_refl _⟩, ⟨z9_7⟩, ⟨z9_6⟩, ⟨z9_1⟩, ⟨z9_0⟩, ⟨z9_2⟩⟩
      case rest =>
       clear HC28
       try clear c1
       try clear c2
       try clear p2
       try clear p3
       try clear q3
       try clear hx3
       try clear p6
       try clear c7
       try clear c7b0
       try clear c14
       try clear c15
       try clear c16
       try clear c16b0
       try clear c17
       try clear c17b0
       try clear c18
       try clear c18b0
       try clear c19
       try clear c19b0
       try clear c19b1
       try clear c21
       try clear c21b0
       try clear c21b1
       try clear c21b2
       try clear c22
       try clear c26
       try clear c29
       try clear c29b0
       try clear c29b1
       try clear hcz15_0
       try clear hcz15_1
       try clear hcz15_2
       try clear hcz23_0
       try clear hcz23_1
       try clear hcz23_2
       try clear hcz25_0
       try clear hcz25_1
       try clear hcz25_2
       try clear hcz27_0
       try clear hcz27_1
       try clear hcz27_2
       try clear hfz15_0
       try clear hfz15_1
       try clear hfz15_2
       try clear hfz23_0
       try clear hfz23_1
       try clear hfz23_2
       try clear hfz25_0
       try clear hfz25_1
       try clear hfz25_2
       try clear hfz27_0
       try clear hfz27_1
       try clear hfz27_2
       try clear hx337_0
       try clear hx337_1
       try clear hx337_2
       try clear p2
       try clear p337
       try clear p6
       try clear q337
       obtain ⟨kq, x52_27, x1001_27, x1002_27, rfl, HA, HJ27, HO_5, BK336, HI0, HK, HB⟩ := hcut
       cases kq with
       | zero => exact absurd HA.out (by simp [spec_l4DrawChart.j2])
       | succ kj27 =>
        have H := HA.out
        clear HA
        simp only [spec_l4DrawChart.j2] at H
        by_cases c32 : x52_27 = true
        ·subst c32
         have H1 : ((spec_l1Below.f s0_0 x1001_27 x1002_27 3).bind fun bt342 => (spec_l4DrawChart.l2 kj27 x5_1 x6_1 (wrap64 ((x5_1.length : Int) - 1)) bt342.1 s0_0 bt342.2.1 bt342.2.2 x337000_2 (-1) (wrap64 (1 + t333)))) = some (r1, r2, r3) := by rw [if_pos rfl] at H; exact H
         clear H
         have H := H1
         clear H1
         replace H := Option.bind_eq_some_iff.mp H
         obtain ⟨⟨t342, t343, t344⟩, A330, H⟩ := H
         replace H : (spec_l4DrawChart.l2 kj27 x5_1 x6_1 (wrap64 ((x5_1.length : Int) - 1)) t342 s0_0 t343 t344 x337000_2 (-1) (wrap64 (1 + t333))) = some (r1, r2, r3) := H
         have A33 := Aside0.mk A330
         clear A330
         have H' := Aside0.mk H
         clear H
         go_wp2_with (first | (go_at_call 61; (with_reducible refine (spec_l1Below.calls g s0_0 x1001_27 x1002_27 3 t342 t343 t344 w0 _ ?side1 ?side2 A33.out).mono ?_); (case side1 => exact z9_1); (case side2 => exact z9_2); rintro e w34 ⟨rfl, hi, hb, hk⟩; have n0_ := Aside0.mk (Kd.qm0 (Kd.qy0 (IsS186.apart (show IsS186 w0 _ g s0_0 x1001_27 x1002_27 from z9_1) z9_7 (by decide)) hk (fun _ h => h.2)) (fun _ h => h.1)); have n1_ := Aside0.mk (qc0.blk hk (g' := gb336) (o := .cells #[.string x337000_2, .int .i64 (-1), .int .i64 (wrap64 (1 + t333))] 209 (0, 0)) z9_6 NB336_0.out (by simp)); have n2_ := Aside0.mk (qc0.trans z9_0 hk (.inl rfl)); have n3_ := Aside0.mk (hb); have n4_ := Aside0.mk (hi); clear HO_5; clear BK336; clear HK; clear HB; clear HI0; have HO_5 := n0_; have BK336 := n1_; have HK := n2_; have HB := n3_; have HI0 := n4_; clear n0_ n1_ n2_ n3_ n4_; (try clear hb); (try clear hb2); (try clear hk); (try clear hi)))
         repeat (go_quiet (first | (go_at_call 61; (with_reducible refine (spec_l1Below.calls g s0_0 x1001_27 x1002_27 3 t342 t343 t344 w0 _ ?side1 ?side2 A33.out).mono ?_); (case side1 => exact z9_1); (case side2 => exact z9_2); rintro e w34 ⟨rfl, hi, hb, hk⟩; have n0_ := Aside0.mk (Kd.qm0 (Kd.qy0 (IsS186.apart (show IsS186 w0 _ g s0_0 x1001_27 x1002_27 from z9_1) z9_7 (by decide)) hk (fun _ h => h.2)) (fun _ h => h.1)); have n1_ := Aside0.mk (qc0.blk hk (g' := gb336) (o := .cells #[.string x337000_2, .int .i64 (-1), .int .i64 (wrap64 (1 + t333))] 209 (0, 0)) z9_6 NB336_0.out (by simp)); have n2_ := Aside0.mk (qc0.trans z9_0 hk (.inl rfl)); have n3_ := Aside0.mk (hb); have n4_ := Aside0.mk (hi); clear HO_5; clear BK336; clear HK; clear HB; clear HI0; have HO_5 := n0_; have BK336 := n1_; have HK := n2_; have HB := n3_; have HI0 := n4_; clear n0_ n1_ n2_ n3_ n4_; (try clear hb); (try clear hb2); (try clear hk); (try clear hi))); try go_wp2_with (first | (go_at_call 61; (with_reducible refine (spec_l1Below.calls g s0_0 x1001_27 x1002_27 3 t342 t343 t344 w0 _ ?side1 ?side2 A33.out).mono ?_); (case side1 => exact z9_1); (case side2 => exact z9_2); rintro e w34 ⟨rfl, hi, hb, hk⟩; have n0_ := Aside0.mk (Kd.qm0 (Kd.qy0 (IsS186.apart (show IsS186 w0 _ g s0_0 x1001_27 x1002_27 from z9_1) z9_7 (by decide)) hk (fun _ h => h.2)) (fun _ h => h.1)); have n1_ := Aside0.mk (qc0.blk hk (g' := gb336) (o := .cells #[.string x337000_2, .int .i64 (-1), .int .i64 (wrap64 (1 + t333))] 209 (0, 0)) z9_6 NB336_0.out (by simp)); have n2_ := Aside0.mk (qc0.trans z9_0 hk (.inl rfl)); have n3_ := Aside0.mk (hb); have n4_ := Aside0.mk (hi); clear HO_5; clear BK336; clear HK; clear HB; clear HI0; have HO_5 := n0_; have BK336 := n1_; have HK := n2_; have HB := n3_; have HI0 := n4_; clear n0_ n1_ n2_ n3_ n4_; (try clear hb); (try clear hb2); (try clear hk); (try clear hi))))
         go_loopg [10, 11] kj27 (fun kq v10 v11 w' => ∃ (x10_4 : Int) (x11_4 : Int), v10 = .int .i64 x10_4 ∧ v11 = .int .i64 x11_4 ∧ Aside0 (spec_l4DrawChart.l2 kq x5_1 x6_1 x10_4 x11_4 s0_0 t343 t344 x337000_2 (-1) (wrap64 (1 + t333)) = some (r1, r2, r3)) ∧ Aside0 (kq ≤ kj27) ∧ Aside0 (Kd.R k209 209 w' w.heap.size (fun k_ => k_ ≠ gb336) (.slice Ao10 x5_1.length co10) x5_1) ∧ Aside0 (w'.heap[gb336]? = some (.cells #[.string x337000_2, .int .i64 (-1), .int .i64 (wrap64 (1 + t333))] 209 (0, 0))) ∧ Aside0 (IsS186 w0 w' g s0_0 t343 t344) ∧ Aside0 (qc0 w w' g none) ∧ Aside0 (Below w0.heap.size w0 w'))
         case atStart => exact ⟨(wrap64 ((x5_1.length : Int) - 1)), (t342), z9_20, z9_20, H', ⟨Nat.le_refl _⟩, ⟨z9_7⟩, ⟨z9_6⟩, ⟨z9_1⟩, ⟨z9_0⟩, ⟨z9_2⟩⟩
         case round =>
          clear H'
          try clear c1
          try clear c2
          try clear p2
          try clear c3
          try clear p3
          try clear q3
          try clear hx3
          try clear p6
          try clear c7
          try clear c7b0
          try clear c14
          try clear c15
          try clear c16
          try clear c16b0
          try clear c17
          try clear c17b0
          try clear c18
          try clear c18b0
          try clear c19
          try clear c19b0
          try clear c19b1
          try clear c21
          try clear c21b0
          try clear c21b1
          try clear c21b2
          try clear c22
          try clear c26
          try clear c29
          try clear c29b0
          try clear c29b1
          try clear c32
          try clear p33
          try clear q33
          try clear hx33
          try clear hcz15_0
          try clear hcz15_1
          try clear hcz15_2
          try clear hcz23_0
          try clear hcz23_1
          try clear hcz23_2
          try clear hcz25_0
          try clear hcz25_1
          try clear hcz25_2
          try clear hcz27_0
          try clear hcz27_1
          try clear hcz27_2
          try clear hfz15_0
          try clear hfz15_1
          try clear hfz15_2
          try clear hfz23_0
          try clear hfz23_1
          try clear hfz23_2
          try clear hfz25_0
          try clear hfz25_1
          try clear hfz25_2
          try clear hfz27_0
          try clear hfz27_1
          try clear hfz27_2
          try clear hx337_0
          try clear hx337_1
          try clear hx337_2
          try clear p2
          try clear p3
          try clear p337
          try clear p6
          try clear q3
          try clear q337
          obtain ⟨x10_4, x11_4, rfl, rfl, HA, HK4, HO_5, BK336, HI0, HK, HB⟩ := hrel
          cases gk with
          | zero => exact absurd HA.out (by simp [spec_l4DrawChart.l2])
          | succ k4 =>
           have H := HA.out
           clear HA
           simp only [spec_l4DrawChart.l2] at H
           by_cases c35 : x11_4 > 0
           ·rw [if_pos c35] at H
            have c35b0 : decide (0 < x11_4) = true := decide_eq_true c35
            clear c35
            by_cases c36 : 0 ≤ x10_4
            case neg => rw [if_neg c36] at H; exact absurd H (by simp)
            rw [if_pos c36] at H
            have c36b0 : decide (0 ≤ x10_4) = true := decide_eq_true c36
            clear c36
            by_cases c37 : x10_4 < (x5_1.length : Int)
            case neg => rw [if_neg c37] at H; exact absurd H (by simp)
            rw [if_pos c37] at H
            have c37b0 : decide (x10_4 < (x5_1.length : Int)) = true := decide_eq_true c37
            clear c37
            by_cases c38 : ((rd_T209 x5_1 x10_4).f1) ≥ 0
            ·rw [if_pos c38] at H
             have c38b0 : decide (0 ≤ ((rd_T209 x5_1 x10_4).f1)) = true := decide_eq_true c38
             clear c38
             have H' := Aside0.mk H
             clear H
             have p345 : 0 ≤ (x10_4 : Int) := of_decide_eq_true z9_13
             have q345 : x10_4 < (x5_1.length : Int) := of_decide_eq_true z9_13
             obtain ⟨ad345, e345, hx345_0, hx345_1, hx345_2⟩ := at_T209 (Kd.qn0 HO_5.out).2.2 x10_4 p345 q345
             cases e345
             replace p345 := eq_true p345
             replace q345 := eq_true q345
             have p346 : 0 ≤ (x10_4 : Int) := of_decide_eq_true z9_13
             have q346 : x10_4 < (x5_1.length : Int) := of_decide_eq_true z9_13
             obtain ⟨ad346, e346, hx346_0, hx346_1, hx346_2⟩ := at_T209 (Kd.qn0 HO_5.out).2.2 x10_4 p346 q346
             obtain rfl : ad345 = ad346 := (by injection e346)
             replace p346 := eq_true p346
             replace q346 := eq_true q346
             go_wp2
             repeat (go_quiet (fail); try go_wp2)
             go_roundg k4
             case measure => have := HK1.out; have := HK2.out; have := HJ27.out; have := HK4.out; omega
             case rel => exact ⟨((rd_T209 x5_1 x10_4).f1), (wrap64 (x11_4 - 1)), z9_20, z9_20, H', ⟨z9_24⟩, ⟨z9_7⟩, ⟨z9_6⟩, ⟨z9_1⟩, ⟨z9_0⟩, ⟨z9_2⟩⟩
            rw [if_neg c38] at H
            have c38b0 : decide (0 ≤ ((rd_T209 x5_1 x10_4).f1)) = false := decide_eq_false c38
            clear c38
            replace H := Option.bind_eq_some_iff.mp H
            obtain ⟨t347, A390, H⟩ := H
            replace H : (if t347 < 8 then (if x5_1.length < 4398046511104 then (spec_l4DrawChart.l0 k4 (x5_1 ++ [(⟨x337000_2, x10_4, (rd_T209 x5_1 x10_4).f2⟩ : S209)]) (wrap64 (x6_1 - 1)) s0_0 t343 t344) else (none)) else (if x5_1.length < 4398046511104 then (spec_l4DrawChart.l0 k4 (x5_1 ++ [(⟨x337000_2, (-1), (wrap64 (1 + t333))⟩ : S209)]) (wrap64 (x6_1 - 1)) s0_0 t343 t344) else (none))) = some (r1, r2, r3) := H
            have A39 := Aside0.mk A390
            clear A390
            by_cases c40 : t347 < 8
            ·rw [if_pos c40] at H
             have c40b0 : decide (t347 < 8) = true := decide_eq_true c40
             clear c40
             by_cases c41 : x5_1.length < 4398046511104
             case neg => rw [if_neg c41] at H; exact absurd H (by simp)
             rw [if_pos c41] at H
             have LMc41 := Aside0.mk c41
             clear c41
             obtain ⟨y349, hy349⟩ : ∃ y_ : List (S209), y_ = (x5_1 ++ [(⟨x337000_2, x10_4, (rd_T209 x5_1 x10_4).f2⟩ : S209)]) := ⟨_, rfl⟩
             replace H : (spec_l4DrawChart.l0 k4 y349 (wrap64 (x6_1 - 1)) s0_0 t343 t344) = some (r1, r2, r3) := by first | (rw [hy349]; with_reducible exact H) | (have H2_ := (Option.bind_some _ _).symm.trans H; rw [hy349]; with_reducible exact H2_) | (have H2_ := (Option.bind_some _ _).symm.trans H; with_reducible exact H2_) | with_reducible exact H | (rw [hy349]; exact H) | exact H
             have Ny349 := Aside0.mk hy349
             clear hy349
             have H' := Aside0.mk H
             clear H
             have p345 : 0 ≤ (x10_4 : Int) := of_decide_eq_true z9_13
             have q345 : x10_4 < (x5_1.length : Int) := of_decide_eq_true z9_13
             obtain ⟨ad345, e345, hx345_0, hx345_1, hx345_2⟩ := at_T209 (Kd.qn0 HO_5.out).2.2 x10_4 p345 q345
             cases e345
             replace p345 := eq_true p345
             replace q345 := eq_true q345
             go_wp2_with (first | (go_at_call 164; (with_reducible refine (spec_l4Deep.calls k4 _ _ x5_1 x10_4 t347 _ ?side1 ?side2 A39.out).mono ?_); (case side1 => exact z9_10); (case side2 => exact (Kd.qn0 HO_5.out).2.1); rintro e w' ⟨rfl, ⟨nd, rfl⟩⟩; (try first | exact ⟨rfl, _, World.drewN_drewN _ _ _⟩ | exact ⟨rfl, _, Eq.trans (World.drewN_drewN _ _ _) (congrArg (World.drewN _) (Nat.add_assoc _ _ _))⟩); have hnb42 := NB336_0.out; have hnc42 := NB0_336.out; have hcz43_0 : wr.cell? ⟨gb336, 0, none⟩ = some (.string x337000_2) := (qb0 BK336.out 0).trans rfl; have hcz43_1 : wr.cell? ⟨gb336, 1, none⟩ = some (.int .i64 (-1)) := (qb0 BK336.out 1).trans rfl; have hcz43_2 : wr.cell? ⟨gb336, 2, none⟩ = some (.int .i64 (wrap64 (1 + t333))) := (qb0 BK336.out 2).trans rfl; have hfz43_0 := qa0 BK336.out 0; have hfz43_1 := qa0 BK336.out 1; have hfz43_2 := qa0 BK336.out 2; have p348 : 0 ≤ (x10_4 : Int) := of_decide_eq_true z9_13; have q348 : x10_4 < (x5_1.length : Int) := of_decide_eq_true z9_13; obtain ⟨ad348, e348, hx348_0, hx348_1, hx348_2⟩ := at_T209 (Kd.qn0 HO_5.out).2.2 x10_4 p348 q348; obtain rfl : ad345 = ad348 := (by injection e348); have hn348_0 : ad345.block ≠ gb336 := Kd.own_blk (Kd.qh2 HO_5.out (fun _ hk => hk)); replace hx348_0 := (cell_far (p := ⟨gb336, 1, none⟩) z9_14 (.int .i64 x10_4)).trans hx348_0; replace hx348_1 := (cell_far (p := ⟨gb336, 1, none⟩) z9_14 (.int .i64 x10_4)).trans hx348_1; replace hx348_2 := (cell_far (p := ⟨gb336, 1, none⟩) z9_14 (.int .i64 x10_4)).trans hx348_2; (try have hy348_0 := fun (n_ : Nat) => (show (((wr.drewN n_).setCell ⟨gb336, 1, none⟩ (.int .i64 x10_4))).cell? _ = some _ from hx348_0)); (try have hy348_1 := fun (n_ : Nat) => (show (((wr.drewN n_).setCell ⟨gb336, 1, none⟩ (.int .i64 x10_4))).cell? _ = some _ from hx348_1)); (try have hy348_2 := fun (n_ : Nat) => (show (((wr.drewN n_).setCell ⟨gb336, 1, none⟩ (.int .i64 x10_4))).cell? _ = some _ from hx348_2)); clear hn348_0; replace p348 := eq_true p348; replace q348 := eq_true q348) | ((with_reducible refine qw0 (b := .append) (xs := #[.tmp 86, .tmp 88]) rfl ?_); at_builtin; refine Kd.qo1 k209 w.heap.size rfl (.tmp 86) (.tmp 88) 172 209 (.agg #[(.string ⟨#[]⟩), (.int .i64 0), (.int .i64 0)]) 32 rfl Try.underlying172 info209 rfl (by decide) (by omega) (.slice (some ad345) x5_1.length co10) x5_1 (⟨x337000_2, x10_4, (rd_T209 x5_1 x10_4).f2⟩ : S209) [.string x337000_2, .int .i64 x10_4, .int .i64 ((rd_T209 x5_1 x10_4).f2)] (fun k_ => k_ ≠ gb336) (fun _ => False) rfl ?aX ?aP (fun _ hk => hk.elim) ?aF ?aO (Below.refl _ _) ?aS ?aL ?_; (case aX => exact z9_21); (case aP => exact k209_mkM _ _ _ (⟨x337000_2, x10_4, (rd_T209 x5_1 x10_4).f2⟩ : S209)); (case aF => exact (fun k_ hk => Kd.freshB (g := gb336) (o := .cells #[.string x337000_2, .int .i64 x10_4, .int .i64 ((rd_T209 x5_1 x10_4).f2)] 209 (0, 0)) z9_3 k_ hk)); (case aO => exact z9_9); (case aS => exact (qx0 (w := w) (g := g) (row := none) z9_0)); (case aL => have := LMc41.out; omega); intro v350 w44 ho hb hg hat; rw [← Ny349.out] at ho; have n0_ := Aside0.mk (qq0 (g := gb336) (o := .cells #[.string x337000_2, .int .i64 x10_4, .int .i64 ((rd_T209 x5_1 x10_4).f2)] 209 (0, 0)) z9_3 hg (Kd.qh2 HO_5.out (fun _ hk => hk))); have n1_ := Aside0.mk (IsS186.grown (show IsS186 w0 _ g s0_0 t343 t344 from z9_1) hg (IsS186.own_ne HI0.out HO_5.out (by decide))); have n2_ := Aside0.mk (qb1 z9_2 HL.out hb); have n3_ := Aside0.mk (qc0.trans z9_0 (qc0.qm1 hg g) (Kd.qs1 HO_5.out)); have n4_ := Aside0.mk (ho); clear BK336; clear HI0; clear HB; clear HK; clear HO_5; have BK336 := n0_; have HI0 := n1_; have HB := n2_; have HK := n3_; have HO351 := n4_; clear n0_ n1_ n2_ n3_ n4_; clear ho hb hg hat))
             repeat (go_quiet (first | (go_at_call 164; (with_reducible refine (spec_l4Deep.calls k4 _ _ x5_1 x10_4 t347 _ ?side1 ?side2 A39.out).mono ?_); (case side1 => exact z9_10); (case side2 => exact (Kd.qn0 HO_5.out).2.1); rintro e w' ⟨rfl, ⟨nd, rfl⟩⟩; (try first | exact ⟨rfl, _, World.drewN_drewN _ _ _⟩ | exact ⟨rfl, _, Eq.trans (World.drewN_drewN _ _ _) (congrArg (World.drewN _) (Nat.add_assoc _ _ _))⟩); have hnb42 := NB336_0.out; have hnc42 := NB0_336.out; have hcz43_0 : wr.cell? ⟨gb336, 0, none⟩ = some (.string x337000_2) := (qb0 BK336.out 0).trans rfl; have hcz43_1 : wr.cell? ⟨gb336, 1, none⟩ = some (.int .i64 (-1)) := (qb0 BK336.out 1).trans rfl; have hcz43_2 : wr.cell? ⟨gb336, 2, none⟩ = some (.int .i64 (wrap64 (1 + t333))) := (qb0 BK336.out 2).trans rfl; have hfz43_0 := qa0 BK336.out 0; have hfz43_1 := qa0 BK336.out 1; have hfz43_2 := qa0 BK336.out 2; have p348 : 0 ≤ (x10_4 : Int) := of_decide_eq_true z9_13; have q348 : x10_4 < (x5_1.length : Int) := of_decide_eq_true z9_13; obtain ⟨ad348, e348, hx348_0, hx348_1, hx348_2⟩ := at_T209 (Kd.qn0 HO_5.out).2.2 x10_4 p348 q348; obtain rfl : ad345 = ad348 := (by injection e348); have hn348_0 : ad345.block ≠ gb336 := Kd.own_blk (Kd.qh2 HO_5.out (fun _ hk => hk)); replace hx348_0 := (cell_far (p := ⟨gb336, 1, none⟩) z9_14 (.int .i64 x10_4)).trans hx348_0; replace hx348_1 := (cell_far (p := ⟨gb336, 1, none⟩) z9_14 (.int .i64 x10_4)).trans hx348_1; replace hx348_2 := (cell_far (p := ⟨gb336, 1, none⟩) z9_14 (.int .i64 x10_4)).trans hx348_2; (try have hy348_0 := fun (n_ : Nat) => (show (((wr.drewN n_).setCell ⟨gb336, 1, none⟩ (.int .i64 x10_4))).cell? _ = some _ from hx348_0)); (try have hy348_1 := fun (n_ : Nat) => (show (((wr.drewN n_).setCell ⟨gb336, 1, none⟩ (.int .i64 x10_4))).cell? _ = some _ from hx348_1)); (try have hy348_2 := fun (n_ : Nat) => (show (((wr.drewN n_).setCell ⟨gb336, 1, none⟩ (.int .i64 x10_4))).cell? _ = some _ from hx348_2)); clear hn348_0; replace p348 := eq_true p348; replace q348 := eq_true q348) | ((with_reducible refine qw0 (b := .append) (xs := #[.tmp 86, .tmp 88]) rfl ?_); at_builtin; refine Kd.qo1 k209 w.heap.size rfl (.tmp 86) (.tmp 88) 172 209 (.agg #[(.string ⟨#[]⟩), (.int .i64 0), (.int .i64 0)]) 32 rfl Try.underlying172 info209 rfl (by decide) (by omega) (.slice (some ad345) x5_1.length co10) x5_1 (⟨x337000_2, x10_4, (rd_T209 x5_1 x10_4).f2⟩ : S209) [.string x337000_2, .int .i64 x10_4, .int .i64 ((rd_T209 x5_1 x10_4).f2)] (fun k_ => k_ ≠ gb336) (fun _ => False) rfl ?aX ?aP (fun _ hk => hk.elim) ?aF ?aO (Below.refl _ _) ?aS ?aL ?_; (case aX => exact z9_21); (case aP => exact k209_mkM _ _ _ (⟨x337000_2, x10_4, (rd_T209 x5_1 x10_4).f2⟩ : S209)); (case aF => exact (fun k_ hk => Kd.freshB (g := gb336) (o := .cells #[.string x337000_2, .int .i64 x10_4, .int .i64 ((rd_T209 x5_1 x10_4).f2)] 209 (0, 0)) z9_3 k_ hk)); (case aO => exact z9_9); (case aS => exact (qx0 (w := w) (g := g) (row := none) z9_0)); (case aL => have := LMc41.out; omega); intro v350 w44 ho hb hg hat; rw [← Ny349.out] at ho; have n0_ := Aside0.mk (qq0 (g := gb336) (o := .cells #[.string x337000_2, .int .i64 x10_4, .int .i64 ((rd_T209 x5_1 x10_4).f2)] 209 (0, 0)) z9_3 hg (Kd.qh2 HO_5.out (fun _ hk => hk))); have n1_ := Aside0.mk (IsS186.grown (show IsS186 w0 _ g s0_0 t343 t344 from z9_1) hg (IsS186.own_ne HI0.out HO_5.out (by decide))); have n2_ := Aside0.mk (qb1 z9_2 HL.out hb); have n3_ := Aside0.mk (qc0.trans z9_0 (qc0.qm1 hg g) (Kd.qs1 HO_5.out)); have n4_ := Aside0.mk (ho); clear BK336; clear HI0; clear HB; clear HK; clear HO_5; have BK336 := n0_; have HI0 := n1_; have HB := n2_; have HK := n3_; have HO351 := n4_; clear n0_ n1_ n2_ n3_ n4_; clear ho hb hg hat)); try go_wp2_with (first | (go_at_call 164; (with_reducible refine (spec_l4Deep.calls k4 _ _ x5_1 x10_4 t347 _ ?side1 ?side2 A39.out).mono ?_); (case side1 => exact z9_10); (case side2 => exact (Kd.qn0 HO_5.out).2.1); rintro e w' ⟨rfl, ⟨nd, rfl⟩⟩; (try first | exact ⟨rfl, _, World.drewN_drewN _ _ _⟩ | exact ⟨rfl, _, Eq.trans (World.drewN_drewN _ _ _) (congrArg (World.drewN _) (Nat.add_assoc _ _ _))⟩); have hnb42 := NB336_0.out; have hnc42 := NB0_336.out; have hcz43_0 : wr.cell? ⟨gb336, 0, none⟩ = some (.string x337000_2) := (qb0 BK336.out 0).trans rfl; have hcz43_1 : wr.cell? ⟨gb336, 1, none⟩ = some (.int .i64 (-1)) := (qb0 BK336.out 1).trans rfl; have hcz43_2 : wr.cell? ⟨gb336, 2, none⟩ = some (.int .i64 (wrap64 (1 + t333))) := (qb0 BK336.out 2).trans rfl; have hfz43_0 := qa0 BK336.out 0; have hfz43_1 := qa0 BK336.out 1; have hfz43_2 := qa0 BK336.out 2; have p348 : 0 ≤ (x10_4 : Int) := of_decide_eq_true z9_13; have q348 : x10_4 < (x5_1.length : Int) := of_decide_eq_true z9_13; obtain ⟨ad348, e348, hx348_0, hx348_1, hx348_2⟩ := at_T209 (Kd.qn0 HO_5.out).2.2 x10_4 p348 q348; obtain rfl : ad345 = ad348 := (by injection e348); have hn348_0 : ad345.block ≠ gb336 := Kd.own_blk (Kd.qh2 HO_5.out (fun _ hk => hk)); replace hx348_0 := (cell_far (p := ⟨gb336, 1, none⟩) z9_14 (.int .i64 x10_4)).trans hx348_0; replace hx348_1 := (cell_far (p := ⟨gb336, 1, none⟩) z9_14 (.int .i64 x10_4)).trans hx348_1; replace hx348_2 := (cell_far (p := ⟨gb336, 1, none⟩) z9_14 (.int .i64 x10_4)).trans hx348_2; (try have hy348_0 := fun (n_ : Nat) => (show (((wr.drewN n_).setCell ⟨gb336, 1, none⟩ (.int .i64 x10_4))).cell? _ = some _ from hx348_0)); (try have hy348_1 := fun (n_ : Nat) => (show (((wr.drewN n_).setCell ⟨gb336, 1, none⟩ (.int .i64 x10_4))).cell? _ = some _ from hx348_1)); (try have hy348_2 := fun (n_ : Nat) => (show (((wr.drewN n_).setCell ⟨gb336, 1, none⟩ (.int .i64 x10_4))).cell? _ = some _ from hx348_2)); clear hn348_0; replace p348 := eq_true p348; replace q348 := eq_true q348) | ((with_reducible refine qw0 (b := .append) (xs := #[.tmp 86, .tmp 88]) rfl ?_); at_builtin; refine Kd.qo1 k209 w.heap.size rfl (.tmp 86) (.tmp 88) 172 209 (.agg #[(.string ⟨#[]⟩), (.int .i64 0), (.int .i64 0)]) 32 rfl Try.underlying172 info209 rfl (by decide) (by omega) (.slice (some ad345) x5_1.length co10) x5_1 (⟨x337000_2, x10_4, (rd_T209 x5_1 x10_4).f2⟩ : S209) [.string x337000_2, .int .i64 x10_4, .int .i64 ((rd_T209 x5_1 x10_4).f2)] (fun k_ => k_ ≠ gb336) (fun _ => False) rfl ?aX ?aP (fun _ hk => hk.elim) ?aF ?aO (Below.refl _ _) ?aS ?aL ?_; (case aX => exact z9_21); (case aP => exact k209_mkM _ _ _ (⟨x337000_2, x10_4, (rd_T209 x5_1 x10_4).f2⟩ : S209)); (case aF => exact (fun k_ hk => Kd.freshB (g := gb336) (o := .cells #[.string x337000_2, .int .i64 x10_4, .int .i64 ((rd_T209 x5_1 x10_4).f2)] 209 (0, 0)) z9_3 k_ hk)); (case aO => exact z9_9); (case aS => exact (qx0 (w := w) (g := g) (row := none) z9_0)); (case aL => have := LMc41.out; omega); intro v350 w44 ho hb hg hat; rw [← Ny349.out] at ho; have n0_ := Aside0.mk (qq0 (g := gb336) (o := .cells #[.string x337000_2, .int .i64 x10_4, .int .i64 ((rd_T209 x5_1 x10_4).f2)] 209 (0, 0)) z9_3 hg (Kd.qh2 HO_5.out (fun _ hk => hk))); have n1_ := Aside0.mk (IsS186.grown (show IsS186 w0 _ g s0_0 t343 t344 from z9_1) hg (IsS186.own_ne HI0.out HO_5.out (by decide))); have n2_ := Aside0.mk (qb1 z9_2 HL.out hb); have n3_ := Aside0.mk (qc0.trans z9_0 (qc0.qm1 hg g) (Kd.qs1 HO_5.out)); have n4_ := Aside0.mk (ho); clear BK336; clear HI0; clear HB; clear HK; clear HO_5; have BK336 := n0_; have HI0 := n1_; have HB := n2_; have HK := n3_; have HO351 := n4_; clear n0_ n1_ n2_ n3_ n4_; clear ho hb hg hat)))
             go_roundg k4
             case measure => have := HK1.out; have := HK2.out; have := HJ27.out; have := HK4.out; omega
             case rel => exact ⟨(y349), (wrap64 (x6_1 - 1)), (t343), (t344), z9_20, H', ⟨z9_24⟩, ⟨by (with_reducible repeat (first | apply Kd.qr0 | apply Kd.qp0 | apply Kd.qu0)); exact Kd.qm0 HO351.out (fun _ hk => trivial)⟩, ⟨z9_1⟩, ⟨z9_0⟩, ⟨z9_2⟩⟩
            rw [if_neg c40] at H
            have c40b0 : decide (t347 < 8) = false := decide_eq_false c40
            clear c40
            by_cases c45 : x5_1.length < 4398046511104
            case neg => rw [if_neg c45] at H; exact absurd H (by simp)
            rw [if_pos c45] at H
            have LMc45 := Aside0.mk c45
            clear c45
            obtain ⟨y352, hy352⟩ : ∃ y_ : List (S209), y_ = (x5_1 ++ [(⟨x337000_2, (-1), (wrap64 (1 + t333))⟩ : S209)]) := ⟨_, rfl⟩
            replace H : (spec_l4DrawChart.l0 k4 y352 (wrap64 (x6_1 - 1)) s0_0 t343 t344) = some (r1, r2, r3) := by first | (rw [hy352]; with_reducible exact H) | (have H2_ := (Option.bind_some _ _).symm.trans H; rw [hy352]; with_reducible exact H2_) | (have H2_ := (Option.bind_some _ _).symm.trans H; with_reducible exact H2_) | with_reducible exact H | (rw [hy352]; exact H) | exact H
            have Ny352 := Aside0.mk hy352
            clear hy352
            have H' := Aside0.mk H
            clear H
            have p345 : 0 ≤ (x10_4 : Int) := of_decide_eq_true z9_13
            have q345 : x10_4 < (x5_1.length : Int) := of_decide_eq_true z9_13
            obtain ⟨ad345, e345, hx345_0, hx345_1, hx345_2⟩ := at_T209 (Kd.qn0 HO_5.out).2.2 x10_4 p345 q345
            cases e345
            replace p345 := eq_true p345
            replace q345 := eq_true q345
            go_wp2_with (first | (go_at_call 164; (with_reducible refine (spec_l4Deep.calls k4 _ _ x5_1 x10_4 t347 _ ?side1 ?side2 A39.out).mono ?_); (case side1 => exact z9_10); (case side2 => exact (Kd.qn0 HO_5.out).2.1); rintro e w' ⟨rfl, ⟨nd, rfl⟩⟩; (try first | exact ⟨rfl, _, World.drewN_drewN _ _ _⟩ | exact ⟨rfl, _, Eq.trans (World.drewN_drewN _ _ _) (congrArg (World.drewN _) (Nat.add_assoc _ _ _))⟩); have hnb46 := NB336_0.out; have hnc46 := NB0_336.out; have hcz47_0 : wr.cell? ⟨gb336, 0, none⟩ = some (.string x337000_2) := (qb0 BK336.out 0).trans rfl; have hcz47_1 : wr.cell? ⟨gb336, 1, none⟩ = some (.int .i64 (-1)) := (qb0 BK336.out 1).trans rfl; have hcz47_2 : wr.cell? ⟨gb336, 2, none⟩ = some (.int .i64 (wrap64 (1 + t333))) := (qb0 BK336.out 2).trans rfl; have hfz47_0 := qa0 BK336.out 0; have hfz47_1 := qa0 BK336.out 1; have hfz47_2 := qa0 BK336.out 2) | ((with_reducible refine qw0 (b := .append) (xs := #[.tmp 86, .tmp 88]) rfl ?_); at_builtin; refine Kd.qo1 k209 w.heap.size rfl (.tmp 86) (.tmp 88) 172 209 (.agg #[(.string ⟨#[]⟩), (.int .i64 0), (.int .i64 0)]) 32 rfl Try.underlying172 info209 rfl (by decide) (by omega) (.slice (some ad345) x5_1.length co10) x5_1 (⟨x337000_2, (-1), (wrap64 (1 + t333))⟩ : S209) [.string x337000_2, .int .i64 (-1), .int .i64 (wrap64 (1 + t333))] (fun k_ => k_ ≠ gb336) (fun _ => False) rfl rfl ?aP (fun _ hk => hk.elim) ?aF ?aO (Below.refl _ _) ?aS ?aL ?_; (case aP => exact k209_mkM _ _ _ (⟨x337000_2, (-1), (wrap64 (1 + t333))⟩ : S209)); (case aF => exact (fun k_ hk => Kd.freshB (g := gb336) (o := .cells #[.string x337000_2, .int .i64 (-1), .int .i64 (wrap64 (1 + t333))] 209 (0, 0)) z9_6 k_ hk)); (case aO => exact z9_7); (case aS => exact (qx0 (w := w) (g := g) (row := none) z9_0)); (case aL => have := LMc45.out; omega); intro v353 w48 ho hb hg hat; rw [← Ny352.out] at ho; have n0_ := Aside0.mk (qq0 (g := gb336) (o := .cells #[.string x337000_2, .int .i64 (-1), .int .i64 (wrap64 (1 + t333))] 209 (0, 0)) z9_6 hg (Kd.qh2 HO_5.out (fun _ hk => hk))); have n1_ := Aside0.mk (IsS186.grown (show IsS186 w0 _ g s0_0 t343 t344 from z9_1) hg (IsS186.own_ne HI0.out HO_5.out (by decide))); have n2_ := Aside0.mk (qb1 z9_2 HL.out hb); have n3_ := Aside0.mk (qc0.trans z9_0 (qc0.qm1 hg g) (Kd.qs1 HO_5.out)); have n4_ := Aside0.mk (ho); clear BK336; clear HI0; clear HB; clear HK; clear HO_5; have BK336 := n0_; have HI0 := n1_; have HB := n2_; have HK := n3_; have HO354 := n4_; clear n0_ n1_ n2_ n3_ n4_; clear ho hb hg hat))
            repeat (go_quiet (first | (go_at_call 164; (with_reducible refine (spec_l4Deep.calls k4 _ _ x5_1 x10_4 t347 _ ?side1 ?side2 A39.out).mono ?_); (case side1 => exact z9_10); (case side2 => exact (Kd.qn0 HO_5.out).2.1); rintro e w' ⟨rfl, ⟨nd, rfl⟩⟩; (try first | exact ⟨rfl, _, World.drewN_drewN _ _ _⟩ | exact ⟨rfl, _, Eq.trans (World.drewN_drewN _ _ _) (congrArg (World.drewN _) (Nat.add_assoc _ _ _))⟩); have hnb46 := NB336_0.out; have hnc46 := NB0_336.out; have hcz47_0 : wr.cell? ⟨gb336, 0, none⟩ = some (.string x337000_2) := (qb0 BK336.out 0).trans rfl; have hcz47_1 : wr.cell? ⟨gb336, 1, none⟩ = some (.int .i64 (-1)) := (qb0 BK336.out 1).trans rfl; have hcz47_2 : wr.cell? ⟨gb336, 2, none⟩ = some (.int .i64 (wrap64 (1 + t333))) := (qb0 BK336.out 2).trans rfl; have hfz47_0 := qa0 BK336.out 0; have hfz47_1 := qa0 BK336.out 1; have hfz47_2 := qa0 BK336.out 2) | ((with_reducible refine qw0 (b := .append) (xs := #[.tmp 86, .tmp 88]) rfl ?_); at_builtin; refine Kd.qo1 k209 w.heap.size rfl (.tmp 86) (.tmp 88) 172 209 (.agg #[(.string ⟨#[]⟩), (.int .i64 0), (.int .i64 0)]) 32 rfl Try.underlying172 info209 rfl (by decide) (by omega) (.slice (some ad345) x5_1.length co10) x5_1 (⟨x337000_2, (-1), (wrap64 (1 + t333))⟩ : S209) [.string x337000_2, .int .i64 (-1), .int .i64 (wrap64 (1 + t333))] (fun k_ => k_ ≠ gb336) (fun _ => False) rfl rfl ?aP (fun _ hk => hk.elim) ?aF ?aO (Below.refl _ _) ?aS ?aL ?_; (case aP => exact k209_mkM _ _ _ (⟨x337000_2, (-1), (wrap64 (1 + t333))⟩ : S209)); (case aF => exact (fun k_ hk => Kd.freshB (g := gb336) (o := .cells #[.string x337000_2, .int .i64 (-1), .int .i64 (wrap64 (1 + t333))] 209 (0, 0)) z9_6 k_ hk)); (case aO => exact z9_7); (case aS => exact (qx0 (w := w) (g := g) (row := none) z9_0)); (case aL => have := LMc45.out; omega); intro v353 w48 ho hb hg hat; rw [← Ny352.out] at ho; have n0_ := Aside0.mk (qq0 (g := gb336) (o := .cells #[.string x337000_2, .int .i64 (-1), .int .i64 (wrap64 (1 + t333))] 209 (0, 0)) z9_6 hg (Kd.qh2 HO_5.out (fun _ hk => hk))); have n1_ := Aside0.mk (IsS186.grown (show IsS186 w0 _ g s0_0 t343 t344 from z9_1) hg (IsS186.own_ne HI0.out HO_5.out (by decide))); have n2_ := Aside0.mk (qb1 z9_2 HL.out hb); have n3_ := Aside0.mk (qc0.trans z9_0 (qc0.qm1 hg g) (Kd.qs1 HO_5.out)); have n4_ := Aside0.mk (ho); clear BK336; clear HI0; clear HB; clear HK; clear HO_5; have BK336 := n0_; have HI0 := n1_; have HB := n2_; have HK := n3_; have HO354 := n4_; clear n0_ n1_ n2_ n3_ n4_; clear ho hb hg hat)); try go_wp2_with (first | (go_at_call 164; (with_reducible refine (spec_l4Deep.calls k4 _ _ x5_1 x10_4 t347 _ ?side1 ?side2 A39.out).mono ?_); (case side1 => exact z9_10); (case side2 => exact (Kd.qn0 HO_5.out).2.1); rintro e w' ⟨rfl, ⟨nd, rfl⟩⟩; (try first | exact ⟨rfl, _, World.drewN_drewN _ _ _⟩ | exact ⟨rfl, _, Eq.trans (World.drewN_drewN _ _ _) (congrArg (World.drewN _) (Nat.add_assoc _ _ _))⟩); have hnb46 := NB336_0.out; have hnc46 := NB0_336.out; have hcz47_0 : wr.cell? ⟨gb336, 0, none⟩ = some (.string x337000_2) := (qb0 BK336.out 0).trans rfl; have hcz47_1 : wr.cell? ⟨gb336, 1, none⟩ = some (.int .i64 (-1)) := (qb0 BK336.out 1).trans rfl; have hcz47_2 : wr.cell? ⟨gb336, 2, none⟩ = some (.int .i64 (wrap64 (1 + t333))) := (qb0 BK336.out 2).trans rfl; have hfz47_0 := qa0 BK336.out 0; have hfz47_1 := qa0 BK336.out 1; have hfz47_2 := qa0 BK336.out 2) | ((with_reducible refine qw0 (b := .append) (xs := #[.tmp 86, .tmp 88]) rfl ?_); at_builtin; refine Kd.qo1 k209 w.heap.size rfl (.tmp 86) (.tmp 88) 172 209 (.agg #[(.string ⟨#[]⟩), (.int .i64 0), (.int .i64 0)]) 32 rfl Try.underlying172 info209 rfl (by decide) (by omega) (.slice (some ad345) x5_1.length co10) x5_1 (⟨x337000_2, (-1), (wrap64 (1 + t333))⟩ : S209) [.string x337000_2, .int .i64 (-1), .int .i64 (wrap64 (1 + t333))] (fun k_ => k_ ≠ gb336) (fun _ => False) rfl rfl ?aP (fun _ hk => hk.elim) ?aF ?aO (Below.refl _ _) ?aS ?aL ?_; (case aP => exact k209_mkM _ _ _ (⟨x337000_2, (-1), (wrap64 (1 + t333))⟩ : S209)); (case aF => exact (fun k_ hk => Kd.freshB (g := gb336) (o := .cells #[.string x337000_2, .int .i64 (-1), .int .i64 (wrap64 (1 + t333))] 209 (0, 0)) z9_6 k_ hk)); (case aO => exact z9_7); (case aS => exact (qx0 (w := w) (g := g) (row := none) z9_0)); (case aL => have := LMc45.out; omega); intro v353 w48 ho hb hg hat; rw [← Ny352.out] at ho; have n0_ := Aside0.mk (qq0 (g := gb336) (o := .cells #[.string x337000_2, .int .i64 (-1), .int .i64 (wrap64 (1 + t333))] 209 (0, 0)) z9_6 hg (Kd.qh2 HO_5.out (fun _ hk => hk))); have n1_ := Aside0.mk (IsS186.grown (show IsS186 w0 _ g s0_0 t343 t344 from z9_1) hg (IsS186.own_ne HI0.out HO_5.out (by decide))); have n2_ := Aside0.mk (qb1 z9_2 HL.out hb); have n3_ := Aside0.mk (qc0.trans z9_0 (qc0.qm1 hg g) (Kd.qs1 HO_5.out)); have n4_ := Aside0.mk (ho); clear BK336; clear HI0; clear HB; clear HK; clear HO_5; have BK336 := n0_; have HI0 := n1_; have HB := n2_; have HK := n3_; have HO354 := n4_; clear n0_ n1_ n2_ n3_ n4_; clear ho hb hg hat)))
            go_roundg k4
            case measure => have := HK1.out; have := HK2.out; have := HJ27.out; have := HK4.out; omega
            case rel => exact ⟨(y352), (wrap64 (x6_1 - 1)), (t343), (t344), z9_20, H', ⟨z9_24⟩, ⟨by (with_reducible repeat (first | apply Kd.qr0 | apply Kd.qp0 | apply Kd.qu0)); exact Kd.qm0 HO354.out (fun _ hk => trivial)⟩, ⟨z9_1⟩, ⟨z9_0⟩, ⟨z9_2⟩⟩
           rw [if_neg c35] at H
           have c35b0 : decide (0 < x11_4) = false := decide_eq_false c35
           clear c35
           replace H := Option.bind_eq_some_iff.mp H
           obtain ⟨t355, A490, H⟩ := H
           replace H : (if t355 < 8 then (if 0 ≤ x10_4 then (if x10_4 < (x5_1.length : Int) then (if x5_1.length < 4398046511104 then (spec_l4DrawChart.l0 k4 (x5_1 ++ [(⟨x337000_2, x10_4, (rd_T209 x5_1 x10_4).f2⟩ : S209)]) (wrap64 (x6_1 - 1)) s0_0 t343 t344) else (none)) else (none)) else (none)) else (if x5_1.length < 4398046511104 then (spec_l4DrawChart.l0 k4 (x5_1 ++ [(⟨x337000_2, (-1), (wrap64 (1 + t333))⟩ : S209)]) (wrap64 (x6_1 - 1)) s0_0 t343 t344) else (none))) = some (r1, r2, r3) := H
           have A49 := Aside0.mk A490
           clear A490
           by_cases c50 : t355 < 8
           ·rw [if_pos c50] at H
            have c50b0 : decide (t355 < 8) = true := decide_eq_true c50
            clear c50
            by_cases c51 : 0 ≤ x10_4
            case neg => rw [if_neg c51] at H; exact absurd H (by simp)
            rw [if_pos c51] at H
            have c51b0 : decide (0 ≤ x10_4) = true := decide_eq_true c51
            clear c51
            by_cases c52 : x10_4 < (x5_1.length : Int)
            case neg => rw [if_neg c52] at H; exact absurd H (by simp)
            rw [if_pos c52] at H
            have c52b0 : decide (x10_4 < (x5_1.length : Int)) = true := decide_eq_true c52
            clear c52
            by_cases c53 : x5_1.length < 4398046511104
            case neg => rw [if_neg c53] at H; exact absurd H (by simp)
            rw [if_pos c53] at H
            have LMc53 := Aside0.mk c53
            clear c53
            obtain ⟨y357, hy357⟩ : ∃ y_ : List (S209), y_ = (x5_1 ++ [(⟨x337000_2, x10_4, (rd_T209 x5_1 x10_4).f2⟩ : S209)]) := ⟨_, rfl⟩
            replace H : (spec_l4DrawChart.l0 k4 y357 (wrap64 (x6_1 - 1)) s0_0 t343 t344) = some (r1, r2, r3) := by first | (rw [hy357]; with_reducible exact H) | (have H2_ := (Option.bind_some _ _).symm.trans H; rw [hy357]; with_reducible exact H2_) | (have H2_ := (Option.bind_some _ _).symm.trans H; with_reducible exact H2_) | with_reducible exact H | (rw [hy357]; exact H) | exact H
            have Ny357 := Aside0.mk hy357
            clear hy357
            have H' := Aside0.mk H
            clear H
            go_wp2_with (first | (go_at_call 164; (with_reducible refine (spec_l4Deep.calls k4 _ _ x5_1 x10_4 t355 _ ?side1 ?side2 A49.out).mono ?_); (case side1 => exact z9_10); (case side2 => exact (Kd.qn0 HO_5.out).2.1); rintro e w' ⟨rfl, ⟨nd, rfl⟩⟩; (try first | exact ⟨rfl, _, World.drewN_drewN _ _ _⟩ | exact ⟨rfl, _, Eq.trans (World.drewN_drewN _ _ _) (congrArg (World.drewN _) (Nat.add_assoc _ _ _))⟩); have hnb54 := NB336_0.out; have hnc54 := NB0_336.out; have hcz55_0 : wr.cell? ⟨gb336, 0, none⟩ = some (.string x337000_2) := (qb0 BK336.out 0).trans rfl; have hcz55_1 : wr.cell? ⟨gb336, 1, none⟩ = some (.int .i64 (-1)) := (qb0 BK336.out 1).trans rfl; have hcz55_2 : wr.cell? ⟨gb336, 2, none⟩ = some (.int .i64 (wrap64 (1 + t333))) := (qb0 BK336.out 2).trans rfl; have hfz55_0 := qa0 BK336.out 0; have hfz55_1 := qa0 BK336.out 1; have hfz55_2 := qa0 BK336.out 2; have p356 : 0 ≤ (x10_4 : Int) := of_decide_eq_true z9_13; have q356 : x10_4 < (x5_1.length : Int) := of_decide_eq_true z9_13; obtain ⟨ad356, e356, hx356_0, hx356_1, hx356_2⟩ := at_T209 (Kd.qn0 HO_5.out).2.2 x10_4 p356 q356; cases e356; have hn356_0 : ad356.block ≠ gb336 := Kd.own_blk (Kd.qh2 HO_5.out (fun _ hk => hk)); replace hx356_0 := (cell_far (p := ⟨gb336, 1, none⟩) z9_15 (.int .i64 x10_4)).trans hx356_0; replace hx356_1 := (cell_far (p := ⟨gb336, 1, none⟩) z9_15 (.int .i64 x10_4)).trans hx356_1; replace hx356_2 := (cell_far (p := ⟨gb336, 1, none⟩) z9_15 (.int .i64 x10_4)).trans hx356_2; (try have hy356_0 := fun (n_ : Nat) => (show (((wr.drewN n_).setCell ⟨gb336, 1, none⟩ (.int .i64 x10_4))).cell? _ = some _ from hx356_0)); (try have hy356_1 := fun (n_ : Nat) => (show (((wr.drewN n_).setCell ⟨gb336, 1, none⟩ (.int .i64 x10_4))).cell? _ = some _ from hx356_1)); (try have hy356_2 := fun (n_ : Nat) => (show (((wr.drewN n_).setCell ⟨gb336, 1, none⟩ (.int .i64 x10_4))).cell? _ = some _ from hx356_2)); clear hn356_0; replace p356 := eq_true p356; replace q356 := eq_true q356) | ((with_reducible refine qw0 (b := .append) (xs := #[.tmp 86, .tmp 88]) rfl ?_); at_builtin; refine Kd.qo1 k209 w.heap.size rfl (.tmp 86) (.tmp 88) 172 209 (.agg #[(.string ⟨#[]⟩), (.int .i64 0), (.int .i64 0)]) 32 rfl Try.underlying172 info209 rfl (by decide) (by omega) (.slice (some ad356) x5_1.length co10) x5_1 (⟨x337000_2, x10_4, (rd_T209 x5_1 x10_4).f2⟩ : S209) [.string x337000_2, .int .i64 x10_4, .int .i64 ((rd_T209 x5_1 x10_4).f2)] (fun k_ => k_ ≠ gb336) (fun _ => False) rfl ?aX ?aP (fun _ hk => hk.elim) ?aF ?aO (Below.refl _ _) ?aS ?aL ?_; (case aX => exact z9_21); (case aP => exact k209_mkM _ _ _ (⟨x337000_2, x10_4, (rd_T209 x5_1 x10_4).f2⟩ : S209)); (case aF => exact (fun k_ hk => Kd.freshB (g := gb336) (o := .cells #[.string x337000_2, .int .i64 x10_4, .int .i64 ((rd_T209 x5_1 x10_4).f2)] 209 (0, 0)) z9_3 k_ hk)); (case aO => exact z9_9); (case aS => exact (qx0 (w := w) (g := g) (row := none) z9_0)); (case aL => have := LMc53.out; omega); intro v358 w56 ho hb hg hat; rw [← Ny357.out] at ho; have n0_ := Aside0.mk (qq0 (g := gb336) (o := .cells #[.string x337000_2, .int .i64 x10_4, .int .i64 ((rd_T209 x5_1 x10_4).f2)] 209 (0, 0)) z9_3 hg (Kd.qh2 HO_5.out (fun _ hk => hk))); have n1_ := Aside0.mk (IsS186.grown (show IsS186 w0 _ g s0_0 t343 t344 from z9_1) hg (IsS186.own_ne HI0.out HO_5.out (by decide))); have n2_ := Aside0.mk (qb1 z9_2 HL.out hb); have n3_ := Aside0.mk (qc0.trans z9_0 (qc0.qm1 hg g) (Kd.qs1 HO_5.out)); have n4_ := Aside0.mk (ho); clear BK336; clear HI0; clear HB; clear HK; clear HO_5; have BK336 := n0_; have HI0 := n1_; have HB := n2_; have HK := n3_; have HO359 := n4_; clear n0_ n1_ n2_ n3_ n4_; clear ho hb hg hat))
            repeat (go_quiet (first | (go_at_call 164; (with_reducible refine (spec_l4Deep.calls k4 _ _ x5_1 x10_4 t355 _ ?side1 ?side2 A49.out).mono ?_); (case side1 => exact z9_10); (case side2 => exact (Kd.qn0 HO_5.out).2.1); rintro e w' ⟨rfl, ⟨nd, rfl⟩⟩; (try first | exact ⟨rfl, _, World.drewN_drewN _ _ _⟩ | exact ⟨rfl, _, Eq.trans (World.drewN_drewN _ _ _) (congrArg (World.drewN _) (Nat.add_assoc _ _ _))⟩); have hnb54 := NB336_0.out; have hnc54 := NB0_336.out; have hcz55_0 : wr.cell? ⟨gb336, 0, none⟩ = some (.string x337000_2) := (qb0 BK336.out 0).trans rfl; have hcz55_1 : wr.cell? ⟨gb336, 1, none⟩ = some (.int .i64 (-1)) := (qb0 BK336.out 1).trans rfl; have hcz55_2 : wr.cell? ⟨gb336, 2, none⟩ = some (.int .i64 (wrap64 (1 + t333))) := (qb0 BK336.out 2).trans rfl; have hfz55_0 := qa0 BK336.out 0; have hfz55_1 := qa0 BK336.out 1; have hfz55_2 := qa0 BK336.out 2; have p356 : 0 ≤ (x10_4 : Int) := of_decide_eq_true z9_13; have q356 : x10_4 < (x5_1.length : Int) := of_decide_eq_true z9_13; obtain ⟨ad356, e356, hx356_0, hx356_1, hx356_2⟩ := at_T209 (Kd.qn0 HO_5.out).2.2 x10_4 p356 q356; cases e356; have hn356_0 : ad356.block ≠ gb336 := Kd.own_blk (Kd.qh2 HO_5.out (fun _ hk => hk)); replace hx356_0 := (cell_far (p := ⟨gb336, 1, none⟩) z9_15 (.int .i64 x10_4)).trans hx356_0; replace hx356_1 := (cell_far (p := ⟨gb336, 1, none⟩) z9_15 (.int .i64 x10_4)).trans hx356_1; replace hx356_2 := (cell_far (p := ⟨gb336, 1, none⟩) z9_15 (.int .i64 x10_4)).trans hx356_2; (try have hy356_0 := fun (n_ : Nat) => (show (((wr.drewN n_).setCell ⟨gb336, 1, none⟩ (.int .i64 x10_4))).cell? _ = some _ from hx356_0)); (try have hy356_1 := fun (n_ : Nat) => (show (((wr.drewN n_).setCell ⟨gb336, 1, none⟩ (.int .i64 x10_4))).cell? _ = some _ from hx356_1)); (try have hy356_2 := fun (n_ : Nat) => (show (((wr.drewN n_).setCell ⟨gb336, 1, none⟩ (.int .i64 x10_4))).cell? _ = some _ from hx356_2)); clear hn356_0; replace p356 := eq_true p356; replace q356 := eq_true q356) | ((with_reducible refine qw0 (b := .append) (xs := #[.tmp 86, .tmp 88]) rfl ?_); at_builtin; refine Kd.qo1 k209 w.heap.size rfl (.tmp 86) (.tmp 88) 172 209 (.agg #[(.string ⟨#[]⟩), (.int .i64 0), (.int .i64 0)]) 32 rfl Try.underlying172 info209 rfl (by decide) (by omega) (.slice (some ad356) x5_1.length co10) x5_1 (⟨x337000_2, x10_4, (rd_T209 x5_1 x10_4).f2⟩ : S209) [.string x337000_2, .int .i64 x10_4, .int .i64 ((rd_T209 x5_1 x10_4).f2)] (fun k_ => k_ ≠ gb336) (fun _ => False) rfl ?aX ?aP (fun _ hk => hk.elim) ?aF ?aO (Below.refl _ _) ?aS ?aL ?_; (case aX => exact z9_21); (case aP => exact k209_mkM _ _ _ (⟨x337000_2, x10_4, (rd_T209 x5_1 x10_4).f2⟩ : S209)); (case aF => exact (fun k_ hk => Kd.freshB (g := gb336) (o := .cells #[.string x337000_2, .int .i64 x10_4, .int .i64 ((rd_T209 x5_1 x10_4).f2)] 209 (0, 0)) z9_3 k_ hk)); (case aO => exact z9_9); (case aS => exact (qx0 (w := w) (g := g) (row := none) z9_0)); (case aL => have := LMc53.out; omega); intro v358 w56 ho hb hg hat; rw [← Ny357.out] at ho; have n0_ := Aside0.mk (qq0 (g := gb336) (o := .cells #[.string x337000_2, .int .i64 x10_4, .int .i64 ((rd_T209 x5_1 x10_4).f2)] 209 (0, 0)) z9_3 hg (Kd.qh2 HO_5.out (fun _ hk => hk))); have n1_ := Aside0.mk (IsS186.grown (show IsS186 w0 _ g s0_0 t343 t344 from z9_1) hg (IsS186.own_ne HI0.out HO_5.out (by decide))); have n2_ := Aside0.mk (qb1 z9_2 HL.out hb); have n3_ := Aside0.mk (qc0.trans z9_0 (qc0.qm1 hg g) (Kd.qs1 HO_5.out)); have n4_ := Aside0.mk (ho); clear BK336; clear HI0; clear HB; clear HK; clear HO_5; have BK336 := n0_; have HI0 := n1_; have HB := n2_; have HK := n3_; have HO359 := n4_; clear n0_ n1_ n2_ n3_ n4_; clear ho hb hg hat)); try go_wp2_with (first | (go_at_call 164; (with_reducible refine (spec_l4Deep.calls k4 _ _ x5_1 x10_4 t355 _ ?side1 ?side2 A49.out).mono ?_); (case side1 => exact z9_10); (case side2 => exact (Kd.qn0 HO_5.out).2.1); rintro e w' ⟨rfl, ⟨nd, rfl⟩⟩; (try first | exact ⟨rfl, _, World.drewN_drewN _ _ _⟩ | exact ⟨rfl, _, Eq.trans (World.drewN_drewN _ _ _) (congrArg (World.drewN _) (Nat.add_assoc _ _ _))⟩); have hnb54 := NB336_0.out; have hnc54 := NB0_336.out; have hcz55_0 : wr.cell? ⟨gb336, 0, none⟩ = some (.string x337000_2) := (qb0 BK336.out 0).trans rfl; have hcz55_1 : wr.cell? ⟨gb336, 1, none⟩ = some (.int .i64 (-1)) := (qb0 BK336.out 1).trans rfl; have hcz55_2 : wr.cell? ⟨gb336, 2, none⟩ = some (.int .i64 (wrap64 (1 + t333))) := (qb0 BK336.out 2).trans rfl; have hfz55_0 := qa0 BK336.out 0; have hfz55_1 := qa0 BK336.out 1; have hfz55_2 := qa0 BK336.out 2; have p356 : 0 ≤ (x10_4 : Int) := of_decide_eq_true z9_13; have q356 : x10_4 < (x5_1.length : Int) := of_decide_eq_true z9_13; obtain ⟨ad356, e356, hx356_0, hx356_1, hx356_2⟩ := at_T209 (Kd.qn0 HO_5.out).2.2 x10_4 p356 q356; cases e356; have hn356_0 : ad356.block ≠ gb336 := Kd.own_blk (Kd.qh2 HO_5.out (fun _ hk => hk)); replace hx356_0 := (cell_far (p := ⟨gb336, 1, none⟩) z9_15 (.int .i64 x10_4)).trans hx356_0; replace hx356_1 := (cell_far (p := ⟨gb336, 1, none⟩) z9_15 (.int .i64 x10_4)).trans hx356_1; replace hx356_2 := (cell_far (p := ⟨gb336, 1, none⟩) z9_15 (.int .i64 x10_4)).trans hx356_2; (try have hy356_0 := fun (n_ : Nat) => (show (((wr.drewN n_).setCell ⟨gb336, 1, none⟩ (.int .i64 x10_4))).cell? _ = some _ from hx356_0)); (try have hy356_1 := fun (n_ : Nat) => (show (((wr.drewN n_).setCell ⟨gb336, 1, none⟩ (.int .i64 x10_4))).cell? _ = some _ from hx356_1)); (try have hy356_2 := fun (n_ : Nat) => (show (((wr.drewN n_).setCell ⟨gb336, 1, none⟩ (.int .i64 x10_4))).cell? _ = some _ from hx356_2)); clear hn356_0; replace p356 := eq_true p356; replace q356 := eq_true q356) | ((with_reducible refine qw0 (b := .append) (xs := #[.tmp 86, .tmp 88]) rfl ?_); at_builtin; refine Kd.qo1 k209 w.heap.size rfl (.tmp 86) (.tmp 88) 172 209 (.agg #[(.string ⟨#[]⟩), (.int .i64 0), (.int .i64 0)]) 32 rfl Try.underlying172 info209 rfl (by decide) (by omega) (.slice (some ad356) x5_1.length co10) x5_1 (⟨x337000_2, x10_4, (rd_T209 x5_1 x10_4).f2⟩ : S209) [.string x337000_2, .int .i64 x10_4, .int .i64 ((rd_T209 x5_1 x10_4).f2)] (fun k_ => k_ ≠ gb336) (fun _ => False) rfl ?aX ?aP (fun _ hk => hk.elim) ?aF ?aO (Below.refl _ _) ?aS ?aL ?_; (case aX => exact z9_21); (case aP => exact k209_mkM _ _ _ (⟨x337000_2, x10_4, (rd_T209 x5_1 x10_4).f2⟩ : S209)); (case aF => exact (fun k_ hk => Kd.freshB (g := gb336) (o := .cells #[.string x337000_2, .int .i64 x10_4, .int .i64 ((rd_T209 x5_1 x10_4).f2)] 209 (0, 0)) z9_3 k_ hk)); (case aO => exact z9_9); (case aS => exact (qx0 (w := w) (g := g) (row := none) z9_0)); (case aL => have := LMc53.out; omega); intro v358 w56 ho hb hg hat; rw [← Ny357.out] at ho; have n0_ := Aside0.mk (qq0 (g := gb336) (o := .cells #[.string x337000_2, .int .i64 x10_4, .int .i64 ((rd_T209 x5_1 x10_4).f2)] 209 (0, 0)) z9_3 hg (Kd.qh2 HO_5.out (fun _ hk => hk))); have n1_ := Aside0.mk (IsS186.grown (show IsS186 w0 _ g s0_0 t343 t344 from z9_1) hg (IsS186.own_ne HI0.out HO_5.out (by decide))); have n2_ := Aside0.mk (qb1 z9_2 HL.out hb); have n3_ := Aside0.mk (qc0.trans z9_0 (qc0.qm1 hg g) (Kd.qs1 HO_5.out)); have n4_ := Aside0.mk (ho); clear BK336; clear HI0; clear HB; clear HK; clear HO_5; have BK336 := n0_; have HI0 := n1_; have HB := n2_; have HK := n3_; have HO359 := n4_; clear n0_ n1_ n2_ n3_ n4_; clear ho hb hg hat)))
            go_roundg k4
            case measure => have := HK1.out; have := HK2.out; have := HJ27.out; have := HK4.out; omega
            case rel => exact ⟨(y357), (wrap64 (x6_1 - 1)), (t343), (t344), z9_20, H', ⟨z9_24⟩, ⟨by (with_reducible repeat (first | apply Kd.qr0 | apply Kd.qp0 | apply Kd.qu0)); exact Kd.qm0 HO359.out (fun _ hk => trivial)⟩, ⟨z9_1⟩, ⟨z9_0⟩, ⟨z9_2⟩⟩
           rw [if_neg c50] at H
           have c50b0 : decide (t355 < 8) = false := decide_eq_false c50
           clear c50
           by_cases c57 : x5_1.length < 4398046511104
           case neg => rw [if_neg c57] at H; exact absurd H (by simp)
           rw [if_pos c57] at H
           have LMc57 := Aside0.mk c57
           clear c57
           obtain ⟨y360, hy360⟩ : ∃ y_ : List (S209), y_ = (x5_1 ++ [(⟨x337000_2, (-1), (wrap64 (1 + t333))⟩ : S209)]) := ⟨_, rfl⟩
           replace H : (spec_l4DrawChart.l0 k4 y360 (wrap64 (x6_1 - 1)) s0_0 t343 t344) = some (r1, r2, r3) := by first | (rw [hy360]; with_reducible exact H) | (have H2_ := (Option.bind_some _ _).symm.trans H; rw [hy360]; with_reducible exact H2_) | (have H2_ := (Option.bind_some _ _).symm.trans H; with_reducible exact H2_) | with_reducible exact H | (rw [hy360]; exact H) | exact H
           have Ny360 := Aside0.mk hy360
           clear hy360
           have H' := Aside0.mk H
           clear H
           go_wp2_with (first | (go_at_call 164; (with_reducible refine (spec_l4Deep.calls k4 _ _ x5_1 x10_4 t355 _ ?side1 ?side2 A49.out).mono ?_); (case side1 => exact z9_10); (case side2 => exact (Kd.qn0 HO_5.out).2.1); rintro e w' ⟨rfl, ⟨nd, rfl⟩⟩; (try first | exact ⟨rfl, _, World.drewN_drewN _ _ _⟩ | exact ⟨rfl, _, Eq.trans (World.drewN_drewN _ _ _) (congrArg (World.drewN _) (Nat.add_assoc _ _ _))⟩); have hnb58 := NB336_0.out; have hnc58 := NB0_336.out; have hcz59_0 : wr.cell? ⟨gb336, 0, none⟩ = some (.string x337000_2) := (qb0 BK336.out 0).trans rfl; have hcz59_1 : wr.cell? ⟨gb336, 1, none⟩ = some (.int .i64 (-1)) := (qb0 BK336.out 1).trans rfl; have hcz59_2 : wr.cell? ⟨gb336, 2, none⟩ = some (.int .i64 (wrap64 (1 + t333))) := (qb0 BK336.out 2).trans rfl; have hfz59_0 := qa0 BK336.out 0; have hfz59_1 := qa0 BK336.out 1; have hfz59_2 := qa0 BK336.out 2) | ((with_reducible refine qw0 (b := .append) (xs := #[.tmp 86, .tmp 88]) rfl ?_); at_builtin; refine Kd.qo1 k209 w.heap.size rfl (.tmp 86) (.tmp 88) 172 209 (.agg #[(.string ⟨#[]⟩), (.int .i64 0), (.int .i64 0)]) 32 rfl Try.underlying172 info209 rfl (by decide) (by omega) (.slice Ao10 x5_1.length co10) x5_1 (⟨x337000_2, (-1), (wrap64 (1 + t333))⟩ : S209) [.string x337000_2, .int .i64 (-1), .int .i64 (wrap64 (1 + t333))] (fun k_ => k_ ≠ gb336) (fun _ => False) rfl rfl ?aP (fun _ hk => hk.elim) ?aF ?aO (Below.refl _ _) ?aS ?aL ?_; (case aP => exact k209_mkM _ _ _ (⟨x337000_2, (-1), (wrap64 (1 + t333))⟩ : S209)); (case aF => exact (fun k_ hk => Kd.freshB (g := gb336) (o := .cells #[.string x337000_2, .int .i64 (-1), .int .i64 (wrap64 (1 + t333))] 209 (0, 0)) z9_6 k_ hk)); (case aO => exact z9_7); (case aS => exact (qx0 (w := w) (g := g) (row := none) z9_0)); (case aL => have := LMc57.out; omega); intro v361 w60 ho hb hg hat; rw [← Ny360.out] at ho; have n0_ := Aside0.mk (qq0 (g := gb336) (o := .cells #[.string x337000_2, .int .i64 (-1), .int .i64 (wrap64 (1 + t333))] 209 (0, 0)) z9_6 hg (Kd.qh2 HO_5.out (fun _ hk => hk))); have n1_ := Aside0.mk (IsS186.grown (show IsS186 w0 _ g s0_0 t343 t344 from z9_1) hg (IsS186.own_ne HI0.out HO_5.out (by decide))); have n2_ := Aside0.mk (qb1 z9_2 HL.out hb); have n3_ := Aside0.mk (qc0.trans z9_0 (qc0.qm1 hg g) (Kd.qs1 HO_5.out)); have n4_ := Aside0.mk (ho); clear BK336; clear HI0; clear HB; clear HK; clear HO_5; have BK336 := n0_; have HI0 := n1_; have HB := n2_; have HK := n3_; have HO362 := n4_; clear n0_ n1_ n2_ n3_ n4_; clear ho hb hg hat))
           repeat (go_quiet (first | (go_at_call 164; (with_reducible refine (spec_l4Deep.calls k4 _ _ x5_1 x10_4 t355 _ ?side1 ?side2 A49.out).mono ?_); (case side1 => exact z9_10); (case side2 => exact (Kd.qn0 HO_5.out).2.1); rintro e w' ⟨rfl, ⟨nd, rfl⟩⟩; (try first | exact ⟨rfl, _, World.drewN_drewN _ _ _⟩ | exact ⟨rfl, _, Eq.trans (World.drewN_drewN _ _ _) (congrArg (World.drewN _) (Nat.add_assoc _ _ _))⟩); have hnb58 := NB336_0.out; have hnc58 := NB0_336.out; have hcz59_0 : wr.cell? ⟨gb336, 0, none⟩ = some (.string x337000_2) := (qb0 BK336.out 0).trans rfl; have hcz59_1 : wr.cell? ⟨gb336, 1, none⟩ = some (.int .i64 (-1)) := (qb0 BK336.out 1).trans rfl; have hcz59_2 : wr.cell? ⟨gb336, 2, none⟩ = some (.int .i64 (wrap64 (1 + t333))) := (qb0 BK336.out 2).trans rfl; have hfz59_0 := qa0 BK336.out 0; have hfz59_1 := qa0 BK336.out 1; have hfz59_2 := qa0 BK336.out 2) | ((with_reducible refine qw0 (b := .append) (xs := #[.tmp 86, .tmp 88]) rfl ?_); at_builtin; refine Kd.qo1 k209 w.heap.size rfl (.tmp 86) (.tmp 88) 172 209 (.agg #[(.string ⟨#[]⟩), (.int .i64 0), (.int .i64 0)]) 32 rfl Try.underlying172 info209 rfl (by decide) (by omega) (.slice Ao10 x5_1.length co10) x5_1 (⟨x337000_2, (-1), (wrap64 (1 + t333))⟩ : S209) [.string x337000_2, .int .i64 (-1), .int .i64 (wrap64 (1 + t333))] (fun k_ => k_ ≠ gb336) (fun _ => False) rfl rfl ?aP (fun _ hk => hk.elim) ?aF ?aO (Below.refl _ _) ?aS ?aL ?_; (case aP => exact k209_mkM _ _ _ (⟨x337000_2, (-1), (wrap64 (1 + t333))⟩ : S209)); (case aF => exact (fun k_ hk => Kd.freshB (g := gb336) (o := .cells #[.string x337000_2, .int .i64 (-1), .int .i64 (wrap64 (1 + t333))] 209 (0, 0)) z9_6 k_ hk)); (case aO => exact z9_7); (case aS => exact (qx0 (w := w) (g := g) (row := none) z9_0)); (case aL => have := LMc57.out; omega); intro v361 w60 ho hb hg hat; rw [← Ny360.out] at ho; have n0_ := Aside0.mk (qq0 (g := gb336) (o := .cells #[.string x337000_2, .int .i64 (-1), .int .i64 (wrap64 (1 + t333))] 209 (0, 0)) z9_6 hg (Kd.qh2 HO_5.out (fun _ hk => hk))); have n1_ := Aside0.mk (IsS186.grown (show IsS186 w0 _ g s0_0 t343 t344 from z9_1) hg (IsS186.own_ne HI0.out HO_5.out (by decide))); have n2_ := Aside0.mk (qb1 z9_2 HL.out hb); have n3_ := Aside0.mk (qc0.trans z9_0 (qc0.qm1 hg g) (Kd.qs1 HO_5.out)); have n4_ := Aside0.mk (ho); clear BK336; clear HI0; clear HB; clear HK; clear HO_5; have BK336 := n0_; have HI0 := n1_; have HB := n2_; have HK := n3_; have HO362 := n4_; clear n0_ n1_ n2_ n3_ n4_; clear ho hb hg hat)); try go_wp2_with (first | (go_at_call 164; (with_reducible refine (spec_l4Deep.calls k4 _ _ x5_1 x10_4 t355 _ ?side1 ?side2 A49.out).mono ?_); (case side1 => exact z9_10); (case side2 => exact (Kd.qn0 HO_5.out).2.1); rintro e w' ⟨rfl, ⟨nd, rfl⟩⟩; (try first | exact ⟨rfl, _, World.drewN_drewN _ _ _⟩ | exact ⟨rfl, _, Eq.trans (World.drewN_drewN _ _ _) (congrArg (World.drewN _) (Nat.add_assoc _ _ _))⟩); have hnb58 := NB336_0.out; have hnc58 := NB0_336.out; have hcz59_0 : wr.cell? ⟨gb336, 0, none⟩ = some (.string x337000_2) := (qb0 BK336.out 0).trans rfl; have hcz59_1 : wr.cell? ⟨gb336, 1, none⟩ = some (.int .i64 (-1)) := (qb0 BK336.out 1).trans rfl; have hcz59_2 : wr.cell? ⟨gb336, 2, none⟩ = some (.int .i64 (wrap64 (1 + t333))) := (qb0 BK336.out 2).trans rfl; have hfz59_0 := qa0 BK336.out 0; have hfz59_1 := qa0 BK336.out 1; have hfz59_2 := qa0 BK336.out 2) | ((with_reducible refine qw0 (b := .append) (xs := #[.tmp 86, .tmp 88]) rfl ?_); at_builtin; refine Kd.qo1 k209 w.heap.size rfl (.tmp 86) (.tmp 88) 172 209 (.agg #[(.string ⟨#[]⟩), (.int .i64 0), (.int .i64 0)]) 32 rfl Try.underlying172 info209 rfl (by decide) (by omega) (.slice Ao10 x5_1.length co10) x5_1 (⟨x337000_2, (-1), (wrap64 (1 + t333))⟩ : S209) [.string x337000_2, .int .i64 (-1), .int .i64 (wrap64 (1 + t333))] (fun k_ => k_ ≠ gb336) (fun _ => False) rfl rfl ?aP (fun _ hk => hk.elim) ?aF ?aO (Below.refl _ _) ?aS ?aL ?_; (case aP => exact k209_mkM _ _ _ (⟨x337000_2, (-1), (wrap64 (1 + t333))⟩ : S209)); (case aF => exact (fun k_ hk => Kd.freshB (g := gb336) (o := .cells #[.string x337000_2, .int .i64 (-1), .int .i64 (wrap64 (1 + t333))] 209 (0, 0)) z9_6 k_ hk)); (case aO => exact z9_7); (case aS => exact (qx0 (w := w) (g := g) (row := none) z9_0)); (case aL => have := LMc57.out; omega); intro v361 w60 ho hb hg hat; rw [← Ny360.out] at ho; have n0_ := Aside0.mk (qq0 (g := gb336) (o := .cells #[.string x337000_2, .int .i64 (-1), .int .i64 (wrap64 (1 + t333))] 209 (0, 0)) z9_6 hg (Kd.qh2 HO_5.out (fun _ hk => hk))); have n1_ := Aside0.mk (IsS186.grown (show IsS186 w0 _ g s0_0 t343 t344 from z9_1) hg (IsS186.own_ne HI0.out HO_5.out (by decide))); have n2_ := Aside0.mk (qb1 z9_2 HL.out hb); have n3_ := Aside0.mk (qc0.trans z9_0 (qc0.qm1 hg g) (Kd.qs1 HO_5.out)); have n4_ := Aside0.mk (ho); clear BK336; clear HI0; clear HB; clear HK; clear HO_5; have BK336 := n0_; have HI0 := n1_; have HB := n2_; have HK := n3_; have HO362 := n4_; clear n0_ n1_ n2_ n3_ n4_; clear ho hb hg hat)))
           go_roundg k4
           case measure => have := HK1.out; have := HK2.out; have := HJ27.out; have := HK4.out; omega
           case rel => exact ⟨(y360), (wrap64 (x6_1 - 1)), (t343), (t344), z9_20, H', ⟨z9_24⟩, ⟨by (with_reducible repeat (first | apply Kd.qr0 | apply Kd.qp0 | apply Kd.qu0)); exact Kd.qm0 HO362.out (fun _ hk => trivial)⟩, ⟨z9_1⟩, ⟨z9_0⟩, ⟨z9_2⟩⟩
        replace c32 := Bool.eq_false_iff.mpr c32
        subst c32
        have H1 : (if x5_1.length < 4398046511104 then (spec_l4DrawChart.l0 kj27 (x5_1 ++ [(⟨x337000_2, (-1), (wrap64 (1 + t333))⟩ : S209)]) (wrap64 (x6_1 - 1)) s0_0 x1001_27 x1002_27) else (none)) = some (r1, r2, r3) := by rw [if_neg (show ¬ (false = true) by decide)] at H; exact H
        clear H
        have H := H1
        clear H1
        by_cases c61 : x5_1.length < 4398046511104
        case neg => rw [if_neg c61] at H; exact absurd H (by simp)
        rw [if_pos c61] at H
        have LMc61 := Aside0.mk c61
        clear c61
        obtain ⟨y363, hy363⟩ : ∃ y_ : List (S209), y_ = (x5_1 ++ [(⟨x337000_2, (-1), (wrap64 (1 + t333))⟩ : S209)]) := ⟨_, rfl⟩
        replace H : (spec_l4DrawChart.l0 kj27 y363 (wrap64 (x6_1 - 1)) s0_0 x1001_27 x1002_27) = some (r1, r2, r3) := by first | (rw [hy363]; with_reducible exact H) | (have H2_ := (Option.bind_some _ _).symm.trans H; rw [hy363]; with_reducible exact H2_) | (have H2_ := (Option.bind_some _ _).symm.trans H; with_reducible exact H2_) | with_reducible exact H | (rw [hy363]; exact H) | exact H
        have Ny363 := Aside0.mk hy363
        clear hy363
        have H' := Aside0.mk H
        clear H
        have hnb62 := NB336_0.out
        have hnc62 := NB0_336.out
        have hcz63_0 : wc.cell? ⟨gb336, 0, none⟩ = some (.string x337000_2) := (qb0 BK336.out 0).trans rfl
        have hcz63_1 : wc.cell? ⟨gb336, 1, none⟩ = some (.int .i64 (-1)) := (qb0 BK336.out 1).trans rfl
        have hcz63_2 : wc.cell? ⟨gb336, 2, none⟩ = some (.int .i64 (wrap64 (1 + t333))) := (qb0 BK336.out 2).trans rfl
        have hfz63_0 := qa0 BK336.out 0
        have hfz63_1 := qa0 BK336.out 1
        have hfz63_2 := qa0 BK336.out 2
        go_wp2_with (first | ((with_reducible refine qw0 (b := .append) (xs := #[.tmp 86, .tmp 88]) rfl ?_); at_builtin; refine Kd.qo1 k209 w.heap.size rfl (.tmp 86) (.tmp 88) 172 209 (.agg #[(.string ⟨#[]⟩), (.int .i64 0), (.int .i64 0)]) 32 rfl Try.underlying172 info209 rfl (by decide) (by omega) (.slice Ao10 x5_1.length co10) x5_1 (⟨x337000_2, (-1), (wrap64 (1 + t333))⟩ : S209) [.string x337000_2, .int .i64 (-1), .int .i64 (wrap64 (1 + t333))] (fun k_ => k_ ≠ gb336) (fun _ => False) rfl rfl ?aP (fun _ hk => hk.elim) ?aF ?aO (Below.refl _ _) ?aS ?aL ?_; (case aP => exact k209_mkM _ _ _ (⟨x337000_2, (-1), (wrap64 (1 + t333))⟩ : S209)); (case aF => exact (fun k_ hk => Kd.freshB (g := gb336) (o := .cells #[.string x337000_2, .int .i64 (-1), .int .i64 (wrap64 (1 + t333))] 209 (0, 0)) z9_6 k_ hk)); (case aO => exact z9_7); (case aS => exact (qx0 (w := w) (g := g) (row := none) z9_0)); (case aL => have := LMc61.out; omega); intro v364 w64 ho hb hg hat; rw [← Ny363.out] at ho; have n0_ := Aside0.mk (qq0 (g := gb336) (o := .cells #[.string x337000_2, .int .i64 (-1), .int .i64 (wrap64 (1 + t333))] 209 (0, 0)) z9_6 hg (Kd.qh2 HO_5.out (fun _ hk => hk))); have n1_ := Aside0.mk (IsS186.grown (show IsS186 w0 _ g s0_0 x1001_27 x1002_27 from z9_1) hg (IsS186.own_ne HI0.out HO_5.out (by decide))); have n2_ := Aside0.mk (qb1 z9_2 HL.out hb); have n3_ := Aside0.mk (qc0.trans z9_0 (qc0.qm1 hg g) (Kd.qs1 HO_5.out)); have n4_ := Aside0.mk (ho); clear BK336; clear HI0; clear HB; clear HK; clear HO_5; have BK336 := n0_; have HI0 := n1_; have HB := n2_; have HK := n3_; have HO365 := n4_; clear n0_ n1_ n2_ n3_ n4_; clear ho hb hg hat))
        repeat (go_quiet (first | ((with_reducible refine qw0 (b := .append) (xs := #[.tmp 86, .tmp 88]) rfl ?_); at_builtin; refine Kd.qo1 k209 w.heap.size rfl (.tmp 86) (.tmp 88) 172 209 (.agg #[(.string ⟨#[]⟩), (.int .i64 0), (.int .i64 0)]) 32 rfl Try.underlying172 info209 rfl (by decide) (by omega) (.slice Ao10 x5_1.length co10) x5_1 (⟨x337000_2, (-1), (wrap64 (1 + t333))⟩ : S209) [.string x337000_2, .int .i64 (-1), .int .i64 (wrap64 (1 + t333))] (fun k_ => k_ ≠ gb336) (fun _ => False) rfl rfl ?aP (fun _ hk => hk.elim) ?aF ?aO (Below.refl _ _) ?aS ?aL ?_; (case aP => exact k209_mkM _ _ _ (⟨x337000_2, (-1), (wrap64 (1 + t333))⟩ : S209)); (case aF => exact (fun k_ hk => Kd.freshB (g := gb336) (o := .cells #[.string x337000_2, .int .i64 (-1), .int .i64 (wrap64 (1 + t333))] 209 (0, 0)) z9_6 k_ hk)); (case aO => exact z9_7); (case aS => exact (qx0 (w := w) (g := g) (row := none) z9_0)); (case aL => have := LMc61.out; omega); intro v364 w64 ho hb hg hat; rw [← Ny363.out] at ho; have n0_ := Aside0.mk (qq0 (g := gb336) (o := .cells #[.string x337000_2, .int .i64 (-1), .int .i64 (wrap64 (1 + t333))] 209 (0, 0)) z9_6 hg (Kd.qh2 HO_5.out (fun _ hk => hk))); have n1_ := Aside0.mk (IsS186.grown (show IsS186 w0 _ g s0_0 x1001_27 x1002_27 from z9_1) hg (IsS186.own_ne HI0.out HO_5.out (by decide))); have n2_ := Aside0.mk (qb1 z9_2 HL.out hb); have n3_ := Aside0.mk (qc0.trans z9_0 (qc0.qm1 hg g) (Kd.qs1 HO_5.out)); have n4_ := Aside0.mk (ho); clear BK336; clear HI0; clear HB; clear HK; clear HO_5; have BK336 := n0_; have HI0 := n1_; have HB := n2_; have HK := n3_; have HO365 := n4_; clear n0_ n1_ n2_ n3_ n4_; clear ho hb hg hat)); try go_wp2_with (first | ((with_reducible refine qw0 (b := .append) (xs := #[.tmp 86, .tmp 88]) rfl ?_); at_builtin; refine Kd.qo1 k209 w.heap.size rfl (.tmp 86) (.tmp 88) 172 209 (.agg #[(.string ⟨#[]⟩), (.int .i64 0), (.int .i64 0)]) 32 rfl Try.underlying172 info209 rfl (by decide) (by omega) (.slice Ao10 x5_1.length co10) x5_1 (⟨x337000_2, (-1), (wrap64 (1 + t333))⟩ : S209) [.string x337000_2, .int .i64 (-1), .int .i64 (wrap64 (1 + t333))] (fun k_ => k_ ≠ gb336) (fun _ => False) rfl rfl ?aP (fun _ hk => hk.elim) ?aF ?aO (Below.refl _ _) ?aS ?aL ?_; (case aP => exact k209_mkM _ _ _ (⟨x337000_2, (-1), (wrap64 (1 + t333))⟩ : S209)); (case aF => exact (fun k_ hk => Kd.freshB (g := gb336) (o := .cells #[.string x337000_2, .int .i64 (-1), .int .i64 (wrap64 (1 + t333))] 209 (0, 0)) z9_6 k_ hk)); (case aO => exact z9_7); (case aS => exact (qx0 (w := w) (g := g) (row := none) z9_0)); (case aL => have := LMc61.out; omega); intro v364 w64 ho hb hg hat; rw [← Ny363.out] at ho; have n0_ := Aside0.mk (qq0 (g := gb336) (o := .cells #[.string x337000_2, .int .i64 (-1), .int .i64 (wrap64 (1 + t333))] 209 (0, 0)) z9_6 hg (Kd.qh2 HO_5.out (fun _ hk => hk))); have n1_ := Aside0.mk (IsS186.grown (show IsS186 w0 _ g s0_0 x1001_27 x1002_27 from z9_1) hg (IsS186.own_ne HI0.out HO_5.out (by decide))); have n2_ := Aside0.mk (qb1 z9_2 HL.out hb); have n3_ := Aside0.mk (qc0.trans z9_0 (qc0.qm1 hg g) (Kd.qs1 HO_5.out)); have n4_ := Aside0.mk (ho); clear BK336; clear HI0; clear HB; clear HK; clear HO_5; have BK336 := n0_; have HI0 := n1_; have HB := n2_; have HK := n3_; have HO365 := n4_; clear n0_ n1_ n2_ n3_ n4_; clear ho hb hg hat)))
        go_roundg kj27
        case measure => have := HK1.out; have := HK2.out; have := HJ27.out; omega
        case rel => exact ⟨(y363), (wrap64 (x6_1 - 1)), (x1001_27), (x1002_27), z9_20, H', ⟨by have := HK1.out; have := HK2.out; have := HJ27.out; omega⟩, ⟨by (with_reducible repeat (first | apply Kd.qr0 | apply Kd.qp0 | apply Kd.qu0)); exact Kd.qm0 HO365.out (fun _ hk => trivial)⟩, ⟨z9_1⟩, ⟨z9_0⟩, ⟨z9_2⟩⟩
   rw [if_neg c7] at H
   have c7b0 : decide (0 < x6_1) = false := decide_eq_false c7
   clear c7
   simp only [Option.some.injEq, Prod.mk.injEq] at H
   obtain ⟨rfl, rfl, rfl⟩ := H
   go_wp2
   repeat (go_quiet (fail); try go_wp2)
   go_ret
   exact ⟨_, by first | rfl | (simp [errW_none, errW_some] <;> rfl) | (simp [*, errW_none, errW_some] <;> rfl), z9_7, z9_4, z9_8, z9_5⟩

/-! ### spec_l5DrawFrame: function 123 -/
def spec_l5DrawFrame.f (k : Nat) (s0_0 : List Int) (s0_1 : Int) (s0_2 : Int) : Option ((List (S209)) × Int × Int × Int × Int) := (spec_l4DrawChart.f k s0_0 s0_1 s0_2 7).bind fun bt367 => ((spec_l1Below.f s0_0 bt367.2.1 bt367.2.2 3).bind fun bt372 => ((spec_l1Below.f s0_0 bt372.2.1 bt372.2.2 3).bind fun bt375 => (some (bt367.1, wrap64 (1 + bt372.1), wrap64 (1 + bt375.1), bt375.2.1, bt375.2.2))))
theorem spec_l5DrawFrame.mono : ∀ a0 a1 a2 k, LeO (spec_l5DrawFrame.f k a0 a1 a2) (spec_l5DrawFrame.f (k + 1) a0 a1 a2) := by
 intro a0 a1 a2 k
 unfold spec_l5DrawFrame.f
 repeat' first
   | (with_reducible exact spec_l4DrawChart.mono _ _ _ _ _)
   | (with_reducible exact LeO.refl _)
   | (with_reducible exact LeO.none _)
   | (with_reducible refine LeO.ite ?_ ?_)
   | (with_reducible refine LeO.bind ?_ (fun _ => ?_))
   | exact spec_l4DrawChart.mono _ _ _ _ _
   | exact LeO.none _
   | refine LeO.ite ?_ ?_
   | refine LeO.bind ?_ (fun _ => ?_)
set_option maxHeartbeats 8000000 in
set_option maxRecDepth 100000 in
theorem spec_l5DrawFrame.calls (k : Nat) (g : Nat) (s0_0 : List Int) (s0_1 : Int) (s0_2 : Int) (r1 : List (S209)) (r2 : Int) (r3 : Int) (r4 : Int) (r5 : Int) (w0 w : World) (hI : IsS186 w0 w g s0_0 s0_1 s0_2) (hB : Below w0.heap.size w0 w) (h : spec_l5DrawFrame.f k s0_0 s0_1 s0_2 = some (r1, r2, r3, r4, r5)) :
  Calls Try.prog 123 #[.pointer (some ⟨g, 0, none⟩)] w fun e w' => ∃ v0_ : Value, e = .returned (.agg #[v0_, .int .i64 r2, .int .i64 r3]) ∧ Kd.R k209 209 w' w.heap.size (fun _ => True) v0_ r1 ∧ IsS186 w0 w' g s0_0 r4 r5 ∧ Below w0.heap.size w0 w' ∧ qc0 w w' g none := by
 have hu174 := Try.underlying174
 have HI0 := Aside0.mk hI
 have HK := Aside0.mk (qc0.refl w g none)
 have HL := Aside0.mk hB.size
 clear hI
 have HW0 := Aside0.mk hB.size
 have HB := Aside0.mk hB
 clear hB
 have H : ((spec_l4DrawChart.f k s0_0 s0_1 s0_2 7).bind fun bt367 => ((spec_l1Below.f s0_0 bt367.2.1 bt367.2.2 3).bind fun bt372 => ((spec_l1Below.f s0_0 bt372.2.1 bt372.2.2 3).bind fun bt375 => (some (bt367.1, wrap64 (1 + bt372.1), wrap64 (1 + bt375.1), bt375.2.1, bt375.2.2))))) = some (r1, r2, r3, r4, r5) := h
 clear h
 replace H := Option.bind_eq_some_iff.mp H
 obtain ⟨⟨t367, t370, t371⟩, A20, H⟩ := H
 replace H : ((spec_l1Below.f s0_0 t370 t371 3).bind fun bt372 => ((spec_l1Below.f s0_0 bt372.2.1 bt372.2.2 3).bind fun bt375 => (some (t367, wrap64 (1 + bt372.1), wrap64 (1 + bt375.1), bt375.2.1, bt375.2.2)))) = some (r1, r2, r3, r4, r5) := H
 have A2 := Aside0.mk A20
 clear A20
 replace H := Option.bind_eq_some_iff.mp H
 obtain ⟨⟨t372, t373, t374⟩, A30, H⟩ := H
 replace H : ((spec_l1Below.f s0_0 t373 t374 3).bind fun bt375 => (some (t367, wrap64 (1 + t372), wrap64 (1 + bt375.1), bt375.2.1, bt375.2.2))) = some (r1, r2, r3, r4, r5) := H
 have A3 := Aside0.mk A30
 clear A30
 replace H := Option.bind_eq_some_iff.mp H
 obtain ⟨⟨t375, t376, t377⟩, A40, H⟩ := H
 replace H : (some (t367, wrap64 (1 + t372), wrap64 (1 + t375), t376, t377)) = some (r1, r2, r3, r4, r5) := H
 have A4 := Aside0.mk A40
 clear A40
 simp only [Option.some.injEq, Prod.mk.injEq] at H
 obtain ⟨rfl, rfl, rfl, rfl, rfl⟩ := H
 go_enter Try.func123, Try.ntmps123
 go_wp2_with (first | ((with_reducible refine qa1 (N := 2) rfl ?_); refine qe1 ?hg (N := 2) ?hd (cs := #[.slice none 0 0, .int .i64 0, .int .i64 0]) (t := 174) ?hr ?_; (case hd => rfl); (case hg => rfl); (case hr => exact z9_21); intro gb366 hg w5 hbox hb; have n0_ := Aside0.mk (IsS186.below z9_4 hb); have n1_ := Aside0.mk (qc0.trans z9_5 (qc0.of_below hb g none) (.inl rfl)); have n2_ := Aside0.mk (ql0 z9_8 hb); have n3_ := Aside0.mk (hbox); have n4_ := Aside0.mk ((z9_11 : w.heap.size ≤ gb366)); have n5_ := Aside0.mk ((Nat.le_trans HW0.out (z9_11 : w.heap.size ≤ gb366) : w0.heap.size ≤ gb366)); have n6_ := Aside0.mk ((by rw [hg]; exact Nat.ne_of_lt (IsS186.lt (show IsS186 w0 _ g s0_0 s0_1 s0_2 from z9_4)) : g ≠ gb366)); have n7_ := Aside0.mk ((by rw [hg]; exact Nat.ne_of_gt (IsS186.lt (show IsS186 w0 _ g s0_0 s0_1 s0_2 from z9_4)) : gb366 ≠ g)); clear HI0; clear HK; clear HB; have HI0 := n0_; have HK := n1_; have HB := n2_; have BK366 := n3_; have GW366 := n4_; have GE366 := n5_; have NB0_366 := n6_; have NB366_0 := n7_; clear n0_ n1_ n2_ n3_ n4_ n5_ n6_ n7_; clear hb hbox hg) | ((with_reducible refine qg0 (f := 156) rfl ?_); refine qt0 (some 4) rfl rfl Try.func156 (by kernel_rfl) rfl #[.pointer (some ⟨g, 0, none⟩), .int .i64 7] rfl z9_22 ?_; (with_reducible refine (spec_l4DrawChart.calls k g s0_0 s0_1 s0_2 7 t367 t370 t371 w0 _ ?side1 ?side2 A2.out).mono ?_); (case side1 => exact z9_12); (case side2 => exact z9_17); rintro e w6 ⟨v368, rfl, ho0, hi, hb, hk⟩; refine ⟨_, rfl, ?_⟩; have n0_ := Aside0.mk (qc0.blk hk (g' := gb366) (o := .cells #[.slice none 0 0, .int .i64 0, .int .i64 0] 174 (0, 0)) z9_25 NB366_0.out (by simp)); have n1_ := Aside0.mk (Kd.qu1 ho0 (qx0 (w := w) (g := g) (row := none) z9_16)); have n2_ := Aside0.mk (qc0.trans z9_16 hk (.inl rfl)); have n3_ := Aside0.mk (hb); have n4_ := Aside0.mk (hi); clear BK366; clear HK; clear HB; clear HI0; have BK366 := n0_; have HO369 := n1_; have HK := n2_; have HB := n3_; have HI0 := n4_; clear n0_ n1_ n2_ n3_ n4_; (try clear hb); (try clear hb2); (try clear hk); (try clear hi); (try clear ho0)) | ((with_reducible refine qg0 (f := 61) rfl ?_); refine qt0 (some 6) rfl rfl Try.func61 (by kernel_rfl) rfl #[.pointer (some ⟨g, 0, none⟩), .int .i64 3] rfl z9_22 ?_; (with_reducible refine (spec_l1Below.calls g s0_0 t370 t371 3 t372 t373 t374 w0 _ ?side1 ?side2 A3.out).mono ?_); (case side1 => exact z9_12); (case side2 => exact z9_17); rintro e w7 ⟨rfl, hi, hb, hk⟩; refine ⟨_, rfl, ?_⟩; have n0_ := Aside0.mk (qc0.blk hk (g' := gb366) (o := .cells #[.slice none 0 0, .int .i64 0, .int .i64 0] 174 (0, 0)) z9_25 NB366_0.out (by simp)); have n1_ := Aside0.mk (Kd.qm0 (Kd.qy0 (IsS186.apart (show IsS186 w0 _ g s0_0 t370 t371 from z9_12) (by (with_reducible repeat (first | apply Kd.qr0 | apply Kd.qp0 | apply Kd.qu0)); exact HO369.out) (by decide)) hk (fun _ h => h.2)) (fun _ h => h.1)); have n2_ := Aside0.mk (qc0.trans z9_16 hk (.inl rfl)); have n3_ := Aside0.mk (hb); have n4_ := Aside0.mk (hi); clear BK366; clear HO369; clear HK; clear HB; clear HI0; have BK366 := n0_; have HO369 := n1_; have HK := n2_; have HB := n3_; have HI0 := n4_; clear n0_ n1_ n2_ n3_ n4_; (try clear hb); (try clear hb2); (try clear hk); (try clear hi)) | ((with_reducible refine qg0 (f := 61) rfl ?_); refine qt0 (some 9) rfl rfl Try.func61 (by kernel_rfl) rfl #[.pointer (some ⟨g, 0, none⟩), .int .i64 3] rfl z9_22 ?_; (with_reducible refine (spec_l1Below.calls g s0_0 t373 t374 3 t375 t376 t377 w0 _ ?side1 ?side2 A4.out).mono ?_); (case side1 => exact z9_12); (case side2 => exact z9_17); rintro e w8 ⟨rfl, hi, hb, hk⟩; refine ⟨_, rfl, ?_⟩; have n0_ := Aside0.mk (qc0.blk hk (g' := gb366) (o := .cells #[.slice none 0 0, .int .i64 0, .int .i64 0] 174 (0, 0)) z9_25 NB366_0.out (by simp)); have n1_ := Aside0.mk (Kd.qm0 (Kd.qy0 (IsS186.apart (show IsS186 w0 _ g s0_0 t373 t374 from z9_12) (by (with_reducible repeat (first | apply Kd.qr0 | apply Kd.qp0 | apply Kd.qu0)); exact HO369.out) (by decide)) hk (fun _ h => h.2)) (fun _ h => h.1)); have n2_ := Aside0.mk (qc0.trans z9_16 hk (.inl rfl)); have n3_ := Aside0.mk (hb); have n4_ := Aside0.mk (hi); clear BK366; clear HO369; clear HK; clear HB; clear HI0; have BK366 := n0_; have HO369 := n1_; have HK := n2_; have HB := n3_; have HI0 := n4_; clear n0_ n1_ n2_ n3_ n4_; (try clear hb); (try clear hb2); (try clear hk); (try clear hi); obtain ⟨Ao9, co9, eo9⟩ := Kd.qn1 HO369.out; subst eo9; have hnb10 := NB366_0.out; have hnc10 := NB0_366.out; have hcz11_0 : w8.cell? ⟨gb366, 0, none⟩ = some (.slice none 0 0) := (qb0 BK366.out 0).trans rfl; have hcz11_1 : w8.cell? ⟨gb366, 1, none⟩ = some (.int .i64 0) := (qb0 BK366.out 1).trans rfl; have hcz11_2 : w8.cell? ⟨gb366, 2, none⟩ = some (.int .i64 0) := (qb0 BK366.out 2).trans rfl; have hfz11_0 := qa0 BK366.out 0; have hfz11_1 := qa0 BK366.out 1; have hfz11_2 := qa0 BK366.out 2))
 refine bodyPost_ret (results_cell_row rfl _ _ gb366 174 #[.slice Ao9 t367.length co9, .int .i64 (wrap64 (1 + t372)), .int .i64 (wrap64 (1 + t375))] (0, 0) _ rfl (by (with_reducible repeat (first | refine qe0 ?_ _ | refine qf0 ?_ | refine qd0 ?_ _)); refine qo0 (cs := #[.slice Ao9 t367.length co9, .int .i64 (wrap64 (1 + t372)), .int .i64 0]) ?_ 2 _ rfl; (with_reducible repeat (first | refine qe0 ?_ _ | refine qf0 ?_ | refine qd0 ?_ _)); refine qo0 (cs := #[.slice Ao9 t367.length co9, .int .i64 0, .int .i64 0]) ?_ 1 _ rfl; (with_reducible repeat (first | refine qe0 ?_ _ | refine qf0 ?_ | refine qd0 ?_ _)); refine qo0 (cs := #[.slice none 0 0, .int .i64 0, .int .i64 0]) ?_ 0 _ rfl; (with_reducible repeat (first | refine qe0 ?_ _ | refine qf0 ?_ | refine qd0 ?_ _)); exact BK366.out) Try.underlying174 rfl (by kernel_rfl)) rfl ?_
 exact ⟨_, by first | rfl | (simp [errW_none, errW_some] <;> rfl) | (simp [*, errW_none, errW_some] <;> rfl), by (with_reducible repeat (first | apply Kd.qr0 | apply Kd.qp0 | apply Kd.qu0)); exact Kd.qm0 (Kd.R_far (p := ⟨gb366, 2, none⟩) (Kd.R_far (p := ⟨gb366, 1, none⟩) (Kd.R_far (p := ⟨gb366, 0, none⟩) (Kd.qi1 HO369.out BK366.out (by decide)) (fun _ hk => hk.2) (.slice Ao9 t367.length co9)) (fun _ hk => hk.2) (.int .i64 (wrap64 (1 + t372)))) (fun _ hk => hk.2) (.int .i64 (wrap64 (1 + t375)))) (fun _ hk => trivial), z9_12, z9_17, z9_16⟩

end Go.Proofs.Ytkkdmmefnicmaaa.PFnChained
