/- Lines by a program (a changed copy of the kit's print: this repo's wip/tools): Go functions as Lean functions, and proofs that the calls answer so. -/
import Derived.Test.YtggfggmmecbdnaaZPFnWorkBackx0
import Derived.Test.YtggfggmmecbdnaaZPFnWorkBackx1
import Derived.Test.YtggfggmmecbdnaaZPFnWorkBackx2
import Derived.Test.YtggfggmmecbdnaaZPFnWorkBackx3
import Derived.Test.YtggfggmmecbdnaaZPFnWorkBackx4
import Derived.Test.YtggfggmmecbdnaaZPFnWorkBackx6
import Derived.Test.YtggfggmmecbdnaaZPFnWorkBackx7
namespace Go.Proofs.Ytggfggmmecbdnaa.PFnWorkBack
open Go.RowKit Go.Proofs.YtggfggmmecbdnaaW.PrintWords Go.Proofs.YtggfggmmecbdnaaW.PrintLast Go.Proofs.YtggfggmmecbdnaaW.PrintMore
/-- Closing blocks told once. -/
theorem z8_0 {P : Prop} (h : P := by repeat (first | (with_reducible first | exact HB.out | apply qh0 | apply qe0 | apply qi0 | refine qo0 ?_ GE254.out) | exact HB.out)) : P := h
theorem z8_1 {P : Prop} (h : P := by (try simp only [List.map_toArray, List.map_cons, List.map_nil]); first | done | rfl | (simp only [List.length_drop, List.length_take]; rfl)) : P := h
theorem z8_2 {P : Prop} (h : P := by repeat (first | exact (Kd.qq0 HO_255001.out).2.2 | (with_reducible refine Kd.C_alloc ?_ _) | (with_reducible refine Kd.C_drewN ?_ _) | (with_reducible refine Kd.C_drew ?_))) : P := h
theorem z8_3 {P : Prop} (h : P := by (with_reducible repeat (first | refine qj0 ?_ _ | refine qk0 ?_ | refine qg0 ?_ _)); exact BK254.out) : P := h
theorem z8_4 {P : Prop} (h : P := by (with_reducible repeat (first | apply Kd.qx0 | apply Kd.qw0 | apply Kd.R_drew)); exact HO_255001.out) : P := h
theorem z8_5 {P : Prop} (h : P := by (with_reducible repeat (first | refine qj0 ?_ _ | refine qk0 ?_ | refine qg0 ?_ _)); refine qy0 (cs := #[.int .i64 t248, .slice none 0 0]) ?_ 1 _ rfl; (with_reducible repeat (first | refine qj0 ?_ _ | refine qk0 ?_ | refine qg0 ?_ _)); refine qy0 (cs := #[.int .i64 0, .slice none 0 0]) ?_ 0 _ rfl; (with_reducible repeat (first | refine qj0 ?_ _ | refine qk0 ?_ | refine qg0 ?_ _)); exact BK254.out) : P := h
theorem z8_6 {P : Prop} (h : P := by repeat (first | (with_reducible first | exact HB.out | apply qh0 | apply qe0 | apply qi0) | exact HB.out)) : P := h
theorem z8_7 {P : Prop} (h : P := by first | rfl | (simp [errW_none, errW_some] <;> rfl) | (simp [*, errW_none, errW_some] <;> rfl)) : P := h
theorem z8_8 {P : Prop} (h : P := by (with_reducible repeat (first | apply Kd.qx0 | apply Kd.qw0 | apply Kd.R_drew)); exact (Kd.qt0 (Kd.R_far (p := ⟨gb254, 1, none⟩) (Kd.R_far (p := ⟨gb254, 0, none⟩) (Kd.R_types HO251.out BK254.out (by decide)) (fun _ hk => hk.2) (.int .i64 t248)) (fun _ hk => hk.2) (.slice Ao9 t249.length co9)) (fun _ h_ => h_.1))) : P := h
theorem z8_9 {P : Prop} (h : P := by repeat (first | exact HR0.out | (with_reducible refine Kd.C_alloc ?_ _) | (with_reducible refine Kd.C_drewN ?_ _) | (with_reducible refine Kd.C_drew ?_))) : P := h
theorem z8_10 {P : Prop} (h : P := by (with_reducible repeat (first | apply Kd.qx0 | apply Kd.qw0 | apply Kd.R_drew)); exact HO251.out) : P := h
theorem z8_11 {P : Prop} (h : P := by rw [hg]; exact (below_size (by repeat (first | (with_reducible first | exact HB.out | apply qh0 | apply qe0 | apply qi0) | exact HB.out)))) : P := h
attribute [local go_sem] max2_int min2_int max_two min_two max_three min_three max_four min_four   -- for this text's walks alone
set_option linter.unusedVariables false
set_option linter.unusedSimpArgs false

/-! ### laws_FnWorkBack: function 3 -/
def laws_FnWorkBack.j0 : Nat → Int → Int → Bool → Int → List Int → Option (Bool)
 | 0, _, _, _, _, _ => none
 | k + 1, x4, x5, x21, x255000, x255001 => if x21 = true then (some false) else ((impl_AddWork.f k x255000 x255001 x4 x5).bind fun t257 => (if t257 < 0 then ((spec_AddWork.f k x255000 x255001 x4 x5).bind fun t258 => (some (decide (t258 < 0)))) else ((impl_Work.f k x255000 x255001 t257).bind fun t259 => (if t259 = true then (if x5 > 0 then ((impl_CountWork.f k x255000 x255001 x4 t257).bind fun t260 => (some (t260 == x5))) else (if x5 < 0 then ((impl_CountWork.f k x255000 x255001 (wrap64 (t257 - 1)) (wrap64 (x4 - 1))).bind fun t261 => (if t261 = (wrap64 (-x5)) then (some true) else (some (t257 == 0)))) else (some (decide (t257 ≥ x4))))) else (some false)))))
def laws_FnWorkBack.f (k : Nat) (l0 : List Int) : Option (Bool) := (laws_big.f l0).bind fun t247 => (if t247 = true then (some true) else ((spec_DrawAddWork.f k l0).bind fun bt248 => ((impl_Work.f k 96 ([] : List Int) 2).bind fun t255 => (if t255 = true then ((impl_Work.f k 96 ([] : List Int) 1).bind fun t256 => (laws_FnWorkBack.j0 k bt248.2.2.1 bt248.2.2.2 t256 bt248.1 bt248.2.1)) else (laws_FnWorkBack.j0 k bt248.2.2.1 bt248.2.2.2 true bt248.1 bt248.2.1)))))
theorem laws_FnWorkBack.mono_l : ∀ k, (∀ y0 y1 y2 y3 y4, LeO (laws_FnWorkBack.j0 k y0 y1 y2 y3 y4) (laws_FnWorkBack.j0 (k + 1) y0 y1 y2 y3 y4))
 | 0 => fun _ _ _ _ _ r h => by simp [laws_FnWorkBack.j0] at h
 | k + 1 => by
  have ih0 := laws_FnWorkBack.mono_l k
  ·intro y0 y1 y2 y3 y4
   unfold laws_FnWorkBack.j0
   repeat' first
   | (with_reducible exact ih0 _ _ _ _ _)
   | (with_reducible exact impl_AddWork.mono _ _ _ _ _)
   | (with_reducible exact impl_CountWork.mono _ _ _ _ _)
   | (with_reducible exact impl_Work.mono _ _ _ _)
   | (with_reducible exact spec_AddWork.mono _ _ _ _ _)
   | (with_reducible exact spec_DrawAddWork.mono _ _)
   | (with_reducible exact LeO.refl _)
   | (with_reducible exact LeO.none _)
   | (with_reducible refine LeO.ite ?_ ?_)
   | (with_reducible refine LeO.bind ?_ (fun _ => ?_))
   | exact ih0 _ _ _ _ _
   | exact impl_AddWork.mono _ _ _ _ _
   | exact impl_CountWork.mono _ _ _ _ _
   | exact impl_Work.mono _ _ _ _
   | exact spec_AddWork.mono _ _ _ _ _
   | exact spec_DrawAddWork.mono _ _
   | exact LeO.none _
   | refine LeO.ite ?_ ?_
   | refine LeO.bind ?_ (fun _ => ?_)
theorem laws_FnWorkBack.mono : ∀ a0 k, LeO (laws_FnWorkBack.f k a0) (laws_FnWorkBack.f (k + 1) a0) := by
 intro a0 k
 have ih0 := laws_FnWorkBack.mono_l k
 unfold laws_FnWorkBack.f
 repeat' first
   | (with_reducible exact ih0 _ _ _ _ _)
   | (with_reducible exact impl_AddWork.mono _ _ _ _ _)
   | (with_reducible exact impl_CountWork.mono _ _ _ _ _)
   | (with_reducible exact impl_Work.mono _ _ _ _)
   | (with_reducible exact spec_AddWork.mono _ _ _ _ _)
   | (with_reducible exact spec_DrawAddWork.mono _ _)
   | (with_reducible exact LeO.refl _)
   | (with_reducible exact LeO.none _)
   | (with_reducible refine LeO.ite ?_ ?_)
   | (with_reducible refine LeO.bind ?_ (fun _ => ?_))
   | exact ih0 _ _ _ _ _
   | exact impl_AddWork.mono _ _ _ _ _
   | exact impl_CountWork.mono _ _ _ _ _
   | exact impl_Work.mono _ _ _ _
   | exact spec_AddWork.mono _ _ _ _ _
   | exact spec_DrawAddWork.mono _ _
   | exact LeO.none _
   | refine LeO.ite ?_ ?_
   | refine LeO.bind ?_ (fun _ => ?_)
set_option maxHeartbeats 8000000 in
set_option maxRecDepth 100000 in
theorem laws_FnWorkBack.calls (k : Nat) (A0 : Option Addr) (c0 : Nat) (l0 : List Int) (r : Bool) (w : World) (hr0 : Kd.C (Kd.int .u8) w A0 l0.length l0) (hc0 : l0.length ≤ c0) (h : laws_FnWorkBack.f k l0 = some r) :
  Calls Try.prog 3 #[.slice A0 l0.length c0] w fun e w' => e = .returned (.bool r) ∧ Below w.heap.size w w' := by
 have hu26 := Try.underlying26
 have HR0 := Aside0.mk hr0
 have HC0 := Aside0.mk hc0
 clear hr0 hc0
 have HB := Aside0.mk (Below.refl w.heap.size w)
 have H : ((laws_big.f l0).bind fun t247 => (if t247 = true then (some true) else ((spec_DrawAddWork.f k l0).bind fun bt248 => ((impl_Work.f k 96 ([] : List Int) 2).bind fun t255 => (if t255 = true then ((impl_Work.f k 96 ([] : List Int) 1).bind fun t256 => (laws_FnWorkBack.j0 k bt248.2.2.1 bt248.2.2.2 t256 bt248.1 bt248.2.1)) else (laws_FnWorkBack.j0 k bt248.2.2.1 bt248.2.2.2 true bt248.1 bt248.2.1)))))) = some r := h
 clear h
 replace H := Option.bind_eq_some_iff.mp H
 obtain ⟨t247, A20, H⟩ := H
 replace H : (if t247 = true then (some true) else ((spec_DrawAddWork.f k l0).bind fun bt248 => ((impl_Work.f k 96 ([] : List Int) 2).bind fun t255 => (if t255 = true then ((impl_Work.f k 96 ([] : List Int) 1).bind fun t256 => (laws_FnWorkBack.j0 k bt248.2.2.1 bt248.2.2.2 t256 bt248.1 bt248.2.1)) else (laws_FnWorkBack.j0 k bt248.2.2.1 bt248.2.2.2 true bt248.1 bt248.2.1))))) = some r := H
 have A2 := Aside0.mk A20
 clear A20
 by_cases c3 : t247 = true
 ·subst c3
  have H1 : (some true) = some r := by rw [if_pos rfl] at H; exact H
  clear H
  have H := H1
  clear H1
  obtain rfl := Option.some.inj H
  go_enter Try.func3, Try.ntmps3
  go_wp2_with (first | ((with_reducible refine qc0 (f := 5) rfl ?_); refine qm0 (some 8) rfl rfl Try.func5 (by kernel_rfl) rfl #[.slice A0 l0.length c0] rfl z8_1 ?_; (with_reducible refine (laws_big.calls _ _ l0 true _ ?side1 ?side2 A2.out).mono ?_); (case side1 => exact z8_9); (case side2 => exact HC0.out); rintro e w' ⟨rfl, ⟨nd, rfl⟩⟩; refine ⟨_, rfl, ?_⟩))
  go_ret
  exact ⟨z8_7, z8_6⟩
 replace c3 := Bool.eq_false_iff.mpr c3
 subst c3
 have H1 : ((spec_DrawAddWork.f k l0).bind fun bt248 => ((impl_Work.f k 96 ([] : List Int) 2).bind fun t255 => (if t255 = true then ((impl_Work.f k 96 ([] : List Int) 1).bind fun t256 => (laws_FnWorkBack.j0 k bt248.2.2.1 bt248.2.2.2 t256 bt248.1 bt248.2.1)) else (laws_FnWorkBack.j0 k bt248.2.2.1 bt248.2.2.2 true bt248.1 bt248.2.1)))) = some r := by rw [if_neg (show ¬ (false = true) by decide)] at H; exact H
 clear H
 have H := H1
 clear H1
 replace H := Option.bind_eq_some_iff.mp H
 obtain ⟨⟨t248, t249, t252, t253⟩, A40, H⟩ := H
 replace H : ((impl_Work.f k 96 ([] : List Int) 2).bind fun t255 => (if t255 = true then ((impl_Work.f k 96 ([] : List Int) 1).bind fun t256 => (laws_FnWorkBack.j0 k t252 t253 t256 t248 t249)) else (laws_FnWorkBack.j0 k t252 t253 true t248 t249))) = some r := H
 have A4 := Aside0.mk A40
 clear A40
 have HC5 := Aside0.mk H
 clear H
 go_enter Try.func3, Try.ntmps3
 go_upto_region 4 with (first | ((with_reducible refine qc0 (f := 5) rfl ?_); refine qm0 (some 8) rfl rfl Try.func5 (by kernel_rfl) rfl #[.slice A0 l0.length c0] rfl z8_1 ?_; (with_reducible refine (laws_big.calls _ _ l0 false _ ?side1 ?side2 A2.out).mono ?_); (case side1 => exact z8_9); (case side2 => exact HC0.out); rintro e w' ⟨rfl, ⟨nd, rfl⟩⟩; refine ⟨_, rfl, ?_⟩) | ((with_reducible refine qc0 (f := 6) rfl ?_); refine qm0 (some 11) rfl rfl Try.func6 (by kernel_rfl) rfl #[.slice A0 l0.length c0] rfl z8_1 ?_; (with_reducible refine (spec_DrawAddWork.calls k _ _ l0 t248 t249 t252 t253 _ ?side1 ?side2 A4.out).mono ?_); (case side1 => exact z8_9); (case side2 => exact HC0.out); rintro e w6 ⟨v250, rfl, ho0, hb⟩; refine ⟨_, rfl, ?_⟩; have n0_ := Aside0.mk (Kd.R_lower ho0 (below_size z8_6)); have n1_ := Aside0.mk (qf0 z8_6 hb); clear HB; have HO251 := n0_; have HB := n1_; clear n0_ n1_; (try clear hb); (try clear hb2); (try clear hk); (try clear hi); (try clear ho0)) | ((with_reducible refine qs0 (N := 3) rfl ?_); refine qr0 ?hg (N := 3) ?hd (cs := #[.int .i64 0, .slice none 0 0]) (t := 26) ?hr ?_; (case hd => rfl); (case hg => rfl); (case hr => first | (go_simp; done) | (go_simp; rfl)); intro gb254 hg w7 hbox hb; have n0_ := Aside0.mk (Kd.qz0 z8_10 hb); have n1_ := Aside0.mk (qf0 z8_6 hb); have n2_ := Aside0.mk (hbox); have n3_ := Aside0.mk ((z8_11 : w.heap.size ≤ gb254)); have n4_ := Aside0.mk ((z8_11 : w.heap.size ≤ gb254)); clear HO251; clear HB; have HO251 := n0_; have HB := n1_; have BK254 := n2_; have GW254 := n3_; have GE254 := n4_; clear n0_ n1_ n2_ n3_ n4_; clear hb hbox hg; have hcz8_0 : w7.cell? ⟨gb254, 0, none⟩ = some (.int .i64 0) := (qb0 BK254.out 0).trans rfl; have hcz8_1 : w7.cell? ⟨gb254, 1, none⟩ = some (.slice none 0 0) := (qb0 BK254.out 1).trans rfl; have hfz8_0 := qa0 BK254.out 0; have hfz8_1 := qa0 BK254.out 1; obtain ⟨Ao9, co9, eo9⟩ := Kd.R_slice HO251.out; subst eo9))
 (try simp only [Act.put, List.setIfInBounds_toArray, List.set_cons_zero, List.set_cons_succ])
 go_cut [21] (fun v21 wc => ∃ (kq : Nat) (x21_4 : Bool), v21 = .bool x21_4 ∧ Aside0 (laws_FnWorkBack.j0 kq t252 t253 x21_4 t248 t249 = some r) ∧ Aside0 (kq ≤ k) ∧ Aside0 (Kd.R (Kd.int .i64) 3 wc w.heap.size (fun _ => True) (.slice Ao9 t249.length co9) t249) ∧ Aside0 (wc.heap[gb254]? = some (.cells #[.int .i64 t248, (.slice Ao9 t249.length co9)] 26 (0, 0))) ∧ Aside0 (Below w.heap.size w wc))
 case first =>
  have H := HC5.out
  clear HC5
  replace H := Option.bind_eq_some_iff.mp H
  obtain ⟨t255, A100, H⟩ := H
  replace H : (if t255 = true then ((impl_Work.f k 96 ([] : List Int) 1).bind fun t256 => (laws_FnWorkBack.j0 k t252 t253 t256 t248 t249)) else (laws_FnWorkBack.j0 k t252 t253 true t248 t249)) = some r := H
  have A10 := Aside0.mk A100
  clear A100
  by_cases c11 : t255 = true
  ·subst c11
   have H1 : ((impl_Work.f k 96 ([] : List Int) 1).bind fun t256 => (laws_FnWorkBack.j0 k t252 t253 t256 t248 t249)) = some r := by rw [if_pos rfl] at H; exact H
   clear H
   have H := H1
   clear H1
   replace H := Option.bind_eq_some_iff.mp H
   obtain ⟨t256, A120, H⟩ := H
   replace H : (laws_FnWorkBack.j0 k t252 t253 t256 t248 t249) = some r := H
   have A12 := Aside0.mk A120
   clear A120
   have H' := Aside0.mk H
   clear H
   go_wp2_with (first | ((with_reducible refine qc0 (f := 7) rfl ?_); refine qm0 (some 16) rfl rfl Try.func7 (by kernel_rfl) rfl #[.agg #[.int .i64 96, .slice none 0 0], .int .i64 2] rfl z8_1 ?_; (refine (impl_Work.calls k 96 _ _ ([] : List Int) 2 true _ ?side1 ?side2 A10.out).mono ?_); (case side1 => exact Kd.C_nil _ _); (case side2 => exact Nat.le_refl _); rintro e w13 ⟨rfl, hb⟩; refine ⟨_, rfl, ?_⟩; have n0_ := Aside0.mk (Kd.qz0 z8_8 hb); have n1_ := Aside0.mk (ql0 (g := gb254) (o := .cells #[.int .i64 t248, .slice Ao9 t249.length co9] 26 (0, 0)) z8_5 hb); have n2_ := Aside0.mk (qf0 z8_0 hb); clear HO251; clear BK254; clear HB; have HO251 := n0_; have BK254 := n1_; have HB := n2_; clear n0_ n1_ n2_; (try clear hb); (try clear hb2); (try clear hk); (try clear hi)) | (go_at_call 7; (refine (impl_Work.calls k 96 _ _ ([] : List Int) 1 t256 _ ?side1 ?side2 A12.out).mono ?_); (case side1 => exact Kd.C_nil _ _); (case side2 => exact Nat.le_refl _); rintro e w14 ⟨rfl, hb⟩; have n0_ := Aside0.mk (Kd.qz0 z8_10 hb); have n1_ := Aside0.mk (ql0 (g := gb254) (o := .cells #[.int .i64 t248, .slice Ao9 t249.length co9] 26 (0, 0)) z8_3 hb); have n2_ := Aside0.mk (qf0 z8_0 hb); clear HO251; clear BK254; clear HB; have HO251 := n0_; have BK254 := n1_; have HB := n2_; clear n0_ n1_ n2_; (try clear hb); (try clear hb2); (try clear hk); (try clear hi)))
   go_meet
   case rel => exact ⟨_, (t256), (by first | rfl | (simp; done) | (simp [*]; done)), H', ⟨by first | omega | exact Nat.le_refl _⟩, ⟨z8_10⟩, ⟨z8_3⟩, ⟨z8_0⟩⟩
  replace c11 := Bool.eq_false_iff.mpr c11
  subst c11
  have H1 : (laws_FnWorkBack.j0 k t252 t253 true t248 t249) = some r := by rw [if_neg (show ¬ (false = true) by decide)] at H; exact H
  clear H
  have H := H1
  clear H1
  have H' := Aside0.mk H
  clear H
  go_wp2_with (first | ((with_reducible refine qc0 (f := 7) rfl ?_); refine qm0 (some 16) rfl rfl Try.func7 (by kernel_rfl) rfl #[.agg #[.int .i64 96, .slice none 0 0], .int .i64 2] rfl z8_1 ?_; (refine (impl_Work.calls k 96 _ _ ([] : List Int) 2 false _ ?side1 ?side2 A10.out).mono ?_); (case side1 => exact Kd.C_nil _ _); (case side2 => exact Nat.le_refl _); rintro e w15 ⟨rfl, hb⟩; refine ⟨_, rfl, ?_⟩; have n0_ := Aside0.mk (Kd.qz0 z8_8 hb); have n1_ := Aside0.mk (ql0 (g := gb254) (o := .cells #[.int .i64 t248, .slice Ao9 t249.length co9] 26 (0, 0)) z8_5 hb); have n2_ := Aside0.mk (qf0 z8_0 hb); clear HO251; clear BK254; clear HB; have HO251 := n0_; have BK254 := n1_; have HB := n2_; clear n0_ n1_ n2_; (try clear hb); (try clear hb2); (try clear hk); (try clear hi)))
  go_meet
  case rel => exact ⟨_, (true), (by first | rfl | (simp; done) | (simp [*]; done)), H', ⟨by first | omega | exact Nat.le_refl _⟩, ⟨z8_10⟩, ⟨z8_3⟩, ⟨z8_0⟩⟩
 case rest =>
  clear HC5
  try clear c1
  try clear p2
  try clear c3
  try clear c5
  try clear c6
  try clear c7
  try clear c11
  try clear hcz8_0
  try clear hcz8_1
  try clear hfz8_0
  try clear hfz8_1
  obtain ⟨kq, x21_4, rfl, HA, HJ4, HO_255001, BK254, HB⟩ := hcut
  cases kq with
  | zero => exact absurd HA.out (by simp [laws_FnWorkBack.j0])
  | succ kj4 =>
   have H := HA.out
   clear HA
   simp only [laws_FnWorkBack.j0] at H
   by_cases c16 : x21_4 = true
   ·subst c16
    have H1 : (some false) = some r := by rw [if_pos rfl] at H; exact H
    clear H
    have H := H1
    clear H1
    obtain rfl := Option.some.inj H
    go_wp2
    go_ret
    exact ⟨z8_7, z8_0⟩
   replace c16 := Bool.eq_false_iff.mpr c16
   subst c16
   have H1 : ((impl_AddWork.f kj4 t248 t249 t252 t253).bind fun t257 => (if t257 < 0 then ((spec_AddWork.f kj4 t248 t249 t252 t253).bind fun t258 => (some (decide (t258 < 0)))) else ((impl_Work.f kj4 t248 t249 t257).bind fun t259 => (if t259 = true then (if t253 > 0 then ((impl_CountWork.f kj4 t248 t249 t252 t257).bind fun t260 => (some (t260 == t253))) else (if t253 < 0 then ((impl_CountWork.f kj4 t248 t249 (wrap64 (t257 - 1)) (wrap64 (t252 - 1))).bind fun t261 => (if t261 = (wrap64 (-t253)) then (some true) else (some (t257 == 0)))) else (some (decide (t257 ≥ t252))))) else (some false))))) = some r := by rw [if_neg (show ¬ (false = true) by decide)] at H; exact H
   clear H
   have H := H1
   clear H1
   replace H := Option.bind_eq_some_iff.mp H
   obtain ⟨t257, A170, H⟩ := H
   replace H : (if t257 < 0 then ((spec_AddWork.f kj4 t248 t249 t252 t253).bind fun t258 => (some (decide (t258 < 0)))) else ((impl_Work.f kj4 t248 t249 t257).bind fun t259 => (if t259 = true then (if t253 > 0 then ((impl_CountWork.f kj4 t248 t249 t252 t257).bind fun t260 => (some (t260 == t253))) else (if t253 < 0 then ((impl_CountWork.f kj4 t248 t249 (wrap64 (t257 - 1)) (wrap64 (t252 - 1))).bind fun t261 => (if t261 = (wrap64 (-t253)) then (some true) else (some (t257 == 0)))) else (some (decide (t257 ≥ t252))))) else (some false)))) = some r := H
   have A17 := Aside0.mk A170
   clear A170
   by_cases c18 : t257 < 0
   ·rw [if_pos c18] at H
    have c18b0 : decide (t257 < 0) = true := decide_eq_true c18
    clear c18
    replace H := Option.bind_eq_some_iff.mp H
    obtain ⟨t258, A190, H⟩ := H
    replace H : (some (decide (t258 < 0))) = some r := H
    have A19 := Aside0.mk A190
    clear A190
    obtain rfl := Option.some.inj H
    have hcz20_0 : wc.cell? ⟨gb254, 0, none⟩ = some (.int .i64 t248) := (qb0 BK254.out 0).trans rfl
    have hcz20_1 : wc.cell? ⟨gb254, 1, none⟩ = some (.slice Ao9 t249.length co9) := (qb0 BK254.out 1).trans rfl
    have hfz20_0 := qa0 BK254.out 0
    have hfz20_1 := qa0 BK254.out 1
    go_wp2_with (first | ((with_reducible refine qc0 (f := 8) rfl ?_); refine qm0 (some 25) rfl rfl Try.func8 (by kernel_rfl) rfl #[.agg #[.int .i64 t248, .slice Ao9 t249.length co9], .int .i64 t252, .int .i64 t253] rfl z8_1 ?_; (with_reducible refine (impl_AddWork.calls kj4 t248 _ _ t249 t252 t253 t257 _ ?side1 ?side2 A17.out).mono ?_); (case side1 => exact z8_2); (case side2 => exact (Kd.qq0 HO_255001.out).2.1); rintro e w21 ⟨rfl, hb⟩; refine ⟨_, rfl, ?_⟩; have n0_ := Aside0.mk (Kd.qz0 z8_4 hb); have n1_ := Aside0.mk (ql0 (g := gb254) (o := .cells #[.int .i64 t248, .slice Ao9 t249.length co9] 26 (0, 0)) z8_3 hb); have n2_ := Aside0.mk (qf0 z8_0 hb); clear HO_255001; clear BK254; clear HB; have HO_255001 := n0_; have BK254 := n1_; have HB := n2_; clear n0_ n1_ n2_; (try clear hb); (try clear hb2); (try clear hk); (try clear hi); have hcz22_0 : w21.cell? ⟨gb254, 0, none⟩ = some (.int .i64 t248) := (qb0 BK254.out 0).trans rfl; have hcz22_1 : w21.cell? ⟨gb254, 1, none⟩ = some (.slice Ao9 t249.length co9) := (qb0 BK254.out 1).trans rfl; have hfz22_0 := qa0 BK254.out 0; have hfz22_1 := qa0 BK254.out 1) | ((with_reducible refine qc0 (f := 9) rfl ?_); refine qm0 (some 31) rfl rfl Try.func9 (by kernel_rfl) rfl #[.agg #[.int .i64 t248, .slice Ao9 t249.length co9], .int .i64 t252, .int .i64 t253] rfl z8_1 ?_; (with_reducible refine (spec_AddWork.calls kj4 t248 _ _ t249 t252 t253 t258 _ ?side1 ?side2 A19.out).mono ?_); (case side1 => exact z8_2); (case side2 => exact (Kd.qq0 HO_255001.out).2.1); rintro e w23 ⟨rfl, hb⟩; refine ⟨_, rfl, ?_⟩; have n0_ := Aside0.mk (Kd.qz0 z8_4 hb); have n1_ := Aside0.mk (ql0 (g := gb254) (o := .cells #[.int .i64 t248, .slice Ao9 t249.length co9] 26 (0, 0)) z8_3 hb); have n2_ := Aside0.mk (qf0 z8_0 hb); clear HO_255001; clear BK254; clear HB; have HO_255001 := n0_; have BK254 := n1_; have HB := n2_; clear n0_ n1_ n2_; (try clear hb); (try clear hb2); (try clear hk); (try clear hi)))
    go_ret
    exact ⟨z8_7, z8_0⟩
   rw [if_neg c18] at H
   have c18b0 : decide (t257 < 0) = false := decide_eq_false c18
   clear c18
   replace H := Option.bind_eq_some_iff.mp H
   obtain ⟨t259, A240, H⟩ := H
   replace H : (if t259 = true then (if t253 > 0 then ((impl_CountWork.f kj4 t248 t249 t252 t257).bind fun t260 => (some (t260 == t253))) else (if t253 < 0 then ((impl_CountWork.f kj4 t248 t249 (wrap64 (t257 - 1)) (wrap64 (t252 - 1))).bind fun t261 => (if t261 = (wrap64 (-t253)) then (some true) else (some (t257 == 0)))) else (some (decide (t257 ≥ t252))))) else (some false)) = some r := H
   have A24 := Aside0.mk A240
   clear A240
   by_cases c25 : t259 = true
   ·subst c25
    have H1 : (if t253 > 0 then ((impl_CountWork.f kj4 t248 t249 t252 t257).bind fun t260 => (some (t260 == t253))) else (if t253 < 0 then ((impl_CountWork.f kj4 t248 t249 (wrap64 (t257 - 1)) (wrap64 (t252 - 1))).bind fun t261 => (if t261 = (wrap64 (-t253)) then (some true) else (some (t257 == 0)))) else (some (decide (t257 ≥ t252))))) = some r := by rw [if_pos rfl] at H; exact H
    clear H
    have H := H1
    clear H1
    by_cases c26 : t253 > 0
    ·rw [if_pos c26] at H
     have c26b0 : decide (0 < t253) = true := decide_eq_true c26
     clear c26
     replace H := Option.bind_eq_some_iff.mp H
     obtain ⟨t260, A270, H⟩ := H
     replace H : (some (t260 == t253)) = some r := H
     have A27 := Aside0.mk A270
     clear A270
     obtain rfl := Option.some.inj H
     have hcz28_0 : wc.cell? ⟨gb254, 0, none⟩ = some (.int .i64 t248) := (qb0 BK254.out 0).trans rfl
     have hcz28_1 : wc.cell? ⟨gb254, 1, none⟩ = some (.slice Ao9 t249.length co9) := (qb0 BK254.out 1).trans rfl
     have hfz28_0 := qa0 BK254.out 0
     have hfz28_1 := qa0 BK254.out 1
     go_wp2_with (first | ((with_reducible refine qc0 (f := 8) rfl ?_); refine qm0 (some 25) rfl rfl Try.func8 (by kernel_rfl) rfl #[.agg #[.int .i64 t248, .slice Ao9 t249.length co9], .int .i64 t252, .int .i64 t253] rfl z8_1 ?_; (with_reducible refine (impl_AddWork.calls kj4 t248 _ _ t249 t252 t253 t257 _ ?side1 ?side2 A17.out).mono ?_); (case side1 => exact z8_2); (case side2 => exact (Kd.qq0 HO_255001.out).2.1); rintro e w29 ⟨rfl, hb⟩; refine ⟨_, rfl, ?_⟩; have n0_ := Aside0.mk (Kd.qz0 z8_4 hb); have n1_ := Aside0.mk (ql0 (g := gb254) (o := .cells #[.int .i64 t248, .slice Ao9 t249.length co9] 26 (0, 0)) z8_3 hb); have n2_ := Aside0.mk (qf0 z8_0 hb); clear HO_255001; clear BK254; clear HB; have HO_255001 := n0_; have BK254 := n1_; have HB := n2_; clear n0_ n1_ n2_; (try clear hb); (try clear hb2); (try clear hk); (try clear hi); have hcz30_0 : w29.cell? ⟨gb254, 0, none⟩ = some (.int .i64 t248) := (qb0 BK254.out 0).trans rfl; have hcz30_1 : w29.cell? ⟨gb254, 1, none⟩ = some (.slice Ao9 t249.length co9) := (qb0 BK254.out 1).trans rfl; have hfz30_0 := qa0 BK254.out 0; have hfz30_1 := qa0 BK254.out 1) | ((with_reducible refine qc0 (f := 7) rfl ?_); refine qm0 (some 35) rfl rfl Try.func7 (by kernel_rfl) rfl #[.agg #[.int .i64 t248, .slice Ao9 t249.length co9], .int .i64 t257] rfl z8_1 ?_; (with_reducible refine (impl_Work.calls kj4 t248 _ _ t249 t257 true _ ?side1 ?side2 A24.out).mono ?_); (case side1 => exact z8_2); (case side2 => exact (Kd.qq0 HO_255001.out).2.1); rintro e w31 ⟨rfl, hb⟩; refine ⟨_, rfl, ?_⟩; have n0_ := Aside0.mk (Kd.qz0 z8_4 hb); have n1_ := Aside0.mk (ql0 (g := gb254) (o := .cells #[.int .i64 t248, .slice Ao9 t249.length co9] 26 (0, 0)) z8_3 hb); have n2_ := Aside0.mk (qf0 z8_0 hb); clear HO_255001; clear BK254; clear HB; have HO_255001 := n0_; have BK254 := n1_; have HB := n2_; clear n0_ n1_ n2_; (try clear hb); (try clear hb2); (try clear hk); (try clear hi); have hcz32_0 : w31.cell? ⟨gb254, 0, none⟩ = some (.int .i64 t248) := (qb0 BK254.out 0).trans rfl; have hcz32_1 : w31.cell? ⟨gb254, 1, none⟩ = some (.slice Ao9 t249.length co9) := (qb0 BK254.out 1).trans rfl; have hfz32_0 := qa0 BK254.out 0; have hfz32_1 := qa0 BK254.out 1) | ((with_reducible refine qc0 (f := 10) rfl ?_); refine qm0 (some 43) rfl rfl Try.func10 (by kernel_rfl) rfl #[.agg #[.int .i64 t248, .slice Ao9 t249.length co9], .int .i64 t252, .int .i64 t257] rfl z8_1 ?_; (with_reducible refine (impl_CountWork.calls kj4 t248 _ _ t249 t252 t257 t260 _ ?side1 ?side2 A27.out).mono ?_); (case side1 => exact z8_2); (case side2 => exact (Kd.qq0 HO_255001.out).2.1); rintro e w33 ⟨rfl, hb⟩; refine ⟨_, rfl, ?_⟩; have n0_ := Aside0.mk (Kd.qz0 z8_4 hb); have n1_ := Aside0.mk (ql0 (g := gb254) (o := .cells #[.int .i64 t248, .slice Ao9 t249.length co9] 26 (0, 0)) z8_3 hb); have n2_ := Aside0.mk (qf0 z8_0 hb); clear HO_255001; clear BK254; clear HB; have HO_255001 := n0_; have BK254 := n1_; have HB := n2_; clear n0_ n1_ n2_; (try clear hb); (try clear hb2); (try clear hk); (try clear hi)))
     go_ret
     exact ⟨z8_7, z8_0⟩
    rw [if_neg c26] at H
    have c26b0 : decide (0 < t253) = false := decide_eq_false c26
    clear c26
    by_cases c34 : t253 < 0
    ·rw [if_pos c34] at H
     have c34b0 : decide (t253 < 0) = true := decide_eq_true c34
     clear c34
     replace H := Option.bind_eq_some_iff.mp H
     obtain ⟨t261, A350, H⟩ := H
     replace H : (if t261 = (wrap64 (-t253)) then (some true) else (some (t257 == 0))) = some r := H
     have A35 := Aside0.mk A350
     clear A350
     by_cases c36 : t261 = (wrap64 (-t253))
     ·rw [if_pos c36] at H
      have c36b0 : (t261 == (wrap64 (-t253))) = true := beq_iff_eq.mpr c36
      have c36b1 : (t261 != (wrap64 (-t253))) = false := bne_eq_false_iff_eq.mpr c36
      clear c36
      obtain rfl := Option.some.inj H
      have hcz37_0 : wc.cell? ⟨gb254, 0, none⟩ = some (.int .i64 t248) := (qb0 BK254.out 0).trans rfl
      have hcz37_1 : wc.cell? ⟨gb254, 1, none⟩ = some (.slice Ao9 t249.length co9) := (qb0 BK254.out 1).trans rfl
      have hfz37_0 := qa0 BK254.out 0
      have hfz37_1 := qa0 BK254.out 1
      go_wp2_with (first | ((with_reducible refine qc0 (f := 8) rfl ?_); refine qm0 (some 25) rfl rfl Try.func8 (by kernel_rfl) rfl #[.agg #[.int .i64 t248, .slice Ao9 t249.length co9], .int .i64 t252, .int .i64 t253] rfl z8_1 ?_; (with_reducible refine (impl_AddWork.calls kj4 t248 _ _ t249 t252 t253 t257 _ ?side1 ?side2 A17.out).mono ?_); (case side1 => exact z8_2); (case side2 => exact (Kd.qq0 HO_255001.out).2.1); rintro e w38 ⟨rfl, hb⟩; refine ⟨_, rfl, ?_⟩; have n0_ := Aside0.mk (Kd.qz0 z8_4 hb); have n1_ := Aside0.mk (ql0 (g := gb254) (o := .cells #[.int .i64 t248, .slice Ao9 t249.length co9] 26 (0, 0)) z8_3 hb); have n2_ := Aside0.mk (qf0 z8_0 hb); clear HO_255001; clear BK254; clear HB; have HO_255001 := n0_; have BK254 := n1_; have HB := n2_; clear n0_ n1_ n2_; (try clear hb); (try clear hb2); (try clear hk); (try clear hi); have hcz39_0 : w38.cell? ⟨gb254, 0, none⟩ = some (.int .i64 t248) := (qb0 BK254.out 0).trans rfl; have hcz39_1 : w38.cell? ⟨gb254, 1, none⟩ = some (.slice Ao9 t249.length co9) := (qb0 BK254.out 1).trans rfl; have hfz39_0 := qa0 BK254.out 0; have hfz39_1 := qa0 BK254.out 1) | ((with_reducible refine qc0 (f := 7) rfl ?_); refine qm0 (some 35) rfl rfl Try.func7 (by kernel_rfl) rfl #[.agg #[.int .i64 t248, .slice Ao9 t249.length co9], .int .i64 t257] rfl z8_1 ?_; (with_reducible refine (impl_Work.calls kj4 t248 _ _ t249 t257 true _ ?side1 ?side2 A24.out).mono ?_); (case side1 => exact z8_2); (case side2 => exact (Kd.qq0 HO_255001.out).2.1); rintro e w40 ⟨rfl, hb⟩; refine ⟨_, rfl, ?_⟩; have n0_ := Aside0.mk (Kd.qz0 z8_4 hb); have n1_ := Aside0.mk (ql0 (g := gb254) (o := .cells #[.int .i64 t248, .slice Ao9 t249.length co9] 26 (0, 0)) z8_3 hb); have n2_ := Aside0.mk (qf0 z8_0 hb); clear HO_255001; clear BK254; clear HB; have HO_255001 := n0_; have BK254 := n1_; have HB := n2_; clear n0_ n1_ n2_; (try clear hb); (try clear hb2); (try clear hk); (try clear hi); have hcz41_0 : w40.cell? ⟨gb254, 0, none⟩ = some (.int .i64 t248) := (qb0 BK254.out 0).trans rfl; have hcz41_1 : w40.cell? ⟨gb254, 1, none⟩ = some (.slice Ao9 t249.length co9) := (qb0 BK254.out 1).trans rfl; have hfz41_0 := qa0 BK254.out 0; have hfz41_1 := qa0 BK254.out 1) | ((with_reducible refine qc0 (f := 10) rfl ?_); refine qm0 (some 54) rfl rfl Try.func10 (by kernel_rfl) rfl #[.agg #[.int .i64 t248, .slice Ao9 t249.length co9], .int .i64 (wrap64 (t257 - 1)), .int .i64 (wrap64 (t252 - 1))] rfl z8_1 ?_; (with_reducible refine (impl_CountWork.calls kj4 t248 _ _ t249 (wrap64 (t257 - 1)) (wrap64 (t252 - 1)) t261 _ ?side1 ?side2 A35.out).mono ?_); (case side1 => exact z8_2); (case side2 => exact (Kd.qq0 HO_255001.out).2.1); rintro e w42 ⟨rfl, hb⟩; refine ⟨_, rfl, ?_⟩; have n0_ := Aside0.mk (Kd.qz0 z8_4 hb); have n1_ := Aside0.mk (ql0 (g := gb254) (o := .cells #[.int .i64 t248, .slice Ao9 t249.length co9] 26 (0, 0)) z8_3 hb); have n2_ := Aside0.mk (qf0 z8_0 hb); clear HO_255001; clear BK254; clear HB; have HO_255001 := n0_; have BK254 := n1_; have HB := n2_; clear n0_ n1_ n2_; (try clear hb); (try clear hb2); (try clear hk); (try clear hi)))
      go_ret
      exact ⟨z8_7, z8_0⟩
     rw [if_neg c36] at H
     have c36b0 : (t261 == (wrap64 (-t253))) = false := beq_eq_false_iff_ne.mpr c36
     have c36b1 : (t261 != (wrap64 (-t253))) = true := bne_iff_ne.mpr c36
     obtain rfl := Option.some.inj H
     have hcz43_0 : wc.cell? ⟨gb254, 0, none⟩ = some (.int .i64 t248) := (qb0 BK254.out 0).trans rfl
     have hcz43_1 : wc.cell? ⟨gb254, 1, none⟩ = some (.slice Ao9 t249.length co9) := (qb0 BK254.out 1).trans rfl
     have hfz43_0 := qa0 BK254.out 0
     have hfz43_1 := qa0 BK254.out 1
     go_wp2_with (first | ((with_reducible refine qc0 (f := 8) rfl ?_); refine qm0 (some 25) rfl rfl Try.func8 (by kernel_rfl) rfl #[.agg #[.int .i64 t248, .slice Ao9 t249.length co9], .int .i64 t252, .int .i64 t253] rfl z8_1 ?_; (with_reducible refine (impl_AddWork.calls kj4 t248 _ _ t249 t252 t253 t257 _ ?side1 ?side2 A17.out).mono ?_); (case side1 => exact z8_2); (case side2 => exact (Kd.qq0 HO_255001.out).2.1); rintro e w44 ⟨rfl, hb⟩; refine ⟨_, rfl, ?_⟩; have n0_ := Aside0.mk (Kd.qz0 z8_4 hb); have n1_ := Aside0.mk (ql0 (g := gb254) (o := .cells #[.int .i64 t248, .slice Ao9 t249.length co9] 26 (0, 0)) z8_3 hb); have n2_ := Aside0.mk (qf0 z8_0 hb); clear HO_255001; clear BK254; clear HB; have HO_255001 := n0_; have BK254 := n1_; have HB := n2_; clear n0_ n1_ n2_; (try clear hb); (try clear hb2); (try clear hk); (try clear hi); have hcz45_0 : w44.cell? ⟨gb254, 0, none⟩ = some (.int .i64 t248) := (qb0 BK254.out 0).trans rfl; have hcz45_1 : w44.cell? ⟨gb254, 1, none⟩ = some (.slice Ao9 t249.length co9) := (qb0 BK254.out 1).trans rfl; have hfz45_0 := qa0 BK254.out 0; have hfz45_1 := qa0 BK254.out 1) | ((with_reducible refine qc0 (f := 7) rfl ?_); refine qm0 (some 35) rfl rfl Try.func7 (by kernel_rfl) rfl #[.agg #[.int .i64 t248, .slice Ao9 t249.length co9], .int .i64 t257] rfl z8_1 ?_; (with_reducible refine (impl_Work.calls kj4 t248 _ _ t249 t257 true _ ?side1 ?side2 A24.out).mono ?_); (case side1 => exact z8_2); (case side2 => exact (Kd.qq0 HO_255001.out).2.1); rintro e w46 ⟨rfl, hb⟩; refine ⟨_, rfl, ?_⟩; have n0_ := Aside0.mk (Kd.qz0 z8_4 hb); have n1_ := Aside0.mk (ql0 (g := gb254) (o := .cells #[.int .i64 t248, .slice Ao9 t249.length co9] 26 (0, 0)) z8_3 hb); have n2_ := Aside0.mk (qf0 z8_0 hb); clear HO_255001; clear BK254; clear HB; have HO_255001 := n0_; have BK254 := n1_; have HB := n2_; clear n0_ n1_ n2_; (try clear hb); (try clear hb2); (try clear hk); (try clear hi); have hcz47_0 : w46.cell? ⟨gb254, 0, none⟩ = some (.int .i64 t248) := (qb0 BK254.out 0).trans rfl; have hcz47_1 : w46.cell? ⟨gb254, 1, none⟩ = some (.slice Ao9 t249.length co9) := (qb0 BK254.out 1).trans rfl; have hfz47_0 := qa0 BK254.out 0; have hfz47_1 := qa0 BK254.out 1) | ((with_reducible refine qc0 (f := 10) rfl ?_); refine qm0 (some 54) rfl rfl Try.func10 (by kernel_rfl) rfl #[.agg #[.int .i64 t248, .slice Ao9 t249.length co9], .int .i64 (wrap64 (t257 - 1)), .int .i64 (wrap64 (t252 - 1))] rfl z8_1 ?_; (with_reducible refine (impl_CountWork.calls kj4 t248 _ _ t249 (wrap64 (t257 - 1)) (wrap64 (t252 - 1)) t261 _ ?side1 ?side2 A35.out).mono ?_); (case side1 => exact z8_2); (case side2 => exact (Kd.qq0 HO_255001.out).2.1); rintro e w48 ⟨rfl, hb⟩; refine ⟨_, rfl, ?_⟩; have n0_ := Aside0.mk (Kd.qz0 z8_4 hb); have n1_ := Aside0.mk (ql0 (g := gb254) (o := .cells #[.int .i64 t248, .slice Ao9 t249.length co9] 26 (0, 0)) z8_3 hb); have n2_ := Aside0.mk (qf0 z8_0 hb); clear HO_255001; clear BK254; clear HB; have HO_255001 := n0_; have BK254 := n1_; have HB := n2_; clear n0_ n1_ n2_; (try clear hb); (try clear hb2); (try clear hk); (try clear hi)))
     go_ret
     exact ⟨z8_7, z8_0⟩
    rw [if_neg c34] at H
    have c34b0 : decide (t253 < 0) = false := decide_eq_false c34
    clear c34
    obtain rfl := Option.some.inj H
    have hcz49_0 : wc.cell? ⟨gb254, 0, none⟩ = some (.int .i64 t248) := (qb0 BK254.out 0).trans rfl
    have hcz49_1 : wc.cell? ⟨gb254, 1, none⟩ = some (.slice Ao9 t249.length co9) := (qb0 BK254.out 1).trans rfl
    have hfz49_0 := qa0 BK254.out 0
    have hfz49_1 := qa0 BK254.out 1
    go_wp2_with (first | ((with_reducible refine qc0 (f := 8) rfl ?_); refine qm0 (some 25) rfl rfl Try.func8 (by kernel_rfl) rfl #[.agg #[.int .i64 t248, .slice Ao9 t249.length co9], .int .i64 t252, .int .i64 t253] rfl z8_1 ?_; (with_reducible refine (impl_AddWork.calls kj4 t248 _ _ t249 t252 t253 t257 _ ?side1 ?side2 A17.out).mono ?_); (case side1 => exact z8_2); (case side2 => exact (Kd.qq0 HO_255001.out).2.1); rintro e w50 ⟨rfl, hb⟩; refine ⟨_, rfl, ?_⟩; have n0_ := Aside0.mk (Kd.qz0 z8_4 hb); have n1_ := Aside0.mk (ql0 (g := gb254) (o := .cells #[.int .i64 t248, .slice Ao9 t249.length co9] 26 (0, 0)) z8_3 hb); have n2_ := Aside0.mk (qf0 z8_0 hb); clear HO_255001; clear BK254; clear HB; have HO_255001 := n0_; have BK254 := n1_; have HB := n2_; clear n0_ n1_ n2_; (try clear hb); (try clear hb2); (try clear hk); (try clear hi); have hcz51_0 : w50.cell? ⟨gb254, 0, none⟩ = some (.int .i64 t248) := (qb0 BK254.out 0).trans rfl; have hcz51_1 : w50.cell? ⟨gb254, 1, none⟩ = some (.slice Ao9 t249.length co9) := (qb0 BK254.out 1).trans rfl; have hfz51_0 := qa0 BK254.out 0; have hfz51_1 := qa0 BK254.out 1) | ((with_reducible refine qc0 (f := 7) rfl ?_); refine qm0 (some 35) rfl rfl Try.func7 (by kernel_rfl) rfl #[.agg #[.int .i64 t248, .slice Ao9 t249.length co9], .int .i64 t257] rfl z8_1 ?_; (with_reducible refine (impl_Work.calls kj4 t248 _ _ t249 t257 true _ ?side1 ?side2 A24.out).mono ?_); (case side1 => exact z8_2); (case side2 => exact (Kd.qq0 HO_255001.out).2.1); rintro e w52 ⟨rfl, hb⟩; refine ⟨_, rfl, ?_⟩; have n0_ := Aside0.mk (Kd.qz0 z8_4 hb); have n1_ := Aside0.mk (ql0 (g := gb254) (o := .cells #[.int .i64 t248, .slice Ao9 t249.length co9] 26 (0, 0)) z8_3 hb); have n2_ := Aside0.mk (qf0 z8_0 hb); clear HO_255001; clear BK254; clear HB; have HO_255001 := n0_; have BK254 := n1_; have HB := n2_; clear n0_ n1_ n2_; (try clear hb); (try clear hb2); (try clear hk); (try clear hi)))
    go_ret
    exact ⟨z8_7, z8_0⟩
   replace c25 := Bool.eq_false_iff.mpr c25
   subst c25
   have H1 : (some false) = some r := by rw [if_neg (show ¬ (false = true) by decide)] at H; exact H
   clear H
   have H := H1
   clear H1
   obtain rfl := Option.some.inj H
   have hcz53_0 : wc.cell? ⟨gb254, 0, none⟩ = some (.int .i64 t248) := (qb0 BK254.out 0).trans rfl
   have hcz53_1 : wc.cell? ⟨gb254, 1, none⟩ = some (.slice Ao9 t249.length co9) := (qb0 BK254.out 1).trans rfl
   have hfz53_0 := qa0 BK254.out 0
   have hfz53_1 := qa0 BK254.out 1
   go_wp2_with (first | ((with_reducible refine qc0 (f := 8) rfl ?_); refine qm0 (some 25) rfl rfl Try.func8 (by kernel_rfl) rfl #[.agg #[.int .i64 t248, .slice Ao9 t249.length co9], .int .i64 t252, .int .i64 t253] rfl z8_1 ?_; (with_reducible refine (impl_AddWork.calls kj4 t248 _ _ t249 t252 t253 t257 _ ?side1 ?side2 A17.out).mono ?_); (case side1 => exact z8_2); (case side2 => exact (Kd.qq0 HO_255001.out).2.1); rintro e w54 ⟨rfl, hb⟩; refine ⟨_, rfl, ?_⟩; have n0_ := Aside0.mk (Kd.qz0 z8_4 hb); have n1_ := Aside0.mk (ql0 (g := gb254) (o := .cells #[.int .i64 t248, .slice Ao9 t249.length co9] 26 (0, 0)) z8_3 hb); have n2_ := Aside0.mk (qf0 z8_0 hb); clear HO_255001; clear BK254; clear HB; have HO_255001 := n0_; have BK254 := n1_; have HB := n2_; clear n0_ n1_ n2_; (try clear hb); (try clear hb2); (try clear hk); (try clear hi); have hcz55_0 : w54.cell? ⟨gb254, 0, none⟩ = some (.int .i64 t248) := (qb0 BK254.out 0).trans rfl; have hcz55_1 : w54.cell? ⟨gb254, 1, none⟩ = some (.slice Ao9 t249.length co9) := (qb0 BK254.out 1).trans rfl; have hfz55_0 := qa0 BK254.out 0; have hfz55_1 := qa0 BK254.out 1) | ((with_reducible refine qc0 (f := 7) rfl ?_); refine qm0 (some 35) rfl rfl Try.func7 (by kernel_rfl) rfl #[.agg #[.int .i64 t248, .slice Ao9 t249.length co9], .int .i64 t257] rfl z8_1 ?_; (with_reducible refine (impl_Work.calls kj4 t248 _ _ t249 t257 false _ ?side1 ?side2 A24.out).mono ?_); (case side1 => exact z8_2); (case side2 => exact (Kd.qq0 HO_255001.out).2.1); rintro e w56 ⟨rfl, hb⟩; refine ⟨_, rfl, ?_⟩; have n0_ := Aside0.mk (Kd.qz0 z8_4 hb); have n1_ := Aside0.mk (ql0 (g := gb254) (o := .cells #[.int .i64 t248, .slice Ao9 t249.length co9] 26 (0, 0)) z8_3 hb); have n2_ := Aside0.mk (qf0 z8_0 hb); clear HO_255001; clear BK254; clear HB; have HO_255001 := n0_; have BK254 := n1_; have HB := n2_; clear n0_ n1_ n2_; (try clear hb); (try clear hb2); (try clear hk); (try clear hi)))
   go_ret
   exact ⟨z8_7, z8_0⟩

/-- THE ONE PURE STATEMENT of laws_FnWorkBack: yours. -/
def laws_FnWorkBack.Pure : Prop := ∀ (l0 : List Int), l0.length ≤ maxLen → l0.length * 1 ≤ 140737488351232 → (∀ x ∈ l0, (Lit.int .u8 x).wf = true) → ∃ k, laws_FnWorkBack.f k l0 = some true
theorem laws_FnWorkBack.walk (P : laws_FnWorkBack.Pure) (a0 : Option Addr) (len0 cap0 : Nat) (z0 : List Int) (w : World) (w0 : (a0 = none ∧ len0 = 0 ∧ cap0 = 0 ∧ z0 = []) ∨ ∃ x, a0 = some x ∧ len0 ≤ cap0 ∧ cap0 ≤ maxLen ∧ z0.length = cap0 ∧ (∀ i, i < z0.length → w.cell? (x.add i) = some (.int .u8 (z0.getD i 0))) ∧ ∀ n ∈ z0, (Lit.int .u8 n).wf = true) (y0 : len0 * 1 ≤ 140737488351232) :
  Calls Try.prog 3 #[.slice a0 len0 cap0] w fun e w' => e = .returned (.bool true) ∧ Below w.heap.size w w' := by
 obtain ⟨l0, rfl, hr0, hm0, hw0, hc0⟩ := qp0.ofRowC w0
 obtain ⟨k, h⟩ := P l0 hm0 y0 hw0
 refine (laws_FnWorkBack.calls k _ _ l0 true w (Kd.C_of_reads (d := (0 : Int)) (h1 := fun _ => rfl) hr0) hc0 h).mono ?_
 rintro e w' ⟨rfl, hd⟩
 exact ⟨rfl, hd⟩

end Go.Proofs.Ytggfggmmecbdnaa.PFnWorkBack
