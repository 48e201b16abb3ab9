/- Lines by a program (a changed copy of the kit's print: this repo's wip/tools): Go functions as Lean functions, and proofs that the calls answer so. -/
import Derived.Test.YtlodndejipjceaaZPFnExactPicksx0
import Derived.Test.YtlodndejipjceaaZPFnExactPicksx5
import Derived.Test.YtlodndejipjceaaZPFnExactPicksx6
import Derived.Test.YtlodndejipjceaaZPFnExactPicksx8
namespace Go.Proofs.Ytlodndejipjceaa.PFnExactPicks
open Go.RowKit Go.Proofs.YtlodndejipjceaaW.PrintWords Go.Proofs.YtlodndejipjceaaW.PrintLast Go.Proofs.YtlodndejipjceaaW.PrintMore
attribute [local go_sem] max2_int min2_int max_two min_two max_three min_three max_four min_four   -- for this text's walks alone
set_option linter.unusedVariables false
set_option linter.unusedSimpArgs false

/-! ### impl_Picks: function 51 -/
mutual
def impl_Picks.j0 : Nat → ByteArray → Int → Int → Bool → List (S160) → Option ((List (S162)))
 | 0, _, _, _, _, _ => none
 | k + 1, x1, x2, x3, x28, x236000 => if x28 = true then (some ([] : List (S162))) else (impl_Picks.l0 k x1 x2 x3 (([] : List Int)) x236000 (x236000.length : Int) 0 x236000)
def impl_Picks.l0 : Nat → ByteArray → Int → Int → List Int → List (S160) → Int → Int → List (S160) → Option ((List (S162)))
 | 0, _, _, _, _, _, _, _, _ => none
 | k + 1, x1, x2, x3, x9, x30, x31, x32, x236000 => if x32 < x31 then (if 0 ≤ x32 then (if x32 < (x30.length : Int) then (if ((rd_T160 x30 x32).f0).toList = x1.toList then (if ((rd_T160 x30 x32).f3) ≥ x3 then (if ((rd_T160 x30 x32).f4) > ((rd_T160 x30 x32).f5) then (if x9.length < 17592186044416 then (impl_Picks.l0 k x1 x2 x3 (x9 ++ [x32]) x30 x31 (wrap64 (x32 + 1)) x236000) else (none)) else (impl_Picks.l0 k x1 x2 x3 x9 x30 x31 (wrap64 (x32 + 1)) x236000)) else (impl_Picks.l0 k x1 x2 x3 x9 x30 x31 (wrap64 (x32 + 1)) x236000)) else (impl_Picks.l0 k x1 x2 x3 x9 x30 x31 (wrap64 (x32 + 1)) x236000)) else (none)) else (none)) else ((impl_sortBy_int.f k x9 (fun a_ b_ => impl_Picks_1.f a_ b_ x236000)).bind fun t247 => (impl_Picks.l1 k x2 (([] : List (S162))) t247 (x9.length : Int) 0 x236000))
def impl_Picks.l1 : Nat → Int → List (S162) → List Int → Int → Int → List (S160) → Option ((List (S162)))
 | 0, _, _, _, _, _, _ => none
 | k + 1, x2, x12, x63, x64, x65, x236000 => if x65 < x64 then (if 0 ≤ x65 then (if x65 < (x63.length : Int) then (if 0 ≤ (rd x63 x65) then (if (rd x63 x65) < (x236000.length : Int) then (if (wrap64 (((rd_T160 x236000 (rd x63 x65)).f4) - ((rd_T160 x236000 (rd x63 x65)).f5))) > x2 then (if x2 > 0 then (if x12.length < 8796093022208 then (impl_Picks.l1 k 0 (x12 ++ [(⟨rd x63 x65, x2⟩ : S162)]) x63 x64 (wrap64 (x65 + 1)) x236000) else (none)) else (impl_Picks.l1 k x2 x12 x63 x64 (wrap64 (x65 + 1)) x236000)) else (if (wrap64 (((rd_T160 x236000 (rd x63 x65)).f4) - ((rd_T160 x236000 (rd x63 x65)).f5))) > 0 then (if x12.length < 8796093022208 then (impl_Picks.l1 k (wrap64 (x2 - (wrap64 (((rd_T160 x236000 (rd x63 x65)).f4) - ((rd_T160 x236000 (rd x63 x65)).f5))))) (x12 ++ [(⟨rd x63 x65, wrap64 (((rd_T160 x236000 (rd x63 x65)).f4) - ((rd_T160 x236000 (rd x63 x65)).f5))⟩ : S162)]) x63 x64 (wrap64 (x65 + 1)) x236000) else (none)) else (impl_Picks.l1 k x2 x12 x63 x64 (wrap64 (x65 + 1)) x236000))) else (none)) else (none)) else (none)) else (none)) else (if x2 > 0 then (some ([] : List (S162))) else (some x12))
end
def impl_Picks.f (k : Nat) (l0 : List (S160)) (a1 : ByteArray) (a2 : Int) (a3 : Int) : Option ((List (S162))) := (impl_StockOk.f k l0).bind fun t236 => (if t236 = true then ((impl_between.f a2 1 1000000).bind fun t237 => (if t237 = true then ((impl_isDay.f a3).bind fun t238 => (impl_Picks.j0 k a1 a2 a3 (!t238) l0)) else (impl_Picks.j0 k a1 a2 a3 true l0))) else (impl_Picks.j0 k a1 a2 a3 true l0))
theorem impl_Picks.mono_l : ∀ k, (∀ y0 y1 y2 y3 y4, LeO (impl_Picks.j0 k y0 y1 y2 y3 y4) (impl_Picks.j0 (k + 1) y0 y1 y2 y3 y4)) ∧ (∀ y0 y1 y2 y3 y4 y5 y6 y7, LeO (impl_Picks.l0 k y0 y1 y2 y3 y4 y5 y6 y7) (impl_Picks.l0 (k + 1) y0 y1 y2 y3 y4 y5 y6 y7)) ∧ (∀ y0 y1 y2 y3 y4 y5, LeO (impl_Picks.l1 k y0 y1 y2 y3 y4 y5) (impl_Picks.l1 (k + 1) y0 y1 y2 y3 y4 y5))
 | 0 => ⟨fun _ _ _ _ _ r h => by simp [impl_Picks.j0] at h, fun _ _ _ _ _ _ _ _ r h => by simp [impl_Picks.l0] at h, fun _ _ _ _ _ _ r h => by simp [impl_Picks.l1] at h⟩
 | k + 1 => by
  obtain ⟨ih0, ih1, ih2⟩ := impl_Picks.mono_l k
  refine ⟨?_, ?_, ?_⟩
  ·intro y0 y1 y2 y3 y4
   unfold impl_Picks.j0
   repeat' first
   | (with_reducible exact ih0 _ _ _ _ _)
   | (with_reducible exact ih1 _ _ _ _ _ _ _ _)
   | (with_reducible exact ih2 _ _ _ _ _ _)
   | (with_reducible exact impl_StockOk.mono _ _)
   | (with_reducible exact impl_sortBy_int.mono _ _ _)
   | (with_reducible exact LeO.refl _)
   | (with_reducible exact LeO.none _)
   | (with_reducible refine LeO.ite ?_ ?_)
   | (with_reducible refine LeO.bind ?_ (fun _ => ?_))
   | exact ih0 _ _ _ _ _
   | exact ih1 _ _ _ _ _ _ _ _
   | exact ih2 _ _ _ _ _ _
   | exact impl_StockOk.mono _ _
   | exact impl_sortBy_int.mono _ _ _
   | exact LeO.none _
   | refine LeO.ite ?_ ?_
   | refine LeO.bind ?_ (fun _ => ?_)
  ·intro y0 y1 y2 y3 y4 y5 y6 y7
   unfold impl_Picks.l0
   repeat' first
   | (with_reducible exact ih0 _ _ _ _ _)
   | (with_reducible exact ih1 _ _ _ _ _ _ _ _)
   | (with_reducible exact ih2 _ _ _ _ _ _)
   | (with_reducible exact impl_StockOk.mono _ _)
   | (with_reducible exact impl_sortBy_int.mono _ _ _)
   | (with_reducible exact LeO.refl _)
   | (with_reducible exact LeO.none _)
   | (with_reducible refine LeO.ite ?_ ?_)
   | (with_reducible refine LeO.bind ?_ (fun _ => ?_))
   | exact ih0 _ _ _ _ _
   | exact ih1 _ _ _ _ _ _ _ _
   | exact ih2 _ _ _ _ _ _
   | exact impl_StockOk.mono _ _
   | exact impl_sortBy_int.mono _ _ _
   | exact LeO.none _
   | refine LeO.ite ?_ ?_
   | refine LeO.bind ?_ (fun _ => ?_)
  ·intro y0 y1 y2 y3 y4 y5
   unfold impl_Picks.l1
   repeat' first
   | (with_reducible exact ih0 _ _ _ _ _)
   | (with_reducible exact ih1 _ _ _ _ _ _ _ _)
   | (with_reducible exact ih2 _ _ _ _ _ _)
   | (with_reducible exact impl_StockOk.mono _ _)
   | (with_reducible exact impl_sortBy_int.mono _ _ _)
   | (with_reducible exact LeO.refl _)
   | (with_reducible exact LeO.none _)
   | (with_reducible refine LeO.ite ?_ ?_)
   | (with_reducible refine LeO.bind ?_ (fun _ => ?_))
   | exact ih0 _ _ _ _ _
   | exact ih1 _ _ _ _ _ _ _ _
   | exact ih2 _ _ _ _ _ _
   | exact impl_StockOk.mono _ _
   | exact impl_sortBy_int.mono _ _ _
   | exact LeO.none _
   | refine LeO.ite ?_ ?_
   | refine LeO.bind ?_ (fun _ => ?_)
theorem impl_Picks.mono : ∀ a0 a1 a2 a3 k, LeO (impl_Picks.f k a0 a1 a2 a3) (impl_Picks.f (k + 1) a0 a1 a2 a3) := by
 intro a0 a1 a2 a3 k
 obtain ⟨ih0, ih1, ih2⟩ := impl_Picks.mono_l k
 unfold impl_Picks.f
 repeat' first
   | (with_reducible exact ih0 _ _ _ _ _)
   | (with_reducible exact ih1 _ _ _ _ _ _ _ _)
   | (with_reducible exact ih2 _ _ _ _ _ _)
   | (with_reducible exact impl_StockOk.mono _ _)
   | (with_reducible exact impl_sortBy_int.mono _ _ _)
   | (with_reducible exact LeO.refl _)
   | (with_reducible exact LeO.none _)
   | (with_reducible refine LeO.ite ?_ ?_)
   | (with_reducible refine LeO.bind ?_ (fun _ => ?_))
   | exact ih0 _ _ _ _ _
   | exact ih1 _ _ _ _ _ _ _ _
   | exact ih2 _ _ _ _ _ _
   | exact impl_StockOk.mono _ _
   | exact impl_sortBy_int.mono _ _ _
   | exact LeO.none _
   | refine LeO.ite ?_ ?_
   | refine LeO.bind ?_ (fun _ => ?_)
set_option maxHeartbeats 8000000 in
set_option maxRecDepth 100000 in
theorem impl_Picks.calls (k : Nat) (A0 : Option Addr) (c0 : Nat) (l0 : List (S160)) (a1 : ByteArray) (a2 : Int) (a3 : Int) (r : List (S162)) (w : World) (hr0 : Kd.C k160 w A0 l0.length l0) (hc0 : l0.length ≤ c0) (h : impl_Picks.f k l0 a1 a2 a3 = some r) :
  Calls Try.prog 51 #[.slice A0 l0.length c0, .string a1, .int .i64 a2, .int .i64 a3] w fun e w' => ∃ v0_ : Value, e = .returned (v0_) ∧ Kd.R k162 162 w' w.heap.size (fun _ => True) v0_ r ∧ Below w.heap.size w w' := by
 have hu160 := Try.underlying160
 have hu162 := Try.underlying162
 have hmf : ∀ (fn : Fn) (first cap : Array Value) (w : World), (Instr.makeFunc fn first cap).run Try.prog w = .ok (.func fn first cap) w := fun _ _ _ _ => rfl
 have HR0 := Aside0.mk hr0
 have HC0 := Aside0.mk hc0
 clear hr0 hc0
 have HB := Aside0.mk (Below.refl w.heap.size w)
 have H : ((impl_StockOk.f k l0).bind fun t236 => (if t236 = true then ((impl_between.f a2 1 1000000).bind fun t237 => (if t237 = true then ((impl_isDay.f a3).bind fun t238 => (impl_Picks.j0 k a1 a2 a3 (!t238) l0)) else (impl_Picks.j0 k a1 a2 a3 true l0))) else (impl_Picks.j0 k a1 a2 a3 true l0))) = some r := h
 clear h
 have HC5 := Aside0.mk H
 clear H
 go_enter Try.func51, Try.ntmps51
 go_upto_region 1 with (first | ((with_reducible refine qs0 (N := 4) rfl ?_); refine qt0 ?hg (N := 4) ?hd (cs := #[.slice A0 l0.length c0]) (t := 74) ?hr ?_; (case hd => rfl); (case hg => rfl); (case hr => first | (go_simp; done) | (go_simp; rfl)); intro gb235 hg w6 hbox hb; have n0_ := Aside0.mk (qm0 (by repeat (first | (with_reducible first | exact HB.out | apply qc0 | apply qa0 | apply qb0) | exact HB.out)) hb); have n1_ := Aside0.mk (hbox); have n2_ := Aside0.mk ((by rw [hg]; exact (qi0 (by repeat (first | (with_reducible first | exact HB.out | apply qc0 | apply qa0 | apply qb0) | exact HB.out))) : w.heap.size ≤ gb235)); have n3_ := Aside0.mk ((by rw [hg]; exact (qi0 (by repeat (first | (with_reducible first | exact HB.out | apply qc0 | apply qa0 | apply qb0) | exact HB.out))) : w.heap.size ≤ gb235)); clear HB; have HB := n0_; have BK235 := n1_; have GW235 := n2_; have GE235 := n3_; clear n0_ n1_ n2_ n3_; clear hb hbox hg))
 repeat (go_quiet (first | ((with_reducible refine qs0 (N := 4) rfl ?_); refine qt0 ?hg (N := 4) ?hd (cs := #[.slice A0 l0.length c0]) (t := 74) ?hr ?_; (case hd => rfl); (case hg => rfl); (case hr => first | (go_simp; done) | (go_simp; rfl)); intro gb235 hg w6 hbox hb; have n0_ := Aside0.mk (qm0 (by repeat (first | (with_reducible first | exact HB.out | apply qc0 | apply qa0 | apply qb0) | exact HB.out)) hb); have n1_ := Aside0.mk (hbox); have n2_ := Aside0.mk ((by rw [hg]; exact (qi0 (by repeat (first | (with_reducible first | exact HB.out | apply qc0 | apply qa0 | apply qb0) | exact HB.out))) : w.heap.size ≤ gb235)); have n3_ := Aside0.mk ((by rw [hg]; exact (qi0 (by repeat (first | (with_reducible first | exact HB.out | apply qc0 | apply qa0 | apply qb0) | exact HB.out))) : w.heap.size ≤ gb235)); clear HB; have HB := n0_; have BK235 := n1_; have GW235 := n2_; have GE235 := n3_; clear n0_ n1_ n2_ n3_; clear hb hbox hg)); go_upto_region 1 with (first | ((with_reducible refine qs0 (N := 4) rfl ?_); refine qt0 ?hg (N := 4) ?hd (cs := #[.slice A0 l0.length c0]) (t := 74) ?hr ?_; (case hd => rfl); (case hg => rfl); (case hr => first | (go_simp; done) | (go_simp; rfl)); intro gb235 hg w6 hbox hb; have n0_ := Aside0.mk (qm0 (by repeat (first | (with_reducible first | exact HB.out | apply qc0 | apply qa0 | apply qb0) | exact HB.out)) hb); have n1_ := Aside0.mk (hbox); have n2_ := Aside0.mk ((by rw [hg]; exact (qi0 (by repeat (first | (with_reducible first | exact HB.out | apply qc0 | apply qa0 | apply qb0) | exact HB.out))) : w.heap.size ≤ gb235)); have n3_ := Aside0.mk ((by rw [hg]; exact (qi0 (by repeat (first | (with_reducible first | exact HB.out | apply qc0 | apply qa0 | apply qb0) | exact HB.out))) : w.heap.size ≤ gb235)); clear HB; have HB := n0_; have BK235 := n1_; have GW235 := n2_; have GE235 := n3_; clear n0_ n1_ n2_ n3_; clear hb hbox hg)))
 (try simp only [Act.put, List.setIfInBounds_toArray, List.set_cons_zero, List.set_cons_succ])
 go_cut [28] (fun v28 wc => ∃ (kq : Nat) (x28_4 : Bool), v28 = .bool x28_4 ∧ Aside0 (impl_Picks.j0 kq a1 a2 a3 x28_4 l0 = some r) ∧ Aside0 (kq ≤ k) ∧ Aside0 (wc.heap[gb235]? = some (.cells #[(.slice A0 l0.length c0)] 74 (0, 0))) ∧ Aside0 (Below w.heap.size w wc))
 case first =>
  have H := HC5.out
  clear HC5
  replace H := Option.bind_eq_some_iff.mp H
  obtain ⟨t236, A70, H⟩ := H
  replace H : (if t236 = true then ((impl_between.f a2 1 1000000).bind fun t237 => (if t237 = true then ((impl_isDay.f a3).bind fun t238 => (impl_Picks.j0 k a1 a2 a3 (!t238) l0)) else (impl_Picks.j0 k a1 a2 a3 true l0))) else (impl_Picks.j0 k a1 a2 a3 true l0)) = some r := H
  have A7 := Aside0.mk A70
  clear A70
  by_cases c8 : t236 = true
  ·subst c8
   have H1 : ((impl_between.f a2 1 1000000).bind fun t237 => (if t237 = true then ((impl_isDay.f a3).bind fun t238 => (impl_Picks.j0 k a1 a2 a3 (!t238) l0)) else (impl_Picks.j0 k a1 a2 a3 true l0))) = some r := by rw [if_pos rfl] at H; exact H
   clear H
   have H := H1
   clear H1
   replace H := Option.bind_eq_some_iff.mp H
   obtain ⟨t237, A90, H⟩ := H
   replace H : (if t237 = true then ((impl_isDay.f a3).bind fun t238 => (impl_Picks.j0 k a1 a2 a3 (!t238) l0)) else (impl_Picks.j0 k a1 a2 a3 true l0)) = some r := H
   have A9 := Aside0.mk A90
   clear A90
   by_cases c10 : t237 = true
   ·subst c10
    have H1 : ((impl_isDay.f a3).bind fun t238 => (impl_Picks.j0 k a1 a2 a3 (!t238) l0)) = some r := by rw [if_pos rfl] at H; exact H
    clear H
    have H := H1
    clear H1
    replace H := Option.bind_eq_some_iff.mp H
    obtain ⟨t238, A110, H⟩ := H
    replace H : (impl_Picks.j0 k a1 a2 a3 (!t238) l0) = some r := H
    have A11 := Aside0.mk A110
    clear A110
    have H' := Aside0.mk H
    clear H
    have hcz12_0 : w6.cell? ⟨gb235, 0, none⟩ = some (.slice A0 l0.length c0) := (qe0 BK235.out 0).trans rfl
    have hfz12_0 := qd0 BK235.out 0
    go_wp2_with (first | (go_at_call 126; (with_reducible refine (impl_StockOk.calls k _ _ l0 true _ ?side1 ?side2 A7.out).mono ?_); (case side1 => repeat (first | exact (Kd.qh1 HR0.out HB.out) | (with_reducible refine Kd.qw0 ?_ _) | (with_reducible refine Kd.qv0 ?_ _) | (with_reducible refine Kd.qz0 ?_))); (case side2 => exact HC0.out); rintro e w13 ⟨rfl, hb⟩; have n0_ := Aside0.mk (qx0 (g := gb235) (o := .cells #[.slice A0 l0.length c0] 74 (0, 0)) (by (with_reducible repeat (first | refine qf0 ?_ _ | refine qj0 ?_ | refine qg0 ?_ _)); exact BK235.out) hb); have n1_ := Aside0.mk (qm0 (by repeat (first | (with_reducible first | exact HB.out | apply qc0 | apply qa0 | apply qb0 | refine qh0 ?_ GE235.out) | exact HB.out)) hb); clear BK235; clear HB; have BK235 := n0_; have HB := n1_; clear n0_ n1_; (try clear hb); (try clear hb2); (try clear hk); (try clear hi)) | (go_at_call 97; (with_reducible refine (impl_between.calls a2 1 1000000 true _ A9.out).mono ?_); rintro e w' ⟨rfl, ⟨nd, rfl⟩⟩; (try first | exact ⟨rfl, _, World.drewN_drewN _ _ _⟩ | exact ⟨rfl, _, Eq.trans (World.drewN_drewN _ _ _) (congrArg (World.drewN _) (Nat.add_assoc _ _ _))⟩)) | (go_at_call 94; (with_reducible refine (impl_isDay.calls a3 t238 _ A11.out).mono ?_); rintro e w' ⟨rfl, ⟨nd, rfl⟩⟩; (try first | exact ⟨rfl, _, World.drewN_drewN _ _ _⟩ | exact ⟨rfl, _, Eq.trans (World.drewN_drewN _ _ _) (congrArg (World.drewN _) (Nat.add_assoc _ _ _))⟩)))
    repeat (go_quiet (first | (go_at_call 126; (with_reducible refine (impl_StockOk.calls k _ _ l0 true _ ?side1 ?side2 A7.out).mono ?_); (case side1 => repeat (first | exact (Kd.qh1 HR0.out HB.out) | (with_reducible refine Kd.qw0 ?_ _) | (with_reducible refine Kd.qv0 ?_ _) | (with_reducible refine Kd.qz0 ?_))); (case side2 => exact HC0.out); rintro e w13 ⟨rfl, hb⟩; have n0_ := Aside0.mk (qx0 (g := gb235) (o := .cells #[.slice A0 l0.length c0] 74 (0, 0)) (by (with_reducible repeat (first | refine qf0 ?_ _ | refine qj0 ?_ | refine qg0 ?_ _)); exact BK235.out) hb); have n1_ := Aside0.mk (qm0 (by repeat (first | (with_reducible first | exact HB.out | apply qc0 | apply qa0 | apply qb0 | refine qh0 ?_ GE235.out) | exact HB.out)) hb); clear BK235; clear HB; have BK235 := n0_; have HB := n1_; clear n0_ n1_; (try clear hb); (try clear hb2); (try clear hk); (try clear hi)) | (go_at_call 97; (with_reducible refine (impl_between.calls a2 1 1000000 true _ A9.out).mono ?_); rintro e w' ⟨rfl, ⟨nd, rfl⟩⟩; (try first | exact ⟨rfl, _, World.drewN_drewN _ _ _⟩ | exact ⟨rfl, _, Eq.trans (World.drewN_drewN _ _ _) (congrArg (World.drewN _) (Nat.add_assoc _ _ _))⟩)) | (go_at_call 94; (with_reducible refine (impl_isDay.calls a3 t238 _ A11.out).mono ?_); rintro e w' ⟨rfl, ⟨nd, rfl⟩⟩; (try first | exact ⟨rfl, _, World.drewN_drewN _ _ _⟩ | exact ⟨rfl, _, Eq.trans (World.drewN_drewN _ _ _) (congrArg (World.drewN _) (Nat.add_assoc _ _ _))⟩))); try go_wp2_with (first | (go_at_call 126; (with_reducible refine (impl_StockOk.calls k _ _ l0 true _ ?side1 ?side2 A7.out).mono ?_); (case side1 => repeat (first | exact (Kd.qh1 HR0.out HB.out) | (with_reducible refine Kd.qw0 ?_ _) | (with_reducible refine Kd.qv0 ?_ _) | (with_reducible refine Kd.qz0 ?_))); (case side2 => exact HC0.out); rintro e w13 ⟨rfl, hb⟩; have n0_ := Aside0.mk (qx0 (g := gb235) (o := .cells #[.slice A0 l0.length c0] 74 (0, 0)) (by (with_reducible repeat (first | refine qf0 ?_ _ | refine qj0 ?_ | refine qg0 ?_ _)); exact BK235.out) hb); have n1_ := Aside0.mk (qm0 (by repeat (first | (with_reducible first | exact HB.out | apply qc0 | apply qa0 | apply qb0 | refine qh0 ?_ GE235.out) | exact HB.out)) hb); clear BK235; clear HB; have BK235 := n0_; have HB := n1_; clear n0_ n1_; (try clear hb); (try clear hb2); (try clear hk); (try clear hi)) | (go_at_call 97; (with_reducible refine (impl_between.calls a2 1 1000000 true _ A9.out).mono ?_); rintro e w' ⟨rfl, ⟨nd, rfl⟩⟩; (try first | exact ⟨rfl, _, World.drewN_drewN _ _ _⟩ | exact ⟨rfl, _, Eq.trans (World.drewN_drewN _ _ _) (congrArg (World.drewN _) (Nat.add_assoc _ _ _))⟩)) | (go_at_call 94; (with_reducible refine (impl_isDay.calls a3 t238 _ A11.out).mono ?_); rintro e w' ⟨rfl, ⟨nd, rfl⟩⟩; (try first | exact ⟨rfl, _, World.drewN_drewN _ _ _⟩ | exact ⟨rfl, _, Eq.trans (World.drewN_drewN _ _ _) (congrArg (World.drewN _) (Nat.add_assoc _ _ _))⟩))))
    go_meet
    case rel => exact ⟨_, (!t238), (by first | rfl | (simp; done) | (simp [*]; done)), H', ⟨by first | omega | exact Nat.le_refl _⟩, ⟨by (with_reducible repeat (first | refine qf0 ?_ _ | refine qj0 ?_ | refine qg0 ?_ _)); exact BK235.out⟩, ⟨by repeat (first | (with_reducible first | exact HB.out | apply qc0 | apply qa0 | apply qb0 | refine qh0 ?_ GE235.out) | exact HB.out)⟩⟩
   replace c10 := Bool.eq_false_iff.mpr c10
   subst c10
   have H1 : (impl_Picks.j0 k a1 a2 a3 true l0) = some r := by rw [if_neg (show ¬ (false = true) by decide)] at H; exact H
   clear H
   have H := H1
   clear H1
   have H' := Aside0.mk H
   clear H
   have hcz14_0 : w6.cell? ⟨gb235, 0, none⟩ = some (.slice A0 l0.length c0) := (qe0 BK235.out 0).trans rfl
   have hfz14_0 := qd0 BK235.out 0
   go_wp2_with (first | (go_at_call 126; (with_reducible refine (impl_StockOk.calls k _ _ l0 true _ ?side1 ?side2 A7.out).mono ?_); (case side1 => repeat (first | exact (Kd.qh1 HR0.out HB.out) | (with_reducible refine Kd.qw0 ?_ _) | (with_reducible refine Kd.qv0 ?_ _) | (with_reducible refine Kd.qz0 ?_))); (case side2 => exact HC0.out); rintro e w15 ⟨rfl, hb⟩; have n0_ := Aside0.mk (qx0 (g := gb235) (o := .cells #[.slice A0 l0.length c0] 74 (0, 0)) (by (with_reducible repeat (first | refine qf0 ?_ _ | refine qj0 ?_ | refine qg0 ?_ _)); exact BK235.out) hb); have n1_ := Aside0.mk (qm0 (by repeat (first | (with_reducible first | exact HB.out | apply qc0 | apply qa0 | apply qb0 | refine qh0 ?_ GE235.out) | exact HB.out)) hb); clear BK235; clear HB; have BK235 := n0_; have HB := n1_; clear n0_ n1_; (try clear hb); (try clear hb2); (try clear hk); (try clear hi)) | (go_at_call 97; (with_reducible refine (impl_between.calls a2 1 1000000 false _ A9.out).mono ?_); rintro e w' ⟨rfl, ⟨nd, rfl⟩⟩; (try first | exact ⟨rfl, _, World.drewN_drewN _ _ _⟩ | exact ⟨rfl, _, Eq.trans (World.drewN_drewN _ _ _) (congrArg (World.drewN _) (Nat.add_assoc _ _ _))⟩)))
   repeat (go_quiet (first | (go_at_call 126; (with_reducible refine (impl_StockOk.calls k _ _ l0 true _ ?side1 ?side2 A7.out).mono ?_); (case side1 => repeat (first | exact (Kd.qh1 HR0.out HB.out) | (with_reducible refine Kd.qw0 ?_ _) | (with_reducible refine Kd.qv0 ?_ _) | (with_reducible refine Kd.qz0 ?_))); (case side2 => exact HC0.out); rintro e w15 ⟨rfl, hb⟩; have n0_ := Aside0.mk (qx0 (g := gb235) (o := .cells #[.slice A0 l0.length c0] 74 (0, 0)) (by (with_reducible repeat (first | refine qf0 ?_ _ | refine qj0 ?_ | refine qg0 ?_ _)); exact BK235.out) hb); have n1_ := Aside0.mk (qm0 (by repeat (first | (with_reducible first | exact HB.out | apply qc0 | apply qa0 | apply qb0 | refine qh0 ?_ GE235.out) | exact HB.out)) hb); clear BK235; clear HB; have BK235 := n0_; have HB := n1_; clear n0_ n1_; (try clear hb); (try clear hb2); (try clear hk); (try clear hi)) | (go_at_call 97; (with_reducible refine (impl_between.calls a2 1 1000000 false _ A9.out).mono ?_); rintro e w' ⟨rfl, ⟨nd, rfl⟩⟩; (try first | exact ⟨rfl, _, World.drewN_drewN _ _ _⟩ | exact ⟨rfl, _, Eq.trans (World.drewN_drewN _ _ _) (congrArg (World.drewN _) (Nat.add_assoc _ _ _))⟩))); try go_wp2_with (first | (go_at_call 126; (with_reducible refine (impl_StockOk.calls k _ _ l0 true _ ?side1 ?side2 A7.out).mono ?_); (case side1 => repeat (first | exact (Kd.qh1 HR0.out HB.out) | (with_reducible refine Kd.qw0 ?_ _) | (with_reducible refine Kd.qv0 ?_ _) | (with_reducible refine Kd.qz0 ?_))); (case side2 => exact HC0.out); rintro e w15 ⟨rfl, hb⟩; have n0_ := Aside0.mk (qx0 (g := gb235) (o := .cells #[.slice A0 l0.length c0] 74 (0, 0)) (by (with_reducible repeat (first | refine qf0 ?_ _ | refine qj0 ?_ | refine qg0 ?_ _)); exact BK235.out) hb); have n1_ := Aside0.mk (qm0 (by repeat (first | (with_reducible first | exact HB.out | apply qc0 | apply qa0 | apply qb0 | refine qh0 ?_ GE235.out) | exact HB.out)) hb); clear BK235; clear HB; have BK235 := n0_; have HB := n1_; clear n0_ n1_; (try clear hb); (try clear hb2); (try clear hk); (try clear hi)) | (go_at_call 97; (with_reducible refine (impl_between.calls a2 1 1000000 false _ A9.out).mono ?_); rintro e w' ⟨rfl, ⟨nd, rfl⟩⟩; (try first | exact ⟨rfl, _, World.drewN_drewN _ _ _⟩ | exact ⟨rfl, _, Eq.trans (World.drewN_drewN _ _ _) (congrArg (World.drewN _) (Nat.add_assoc _ _ _))⟩))))
   go_meet
   case rel => exact ⟨_, (true), (by first | rfl | (simp; done) | (simp [*]; done)), H', ⟨by first | omega | exact Nat.le_refl _⟩, ⟨by (with_reducible repeat (first | refine qf0 ?_ _ | refine qj0 ?_ | refine qg0 ?_ _)); exact BK235.out⟩, ⟨by repeat (first | (with_reducible first | exact HB.out | apply qc0 | apply qa0 | apply qb0 | refine qh0 ?_ GE235.out) | exact HB.out)⟩⟩
  replace c8 := Bool.eq_false_iff.mpr c8
  subst c8
  have H1 : (impl_Picks.j0 k a1 a2 a3 true l0) = some r := by rw [if_neg (show ¬ (false = true) by decide)] at H; exact H
  clear H
  have H := H1
  clear H1
  have H' := Aside0.mk H
  clear H
  have hcz16_0 : w6.cell? ⟨gb235, 0, none⟩ = some (.slice A0 l0.length c0) := (qe0 BK235.out 0).trans rfl
  have hfz16_0 := qd0 BK235.out 0
  go_wp2_with (first | (go_at_call 126; (with_reducible refine (impl_StockOk.calls k _ _ l0 false _ ?side1 ?side2 A7.out).mono ?_); (case side1 => repeat (first | exact (Kd.qh1 HR0.out HB.out) | (with_reducible refine Kd.qw0 ?_ _) | (with_reducible refine Kd.qv0 ?_ _) | (with_reducible refine Kd.qz0 ?_))); (case side2 => exact HC0.out); rintro e w17 ⟨rfl, hb⟩; have n0_ := Aside0.mk (qx0 (g := gb235) (o := .cells #[.slice A0 l0.length c0] 74 (0, 0)) (by (with_reducible repeat (first | refine qf0 ?_ _ | refine qj0 ?_ | refine qg0 ?_ _)); exact BK235.out) hb); have n1_ := Aside0.mk (qm0 (by repeat (first | (with_reducible first | exact HB.out | apply qc0 | apply qa0 | apply qb0 | refine qh0 ?_ GE235.out) | exact HB.out)) hb); clear BK235; clear HB; have BK235 := n0_; have HB := n1_; clear n0_ n1_; (try clear hb); (try clear hb2); (try clear hk); (try clear hi)))
  repeat (go_quiet (first | (go_at_call 126; (with_reducible refine (impl_StockOk.calls k _ _ l0 false _ ?side1 ?side2 A7.out).mono ?_); (case side1 => repeat (first | exact (Kd.qh1 HR0.out HB.out) | (with_reducible refine Kd.qw0 ?_ _) | (with_reducible refine Kd.qv0 ?_ _) | (with_reducible refine Kd.qz0 ?_))); (case side2 => exact HC0.out); rintro e w17 ⟨rfl, hb⟩; have n0_ := Aside0.mk (qx0 (g := gb235) (o := .cells #[.slice A0 l0.length c0] 74 (0, 0)) (by (with_reducible repeat (first | refine qf0 ?_ _ | refine qj0 ?_ | refine qg0 ?_ _)); exact BK235.out) hb); have n1_ := Aside0.mk (qm0 (by repeat (first | (with_reducible first | exact HB.out | apply qc0 | apply qa0 | apply qb0 | refine qh0 ?_ GE235.out) | exact HB.out)) hb); clear BK235; clear HB; have BK235 := n0_; have HB := n1_; clear n0_ n1_; (try clear hb); (try clear hb2); (try clear hk); (try clear hi))); try go_wp2_with (first | (go_at_call 126; (with_reducible refine (impl_StockOk.calls k _ _ l0 false _ ?side1 ?side2 A7.out).mono ?_); (case side1 => repeat (first | exact (Kd.qh1 HR0.out HB.out) | (with_reducible refine Kd.qw0 ?_ _) | (with_reducible refine Kd.qv0 ?_ _) | (with_reducible refine Kd.qz0 ?_))); (case side2 => exact HC0.out); rintro e w17 ⟨rfl, hb⟩; have n0_ := Aside0.mk (qx0 (g := gb235) (o := .cells #[.slice A0 l0.length c0] 74 (0, 0)) (by (with_reducible repeat (first | refine qf0 ?_ _ | refine qj0 ?_ | refine qg0 ?_ _)); exact BK235.out) hb); have n1_ := Aside0.mk (qm0 (by repeat (first | (with_reducible first | exact HB.out | apply qc0 | apply qa0 | apply qb0 | refine qh0 ?_ GE235.out) | exact HB.out)) hb); clear BK235; clear HB; have BK235 := n0_; have HB := n1_; clear n0_ n1_; (try clear hb); (try clear hb2); (try clear hk); (try clear hi))))
  go_meet
  case rel => exact ⟨_, (true), (by first | rfl | (simp; done) | (simp [*]; done)), H', ⟨by first | omega | exact Nat.le_refl _⟩, ⟨by (with_reducible repeat (first | refine qf0 ?_ _ | refine qj0 ?_ | refine qg0 ?_ _)); exact BK235.out⟩, ⟨by repeat (first | (with_reducible first | exact HB.out | apply qc0 | apply qa0 | apply qb0 | refine qh0 ?_ GE235.out) | exact HB.out)⟩⟩
 case rest =>
  clear HC5
  try clear c1
  try clear p2
  try clear c5
  try clear c8
  try clear c10
  try clear hcz12_0
  try clear hcz14_0
  try clear hcz16_0
  try clear hfz12_0
  try clear hfz14_0
  try clear hfz16_0
  obtain ⟨kq, x28_4, rfl, HA, HJ4, BK235, HB⟩ := hcut
  cases kq with
  | zero => exact absurd HA.out (by simp [impl_Picks.j0])
  | succ kj4 =>
   have H := HA.out
   clear HA
   simp only [impl_Picks.j0] at H
   by_cases c18 : x28_4 = true
   ·subst c18
    have H1 : (some ([] : List (S162))) = some r := by rw [if_pos rfl] at H; exact H
    clear H
    have H := H1
    clear H1
    obtain rfl := Option.some.inj H
    go_wp2
    repeat (go_quiet (fail); try go_wp2)
    go_ret
    exact ⟨_, by first | rfl | (simp [errW_none, errW_some] <;> rfl) | (simp [*, errW_none, errW_some] <;> rfl), by first | exact Kd.R_nil _ _ _ _ _ | exact Kd.N_nil _ _ _ _ _ | exact Kd.V_nil _ _ _ _ _ | exact Kd.Q_nil _ _ _ _ _ | exact Kd.S_nil _ _ _ _ _, by repeat (first | (with_reducible first | exact HB.out | apply qc0 | apply qa0 | apply qb0 | refine qh0 ?_ GE235.out) | exact HB.out)⟩
   replace c18 := Bool.eq_false_iff.mpr c18
   subst c18
   have H1 : (impl_Picks.l0 kj4 a1 a2 a3 (([] : List Int)) l0 (l0.length : Int) 0 l0) = some r := by rw [if_neg (show ¬ (false = true) by decide)] at H; exact H
   clear H
   have H := H1
   clear H1
   obtain ⟨y239, hy239⟩ : ∃ y_ : List Int, y_ = (([] : List Int)) := ⟨_, rfl⟩
   replace H : (impl_Picks.l0 kj4 a1 a2 a3 y239 l0 (l0.length : Int) 0 l0) = some r := by first | (rw [hy239]; with_reducible exact H) | (have H2_ := (Option.bind_some _ _).symm.trans H; rw [hy239]; with_reducible exact H2_) | (have H2_ := (Option.bind_some _ _).symm.trans H; with_reducible exact H2_) | with_reducible exact H | (rw [hy239]; exact H) | exact H
   have Ny239 := Aside0.mk hy239
   clear hy239
   have H' := Aside0.mk H
   clear H
   go_wp2_with (first | ((with_reducible refine qs0 (N := 29) rfl ?_); refine Kd.R_lit (Kd.int .i64) _ 3 ?hg (N := 29) ?hd (xs := ([] : List Int)) (inner := []) (ok := fun _ => True) (okp := fun _ => True) ?hr ?hp (fun _ hk => hk) trivial (Below.refl _ _) (Nat.le_refl _) (by simp) ?_; (case hd => rfl); (case hg => rfl); (case hr => first | (go_simp; done) | (go_simp; rfl)); (case hp => exact (Reps.none _ _)); intro v240 w19 ho20 hb hg_ hnew_; clear hg_ hnew_; (first | rw [← Ny239.out] at ho20 | (simp only [Int.reduceToNat] at ho20; rw [← Ny239.out] at ho20)); have n0_ := Aside0.mk (Kd.qf1 ho20 (qi0 (by repeat (first | (with_reducible first | exact HB.out | apply qc0 | apply qa0 | apply qb0 | refine qh0 ?_ GE235.out) | exact HB.out)))); have n1_ := Aside0.mk (qx0 (g := gb235) (o := .cells #[.slice A0 l0.length c0] 74 (0, 0)) (by (with_reducible repeat (first | refine qf0 ?_ _ | refine qj0 ?_ | refine qg0 ?_ _)); exact BK235.out) hb); have n2_ := Aside0.mk (qm0 (by repeat (first | (with_reducible first | exact HB.out | apply qc0 | apply qa0 | apply qb0 | refine qh0 ?_ GE235.out) | exact HB.out)) hb); clear BK235; clear HB; have HO241 := n0_; have BK235 := n1_; have HB := n2_; clear n0_ n1_ n2_; clear hb ho20; have hcz21_0 : w19.cell? ⟨gb235, 0, none⟩ = some (.slice A0 l0.length c0) := (qe0 BK235.out 0).trans rfl; have hfz21_0 := qd0 BK235.out 0))
   repeat (go_quiet (first | ((with_reducible refine qs0 (N := 29) rfl ?_); refine Kd.R_lit (Kd.int .i64) _ 3 ?hg (N := 29) ?hd (xs := ([] : List Int)) (inner := []) (ok := fun _ => True) (okp := fun _ => True) ?hr ?hp (fun _ hk => hk) trivial (Below.refl _ _) (Nat.le_refl _) (by simp) ?_; (case hd => rfl); (case hg => rfl); (case hr => first | (go_simp; done) | (go_simp; rfl)); (case hp => exact (Reps.none _ _)); intro v240 w19 ho20 hb hg_ hnew_; clear hg_ hnew_; (first | rw [← Ny239.out] at ho20 | (simp only [Int.reduceToNat] at ho20; rw [← Ny239.out] at ho20)); have n0_ := Aside0.mk (Kd.qf1 ho20 (qi0 (by repeat (first | (with_reducible first | exact HB.out | apply qc0 | apply qa0 | apply qb0 | refine qh0 ?_ GE235.out) | exact HB.out)))); have n1_ := Aside0.mk (qx0 (g := gb235) (o := .cells #[.slice A0 l0.length c0] 74 (0, 0)) (by (with_reducible repeat (first | refine qf0 ?_ _ | refine qj0 ?_ | refine qg0 ?_ _)); exact BK235.out) hb); have n2_ := Aside0.mk (qm0 (by repeat (first | (with_reducible first | exact HB.out | apply qc0 | apply qa0 | apply qb0 | refine qh0 ?_ GE235.out) | exact HB.out)) hb); clear BK235; clear HB; have HO241 := n0_; have BK235 := n1_; have HB := n2_; clear n0_ n1_ n2_; clear hb ho20; have hcz21_0 : w19.cell? ⟨gb235, 0, none⟩ = some (.slice A0 l0.length c0) := (qe0 BK235.out 0).trans rfl; have hfz21_0 := qd0 BK235.out 0)); try go_wp2_with (first | ((with_reducible refine qs0 (N := 29) rfl ?_); refine Kd.R_lit (Kd.int .i64) _ 3 ?hg (N := 29) ?hd (xs := ([] : List Int)) (inner := []) (ok := fun _ => True) (okp := fun _ => True) ?hr ?hp (fun _ hk => hk) trivial (Below.refl _ _) (Nat.le_refl _) (by simp) ?_; (case hd => rfl); (case hg => rfl); (case hr => first | (go_simp; done) | (go_simp; rfl)); (case hp => exact (Reps.none _ _)); intro v240 w19 ho20 hb hg_ hnew_; clear hg_ hnew_; (first | rw [← Ny239.out] at ho20 | (simp only [Int.reduceToNat] at ho20; rw [← Ny239.out] at ho20)); have n0_ := Aside0.mk (Kd.qf1 ho20 (qi0 (by repeat (first | (with_reducible first | exact HB.out | apply qc0 | apply qa0 | apply qb0 | refine qh0 ?_ GE235.out) | exact HB.out)))); have n1_ := Aside0.mk (qx0 (g := gb235) (o := .cells #[.slice A0 l0.length c0] 74 (0, 0)) (by (with_reducible repeat (first | refine qf0 ?_ _ | refine qj0 ?_ | refine qg0 ?_ _)); exact BK235.out) hb); have n2_ := Aside0.mk (qm0 (by repeat (first | (with_reducible first | exact HB.out | apply qc0 | apply qa0 | apply qb0 | refine qh0 ?_ GE235.out) | exact HB.out)) hb); clear BK235; clear HB; have HO241 := n0_; have BK235 := n1_; have HB := n2_; clear n0_ n1_ n2_; clear hb ho20; have hcz21_0 : w19.cell? ⟨gb235, 0, none⟩ = some (.slice A0 l0.length c0) := (qe0 BK235.out 0).trans rfl; have hfz21_0 := qd0 BK235.out 0)))
   go_loopg [9, 32] kj4 (fun kq v9 v32 w' => ∃ (x9_2 : List Int) (x32_2 : Int), v32 = .int .i64 x32_2 ∧ Aside0 (impl_Picks.l0 kq a1 a2 a3 x9_2 l0 (l0.length : Int) x32_2 l0 = some r) ∧ Aside0 (kq ≤ kj4) ∧ Aside0 (Kd.R (Kd.int .i64) 3 w' w.heap.size (fun _ => True) v9 x9_2) ∧ Aside0 (w'.heap[gb235]? = some (.cells #[(.slice A0 l0.length c0)] 74 (0, 0))) ∧ Aside0 (Below w.heap.size w w'))
   case atStart => exact ⟨(y239), (0), (by first | rfl | (simp; done) | (simp [*]; done)), H', ⟨Nat.le_refl _⟩, ⟨by (with_reducible repeat (first | apply Kd.ql0 | apply Kd.qk0 | apply Kd.qo0)); exact HO241.out⟩, ⟨by (with_reducible repeat (first | refine qf0 ?_ _ | refine qj0 ?_ | refine qg0 ?_ _)); exact BK235.out⟩, ⟨by repeat (first | (with_reducible first | exact HB.out | apply qc0 | apply qa0 | apply qb0 | refine qh0 ?_ GE235.out) | exact HB.out)⟩⟩
   case round =>
    clear H'
    try clear c1
    try clear p2
    try clear c5
    try clear c8
    try clear c10
    try clear c18
    try clear hcz12_0
    try clear hcz14_0
    try clear hcz16_0
    try clear hcz21_0
    try clear hfz12_0
    try clear hfz14_0
    try clear hfz16_0
    try clear hfz21_0
    try clear p2
    obtain ⟨x9_2, x32_2, rfl, HA, HK2, HO_9, BK235, HB⟩ := hrel
    cases gk with
    | zero => exact absurd HA.out (by simp [impl_Picks.l0])
    | succ k2 =>
     have H := HA.out
     clear HA
     simp only [impl_Picks.l0] at H
     by_cases c22 : x32_2 < (l0.length : Int)
     ·rw [if_pos c22] at H
      have c22b0 : decide (x32_2 < (l0.length : Int)) = true := decide_eq_true c22
      clear c22
      by_cases c23 : 0 ≤ x32_2
      case neg => rw [if_neg c23] at H; exact absurd H (by simp)
      rw [if_pos c23] at H
      have c23b0 : decide (0 ≤ x32_2) = true := decide_eq_true c23
      clear c23
      by_cases c24 : x32_2 < (l0.length : Int)
      case neg => rw [if_neg c24] at H; exact absurd H (by simp)
      rw [if_pos c24] at H
      have c24b0 : decide (x32_2 < (l0.length : Int)) = true := decide_eq_true c24
      clear c24
      by_cases c25 : ((rd_T160 l0 x32_2).f0).toList = a1.toList
      ·rw [if_pos c25] at H
       have c25b0 : (((rd_T160 l0 x32_2).f0).toList == a1.toList) = true := beq_iff_eq.mpr c25
       have c25b1 : (((rd_T160 l0 x32_2).f0).toList != a1.toList) = false := bne_eq_false_iff_eq.mpr c25
       clear c25
       by_cases c26 : ((rd_T160 l0 x32_2).f3) ≥ a3
       ·rw [if_pos c26] at H
        have c26b0 : decide (a3 ≤ ((rd_T160 l0 x32_2).f3)) = true := decide_eq_true c26
        clear c26
        by_cases c27 : ((rd_T160 l0 x32_2).f4) > ((rd_T160 l0 x32_2).f5)
        ·rw [if_pos c27] at H
         have c27b0 : decide (((rd_T160 l0 x32_2).f5) < ((rd_T160 l0 x32_2).f4)) = true := decide_eq_true c27
         clear c27
         by_cases c28 : x9_2.length < 17592186044416
         case neg => rw [if_neg c28] at H; exact absurd H (by simp)
         rw [if_pos c28] at H
         have LMc28 := Aside0.mk c28
         clear c28
         obtain ⟨y244, hy244⟩ : ∃ y_ : List Int, y_ = (x9_2 ++ [x32_2]) := ⟨_, rfl⟩
         replace H : (impl_Picks.l0 k2 a1 a2 a3 y244 l0 (l0.length : Int) (wrap64 (x32_2 + 1)) l0) = some r := by first | (rw [hy244]; with_reducible exact H) | (have H2_ := (Option.bind_some _ _).symm.trans H; rw [hy244]; with_reducible exact H2_) | (have H2_ := (Option.bind_some _ _).symm.trans H; with_reducible exact H2_) | with_reducible exact H | (rw [hy244]; exact H) | exact H
         have Ny244 := Aside0.mk hy244
         clear hy244
         have H' := Aside0.mk H
         clear H
         have p242 : 0 ≤ (x32_2 : Int) := of_decide_eq_true (by first | (with_reducible assumption) | assumption)
         have q242 : x32_2 < (l0.length : Int) := of_decide_eq_true (by first | (with_reducible assumption) | assumption)
         obtain ⟨ad242, e242, hx242_0, hx242_1, hx242_2, hx242_3, hx242_4, hx242_5⟩ := at_T160 HR0.out x32_2 p242 q242
         cases e242
         replace hx242_0 := (HB.out.cell (World.block_lt_of_cell? w _ hx242_0)).trans hx242_0
         replace hx242_1 := (HB.out.cell (World.block_lt_of_cell? w _ hx242_1)).trans hx242_1
         replace hx242_2 := (HB.out.cell (World.block_lt_of_cell? w _ hx242_2)).trans hx242_2
         replace hx242_3 := (HB.out.cell (World.block_lt_of_cell? w _ hx242_3)).trans hx242_3
         replace hx242_4 := (HB.out.cell (World.block_lt_of_cell? w _ hx242_4)).trans hx242_4
         replace hx242_5 := (HB.out.cell (World.block_lt_of_cell? w _ hx242_5)).trans hx242_5
         replace p242 := eq_true p242
         replace q242 := eq_true q242
         go_wp2_with (first | ((with_reducible refine qs0 (N := 11) rfl ?_); refine qt0 ?hg (N := 11) ?hd (cs := #[.string (⟨#[]⟩ : ByteArray), .string (⟨#[]⟩ : ByteArray), .string (⟨#[]⟩ : ByteArray), .int .i64 0, .int .i64 0, .int .i64 0]) (t := 160) ?hr ?_; (case hd => rfl); (case hg => rfl); (case hr => first | (go_simp; done) | (go_simp; rfl)); intro gb243 hg w29 hbox hb; have n0_ := Aside0.mk (Kd.qr0 (by (with_reducible repeat (first | apply Kd.ql0 | apply Kd.qk0 | apply Kd.qo0)); exact HO_9.out) hb); have n1_ := Aside0.mk (qx0 (g := gb235) (o := .cells #[.slice (some ad242) l0.length c0] 74 (0, 0)) (by (with_reducible repeat (first | refine qf0 ?_ _ | refine qj0 ?_ | refine qg0 ?_ _)); exact BK235.out) hb); have n2_ := Aside0.mk (qm0 (by repeat (first | (with_reducible first | exact HB.out | apply qc0 | apply qa0 | apply qb0 | refine qh0 ?_ GE235.out) | exact HB.out)) hb); have n3_ := Aside0.mk (hbox); have n4_ := Aside0.mk ((by rw [hg]; exact (qi0 (by repeat (first | (with_reducible first | exact HB.out | apply qc0 | apply qa0 | apply qb0 | refine qh0 ?_ GE235.out) | exact HB.out))) : w.heap.size ≤ gb243)); have n5_ := Aside0.mk ((by rw [hg]; exact (qi0 (by repeat (first | (with_reducible first | exact HB.out | apply qc0 | apply qa0 | apply qb0 | refine qh0 ?_ GE235.out) | exact HB.out))) : w.heap.size ≤ gb243)); have n6_ := Aside0.mk ((by rw [hg]; exact Nat.ne_of_lt (blk_lt (g := gb235) (o := .cells #[.slice (some ad242) l0.length c0] 74 (0, 0)) (by (with_reducible repeat (first | refine qf0 ?_ _ | refine qj0 ?_ | refine qg0 ?_ _)); exact BK235.out)) : gb235 ≠ gb243)); have n7_ := Aside0.mk ((by rw [hg]; exact Nat.ne_of_gt (blk_lt (g := gb235) (o := .cells #[.slice (some ad242) l0.length c0] 74 (0, 0)) (by (with_reducible repeat (first | refine qf0 ?_ _ | refine qj0 ?_ | refine qg0 ?_ _)); exact BK235.out)) : gb243 ≠ gb235)); clear HO_9; clear BK235; clear HB; have HO_9 := n0_; have BK235 := n1_; have HB := n2_; have BK243 := n3_; have GW243 := n4_; have GE243 := n5_; have NB235_243 := n6_; have NB243_235 := n7_; clear n0_ n1_ n2_ n3_ n4_ n5_ n6_ n7_; clear hb hbox hg; have hnb30 := NB243_235.out; have hnc30 := NB235_243.out; have hcz31_0 : w29.cell? ⟨gb243, 0, none⟩ = some (.string (⟨#[]⟩ : ByteArray)) := (qe0 BK243.out 0).trans rfl; have hcz31_1 : w29.cell? ⟨gb243, 1, none⟩ = some (.string (⟨#[]⟩ : ByteArray)) := (qe0 BK243.out 1).trans rfl; have hcz31_2 : w29.cell? ⟨gb243, 2, none⟩ = some (.string (⟨#[]⟩ : ByteArray)) := (qe0 BK243.out 2).trans rfl; have hcz31_3 : w29.cell? ⟨gb243, 3, none⟩ = some (.int .i64 0) := (qe0 BK243.out 3).trans rfl; have hcz31_4 : w29.cell? ⟨gb243, 4, none⟩ = some (.int .i64 0) := (qe0 BK243.out 4).trans rfl; have hcz31_5 : w29.cell? ⟨gb243, 5, none⟩ = some (.int .i64 0) := (qe0 BK243.out 5).trans rfl; have hfz31_0 := qd0 BK243.out 0; have hfz31_1 := qd0 BK243.out 1; have hfz31_2 := qd0 BK243.out 2; have hfz31_3 := qd0 BK243.out 3; have hfz31_4 := qd0 BK243.out 4; have hfz31_5 := qd0 BK243.out 5) | ((with_reducible refine gate_builtin (b := .append) (xs := #[.tmp 54, .tmp 56]) rfl ?_); at_builtin; refine Kd.R_append (Kd.int .i64) (w0 := w) w.heap.size rfl (.tmp 54) (.tmp 56) 33 3 (.int .i64 0) 8 rfl Try.underlying33 info3 rfl (by decide) (by omega) u9 x9_2 x32_2 [.int .i64 x32_2] (fun _ => True) (fun _ => False) rfl (by first | (go_simp; done) | (go_simp; rfl)) ?aP (fun _ hk => hk.elim) ?aF ?aO ?aB ?aS ?aL ?_; (case aP => exact rfl); (case aB => exact (by repeat (first | (with_reducible first | exact HB.out | apply qc0 | apply qa0 | apply qb0 | refine qh0 ?_ GE235.out | refine qh0 ?_ GE243.out) | exact HB.out))); (case aF => exact (fun _ _ => trivial)); (case aO => exact (by (with_reducible repeat (first | apply Kd.ql0 | apply Kd.qk0 | apply Kd.qo0)); exact Kd.qb1 (Kd.R_far (p := ⟨gb243, 5, none⟩) (Kd.R_far (p := ⟨gb243, 4, none⟩) (Kd.R_far (p := ⟨gb243, 3, none⟩) (Kd.R_far (p := ⟨gb243, 2, none⟩) (Kd.R_far (p := ⟨gb243, 1, none⟩) (Kd.R_far (p := ⟨gb243, 0, none⟩) (Kd.qm1 HO_9.out BK243.out (by decide)) (fun _ hk => hk.2) (.string ((rd_T160 l0 x32_2).f0))) (fun _ hk => hk.2) (.string ((rd_T160 l0 x32_2).f1))) (fun _ hk => hk.2) (.string ((rd_T160 l0 x32_2).f2))) (fun _ hk => hk.2) (.int .i64 ((rd_T160 l0 x32_2).f3))) (fun _ hk => hk.2) (.int .i64 ((rd_T160 l0 x32_2).f4))) (fun _ hk => hk.2) (.int .i64 ((rd_T160 l0 x32_2).f5))) (fun _ hk => trivial))); (case aS => exact (qi0 (by repeat (first | (with_reducible first | exact HB.out | apply qc0 | apply qa0 | apply qb0 | refine qh0 ?_ GE235.out | refine qh0 ?_ GE243.out) | exact HB.out)))); (case aL => have := LMc28.out; omega); intro v245 w32 ho hb hg hat; rw [← Ny244.out] at ho; have n0_ := Aside0.mk (blk_grown (g := gb235) (o := .cells #[.slice (some ad242) l0.length c0] 74 (0, 0)) (by (with_reducible repeat (first | refine qf0 ?_ _ | refine qj0 ?_ | refine qg0 ?_ _)); refine qd1 ?_ NB235_243.out _; (with_reducible repeat (first | refine qf0 ?_ _ | refine qj0 ?_ | refine qg0 ?_ _)); refine qd1 ?_ NB235_243.out _; (with_reducible repeat (first | refine qf0 ?_ _ | refine qj0 ?_ | refine qg0 ?_ _)); refine qd1 ?_ NB235_243.out _; (with_reducible repeat (first | refine qf0 ?_ _ | refine qj0 ?_ | refine qg0 ?_ _)); refine qd1 ?_ NB235_243.out _; (with_reducible repeat (first | refine qf0 ?_ _ | refine qj0 ?_ | refine qg0 ?_ _)); refine qd1 ?_ NB235_243.out _; (with_reducible repeat (first | refine qf0 ?_ _ | refine qj0 ?_ | refine qg0 ?_ _)); refine qd1 ?_ NB235_243.out _; (with_reducible repeat (first | refine qf0 ?_ _ | refine qj0 ?_ | refine qg0 ?_ _)); exact BK235.out) hg (Kd.R_ne HO_9.out BK235.out (by decide))); have n1_ := Aside0.mk (blk_grown (g := gb243) (o := .cells #[.string ((rd_T160 l0 x32_2).f0), .string ((rd_T160 l0 x32_2).f1), .string ((rd_T160 l0 x32_2).f2), .int .i64 ((rd_T160 l0 x32_2).f3), .int .i64 ((rd_T160 l0 x32_2).f4), .int .i64 ((rd_T160 l0 x32_2).f5)] 160 (0, 0)) (by (with_reducible repeat (first | refine qf0 ?_ _ | refine qj0 ?_ | refine qg0 ?_ _)); refine qu0 (cs := #[.string ((rd_T160 l0 x32_2).f0), .string ((rd_T160 l0 x32_2).f1), .string ((rd_T160 l0 x32_2).f2), .int .i64 ((rd_T160 l0 x32_2).f3), .int .i64 ((rd_T160 l0 x32_2).f4), .int .i64 0]) ?_ 5 _ rfl; (with_reducible repeat (first | refine qf0 ?_ _ | refine qj0 ?_ | refine qg0 ?_ _)); refine qu0 (cs := #[.string ((rd_T160 l0 x32_2).f0), .string ((rd_T160 l0 x32_2).f1), .string ((rd_T160 l0 x32_2).f2), .int .i64 ((rd_T160 l0 x32_2).f3), .int .i64 0, .int .i64 0]) ?_ 4 _ rfl; (with_reducible repeat (first | refine qf0 ?_ _ | refine qj0 ?_ | refine qg0 ?_ _)); refine qu0 (cs := #[.string ((rd_T160 l0 x32_2).f0), .string ((rd_T160 l0 x32_2).f1), .string ((rd_T160 l0 x32_2).f2), .int .i64 0, .int .i64 0, .int .i64 0]) ?_ 3 _ rfl; (with_reducible repeat (first | refine qf0 ?_ _ | refine qj0 ?_ | refine qg0 ?_ _)); refine qu0 (cs := #[.string ((rd_T160 l0 x32_2).f0), .string ((rd_T160 l0 x32_2).f1), .string (⟨#[]⟩ : ByteArray), .int .i64 0, .int .i64 0, .int .i64 0]) ?_ 2 _ rfl; (with_reducible repeat (first | refine qf0 ?_ _ | refine qj0 ?_ | refine qg0 ?_ _)); refine qu0 (cs := #[.string ((rd_T160 l0 x32_2).f0), .string (⟨#[]⟩ : ByteArray), .string (⟨#[]⟩ : ByteArray), .int .i64 0, .int .i64 0, .int .i64 0]) ?_ 1 _ rfl; (with_reducible repeat (first | refine qf0 ?_ _ | refine qj0 ?_ | refine qg0 ?_ _)); refine qu0 (cs := #[.string (⟨#[]⟩ : ByteArray), .string (⟨#[]⟩ : ByteArray), .string (⟨#[]⟩ : ByteArray), .int .i64 0, .int .i64 0, .int .i64 0]) ?_ 0 _ rfl; (with_reducible repeat (first | refine qf0 ?_ _ | refine qj0 ?_ | refine qg0 ?_ _)); exact BK243.out) hg (Kd.R_ne HO_9.out BK243.out (by decide))); have n2_ := Aside0.mk (hb); have n3_ := Aside0.mk (ho); clear BK235; clear BK243; clear HB; clear HO_9; have BK235 := n0_; have BK243 := n1_; have HB := n2_; have HO246 := n3_; clear n0_ n1_ n2_ n3_; clear ho hb hg hat))
         repeat (go_quiet (first | ((with_reducible refine qs0 (N := 11) rfl ?_); refine qt0 ?hg (N := 11) ?hd (cs := #[.string (⟨#[]⟩ : ByteArray), .string (⟨#[]⟩ : ByteArray), .string (⟨#[]⟩ : ByteArray), .int .i64 0, .int .i64 0, .int .i64 0]) (t := 160) ?hr ?_; (case hd => rfl); (case hg => rfl); (case hr => first | (go_simp; done) | (go_simp; rfl)); intro gb243 hg w29 hbox hb; have n0_ := Aside0.mk (Kd.qr0 (by (with_reducible repeat (first | apply Kd.ql0 | apply Kd.qk0 | apply Kd.qo0)); exact HO_9.out) hb); have n1_ := Aside0.mk (qx0 (g := gb235) (o := .cells #[.slice (some ad242) l0.length c0] 74 (0, 0)) (by (with_reducible repeat (first | refine qf0 ?_ _ | refine qj0 ?_ | refine qg0 ?_ _)); exact BK235.out) hb); have n2_ := Aside0.mk (qm0 (by repeat (first | (with_reducible first | exact HB.out | apply qc0 | apply qa0 | apply qb0 | refine qh0 ?_ GE235.out) | exact HB.out)) hb); have n3_ := Aside0.mk (hbox); have n4_ := Aside0.mk ((by rw [hg]; exact (qi0 (by repeat (first | (with_reducible first | exact HB.out | apply qc0 | apply qa0 | apply qb0 | refine qh0 ?_ GE235.out) | exact HB.out))) : w.heap.size ≤ gb243)); have n5_ := Aside0.mk ((by rw [hg]; exact (qi0 (by repeat (first | (with_reducible first | exact HB.out | apply qc0 | apply qa0 | apply qb0 | refine qh0 ?_ GE235.out) | exact HB.out))) : w.heap.size ≤ gb243)); have n6_ := Aside0.mk ((by rw [hg]; exact Nat.ne_of_lt (blk_lt (g := gb235) (o := .cells #[.slice (some ad242) l0.length c0] 74 (0, 0)) (by (with_reducible repeat (first | refine qf0 ?_ _ | refine qj0 ?_ | refine qg0 ?_ _)); exact BK235.out)) : gb235 ≠ gb243)); have n7_ := Aside0.mk ((by rw [hg]; exact Nat.ne_of_gt (blk_lt (g := gb235) (o := .cells #[.slice (some ad242) l0.length c0] 74 (0, 0)) (by (with_reducible repeat (first | refine qf0 ?_ _ | refine qj0 ?_ | refine qg0 ?_ _)); exact BK235.out)) : gb243 ≠ gb235)); clear HO_9; clear BK235; clear HB; have HO_9 := n0_; have BK235 := n1_; have HB := n2_; have BK243 := n3_; have GW243 := n4_; have GE243 := n5_; have NB235_243 := n6_; have NB243_235 := n7_; clear n0_ n1_ n2_ n3_ n4_ n5_ n6_ n7_; clear hb hbox hg; have hnb30 := NB243_235.out; have hnc30 := NB235_243.out; have hcz31_0 : w29.cell? ⟨gb243, 0, none⟩ = some (.string (⟨#[]⟩ : ByteArray)) := (qe0 BK243.out 0).trans rfl; have hcz31_1 : w29.cell? ⟨gb243, 1, none⟩ = some (.string (⟨#[]⟩ : ByteArray)) := (qe0 BK243.out 1).trans rfl; have hcz31_2 : w29.cell? ⟨gb243, 2, none⟩ = some (.string (⟨#[]⟩ : ByteArray)) := (qe0 BK243.out 2).trans rfl; have hcz31_3 : w29.cell? ⟨gb243, 3, none⟩ = some (.int .i64 0) := (qe0 BK243.out 3).trans rfl; have hcz31_4 : w29.cell? ⟨gb243, 4, none⟩ = some (.int .i64 0) := (qe0 BK243.out 4).trans rfl; have hcz31_5 : w29.cell? ⟨gb243, 5, none⟩ = some (.int .i64 0) := (qe0 BK243.out 5).trans rfl; have hfz31_0 := qd0 BK243.out 0; have hfz31_1 := qd0 BK243.out 1; have hfz31_2 := qd0 BK243.out 2; have hfz31_3 := qd0 BK243.out 3; have hfz31_4 := qd0 BK243.out 4; have hfz31_5 := qd0 BK243.out 5) | ((with_reducible refine gate_builtin (b := .append) (xs := #[.tmp 54, .tmp 56]) rfl ?_); at_builtin; refine Kd.R_append (Kd.int .i64) (w0 := w) w.heap.size rfl (.tmp 54) (.tmp 56) 33 3 (.int .i64 0) 8 rfl Try.underlying33 info3 rfl (by decide) (by omega) u9 x9_2 x32_2 [.int .i64 x32_2] (fun _ => True) (fun _ => False) rfl (by first | (go_simp; done) | (go_simp; rfl)) ?aP (fun _ hk => hk.elim) ?aF ?aO ?aB ?aS ?aL ?_; (case aP => exact rfl); (case aB => exact (by repeat (first | (with_reducible first | exact HB.out | apply qc0 | apply qa0 | apply qb0 | refine qh0 ?_ GE235.out | refine qh0 ?_ GE243.out) | exact HB.out))); (case aF => exact (fun _ _ => trivial)); (case aO => exact (by (with_reducible repeat (first | apply Kd.ql0 | apply Kd.qk0 | apply Kd.qo0)); exact Kd.qb1 (Kd.R_far (p := ⟨gb243, 5, none⟩) (Kd.R_far (p := ⟨gb243, 4, none⟩) (Kd.R_far (p := ⟨gb243, 3, none⟩) (Kd.R_far (p := ⟨gb243, 2, none⟩) (Kd.R_far (p := ⟨gb243, 1, none⟩) (Kd.R_far (p := ⟨gb243, 0, none⟩) (Kd.qm1 HO_9.out BK243.out (by decide)) (fun _ hk => hk.2) (.string ((rd_T160 l0 x32_2).f0))) (fun _ hk => hk.2) (.string ((rd_T160 l0 x32_2).f1))) (fun _ hk => hk.2) (.string ((rd_T160 l0 x32_2).f2))) (fun _ hk => hk.2) (.int .i64 ((rd_T160 l0 x32_2).f3))) (fun _ hk => hk.2) (.int .i64 ((rd_T160 l0 x32_2).f4))) (fun _ hk => hk.2) (.int .i64 ((rd_T160 l0 x32_2).f5))) (fun _ hk => trivial))); (case aS => exact (qi0 (by repeat (first | (with_reducible first | exact HB.out | apply qc0 | apply qa0 | apply qb0 | refine qh0 ?_ GE235.out | refine qh0 ?_ GE243.out) | exact HB.out)))); (case aL => have := LMc28.out; omega); intro v245 w32 ho hb hg hat; rw [← Ny244.out] at ho; have n0_ := Aside0.mk (blk_grown (g := gb235) (o := .cells #[.slice (some ad242) l0.length c0] 74 (0, 0)) (by (with_reducible repeat (first | refine qf0 ?_ _ | refine qj0 ?_ | refine qg0 ?_ _)); refine qd1 ?_ NB235_243.out _; (with_reducible repeat (first | refine qf0 ?_ _ | refine qj0 ?_ | refine qg0 ?_ _)); refine qd1 ?_ NB235_243.out _; (with_reducible repeat (first | refine qf0 ?_ _ | refine qj0 ?_ | refine qg0 ?_ _)); refine qd1 ?_ NB235_243.out _; (with_reducible repeat (first | refine qf0 ?_ _ | refine qj0 ?_ | refine qg0 ?_ _)); refine qd1 ?_ NB235_243.out _; (with_reducible repeat (first | refine qf0 ?_ _ | refine qj0 ?_ | refine qg0 ?_ _)); refine qd1 ?_ NB235_243.out _; (with_reducible repeat (first | refine qf0 ?_ _ | refine qj0 ?_ | refine qg0 ?_ _)); refine qd1 ?_ NB235_243.out _; (with_reducible repeat (first | refine qf0 ?_ _ | refine qj0 ?_ | refine qg0 ?_ _)); exact BK235.out) hg (Kd.R_ne HO_9.out BK235.out (by decide))); have n1_ := Aside0.mk (blk_grown (g := gb243) (o := .cells #[.string ((rd_T160 l0 x32_2).f0), .string ((rd_T160 l0 x32_2).f1), .string ((rd_T160 l0 x32_2).f2), .int .i64 ((rd_T160 l0 x32_2).f3), .int .i64 ((rd_T160 l0 x32_2).f4), .int .i64 ((rd_T160 l0 x32_2).f5)] 160 (0, 0)) (by (with_reducible repeat (first | refine qf0 ?_ _ | refine qj0 ?_ | refine qg0 ?_ _)); refine qu0 (cs := #[.string ((rd_T160 l0 x32_2).f0), .string ((rd_T160 l0 x32_2).f1), .string ((rd_T160 l0 x32_2).f2), .int .i64 ((rd_T160 l0 x32_2).f3), .int .i64 ((rd_T160 l0 x32_2).f4), .int .i64 0]) ?_ 5 _ rfl; (with_reducible repeat (first | refine qf0 ?_ _ | refine qj0 ?_ | refine qg0 ?_ _)); refine qu0 (cs := #[.string ((rd_T160 l0 x32_2).f0), .string ((rd_T160 l0 x32_2).f1), .string ((rd_T160 l0 x32_2).f2), .int .i64 ((rd_T160 l0 x32_2).f3), .int .i64 0, .int .i64 0]) ?_ 4 _ rfl; (with_reducible repeat (first | refine qf0 ?_ _ | refine qj0 ?_ | refine qg0 ?_ _)); refine qu0 (cs := #[.string ((rd_T160 l0 x32_2).f0), .string ((rd_T160 l0 x32_2).f1), .string ((rd_T160 l0 x32_2).f2), .int .i64 0, .int .i64 0, .int .i64 0]) ?_ 3 _ rfl; (with_reducible repeat (first | refine qf0 ?_ _ | refine qj0 ?_ | refine qg0 ?_ _)); refine qu0 (cs := #[.string ((rd_T160 l0 x32_2).f0), .string ((rd_T160 l0 x32_2).f1), .string (⟨#[]⟩ : ByteArray), .int .i64 0, .int .i64 0, .int .i64 0]) ?_ 2 _ rfl; (with_reducible repeat (first | refine qf0 ?_ _ | refine qj0 ?_ | refine qg0 ?_ _)); refine qu0 (cs := #[.string ((rd_T160 l0 x32_2).f0), .string (⟨#[]⟩ : ByteArray), .string (⟨#[]⟩ : ByteArray), .int .i64 0, .int .i64 0, .int .i64 0]) ?_ 1 _ rfl; (with_reducible repeat (first | refine qf0 ?_ _ | refine qj0 ?_ | refine qg0 ?_ _)); refine qu0 (cs := #[.string (⟨#[]⟩ : ByteArray), .string (⟨#[]⟩ : ByteArray), .string (⟨#[]⟩ : ByteArray), .int .i64 0, .int .i64 0, .int .i64 0]) ?_ 0 _ rfl; (with_reducible repeat (first | refine qf0 ?_ _ | refine qj0 ?_ | refine qg0 ?_ _)); exact BK243.out) hg (Kd.R_ne HO_9.out BK243.out (by decide))); have n2_ := Aside0.mk (hb); have n3_ := Aside0.mk (ho); clear BK235; clear BK243; clear HB; clear HO_9; have BK235 := n0_; have BK243 := n1_; have HB := n2_; have HO246 := n3_; clear n0_ n1_ n2_ n3_; clear ho hb hg hat)); try go_wp2_with (first | ((with_reducible refine qs0 (N := 11) rfl ?_); refine qt0 ?hg (N := 11) ?hd (cs := #[.string (⟨#[]⟩ : ByteArray), .string (⟨#[]⟩ : ByteArray), .string (⟨#[]⟩ : ByteArray), .int .i64 0, .int .i64 0, .int .i64 0]) (t := 160) ?hr ?_; (case hd => rfl); (case hg => rfl); (case hr => first | (go_simp; done) | (go_simp; rfl)); intro gb243 hg w29 hbox hb; have n0_ := Aside0.mk (Kd.qr0 (by (with_reducible repeat (first | apply Kd.ql0 | apply Kd.qk0 | apply Kd.qo0)); exact HO_9.out) hb); have n1_ := Aside0.mk (qx0 (g := gb235) (o := .cells #[.slice (some ad242) l0.length c0] 74 (0, 0)) (by (with_reducible repeat (first | refine qf0 ?_ _ | refine qj0 ?_ | refine qg0 ?_ _)); exact BK235.out) hb); have n2_ := Aside0.mk (qm0 (by repeat (first | (with_reducible first | exact HB.out | apply qc0 | apply qa0 | apply qb0 | refine qh0 ?_ GE235.out) | exact HB.out)) hb); have n3_ := Aside0.mk (hbox); have n4_ := Aside0.mk ((by rw [hg]; exact (qi0 (by repeat (first | (with_reducible first | exact HB.out | apply qc0 | apply qa0 | apply qb0 | refine qh0 ?_ GE235.out) | exact HB.out))) : w.heap.size ≤ gb243)); have n5_ := Aside0.mk ((by rw [hg]; exact (qi0 (by repeat (first | (with_reducible first | exact HB.out | apply qc0 | apply qa0 | apply qb0 | refine qh0 ?_ GE235.out) | exact HB.out))) : w.heap.size ≤ gb243)); have n6_ := Aside0.mk ((by rw [hg]; exact Nat.ne_of_lt (blk_lt (g := gb235) (o := .cells #[.slice (some ad242) l0.length c0] 74 (0, 0)) (by (with_reducible repeat (first | refine qf0 ?_ _ | refine qj0 ?_ | refine qg0 ?_ _)); exact BK235.out)) : gb235 ≠ gb243)); have n7_ := Aside0.mk ((by rw [hg]; exact Nat.ne_of_gt (blk_lt (g := gb235) (o := .cells #[.slice (some ad242) l0.length c0] 74 (0, 0)) (by (with_reducible repeat (first | refine qf0 ?_ _ | refine qj0 ?_ | refine qg0 ?_ _)); exact BK235.out)) : gb243 ≠ gb235)); clear HO_9; clear BK235; clear HB; have HO_9 := n0_; have BK235 := n1_; have HB := n2_; have BK243 := n3_; have GW243 := n4_; have GE243 := n5_; have NB235_243 := n6_; have NB243_235 := n7_; clear n0_ n1_ n2_ n3_ n4_ n5_ n6_ n7_; clear hb hbox hg; have hnb30 := NB243_235.out; have hnc30 := NB235_243.out; have hcz31_0 : w29.cell? ⟨gb243, 0, none⟩ = some (.string (⟨#[]⟩ : ByteArray)) := (qe0 BK243.out 0).trans rfl; have hcz31_1 : w29.cell? ⟨gb243, 1, none⟩ = some (.string (⟨#[]⟩ : ByteArray)) := (qe0 BK243.out 1).trans rfl; have hcz31_2 : w29.cell? ⟨gb243, 2, none⟩ = some (.string (⟨#[]⟩ : ByteArray)) := (qe0 BK243.out 2).trans rfl; have hcz31_3 : w29.cell? ⟨gb243, 3, none⟩ = some (.int .i64 0) := (qe0 BK243.out 3).trans rfl; have hcz31_4 : w29.cell? ⟨gb243, 4, none⟩ = some (.int .i64 0) := (qe0 BK243.out 4).trans rfl; have hcz31_5 : w29.cell? ⟨gb243, 5, none⟩ = some (.int .i64 0) := (qe0 BK243.out 5).trans rfl; have hfz31_0 := qd0 BK243.out 0; have hfz31_1 := qd0 BK243.out 1; have hfz31_2 := qd0 BK243.out 2; have hfz31_3 := qd0 BK243.out 3; have hfz31_4 := qd0 BK243.out 4; have hfz31_5 := qd0 BK243.out 5) | ((with_reducible refine gate_builtin (b := .append) (xs := #[.tmp 54, .tmp 56]) rfl ?_); at_builtin; refine Kd.R_append (Kd.int .i64) (w0 := w) w.heap.size rfl (.tmp 54) (.tmp 56) 33 3 (.int .i64 0) 8 rfl Try.underlying33 info3 rfl (by decide) (by omega) u9 x9_2 x32_2 [.int .i64 x32_2] (fun _ => True) (fun _ => False) rfl (by first | (go_simp; done) | (go_simp; rfl)) ?aP (fun _ hk => hk.elim) ?aF ?aO ?aB ?aS ?aL ?_; (case aP => exact rfl); (case aB => exact (by repeat (first | (with_reducible first | exact HB.out | apply qc0 | apply qa0 | apply qb0 | refine qh0 ?_ GE235.out | refine qh0 ?_ GE243.out) | exact HB.out))); (case aF => exact (fun _ _ => trivial)); (case aO => exact (by (with_reducible repeat (first | apply Kd.ql0 | apply Kd.qk0 | apply Kd.qo0)); exact Kd.qb1 (Kd.R_far (p := ⟨gb243, 5, none⟩) (Kd.R_far (p := ⟨gb243, 4, none⟩) (Kd.R_far (p := ⟨gb243, 3, none⟩) (Kd.R_far (p := ⟨gb243, 2, none⟩) (Kd.R_far (p := ⟨gb243, 1, none⟩) (Kd.R_far (p := ⟨gb243, 0, none⟩) (Kd.qm1 HO_9.out BK243.out (by decide)) (fun _ hk => hk.2) (.string ((rd_T160 l0 x32_2).f0))) (fun _ hk => hk.2) (.string ((rd_T160 l0 x32_2).f1))) (fun _ hk => hk.2) (.string ((rd_T160 l0 x32_2).f2))) (fun _ hk => hk.2) (.int .i64 ((rd_T160 l0 x32_2).f3))) (fun _ hk => hk.2) (.int .i64 ((rd_T160 l0 x32_2).f4))) (fun _ hk => hk.2) (.int .i64 ((rd_T160 l0 x32_2).f5))) (fun _ hk => trivial))); (case aS => exact (qi0 (by repeat (first | (with_reducible first | exact HB.out | apply qc0 | apply qa0 | apply qb0 | refine qh0 ?_ GE235.out | refine qh0 ?_ GE243.out) | exact HB.out)))); (case aL => have := LMc28.out; omega); intro v245 w32 ho hb hg hat; rw [← Ny244.out] at ho; have n0_ := Aside0.mk (blk_grown (g := gb235) (o := .cells #[.slice (some ad242) l0.length c0] 74 (0, 0)) (by (with_reducible repeat (first | refine qf0 ?_ _ | refine qj0 ?_ | refine qg0 ?_ _)); refine qd1 ?_ NB235_243.out _; (with_reducible repeat (first | refine qf0 ?_ _ | refine qj0 ?_ | refine qg0 ?_ _)); refine qd1 ?_ NB235_243.out _; (with_reducible repeat (first | refine qf0 ?_ _ | refine qj0 ?_ | refine qg0 ?_ _)); refine qd1 ?_ NB235_243.out _; (with_reducible repeat (first | refine qf0 ?_ _ | refine qj0 ?_ | refine qg0 ?_ _)); refine qd1 ?_ NB235_243.out _; (with_reducible repeat (first | refine qf0 ?_ _ | refine qj0 ?_ | refine qg0 ?_ _)); refine qd1 ?_ NB235_243.out _; (with_reducible repeat (first | refine qf0 ?_ _ | refine qj0 ?_ | refine qg0 ?_ _)); refine qd1 ?_ NB235_243.out _; (with_reducible repeat (first | refine qf0 ?_ _ | refine qj0 ?_ | refine qg0 ?_ _)); exact BK235.out) hg (Kd.R_ne HO_9.out BK235.out (by decide))); have n1_ := Aside0.mk (blk_grown (g := gb243) (o := .cells #[.string ((rd_T160 l0 x32_2).f0), .string ((rd_T160 l0 x32_2).f1), .string ((rd_T160 l0 x32_2).f2), .int .i64 ((rd_T160 l0 x32_2).f3), .int .i64 ((rd_T160 l0 x32_2).f4), .int .i64 ((rd_T160 l0 x32_2).f5)] 160 (0, 0)) (by (with_reducible repeat (first | refine qf0 ?_ _ | refine qj0 ?_ | refine qg0 ?_ _)); refine qu0 (cs := #[.string ((rd_T160 l0 x32_2).f0), .string ((rd_T160 l0 x32_2).f1), .string ((rd_T160 l0 x32_2).f2), .int .i64 ((rd_T160 l0 x32_2).f3), .int .i64 ((rd_T160 l0 x32_2).f4), .int .i64 0]) ?_ 5 _ rfl; (with_reducible repeat (first | refine qf0 ?_ _ | refine qj0 ?_ | refine qg0 ?_ _)); refine qu0 (cs := #[.string ((rd_T160 l0 x32_2).f0), .string ((rd_T160 l0 x32_2).f1), .string ((rd_T160 l0 x32_2).f2), .int .i64 ((rd_T160 l0 x32_2).f3), .int .i64 0, .int .i64 0]) ?_ 4 _ rfl; (with_reducible repeat (first | refine qf0 ?_ _ | refine qj0 ?_ | refine qg0 ?_ _)); refine qu0 (cs := #[.string ((rd_T160 l0 x32_2).f0), .string ((rd_T160 l0 x32_2).f1), .string ((rd_T160 l0 x32_2).f2), .int .i64 0, .int .i64 0, .int .i64 0]) ?_ 3 _ rfl; (with_reducible repeat (first | refine qf0 ?_ _ | refine qj0 ?_ | refine qg0 ?_ _)); refine qu0 (cs := #[.string ((rd_T160 l0 x32_2).f0), .string ((rd_T160 l0 x32_2).f1), .string (⟨#[]⟩ : ByteArray), .int .i64 0, .int .i64 0, .int .i64 0]) ?_ 2 _ rfl; (with_reducible repeat (first | refine qf0 ?_ _ | refine qj0 ?_ | refine qg0 ?_ _)); refine qu0 (cs := #[.string ((rd_T160 l0 x32_2).f0), .string (⟨#[]⟩ : ByteArray), .string (⟨#[]⟩ : ByteArray), .int .i64 0, .int .i64 0, .int .i64 0]) ?_ 1 _ rfl; (with_reducible repeat (first | refine qf0 ?_ _ | refine qj0 ?_ | refine qg0 ?_ _)); refine qu0 (cs := #[.string (⟨#[]⟩ : ByteArray), .string (⟨#[]⟩ : ByteArray), .string (⟨#[]⟩ : ByteArray), .int .i64 0, .int .i64 0, .int .i64 0]) ?_ 0 _ rfl; (with_reducible repeat (first | refine qf0 ?_ _ | refine qj0 ?_ | refine qg0 ?_ _)); exact BK243.out) hg (Kd.R_ne HO_9.out BK243.out (by decide))); have n2_ := Aside0.mk (hb); have n3_ := Aside0.mk (ho); clear BK235; clear BK243; clear HB; clear HO_9; have BK235 := n0_; have BK243 := n1_; have HB := n2_; have HO246 := n3_; clear n0_ n1_ n2_ n3_; clear ho hb hg hat)))
         go_roundg k2
         case measure => have := HJ4.out; have := HK2.out; omega
         case rel => exact ⟨(y244), (wrap64 (x32_2 + 1)), (by first | rfl | (simp; done) | (simp [*]; done)), H', ⟨by have := HJ4.out; have := HK2.out; omega⟩, ⟨by (with_reducible repeat (first | apply Kd.ql0 | apply Kd.qk0 | apply Kd.qo0)); exact HO246.out⟩, ⟨by (with_reducible repeat (first | refine qf0 ?_ _ | refine qj0 ?_ | refine qg0 ?_ _)); exact BK235.out⟩, ⟨by repeat (first | (with_reducible first | exact HB.out | apply qc0 | apply qa0 | apply qb0 | refine qh0 ?_ GE235.out | refine qh0 ?_ GE243.out) | exact HB.out)⟩⟩
        rw [if_neg c27] at H
        have c27b0 : decide (((rd_T160 l0 x32_2).f5) < ((rd_T160 l0 x32_2).f4)) = false := decide_eq_false c27
        clear c27
        have H' := Aside0.mk H
        clear H
        have p242 : 0 ≤ (x32_2 : Int) := of_decide_eq_true (by first | (with_reducible assumption) | assumption)
        have q242 : x32_2 < (l0.length : Int) := of_decide_eq_true (by first | (with_reducible assumption) | assumption)
        obtain ⟨ad242, e242, hx242_0, hx242_1, hx242_2, hx242_3, hx242_4, hx242_5⟩ := at_T160 HR0.out x32_2 p242 q242
        cases e242
        replace hx242_0 := (HB.out.cell (World.block_lt_of_cell? w _ hx242_0)).trans hx242_0
        replace hx242_1 := (HB.out.cell (World.block_lt_of_cell? w _ hx242_1)).trans hx242_1
        replace hx242_2 := (HB.out.cell (World.block_lt_of_cell? w _ hx242_2)).trans hx242_2
        replace hx242_3 := (HB.out.cell (World.block_lt_of_cell? w _ hx242_3)).trans hx242_3
        replace hx242_4 := (HB.out.cell (World.block_lt_of_cell? w _ hx242_4)).trans hx242_4
        replace hx242_5 := (HB.out.cell (World.block_lt_of_cell? w _ hx242_5)).trans hx242_5
        replace p242 := eq_true p242
        replace q242 := eq_true q242
        go_wp2_with (first | ((with_reducible refine qs0 (N := 11) rfl ?_); refine qt0 ?hg (N := 11) ?hd (cs := #[.string (⟨#[]⟩ : ByteArray), .string (⟨#[]⟩ : ByteArray), .string (⟨#[]⟩ : ByteArray), .int .i64 0, .int .i64 0, .int .i64 0]) (t := 160) ?hr ?_; (case hd => rfl); (case hg => rfl); (case hr => first | (go_simp; done) | (go_simp; rfl)); intro gb243 hg w33 hbox hb; have n0_ := Aside0.mk (Kd.qr0 (by (with_reducible repeat (first | apply Kd.ql0 | apply Kd.qk0 | apply Kd.qo0)); exact HO_9.out) hb); have n1_ := Aside0.mk (qx0 (g := gb235) (o := .cells #[.slice (some ad242) l0.length c0] 74 (0, 0)) (by (with_reducible repeat (first | refine qf0 ?_ _ | refine qj0 ?_ | refine qg0 ?_ _)); exact BK235.out) hb); have n2_ := Aside0.mk (qm0 (by repeat (first | (with_reducible first | exact HB.out | apply qc0 | apply qa0 | apply qb0 | refine qh0 ?_ GE235.out) | exact HB.out)) hb); have n3_ := Aside0.mk (hbox); have n4_ := Aside0.mk ((by rw [hg]; exact (qi0 (by repeat (first | (with_reducible first | exact HB.out | apply qc0 | apply qa0 | apply qb0 | refine qh0 ?_ GE235.out) | exact HB.out))) : w.heap.size ≤ gb243)); have n5_ := Aside0.mk ((by rw [hg]; exact (qi0 (by repeat (first | (with_reducible first | exact HB.out | apply qc0 | apply qa0 | apply qb0 | refine qh0 ?_ GE235.out) | exact HB.out))) : w.heap.size ≤ gb243)); have n6_ := Aside0.mk ((by rw [hg]; exact Nat.ne_of_lt (blk_lt (g := gb235) (o := .cells #[.slice (some ad242) l0.length c0] 74 (0, 0)) (by (with_reducible repeat (first | refine qf0 ?_ _ | refine qj0 ?_ | refine qg0 ?_ _)); exact BK235.out)) : gb235 ≠ gb243)); have n7_ := Aside0.mk ((by rw [hg]; exact Nat.ne_of_gt (blk_lt (g := gb235) (o := .cells #[.slice (some ad242) l0.length c0] 74 (0, 0)) (by (with_reducible repeat (first | refine qf0 ?_ _ | refine qj0 ?_ | refine qg0 ?_ _)); exact BK235.out)) : gb243 ≠ gb235)); clear HO_9; clear BK235; clear HB; have HO_9 := n0_; have BK235 := n1_; have HB := n2_; have BK243 := n3_; have GW243 := n4_; have GE243 := n5_; have NB235_243 := n6_; have NB243_235 := n7_; clear n0_ n1_ n2_ n3_ n4_ n5_ n6_ n7_; clear hb hbox hg; have hnb34 := NB243_235.out; have hnc34 := NB235_243.out; have hcz35_0 : w33.cell? ⟨gb243, 0, none⟩ = some (.string (⟨#[]⟩ : ByteArray)) := (qe0 BK243.out 0).trans rfl; have hcz35_1 : w33.cell? ⟨gb243, 1, none⟩ = some (.string (⟨#[]⟩ : ByteArray)) := (qe0 BK243.out 1).trans rfl; have hcz35_2 : w33.cell? ⟨gb243, 2, none⟩ = some (.string (⟨#[]⟩ : ByteArray)) := (qe0 BK243.out 2).trans rfl; have hcz35_3 : w33.cell? ⟨gb243, 3, none⟩ = some (.int .i64 0) := (qe0 BK243.out 3).trans rfl; have hcz35_4 : w33.cell? ⟨gb243, 4, none⟩ = some (.int .i64 0) := (qe0 BK243.out 4).trans rfl; have hcz35_5 : w33.cell? ⟨gb243, 5, none⟩ = some (.int .i64 0) := (qe0 BK243.out 5).trans rfl; have hfz35_0 := qd0 BK243.out 0; have hfz35_1 := qd0 BK243.out 1; have hfz35_2 := qd0 BK243.out 2; have hfz35_3 := qd0 BK243.out 3; have hfz35_4 := qd0 BK243.out 4; have hfz35_5 := qd0 BK243.out 5))
        repeat (go_quiet (first | ((with_reducible refine qs0 (N := 11) rfl ?_); refine qt0 ?hg (N := 11) ?hd (cs := #[.string (⟨#[]⟩ : ByteArray), .string (⟨#[]⟩ : ByteArray), .string (⟨#[]⟩ : ByteArray), .int .i64 0, .int .i64 0, .int .i64 0]) (t := 160) ?hr ?_; (case hd => rfl); (case hg => rfl); (case hr => first | (go_simp; done) | (go_simp; rfl)); intro gb243 hg w33 hbox hb; have n0_ := Aside0.mk (Kd.qr0 (by (with_reducible repeat (first | apply Kd.ql0 | apply Kd.qk0 | apply Kd.qo0)); exact HO_9.out) hb); have n1_ := Aside0.mk (qx0 (g := gb235) (o := .cells #[.slice (some ad242) l0.length c0] 74 (0, 0)) (by (with_reducible repeat (first | refine qf0 ?_ _ | refine qj0 ?_ | refine qg0 ?_ _)); exact BK235.out) hb); have n2_ := Aside0.mk (qm0 (by repeat (first | (with_reducible first | exact HB.out | apply qc0 | apply qa0 | apply qb0 | refine qh0 ?_ GE235.out) | exact HB.out)) hb); have n3_ := Aside0.mk (hbox); have n4_ := Aside0.mk ((by rw [hg]; exact (qi0 (by repeat (first | (with_reducible first | exact HB.out | apply qc0 | apply qa0 | apply qb0 | refine qh0 ?_ GE235.out) | exact HB.out))) : w.heap.size ≤ gb243)); have n5_ := Aside0.mk ((by rw [hg]; exact (qi0 (by repeat (first | (with_reducible first | exact HB.out | apply qc0 | apply qa0 | apply qb0 | refine qh0 ?_ GE235.out) | exact HB.out))) : w.heap.size ≤ gb243)); have n6_ := Aside0.mk ((by rw [hg]; exact Nat.ne_of_lt (blk_lt (g := gb235) (o := .cells #[.slice (some ad242) l0.length c0] 74 (0, 0)) (by (with_reducible repeat (first | refine qf0 ?_ _ | refine qj0 ?_ | refine qg0 ?_ _)); exact BK235.out)) : gb235 ≠ gb243)); have n7_ := Aside0.mk ((by rw [hg]; exact Nat.ne_of_gt (blk_lt (g := gb235) (o := .cells #[.slice (some ad242) l0.length c0] 74 (0, 0)) (by (with_reducible repeat (first | refine qf0 ?_ _ | refine qj0 ?_ | refine qg0 ?_ _)); exact BK235.out)) : gb243 ≠ gb235)); clear HO_9; clear BK235; clear HB; have HO_9 := n0_; have BK235 := n1_; have HB := n2_; have BK243 := n3_; have GW243 := n4_; have GE243 := n5_; have NB235_243 := n6_; have NB243_235 := n7_; clear n0_ n1_ n2_ n3_ n4_ n5_ n6_ n7_; clear hb hbox hg; have hnb34 := NB243_235.out; have hnc34 := NB235_243.out; have hcz35_0 : w33.cell? ⟨gb243, 0, none⟩ = some (.string (⟨#[]⟩ : ByteArray)) := (qe0 BK243.out 0).trans rfl; have hcz35_1 : w33.cell? ⟨gb243, 1, none⟩ = some (.string (⟨#[]⟩ : ByteArray)) := (qe0 BK243.out 1).trans rfl; have hcz35_2 : w33.cell? ⟨gb243, 2, none⟩ = some (.string (⟨#[]⟩ : ByteArray)) := (qe0 BK243.out 2).trans rfl; have hcz35_3 : w33.cell? ⟨gb243, 3, none⟩ = some (.int .i64 0) := (qe0 BK243.out 3).trans rfl; have hcz35_4 : w33.cell? ⟨gb243, 4, none⟩ = some (.int .i64 0) := (qe0 BK243.out 4).trans rfl; have hcz35_5 : w33.cell? ⟨gb243, 5, none⟩ = some (.int .i64 0) := (qe0 BK243.out 5).trans rfl; have hfz35_0 := qd0 BK243.out 0; have hfz35_1 := qd0 BK243.out 1; have hfz35_2 := qd0 BK243.out 2; have hfz35_3 := qd0 BK243.out 3; have hfz35_4 := qd0 BK243.out 4; have hfz35_5 := qd0 BK243.out 5)); try go_wp2_with (first | ((with_reducible refine qs0 (N := 11) rfl ?_); refine qt0 ?hg (N := 11) ?hd (cs := #[.string (⟨#[]⟩ : ByteArray), .string (⟨#[]⟩ : ByteArray), .string (⟨#[]⟩ : ByteArray), .int .i64 0, .int .i64 0, .int .i64 0]) (t := 160) ?hr ?_; (case hd => rfl); (case hg => rfl); (case hr => first | (go_simp; done) | (go_simp; rfl)); intro gb243 hg w33 hbox hb; have n0_ := Aside0.mk (Kd.qr0 (by (with_reducible repeat (first | apply Kd.ql0 | apply Kd.qk0 | apply Kd.qo0)); exact HO_9.out) hb); have n1_ := Aside0.mk (qx0 (g := gb235) (o := .cells #[.slice (some ad242) l0.length c0] 74 (0, 0)) (by (with_reducible repeat (first | refine qf0 ?_ _ | refine qj0 ?_ | refine qg0 ?_ _)); exact BK235.out) hb); have n2_ := Aside0.mk (qm0 (by repeat (first | (with_reducible first | exact HB.out | apply qc0 | apply qa0 | apply qb0 | refine qh0 ?_ GE235.out) | exact HB.out)) hb); have n3_ := Aside0.mk (hbox); have n4_ := Aside0.mk ((by rw [hg]; exact (qi0 (by repeat (first | (with_reducible first | exact HB.out | apply qc0 | apply qa0 | apply qb0 | refine qh0 ?_ GE235.out) | exact HB.out))) : w.heap.size ≤ gb243)); have n5_ := Aside0.mk ((by rw [hg]; exact (qi0 (by repeat (first | (with_reducible first | exact HB.out | apply qc0 | apply qa0 | apply qb0 | refine qh0 ?_ GE235.out) | exact HB.out))) : w.heap.size ≤ gb243)); have n6_ := Aside0.mk ((by rw [hg]; exact Nat.ne_of_lt (blk_lt (g := gb235) (o := .cells #[.slice (some ad242) l0.length c0] 74 (0, 0)) (by (with_reducible repeat (first | refine qf0 ?_ _ | refine qj0 ?_ | refine qg0 ?_ _)); exact BK235.out)) : gb235 ≠ gb243)); have n7_ := Aside0.mk ((by rw [hg]; exact Nat.ne_of_gt (blk_lt (g := gb235) (o := .cells #[.slice (some ad242) l0.length c0] 74 (0, 0)) (by (with_reducible repeat (first | refine qf0 ?_ _ | refine qj0 ?_ | refine qg0 ?_ _)); exact BK235.out)) : gb243 ≠ gb235)); clear HO_9; clear BK235; clear HB; have HO_9 := n0_; have BK235 := n1_; have HB := n2_; have BK243 := n3_; have GW243 := n4_; have GE243 := n5_; have NB235_243 := n6_; have NB243_235 := n7_; clear n0_ n1_ n2_ n3_ n4_ n5_ n6_ n7_; clear hb hbox hg; have hnb34 := NB243_235.out; have hnc34 := NB235_243.out; have hcz35_0 : w33.cell? ⟨gb243, 0, none⟩ = some (.string (⟨#[]⟩ : ByteArray)) := (qe0 BK243.out 0).trans rfl; have hcz35_1 : w33.cell? ⟨gb243, 1, none⟩ = some (.string (⟨#[]⟩ : ByteArray)) := (qe0 BK243.out 1).trans rfl; have hcz35_2 : w33.cell? ⟨gb243, 2, none⟩ = some (.string (⟨#[]⟩ : ByteArray)) := (qe0 BK243.out 2).trans rfl; have hcz35_3 : w33.cell? ⟨gb243, 3, none⟩ = some (.int .i64 0) := (qe0 BK243.out 3).trans rfl; have hcz35_4 : w33.cell? ⟨gb243, 4, none⟩ = some (.int .i64 0) := (qe0 BK243.out 4).trans rfl; have hcz35_5 : w33.cell? ⟨gb243, 5, none⟩ = some (.int .i64 0) := (qe0 BK243.out 5).trans rfl; have hfz35_0 := qd0 BK243.out 0; have hfz35_1 := qd0 BK243.out 1; have hfz35_2 := qd0 BK243.out 2; have hfz35_3 := qd0 BK243.out 3; have hfz35_4 := qd0 BK243.out 4; have hfz35_5 := qd0 BK243.out 5)))
        go_roundg k2
        case measure => have := HJ4.out; have := HK2.out; omega
        case rel => exact ⟨(x9_2), (wrap64 (x32_2 + 1)), (by first | rfl | (simp; done) | (simp [*]; done)), H', ⟨by have := HJ4.out; have := HK2.out; omega⟩, ⟨by (with_reducible repeat (first | apply Kd.ql0 | apply Kd.qk0 | apply Kd.qo0)); exact Kd.qb1 (Kd.R_far (p := ⟨gb243, 5, none⟩) (Kd.R_far (p := ⟨gb243, 4, none⟩) (Kd.R_far (p := ⟨gb243, 3, none⟩) (Kd.R_far (p := ⟨gb243, 2, none⟩) (Kd.R_far (p := ⟨gb243, 1, none⟩) (Kd.R_far (p := ⟨gb243, 0, none⟩) (Kd.qm1 HO_9.out BK243.out (by decide)) (fun _ hk => hk.2) (.string ((rd_T160 l0 x32_2).f0))) (fun _ hk => hk.2) (.string ((rd_T160 l0 x32_2).f1))) (fun _ hk => hk.2) (.string ((rd_T160 l0 x32_2).f2))) (fun _ hk => hk.2) (.int .i64 ((rd_T160 l0 x32_2).f3))) (fun _ hk => hk.2) (.int .i64 ((rd_T160 l0 x32_2).f4))) (fun _ hk => hk.2) (.int .i64 ((rd_T160 l0 x32_2).f5))) (fun _ hk => trivial)⟩, ⟨by (with_reducible repeat (first | refine qf0 ?_ _ | refine qj0 ?_ | refine qg0 ?_ _)); refine qd1 ?_ NB235_243.out _; (with_reducible repeat (first | refine qf0 ?_ _ | refine qj0 ?_ | refine qg0 ?_ _)); refine qd1 ?_ NB235_243.out _; (with_reducible repeat (first | refine qf0 ?_ _ | refine qj0 ?_ | refine qg0 ?_ _)); refine qd1 ?_ NB235_243.out _; (with_reducible repeat (first | refine qf0 ?_ _ | refine qj0 ?_ | refine qg0 ?_ _)); refine qd1 ?_ NB235_243.out _; (with_reducible repeat (first | refine qf0 ?_ _ | refine qj0 ?_ | refine qg0 ?_ _)); refine qd1 ?_ NB235_243.out _; (with_reducible repeat (first | refine qf0 ?_ _ | refine qj0 ?_ | refine qg0 ?_ _)); refine qd1 ?_ NB235_243.out _; (with_reducible repeat (first | refine qf0 ?_ _ | refine qj0 ?_ | refine qg0 ?_ _)); exact BK235.out⟩, ⟨by repeat (first | (with_reducible first | exact HB.out | apply qc0 | apply qa0 | apply qb0 | refine qh0 ?_ GE235.out | refine qh0 ?_ GE243.out) | exact HB.out)⟩⟩
       rw [if_neg c26] at H
       have c26b0 : decide (a3 ≤ ((rd_T160 l0 x32_2).f3)) = false := decide_eq_false c26
       clear c26
       have H' := Aside0.mk H
       clear H
       have p242 : 0 ≤ (x32_2 : Int) := of_decide_eq_true (by first | (with_reducible assumption) | assumption)
       have q242 : x32_2 < (l0.length : Int) := of_decide_eq_true (by first | (with_reducible assumption) | assumption)
       obtain ⟨ad242, e242, hx242_0, hx242_1, hx242_2, hx242_3, hx242_4, hx242_5⟩ := at_T160 HR0.out x32_2 p242 q242
       cases e242
       replace hx242_0 := (HB.out.cell (World.block_lt_of_cell? w _ hx242_0)).trans hx242_0
       replace hx242_1 := (HB.out.cell (World.block_lt_of_cell? w _ hx242_1)).trans hx242_1
       replace hx242_2 := (HB.out.cell (World.block_lt_of_cell? w _ hx242_2)).trans hx242_2
       replace hx242_3 := (HB.out.cell (World.block_lt_of_cell? w _ hx242_3)).trans hx242_3
       replace hx242_4 := (HB.out.cell (World.block_lt_of_cell? w _ hx242_4)).trans hx242_4
       replace hx242_5 := (HB.out.cell (World.block_lt_of_cell? w _ hx242_5)).trans hx242_5
       replace p242 := eq_true p242
       replace q242 := eq_true q242
       go_wp2_with (first | ((with_reducible refine qs0 (N := 11) rfl ?_); refine qt0 ?hg (N := 11) ?hd (cs := #[.string (⟨#[]⟩ : ByteArray), .string (⟨#[]⟩ : ByteArray), .string (⟨#[]⟩ : ByteArray), .int .i64 0, .int .i64 0, .int .i64 0]) (t := 160) ?hr ?_; (case hd => rfl); (case hg => rfl); (case hr => first | (go_simp; done) | (go_simp; rfl)); intro gb243 hg w36 hbox hb; have n0_ := Aside0.mk (Kd.qr0 (by (with_reducible repeat (first | apply Kd.ql0 | apply Kd.qk0 | apply Kd.qo0)); exact HO_9.out) hb); have n1_ := Aside0.mk (qx0 (g := gb235) (o := .cells #[.slice (some ad242) l0.length c0] 74 (0, 0)) (by (with_reducible repeat (first | refine qf0 ?_ _ | refine qj0 ?_ | refine qg0 ?_ _)); exact BK235.out) hb); have n2_ := Aside0.mk (qm0 (by repeat (first | (with_reducible first | exact HB.out | apply qc0 | apply qa0 | apply qb0 | refine qh0 ?_ GE235.out) | exact HB.out)) hb); have n3_ := Aside0.mk (hbox); have n4_ := Aside0.mk ((by rw [hg]; exact (qi0 (by repeat (first | (with_reducible first | exact HB.out | apply qc0 | apply qa0 | apply qb0 | refine qh0 ?_ GE235.out) | exact HB.out))) : w.heap.size ≤ gb243)); have n5_ := Aside0.mk ((by rw [hg]; exact (qi0 (by repeat (first | (with_reducible first | exact HB.out | apply qc0 | apply qa0 | apply qb0 | refine qh0 ?_ GE235.out) | exact HB.out))) : w.heap.size ≤ gb243)); have n6_ := Aside0.mk ((by rw [hg]; exact Nat.ne_of_lt (blk_lt (g := gb235) (o := .cells #[.slice (some ad242) l0.length c0] 74 (0, 0)) (by (with_reducible repeat (first | refine qf0 ?_ _ | refine qj0 ?_ | refine qg0 ?_ _)); exact BK235.out)) : gb235 ≠ gb243)); have n7_ := Aside0.mk ((by rw [hg]; exact Nat.ne_of_gt (blk_lt (g := gb235) (o := .cells #[.slice (some ad242) l0.length c0] 74 (0, 0)) (by (with_reducible repeat (first | refine qf0 ?_ _ | refine qj0 ?_ | refine qg0 ?_ _)); exact BK235.out)) : gb243 ≠ gb235)); clear HO_9; clear BK235; clear HB; have HO_9 := n0_; have BK235 := n1_; have HB := n2_; have BK243 := n3_; have GW243 := n4_; have GE243 := n5_; have NB235_243 := n6_; have NB243_235 := n7_; clear n0_ n1_ n2_ n3_ n4_ n5_ n6_ n7_; clear hb hbox hg; have hnb37 := NB243_235.out; have hnc37 := NB235_243.out; have hcz38_0 : w36.cell? ⟨gb243, 0, none⟩ = some (.string (⟨#[]⟩ : ByteArray)) := (qe0 BK243.out 0).trans rfl; have hcz38_1 : w36.cell? ⟨gb243, 1, none⟩ = some (.string (⟨#[]⟩ : ByteArray)) := (qe0 BK243.out 1).trans rfl; have hcz38_2 : w36.cell? ⟨gb243, 2, none⟩ = some (.string (⟨#[]⟩ : ByteArray)) := (qe0 BK243.out 2).trans rfl; have hcz38_3 : w36.cell? ⟨gb243, 3, none⟩ = some (.int .i64 0) := (qe0 BK243.out 3).trans rfl; have hcz38_4 : w36.cell? ⟨gb243, 4, none⟩ = some (.int .i64 0) := (qe0 BK243.out 4).trans rfl; have hcz38_5 : w36.cell? ⟨gb243, 5, none⟩ = some (.int .i64 0) := (qe0 BK243.out 5).trans rfl; have hfz38_0 := qd0 BK243.out 0; have hfz38_1 := qd0 BK243.out 1; have hfz38_2 := qd0 BK243.out 2; have hfz38_3 := qd0 BK243.out 3; have hfz38_4 := qd0 BK243.out 4; have hfz38_5 := qd0 BK243.out 5))
       repeat (go_quiet (first | ((with_reducible refine qs0 (N := 11) rfl ?_); refine qt0 ?hg (N := 11) ?hd (cs := #[.string (⟨#[]⟩ : ByteArray), .string (⟨#[]⟩ : ByteArray), .string (⟨#[]⟩ : ByteArray), .int .i64 0, .int .i64 0, .int .i64 0]) (t := 160) ?hr ?_; (case hd => rfl); (case hg => rfl); (case hr => first | (go_simp; done) | (go_simp; rfl)); intro gb243 hg w36 hbox hb; have n0_ := Aside0.mk (Kd.qr0 (by (with_reducible repeat (first | apply Kd.ql0 | apply Kd.qk0 | apply Kd.qo0)); exact HO_9.out) hb); have n1_ := Aside0.mk (qx0 (g := gb235) (o := .cells #[.slice (some ad242) l0.length c0] 74 (0, 0)) (by (with_reducible repeat (first | refine qf0 ?_ _ | refine qj0 ?_ | refine qg0 ?_ _)); exact BK235.out) hb); have n2_ := Aside0.mk (qm0 (by repeat (first | (with_reducible first | exact HB.out | apply qc0 | apply qa0 | apply qb0 | refine qh0 ?_ GE235.out) | exact HB.out)) hb); have n3_ := Aside0.mk (hbox); have n4_ := Aside0.mk ((by rw [hg]; exact (qi0 (by repeat (first | (with_reducible first | exact HB.out | apply qc0 | apply qa0 | apply qb0 | refine qh0 ?_ GE235.out) | exact HB.out))) : w.heap.size ≤ gb243)); have n5_ := Aside0.mk ((by rw [hg]; exact (qi0 (by repeat (first | (with_reducible first | exact HB.out | apply qc0 | apply qa0 | apply qb0 | refine qh0 ?_ GE235.out) | exact HB.out))) : w.heap.size ≤ gb243)); have n6_ := Aside0.mk ((by rw [hg]; exact Nat.ne_of_lt (blk_lt (g := gb235) (o := .cells #[.slice (some ad242) l0.length c0] 74 (0, 0)) (by (with_reducible repeat (first | refine qf0 ?_ _ | refine qj0 ?_ | refine qg0 ?_ _)); exact BK235.out)) : gb235 ≠ gb243)); have n7_ := Aside0.mk ((by rw [hg]; exact Nat.ne_of_gt (blk_lt (g := gb235) (o := .cells #[.slice (some ad242) l0.length c0] 74 (0, 0)) (by (with_reducible repeat (first | refine qf0 ?_ _ | refine qj0 ?_ | refine qg0 ?_ _)); exact BK235.out)) : gb243 ≠ gb235)); clear HO_9; clear BK235; clear HB; have HO_9 := n0_; have BK235 := n1_; have HB := n2_; have BK243 := n3_; have GW243 := n4_; have GE243 := n5_; have NB235_243 := n6_; have NB243_235 := n7_; clear n0_ n1_ n2_ n3_ n4_ n5_ n6_ n7_; clear hb hbox hg; have hnb37 := NB243_235.out; have hnc37 := NB235_243.out; have hcz38_0 : w36.cell? ⟨gb243, 0, none⟩ = some (.string (⟨#[]⟩ : ByteArray)) := (qe0 BK243.out 0).trans rfl; have hcz38_1 : w36.cell? ⟨gb243, 1, none⟩ = some (.string (⟨#[]⟩ : ByteArray)) := (qe0 BK243.out 1).trans rfl; have hcz38_2 : w36.cell? ⟨gb243, 2, none⟩ = some (.string (⟨#[]⟩ : ByteArray)) := (qe0 BK243.out 2).trans rfl; have hcz38_3 : w36.cell? ⟨gb243, 3, none⟩ = some (.int .i64 0) := (qe0 BK243.out 3).trans rfl; have hcz38_4 : w36.cell? ⟨gb243, 4, none⟩ = some (.int .i64 0) := (qe0 BK243.out 4).trans rfl; have hcz38_5 : w36.cell? ⟨gb243, 5, none⟩ = some (.int .i64 0) := (qe0 BK243.out 5).trans rfl; have hfz38_0 := qd0 BK243.out 0; have hfz38_1 := qd0 BK243.out 1; have hfz38_2 := qd0 BK243.out 2; have hfz38_3 := qd0 BK243.out 3; have hfz38_4 := qd0 BK243.out 4; have hfz38_5 := qd0 BK243.out 5)); try go_wp2_with (first | ((with_reducible refine qs0 (N := 11) rfl ?_); refine qt0 ?hg (N := 11) ?hd (cs := #[.string (⟨#[]⟩ : ByteArray), .string (⟨#[]⟩ : ByteArray), .string (⟨#[]⟩ : ByteArray), .int .i64 0, .int .i64 0, .int .i64 0]) (t := 160) ?hr ?_; (case hd => rfl); (case hg => rfl); (case hr => first | (go_simp; done) | (go_simp; rfl)); intro gb243 hg w36 hbox hb; have n0_ := Aside0.mk (Kd.qr0 (by (with_reducible repeat (first | apply Kd.ql0 | apply Kd.qk0 | apply Kd.qo0)); exact HO_9.out) hb); have n1_ := Aside0.mk (qx0 (g := gb235) (o := .cells #[.slice (some ad242) l0.length c0] 74 (0, 0)) (by (with_reducible repeat (first | refine qf0 ?_ _ | refine qj0 ?_ | refine qg0 ?_ _)); exact BK235.out) hb); have n2_ := Aside0.mk (qm0 (by repeat (first | (with_reducible first | exact HB.out | apply qc0 | apply qa0 | apply qb0 | refine qh0 ?_ GE235.out) | exact HB.out)) hb); have n3_ := Aside0.mk (hbox); have n4_ := Aside0.mk ((by rw [hg]; exact (qi0 (by repeat (first | (with_reducible first | exact HB.out | apply qc0 | apply qa0 | apply qb0 | refine qh0 ?_ GE235.out) | exact HB.out))) : w.heap.size ≤ gb243)); have n5_ := Aside0.mk ((by rw [hg]; exact (qi0 (by repeat (first | (with_reducible first | exact HB.out | apply qc0 | apply qa0 | apply qb0 | refine qh0 ?_ GE235.out) | exact HB.out))) : w.heap.size ≤ gb243)); have n6_ := Aside0.mk ((by rw [hg]; exact Nat.ne_of_lt (blk_lt (g := gb235) (o := .cells #[.slice (some ad242) l0.length c0] 74 (0, 0)) (by (with_reducible repeat (first | refine qf0 ?_ _ | refine qj0 ?_ | refine qg0 ?_ _)); exact BK235.out)) : gb235 ≠ gb243)); have n7_ := Aside0.mk ((by rw [hg]; exact Nat.ne_of_gt (blk_lt (g := gb235) (o := .cells #[.slice (some ad242) l0.length c0] 74 (0, 0)) (by (with_reducible repeat (first | refine qf0 ?_ _ | refine qj0 ?_ | refine qg0 ?_ _)); exact BK235.out)) : gb243 ≠ gb235)); clear HO_9; clear BK235; clear HB; have HO_9 := n0_; have BK235 := n1_; have HB := n2_; have BK243 := n3_; have GW243 := n4_; have GE243 := n5_; have NB235_243 := n6_; have NB243_235 := n7_; clear n0_ n1_ n2_ n3_ n4_ n5_ n6_ n7_; clear hb hbox hg; have hnb37 := NB243_235.out; have hnc37 := NB235_243.out; have hcz38_0 : w36.cell? ⟨gb243, 0, none⟩ = some (.string (⟨#[]⟩ : ByteArray)) := (qe0 BK243.out 0).trans rfl; have hcz38_1 : w36.cell? ⟨gb243, 1, none⟩ = some (.string (⟨#[]⟩ : ByteArray)) := (qe0 BK243.out 1).trans rfl; have hcz38_2 : w36.cell? ⟨gb243, 2, none⟩ = some (.string (⟨#[]⟩ : ByteArray)) := (qe0 BK243.out 2).trans rfl; have hcz38_3 : w36.cell? ⟨gb243, 3, none⟩ = some (.int .i64 0) := (qe0 BK243.out 3).trans rfl; have hcz38_4 : w36.cell? ⟨gb243, 4, none⟩ = some (.int .i64 0) := (qe0 BK243.out 4).trans rfl; have hcz38_5 : w36.cell? ⟨gb243, 5, none⟩ = some (.int .i64 0) := (qe0 BK243.out 5).trans rfl; have hfz38_0 := qd0 BK243.out 0; have hfz38_1 := qd0 BK243.out 1; have hfz38_2 := qd0 BK243.out 2; have hfz38_3 := qd0 BK243.out 3; have hfz38_4 := qd0 BK243.out 4; have hfz38_5 := qd0 BK243.out 5)))
       go_roundg k2
       case measure => have := HJ4.out; have := HK2.out; omega
       case rel => exact ⟨(x9_2), (wrap64 (x32_2 + 1)), (by first | rfl | (simp; done) | (simp [*]; done)), H', ⟨by have := HJ4.out; have := HK2.out; omega⟩, ⟨by (with_reducible repeat (first | apply Kd.ql0 | apply Kd.qk0 | apply Kd.qo0)); exact Kd.qb1 (Kd.R_far (p := ⟨gb243, 5, none⟩) (Kd.R_far (p := ⟨gb243, 4, none⟩) (Kd.R_far (p := ⟨gb243, 3, none⟩) (Kd.R_far (p := ⟨gb243, 2, none⟩) (Kd.R_far (p := ⟨gb243, 1, none⟩) (Kd.R_far (p := ⟨gb243, 0, none⟩) (Kd.qm1 HO_9.out BK243.out (by decide)) (fun _ hk => hk.2) (.string ((rd_T160 l0 x32_2).f0))) (fun _ hk => hk.2) (.string ((rd_T160 l0 x32_2).f1))) (fun _ hk => hk.2) (.string ((rd_T160 l0 x32_2).f2))) (fun _ hk => hk.2) (.int .i64 ((rd_T160 l0 x32_2).f3))) (fun _ hk => hk.2) (.int .i64 ((rd_T160 l0 x32_2).f4))) (fun _ hk => hk.2) (.int .i64 ((rd_T160 l0 x32_2).f5))) (fun _ hk => trivial)⟩, ⟨by (with_reducible repeat (first | refine qf0 ?_ _ | refine qj0 ?_ | refine qg0 ?_ _)); refine qd1 ?_ NB235_243.out _; (with_reducible repeat (first | refine qf0 ?_ _ | refine qj0 ?_ | refine qg0 ?_ _)); refine qd1 ?_ NB235_243.out _; (with_reducible repeat (first | refine qf0 ?_ _ | refine qj0 ?_ | refine qg0 ?_ _)); refine qd1 ?_ NB235_243.out _; (with_reducible repeat (first | refine qf0 ?_ _ | refine qj0 ?_ | refine qg0 ?_ _)); refine qd1 ?_ NB235_243.out _; (with_reducible repeat (first | refine qf0 ?_ _ | refine qj0 ?_ | refine qg0 ?_ _)); refine qd1 ?_ NB235_243.out _; (with_reducible repeat (first | refine qf0 ?_ _ | refine qj0 ?_ | refine qg0 ?_ _)); refine qd1 ?_ NB235_243.out _; (with_reducible repeat (first | refine qf0 ?_ _ | refine qj0 ?_ | refine qg0 ?_ _)); exact BK235.out⟩, ⟨by repeat (first | (with_reducible first | exact HB.out | apply qc0 | apply qa0 | apply qb0 | refine qh0 ?_ GE235.out | refine qh0 ?_ GE243.out) | exact HB.out)⟩⟩
      rw [if_neg c25] at H
      have c25b0 : (((rd_T160 l0 x32_2).f0).toList == a1.toList) = false := beq_eq_false_iff_ne.mpr c25
      have c25b1 : (((rd_T160 l0 x32_2).f0).toList != a1.toList) = true := bne_iff_ne.mpr c25
      have H' := Aside0.mk H
      clear H
      have p242 : 0 ≤ (x32_2 : Int) := of_decide_eq_true (by first | (with_reducible assumption) | assumption)
      have q242 : x32_2 < (l0.length : Int) := of_decide_eq_true (by first | (with_reducible assumption) | assumption)
      obtain ⟨ad242, e242, hx242_0, hx242_1, hx242_2, hx242_3, hx242_4, hx242_5⟩ := at_T160 HR0.out x32_2 p242 q242
      cases e242
      replace hx242_0 := (HB.out.cell (World.block_lt_of_cell? w _ hx242_0)).trans hx242_0
      replace hx242_1 := (HB.out.cell (World.block_lt_of_cell? w _ hx242_1)).trans hx242_1
      replace hx242_2 := (HB.out.cell (World.block_lt_of_cell? w _ hx242_2)).trans hx242_2
      replace hx242_3 := (HB.out.cell (World.block_lt_of_cell? w _ hx242_3)).trans hx242_3
      replace hx242_4 := (HB.out.cell (World.block_lt_of_cell? w _ hx242_4)).trans hx242_4
      replace hx242_5 := (HB.out.cell (World.block_lt_of_cell? w _ hx242_5)).trans hx242_5
      replace p242 := eq_true p242
      replace q242 := eq_true q242
      go_wp2_with (first | ((with_reducible refine qs0 (N := 11) rfl ?_); refine qt0 ?hg (N := 11) ?hd (cs := #[.string (⟨#[]⟩ : ByteArray), .string (⟨#[]⟩ : ByteArray), .string (⟨#[]⟩ : ByteArray), .int .i64 0, .int .i64 0, .int .i64 0]) (t := 160) ?hr ?_; (case hd => rfl); (case hg => rfl); (case hr => first | (go_simp; done) | (go_simp; rfl)); intro gb243 hg w39 hbox hb; have n0_ := Aside0.mk (Kd.qr0 (by (with_reducible repeat (first | apply Kd.ql0 | apply Kd.qk0 | apply Kd.qo0)); exact HO_9.out) hb); have n1_ := Aside0.mk (qx0 (g := gb235) (o := .cells #[.slice (some ad242) l0.length c0] 74 (0, 0)) (by (with_reducible repeat (first | refine qf0 ?_ _ | refine qj0 ?_ | refine qg0 ?_ _)); exact BK235.out) hb); have n2_ := Aside0.mk (qm0 (by repeat (first | (with_reducible first | exact HB.out | apply qc0 | apply qa0 | apply qb0 | refine qh0 ?_ GE235.out) | exact HB.out)) hb); have n3_ := Aside0.mk (hbox); have n4_ := Aside0.mk ((by rw [hg]; exact (qi0 (by repeat (first | (with_reducible first | exact HB.out | apply qc0 | apply qa0 | apply qb0 | refine qh0 ?_ GE235.out) | exact HB.out))) : w.heap.size ≤ gb243)); have n5_ := Aside0.mk ((by rw [hg]; exact (qi0 (by repeat (first | (with_reducible first | exact HB.out | apply qc0 | apply qa0 | apply qb0 | refine qh0 ?_ GE235.out) | exact HB.out))) : w.heap.size ≤ gb243)); have n6_ := Aside0.mk ((by rw [hg]; exact Nat.ne_of_lt (blk_lt (g := gb235) (o := .cells #[.slice (some ad242) l0.length c0] 74 (0, 0)) (by (with_reducible repeat (first | refine qf0 ?_ _ | refine qj0 ?_ | refine qg0 ?_ _)); exact BK235.out)) : gb235 ≠ gb243)); have n7_ := Aside0.mk ((by rw [hg]; exact Nat.ne_of_gt (blk_lt (g := gb235) (o := .cells #[.slice (some ad242) l0.length c0] 74 (0, 0)) (by (with_reducible repeat (first | refine qf0 ?_ _ | refine qj0 ?_ | refine qg0 ?_ _)); exact BK235.out)) : gb243 ≠ gb235)); clear HO_9; clear BK235; clear HB; have HO_9 := n0_; have BK235 := n1_; have HB := n2_; have BK243 := n3_; have GW243 := n4_; have GE243 := n5_; have NB235_243 := n6_; have NB243_235 := n7_; clear n0_ n1_ n2_ n3_ n4_ n5_ n6_ n7_; clear hb hbox hg; have hnb40 := NB243_235.out; have hnc40 := NB235_243.out; have hcz41_0 : w39.cell? ⟨gb243, 0, none⟩ = some (.string (⟨#[]⟩ : ByteArray)) := (qe0 BK243.out 0).trans rfl; have hcz41_1 : w39.cell? ⟨gb243, 1, none⟩ = some (.string (⟨#[]⟩ : ByteArray)) := (qe0 BK243.out 1).trans rfl; have hcz41_2 : w39.cell? ⟨gb243, 2, none⟩ = some (.string (⟨#[]⟩ : ByteArray)) := (qe0 BK243.out 2).trans rfl; have hcz41_3 : w39.cell? ⟨gb243, 3, none⟩ = some (.int .i64 0) := (qe0 BK243.out 3).trans rfl; have hcz41_4 : w39.cell? ⟨gb243, 4, none⟩ = some (.int .i64 0) := (qe0 BK243.out 4).trans rfl; have hcz41_5 : w39.cell? ⟨gb243, 5, none⟩ = some (.int .i64 0) := (qe0 BK243.out 5).trans rfl; have hfz41_0 := qd0 BK243.out 0; have hfz41_1 := qd0 BK243.out 1; have hfz41_2 := qd0 BK243.out 2; have hfz41_3 := qd0 BK243.out 3; have hfz41_4 := qd0 BK243.out 4; have hfz41_5 := qd0 BK243.out 5))
      repeat (go_quiet (first | ((with_reducible refine qs0 (N := 11) rfl ?_); refine qt0 ?hg (N := 11) ?hd (cs := #[.string (⟨#[]⟩ : ByteArray), .string (⟨#[]⟩ : ByteArray), .string (⟨#[]⟩ : ByteArray), .int .i64 0, .int .i64 0, .int .i64 0]) (t := 160) ?hr ?_; (case hd => rfl); (case hg => rfl); (case hr => first | (go_simp; done) | (go_simp; rfl)); intro gb243 hg w39 hbox hb; have n0_ := Aside0.mk (Kd.qr0 (by (with_reducible repeat (first | apply Kd.ql0 | apply Kd.qk0 | apply Kd.qo0)); exact HO_9.out) hb); have n1_ := Aside0.mk (qx0 (g := gb235) (o := .cells #[.slice (some ad242) l0.length c0] 74 (0, 0)) (by (with_reducible repeat (first | refine qf0 ?_ _ | refine qj0 ?_ | refine qg0 ?_ _)); exact BK235.out) hb); have n2_ := Aside0.mk (qm0 (by repeat (first | (with_reducible first | exact HB.out | apply qc0 | apply qa0 | apply qb0 | refine qh0 ?_ GE235.out) | exact HB.out)) hb); have n3_ := Aside0.mk (hbox); have n4_ := Aside0.mk ((by rw [hg]; exact (qi0 (by repeat (first | (with_reducible first | exact HB.out | apply qc0 | apply qa0 | apply qb0 | refine qh0 ?_ GE235.out) | exact HB.out))) : w.heap.size ≤ gb243)); have n5_ := Aside0.mk ((by rw [hg]; exact (qi0 (by repeat (first | (with_reducible first | exact HB.out | apply qc0 | apply qa0 | apply qb0 | refine qh0 ?_ GE235.out) | exact HB.out))) : w.heap.size ≤ gb243)); have n6_ := Aside0.mk ((by rw [hg]; exact Nat.ne_of_lt (blk_lt (g := gb235) (o := .cells #[.slice (some ad242) l0.length c0] 74 (0, 0)) (by (with_reducible repeat (first | refine qf0 ?_ _ | refine qj0 ?_ | refine qg0 ?_ _)); exact BK235.out)) : gb235 ≠ gb243)); have n7_ := Aside0.mk ((by rw [hg]; exact Nat.ne_of_gt (blk_lt (g := gb235) (o := .cells #[.slice (some ad242) l0.length c0] 74 (0, 0)) (by (with_reducible repeat (first | refine qf0 ?_ _ | refine qj0 ?_ | refine qg0 ?_ _)); exact BK235.out)) : gb243 ≠ gb235)); clear HO_9; clear BK235; clear HB; have HO_9 := n0_; have BK235 := n1_; have HB := n2_; have BK243 := n3_; have GW243 := n4_; have GE243 := n5_; have NB235_243 := n6_; have NB243_235 := n7_; clear n0_ n1_ n2_ n3_ n4_ n5_ n6_ n7_; clear hb hbox hg; have hnb40 := NB243_235.out; have hnc40 := NB235_243.out; have hcz41_0 : w39.cell? ⟨gb243, 0, none⟩ = some (.string (⟨#[]⟩ : ByteArray)) := (qe0 BK243.out 0).trans rfl; have hcz41_1 : w39.cell? ⟨gb243, 1, none⟩ = some (.string (⟨#[]⟩ : ByteArray)) := (qe0 BK243.out 1).trans rfl; have hcz41_2 : w39.cell? ⟨gb243, 2, none⟩ = some (.string (⟨#[]⟩ : ByteArray)) := (qe0 BK243.out 2).trans rfl; have hcz41_3 : w39.cell? ⟨gb243, 3, none⟩ = some (.int .i64 0) := (qe0 BK243.out 3).trans rfl; have hcz41_4 : w39.cell? ⟨gb243, 4, none⟩ = some (.int .i64 0) := (qe0 BK243.out 4).trans rfl; have hcz41_5 : w39.cell? ⟨gb243, 5, none⟩ = some (.int .i64 0) := (qe0 BK243.out 5).trans rfl; have hfz41_0 := qd0 BK243.out 0; have hfz41_1 := qd0 BK243.out 1; have hfz41_2 := qd0 BK243.out 2; have hfz41_3 := qd0 BK243.out 3; have hfz41_4 := qd0 BK243.out 4; have hfz41_5 := qd0 BK243.out 5)); try go_wp2_with (first | ((with_reducible refine qs0 (N := 11) rfl ?_); refine qt0 ?hg (N := 11) ?hd (cs := #[.string (⟨#[]⟩ : ByteArray), .string (⟨#[]⟩ : ByteArray), .string (⟨#[]⟩ : ByteArray), .int .i64 0, .int .i64 0, .int .i64 0]) (t := 160) ?hr ?_; (case hd => rfl); (case hg => rfl); (case hr => first | (go_simp; done) | (go_simp; rfl)); intro gb243 hg w39 hbox hb; have n0_ := Aside0.mk (Kd.qr0 (by (with_reducible repeat (first | apply Kd.ql0 | apply Kd.qk0 | apply Kd.qo0)); exact HO_9.out) hb); have n1_ := Aside0.mk (qx0 (g := gb235) (o := .cells #[.slice (some ad242) l0.length c0] 74 (0, 0)) (by (with_reducible repeat (first | refine qf0 ?_ _ | refine qj0 ?_ | refine qg0 ?_ _)); exact BK235.out) hb); have n2_ := Aside0.mk (qm0 (by repeat (first | (with_reducible first | exact HB.out | apply qc0 | apply qa0 | apply qb0 | refine qh0 ?_ GE235.out) | exact HB.out)) hb); have n3_ := Aside0.mk (hbox); have n4_ := Aside0.mk ((by rw [hg]; exact (qi0 (by repeat (first | (with_reducible first | exact HB.out | apply qc0 | apply qa0 | apply qb0 | refine qh0 ?_ GE235.out) | exact HB.out))) : w.heap.size ≤ gb243)); have n5_ := Aside0.mk ((by rw [hg]; exact (qi0 (by repeat (first | (with_reducible first | exact HB.out | apply qc0 | apply qa0 | apply qb0 | refine qh0 ?_ GE235.out) | exact HB.out))) : w.heap.size ≤ gb243)); have n6_ := Aside0.mk ((by rw [hg]; exact Nat.ne_of_lt (blk_lt (g := gb235) (o := .cells #[.slice (some ad242) l0.length c0] 74 (0, 0)) (by (with_reducible repeat (first | refine qf0 ?_ _ | refine qj0 ?_ | refine qg0 ?_ _)); exact BK235.out)) : gb235 ≠ gb243)); have n7_ := Aside0.mk ((by rw [hg]; exact Nat.ne_of_gt (blk_lt (g := gb235) (o := .cells #[.slice (some ad242) l0.length c0] 74 (0, 0)) (by (with_reducible repeat (first | refine qf0 ?_ _ | refine qj0 ?_ | refine qg0 ?_ _)); exact BK235.out)) : gb243 ≠ gb235)); clear HO_9; clear BK235; clear HB; have HO_9 := n0_; have BK235 := n1_; have HB := n2_; have BK243 := n3_; have GW243 := n4_; have GE243 := n5_; have NB235_243 := n6_; have NB243_235 := n7_; clear n0_ n1_ n2_ n3_ n4_ n5_ n6_ n7_; clear hb hbox hg; have hnb40 := NB243_235.out; have hnc40 := NB235_243.out; have hcz41_0 : w39.cell? ⟨gb243, 0, none⟩ = some (.string (⟨#[]⟩ : ByteArray)) := (qe0 BK243.out 0).trans rfl; have hcz41_1 : w39.cell? ⟨gb243, 1, none⟩ = some (.string (⟨#[]⟩ : ByteArray)) := (qe0 BK243.out 1).trans rfl; have hcz41_2 : w39.cell? ⟨gb243, 2, none⟩ = some (.string (⟨#[]⟩ : ByteArray)) := (qe0 BK243.out 2).trans rfl; have hcz41_3 : w39.cell? ⟨gb243, 3, none⟩ = some (.int .i64 0) := (qe0 BK243.out 3).trans rfl; have hcz41_4 : w39.cell? ⟨gb243, 4, none⟩ = some (.int .i64 0) := (qe0 BK243.out 4).trans rfl; have hcz41_5 : w39.cell? ⟨gb243, 5, none⟩ = some (.int .i64 0) := (qe0 BK243.out 5).trans rfl; have hfz41_0 := qd0 BK243.out 0; have hfz41_1 := qd0 BK243.out 1; have hfz41_2 := qd0 BK243.out 2; have hfz41_3 := qd0 BK243.out 3; have hfz41_4 := qd0 BK243.out 4; have hfz41_5 := qd0 BK243.out 5)))
      go_roundg k2
      case measure => have := HJ4.out; have := HK2.out; omega
      case rel => exact ⟨(x9_2), (wrap64 (x32_2 + 1)), (by first | rfl | (simp; done) | (simp [*]; done)), H', ⟨by have := HJ4.out; have := HK2.out; omega⟩, ⟨by (with_reducible repeat (first | apply Kd.ql0 | apply Kd.qk0 | apply Kd.qo0)); exact Kd.qb1 (Kd.R_far (p := ⟨gb243, 5, none⟩) (Kd.R_far (p := ⟨gb243, 4, none⟩) (Kd.R_far (p := ⟨gb243, 3, none⟩) (Kd.R_far (p := ⟨gb243, 2, none⟩) (Kd.R_far (p := ⟨gb243, 1, none⟩) (Kd.R_far (p := ⟨gb243, 0, none⟩) (Kd.qm1 HO_9.out BK243.out (by decide)) (fun _ hk => hk.2) (.string ((rd_T160 l0 x32_2).f0))) (fun _ hk => hk.2) (.string ((rd_T160 l0 x32_2).f1))) (fun _ hk => hk.2) (.string ((rd_T160 l0 x32_2).f2))) (fun _ hk => hk.2) (.int .i64 ((rd_T160 l0 x32_2).f3))) (fun _ hk => hk.2) (.int .i64 ((rd_T160 l0 x32_2).f4))) (fun _ hk => hk.2) (.int .i64 ((rd_T160 l0 x32_2).f5))) (fun _ hk => trivial)⟩, ⟨by (with_reducible repeat (first | refine qf0 ?_ _ | refine qj0 ?_ | refine qg0 ?_ _)); refine qd1 ?_ NB235_243.out _; (with_reducible repeat (first | refine qf0 ?_ _ | refine qj0 ?_ | refine qg0 ?_ _)); refine qd1 ?_ NB235_243.out _; (with_reducible repeat (first | refine qf0 ?_ _ | refine qj0 ?_ | refine qg0 ?_ _)); refine qd1 ?_ NB235_243.out _; (with_reducible repeat (first | refine qf0 ?_ _ | refine qj0 ?_ | refine qg0 ?_ _)); refine qd1 ?_ NB235_243.out _; (with_reducible repeat (first | refine qf0 ?_ _ | refine qj0 ?_ | refine qg0 ?_ _)); refine qd1 ?_ NB235_243.out _; (with_reducible repeat (first | refine qf0 ?_ _ | refine qj0 ?_ | refine qg0 ?_ _)); refine qd1 ?_ NB235_243.out _; (with_reducible repeat (first | refine qf0 ?_ _ | refine qj0 ?_ | refine qg0 ?_ _)); exact BK235.out⟩, ⟨by repeat (first | (with_reducible first | exact HB.out | apply qc0 | apply qa0 | apply qb0 | refine qh0 ?_ GE235.out | refine qh0 ?_ GE243.out) | exact HB.out)⟩⟩
     rw [if_neg c22] at H
     have c22b0 : decide (x32_2 < (l0.length : Int)) = false := decide_eq_false c22
     clear c22
     replace H := Option.bind_eq_some_iff.mp H
     obtain ⟨t247, A420, H⟩ := H
     replace H : (impl_Picks.l1 k2 a2 (([] : List (S162))) t247 (x9_2.length : Int) 0 l0) = some r := H
     have A42 := Aside0.mk A420
     clear A420
     obtain ⟨y248, hy248⟩ : ∃ y_ : List (S162), y_ = (([] : List (S162))) := ⟨_, rfl⟩
     replace H : (impl_Picks.l1 k2 a2 y248 t247 (x9_2.length : Int) 0 l0) = some r := by first | (rw [hy248]; with_reducible exact H) | (have H2_ := (Option.bind_some _ _).symm.trans H; rw [hy248]; with_reducible exact H2_) | (have H2_ := (Option.bind_some _ _).symm.trans H; with_reducible exact H2_) | with_reducible exact H | (rw [hy248]; exact H) | exact H
     have Ny248 := Aside0.mk hy248
     clear hy248
     have H' := Aside0.mk H
     clear H
     obtain ⟨Ao43, co43, eo43⟩ := Kd.qg1 HO_9.out
     subst eo43
     go_wp2_with (first | (go_at_call 98; (with_reducible refine (impl_sortBy_int.calls k2 (fun k_ => some k_ = (.slice Ao43 x9_2.length co43 : Value).ownBlock) (.slice Ao43 x9_2.length co43) x9_2 127 (#[.pointer (some ⟨gb235, 0, none⟩)]) (fun a_ b_ => impl_Picks_1.f a_ b_ l0) t247 w _ ?side1 ?side2 ?side3 A42.out).mono ?_); (case side1 => repeat (first | (with_reducible first | exact HB.out | apply qc0 | apply qa0 | apply qb0 | refine qh0 ?_ GE235.out) | exact HB.out)); (case side2 => exact Kd.R_tight rfl HO_9.out); (case side3 => exact fun W_ h_ => impl_Picks_1.ok W_ (blk_kept (by (with_reducible repeat (first | refine qf0 ?_ _ | refine qj0 ?_ | refine qg0 ?_ _)); exact BK235.out) h_ (fun hs_ => (fun e_ => (Kd.R_ne HO_9.out BK235.out (by decide)) e_) hs_)) ((Kd.C_kept_came k160_heap HR0.out (by repeat (first | (with_reducible first | exact HB.out | apply qc0 | apply qa0 | apply qb0 | refine qh0 ?_ GE235.out) | exact HB.out)) (fun k_ hs_ => (fun e_ => Kd.qo1 HO_9.out k_ e_.symm) hs_)) W_ h_) HC0.out); rintro e w44 ⟨rfl, hy0, hb, hkp⟩; have n0_ := Aside0.mk (Kd.R_reok rfl hy0 (fun k_ e_ => HO_9.out.1 k_ e_)); have n1_ := Aside0.mk (blk_kept (by (with_reducible repeat (first | refine qf0 ?_ _ | refine qj0 ?_ | refine qg0 ?_ _)); exact BK235.out) hkp (fun hs_ => (fun e_ => (Kd.R_ne HO_9.out BK235.out (by decide)) e_) hs_)); have n2_ := Aside0.mk (hb); clear HO_9; clear BK235; clear HB; have HO_9 := n0_; have BK235 := n1_; have HB := n2_; clear n0_ n1_ n2_; (try clear hb); (try clear hkp); (try clear hy0)) | ((with_reducible refine qs0 (N := 62) rfl ?_); refine Kd.R_lit k162 _ 162 ?hg (N := 62) ?hd (xs := ([] : List (S162))) (inner := []) (ok := fun _ => True) (okp := fun _ => True) ?hr ?hp (fun _ hk => hk) trivial (Below.refl _ _) (Nat.le_refl _) (by simp) ?_; (case hd => rfl); (case hg => rfl); (case hr => first | (go_simp; done) | (go_simp; rfl)); (case hp => exact (Reps.none _ _)); intro v249 w45 ho46 hb hg_ hnew_; clear hg_ hnew_; (first | rw [← Ny248.out] at ho46 | (simp only [Int.reduceToNat] at ho46; rw [← Ny248.out] at ho46)); have n0_ := Aside0.mk (Kd.qr0 (by (with_reducible repeat (first | apply Kd.ql0 | apply Kd.qk0 | apply Kd.qo0)); exact HO_9.out) hb); have n1_ := Aside0.mk (Kd.qf1 ho46 (qi0 (by repeat (first | (with_reducible first | exact HB.out | apply qc0 | apply qa0 | apply qb0 | refine qh0 ?_ GE235.out) | exact HB.out)))); have n2_ := Aside0.mk (qx0 (g := gb235) (o := .cells #[.slice A0 l0.length c0] 74 (0, 0)) (by (with_reducible repeat (first | refine qf0 ?_ _ | refine qj0 ?_ | refine qg0 ?_ _)); exact BK235.out) hb); have n3_ := Aside0.mk (qm0 (by repeat (first | (with_reducible first | exact HB.out | apply qc0 | apply qa0 | apply qb0 | refine qh0 ?_ GE235.out) | exact HB.out)) hb); clear HO_9; clear BK235; clear HB; have HO_9 := n0_; have HO250 := n1_; have BK235 := n2_; have HB := n3_; clear n0_ n1_ n2_ n3_; clear hb ho46))
     repeat (go_quiet (first | (go_at_call 98; (with_reducible refine (impl_sortBy_int.calls k2 (fun k_ => some k_ = (.slice Ao43 x9_2.length co43 : Value).ownBlock) (.slice Ao43 x9_2.length co43) x9_2 127 (#[.pointer (some ⟨gb235, 0, none⟩)]) (fun a_ b_ => impl_Picks_1.f a_ b_ l0) t247 w _ ?side1 ?side2 ?side3 A42.out).mono ?_); (case side1 => repeat (first | (with_reducible first | exact HB.out | apply qc0 | apply qa0 | apply qb0 | refine qh0 ?_ GE235.out) | exact HB.out)); (case side2 => exact Kd.R_tight rfl HO_9.out); (case side3 => exact fun W_ h_ => impl_Picks_1.ok W_ (blk_kept (by (with_reducible repeat (first | refine qf0 ?_ _ | refine qj0 ?_ | refine qg0 ?_ _)); exact BK235.out) h_ (fun hs_ => (fun e_ => (Kd.R_ne HO_9.out BK235.out (by decide)) e_) hs_)) ((Kd.C_kept_came k160_heap HR0.out (by repeat (first | (with_reducible first | exact HB.out | apply qc0 | apply qa0 | apply qb0 | refine qh0 ?_ GE235.out) | exact HB.out)) (fun k_ hs_ => (fun e_ => Kd.qo1 HO_9.out k_ e_.symm) hs_)) W_ h_) HC0.out); rintro e w44 ⟨rfl, hy0, hb, hkp⟩; have n0_ := Aside0.mk (Kd.R_reok rfl hy0 (fun k_ e_ => HO_9.out.1 k_ e_)); have n1_ := Aside0.mk (blk_kept (by (with_reducible repeat (first | refine qf0 ?_ _ | refine qj0 ?_ | refine qg0 ?_ _)); exact BK235.out) hkp (fun hs_ => (fun e_ => (Kd.R_ne HO_9.out BK235.out (by decide)) e_) hs_)); have n2_ := Aside0.mk (hb); clear HO_9; clear BK235; clear HB; have HO_9 := n0_; have BK235 := n1_; have HB := n2_; clear n0_ n1_ n2_; (try clear hb); (try clear hkp); (try clear hy0)) | ((with_reducible refine qs0 (N := 62) rfl ?_); refine Kd.R_lit k162 _ 162 ?hg (N := 62) ?hd (xs := ([] : List (S162))) (inner := []) (ok := fun _ => True) (okp := fun _ => True) ?hr ?hp (fun _ hk => hk) trivial (Below.refl _ _) (Nat.le_refl _) (by simp) ?_; (case hd => rfl); (case hg => rfl); (case hr => first | (go_simp; done) | (go_simp; rfl)); (case hp => exact (Reps.none _ _)); intro v249 w45 ho46 hb hg_ hnew_; clear hg_ hnew_; (first | rw [← Ny248.out] at ho46 | (simp only [Int.reduceToNat] at ho46; rw [← Ny248.out] at ho46)); have n0_ := Aside0.mk (Kd.qr0 (by (with_reducible repeat (first | apply Kd.ql0 | apply Kd.qk0 | apply Kd.qo0)); exact HO_9.out) hb); have n1_ := Aside0.mk (Kd.qf1 ho46 (qi0 (by repeat (first | (with_reducible first | exact HB.out | apply qc0 | apply qa0 | apply qb0 | refine qh0 ?_ GE235.out) | exact HB.out)))); have n2_ := Aside0.mk (qx0 (g := gb235) (o := .cells #[.slice A0 l0.length c0] 74 (0, 0)) (by (with_reducible repeat (first | refine qf0 ?_ _ | refine qj0 ?_ | refine qg0 ?_ _)); exact BK235.out) hb); have n3_ := Aside0.mk (qm0 (by repeat (first | (with_reducible first | exact HB.out | apply qc0 | apply qa0 | apply qb0 | refine qh0 ?_ GE235.out) | exact HB.out)) hb); clear HO_9; clear BK235; clear HB; have HO_9 := n0_; have HO250 := n1_; have BK235 := n2_; have HB := n3_; clear n0_ n1_ n2_ n3_; clear hb ho46)); try go_wp2_with (first | (go_at_call 98; (with_reducible refine (impl_sortBy_int.calls k2 (fun k_ => some k_ = (.slice Ao43 x9_2.length co43 : Value).ownBlock) (.slice Ao43 x9_2.length co43) x9_2 127 (#[.pointer (some ⟨gb235, 0, none⟩)]) (fun a_ b_ => impl_Picks_1.f a_ b_ l0) t247 w _ ?side1 ?side2 ?side3 A42.out).mono ?_); (case side1 => repeat (first | (with_reducible first | exact HB.out | apply qc0 | apply qa0 | apply qb0 | refine qh0 ?_ GE235.out) | exact HB.out)); (case side2 => exact Kd.R_tight rfl HO_9.out); (case side3 => exact fun W_ h_ => impl_Picks_1.ok W_ (blk_kept (by (with_reducible repeat (first | refine qf0 ?_ _ | refine qj0 ?_ | refine qg0 ?_ _)); exact BK235.out) h_ (fun hs_ => (fun e_ => (Kd.R_ne HO_9.out BK235.out (by decide)) e_) hs_)) ((Kd.C_kept_came k160_heap HR0.out (by repeat (first | (with_reducible first | exact HB.out | apply qc0 | apply qa0 | apply qb0 | refine qh0 ?_ GE235.out) | exact HB.out)) (fun k_ hs_ => (fun e_ => Kd.qo1 HO_9.out k_ e_.symm) hs_)) W_ h_) HC0.out); rintro e w44 ⟨rfl, hy0, hb, hkp⟩; have n0_ := Aside0.mk (Kd.R_reok rfl hy0 (fun k_ e_ => HO_9.out.1 k_ e_)); have n1_ := Aside0.mk (blk_kept (by (with_reducible repeat (first | refine qf0 ?_ _ | refine qj0 ?_ | refine qg0 ?_ _)); exact BK235.out) hkp (fun hs_ => (fun e_ => (Kd.R_ne HO_9.out BK235.out (by decide)) e_) hs_)); have n2_ := Aside0.mk (hb); clear HO_9; clear BK235; clear HB; have HO_9 := n0_; have BK235 := n1_; have HB := n2_; clear n0_ n1_ n2_; (try clear hb); (try clear hkp); (try clear hy0)) | ((with_reducible refine qs0 (N := 62) rfl ?_); refine Kd.R_lit k162 _ 162 ?hg (N := 62) ?hd (xs := ([] : List (S162))) (inner := []) (ok := fun _ => True) (okp := fun _ => True) ?hr ?hp (fun _ hk => hk) trivial (Below.refl _ _) (Nat.le_refl _) (by simp) ?_; (case hd => rfl); (case hg => rfl); (case hr => first | (go_simp; done) | (go_simp; rfl)); (case hp => exact (Reps.none _ _)); intro v249 w45 ho46 hb hg_ hnew_; clear hg_ hnew_; (first | rw [← Ny248.out] at ho46 | (simp only [Int.reduceToNat] at ho46; rw [← Ny248.out] at ho46)); have n0_ := Aside0.mk (Kd.qr0 (by (with_reducible repeat (first | apply Kd.ql0 | apply Kd.qk0 | apply Kd.qo0)); exact HO_9.out) hb); have n1_ := Aside0.mk (Kd.qf1 ho46 (qi0 (by repeat (first | (with_reducible first | exact HB.out | apply qc0 | apply qa0 | apply qb0 | refine qh0 ?_ GE235.out) | exact HB.out)))); have n2_ := Aside0.mk (qx0 (g := gb235) (o := .cells #[.slice A0 l0.length c0] 74 (0, 0)) (by (with_reducible repeat (first | refine qf0 ?_ _ | refine qj0 ?_ | refine qg0 ?_ _)); exact BK235.out) hb); have n3_ := Aside0.mk (qm0 (by repeat (first | (with_reducible first | exact HB.out | apply qc0 | apply qa0 | apply qb0 | refine qh0 ?_ GE235.out) | exact HB.out)) hb); clear HO_9; clear BK235; clear HB; have HO_9 := n0_; have HO250 := n1_; have BK235 := n2_; have HB := n3_; clear n0_ n1_ n2_ n3_; clear hb ho46)))
     go_loopg [2, 12, 65] k2 (fun kq v2 v12 v65 w' => ∃ (x2_3 : Int) (x12_3 : List (S162)) (x65_3 : Int), v2 = .int .i64 x2_3 ∧ v65 = .int .i64 x65_3 ∧ Aside0 (impl_Picks.l1 kq x2_3 x12_3 t247 (x9_2.length : Int) x65_3 l0 = some r) ∧ Aside0 (kq ≤ k2) ∧ Aside0 (Kd.R k162 162 w' w.heap.size (fun _ => True) v12 x12_3) ∧ Aside0 (Kd.R (Kd.int .i64) 3 w' w.heap.size (fun _ => True) (.slice Ao43 x9_2.length co43) t247) ∧ Aside0 (w'.heap[gb235]? = some (.cells #[(.slice A0 l0.length c0)] 74 (0, 0))) ∧ Aside0 (Below w.heap.size w w'))
     case atStart => exact ⟨(a2), (y248), (0), (by first | rfl | (simp; done) | (simp [*]; done)), (by first | rfl | (simp; done) | (simp [*]; done)), H', ⟨Nat.le_refl _⟩, ⟨by (with_reducible repeat (first | apply Kd.ql0 | apply Kd.qk0 | apply Kd.qo0)); exact HO250.out⟩, ⟨by (with_reducible repeat (first | apply Kd.ql0 | apply Kd.qk0 | apply Kd.qo0)); exact HO_9.out⟩, ⟨by (with_reducible repeat (first | refine qf0 ?_ _ | refine qj0 ?_ | refine qg0 ?_ _)); exact BK235.out⟩, ⟨by repeat (first | (with_reducible first | exact HB.out | apply qc0 | apply qa0 | apply qb0 | refine qh0 ?_ GE235.out) | exact HB.out)⟩⟩
     case round =>
      clear H'
      try clear c1
      try clear c2
      try clear p2
      try clear q2
      try clear hx2
      try clear c3
      try clear c4
      try clear c5
      try clear p6
      try clear c8
      try clear c10
      try clear c18
      try clear c22
      try clear c22b0
      try clear c23
      try clear c23b0
      try clear c24
      try clear c24b0
      try clear p24
      try clear q24
      try clear hx24
      try clear c25
      try clear c25b0
      try clear c25b1
      try clear c26
      try clear c26b0
      try clear c27
      try clear c27b0
      try clear c28
      try clear c30
      try clear c34
      try clear c37
      try clear c40
      try clear hcz12_0
      try clear hcz14_0
      try clear hcz16_0
      try clear hcz21_0
      try clear hcz31_0
      try clear hcz31_1
      try clear hcz31_2
      try clear hcz31_3
      try clear hcz31_4
      try clear hcz31_5
      try clear hcz35_0
      try clear hcz35_1
      try clear hcz35_2
      try clear hcz35_3
      try clear hcz35_4
      try clear hcz35_5
      try clear hcz38_0
      try clear hcz38_1
      try clear hcz38_2
      try clear hcz38_3
      try clear hcz38_4
      try clear hcz38_5
      try clear hcz41_0
      try clear hcz41_1
      try clear hcz41_2
      try clear hcz41_3
      try clear hcz41_4
      try clear hcz41_5
      try clear hfz12_0
      try clear hfz14_0
      try clear hfz16_0
      try clear hfz21_0
      try clear hfz31_0
      try clear hfz31_1
      try clear hfz31_2
      try clear hfz31_3
      try clear hfz31_4
      try clear hfz31_5
      try clear hfz35_0
      try clear hfz35_1
      try clear hfz35_2
      try clear hfz35_3
      try clear hfz35_4
      try clear hfz35_5
      try clear hfz38_0
      try clear hfz38_1
      try clear hfz38_2
      try clear hfz38_3
      try clear hfz38_4
      try clear hfz38_5
      try clear hfz41_0
      try clear hfz41_1
      try clear hfz41_2
      try clear hfz41_3
      try clear hfz41_4
      try clear hfz41_5
      try clear hx242_0
      try clear hx242_1
      try clear hx242_2
      try clear hx242_3
      try clear hx242_4
      try clear hx242_5
      try clear p2
      try clear p242
      try clear q242
      obtain ⟨x2_3, x12_3, x65_3, rfl, rfl, HA, HK3, HO_12, HO_63, BK235, HB⟩ := hrel
      have hl63_3 := (Kd.qq0 HO_63.out).1
      rw [hl63_3] at HO_63
      (try simp only [hl63_3])
      (try simp only [hl63_3] at BK235)
      (try simp only [hl63_3] at HO_12)
      cases gk with
      | zero => exact absurd HA.out (by simp [impl_Picks.l1])
      | succ k3 =>
       have H := HA.out
       clear HA
       simp only [impl_Picks.l1] at H
       by_cases c47 : x65_3 < (x9_2.length : Int)
       ·rw [if_pos c47] at H
        have c47b0 : decide (x65_3 < (x9_2.length : Int)) = true := decide_eq_true c47
        clear c47
        by_cases c48 : 0 ≤ x65_3
        case neg => rw [if_neg c48] at H; exact absurd H (by simp)
        rw [if_pos c48] at H
        have c48b0 : decide (0 ≤ x65_3) = true := decide_eq_true c48
        clear c48
        by_cases c49 : x65_3 < (t247.length : Int)
        case neg => rw [if_neg c49] at H; exact absurd H (by simp)
        rw [if_pos c49] at H
        have c49b0 : decide (x65_3 < (t247.length : Int)) = true := decide_eq_true c49
        clear c49
        by_cases c50 : 0 ≤ (rd t247 x65_3)
        case neg => rw [if_neg c50] at H; exact absurd H (by simp)
        rw [if_pos c50] at H
        have c50b0 : decide (0 ≤ (rd t247 x65_3)) = true := decide_eq_true c50
        clear c50
        by_cases c51 : (rd t247 x65_3) < (l0.length : Int)
        case neg => rw [if_neg c51] at H; exact absurd H (by simp)
        rw [if_pos c51] at H
        have c51b0 : decide ((rd t247 x65_3) < (l0.length : Int)) = true := decide_eq_true c51
        clear c51
        by_cases c52 : (wrap64 (((rd_T160 l0 (rd t247 x65_3)).f4) - ((rd_T160 l0 (rd t247 x65_3)).f5))) > x2_3
        ·rw [if_pos c52] at H
         have c52b0 : decide (x2_3 < (wrap64 (((rd_T160 l0 (rd t247 x65_3)).f4) - ((rd_T160 l0 (rd t247 x65_3)).f5)))) = true := decide_eq_true c52
         clear c52
         by_cases c53 : x2_3 > 0
         ·rw [if_pos c53] at H
          have c53b0 : decide (0 < x2_3) = true := decide_eq_true c53
          clear c53
          by_cases c54 : x12_3.length < 8796093022208
          case neg => rw [if_neg c54] at H; exact absurd H (by simp)
          rw [if_pos c54] at H
          have LMc54 := Aside0.mk c54
          clear c54
          obtain ⟨y254, hy254⟩ : ∃ y_ : List (S162), y_ = (x12_3 ++ [(⟨rd t247 x65_3, x2_3⟩ : S162)]) := ⟨_, rfl⟩
          replace H : (impl_Picks.l1 k3 0 y254 t247 (x9_2.length : Int) (wrap64 (x65_3 + 1)) l0) = some r := by first | (rw [hy254]; with_reducible exact H) | (have H2_ := (Option.bind_some _ _).symm.trans H; rw [hy254]; with_reducible exact H2_) | (have H2_ := (Option.bind_some _ _).symm.trans H; with_reducible exact H2_) | with_reducible exact H | (rw [hy254]; exact H) | exact H
          have Ny254 := Aside0.mk hy254
          clear hy254
          have H' := Aside0.mk H
          clear H
          have p251 : 0 ≤ (x65_3 : Int) := of_decide_eq_true (by first | (with_reducible assumption) | assumption)
          have q251 : x65_3 < (t247.length : Int) := of_decide_eq_true (by first | (with_reducible assumption) | assumption)
          obtain ⟨ad251, e251, hx251_0⟩ := Kd.at_int (Kd.qq0 HO_63.out).2.2 x65_3 p251 q251
          cases e251
          replace p251 := eq_true p251
          replace q251 := eq_true q251
          have hcz55_0 : wr.cell? ⟨gb235, 0, none⟩ = some (.slice A0 l0.length c0) := (qe0 BK235.out 0).trans rfl
          have hfz55_0 := qd0 BK235.out 0
          have p252 : 0 ≤ ((rd t247 x65_3) : Int) := of_decide_eq_true (by first | (with_reducible assumption) | assumption)
          have q252 : (rd t247 x65_3) < (l0.length : Int) := of_decide_eq_true (by first | (with_reducible assumption) | assumption)
          obtain ⟨ad252, e252, hx252_0, hx252_1, hx252_2, hx252_3, hx252_4, hx252_5⟩ := at_T160 HR0.out (rd t247 x65_3) p252 q252
          cases e252
          replace hx252_0 := (HB.out.cell (World.block_lt_of_cell? w _ hx252_0)).trans hx252_0
          replace hx252_1 := (HB.out.cell (World.block_lt_of_cell? w _ hx252_1)).trans hx252_1
          replace hx252_2 := (HB.out.cell (World.block_lt_of_cell? w _ hx252_2)).trans hx252_2
          replace hx252_3 := (HB.out.cell (World.block_lt_of_cell? w _ hx252_3)).trans hx252_3
          replace hx252_4 := (HB.out.cell (World.block_lt_of_cell? w _ hx252_4)).trans hx252_4
          replace hx252_5 := (HB.out.cell (World.block_lt_of_cell? w _ hx252_5)).trans hx252_5
          replace p252 := eq_true p252
          replace q252 := eq_true q252
          have p253 : 0 ≤ ((rd t247 x65_3) : Int) := of_decide_eq_true (by first | (with_reducible assumption) | assumption)
          have q253 : (rd t247 x65_3) < (l0.length : Int) := of_decide_eq_true (by first | (with_reducible assumption) | assumption)
          obtain ⟨ad253, e253, hx253_0, hx253_1, hx253_2, hx253_3, hx253_4, hx253_5⟩ := at_T160 HR0.out (rd t247 x65_3) p253 q253
          obtain rfl : ad252 = ad253 := (by injection e253)
          replace hx253_0 := (HB.out.cell (World.block_lt_of_cell? w _ hx253_0)).trans hx253_0
          replace hx253_1 := (HB.out.cell (World.block_lt_of_cell? w _ hx253_1)).trans hx253_1
          replace hx253_2 := (HB.out.cell (World.block_lt_of_cell? w _ hx253_2)).trans hx253_2
          replace hx253_3 := (HB.out.cell (World.block_lt_of_cell? w _ hx253_3)).trans hx253_3
          replace hx253_4 := (HB.out.cell (World.block_lt_of_cell? w _ hx253_4)).trans hx253_4
          replace hx253_5 := (HB.out.cell (World.block_lt_of_cell? w _ hx253_5)).trans hx253_5
          replace p253 := eq_true p253
          replace q253 := eq_true q253
          go_wp2_with (first | ((with_reducible refine gate_builtin (b := .append) (xs := #[.tmp 86, .tmp 90]) rfl ?_); at_builtin; refine Kd.R_append k162 (w0 := w) w.heap.size rfl (.tmp 86) (.tmp 90) 72 162 (.agg #[(.int .i64 0), (.int .i64 0)]) 16 rfl Try.underlying72 info162 rfl (by decide) (by omega) u12 x12_3 (⟨rd t247 x65_3, x2_3⟩ : S162) [.int .i64 (rd t247 x65_3), .int .i64 x2_3] (fun _ => True) (fun _ => False) rfl rfl ?aP (fun _ hk => hk.elim) ?aF ?aO ?aB ?aS ?aL ?_; (case aP => exact k162_mkM _ _ _ (⟨rd t247 x65_3, x2_3⟩ : S162)); (case aB => exact (by repeat (first | (with_reducible first | exact HB.out | apply qc0 | apply qa0 | apply qb0 | refine qh0 ?_ GE235.out) | exact HB.out))); (case aF => exact (fun _ _ => trivial)); (case aO => exact (by (with_reducible repeat (first | apply Kd.ql0 | apply Kd.qk0 | apply Kd.qo0)); exact HO_12.out)); (case aS => exact (qi0 (by repeat (first | (with_reducible first | exact HB.out | apply qc0 | apply qa0 | apply qb0 | refine qh0 ?_ GE235.out) | exact HB.out)))); (case aL => have := LMc54.out; omega); intro v255 w56 ho hb hg hat; rw [← Ny254.out] at ho; have n0_ := Aside0.mk (Kd.R_over' (by (with_reducible repeat (first | apply Kd.ql0 | apply Kd.qk0 | apply Kd.qo0)); exact HO_63.out) (Kd.R_typed (by (with_reducible repeat (first | apply Kd.ql0 | apply Kd.qk0 | apply Kd.qo0)); exact HO_12.out)) (by decide) hg); have n1_ := Aside0.mk (blk_grown (g := gb235) (o := .cells #[.slice (some ad252) l0.length c0] 74 (0, 0)) (by (with_reducible repeat (first | refine qf0 ?_ _ | refine qj0 ?_ | refine qg0 ?_ _)); exact BK235.out) hg (Kd.R_ne HO_12.out BK235.out (by decide))); have n2_ := Aside0.mk (hb); have n3_ := Aside0.mk (ho); clear HO_63; clear BK235; clear HB; clear HO_12; have HO_63 := n0_; have BK235 := n1_; have HB := n2_; have HO256 := n3_; clear n0_ n1_ n2_ n3_; clear ho hb hg hat))
          repeat (go_quiet (first | ((with_reducible refine gate_builtin (b := .append) (xs := #[.tmp 86, .tmp 90]) rfl ?_); at_builtin; refine Kd.R_append k162 (w0 := w) w.heap.size rfl (.tmp 86) (.tmp 90) 72 162 (.agg #[(.int .i64 0), (.int .i64 0)]) 16 rfl Try.underlying72 info162 rfl (by decide) (by omega) u12 x12_3 (⟨rd t247 x65_3, x2_3⟩ : S162) [.int .i64 (rd t247 x65_3), .int .i64 x2_3] (fun _ => True) (fun _ => False) rfl rfl ?aP (fun _ hk => hk.elim) ?aF ?aO ?aB ?aS ?aL ?_; (case aP => exact k162_mkM _ _ _ (⟨rd t247 x65_3, x2_3⟩ : S162)); (case aB => exact (by repeat (first | (with_reducible first | exact HB.out | apply qc0 | apply qa0 | apply qb0 | refine qh0 ?_ GE235.out) | exact HB.out))); (case aF => exact (fun _ _ => trivial)); (case aO => exact (by (with_reducible repeat (first | apply Kd.ql0 | apply Kd.qk0 | apply Kd.qo0)); exact HO_12.out)); (case aS => exact (qi0 (by repeat (first | (with_reducible first | exact HB.out | apply qc0 | apply qa0 | apply qb0 | refine qh0 ?_ GE235.out) | exact HB.out)))); (case aL => have := LMc54.out; omega); intro v255 w56 ho hb hg hat; rw [← Ny254.out] at ho; have n0_ := Aside0.mk (Kd.R_over' (by (with_reducible repeat (first | apply Kd.ql0 | apply Kd.qk0 | apply Kd.qo0)); exact HO_63.out) (Kd.R_typed (by (with_reducible repeat (first | apply Kd.ql0 | apply Kd.qk0 | apply Kd.qo0)); exact HO_12.out)) (by decide) hg); have n1_ := Aside0.mk (blk_grown (g := gb235) (o := .cells #[.slice (some ad252) l0.length c0] 74 (0, 0)) (by (with_reducible repeat (first | refine qf0 ?_ _ | refine qj0 ?_ | refine qg0 ?_ _)); exact BK235.out) hg (Kd.R_ne HO_12.out BK235.out (by decide))); have n2_ := Aside0.mk (hb); have n3_ := Aside0.mk (ho); clear HO_63; clear BK235; clear HB; clear HO_12; have HO_63 := n0_; have BK235 := n1_; have HB := n2_; have HO256 := n3_; clear n0_ n1_ n2_ n3_; clear ho hb hg hat)); try go_wp2_with (first | ((with_reducible refine gate_builtin (b := .append) (xs := #[.tmp 86, .tmp 90]) rfl ?_); at_builtin; refine Kd.R_append k162 (w0 := w) w.heap.size rfl (.tmp 86) (.tmp 90) 72 162 (.agg #[(.int .i64 0), (.int .i64 0)]) 16 rfl Try.underlying72 info162 rfl (by decide) (by omega) u12 x12_3 (⟨rd t247 x65_3, x2_3⟩ : S162) [.int .i64 (rd t247 x65_3), .int .i64 x2_3] (fun _ => True) (fun _ => False) rfl rfl ?aP (fun _ hk => hk.elim) ?aF ?aO ?aB ?aS ?aL ?_; (case aP => exact k162_mkM _ _ _ (⟨rd t247 x65_3, x2_3⟩ : S162)); (case aB => exact (by repeat (first | (with_reducible first | exact HB.out | apply qc0 | apply qa0 | apply qb0 | refine qh0 ?_ GE235.out) | exact HB.out))); (case aF => exact (fun _ _ => trivial)); (case aO => exact (by (with_reducible repeat (first | apply Kd.ql0 | apply Kd.qk0 | apply Kd.qo0)); exact HO_12.out)); (case aS => exact (qi0 (by repeat (first | (with_reducible first | exact HB.out | apply qc0 | apply qa0 | apply qb0 | refine qh0 ?_ GE235.out) | exact HB.out)))); (case aL => have := LMc54.out; omega); intro v255 w56 ho hb hg hat; rw [← Ny254.out] at ho; have n0_ := Aside0.mk (Kd.R_over' (by (with_reducible repeat (first | apply Kd.ql0 | apply Kd.qk0 | apply Kd.qo0)); exact HO_63.out) (Kd.R_typed (by (with_reducible repeat (first | apply Kd.ql0 | apply Kd.qk0 | apply Kd.qo0)); exact HO_12.out)) (by decide) hg); have n1_ := Aside0.mk (blk_grown (g := gb235) (o := .cells #[.slice (some ad252) l0.length c0] 74 (0, 0)) (by (with_reducible repeat (first | refine qf0 ?_ _ | refine qj0 ?_ | refine qg0 ?_ _)); exact BK235.out) hg (Kd.R_ne HO_12.out BK235.out (by decide))); have n2_ := Aside0.mk (hb); have n3_ := Aside0.mk (ho); clear HO_63; clear BK235; clear HB; clear HO_12; have HO_63 := n0_; have BK235 := n1_; have HB := n2_; have HO256 := n3_; clear n0_ n1_ n2_ n3_; clear ho hb hg hat)))
          (try simp only [← hl63_3])
          go_roundg k3
          case measure => have := HJ4.out; have := HK2.out; have := HK3.out; omega
          case rel => exact ⟨(0), (y254), (wrap64 (x65_3 + 1)), (by first | rfl | (simp; done) | (simp [*]; done)), (by first | rfl | (simp; done) | (simp [*]; done)), H', ⟨by have := HJ4.out; have := HK2.out; have := HK3.out; omega⟩, ⟨by (try simp only [hl63_3]); (with_reducible repeat (first | apply Kd.ql0 | apply Kd.qk0 | apply Kd.qo0)); exact HO256.out⟩, ⟨by (try simp only [hl63_3]); (with_reducible repeat (first | apply Kd.ql0 | apply Kd.qk0 | apply Kd.qo0)); exact HO_63.out⟩, ⟨by (try simp only [hl63_3]); (with_reducible repeat (first | refine qf0 ?_ _ | refine qj0 ?_ | refine qg0 ?_ _)); exact BK235.out⟩, ⟨by repeat (first | (with_reducible first | exact HB.out | apply qc0 | apply qa0 | apply qb0 | refine qh0 ?_ GE235.out) | exact HB.out)⟩⟩
         rw [if_neg c53] at H
         have c53b0 : decide (0 < x2_3) = false := decide_eq_false c53
         clear c53
         have H' := Aside0.mk H
         clear H
         have p251 : 0 ≤ (x65_3 : Int) := of_decide_eq_true (by first | (with_reducible assumption) | assumption)
         have q251 : x65_3 < (t247.length : Int) := of_decide_eq_true (by first | (with_reducible assumption) | assumption)
         obtain ⟨ad251, e251, hx251_0⟩ := Kd.at_int (Kd.qq0 HO_63.out).2.2 x65_3 p251 q251
         cases e251
         replace p251 := eq_true p251
         replace q251 := eq_true q251
         have hcz57_0 : wr.cell? ⟨gb235, 0, none⟩ = some (.slice A0 l0.length c0) := (qe0 BK235.out 0).trans rfl
         have hfz57_0 := qd0 BK235.out 0
         have p252 : 0 ≤ ((rd t247 x65_3) : Int) := of_decide_eq_true (by first | (with_reducible assumption) | assumption)
         have q252 : (rd t247 x65_3) < (l0.length : Int) := of_decide_eq_true (by first | (with_reducible assumption) | assumption)
         obtain ⟨ad252, e252, hx252_0, hx252_1, hx252_2, hx252_3, hx252_4, hx252_5⟩ := at_T160 HR0.out (rd t247 x65_3) p252 q252
         cases e252
         replace hx252_0 := (HB.out.cell (World.block_lt_of_cell? w _ hx252_0)).trans hx252_0
         replace hx252_1 := (HB.out.cell (World.block_lt_of_cell? w _ hx252_1)).trans hx252_1
         replace hx252_2 := (HB.out.cell (World.block_lt_of_cell? w _ hx252_2)).trans hx252_2
         replace hx252_3 := (HB.out.cell (World.block_lt_of_cell? w _ hx252_3)).trans hx252_3
         replace hx252_4 := (HB.out.cell (World.block_lt_of_cell? w _ hx252_4)).trans hx252_4
         replace hx252_5 := (HB.out.cell (World.block_lt_of_cell? w _ hx252_5)).trans hx252_5
         replace p252 := eq_true p252
         replace q252 := eq_true q252
         have p253 : 0 ≤ ((rd t247 x65_3) : Int) := of_decide_eq_true (by first | (with_reducible assumption) | assumption)
         have q253 : (rd t247 x65_3) < (l0.length : Int) := of_decide_eq_true (by first | (with_reducible assumption) | assumption)
         obtain ⟨ad253, e253, hx253_0, hx253_1, hx253_2, hx253_3, hx253_4, hx253_5⟩ := at_T160 HR0.out (rd t247 x65_3) p253 q253
         obtain rfl : ad252 = ad253 := (by injection e253)
         replace hx253_0 := (HB.out.cell (World.block_lt_of_cell? w _ hx253_0)).trans hx253_0
         replace hx253_1 := (HB.out.cell (World.block_lt_of_cell? w _ hx253_1)).trans hx253_1
         replace hx253_2 := (HB.out.cell (World.block_lt_of_cell? w _ hx253_2)).trans hx253_2
         replace hx253_3 := (HB.out.cell (World.block_lt_of_cell? w _ hx253_3)).trans hx253_3
         replace hx253_4 := (HB.out.cell (World.block_lt_of_cell? w _ hx253_4)).trans hx253_4
         replace hx253_5 := (HB.out.cell (World.block_lt_of_cell? w _ hx253_5)).trans hx253_5
         replace p253 := eq_true p253
         replace q253 := eq_true q253
         go_wp2
         repeat (go_quiet (fail); try go_wp2)
         (try simp only [← hl63_3])
         go_roundg k3
         case measure => have := HJ4.out; have := HK2.out; have := HK3.out; omega
         case rel => exact ⟨(x2_3), (x12_3), (wrap64 (x65_3 + 1)), (by first | rfl | (simp; done) | (simp [*]; done)), (by first | rfl | (simp; done) | (simp [*]; done)), H', ⟨by have := HJ4.out; have := HK2.out; have := HK3.out; omega⟩, ⟨by (try simp only [hl63_3]); (with_reducible repeat (first | apply Kd.ql0 | apply Kd.qk0 | apply Kd.qo0)); exact HO_12.out⟩, ⟨by (try simp only [hl63_3]); (with_reducible repeat (first | apply Kd.ql0 | apply Kd.qk0 | apply Kd.qo0)); exact HO_63.out⟩, ⟨by (try simp only [hl63_3]); (with_reducible repeat (first | refine qf0 ?_ _ | refine qj0 ?_ | refine qg0 ?_ _)); exact BK235.out⟩, ⟨by repeat (first | (with_reducible first | exact HB.out | apply qc0 | apply qa0 | apply qb0 | refine qh0 ?_ GE235.out) | exact HB.out)⟩⟩
        rw [if_neg c52] at H
        have c52b0 : decide (x2_3 < (wrap64 (((rd_T160 l0 (rd t247 x65_3)).f4) - ((rd_T160 l0 (rd t247 x65_3)).f5)))) = false := decide_eq_false c52
        clear c52
        by_cases c58 : (wrap64 (((rd_T160 l0 (rd t247 x65_3)).f4) - ((rd_T160 l0 (rd t247 x65_3)).f5))) > 0
        ·rw [if_pos c58] at H
         have c58b0 : decide (0 < (wrap64 (((rd_T160 l0 (rd t247 x65_3)).f4) - ((rd_T160 l0 (rd t247 x65_3)).f5)))) = true := decide_eq_true c58
         clear c58
         by_cases c59 : x12_3.length < 8796093022208
         case neg => rw [if_neg c59] at H; exact absurd H (by simp)
         rw [if_pos c59] at H
         have LMc59 := Aside0.mk c59
         clear c59
         obtain ⟨y257, hy257⟩ : ∃ y_ : List (S162), y_ = (x12_3 ++ [(⟨rd t247 x65_3, wrap64 (((rd_T160 l0 (rd t247 x65_3)).f4) - ((rd_T160 l0 (rd t247 x65_3)).f5))⟩ : S162)]) := ⟨_, rfl⟩
         replace H : (impl_Picks.l1 k3 (wrap64 (x2_3 - (wrap64 (((rd_T160 l0 (rd t247 x65_3)).f4) - ((rd_T160 l0 (rd t247 x65_3)).f5))))) y257 t247 (x9_2.length : Int) (wrap64 (x65_3 + 1)) l0) = some r := by first | (rw [hy257]; with_reducible exact H) | (have H2_ := (Option.bind_some _ _).symm.trans H; rw [hy257]; with_reducible exact H2_) | (have H2_ := (Option.bind_some _ _).symm.trans H; with_reducible exact H2_) | with_reducible exact H | (rw [hy257]; exact H) | exact H
         have Ny257 := Aside0.mk hy257
         clear hy257
         have H' := Aside0.mk H
         clear H
         have p251 : 0 ≤ (x65_3 : Int) := of_decide_eq_true (by first | (with_reducible assumption) | assumption)
         have q251 : x65_3 < (t247.length : Int) := of_decide_eq_true (by first | (with_reducible assumption) | assumption)
         obtain ⟨ad251, e251, hx251_0⟩ := Kd.at_int (Kd.qq0 HO_63.out).2.2 x65_3 p251 q251
         cases e251
         replace p251 := eq_true p251
         replace q251 := eq_true q251
         have hcz60_0 : wr.cell? ⟨gb235, 0, none⟩ = some (.slice A0 l0.length c0) := (qe0 BK235.out 0).trans rfl
         have hfz60_0 := qd0 BK235.out 0
         have p252 : 0 ≤ ((rd t247 x65_3) : Int) := of_decide_eq_true (by first | (with_reducible assumption) | assumption)
         have q252 : (rd t247 x65_3) < (l0.length : Int) := of_decide_eq_true (by first | (with_reducible assumption) | assumption)
         obtain ⟨ad252, e252, hx252_0, hx252_1, hx252_2, hx252_3, hx252_4, hx252_5⟩ := at_T160 HR0.out (rd t247 x65_3) p252 q252
         cases e252
         replace hx252_0 := (HB.out.cell (World.block_lt_of_cell? w _ hx252_0)).trans hx252_0
         replace hx252_1 := (HB.out.cell (World.block_lt_of_cell? w _ hx252_1)).trans hx252_1
         replace hx252_2 := (HB.out.cell (World.block_lt_of_cell? w _ hx252_2)).trans hx252_2
         replace hx252_3 := (HB.out.cell (World.block_lt_of_cell? w _ hx252_3)).trans hx252_3
         replace hx252_4 := (HB.out.cell (World.block_lt_of_cell? w _ hx252_4)).trans hx252_4
         replace hx252_5 := (HB.out.cell (World.block_lt_of_cell? w _ hx252_5)).trans hx252_5
         replace p252 := eq_true p252
         replace q252 := eq_true q252
         have p253 : 0 ≤ ((rd t247 x65_3) : Int) := of_decide_eq_true (by first | (with_reducible assumption) | assumption)
         have q253 : (rd t247 x65_3) < (l0.length : Int) := of_decide_eq_true (by first | (with_reducible assumption) | assumption)
         obtain ⟨ad253, e253, hx253_0, hx253_1, hx253_2, hx253_3, hx253_4, hx253_5⟩ := at_T160 HR0.out (rd t247 x65_3) p253 q253
         obtain rfl : ad252 = ad253 := (by injection e253)
         replace hx253_0 := (HB.out.cell (World.block_lt_of_cell? w _ hx253_0)).trans hx253_0
         replace hx253_1 := (HB.out.cell (World.block_lt_of_cell? w _ hx253_1)).trans hx253_1
         replace hx253_2 := (HB.out.cell (World.block_lt_of_cell? w _ hx253_2)).trans hx253_2
         replace hx253_3 := (HB.out.cell (World.block_lt_of_cell? w _ hx253_3)).trans hx253_3
         replace hx253_4 := (HB.out.cell (World.block_lt_of_cell? w _ hx253_4)).trans hx253_4
         replace hx253_5 := (HB.out.cell (World.block_lt_of_cell? w _ hx253_5)).trans hx253_5
         replace p253 := eq_true p253
         replace q253 := eq_true q253
         go_wp2_with (first | ((with_reducible refine gate_builtin (b := .append) (xs := #[.tmp 86, .tmp 90]) rfl ?_); at_builtin; refine Kd.R_append k162 (w0 := w) w.heap.size rfl (.tmp 86) (.tmp 90) 72 162 (.agg #[(.int .i64 0), (.int .i64 0)]) 16 rfl Try.underlying72 info162 rfl (by decide) (by omega) u12 x12_3 (⟨rd t247 x65_3, wrap64 (((rd_T160 l0 (rd t247 x65_3)).f4) - ((rd_T160 l0 (rd t247 x65_3)).f5))⟩ : S162) [.int .i64 (rd t247 x65_3), .int .i64 (wrap64 (((rd_T160 l0 (rd t247 x65_3)).f4) - ((rd_T160 l0 (rd t247 x65_3)).f5)))] (fun _ => True) (fun _ => False) rfl rfl ?aP (fun _ hk => hk.elim) ?aF ?aO ?aB ?aS ?aL ?_; (case aP => exact k162_mkM _ _ _ (⟨rd t247 x65_3, wrap64 (((rd_T160 l0 (rd t247 x65_3)).f4) - ((rd_T160 l0 (rd t247 x65_3)).f5))⟩ : S162)); (case aB => exact (by repeat (first | (with_reducible first | exact HB.out | apply qc0 | apply qa0 | apply qb0 | refine qh0 ?_ GE235.out) | exact HB.out))); (case aF => exact (fun _ _ => trivial)); (case aO => exact (by (with_reducible repeat (first | apply Kd.ql0 | apply Kd.qk0 | apply Kd.qo0)); exact HO_12.out)); (case aS => exact (qi0 (by repeat (first | (with_reducible first | exact HB.out | apply qc0 | apply qa0 | apply qb0 | refine qh0 ?_ GE235.out) | exact HB.out)))); (case aL => have := LMc59.out; omega); intro v258 w61 ho hb hg hat; rw [← Ny257.out] at ho; have n0_ := Aside0.mk (Kd.R_over' (by (with_reducible repeat (first | apply Kd.ql0 | apply Kd.qk0 | apply Kd.qo0)); exact HO_63.out) (Kd.R_typed (by (with_reducible repeat (first | apply Kd.ql0 | apply Kd.qk0 | apply Kd.qo0)); exact HO_12.out)) (by decide) hg); have n1_ := Aside0.mk (blk_grown (g := gb235) (o := .cells #[.slice (some ad252) l0.length c0] 74 (0, 0)) (by (with_reducible repeat (first | refine qf0 ?_ _ | refine qj0 ?_ | refine qg0 ?_ _)); exact BK235.out) hg (Kd.R_ne HO_12.out BK235.out (by decide))); have n2_ := Aside0.mk (hb); have n3_ := Aside0.mk (ho); clear HO_63; clear BK235; clear HB; clear HO_12; have HO_63 := n0_; have BK235 := n1_; have HB := n2_; have HO259 := n3_; clear n0_ n1_ n2_ n3_; clear ho hb hg hat))
         repeat (go_quiet (first | ((with_reducible refine gate_builtin (b := .append) (xs := #[.tmp 86, .tmp 90]) rfl ?_); at_builtin; refine Kd.R_append k162 (w0 := w) w.heap.size rfl (.tmp 86) (.tmp 90) 72 162 (.agg #[(.int .i64 0), (.int .i64 0)]) 16 rfl Try.underlying72 info162 rfl (by decide) (by omega) u12 x12_3 (⟨rd t247 x65_3, wrap64 (((rd_T160 l0 (rd t247 x65_3)).f4) - ((rd_T160 l0 (rd t247 x65_3)).f5))⟩ : S162) [.int .i64 (rd t247 x65_3), .int .i64 (wrap64 (((rd_T160 l0 (rd t247 x65_3)).f4) - ((rd_T160 l0 (rd t247 x65_3)).f5)))] (fun _ => True) (fun _ => False) rfl rfl ?aP (fun _ hk => hk.elim) ?aF ?aO ?aB ?aS ?aL ?_; (case aP => exact k162_mkM _ _ _ (⟨rd t247 x65_3, wrap64 (((rd_T160 l0 (rd t247 x65_3)).f4) - ((rd_T160 l0 (rd t247 x65_3)).f5))⟩ : S162)); (case aB => exact (by repeat (first | (with_reducible first | exact HB.out | apply qc0 | apply qa0 | apply qb0 | refine qh0 ?_ GE235.out) | exact HB.out))); (case aF => exact (fun _ _ => trivial)); (case aO => exact (by (with_reducible repeat (first | apply Kd.ql0 | apply Kd.qk0 | apply Kd.qo0)); exact HO_12.out)); (case aS => exact (qi0 (by repeat (first | (with_reducible first | exact HB.out | apply qc0 | apply qa0 | apply qb0 | refine qh0 ?_ GE235.out) | exact HB.out)))); (case aL => have := LMc59.out; omega); intro v258 w61 ho hb hg hat; rw [← Ny257.out] at ho; have n0_ := Aside0.mk (Kd.R_over' (by (with_reducible repeat (first | apply Kd.ql0 | apply Kd.qk0 | apply Kd.qo0)); exact HO_63.out) (Kd.R_typed (by (with_reducible repeat (first | apply Kd.ql0 | apply Kd.qk0 | apply Kd.qo0)); exact HO_12.out)) (by decide) hg); have n1_ := Aside0.mk (blk_grown (g := gb235) (o := .cells #[.slice (some ad252) l0.length c0] 74 (0, 0)) (by (with_reducible repeat (first | refine qf0 ?_ _ | refine qj0 ?_ | refine qg0 ?_ _)); exact BK235.out) hg (Kd.R_ne HO_12.out BK235.out (by decide))); have n2_ := Aside0.mk (hb); have n3_ := Aside0.mk (ho); clear HO_63; clear BK235; clear HB; clear HO_12; have HO_63 := n0_; have BK235 := n1_; have HB := n2_; have HO259 := n3_; clear n0_ n1_ n2_ n3_; clear ho hb hg hat)); try go_wp2_with (first | ((with_reducible refine gate_builtin (b := .append) (xs := #[.tmp 86, .tmp 90]) rfl ?_); at_builtin; refine Kd.R_append k162 (w0 := w) w.heap.size rfl (.tmp 86) (.tmp 90) 72 162 (.agg #[(.int .i64 0), (.int .i64 0)]) 16 rfl Try.underlying72 info162 rfl (by decide) (by omega) u12 x12_3 (⟨rd t247 x65_3, wrap64 (((rd_T160 l0 (rd t247 x65_3)).f4) - ((rd_T160 l0 (rd t247 x65_3)).f5))⟩ : S162) [.int .i64 (rd t247 x65_3), .int .i64 (wrap64 (((rd_T160 l0 (rd t247 x65_3)).f4) - ((rd_T160 l0 (rd t247 x65_3)).f5)))] (fun _ => True) (fun _ => False) rfl rfl ?aP (fun _ hk => hk.elim) ?aF ?aO ?aB ?aS ?aL ?_; (case aP => exact k162_mkM _ _ _ (⟨rd t247 x65_3, wrap64 (((rd_T160 l0 (rd t247 x65_3)).f4) - ((rd_T160 l0 (rd t247 x65_3)).f5))⟩ : S162)); (case aB => exact (by repeat (first | (with_reducible first | exact HB.out | apply qc0 | apply qa0 | apply qb0 | refine qh0 ?_ GE235.out) | exact HB.out))); (case aF => exact (fun _ _ => trivial)); (case aO => exact (by (with_reducible repeat (first | apply Kd.ql0 | apply Kd.qk0 | apply Kd.qo0)); exact HO_12.out)); (case aS => exact (qi0 (by repeat (first | (with_reducible first | exact HB.out | apply qc0 | apply qa0 | apply qb0 | refine qh0 ?_ GE235.out) | exact HB.out)))); (case aL => have := LMc59.out; omega); intro v258 w61 ho hb hg hat; rw [← Ny257.out] at ho; have n0_ := Aside0.mk (Kd.R_over' (by (with_reducible repeat (first | apply Kd.ql0 | apply Kd.qk0 | apply Kd.qo0)); exact HO_63.out) (Kd.R_typed (by (with_reducible repeat (first | apply Kd.ql0 | apply Kd.qk0 | apply Kd.qo0)); exact HO_12.out)) (by decide) hg); have n1_ := Aside0.mk (blk_grown (g := gb235) (o := .cells #[.slice (some ad252) l0.length c0] 74 (0, 0)) (by (with_reducible repeat (first | refine qf0 ?_ _ | refine qj0 ?_ | refine qg0 ?_ _)); exact BK235.out) hg (Kd.R_ne HO_12.out BK235.out (by decide))); have n2_ := Aside0.mk (hb); have n3_ := Aside0.mk (ho); clear HO_63; clear BK235; clear HB; clear HO_12; have HO_63 := n0_; have BK235 := n1_; have HB := n2_; have HO259 := n3_; clear n0_ n1_ n2_ n3_; clear ho hb hg hat)))
         (try simp only [← hl63_3])
         go_roundg k3
         case measure => have := HJ4.out; have := HK2.out; have := HK3.out; omega
         case rel => exact ⟨(wrap64 (x2_3 - (wrap64 (((rd_T160 l0 (rd t247 x65_3)).f4) - ((rd_T160 l0 (rd t247 x65_3)).f5))))), (y257), (wrap64 (x65_3 + 1)), (by first | rfl | (simp; done) | (simp [*]; done)), (by first | rfl | (simp; done) | (simp [*]; done)), H', ⟨by have := HJ4.out; have := HK2.out; have := HK3.out; omega⟩, ⟨by (try simp only [hl63_3]); (with_reducible repeat (first | apply Kd.ql0 | apply Kd.qk0 | apply Kd.qo0)); exact HO259.out⟩, ⟨by (try simp only [hl63_3]); (with_reducible repeat (first | apply Kd.ql0 | apply Kd.qk0 | apply Kd.qo0)); exact HO_63.out⟩, ⟨by (try simp only [hl63_3]); (with_reducible repeat (first | refine qf0 ?_ _ | refine qj0 ?_ | refine qg0 ?_ _)); exact BK235.out⟩, ⟨by repeat (first | (with_reducible first | exact HB.out | apply qc0 | apply qa0 | apply qb0 | refine qh0 ?_ GE235.out) | exact HB.out)⟩⟩
        rw [if_neg c58] at H
        have c58b0 : decide (0 < (wrap64 (((rd_T160 l0 (rd t247 x65_3)).f4) - ((rd_T160 l0 (rd t247 x65_3)).f5)))) = false := decide_eq_false c58
        clear c58
        have H' := Aside0.mk H
        clear H
        have p251 : 0 ≤ (x65_3 : Int) := of_decide_eq_true (by first | (with_reducible assumption) | assumption)
        have q251 : x65_3 < (t247.length : Int) := of_decide_eq_true (by first | (with_reducible assumption) | assumption)
        obtain ⟨ad251, e251, hx251_0⟩ := Kd.at_int (Kd.qq0 HO_63.out).2.2 x65_3 p251 q251
        cases e251
        replace p251 := eq_true p251
        replace q251 := eq_true q251
        have hcz62_0 : wr.cell? ⟨gb235, 0, none⟩ = some (.slice A0 l0.length c0) := (qe0 BK235.out 0).trans rfl
        have hfz62_0 := qd0 BK235.out 0
        have p252 : 0 ≤ ((rd t247 x65_3) : Int) := of_decide_eq_true (by first | (with_reducible assumption) | assumption)
        have q252 : (rd t247 x65_3) < (l0.length : Int) := of_decide_eq_true (by first | (with_reducible assumption) | assumption)
        obtain ⟨ad252, e252, hx252_0, hx252_1, hx252_2, hx252_3, hx252_4, hx252_5⟩ := at_T160 HR0.out (rd t247 x65_3) p252 q252
        cases e252
        replace hx252_0 := (HB.out.cell (World.block_lt_of_cell? w _ hx252_0)).trans hx252_0
        replace hx252_1 := (HB.out.cell (World.block_lt_of_cell? w _ hx252_1)).trans hx252_1
        replace hx252_2 := (HB.out.cell (World.block_lt_of_cell? w _ hx252_2)).trans hx252_2
        replace hx252_3 := (HB.out.cell (World.block_lt_of_cell? w _ hx252_3)).trans hx252_3
        replace hx252_4 := (HB.out.cell (World.block_lt_of_cell? w _ hx252_4)).trans hx252_4
        replace hx252_5 := (HB.out.cell (World.block_lt_of_cell? w _ hx252_5)).trans hx252_5
        replace p252 := eq_true p252
        replace q252 := eq_true q252
        have p253 : 0 ≤ ((rd t247 x65_3) : Int) := of_decide_eq_true (by first | (with_reducible assumption) | assumption)
        have q253 : (rd t247 x65_3) < (l0.length : Int) := of_decide_eq_true (by first | (with_reducible assumption) | assumption)
        obtain ⟨ad253, e253, hx253_0, hx253_1, hx253_2, hx253_3, hx253_4, hx253_5⟩ := at_T160 HR0.out (rd t247 x65_3) p253 q253
        obtain rfl : ad252 = ad253 := (by injection e253)
        replace hx253_0 := (HB.out.cell (World.block_lt_of_cell? w _ hx253_0)).trans hx253_0
        replace hx253_1 := (HB.out.cell (World.block_lt_of_cell? w _ hx253_1)).trans hx253_1
        replace hx253_2 := (HB.out.cell (World.block_lt_of_cell? w _ hx253_2)).trans hx253_2
        replace hx253_3 := (HB.out.cell (World.block_lt_of_cell? w _ hx253_3)).trans hx253_3
        replace hx253_4 := (HB.out.cell (World.block_lt_of_cell? w _ hx253_4)).trans hx253_4
        replace hx253_5 := (HB.out.cell (World.block_lt_of_cell? w _ hx253_5)).trans hx253_5
        replace p253 := eq_true p253
        replace q253 := eq_true q253
        go_wp2
        repeat (go_quiet (fail); try go_wp2)
        (try simp only [← hl63_3])
        go_roundg k3
        case measure => have := HJ4.out; have := HK2.out; have := HK3.out; omega
        case rel => exact ⟨(x2_3), (x12_3), (wrap64 (x65_3 + 1)), (by first | rfl | (simp; done) | (simp [*]; done)), (by first | rfl | (simp; done) | (simp [*]; done)), H', ⟨by have := HJ4.out; have := HK2.out; have := HK3.out; omega⟩, ⟨by (try simp only [hl63_3]); (with_reducible repeat (first | apply Kd.ql0 | apply Kd.qk0 | apply Kd.qo0)); exact HO_12.out⟩, ⟨by (try simp only [hl63_3]); (with_reducible repeat (first | apply Kd.ql0 | apply Kd.qk0 | apply Kd.qo0)); exact HO_63.out⟩, ⟨by (try simp only [hl63_3]); (with_reducible repeat (first | refine qf0 ?_ _ | refine qj0 ?_ | refine qg0 ?_ _)); exact BK235.out⟩, ⟨by repeat (first | (with_reducible first | exact HB.out | apply qc0 | apply qa0 | apply qb0 | refine qh0 ?_ GE235.out) | exact HB.out)⟩⟩
       rw [if_neg c47] at H
       have c47b0 : decide (x65_3 < (x9_2.length : Int)) = false := decide_eq_false c47
       (try (have hlx0_ := c47b0; rw [← hl63_3] at hlx0_))
       (try (have hly0_ := c47b0; rw [hl63_3] at hly0_))
       clear c47
       by_cases c63 : x2_3 > 0
       ·rw [if_pos c63] at H
        have c63b0 : decide (0 < x2_3) = true := decide_eq_true c63
        clear c63
        obtain rfl := Option.some.inj H
        go_wp2
        repeat (go_quiet (fail); try go_wp2)
        go_ret
        exact ⟨_, by first | rfl | (simp [errW_none, errW_some] <;> rfl) | (simp [*, errW_none, errW_some] <;> rfl), by first | exact Kd.R_nil _ _ _ _ _ | exact Kd.N_nil _ _ _ _ _ | exact Kd.V_nil _ _ _ _ _ | exact Kd.Q_nil _ _ _ _ _ | exact Kd.S_nil _ _ _ _ _, by repeat (first | (with_reducible first | exact HB.out | apply qc0 | apply qa0 | apply qb0 | refine qh0 ?_ GE235.out) | exact HB.out)⟩
       rw [if_neg c63] at H
       have c63b0 : decide (0 < x2_3) = false := decide_eq_false c63
       clear c63
       obtain rfl := Option.some.inj H
       go_wp2
       repeat (go_quiet (fail); try go_wp2)
       go_ret
       exact ⟨_, by first | rfl | (simp [errW_none, errW_some] <;> rfl) | (simp [*, errW_none, errW_some] <;> rfl), by (with_reducible repeat (first | apply Kd.ql0 | apply Kd.qk0 | apply Kd.qo0)); exact HO_12.out, by repeat (first | (with_reducible first | exact HB.out | apply qc0 | apply qa0 | apply qb0 | refine qh0 ?_ GE235.out) | exact HB.out)⟩

/-! ### laws_eqPick: function 128 -/
def laws_eqPick.f (a0_0 : Int) (a0_1 : Int) (a1_0 : Int) (a1_1 : Int) : Option (Bool) := if a0_0 = a1_0 then (if a0_1 = a1_1 then (some true) else (some false)) else (some false)
set_option maxHeartbeats 8000000 in
set_option maxRecDepth 100000 in
theorem laws_eqPick.calls (a0_0 : Int) (a0_1 : Int) (a1_0 : Int) (a1_1 : Int) (r : Bool) (w : World) (h : laws_eqPick.f a0_0 a0_1 a1_0 a1_1 = some r) :
  Calls Try.prog 128 #[.agg #[.int .i64 a0_0, .int .i64 a0_1], .agg #[.int .i64 a1_0, .int .i64 a1_1]] w fun e w' => e = .returned (.bool r) ∧ Below w.heap.size w w' := by
 have hu162 := Try.underlying162
 have HB := Aside0.mk (Below.refl w.heap.size w)
 have H : (if a0_0 = a1_0 then (if a0_1 = a1_1 then (some true) else (some false)) else (some false)) = some r := h
 clear h
 by_cases c3 : a0_0 = a1_0
 ·rw [if_pos c3] at H
  have c3b0 : (a0_0 == a1_0) = true := beq_iff_eq.mpr c3
  have c3b1 : (a0_0 != a1_0) = false := bne_eq_false_iff_eq.mpr c3
  clear c3
  by_cases c4 : a0_1 = a1_1
  ·rw [if_pos c4] at H
   have c4b0 : (a0_1 == a1_1) = true := beq_iff_eq.mpr c4
   have c4b1 : (a0_1 != a1_1) = false := bne_eq_false_iff_eq.mpr c4
   clear c4
   obtain rfl := Option.some.inj H
   go_enter Try.func128, Try.ntmps128
   go_wp2_with (first | ((with_reducible refine qs0 (N := 2) rfl ?_); refine qt0 ?hg (N := 2) ?hd (cs := #[.int .i64 a0_0, .int .i64 a0_1]) (t := 162) ?hr ?_; (case hd => rfl); (case hg => rfl); (case hr => first | (go_simp; done) | (go_simp; rfl)); intro gb260 hg w5 hbox hb; have n0_ := Aside0.mk (qm0 (by repeat (first | (with_reducible first | exact HB.out | apply qc0 | apply qa0 | apply qb0) | exact HB.out)) hb); have n1_ := Aside0.mk (hbox); have n2_ := Aside0.mk ((by rw [hg]; exact (qi0 (by repeat (first | (with_reducible first | exact HB.out | apply qc0 | apply qa0 | apply qb0) | exact HB.out))) : w.heap.size ≤ gb260)); have n3_ := Aside0.mk ((by rw [hg]; exact (qi0 (by repeat (first | (with_reducible first | exact HB.out | apply qc0 | apply qa0 | apply qb0) | exact HB.out))) : w.heap.size ≤ gb260)); clear HB; have HB := n0_; have BK260 := n1_; have GW260 := n2_; have GE260 := n3_; clear n0_ n1_ n2_ n3_; clear hb hbox hg) | ((with_reducible refine qs0 (N := 3) rfl ?_); refine qt0 ?hg (N := 3) ?hd (cs := #[.int .i64 a1_0, .int .i64 a1_1]) (t := 162) ?hr ?_; (case hd => rfl); (case hg => rfl); (case hr => first | (go_simp; done) | (go_simp; rfl)); intro gb261 hg w6 hbox hb; have n0_ := Aside0.mk (qx0 (g := gb260) (o := .cells #[.int .i64 a0_0, .int .i64 a0_1] 162 (0, 0)) (by (with_reducible repeat (first | refine qf0 ?_ _ | refine qj0 ?_ | refine qg0 ?_ _)); exact BK260.out) hb); have n1_ := Aside0.mk (qm0 (by repeat (first | (with_reducible first | exact HB.out | apply qc0 | apply qa0 | apply qb0 | refine qh0 ?_ GE260.out) | exact HB.out)) hb); have n2_ := Aside0.mk (hbox); have n3_ := Aside0.mk ((by rw [hg]; exact (qi0 (by repeat (first | (with_reducible first | exact HB.out | apply qc0 | apply qa0 | apply qb0 | refine qh0 ?_ GE260.out) | exact HB.out))) : w.heap.size ≤ gb261)); have n4_ := Aside0.mk ((by rw [hg]; exact (qi0 (by repeat (first | (with_reducible first | exact HB.out | apply qc0 | apply qa0 | apply qb0 | refine qh0 ?_ GE260.out) | exact HB.out))) : w.heap.size ≤ gb261)); have n5_ := Aside0.mk ((by rw [hg]; exact Nat.ne_of_lt (blk_lt (g := gb260) (o := .cells #[.int .i64 a0_0, .int .i64 a0_1] 162 (0, 0)) (by (with_reducible repeat (first | refine qf0 ?_ _ | refine qj0 ?_ | refine qg0 ?_ _)); exact BK260.out)) : gb260 ≠ gb261)); have n6_ := Aside0.mk ((by rw [hg]; exact Nat.ne_of_gt (blk_lt (g := gb260) (o := .cells #[.int .i64 a0_0, .int .i64 a0_1] 162 (0, 0)) (by (with_reducible repeat (first | refine qf0 ?_ _ | refine qj0 ?_ | refine qg0 ?_ _)); exact BK260.out)) : gb261 ≠ gb260)); clear BK260; clear HB; have BK260 := n0_; have HB := n1_; have BK261 := n2_; have GW261 := n3_; have GE261 := n4_; have NB260_261 := n5_; have NB261_260 := n6_; clear n0_ n1_ n2_ n3_ n4_ n5_ n6_; clear hb hbox hg; have hnb7 := NB260_261.out; have hnc7 := NB261_260.out; have hcz8_0 : w6.cell? ⟨gb260, 0, none⟩ = some (.int .i64 a0_0) := (qe0 BK260.out 0).trans rfl; have hcz8_1 : w6.cell? ⟨gb260, 1, none⟩ = some (.int .i64 a0_1) := (qe0 BK260.out 1).trans rfl; have hfz8_0 := qd0 BK260.out 0; have hfz8_1 := qd0 BK260.out 1; have hcz9_0 : w6.cell? ⟨gb261, 0, none⟩ = some (.int .i64 a1_0) := (qe0 BK261.out 0).trans rfl; have hcz9_1 : w6.cell? ⟨gb261, 1, none⟩ = some (.int .i64 a1_1) := (qe0 BK261.out 1).trans rfl; have hfz9_0 := qd0 BK261.out 0; have hfz9_1 := qd0 BK261.out 1))
   go_ret
   exact ⟨by first | rfl | (simp [errW_none, errW_some] <;> rfl) | (simp [*, errW_none, errW_some] <;> rfl), by repeat (first | (with_reducible first | exact HB.out | apply qc0 | apply qa0 | apply qb0 | refine qh0 ?_ GE260.out | refine qh0 ?_ GE261.out) | exact HB.out)⟩
  rw [if_neg c4] at H
  have c4b0 : (a0_1 == a1_1) = false := beq_eq_false_iff_ne.mpr c4
  have c4b1 : (a0_1 != a1_1) = true := bne_iff_ne.mpr c4
  obtain rfl := Option.some.inj H
  go_enter Try.func128, Try.ntmps128
  go_wp2_with (first | ((with_reducible refine qs0 (N := 2) rfl ?_); refine qt0 ?hg (N := 2) ?hd (cs := #[.int .i64 a0_0, .int .i64 a0_1]) (t := 162) ?hr ?_; (case hd => rfl); (case hg => rfl); (case hr => first | (go_simp; done) | (go_simp; rfl)); intro gb260 hg w10 hbox hb; have n0_ := Aside0.mk (qm0 (by repeat (first | (with_reducible first | exact HB.out | apply qc0 | apply qa0 | apply qb0) | exact HB.out)) hb); have n1_ := Aside0.mk (hbox); have n2_ := Aside0.mk ((by rw [hg]; exact (qi0 (by repeat (first | (with_reducible first | exact HB.out | apply qc0 | apply qa0 | apply qb0) | exact HB.out))) : w.heap.size ≤ gb260)); have n3_ := Aside0.mk ((by rw [hg]; exact (qi0 (by repeat (first | (with_reducible first | exact HB.out | apply qc0 | apply qa0 | apply qb0) | exact HB.out))) : w.heap.size ≤ gb260)); clear HB; have HB := n0_; have BK260 := n1_; have GW260 := n2_; have GE260 := n3_; clear n0_ n1_ n2_ n3_; clear hb hbox hg) | ((with_reducible refine qs0 (N := 3) rfl ?_); refine qt0 ?hg (N := 3) ?hd (cs := #[.int .i64 a1_0, .int .i64 a1_1]) (t := 162) ?hr ?_; (case hd => rfl); (case hg => rfl); (case hr => first | (go_simp; done) | (go_simp; rfl)); intro gb261 hg w11 hbox hb; have n0_ := Aside0.mk (qx0 (g := gb260) (o := .cells #[.int .i64 a0_0, .int .i64 a0_1] 162 (0, 0)) (by (with_reducible repeat (first | refine qf0 ?_ _ | refine qj0 ?_ | refine qg0 ?_ _)); exact BK260.out) hb); have n1_ := Aside0.mk (qm0 (by repeat (first | (with_reducible first | exact HB.out | apply qc0 | apply qa0 | apply qb0 | refine qh0 ?_ GE260.out) | exact HB.out)) hb); have n2_ := Aside0.mk (hbox); have n3_ := Aside0.mk ((by rw [hg]; exact (qi0 (by repeat (first | (with_reducible first | exact HB.out | apply qc0 | apply qa0 | apply qb0 | refine qh0 ?_ GE260.out) | exact HB.out))) : w.heap.size ≤ gb261)); have n4_ := Aside0.mk ((by rw [hg]; exact (qi0 (by repeat (first | (with_reducible first | exact HB.out | apply qc0 | apply qa0 | apply qb0 | refine qh0 ?_ GE260.out) | exact HB.out))) : w.heap.size ≤ gb261)); have n5_ := Aside0.mk ((by rw [hg]; exact Nat.ne_of_lt (blk_lt (g := gb260) (o := .cells #[.int .i64 a0_0, .int .i64 a0_1] 162 (0, 0)) (by (with_reducible repeat (first | refine qf0 ?_ _ | refine qj0 ?_ | refine qg0 ?_ _)); exact BK260.out)) : gb260 ≠ gb261)); have n6_ := Aside0.mk ((by rw [hg]; exact Nat.ne_of_gt (blk_lt (g := gb260) (o := .cells #[.int .i64 a0_0, .int .i64 a0_1] 162 (0, 0)) (by (with_reducible repeat (first | refine qf0 ?_ _ | refine qj0 ?_ | refine qg0 ?_ _)); exact BK260.out)) : gb261 ≠ gb260)); clear BK260; clear HB; have BK260 := n0_; have HB := n1_; have BK261 := n2_; have GW261 := n3_; have GE261 := n4_; have NB260_261 := n5_; have NB261_260 := n6_; clear n0_ n1_ n2_ n3_ n4_ n5_ n6_; clear hb hbox hg; have hnb12 := NB260_261.out; have hnc12 := NB261_260.out; have hcz13_0 : w11.cell? ⟨gb260, 0, none⟩ = some (.int .i64 a0_0) := (qe0 BK260.out 0).trans rfl; have hcz13_1 : w11.cell? ⟨gb260, 1, none⟩ = some (.int .i64 a0_1) := (qe0 BK260.out 1).trans rfl; have hfz13_0 := qd0 BK260.out 0; have hfz13_1 := qd0 BK260.out 1; have hcz14_0 : w11.cell? ⟨gb261, 0, none⟩ = some (.int .i64 a1_0) := (qe0 BK261.out 0).trans rfl; have hcz14_1 : w11.cell? ⟨gb261, 1, none⟩ = some (.int .i64 a1_1) := (qe0 BK261.out 1).trans rfl; have hfz14_0 := qd0 BK261.out 0; have hfz14_1 := qd0 BK261.out 1))
  go_ret
  exact ⟨by first | rfl | (simp [errW_none, errW_some] <;> rfl) | (simp [*, errW_none, errW_some] <;> rfl), by repeat (first | (with_reducible first | exact HB.out | apply qc0 | apply qa0 | apply qb0 | refine qh0 ?_ GE260.out | refine qh0 ?_ GE261.out) | exact HB.out)⟩
 rw [if_neg c3] at H
 have c3b0 : (a0_0 == a1_0) = false := beq_eq_false_iff_ne.mpr c3
 have c3b1 : (a0_0 != a1_0) = true := bne_iff_ne.mpr c3
 obtain rfl := Option.some.inj H
 go_enter Try.func128, Try.ntmps128
 go_wp2_with (first | ((with_reducible refine qs0 (N := 2) rfl ?_); refine qt0 ?hg (N := 2) ?hd (cs := #[.int .i64 a0_0, .int .i64 a0_1]) (t := 162) ?hr ?_; (case hd => rfl); (case hg => rfl); (case hr => first | (go_simp; done) | (go_simp; rfl)); intro gb260 hg w15 hbox hb; have n0_ := Aside0.mk (qm0 (by repeat (first | (with_reducible first | exact HB.out | apply qc0 | apply qa0 | apply qb0) | exact HB.out)) hb); have n1_ := Aside0.mk (hbox); have n2_ := Aside0.mk ((by rw [hg]; exact (qi0 (by repeat (first | (with_reducible first | exact HB.out | apply qc0 | apply qa0 | apply qb0) | exact HB.out))) : w.heap.size ≤ gb260)); have n3_ := Aside0.mk ((by rw [hg]; exact (qi0 (by repeat (first | (with_reducible first | exact HB.out | apply qc0 | apply qa0 | apply qb0) | exact HB.out))) : w.heap.size ≤ gb260)); clear HB; have HB := n0_; have BK260 := n1_; have GW260 := n2_; have GE260 := n3_; clear n0_ n1_ n2_ n3_; clear hb hbox hg) | ((with_reducible refine qs0 (N := 3) rfl ?_); refine qt0 ?hg (N := 3) ?hd (cs := #[.int .i64 a1_0, .int .i64 a1_1]) (t := 162) ?hr ?_; (case hd => rfl); (case hg => rfl); (case hr => first | (go_simp; done) | (go_simp; rfl)); intro gb261 hg w16 hbox hb; have n0_ := Aside0.mk (qx0 (g := gb260) (o := .cells #[.int .i64 a0_0, .int .i64 a0_1] 162 (0, 0)) (by (with_reducible repeat (first | refine qf0 ?_ _ | refine qj0 ?_ | refine qg0 ?_ _)); exact BK260.out) hb); have n1_ := Aside0.mk (qm0 (by repeat (first | (with_reducible first | exact HB.out | apply qc0 | apply qa0 | apply qb0 | refine qh0 ?_ GE260.out) | exact HB.out)) hb); have n2_ := Aside0.mk (hbox); have n3_ := Aside0.mk ((by rw [hg]; exact (qi0 (by repeat (first | (with_reducible first | exact HB.out | apply qc0 | apply qa0 | apply qb0 | refine qh0 ?_ GE260.out) | exact HB.out))) : w.heap.size ≤ gb261)); have n4_ := Aside0.mk ((by rw [hg]; exact (qi0 (by repeat (first | (with_reducible first | exact HB.out | apply qc0 | apply qa0 | apply qb0 | refine qh0 ?_ GE260.out) | exact HB.out))) : w.heap.size ≤ gb261)); have n5_ := Aside0.mk ((by rw [hg]; exact Nat.ne_of_lt (blk_lt (g := gb260) (o := .cells #[.int .i64 a0_0, .int .i64 a0_1] 162 (0, 0)) (by (with_reducible repeat (first | refine qf0 ?_ _ | refine qj0 ?_ | refine qg0 ?_ _)); exact BK260.out)) : gb260 ≠ gb261)); have n6_ := Aside0.mk ((by rw [hg]; exact Nat.ne_of_gt (blk_lt (g := gb260) (o := .cells #[.int .i64 a0_0, .int .i64 a0_1] 162 (0, 0)) (by (with_reducible repeat (first | refine qf0 ?_ _ | refine qj0 ?_ | refine qg0 ?_ _)); exact BK260.out)) : gb261 ≠ gb260)); clear BK260; clear HB; have BK260 := n0_; have HB := n1_; have BK261 := n2_; have GW261 := n3_; have GE261 := n4_; have NB260_261 := n5_; have NB261_260 := n6_; clear n0_ n1_ n2_ n3_ n4_ n5_ n6_; clear hb hbox hg; have hnb17 := NB260_261.out; have hnc17 := NB261_260.out; have hcz18_0 : w16.cell? ⟨gb260, 0, none⟩ = some (.int .i64 a0_0) := (qe0 BK260.out 0).trans rfl; have hcz18_1 : w16.cell? ⟨gb260, 1, none⟩ = some (.int .i64 a0_1) := (qe0 BK260.out 1).trans rfl; have hfz18_0 := qd0 BK260.out 0; have hfz18_1 := qd0 BK260.out 1; have hcz19_0 : w16.cell? ⟨gb261, 0, none⟩ = some (.int .i64 a1_0) := (qe0 BK261.out 0).trans rfl; have hcz19_1 : w16.cell? ⟨gb261, 1, none⟩ = some (.int .i64 a1_1) := (qe0 BK261.out 1).trans rfl; have hfz19_0 := qd0 BK261.out 0; have hfz19_1 := qd0 BK261.out 1))
 go_ret
 exact ⟨by first | rfl | (simp [errW_none, errW_some] <;> rfl) | (simp [*, errW_none, errW_some] <;> rfl), by repeat (first | (with_reducible first | exact HB.out | apply qc0 | apply qa0 | apply qb0 | refine qh0 ?_ GE260.out | refine qh0 ?_ GE261.out) | exact HB.out)⟩

end Go.Proofs.Ytlodndejipjceaa.PFnExactPicks
