/- Lines by a program (a changed copy of the kit's print: this repo's wip/tools): Go functions as Lean functions, and proofs that the calls answer so. -/
import Derived.Test.YtinibkdbfpafcaaZPFnMovedx0
import Derived.Test.YtinibkdbfpafcaaZPFnMovedx6
import Derived.Test.YtinibkdbfpafcaaZPFnMovedx7
namespace Go.Proofs.Ytinibkdbfpafcaa.PFnMoved
open Go.RowKit Go.Proofs.YtinibkdbfpafcaaW.PrintWords Go.Proofs.YtinibkdbfpafcaaW.PrintLast Go.Proofs.YtinibkdbfpafcaaW.PrintMore
attribute [local go_sem] max2_int min2_int max_two min_two max_three min_three max_four min_four   -- for this text's walks alone
set_option linter.unusedVariables false
set_option linter.unusedSimpArgs false

/-! ### spec_DrawMove: function 72 -/
def spec_DrawMove.j0 : Nat → List (S117) → Int → Int → Bool → List Int → Int → Int → Option ((List (S117)) × Int × ByteArray × Int)
 | 0, _, _, _, _, _, _, _ => none
 | k + 1, x7, x8, x9, x35, x314000, x314001, x314002 => if x35 = true then (if 0 ≤ x8 then (if x8 < (x7.length : Int) then ((spec_l1Below.f x314000 x314001 x314002 2).bind fun bt342 => ((spec_l1Pick.f x314000 bt342.2.1 bt342.2.2 (([(⟨#[97]⟩ : ByteArray), (⟨#[98]⟩ : ByteArray), (⟨#[104, 97, 108, 108]⟩ : ByteArray), (⟨#[110, 101, 119]⟩ : ByteArray), (⟨#[]⟩ : ByteArray)] : List ByteArray))).bind fun bt348 => ((spec_l1Spoil.f x314000 bt348.2.1 bt348.2.2 (wrap64 ((wrap64 (((rd_T117 x7 x8).f4) - ((rd_T117 x7 x8).f5))) + bt342.1)) (([(-1), 1000000] : List Int))).bind fun bt354 => (some (x7, x8, bt348.1, bt354.1))))) else (none)) else (none)) else ((spec_l1Pick.f x314000 x314001 x314002 (([(⟨#[97]⟩ : ByteArray), (⟨#[98]⟩ : ByteArray), (⟨#[104, 97, 108, 108]⟩ : ByteArray), (⟨#[110, 101, 119]⟩ : ByteArray), (⟨#[]⟩ : ByteArray)] : List ByteArray))).bind fun bt360 => ((spec_l1Spoil.f x314000 bt360.2.1 bt360.2.2 x9 (([(-1), 1000000] : List Int))).bind fun bt366 => (some (x7, x8, bt360.1, bt366.1))))
def spec_DrawMove.f (k : Nat) (l0 : List Int) : Option ((List (S117)) × Int × ByteArray × Int) := (spec_l1New.f k l0).bind fun bt310 => ((spec_l15DrawStock.f k bt310.1 bt310.2.1 bt310.2.2 10).bind fun bt314 => ((spec_l15SpoilStock.f k bt310.1 bt314.2.1 bt314.2.2 bt314.1).bind fun bt319 => ((spec_l1Below.f bt310.1 bt319.2.1 bt319.2.2 (bt319.1.length : Int)).bind fun bt324 => ((spec_l1Spoil.f bt310.1 bt324.2.1 bt324.2.2 bt324.1 (([(-1), (bt319.1.length : Int)] : List Int))).bind fun bt330 => ((spec_l1Below.f bt310.1 bt330.2.1 bt330.2.2 40).bind fun bt333 => ((spec_l1In.f bt330.1 0 (wrap64 ((bt319.1.length : Int) - 1))).bind fun t336 => (if t336 = true then ((spec_l1Once.f bt310.1 bt333.2.1 bt333.2.2 2).bind fun bt337 => (spec_DrawMove.j0 k bt319.1 bt330.1 bt333.1 bt337.1 bt310.1 bt337.2.1 bt337.2.2)) else (spec_DrawMove.j0 k bt319.1 bt330.1 bt333.1 false bt310.1 bt333.2.1 bt333.2.2))))))))
theorem spec_DrawMove.mono_l : ∀ k, (∀ y0 y1 y2 y3 y4 y5 y6, LeO (spec_DrawMove.j0 k y0 y1 y2 y3 y4 y5 y6) (spec_DrawMove.j0 (k + 1) y0 y1 y2 y3 y4 y5 y6))
 | 0 => fun _ _ _ _ _ _ _ r h => by simp [spec_DrawMove.j0] at h
 | k + 1 => by
  have ih0 := spec_DrawMove.mono_l k
  ·intro y0 y1 y2 y3 y4 y5 y6
   unfold spec_DrawMove.j0
   repeat' first
   | (with_reducible exact ih0 _ _ _ _ _ _ _)
   | (with_reducible exact spec_l15DrawStock.mono _ _ _ _ _)
   | (with_reducible exact spec_l15SpoilStock.mono _ _ _ _ _)
   | (with_reducible exact spec_l1New.mono _ _)
   | (with_reducible exact LeO.refl _)
   | (with_reducible exact LeO.none _)
   | (with_reducible refine LeO.ite ?_ ?_)
   | (with_reducible refine LeO.bind ?_ (fun _ => ?_))
   | exact ih0 _ _ _ _ _ _ _
   | exact spec_l15DrawStock.mono _ _ _ _ _
   | exact spec_l15SpoilStock.mono _ _ _ _ _
   | exact spec_l1New.mono _ _
   | exact LeO.none _
   | refine LeO.ite ?_ ?_
   | refine LeO.bind ?_ (fun _ => ?_)
theorem spec_DrawMove.mono : ∀ a0 k, LeO (spec_DrawMove.f k a0) (spec_DrawMove.f (k + 1) a0) := by
 intro a0 k
 have ih0 := spec_DrawMove.mono_l k
 unfold spec_DrawMove.f
 repeat' first
   | (with_reducible exact ih0 _ _ _ _ _ _ _)
   | (with_reducible exact spec_l15DrawStock.mono _ _ _ _ _)
   | (with_reducible exact spec_l15SpoilStock.mono _ _ _ _ _)
   | (with_reducible exact spec_l1New.mono _ _)
   | (with_reducible exact LeO.refl _)
   | (with_reducible exact LeO.none _)
   | (with_reducible refine LeO.ite ?_ ?_)
   | (with_reducible refine LeO.bind ?_ (fun _ => ?_))
   | exact ih0 _ _ _ _ _ _ _
   | exact spec_l15DrawStock.mono _ _ _ _ _
   | exact spec_l15SpoilStock.mono _ _ _ _ _
   | exact spec_l1New.mono _ _
   | exact LeO.none _
   | refine LeO.ite ?_ ?_
   | refine LeO.bind ?_ (fun _ => ?_)
def spec_DrawMove.T6 : Bool × List (List Nat × List Nat) := (true, [([], []), ([], []), ([0, 1], [0, 1]), ([2], [2]), ([3], [3]), ([], []), ([], []), ([5, 6], [5, 6]), ([7], [7]), ([8], [8]), ([4, 9], [4, 9]), ([], []), ([11], [11]), ([10, 12], [10, 12]), ([13, 12, 0, 1, 2, 3, 4, 5, 6, 7, 8, 9, 10, 11, 12, 13], [13])])
def spec_DrawMove.B6 : List Nat := [0, 0, 3, 7, 15, 0, 0, 96, 224, 480, 1023, 0, 2048, 8191, 16383]
theorem spec_DrawMove.tab6 : rtab .any (opsOf Try.f72 6) = spec_DrawMove.T6 := by kernel_rfl
theorem spec_DrawMove.bits6 : waitsOk spec_DrawMove.T6.2 spec_DrawMove.B6 = true := by kernel_rfl
set_option maxHeartbeats 8000000 in
set_option maxRecDepth 100000 in
theorem spec_DrawMove.calls (k : Nat) (A0 : Option Addr) (c0 : Nat) (l0 : List Int) (r1 : List (S117)) (r2 : Int) (r3 : ByteArray) (r4 : Int) (w : World) (hr0 : Kd.C (Kd.int .u8) w A0 l0.length l0) (hc0 : l0.length ≤ c0) (h : spec_DrawMove.f k l0 = some (r1, r2, r3, r4)) :
  Calls Try.prog 72 #[.slice A0 l0.length c0] w fun e w' => ∃ v0_ : Value, e = .returned (.tuple #[v0_, .int .i64 r2, .string r3, .int .i64 r4]) ∧ Kd.R k117 117 w' w.heap.size (fun _ => True) v0_ r1 ∧ Below w.heap.size w w' := by
 have HR0 := Aside0.mk hr0
 have HC0 := Aside0.mk hc0
 clear hr0 hc0
 have HB := Aside0.mk (Below.refl w.heap.size w)
 have H : ((spec_l1New.f k l0).bind fun bt310 => ((spec_l15DrawStock.f k bt310.1 bt310.2.1 bt310.2.2 10).bind fun bt314 => ((spec_l15SpoilStock.f k bt310.1 bt314.2.1 bt314.2.2 bt314.1).bind fun bt319 => ((spec_l1Below.f bt310.1 bt319.2.1 bt319.2.2 (bt319.1.length : Int)).bind fun bt324 => ((spec_l1Spoil.f bt310.1 bt324.2.1 bt324.2.2 bt324.1 (([(-1), (bt319.1.length : Int)] : List Int))).bind fun bt330 => ((spec_l1Below.f bt310.1 bt330.2.1 bt330.2.2 40).bind fun bt333 => ((spec_l1In.f bt330.1 0 (wrap64 ((bt319.1.length : Int) - 1))).bind fun t336 => (if t336 = true then ((spec_l1Once.f bt310.1 bt333.2.1 bt333.2.2 2).bind fun bt337 => (spec_DrawMove.j0 k bt319.1 bt330.1 bt333.1 bt337.1 bt310.1 bt337.2.1 bt337.2.2)) else (spec_DrawMove.j0 k bt319.1 bt330.1 bt333.1 false bt310.1 bt333.2.1 bt333.2.2))))))))) = some (r1, r2, r3, r4) := h
 clear h
 replace H := Option.bind_eq_some_iff.mp H
 obtain ⟨⟨t310, t311, t312⟩, A20, H⟩ := H
 replace H : ((spec_l15DrawStock.f k t310 t311 t312 10).bind fun bt314 => ((spec_l15SpoilStock.f k t310 bt314.2.1 bt314.2.2 bt314.1).bind fun bt319 => ((spec_l1Below.f t310 bt319.2.1 bt319.2.2 (bt319.1.length : Int)).bind fun bt324 => ((spec_l1Spoil.f t310 bt324.2.1 bt324.2.2 bt324.1 (([(-1), (bt319.1.length : Int)] : List Int))).bind fun bt330 => ((spec_l1Below.f t310 bt330.2.1 bt330.2.2 40).bind fun bt333 => ((spec_l1In.f bt330.1 0 (wrap64 ((bt319.1.length : Int) - 1))).bind fun t336 => (if t336 = true then ((spec_l1Once.f t310 bt333.2.1 bt333.2.2 2).bind fun bt337 => (spec_DrawMove.j0 k bt319.1 bt330.1 bt333.1 bt337.1 t310 bt337.2.1 bt337.2.2)) else (spec_DrawMove.j0 k bt319.1 bt330.1 bt333.1 false t310 bt333.2.1 bt333.2.2)))))))) = some (r1, r2, r3, r4) := H
 have A2 := Aside0.mk A20
 clear A20
 replace H := Option.bind_eq_some_iff.mp H
 obtain ⟨⟨t314, t317, t318⟩, A30, H⟩ := H
 replace H : ((spec_l15SpoilStock.f k t310 t317 t318 t314).bind fun bt319 => ((spec_l1Below.f t310 bt319.2.1 bt319.2.2 (bt319.1.length : Int)).bind fun bt324 => ((spec_l1Spoil.f t310 bt324.2.1 bt324.2.2 bt324.1 (([(-1), (bt319.1.length : Int)] : List Int))).bind fun bt330 => ((spec_l1Below.f t310 bt330.2.1 bt330.2.2 40).bind fun bt333 => ((spec_l1In.f bt330.1 0 (wrap64 ((bt319.1.length : Int) - 1))).bind fun t336 => (if t336 = true then ((spec_l1Once.f t310 bt333.2.1 bt333.2.2 2).bind fun bt337 => (spec_DrawMove.j0 k bt319.1 bt330.1 bt333.1 bt337.1 t310 bt337.2.1 bt337.2.2)) else (spec_DrawMove.j0 k bt319.1 bt330.1 bt333.1 false t310 bt333.2.1 bt333.2.2))))))) = some (r1, r2, r3, r4) := H
 have A3 := Aside0.mk A30
 clear A30
 replace H := Option.bind_eq_some_iff.mp H
 obtain ⟨⟨t319, t322, t323⟩, A40, H⟩ := H
 replace H : ((spec_l1Below.f t310 t322 t323 (t319.length : Int)).bind fun bt324 => ((spec_l1Spoil.f t310 bt324.2.1 bt324.2.2 bt324.1 (([(-1), (t319.length : Int)] : List Int))).bind fun bt330 => ((spec_l1Below.f t310 bt330.2.1 bt330.2.2 40).bind fun bt333 => ((spec_l1In.f bt330.1 0 (wrap64 ((t319.length : Int) - 1))).bind fun t336 => (if t336 = true then ((spec_l1Once.f t310 bt333.2.1 bt333.2.2 2).bind fun bt337 => (spec_DrawMove.j0 k t319 bt330.1 bt333.1 bt337.1 t310 bt337.2.1 bt337.2.2)) else (spec_DrawMove.j0 k t319 bt330.1 bt333.1 false t310 bt333.2.1 bt333.2.2)))))) = some (r1, r2, r3, r4) := H
 have A4 := Aside0.mk A40
 clear A40
 replace H := Option.bind_eq_some_iff.mp H
 obtain ⟨⟨t324, t325, t326⟩, A50, H⟩ := H
 replace H : ((spec_l1Spoil.f t310 t325 t326 t324 (([(-1), (t319.length : Int)] : List Int))).bind fun bt330 => ((spec_l1Below.f t310 bt330.2.1 bt330.2.2 40).bind fun bt333 => ((spec_l1In.f bt330.1 0 (wrap64 ((t319.length : Int) - 1))).bind fun t336 => (if t336 = true then ((spec_l1Once.f t310 bt333.2.1 bt333.2.2 2).bind fun bt337 => (spec_DrawMove.j0 k t319 bt330.1 bt333.1 bt337.1 t310 bt337.2.1 bt337.2.2)) else (spec_DrawMove.j0 k t319 bt330.1 bt333.1 false t310 bt333.2.1 bt333.2.2))))) = some (r1, r2, r3, r4) := H
 have A5 := Aside0.mk A50
 clear A50
 obtain ⟨y327, hy327⟩ : ∃ y_ : List Int, y_ = (([(-1), (t319.length : Int)] : List Int)) := ⟨_, rfl⟩
 replace H : ((spec_l1Spoil.f t310 t325 t326 t324 y327).bind fun bt330 => ((spec_l1Below.f t310 bt330.2.1 bt330.2.2 40).bind fun bt333 => ((spec_l1In.f bt330.1 0 (wrap64 ((t319.length : Int) - 1))).bind fun t336 => (if t336 = true then ((spec_l1Once.f t310 bt333.2.1 bt333.2.2 2).bind fun bt337 => (spec_DrawMove.j0 k t319 bt330.1 bt333.1 bt337.1 t310 bt337.2.1 bt337.2.2)) else (spec_DrawMove.j0 k t319 bt330.1 bt333.1 false t310 bt333.2.1 bt333.2.2))))) = some (r1, r2, r3, r4) := by first | (rw [hy327]; with_reducible exact H) | (have H2_ := (Option.bind_some _ _).symm.trans H; rw [hy327]; with_reducible exact H2_) | (have H2_ := (Option.bind_some _ _).symm.trans H; with_reducible exact H2_) | with_reducible exact H | (rw [hy327]; exact H) | exact H
 have Ny327 := Aside0.mk hy327
 clear hy327
 replace H := Option.bind_eq_some_iff.mp H
 obtain ⟨⟨t330, t331, t332⟩, A60, H⟩ := H
 replace H : ((spec_l1Below.f t310 t331 t332 40).bind fun bt333 => ((spec_l1In.f t330 0 (wrap64 ((t319.length : Int) - 1))).bind fun t336 => (if t336 = true then ((spec_l1Once.f t310 bt333.2.1 bt333.2.2 2).bind fun bt337 => (spec_DrawMove.j0 k t319 t330 bt333.1 bt337.1 t310 bt337.2.1 bt337.2.2)) else (spec_DrawMove.j0 k t319 t330 bt333.1 false t310 bt333.2.1 bt333.2.2)))) = some (r1, r2, r3, r4) := H
 have A6 := Aside0.mk A60
 clear A60
 replace H := Option.bind_eq_some_iff.mp H
 obtain ⟨⟨t333, t334, t335⟩, A70, H⟩ := H
 replace H : ((spec_l1In.f t330 0 (wrap64 ((t319.length : Int) - 1))).bind fun t336 => (if t336 = true then ((spec_l1Once.f t310 t334 t335 2).bind fun bt337 => (spec_DrawMove.j0 k t319 t330 t333 bt337.1 t310 bt337.2.1 bt337.2.2)) else (spec_DrawMove.j0 k t319 t330 t333 false t310 t334 t335))) = some (r1, r2, r3, r4) := H
 have A7 := Aside0.mk A70
 clear A70
 have HC8 := Aside0.mk H
 clear H
 go_enter Try.func72, Try.ntmps72
 go_upto_region 5 with (first | ((with_reducible refine qo0 (f := 83) rfl ?_); refine qz0 (some 11) rfl rfl Try.func83 (by kernel_rfl) rfl #[.slice A0 l0.length c0] rfl (by (try simp only [List.map_toArray, List.map_cons, List.map_nil]); first | done | rfl | (simp only [List.length_drop, List.length_take]; rfl)) ?_; (with_reducible refine (spec_l1New.calls k _ _ l0 t310 t311 t312 w _ ?side1 ?side2 ?side3 A2.out).mono ?_); (case side1 => repeat (first | (with_reducible first | exact HB.out | apply qc0 | apply qa0 | apply qb0) | exact HB.out)); (case side2 => exact HR0.out); (case side3 => exact HC0.out); rintro e w9 ⟨g313, rfl, hi, hb, hb2⟩; refine ⟨_, rfl, ?_⟩; have n0_ := Aside0.mk (hb); have n1_ := Aside0.mk (hi); clear HB; have HB := n0_; have HI313 := n1_; clear n0_ n1_; (try clear hb); (try clear hb2); (try clear hk); (try clear hi)) | ((with_reducible refine qo0 (f := 158) rfl ?_); refine qz0 (some 14) rfl rfl Try.func158 (by kernel_rfl) rfl #[.pointer (some ⟨g313, 0, none⟩), .int .i64 10] rfl (by (try simp only [List.map_toArray, List.map_cons, List.map_nil]); first | done | rfl | (simp only [List.length_drop, List.length_take]; rfl)) ?_; (with_reducible refine (spec_l15DrawStock.calls k g313 t310 t311 t312 10 t314 t317 t318 w _ ?side1 ?side2 A3.out).mono ?_); (case side1 => repeat (first | (with_reducible first | exact HI313.out | apply IsS236.alloc | apply IsS236.drewN | apply IsS236.drew | apply IsS236.set_1 | apply IsS236.set_2) | exact HI313.out)); (case side2 => repeat (first | (with_reducible first | exact HB.out | apply qc0 | apply qa0 | apply qb0 | refine qg0 ?_ (IsS236.ge HI313.out)) | exact HB.out)); rintro e w10 ⟨v315, rfl, ho0, hi, hb, hk⟩; refine ⟨_, rfl, ?_⟩; have n0_ := Aside0.mk (Kd.qb1 ho0 (ql0 (by repeat (first | (with_reducible first | exact HB.out | apply qc0 | apply qa0 | apply qb0 | refine qg0 ?_ (IsS236.ge HI313.out)) | exact HB.out)))); have n1_ := Aside0.mk (hb); have n2_ := Aside0.mk (hi); clear HB; clear HI313; have HO316 := n0_; have HB := n1_; have HI313 := n2_; clear n0_ n1_ n2_; (try clear hb); (try clear hb2); (try clear hk); (try clear hi); (try clear ho0); obtain ⟨Ao11, co11, eo11⟩ := Kd.qe1 HO316.out; subst eo11) | ((with_reducible refine qo0 (f := 157) rfl ?_); refine qz0 (some 15) rfl rfl Try.func157 (by kernel_rfl) rfl #[.pointer (some ⟨g313, 0, none⟩), .slice Ao11 t314.length co11] rfl (by (try simp only [List.map_toArray, List.map_cons, List.map_nil]); first | done | rfl | (simp only [List.length_drop, List.length_take]; rfl)) ?_; (with_reducible refine (spec_l15SpoilStock.calls k g313 t310 t317 t318 (fun k_ => some k_ = (.slice Ao11 t314.length co11 : Value).ownBlock) (.slice Ao11 t314.length co11) t314 t319 t322 t323 w _ ?side1 ?side2 ?side3 A4.out).mono ?_); (case side1 => repeat (first | (with_reducible first | exact HI313.out | apply IsS236.alloc | apply IsS236.drewN | apply IsS236.drew | apply IsS236.set_1 | apply IsS236.set_2) | exact HI313.out)); (case side2 => repeat (first | (with_reducible first | exact HB.out | apply qc0 | apply qa0 | apply qb0 | refine qg0 ?_ (IsS236.ge HI313.out)) | exact HB.out)); (case side3 => exact Kd.R_tight rfl HO316.out); rintro e w12 ⟨v320, rfl, ho0, hi, hb, hkp⟩; refine ⟨_, rfl, ?_⟩; have n0_ := Aside0.mk (hi); have n1_ := Aside0.mk (Kd.qv0 (ok' := fun k_ => True) ho0 (fun k_ hk_ => trivial)); have n2_ := Aside0.mk (hb); clear HI313; clear HB; clear HO316; have HI313 := n0_; have HO321 := n1_; have HB := n2_; clear n0_ n1_ n2_; (try clear hb); (try clear hkp); (try clear ho0); obtain ⟨Ao13, co13, eo13⟩ := Kd.qe1 HO321.out; subst eo13) | ((with_reducible refine qo0 (f := 86) rfl ?_); refine qz0 (some 20) rfl rfl Try.func86 (by kernel_rfl) rfl #[.pointer (some ⟨g313, 0, none⟩), .int .i64 (t319.length : Int)] rfl (by (try simp only [List.map_toArray, List.map_cons, List.map_nil]); first | done | rfl | (simp only [List.length_drop, List.length_take]; rfl)) ?_; (with_reducible refine (spec_l1Below.calls g313 t310 t322 t323 (t319.length : Int) t324 t325 t326 w _ ?side1 ?side2 A5.out).mono ?_); (case side1 => repeat (first | (with_reducible first | exact HI313.out | apply IsS236.alloc | apply IsS236.drewN | apply IsS236.drew | apply IsS236.set_1 | apply IsS236.set_2) | exact HI313.out)); (case side2 => repeat (first | (with_reducible first | exact HB.out | apply qc0 | apply qa0 | apply qb0 | refine qg0 ?_ (IsS236.ge HI313.out)) | exact HB.out)); rintro e w14 ⟨rfl, hi, hb, hk⟩; refine ⟨_, rfl, ?_⟩; have n0_ := Aside0.mk (Kd.qv0 (Kd.qf1 (IsS236.apart (show IsS236 w _ g313 t310 t322 t323 from by repeat (first | (with_reducible first | exact HI313.out | apply IsS236.alloc | apply IsS236.drewN | apply IsS236.drew | apply IsS236.set_1 | apply IsS236.set_2) | exact HI313.out)) (by (with_reducible repeat (first | apply Kd.qi0 | apply Kd.qh0 | apply Kd.qj0)); exact HO321.out) (by decide)) hk (fun _ h => h.2)) (fun _ h => h.1)); have n1_ := Aside0.mk (hb); have n2_ := Aside0.mk (hi); clear HO321; clear HB; clear HI313; have HO321 := n0_; have HB := n1_; have HI313 := n2_; clear n0_ n1_ n2_; (try clear hb); (try clear hb2); (try clear hk); (try clear hi)) | ((with_reducible refine gate_dst (N := 23) rfl ?_); refine Kd.R_lit (Kd.int .i64) _ 3 ?hg (N := 23) ?hd (xs := ([(-1), (t319.length : Int)] : List Int)) (inner := [.int .i64 (-1), .int .i64 (t319.length : Int)]) (ok := fun _ => True) (okp := fun _ => True) ?hr ?hp (fun _ hk => hk) trivial (Below.refl _ _) (Nat.le_refl _) (by simp) ?_; (case hd => rfl); (case hg => rfl); (case hr => first | (go_simp; done) | (go_simp; rfl)); (case hp => exact (Reps.one (show Kd.M (Kd.int .i64) _ _ _ (-1) [.int .i64 (-1)] from rfl) (Reps.one (show Kd.M (Kd.int .i64) _ _ _ (t319.length : Int) [.int .i64 (t319.length : Int)] from rfl) (Reps.none _ _)))); intro v328 w15 ho16 hb hg_ hnew_; clear hg_ hnew_; (first | rw [← Ny327.out] at ho16 | (simp only [Int.reduceToNat] at ho16; rw [← Ny327.out] at ho16)); have n0_ := Aside0.mk (Kd.qg1 (by (with_reducible repeat (first | apply Kd.qi0 | apply Kd.qh0 | apply Kd.qj0)); exact HO321.out) hb); have n1_ := Aside0.mk (Kd.qb1 ho16 (ql0 (by repeat (first | (with_reducible first | exact HB.out | apply qc0 | apply qa0 | apply qb0 | refine qg0 ?_ (IsS236.ge HI313.out)) | exact HB.out)))); have n2_ := Aside0.mk (IsS236.below (by repeat (first | (with_reducible first | exact HI313.out | apply IsS236.alloc | apply IsS236.drewN | apply IsS236.drew | apply IsS236.set_1 | apply IsS236.set_2) | exact HI313.out)) hb); have n3_ := Aside0.mk (qk0 (by repeat (first | (with_reducible first | exact HB.out | apply qc0 | apply qa0 | apply qb0 | refine qg0 ?_ (IsS236.ge HI313.out)) | exact HB.out)) hb); clear HO321; clear HI313; clear HB; have HO321 := n0_; have HO329 := n1_; have HI313 := n2_; have HB := n3_; clear n0_ n1_ n2_ n3_; clear hb ho16; obtain ⟨Ao17, co17, eo17⟩ := Kd.qe1 HO329.out; subst eo17) | ((with_reducible refine qo0 (f := 85) rfl ?_); refine qz0 (some 24) rfl rfl Try.func85 (by kernel_rfl) rfl #[.pointer (some ⟨g313, 0, none⟩), .int .i64 t324, .slice Ao17 y327.length co17] rfl (by (try simp only [List.map_toArray, List.map_cons, List.map_nil]); first | done | rfl | (simp only [List.length_drop, List.length_take]; rfl)) ?_; (with_reducible refine (spec_l1Spoil.calls g313 t310 t325 t326 t324 _ _ y327 t330 t331 t332 w _ ?side1 ?side2 ?side3 ?side4 ?side5 A6.out).mono ?_); (case side1 => repeat (first | (with_reducible first | exact HI313.out | apply IsS236.alloc | apply IsS236.drewN | apply IsS236.drew | apply IsS236.set_1 | apply IsS236.set_2) | exact HI313.out)); (case side2 => repeat (first | (with_reducible first | exact HB.out | apply qc0 | apply qa0 | apply qb0 | refine qg0 ?_ (IsS236.ge HI313.out)) | exact HB.out)); (case side3 => repeat (first | exact (Kd.qf0 HO329.out).2.2 | (with_reducible refine Kd.qu0 ?_ _) | (with_reducible refine Kd.qt0 ?_ _) | (with_reducible refine Kd.qy0 ?_))); (case side4 => exact (Kd.qf0 HO329.out).2.1); (case side5 => exact far_slice (IsS236.own_ne HI313.out HO329.out (by decide))); rintro e w18 ⟨rfl, hi, hb, hk⟩; refine ⟨_, rfl, ?_⟩; have n0_ := Aside0.mk (Kd.qv0 (Kd.qf1 (IsS236.apart (show IsS236 w _ g313 t310 t325 t326 from by repeat (first | (with_reducible first | exact HI313.out | apply IsS236.alloc | apply IsS236.drewN | apply IsS236.drew | apply IsS236.set_1 | apply IsS236.set_2) | exact HI313.out)) (by (with_reducible repeat (first | apply Kd.qi0 | apply Kd.qh0 | apply Kd.qj0)); exact HO321.out) (by decide)) hk (fun _ h => h.2)) (fun _ h => h.1)); have n1_ := Aside0.mk (Kd.qv0 (Kd.qf1 (IsS236.apart (show IsS236 w _ g313 t310 t325 t326 from by repeat (first | (with_reducible first | exact HI313.out | apply IsS236.alloc | apply IsS236.drewN | apply IsS236.drew | apply IsS236.set_1 | apply IsS236.set_2) | exact HI313.out)) (by (with_reducible repeat (first | apply Kd.qi0 | apply Kd.qh0 | apply Kd.qj0)); exact HO329.out) (by decide)) hk (fun _ h => h.2)) (fun _ h => h.1)); have n2_ := Aside0.mk (hb); have n3_ := Aside0.mk (hi); clear HO321; clear HO329; clear HB; clear HI313; have HO321 := n0_; have HO329 := n1_; have HB := n2_; have HI313 := n3_; clear n0_ n1_ n2_ n3_; (try clear hb); (try clear hb2); (try clear hk); (try clear hi)) | ((with_reducible refine qo0 (f := 86) rfl ?_); refine qz0 (some 26) rfl rfl Try.func86 (by kernel_rfl) rfl #[.pointer (some ⟨g313, 0, none⟩), .int .i64 40] rfl (by (try simp only [List.map_toArray, List.map_cons, List.map_nil]); first | done | rfl | (simp only [List.length_drop, List.length_take]; rfl)) ?_; (with_reducible refine (spec_l1Below.calls g313 t310 t331 t332 40 t333 t334 t335 w _ ?side1 ?side2 A7.out).mono ?_); (case side1 => repeat (first | (with_reducible first | exact HI313.out | apply IsS236.alloc | apply IsS236.drewN | apply IsS236.drew | apply IsS236.set_1 | apply IsS236.set_2) | exact HI313.out)); (case side2 => repeat (first | (with_reducible first | exact HB.out | apply qc0 | apply qa0 | apply qb0 | refine qg0 ?_ (IsS236.ge HI313.out)) | exact HB.out)); rintro e w19 ⟨rfl, hi, hb, hk⟩; refine ⟨_, rfl, ?_⟩; have n0_ := Aside0.mk (Kd.qv0 (Kd.qf1 (IsS236.apart (show IsS236 w _ g313 t310 t331 t332 from by repeat (first | (with_reducible first | exact HI313.out | apply IsS236.alloc | apply IsS236.drewN | apply IsS236.drew | apply IsS236.set_1 | apply IsS236.set_2) | exact HI313.out)) (by (with_reducible repeat (first | apply Kd.qi0 | apply Kd.qh0 | apply Kd.qj0)); exact HO321.out) (by decide)) hk (fun _ h => h.2)) (fun _ h => h.1)); have n1_ := Aside0.mk (Kd.qv0 (Kd.qf1 (IsS236.apart (show IsS236 w _ g313 t310 t331 t332 from by repeat (first | (with_reducible first | exact HI313.out | apply IsS236.alloc | apply IsS236.drewN | apply IsS236.drew | apply IsS236.set_1 | apply IsS236.set_2) | exact HI313.out)) (by (with_reducible repeat (first | apply Kd.qi0 | apply Kd.qh0 | apply Kd.qj0)); exact HO329.out) (by decide)) hk (fun _ h => h.2)) (fun _ h => h.1)); have n2_ := Aside0.mk (hb); have n3_ := Aside0.mk (hi); clear HO321; clear HO329; clear HB; clear HI313; have HO321 := n0_; have HO329 := n1_; have HB := n2_; have HI313 := n3_; clear n0_ n1_ n2_ n3_; (try clear hb); (try clear hb2); (try clear hk); (try clear hi)))
 (try simp only [Act.put, List.setIfInBounds_toArray, List.set_cons_zero, List.set_cons_succ])
 go_cut [35] (fun v35 wc => ∃ (kq : Nat) (x35_7 : Bool) (x314001_7 : Int) (x314002_7 : Int), v35 = .bool x35_7 ∧ Aside0 (spec_DrawMove.j0 kq t319 t330 t333 x35_7 t310 x314001_7 x314002_7 = some (r1, r2, r3, r4)) ∧ Aside0 (kq ≤ k) ∧ Aside0 (Kd.R k117 117 wc w.heap.size (fun _ => True) (.slice Ao13 t319.length co13) t319) ∧ Aside0 (IsS236 w wc g313 t310 x314001_7 x314002_7) ∧ Aside0 (Below w.heap.size w wc))
 case first =>
  have H := HC8.out
  clear HC8
  replace H := Option.bind_eq_some_iff.mp H
  obtain ⟨t336, A200, H⟩ := H
  replace H : (if t336 = true then ((spec_l1Once.f t310 t334 t335 2).bind fun bt337 => (spec_DrawMove.j0 k t319 t330 t333 bt337.1 t310 bt337.2.1 bt337.2.2)) else (spec_DrawMove.j0 k t319 t330 t333 false t310 t334 t335)) = some (r1, r2, r3, r4) := H
  have A20 := Aside0.mk A200
  clear A200
  by_cases c21 : t336 = true
  ·subst c21
   have H1 : ((spec_l1Once.f t310 t334 t335 2).bind fun bt337 => (spec_DrawMove.j0 k t319 t330 t333 bt337.1 t310 bt337.2.1 bt337.2.2)) = some (r1, r2, r3, r4) := by rw [if_pos rfl] at H; exact H
   clear H
   have H := H1
   clear H1
   replace H := Option.bind_eq_some_iff.mp H
   obtain ⟨⟨t337, t338, t339⟩, A220, H⟩ := H
   replace H : (spec_DrawMove.j0 k t319 t330 t333 t337 t310 t338 t339) = some (r1, r2, r3, r4) := H
   have A22 := Aside0.mk A220
   clear A220
   have H' := Aside0.mk H
   clear H
   go_wp2_with (first | ((with_reducible refine qo0 (f := 92) rfl ?_); refine qz0 (some 31) rfl rfl Try.func92 (by kernel_rfl) rfl #[.int .i64 t330, .int .i64 0, .int .i64 (wrap64 ((t319.length : Int) - 1))] rfl (by (try simp only [List.map_toArray, List.map_cons, List.map_nil]); first | done | rfl | (simp only [List.length_drop, List.length_take]; rfl)) ?_; (with_reducible refine (spec_l1In.calls t330 0 (wrap64 ((t319.length : Int) - 1)) true _ A20.out).mono ?_); rintro e w' ⟨rfl, ⟨nd, rfl⟩⟩; refine ⟨_, rfl, ?_⟩) | (go_at_call 88; (with_reducible refine (spec_l1Once.calls g313 t310 t334 t335 2 t337 t338 t339 w _ ?side1 ?side2 A22.out).mono ?_); (case side1 => repeat (first | (with_reducible first | exact HI313.out | apply IsS236.alloc | apply IsS236.drewN | apply IsS236.drew | apply IsS236.set_1 | apply IsS236.set_2) | exact HI313.out)); (case side2 => repeat (first | (with_reducible first | exact HB.out | apply qc0 | apply qa0 | apply qb0 | refine qg0 ?_ (IsS236.ge HI313.out)) | exact HB.out)); rintro e w23 ⟨rfl, hi, hb, hk⟩; have n0_ := Aside0.mk (Kd.qv0 (Kd.qf1 (IsS236.apart (show IsS236 w _ g313 t310 t334 t335 from by repeat (first | (with_reducible first | exact HI313.out | apply IsS236.alloc | apply IsS236.drewN | apply IsS236.drew | apply IsS236.set_1 | apply IsS236.set_2) | exact HI313.out)) (by (with_reducible repeat (first | apply Kd.qi0 | apply Kd.qh0 | apply Kd.qj0)); exact HO321.out) (by decide)) hk (fun _ h => h.2)) (fun _ h => h.1)); have n1_ := Aside0.mk (Kd.qv0 (Kd.qf1 (IsS236.apart (show IsS236 w _ g313 t310 t334 t335 from by repeat (first | (with_reducible first | exact HI313.out | apply IsS236.alloc | apply IsS236.drewN | apply IsS236.drew | apply IsS236.set_1 | apply IsS236.set_2) | exact HI313.out)) (by (with_reducible repeat (first | apply Kd.qi0 | apply Kd.qh0 | apply Kd.qj0)); exact HO329.out) (by decide)) hk (fun _ h => h.2)) (fun _ h => h.1)); have n2_ := Aside0.mk (hb); have n3_ := Aside0.mk (hi); clear HO321; clear HO329; clear HB; clear HI313; have HO321 := n0_; have HO329 := n1_; have HB := n2_; have HI313 := n3_; clear n0_ n1_ n2_ n3_; (try clear hb); (try clear hb2); (try clear hk); (try clear hi)))
   go_meet
   case rel => exact ⟨_, (t337), (t338), (t339), (by first | rfl | (simp; done) | (simp [*]; done)), H', ⟨by first | omega | exact Nat.le_refl _⟩, ⟨by (with_reducible repeat (first | apply Kd.qi0 | apply Kd.qh0 | apply Kd.qj0)); exact HO321.out⟩, ⟨by repeat (first | (with_reducible first | exact HI313.out | apply IsS236.alloc | apply IsS236.drewN | apply IsS236.drew | apply IsS236.set_1 | apply IsS236.set_2) | exact HI313.out)⟩, ⟨by repeat (first | (with_reducible first | exact HB.out | apply qc0 | apply qa0 | apply qb0 | refine qg0 ?_ (IsS236.ge HI313.out)) | exact HB.out)⟩⟩
  replace c21 := Bool.eq_false_iff.mpr c21
  subst c21
  have H1 : (spec_DrawMove.j0 k t319 t330 t333 false t310 t334 t335) = some (r1, r2, r3, r4) := by rw [if_neg (show ¬ (false = true) by decide)] at H; exact H
  clear H
  have H := H1
  clear H1
  have H' := Aside0.mk H
  clear H
  go_wp2_with (first | ((with_reducible refine qo0 (f := 92) rfl ?_); refine qz0 (some 31) rfl rfl Try.func92 (by kernel_rfl) rfl #[.int .i64 t330, .int .i64 0, .int .i64 (wrap64 ((t319.length : Int) - 1))] rfl (by (try simp only [List.map_toArray, List.map_cons, List.map_nil]); first | done | rfl | (simp only [List.length_drop, List.length_take]; rfl)) ?_; (with_reducible refine (spec_l1In.calls t330 0 (wrap64 ((t319.length : Int) - 1)) false _ A20.out).mono ?_); rintro e w' ⟨rfl, ⟨nd, rfl⟩⟩; refine ⟨_, rfl, ?_⟩))
  go_meet
  case rel => exact ⟨_, (false), (t334), (t335), (by first | rfl | (simp; done) | (simp [*]; done)), H', ⟨by first | omega | exact Nat.le_refl _⟩, ⟨by (with_reducible repeat (first | apply Kd.qi0 | apply Kd.qh0 | apply Kd.qj0)); exact HO321.out⟩, ⟨by repeat (first | (with_reducible first | exact HI313.out | apply IsS236.alloc | apply IsS236.drewN | apply IsS236.drew | apply IsS236.set_1 | apply IsS236.set_2) | exact HI313.out)⟩, ⟨by repeat (first | (with_reducible first | exact HB.out | apply qc0 | apply qa0 | apply qb0 | refine qg0 ?_ (IsS236.ge HI313.out)) | exact HB.out)⟩⟩
 case rest =>
  clear HC8
  try clear c1
  try clear c2
  try clear p2
  try clear p6
  try clear c7
  try clear c8
  try clear c9
  try clear c15
  try clear c21
  obtain ⟨kq, x35_7, x314001_7, x314002_7, rfl, HA, HJ7, HO_7, HI313, HB⟩ := hcut
  cases kq with
  | zero => exact absurd HA.out (by simp [spec_DrawMove.j0])
  | succ kj7 =>
   have H := HA.out
   clear HA
   simp only [spec_DrawMove.j0] at H
   by_cases c24 : x35_7 = true
   ·subst c24
    have H1 : (if 0 ≤ t330 then (if t330 < (t319.length : Int) then ((spec_l1Below.f t310 x314001_7 x314002_7 2).bind fun bt342 => ((spec_l1Pick.f t310 bt342.2.1 bt342.2.2 (([(⟨#[97]⟩ : ByteArray), (⟨#[98]⟩ : ByteArray), (⟨#[104, 97, 108, 108]⟩ : ByteArray), (⟨#[110, 101, 119]⟩ : ByteArray), (⟨#[]⟩ : ByteArray)] : List ByteArray))).bind fun bt348 => ((spec_l1Spoil.f t310 bt348.2.1 bt348.2.2 (wrap64 ((wrap64 (((rd_T117 t319 t330).f4) - ((rd_T117 t319 t330).f5))) + bt342.1)) (([(-1), 1000000] : List Int))).bind fun bt354 => (some (t319, t330, bt348.1, bt354.1))))) else (none)) else (none)) = some (r1, r2, r3, r4) := by rw [if_pos rfl] at H; exact H
    clear H
    have H := H1
    clear H1
    by_cases c25 : 0 ≤ t330
    case neg => rw [if_neg c25] at H; exact absurd H (by simp)
    rw [if_pos c25] at H
    have c25b0 : decide (0 ≤ t330) = true := decide_eq_true c25
    clear c25
    by_cases c26 : t330 < (t319.length : Int)
    case neg => rw [if_neg c26] at H; exact absurd H (by simp)
    rw [if_pos c26] at H
    have c26b0 : decide (t330 < (t319.length : Int)) = true := decide_eq_true c26
    clear c26
    replace H := Option.bind_eq_some_iff.mp H
    obtain ⟨⟨t342, t343, t344⟩, A270, H⟩ := H
    replace H : ((spec_l1Pick.f t310 t343 t344 (([(⟨#[97]⟩ : ByteArray), (⟨#[98]⟩ : ByteArray), (⟨#[104, 97, 108, 108]⟩ : ByteArray), (⟨#[110, 101, 119]⟩ : ByteArray), (⟨#[]⟩ : ByteArray)] : List ByteArray))).bind fun bt348 => ((spec_l1Spoil.f t310 bt348.2.1 bt348.2.2 (wrap64 ((wrap64 (((rd_T117 t319 t330).f4) - ((rd_T117 t319 t330).f5))) + t342)) (([(-1), 1000000] : List Int))).bind fun bt354 => (some (t319, t330, bt348.1, bt354.1)))) = some (r1, r2, r3, r4) := H
    have A27 := Aside0.mk A270
    clear A270
    obtain ⟨y345, hy345⟩ : ∃ y_ : List ByteArray, y_ = (([(⟨#[97]⟩ : ByteArray), (⟨#[98]⟩ : ByteArray), (⟨#[104, 97, 108, 108]⟩ : ByteArray), (⟨#[110, 101, 119]⟩ : ByteArray), (⟨#[]⟩ : ByteArray)] : List ByteArray)) := ⟨_, rfl⟩
    replace H : ((spec_l1Pick.f t310 t343 t344 y345).bind fun bt348 => ((spec_l1Spoil.f t310 bt348.2.1 bt348.2.2 (wrap64 ((wrap64 (((rd_T117 t319 t330).f4) - ((rd_T117 t319 t330).f5))) + t342)) (([(-1), 1000000] : List Int))).bind fun bt354 => (some (t319, t330, bt348.1, bt354.1)))) = some (r1, r2, r3, r4) := by first | (rw [hy345]; with_reducible exact H) | (have H2_ := (Option.bind_some _ _).symm.trans H; rw [hy345]; with_reducible exact H2_) | (have H2_ := (Option.bind_some _ _).symm.trans H; with_reducible exact H2_) | with_reducible exact H | (rw [hy345]; exact H) | exact H
    have Ny345 := Aside0.mk hy345
    clear hy345
    replace H := Option.bind_eq_some_iff.mp H
    obtain ⟨⟨t348, t349, t350⟩, A280, H⟩ := H
    replace H : ((spec_l1Spoil.f t310 t349 t350 (wrap64 ((wrap64 (((rd_T117 t319 t330).f4) - ((rd_T117 t319 t330).f5))) + t342)) (([(-1), 1000000] : List Int))).bind fun bt354 => (some (t319, t330, t348, bt354.1))) = some (r1, r2, r3, r4) := H
    have A28 := Aside0.mk A280
    clear A280
    obtain ⟨y351, hy351⟩ : ∃ y_ : List Int, y_ = (([(-1), 1000000] : List Int)) := ⟨_, rfl⟩
    replace H : ((spec_l1Spoil.f t310 t349 t350 (wrap64 ((wrap64 (((rd_T117 t319 t330).f4) - ((rd_T117 t319 t330).f5))) + t342)) y351).bind fun bt354 => (some (t319, t330, t348, bt354.1))) = some (r1, r2, r3, r4) := by first | (rw [hy351]; with_reducible exact H) | (have H2_ := (Option.bind_some _ _).symm.trans H; rw [hy351]; with_reducible exact H2_) | (have H2_ := (Option.bind_some _ _).symm.trans H; with_reducible exact H2_) | with_reducible exact H | (rw [hy351]; exact H) | exact H
    have Ny351 := Aside0.mk hy351
    clear hy351
    replace H := Option.bind_eq_some_iff.mp H
    obtain ⟨⟨t354, t355, t356⟩, A290, H⟩ := H
    replace H : (some (t319, t330, t348, t354)) = some (r1, r2, r3, r4) := H
    have A29 := Aside0.mk A290
    clear A290
    simp only [Option.some.injEq, Prod.mk.injEq] at H
    obtain ⟨rfl, rfl, rfl, rfl⟩ := H
    try go_wp2
    have n0_ := Aside0.mk (Kd.qj0 HO_7.out)
    have n1_ := Aside0.mk (IsS236.drew HI313.out)
    have n2_ := Aside0.mk (qb0 HB.out)
    clear HO_7
    clear HI313
    clear HB
    have HO_7 := n0_
    have HI313 := n1_
    have HB := n2_
    clear n0_ n1_ n2_
    have p340 : 0 ≤ (t330 : Int) := of_decide_eq_true (by first | (with_reducible assumption) | assumption)
    have q340 : t330 < (t319.length : Int) := of_decide_eq_true (by first | (with_reducible assumption) | assumption)
    obtain ⟨ad340, e340, hx340_0, hx340_1, hx340_2, hx340_3, hx340_4, hx340_5⟩ := at_T117 (Kd.qf0 HO_7.out).2.2 t330 p340 q340
    cases e340
    replace p340 := eq_true p340
    replace q340 := eq_true q340
    have p341 : 0 ≤ (t330 : Int) := of_decide_eq_true (by first | (with_reducible assumption) | assumption)
    have q341 : t330 < (t319.length : Int) := of_decide_eq_true (by first | (with_reducible assumption) | assumption)
    obtain ⟨ad341, e341, hx341_0, hx341_1, hx341_2, hx341_3, hx341_4, hx341_5⟩ := at_T117 (Kd.qf0 HO_7.out).2.2 t330 p341 q341
    obtain rfl : ad340 = ad341 := (by injection e341)
    replace p341 := eq_true p341
    replace q341 := eq_true q341
    refine start_ (n := 15) (S := fun w' => w'.cell? (ad340.add ((t330).toNat * 6)) = some (.string ((rd_T117 t319 t330).f0)) ∧ w'.cell? ⟨(ad340.add ((t330).toNat * 6)).block, (ad340.add ((t330).toNat * 6)).off + 1, none⟩ = some (.string ((rd_T117 t319 t330).f1)) ∧ w'.cell? ⟨(ad340.add ((t330).toNat * 6)).block, (ad340.add ((t330).toNat * 6)).off + 2, none⟩ = some (.string ((rd_T117 t319 t330).f2)) ∧ w'.cell? ⟨(ad340.add ((t330).toNat * 6)).block, (ad340.add ((t330).toNat * 6)).off + 3, none⟩ = some (.int .i64 ((rd_T117 t319 t330).f3)) ∧ w'.cell? ⟨(ad340.add ((t330).toNat * 6)).block, (ad340.add ((t330).toNat * 6)).off + 4, none⟩ = some (.int .i64 ((rd_T117 t319 t330).f4)) ∧ w'.cell? ⟨(ad340.add ((t330).toNat * 6)).block, (ad340.add ((t330).toNat * 6)).off + 5, none⟩ = some (.int .i64 ((rd_T117 t319 t330).f5)) ∧ w'.cell? (ad340.add ((t330).toNat * 6)) = some (.string ((rd_T117 t319 t330).f0)) ∧ w'.cell? ⟨(ad340.add ((t330).toNat * 6)).block, (ad340.add ((t330).toNat * 6)).off + 1, none⟩ = some (.string ((rd_T117 t319 t330).f1)) ∧ w'.cell? ⟨(ad340.add ((t330).toNat * 6)).block, (ad340.add ((t330).toNat * 6)).off + 2, none⟩ = some (.string ((rd_T117 t319 t330).f2)) ∧ w'.cell? ⟨(ad340.add ((t330).toNat * 6)).block, (ad340.add ((t330).toNat * 6)).off + 3, none⟩ = some (.int .i64 ((rd_T117 t319 t330).f3)) ∧ w'.cell? ⟨(ad340.add ((t330).toNat * 6)).block, (ad340.add ((t330).toNat * 6)).off + 4, none⟩ = some (.int .i64 ((rd_T117 t319 t330).f4)) ∧ w'.cell? ⟨(ad340.add ((t330).toNat * 6)).block, (ad340.add ((t330).toNat * 6)).off + 5, none⟩ = some (.int .i64 ((rd_T117 t319 t330).f5))) (ds := []) #[false, false, false, false, false, false, false, false, false, false, false, false, false, false, false] (by kernel_rfl) rfl rfl ⟨hx340_0, hx340_1, hx340_2, hx340_3, hx340_4, hx340_5, hx341_0, hx341_1, hx341_2, hx341_3, hx341_4, hx341_5⟩ (fun hHeld => ?_); refine with_tabW spec_DrawMove.tab6 spec_DrawMove.bits6 (fun HT_ HW_ => ?_)
    generalize wc.drew = w30 at HO_7 HI313 HB hx340_0 hx340_1 hx340_2 hx340_3 hx340_4 hx340_5 hx341_0 hx341_1 hx341_2 hx341_3 hx341_4 hx341_5 hHeld ⊢
    refine pure_ (i := 0) (N := some 36) (v := ?_) (a' := ?_) #[true, false, false, false, false, false, false, false, false, false, false, false, false, false, false] rfl rfl (qa1 HT_.out (by kernel_rfl)) (fun _ _ _ h => h) (Or.inl ⟨by rfl, ?_⟩) ?_ ?_
    rotate_left
    ·intro w'
     go_simp
     with_reducible rfl
    rotate_left
    ·simp only [Act.put, List.setIfInBounds_toArray, List.set_cons_zero, List.set_cons_succ, i64_w, i32_w]
     rfl
    refine pure_ (i := 1) (N := some 37) (v := ?_) (a' := ?_) #[true, true, false, false, false, false, false, false, false, false, false, false, false, false, false] rfl rfl (qa1 HT_.out (by kernel_rfl)) (fun _ _ _ h => h) (Or.inl ⟨by rfl, ?_⟩) ?_ ?_
    rotate_left
    ·intro w'
     go_simp
     with_reducible rfl
    rotate_left
    ·simp only [Act.put, List.setIfInBounds_toArray, List.set_cons_zero, List.set_cons_succ, i64_w, i32_w]
     rfl
    refine pure_ (i := 2) (N := some 38) (v := ?_) (a' := ?_) #[true, true, true, false, false, false, false, false, false, false, false, false, false, false, false] rfl rfl (qa1 HT_.out (by kernel_rfl)) (fun _ _ _ h => h) (Or.inl ⟨by rfl, ?_⟩) ?_ ?_
    rotate_left
    ·intro w'
     go_simp
     with_reducible rfl
    rotate_left
    ·simp only [Act.put, List.setIfInBounds_toArray, List.set_cons_zero, List.set_cons_succ, i64_w, i32_w]
     rfl
    refine pure_ (i := 3) (N := some 39) (v := ?_) (a' := ?_) #[true, true, true, true, false, false, false, false, false, false, false, false, false, false, false] rfl rfl (qa1 HT_.out (by kernel_rfl)) (fun _ _ _ h => h) (Or.inl ⟨by rfl, ?_⟩) ?_ ?_
    rotate_left
    ·intro w'
     go_simp
     with_reducible rfl
    rotate_left
    ·simp only [Act.put, List.setIfInBounds_toArray, List.set_cons_zero, List.set_cons_succ, i64_w, i32_w]
     rfl
    refine pure_ (i := 5) (N := some 41) (v := ?_) (a' := ?_) #[true, true, true, true, false, true, false, false, false, false, false, false, false, false, false] rfl rfl (qa1 HT_.out (by kernel_rfl)) (fun _ _ _ h => h) (Or.inl ⟨by rfl, ?_⟩) ?_ ?_
    rotate_left
    ·intro w'
     go_simp
     with_reducible rfl
    rotate_left
    ·simp only [Act.put, List.setIfInBounds_toArray, List.set_cons_zero, List.set_cons_succ, i64_w, i32_w]
     rfl
    refine pure_ (i := 6) (N := some 42) (v := ?_) (a' := ?_) #[true, true, true, true, false, true, true, false, false, false, false, false, false, false, false] rfl rfl (qa1 HT_.out (by kernel_rfl)) (fun _ _ _ h => h) (Or.inl ⟨by rfl, ?_⟩) ?_ ?_
    rotate_left
    ·intro w'
     go_simp
     with_reducible rfl
    rotate_left
    ·simp only [Act.put, List.setIfInBounds_toArray, List.set_cons_zero, List.set_cons_succ, i64_w, i32_w]
     rfl
    refine pure_ (i := 7) (N := some 43) (v := ?_) (a' := ?_) #[true, true, true, true, false, true, true, true, false, false, false, false, false, false, false] rfl rfl (qa1 HT_.out (by kernel_rfl)) (fun _ _ _ h => h) (Or.inl ⟨by rfl, ?_⟩) ?_ ?_
    rotate_left
    ·intro w'
     go_simp
     with_reducible rfl
    rotate_left
    ·simp only [Act.put, List.setIfInBounds_toArray, List.set_cons_zero, List.set_cons_succ, i64_w, i32_w]
     rfl
    refine pure_ (i := 8) (N := some 44) (v := ?_) (a' := ?_) #[true, true, true, true, false, true, true, true, true, false, false, false, false, false, false] rfl rfl (qa1 HT_.out (by kernel_rfl)) (fun _ _ _ h => h) (Or.inl ⟨by rfl, ?_⟩) ?_ ?_
    rotate_left
    ·intro w'
     go_simp
     with_reducible rfl
    rotate_left
    ·simp only [Act.put, List.setIfInBounds_toArray, List.set_cons_zero, List.set_cons_succ, i64_w, i32_w]
     rfl
    refine pure_ (i := 11) (N := some 47) (v := ?_) (a' := ?_) #[true, true, true, true, false, true, true, true, true, false, false, true, false, false, false] rfl rfl (qa1 HT_.out (by kernel_rfl)) (fun _ _ _ h => h) (Or.inl ⟨by rfl, ?_⟩) ?_ ?_
    rotate_left
    ·intro w'
     go_simp
     with_reducible rfl
    rotate_left
    ·simp only [Act.put, List.setIfInBounds_toArray, List.set_cons_zero, List.set_cons_succ, i64_w, i32_w]
     rfl
    refine take_ (i := 4) (N := some 40) (v := ?_) (a' := ?_) #[true, true, true, true, true, true, true, true, true, false, false, true, false, false, false] rfl rfl (qo1 HT_.out HW_.out (by kernel_rfl)) (fun _ _ _ h => h) (Or.inl ⟨by rfl, ?_⟩) hHeld ?_ ?_
    rotate_left
    ·rintro w' ⟨s0, s1, s2, s3, s4, s5, s6, s7, s8, s9, s10, s11⟩
     go_simp
     with_reducible rfl
    rotate_left
    ·simp only [Act.put, List.setIfInBounds_toArray, List.set_cons_zero, List.set_cons_succ, i64_w, i32_w]
     rfl
    refine take_ (i := 9) (N := some 45) (v := ?_) (a' := ?_) #[true, true, true, true, true, true, true, true, true, true, false, true, false, false, false] rfl rfl (qo1 HT_.out HW_.out (by kernel_rfl)) (fun _ _ _ h => h) (Or.inl ⟨by rfl, ?_⟩) hHeld ?_ ?_
    rotate_left
    ·rintro w' ⟨s0, s1, s2, s3, s4, s5, s6, s7, s8, s9, s10, s11⟩
     go_simp
     with_reducible rfl
    rotate_left
    ·simp only [Act.put, List.setIfInBounds_toArray, List.set_cons_zero, List.set_cons_succ, i64_w, i32_w]
     rfl
    refine pure_ (i := 10) (N := some 46) (v := ?_) (a' := ?_) #[true, true, true, true, true, true, true, true, true, true, true, true, false, false, false] rfl rfl (qa1 HT_.out (by kernel_rfl)) (fun _ _ _ h => h) (Or.inl ⟨by rfl, ?_⟩) ?_ ?_
    rotate_left
    ·intro w'
     go_simp
     with_reducible rfl
    rotate_left
    ·simp only [Act.put, List.setIfInBounds_toArray, List.set_cons_zero, List.set_cons_succ, i64_w, i32_w]
     rfl
    refine one_ (i := 12) (N := some 48) #[true, true, true, true, true, true, true, true, true, true, true, true, true, false, false] rfl rfl (one_of HT_.out (by kernel_rfl)) (by decide) (fun K hK => ?_)
    refine goes_ Try.func86 (by kernel_rfl) rfl #[.pointer (some ⟨g313, 0, none⟩), .int .i64 2] (by rfl) rfl rfl (by (try simp only [List.map_toArray, List.map_cons, List.map_nil]); first | done | rfl | (simp only [List.length_drop, List.length_take]; rfl)) ?_
    with_reducible refine (spec_l1Below.calls g313 t310 x314001_7 x314002_7 2 t342 t343 t344 w _ ?side1 ?side2 A27.out).mono ?_
    (case side1 => repeat (first | (with_reducible first | exact HI313.out | apply IsS236.alloc | apply IsS236.drewN | apply IsS236.drew | apply IsS236.set_1 | apply IsS236.set_2) | exact HI313.out))
    (case side2 => repeat (first | (with_reducible first | exact HB.out | apply qc0 | apply qa0 | apply qb0 | refine qg0 ?_ (IsS236.ge HI313.out)) | exact HB.out))
    rintro e w31 ⟨rfl, hi, hb, hk⟩
    have HS0_ := keep_cell hk (hHeld.1) (by first | (rw [add_block]; exact Kd.qm1 (IsS236.own_ne HI313.out HO_7.out (by decide))) | (show (Addr.add _ _).block ≠ _; rw [add_block]; exact Kd.qm1 (IsS236.own_ne HI313.out HO_7.out (by decide))) | exact Kd.qm1 (IsS236.own_ne HI313.out HO_7.out (by decide)))
    have HS1_ := keep_cell hk (hHeld.2.1) (by first | (rw [add_block]; exact Kd.qm1 (IsS236.own_ne HI313.out HO_7.out (by decide))) | (show (Addr.add _ _).block ≠ _; rw [add_block]; exact Kd.qm1 (IsS236.own_ne HI313.out HO_7.out (by decide))) | exact Kd.qm1 (IsS236.own_ne HI313.out HO_7.out (by decide)))
    have HS2_ := keep_cell hk (hHeld.2.2.1) (by first | (rw [add_block]; exact Kd.qm1 (IsS236.own_ne HI313.out HO_7.out (by decide))) | (show (Addr.add _ _).block ≠ _; rw [add_block]; exact Kd.qm1 (IsS236.own_ne HI313.out HO_7.out (by decide))) | exact Kd.qm1 (IsS236.own_ne HI313.out HO_7.out (by decide)))
    have HS3_ := keep_cell hk (hHeld.2.2.2.1) (by first | (rw [add_block]; exact Kd.qm1 (IsS236.own_ne HI313.out HO_7.out (by decide))) | (show (Addr.add _ _).block ≠ _; rw [add_block]; exact Kd.qm1 (IsS236.own_ne HI313.out HO_7.out (by decide))) | exact Kd.qm1 (IsS236.own_ne HI313.out HO_7.out (by decide)))
    have HS4_ := keep_cell hk (hHeld.2.2.2.2.1) (by first | (rw [add_block]; exact Kd.qm1 (IsS236.own_ne HI313.out HO_7.out (by decide))) | (show (Addr.add _ _).block ≠ _; rw [add_block]; exact Kd.qm1 (IsS236.own_ne HI313.out HO_7.out (by decide))) | exact Kd.qm1 (IsS236.own_ne HI313.out HO_7.out (by decide)))
    have HS5_ := keep_cell hk (hHeld.2.2.2.2.2.1) (by first | (rw [add_block]; exact Kd.qm1 (IsS236.own_ne HI313.out HO_7.out (by decide))) | (show (Addr.add _ _).block ≠ _; rw [add_block]; exact Kd.qm1 (IsS236.own_ne HI313.out HO_7.out (by decide))) | exact Kd.qm1 (IsS236.own_ne HI313.out HO_7.out (by decide)))
    have HS6_ := keep_cell hk (hHeld.2.2.2.2.2.2.1) (by first | (rw [add_block]; exact Kd.qm1 (IsS236.own_ne HI313.out HO_7.out (by decide))) | (show (Addr.add _ _).block ≠ _; rw [add_block]; exact Kd.qm1 (IsS236.own_ne HI313.out HO_7.out (by decide))) | exact Kd.qm1 (IsS236.own_ne HI313.out HO_7.out (by decide)))
    have HS7_ := keep_cell hk (hHeld.2.2.2.2.2.2.2.1) (by first | (rw [add_block]; exact Kd.qm1 (IsS236.own_ne HI313.out HO_7.out (by decide))) | (show (Addr.add _ _).block ≠ _; rw [add_block]; exact Kd.qm1 (IsS236.own_ne HI313.out HO_7.out (by decide))) | exact Kd.qm1 (IsS236.own_ne HI313.out HO_7.out (by decide)))
    have HS8_ := keep_cell hk (hHeld.2.2.2.2.2.2.2.2.1) (by first | (rw [add_block]; exact Kd.qm1 (IsS236.own_ne HI313.out HO_7.out (by decide))) | (show (Addr.add _ _).block ≠ _; rw [add_block]; exact Kd.qm1 (IsS236.own_ne HI313.out HO_7.out (by decide))) | exact Kd.qm1 (IsS236.own_ne HI313.out HO_7.out (by decide)))
    have HS9_ := keep_cell hk (hHeld.2.2.2.2.2.2.2.2.2.1) (by first | (rw [add_block]; exact Kd.qm1 (IsS236.own_ne HI313.out HO_7.out (by decide))) | (show (Addr.add _ _).block ≠ _; rw [add_block]; exact Kd.qm1 (IsS236.own_ne HI313.out HO_7.out (by decide))) | exact Kd.qm1 (IsS236.own_ne HI313.out HO_7.out (by decide)))
    have HS10_ := keep_cell hk (hHeld.2.2.2.2.2.2.2.2.2.2.1) (by first | (rw [add_block]; exact Kd.qm1 (IsS236.own_ne HI313.out HO_7.out (by decide))) | (show (Addr.add _ _).block ≠ _; rw [add_block]; exact Kd.qm1 (IsS236.own_ne HI313.out HO_7.out (by decide))) | exact Kd.qm1 (IsS236.own_ne HI313.out HO_7.out (by decide)))
    have HS11_ := keep_cell hk (hHeld.2.2.2.2.2.2.2.2.2.2.2) (by first | (rw [add_block]; exact Kd.qm1 (IsS236.own_ne HI313.out HO_7.out (by decide))) | (show (Addr.add _ _).block ≠ _; rw [add_block]; exact Kd.qm1 (IsS236.own_ne HI313.out HO_7.out (by decide))) | exact Kd.qm1 (IsS236.own_ne HI313.out HO_7.out (by decide)))
    refine ⟨_, rfl, ?_⟩
    have n0_ := Aside0.mk (Kd.qv0 (Kd.qf1 (IsS236.apart (show IsS236 w _ g313 t310 x314001_7 x314002_7 from by repeat (first | (with_reducible first | exact HI313.out | apply IsS236.alloc | apply IsS236.drewN | apply IsS236.drew | apply IsS236.set_1 | apply IsS236.set_2) | exact HI313.out)) (by (with_reducible repeat (first | apply Kd.qi0 | apply Kd.qh0 | apply Kd.qj0)); exact HO_7.out) (by decide)) hk (fun _ h => h.2)) (fun _ h => h.1))
    have n1_ := Aside0.mk (hb)
    have n2_ := Aside0.mk (hi)
    clear HO_7
    clear HB
    clear HI313
    have HO_7 := n0_
    have HB := n1_
    have HI313 := n2_
    clear n0_ n1_ n2_
    (try clear hb)
    (try clear hb2)
    (try clear hk)
    (try clear hi)
    refine hK.out _ _ ⟨HS0_, HS1_, HS2_, HS3_, HS4_, HS5_, HS6_, HS7_, HS8_, HS9_, HS10_, HS11_⟩ (fun hHeld => ?_)
    clear hK K
    refine norm_ (a' := ?_) ?_ ?_
    rotate_left
    ·show Act.put _ (some 48) _ = _
     simp only [Act.put, List.setIfInBounds_toArray, List.set_cons_zero, List.set_cons_succ, i64_w, i32_w]
     rfl
    refine pure_ (i := 13) (N := some 49) (v := ?_) (a' := ?_) #[true, true, true, true, true, true, true, true, true, true, true, true, true, true, false] rfl rfl (qa1 HT_.out (by kernel_rfl)) (fun _ _ _ h => h) (Or.inl ⟨by rfl, ?_⟩) ?_ ?_
    rotate_left
    ·intro w'
     go_simp
     with_reducible rfl
    rotate_left
    ·simp only [Act.put, List.setIfInBounds_toArray, List.set_cons_zero, List.set_cons_succ, i64_w, i32_w]
     rfl
    refine pure_ (i := 14) (N := some 9) (v := ?_) (a' := ?_) #[true, true, true, true, true, true, true, true, true, true, true, true, true, true, true] rfl rfl (qa1 HT_.out (by kernel_rfl)) (fun _ _ _ h => h) (Or.inl ⟨by rfl, ?_⟩) ?_ ?_
    rotate_left
    ·intro w'
     go_simp
     with_reducible rfl
    rotate_left
    ·simp only [Act.put, List.setIfInBounds_toArray, List.set_cons_zero, List.set_cons_succ, i64_w, i32_w]
     rfl
    refine done_ (done_of HT_.out (by kernel_rfl)) ?_
    try go_wp2_with (first | ((with_reducible refine gate_dst (N := 53) rfl ?_); refine Kd.R_lit Kd.string _ 9 ?hg (N := 53) ?hd (xs := ([(⟨#[97]⟩ : ByteArray), (⟨#[98]⟩ : ByteArray), (⟨#[104, 97, 108, 108]⟩ : ByteArray), (⟨#[110, 101, 119]⟩ : ByteArray), (⟨#[]⟩ : ByteArray)] : List ByteArray)) (inner := [.string (⟨#[97]⟩ : ByteArray), .string (⟨#[98]⟩ : ByteArray), .string (⟨#[104, 97, 108, 108]⟩ : ByteArray), .string (⟨#[110, 101, 119]⟩ : ByteArray), .string (⟨#[]⟩ : ByteArray)]) (ok := fun _ => True) (okp := fun _ => True) ?hr ?hp (fun _ hk => hk) trivial (Below.refl _ _) (Nat.le_refl _) (by simp) ?_; (case hd => rfl); (case hg => rfl); (case hr => first | (go_simp; done) | (go_simp; rfl)); (case hp => exact (Reps.one (show Kd.M Kd.string _ _ _ (⟨#[97]⟩ : ByteArray) [.string (⟨#[97]⟩ : ByteArray)] from rfl) (Reps.one (show Kd.M Kd.string _ _ _ (⟨#[98]⟩ : ByteArray) [.string (⟨#[98]⟩ : ByteArray)] from rfl) (Reps.one (show Kd.M Kd.string _ _ _ (⟨#[104, 97, 108, 108]⟩ : ByteArray) [.string (⟨#[104, 97, 108, 108]⟩ : ByteArray)] from rfl) (Reps.one (show Kd.M Kd.string _ _ _ (⟨#[110, 101, 119]⟩ : ByteArray) [.string (⟨#[110, 101, 119]⟩ : ByteArray)] from rfl) (Reps.one (show Kd.M Kd.string _ _ _ (⟨#[]⟩ : ByteArray) [.string (⟨#[]⟩ : ByteArray)] from rfl) (Reps.none _ _))))))); intro v346 w32 ho33 hb hg_ hnew_; clear hg_ hnew_; (first | rw [← Ny345.out] at ho33 | (simp only [Int.reduceToNat] at ho33; rw [← Ny345.out] at ho33)); have n0_ := Aside0.mk (Kd.qg1 (by (with_reducible repeat (first | apply Kd.qi0 | apply Kd.qh0 | apply Kd.qj0)); exact HO_7.out) hb); have n1_ := Aside0.mk (Kd.qb1 ho33 (ql0 (by repeat (first | (with_reducible first | exact HB.out | apply qc0 | apply qa0 | apply qb0 | refine qg0 ?_ (IsS236.ge HI313.out)) | exact HB.out)))); have n2_ := Aside0.mk (IsS236.below (by repeat (first | (with_reducible first | exact HI313.out | apply IsS236.alloc | apply IsS236.drewN | apply IsS236.drew | apply IsS236.set_1 | apply IsS236.set_2) | exact HI313.out)) hb); have n3_ := Aside0.mk (qk0 (by repeat (first | (with_reducible first | exact HB.out | apply qc0 | apply qa0 | apply qb0 | refine qg0 ?_ (IsS236.ge HI313.out)) | exact HB.out)) hb); clear HO_7; clear HI313; clear HB; have HO_7 := n0_; have HO347 := n1_; have HI313 := n2_; have HB := n3_; clear n0_ n1_ n2_ n3_; clear hb ho33; obtain ⟨Ao34, co34, eo34⟩ := Kd.qe1 HO347.out; subst eo34) | ((with_reducible refine qo0 (f := 89) rfl ?_); refine qz0 (some 54) rfl rfl Try.func89 (by kernel_rfl) rfl #[.pointer (some ⟨g313, 0, none⟩), .slice Ao34 y345.length co34] rfl (by (try simp only [List.map_toArray, List.map_cons, List.map_nil]); first | done | rfl | (simp only [List.length_drop, List.length_take]; rfl)) ?_; (with_reducible refine (spec_l1Pick.calls g313 t310 t343 t344 _ _ y345 t348 t349 t350 w _ ?side1 ?side2 ?side3 ?side4 ?side5 A28.out).mono ?_); (case side1 => repeat (first | (with_reducible first | exact HI313.out | apply IsS236.alloc | apply IsS236.drewN | apply IsS236.drew | apply IsS236.set_1 | apply IsS236.set_2) | exact HI313.out)); (case side2 => repeat (first | (with_reducible first | exact HB.out | apply qc0 | apply qa0 | apply qb0 | refine qg0 ?_ (IsS236.ge HI313.out)) | exact HB.out)); (case side3 => repeat (first | exact (Kd.qf0 HO347.out).2.2 | (with_reducible refine Kd.qu0 ?_ _) | (with_reducible refine Kd.qt0 ?_ _) | (with_reducible refine Kd.qy0 ?_))); (case side4 => exact (Kd.qf0 HO347.out).2.1); (case side5 => exact far_slice (IsS236.own_ne HI313.out HO347.out (by decide))); rintro e w35 ⟨rfl, hi, hb, hk⟩; refine ⟨_, rfl, ?_⟩; have n0_ := Aside0.mk (Kd.qv0 (Kd.qf1 (IsS236.apart (show IsS236 w _ g313 t310 t343 t344 from by repeat (first | (with_reducible first | exact HI313.out | apply IsS236.alloc | apply IsS236.drewN | apply IsS236.drew | apply IsS236.set_1 | apply IsS236.set_2) | exact HI313.out)) (by (with_reducible repeat (first | apply Kd.qi0 | apply Kd.qh0 | apply Kd.qj0)); exact HO_7.out) (by decide)) hk (fun _ h => h.2)) (fun _ h => h.1)); have n1_ := Aside0.mk (Kd.qv0 (Kd.qf1 (IsS236.apart (show IsS236 w _ g313 t310 t343 t344 from by repeat (first | (with_reducible first | exact HI313.out | apply IsS236.alloc | apply IsS236.drewN | apply IsS236.drew | apply IsS236.set_1 | apply IsS236.set_2) | exact HI313.out)) (by (with_reducible repeat (first | apply Kd.qi0 | apply Kd.qh0 | apply Kd.qj0)); exact HO347.out) (by decide)) hk (fun _ h => h.2)) (fun _ h => h.1)); have n2_ := Aside0.mk (hb); have n3_ := Aside0.mk (hi); clear HO_7; clear HO347; clear HB; clear HI313; have HO_7 := n0_; have HO347 := n1_; have HB := n2_; have HI313 := n3_; clear n0_ n1_ n2_ n3_; (try clear hb); (try clear hb2); (try clear hk); (try clear hi)) | ((with_reducible refine gate_dst (N := 57) rfl ?_); refine Kd.R_lit (Kd.int .i64) _ 3 ?hg (N := 57) ?hd (xs := ([(-1), 1000000] : List Int)) (inner := [.int .i64 (-1), .int .i64 1000000]) (ok := fun _ => True) (okp := fun _ => True) ?hr ?hp (fun _ hk => hk) trivial (Below.refl _ _) (Nat.le_refl _) (by simp) ?_; (case hd => rfl); (case hg => rfl); (case hr => first | (go_simp; done) | (go_simp; rfl)); (case hp => exact (Reps.one (show Kd.M (Kd.int .i64) _ _ _ (-1) [.int .i64 (-1)] from rfl) (Reps.one (show Kd.M (Kd.int .i64) _ _ _ 1000000 [.int .i64 1000000] from rfl) (Reps.none _ _)))); intro v352 w36 ho37 hb hg_ hnew_; clear hg_ hnew_; (first | rw [← Ny351.out] at ho37 | (simp only [Int.reduceToNat] at ho37; rw [← Ny351.out] at ho37)); have n0_ := Aside0.mk (Kd.qg1 (by (with_reducible repeat (first | apply Kd.qi0 | apply Kd.qh0 | apply Kd.qj0)); exact HO_7.out) hb); have n1_ := Aside0.mk (Kd.qg1 (by (with_reducible repeat (first | apply Kd.qi0 | apply Kd.qh0 | apply Kd.qj0)); exact HO347.out) hb); have n2_ := Aside0.mk (Kd.qb1 ho37 (ql0 (by repeat (first | (with_reducible first | exact HB.out | apply qc0 | apply qa0 | apply qb0 | refine qg0 ?_ (IsS236.ge HI313.out)) | exact HB.out)))); have n3_ := Aside0.mk (IsS236.below (by repeat (first | (with_reducible first | exact HI313.out | apply IsS236.alloc | apply IsS236.drewN | apply IsS236.drew | apply IsS236.set_1 | apply IsS236.set_2) | exact HI313.out)) hb); have n4_ := Aside0.mk (qk0 (by repeat (first | (with_reducible first | exact HB.out | apply qc0 | apply qa0 | apply qb0 | refine qg0 ?_ (IsS236.ge HI313.out)) | exact HB.out)) hb); clear HO_7; clear HO347; clear HI313; clear HB; have HO_7 := n0_; have HO347 := n1_; have HO353 := n2_; have HI313 := n3_; have HB := n4_; clear n0_ n1_ n2_ n3_ n4_; clear hb ho37; obtain ⟨Ao38, co38, eo38⟩ := Kd.qe1 HO353.out; subst eo38) | ((with_reducible refine qo0 (f := 85) rfl ?_); refine qz0 (some 58) rfl rfl Try.func85 (by kernel_rfl) rfl #[.pointer (some ⟨g313, 0, none⟩), .int .i64 (wrap64 ((wrap64 (((rd_T117 t319 t330).f4) - ((rd_T117 t319 t330).f5))) + t342)), .slice Ao38 y351.length co38] rfl (by (try simp only [List.map_toArray, List.map_cons, List.map_nil]); first | done | rfl | (simp only [List.length_drop, List.length_take]; rfl)) ?_; (with_reducible refine (spec_l1Spoil.calls g313 t310 t349 t350 (wrap64 ((wrap64 (((rd_T117 t319 t330).f4) - ((rd_T117 t319 t330).f5))) + t342)) _ _ y351 t354 t355 t356 w _ ?side1 ?side2 ?side3 ?side4 ?side5 A29.out).mono ?_); (case side1 => repeat (first | (with_reducible first | exact HI313.out | apply IsS236.alloc | apply IsS236.drewN | apply IsS236.drew | apply IsS236.set_1 | apply IsS236.set_2) | exact HI313.out)); (case side2 => repeat (first | (with_reducible first | exact HB.out | apply qc0 | apply qa0 | apply qb0 | refine qg0 ?_ (IsS236.ge HI313.out)) | exact HB.out)); (case side3 => repeat (first | exact (Kd.qf0 HO353.out).2.2 | (with_reducible refine Kd.qu0 ?_ _) | (with_reducible refine Kd.qt0 ?_ _) | (with_reducible refine Kd.qy0 ?_))); (case side4 => exact (Kd.qf0 HO353.out).2.1); (case side5 => exact far_slice (IsS236.own_ne HI313.out HO353.out (by decide))); rintro e w39 ⟨rfl, hi, hb, hk⟩; refine ⟨_, rfl, ?_⟩; have n0_ := Aside0.mk (Kd.qv0 (Kd.qf1 (IsS236.apart (show IsS236 w _ g313 t310 t349 t350 from by repeat (first | (with_reducible first | exact HI313.out | apply IsS236.alloc | apply IsS236.drewN | apply IsS236.drew | apply IsS236.set_1 | apply IsS236.set_2) | exact HI313.out)) (by (with_reducible repeat (first | apply Kd.qi0 | apply Kd.qh0 | apply Kd.qj0)); exact HO_7.out) (by decide)) hk (fun _ h => h.2)) (fun _ h => h.1)); have n1_ := Aside0.mk (Kd.qv0 (Kd.qf1 (IsS236.apart (show IsS236 w _ g313 t310 t349 t350 from by repeat (first | (with_reducible first | exact HI313.out | apply IsS236.alloc | apply IsS236.drewN | apply IsS236.drew | apply IsS236.set_1 | apply IsS236.set_2) | exact HI313.out)) (by (with_reducible repeat (first | apply Kd.qi0 | apply Kd.qh0 | apply Kd.qj0)); exact HO347.out) (by decide)) hk (fun _ h => h.2)) (fun _ h => h.1)); have n2_ := Aside0.mk (Kd.qv0 (Kd.qf1 (IsS236.apart (show IsS236 w _ g313 t310 t349 t350 from by repeat (first | (with_reducible first | exact HI313.out | apply IsS236.alloc | apply IsS236.drewN | apply IsS236.drew | apply IsS236.set_1 | apply IsS236.set_2) | exact HI313.out)) (by (with_reducible repeat (first | apply Kd.qi0 | apply Kd.qh0 | apply Kd.qj0)); exact HO353.out) (by decide)) hk (fun _ h => h.2)) (fun _ h => h.1)); have n3_ := Aside0.mk (hb); have n4_ := Aside0.mk (hi); clear HO_7; clear HO347; clear HO353; clear HB; clear HI313; have HO_7 := n0_; have HO347 := n1_; have HO353 := n2_; have HB := n3_; have HI313 := n4_; clear n0_ n1_ n2_ n3_ n4_; (try clear hb); (try clear hb2); (try clear hk); (try clear hi)))
    refine bodyPost_ret (results_list (rs := [.tmp 2, .tmp 3, .tmp 4, .tmp 5]) rfl (by simp) (.tmp (.tmp (.tmp (.tmp .nil))))) rfl ?_
    exact ⟨_, by first | rfl | (simp [errW_none, errW_some] <;> rfl) | (simp [*, errW_none, errW_some] <;> rfl), by (with_reducible repeat (first | apply Kd.qi0 | apply Kd.qh0 | apply Kd.qj0)); exact HO_7.out, by repeat (first | (with_reducible first | exact HB.out | apply qc0 | apply qa0 | apply qb0 | refine qg0 ?_ (IsS236.ge HI313.out)) | exact HB.out)⟩
   replace c24 := Bool.eq_false_iff.mpr c24
   subst c24
   have H1 : ((spec_l1Pick.f t310 x314001_7 x314002_7 (([(⟨#[97]⟩ : ByteArray), (⟨#[98]⟩ : ByteArray), (⟨#[104, 97, 108, 108]⟩ : ByteArray), (⟨#[110, 101, 119]⟩ : ByteArray), (⟨#[]⟩ : ByteArray)] : List ByteArray))).bind fun bt360 => ((spec_l1Spoil.f t310 bt360.2.1 bt360.2.2 t333 (([(-1), 1000000] : List Int))).bind fun bt366 => (some (t319, t330, bt360.1, bt366.1)))) = some (r1, r2, r3, r4) := by rw [if_neg (show ¬ (false = true) by decide)] at H; exact H
   clear H
   have H := H1
   clear H1
   obtain ⟨y357, hy357⟩ : ∃ y_ : List ByteArray, y_ = (([(⟨#[97]⟩ : ByteArray), (⟨#[98]⟩ : ByteArray), (⟨#[104, 97, 108, 108]⟩ : ByteArray), (⟨#[110, 101, 119]⟩ : ByteArray), (⟨#[]⟩ : ByteArray)] : List ByteArray)) := ⟨_, rfl⟩
   replace H : ((spec_l1Pick.f t310 x314001_7 x314002_7 y357).bind fun bt360 => ((spec_l1Spoil.f t310 bt360.2.1 bt360.2.2 t333 (([(-1), 1000000] : List Int))).bind fun bt366 => (some (t319, t330, bt360.1, bt366.1)))) = some (r1, r2, r3, r4) := by first | (rw [hy357]; with_reducible exact H) | (have H2_ := (Option.bind_some _ _).symm.trans H; rw [hy357]; with_reducible exact H2_) | (have H2_ := (Option.bind_some _ _).symm.trans H; with_reducible exact H2_) | with_reducible exact H | (rw [hy357]; exact H) | exact H
   have Ny357 := Aside0.mk hy357
   clear hy357
   replace H := Option.bind_eq_some_iff.mp H
   obtain ⟨⟨t360, t361, t362⟩, A400, H⟩ := H
   replace H : ((spec_l1Spoil.f t310 t361 t362 t333 (([(-1), 1000000] : List Int))).bind fun bt366 => (some (t319, t330, t360, bt366.1))) = some (r1, r2, r3, r4) := H
   have A40 := Aside0.mk A400
   clear A400
   obtain ⟨y363, hy363⟩ : ∃ y_ : List Int, y_ = (([(-1), 1000000] : List Int)) := ⟨_, rfl⟩
   replace H : ((spec_l1Spoil.f t310 t361 t362 t333 y363).bind fun bt366 => (some (t319, t330, t360, bt366.1))) = some (r1, r2, r3, r4) := by first | (rw [hy363]; with_reducible exact H) | (have H2_ := (Option.bind_some _ _).symm.trans H; rw [hy363]; with_reducible exact H2_) | (have H2_ := (Option.bind_some _ _).symm.trans H; with_reducible exact H2_) | with_reducible exact H | (rw [hy363]; exact H) | exact H
   have Ny363 := Aside0.mk hy363
   clear hy363
   replace H := Option.bind_eq_some_iff.mp H
   obtain ⟨⟨t366, t367, t368⟩, A410, H⟩ := H
   replace H : (some (t319, t330, t360, t366)) = some (r1, r2, r3, r4) := H
   have A41 := Aside0.mk A410
   clear A410
   simp only [Option.some.injEq, Prod.mk.injEq] at H
   obtain ⟨rfl, rfl, rfl, rfl⟩ := H
   go_wp2_with (first | ((with_reducible refine gate_dst (N := 53) rfl ?_); refine Kd.R_lit Kd.string _ 9 ?hg (N := 53) ?hd (xs := ([(⟨#[97]⟩ : ByteArray), (⟨#[98]⟩ : ByteArray), (⟨#[104, 97, 108, 108]⟩ : ByteArray), (⟨#[110, 101, 119]⟩ : ByteArray), (⟨#[]⟩ : ByteArray)] : List ByteArray)) (inner := [.string (⟨#[97]⟩ : ByteArray), .string (⟨#[98]⟩ : ByteArray), .string (⟨#[104, 97, 108, 108]⟩ : ByteArray), .string (⟨#[110, 101, 119]⟩ : ByteArray), .string (⟨#[]⟩ : ByteArray)]) (ok := fun _ => True) (okp := fun _ => True) ?hr ?hp (fun _ hk => hk) trivial (Below.refl _ _) (Nat.le_refl _) (by simp) ?_; (case hd => rfl); (case hg => rfl); (case hr => first | (go_simp; done) | (go_simp; rfl)); (case hp => exact (Reps.one (show Kd.M Kd.string _ _ _ (⟨#[97]⟩ : ByteArray) [.string (⟨#[97]⟩ : ByteArray)] from rfl) (Reps.one (show Kd.M Kd.string _ _ _ (⟨#[98]⟩ : ByteArray) [.string (⟨#[98]⟩ : ByteArray)] from rfl) (Reps.one (show Kd.M Kd.string _ _ _ (⟨#[104, 97, 108, 108]⟩ : ByteArray) [.string (⟨#[104, 97, 108, 108]⟩ : ByteArray)] from rfl) (Reps.one (show Kd.M Kd.string _ _ _ (⟨#[110, 101, 119]⟩ : ByteArray) [.string (⟨#[110, 101, 119]⟩ : ByteArray)] from rfl) (Reps.one (show Kd.M Kd.string _ _ _ (⟨#[]⟩ : ByteArray) [.string (⟨#[]⟩ : ByteArray)] from rfl) (Reps.none _ _))))))); intro v358 w42 ho43 hb hg_ hnew_; clear hg_ hnew_; (first | rw [← Ny357.out] at ho43 | (simp only [Int.reduceToNat] at ho43; rw [← Ny357.out] at ho43)); have n0_ := Aside0.mk (Kd.qg1 (by (with_reducible repeat (first | apply Kd.qi0 | apply Kd.qh0 | apply Kd.qj0)); exact HO_7.out) hb); have n1_ := Aside0.mk (Kd.qb1 ho43 (ql0 (by repeat (first | (with_reducible first | exact HB.out | apply qc0 | apply qa0 | apply qb0 | refine qg0 ?_ (IsS236.ge HI313.out)) | exact HB.out)))); have n2_ := Aside0.mk (IsS236.below (by repeat (first | (with_reducible first | exact HI313.out | apply IsS236.alloc | apply IsS236.drewN | apply IsS236.drew | apply IsS236.set_1 | apply IsS236.set_2) | exact HI313.out)) hb); have n3_ := Aside0.mk (qk0 (by repeat (first | (with_reducible first | exact HB.out | apply qc0 | apply qa0 | apply qb0 | refine qg0 ?_ (IsS236.ge HI313.out)) | exact HB.out)) hb); clear HO_7; clear HI313; clear HB; have HO_7 := n0_; have HO359 := n1_; have HI313 := n2_; have HB := n3_; clear n0_ n1_ n2_ n3_; clear hb ho43; obtain ⟨Ao44, co44, eo44⟩ := Kd.qe1 HO359.out; subst eo44) | ((with_reducible refine qo0 (f := 89) rfl ?_); refine qz0 (some 54) rfl rfl Try.func89 (by kernel_rfl) rfl #[.pointer (some ⟨g313, 0, none⟩), .slice Ao44 y357.length co44] rfl (by (try simp only [List.map_toArray, List.map_cons, List.map_nil]); first | done | rfl | (simp only [List.length_drop, List.length_take]; rfl)) ?_; (with_reducible refine (spec_l1Pick.calls g313 t310 x314001_7 x314002_7 _ _ y357 t360 t361 t362 w _ ?side1 ?side2 ?side3 ?side4 ?side5 A40.out).mono ?_); (case side1 => repeat (first | (with_reducible first | exact HI313.out | apply IsS236.alloc | apply IsS236.drewN | apply IsS236.drew | apply IsS236.set_1 | apply IsS236.set_2) | exact HI313.out)); (case side2 => repeat (first | (with_reducible first | exact HB.out | apply qc0 | apply qa0 | apply qb0 | refine qg0 ?_ (IsS236.ge HI313.out)) | exact HB.out)); (case side3 => repeat (first | exact (Kd.qf0 HO359.out).2.2 | (with_reducible refine Kd.qu0 ?_ _) | (with_reducible refine Kd.qt0 ?_ _) | (with_reducible refine Kd.qy0 ?_))); (case side4 => exact (Kd.qf0 HO359.out).2.1); (case side5 => exact far_slice (IsS236.own_ne HI313.out HO359.out (by decide))); rintro e w45 ⟨rfl, hi, hb, hk⟩; refine ⟨_, rfl, ?_⟩; have n0_ := Aside0.mk (Kd.qv0 (Kd.qf1 (IsS236.apart (show IsS236 w _ g313 t310 x314001_7 x314002_7 from by repeat (first | (with_reducible first | exact HI313.out | apply IsS236.alloc | apply IsS236.drewN | apply IsS236.drew | apply IsS236.set_1 | apply IsS236.set_2) | exact HI313.out)) (by (with_reducible repeat (first | apply Kd.qi0 | apply Kd.qh0 | apply Kd.qj0)); exact HO_7.out) (by decide)) hk (fun _ h => h.2)) (fun _ h => h.1)); have n1_ := Aside0.mk (Kd.qv0 (Kd.qf1 (IsS236.apart (show IsS236 w _ g313 t310 x314001_7 x314002_7 from by repeat (first | (with_reducible first | exact HI313.out | apply IsS236.alloc | apply IsS236.drewN | apply IsS236.drew | apply IsS236.set_1 | apply IsS236.set_2) | exact HI313.out)) (by (with_reducible repeat (first | apply Kd.qi0 | apply Kd.qh0 | apply Kd.qj0)); exact HO359.out) (by decide)) hk (fun _ h => h.2)) (fun _ h => h.1)); have n2_ := Aside0.mk (hb); have n3_ := Aside0.mk (hi); clear HO_7; clear HO359; clear HB; clear HI313; have HO_7 := n0_; have HO359 := n1_; have HB := n2_; have HI313 := n3_; clear n0_ n1_ n2_ n3_; (try clear hb); (try clear hb2); (try clear hk); (try clear hi)) | ((with_reducible refine gate_dst (N := 57) rfl ?_); refine Kd.R_lit (Kd.int .i64) _ 3 ?hg (N := 57) ?hd (xs := ([(-1), 1000000] : List Int)) (inner := [.int .i64 (-1), .int .i64 1000000]) (ok := fun _ => True) (okp := fun _ => True) ?hr ?hp (fun _ hk => hk) trivial (Below.refl _ _) (Nat.le_refl _) (by simp) ?_; (case hd => rfl); (case hg => rfl); (case hr => first | (go_simp; done) | (go_simp; rfl)); (case hp => exact (Reps.one (show Kd.M (Kd.int .i64) _ _ _ (-1) [.int .i64 (-1)] from rfl) (Reps.one (show Kd.M (Kd.int .i64) _ _ _ 1000000 [.int .i64 1000000] from rfl) (Reps.none _ _)))); intro v364 w46 ho47 hb hg_ hnew_; clear hg_ hnew_; (first | rw [← Ny363.out] at ho47 | (simp only [Int.reduceToNat] at ho47; rw [← Ny363.out] at ho47)); have n0_ := Aside0.mk (Kd.qg1 (by (with_reducible repeat (first | apply Kd.qi0 | apply Kd.qh0 | apply Kd.qj0)); exact HO_7.out) hb); have n1_ := Aside0.mk (Kd.qg1 (by (with_reducible repeat (first | apply Kd.qi0 | apply Kd.qh0 | apply Kd.qj0)); exact HO359.out) hb); have n2_ := Aside0.mk (Kd.qb1 ho47 (ql0 (by repeat (first | (with_reducible first | exact HB.out | apply qc0 | apply qa0 | apply qb0 | refine qg0 ?_ (IsS236.ge HI313.out)) | exact HB.out)))); have n3_ := Aside0.mk (IsS236.below (by repeat (first | (with_reducible first | exact HI313.out | apply IsS236.alloc | apply IsS236.drewN | apply IsS236.drew | apply IsS236.set_1 | apply IsS236.set_2) | exact HI313.out)) hb); have n4_ := Aside0.mk (qk0 (by repeat (first | (with_reducible first | exact HB.out | apply qc0 | apply qa0 | apply qb0 | refine qg0 ?_ (IsS236.ge HI313.out)) | exact HB.out)) hb); clear HO_7; clear HO359; clear HI313; clear HB; have HO_7 := n0_; have HO359 := n1_; have HO365 := n2_; have HI313 := n3_; have HB := n4_; clear n0_ n1_ n2_ n3_ n4_; clear hb ho47; obtain ⟨Ao48, co48, eo48⟩ := Kd.qe1 HO365.out; subst eo48) | ((with_reducible refine qo0 (f := 85) rfl ?_); refine qz0 (some 58) rfl rfl Try.func85 (by kernel_rfl) rfl #[.pointer (some ⟨g313, 0, none⟩), .int .i64 t333, .slice Ao48 y363.length co48] rfl (by (try simp only [List.map_toArray, List.map_cons, List.map_nil]); first | done | rfl | (simp only [List.length_drop, List.length_take]; rfl)) ?_; (with_reducible refine (spec_l1Spoil.calls g313 t310 t361 t362 t333 _ _ y363 t366 t367 t368 w _ ?side1 ?side2 ?side3 ?side4 ?side5 A41.out).mono ?_); (case side1 => repeat (first | (with_reducible first | exact HI313.out | apply IsS236.alloc | apply IsS236.drewN | apply IsS236.drew | apply IsS236.set_1 | apply IsS236.set_2) | exact HI313.out)); (case side2 => repeat (first | (with_reducible first | exact HB.out | apply qc0 | apply qa0 | apply qb0 | refine qg0 ?_ (IsS236.ge HI313.out)) | exact HB.out)); (case side3 => repeat (first | exact (Kd.qf0 HO365.out).2.2 | (with_reducible refine Kd.qu0 ?_ _) | (with_reducible refine Kd.qt0 ?_ _) | (with_reducible refine Kd.qy0 ?_))); (case side4 => exact (Kd.qf0 HO365.out).2.1); (case side5 => exact far_slice (IsS236.own_ne HI313.out HO365.out (by decide))); rintro e w49 ⟨rfl, hi, hb, hk⟩; refine ⟨_, rfl, ?_⟩; have n0_ := Aside0.mk (Kd.qv0 (Kd.qf1 (IsS236.apart (show IsS236 w _ g313 t310 t361 t362 from by repeat (first | (with_reducible first | exact HI313.out | apply IsS236.alloc | apply IsS236.drewN | apply IsS236.drew | apply IsS236.set_1 | apply IsS236.set_2) | exact HI313.out)) (by (with_reducible repeat (first | apply Kd.qi0 | apply Kd.qh0 | apply Kd.qj0)); exact HO_7.out) (by decide)) hk (fun _ h => h.2)) (fun _ h => h.1)); have n1_ := Aside0.mk (Kd.qv0 (Kd.qf1 (IsS236.apart (show IsS236 w _ g313 t310 t361 t362 from by repeat (first | (with_reducible first | exact HI313.out | apply IsS236.alloc | apply IsS236.drewN | apply IsS236.drew | apply IsS236.set_1 | apply IsS236.set_2) | exact HI313.out)) (by (with_reducible repeat (first | apply Kd.qi0 | apply Kd.qh0 | apply Kd.qj0)); exact HO359.out) (by decide)) hk (fun _ h => h.2)) (fun _ h => h.1)); have n2_ := Aside0.mk (Kd.qv0 (Kd.qf1 (IsS236.apart (show IsS236 w _ g313 t310 t361 t362 from by repeat (first | (with_reducible first | exact HI313.out | apply IsS236.alloc | apply IsS236.drewN | apply IsS236.drew | apply IsS236.set_1 | apply IsS236.set_2) | exact HI313.out)) (by (with_reducible repeat (first | apply Kd.qi0 | apply Kd.qh0 | apply Kd.qj0)); exact HO365.out) (by decide)) hk (fun _ h => h.2)) (fun _ h => h.1)); have n3_ := Aside0.mk (hb); have n4_ := Aside0.mk (hi); clear HO_7; clear HO359; clear HO365; clear HB; clear HI313; have HO_7 := n0_; have HO359 := n1_; have HO365 := n2_; have HB := n3_; have HI313 := n4_; clear n0_ n1_ n2_ n3_ n4_; (try clear hb); (try clear hb2); (try clear hk); (try clear hi)))
   refine bodyPost_ret (results_list (rs := [.tmp 2, .tmp 3, .tmp 4, .tmp 5]) rfl (by simp) (.tmp (.tmp (.tmp (.tmp .nil))))) rfl ?_
   exact ⟨_, by first | rfl | (simp [errW_none, errW_some] <;> rfl) | (simp [*, errW_none, errW_some] <;> rfl), by (with_reducible repeat (first | apply Kd.qi0 | apply Kd.qh0 | apply Kd.qj0)); exact HO_7.out, by repeat (first | (with_reducible first | exact HB.out | apply qc0 | apply qa0 | apply qb0 | refine qg0 ?_ (IsS236.ge HI313.out)) | exact HB.out)⟩

/-! ### spec_l12Qty: function 90 -/
def spec_l12Qty.f (a0 : Int) : Option (Bool) := (spec_l1In.f a0 0 1000000).bind fun t369 => (some t369)
set_option maxHeartbeats 8000000 in
set_option maxRecDepth 100000 in
theorem spec_l12Qty.calls (a0 : Int) (r : Bool) (w : World) (h : spec_l12Qty.f a0 = some r) :
  Calls Try.prog 90 #[.int .i64 a0] w fun e w' => e = .returned (.bool r) ∧ Drawn0 w w' := by
 have H : ((spec_l1In.f a0 0 1000000).bind fun t369 => (some t369)) = some r := h
 clear h
 replace H := Option.bind_eq_some_iff.mp H
 obtain ⟨t369, A20, H⟩ := H
 replace H : (some t369) = some r := H
 have A2 := Aside0.mk A20
 clear A20
 obtain rfl := Option.some.inj H
 go_enter Try.func90, Try.ntmps90
 go_wp2_with (first | ((with_reducible refine qo0 (f := 92) rfl ?_); refine qz0 (some 4) rfl rfl Try.func92 (by kernel_rfl) rfl #[.int .i64 a0, .int .i64 0, .int .i64 1000000] rfl (by (try simp only [List.map_toArray, List.map_cons, List.map_nil]); first | done | rfl | (simp only [List.length_drop, List.length_take]; rfl)) ?_; (with_reducible refine (spec_l1In.calls a0 0 1000000 t369 _ A2.out).mono ?_); rintro e w' ⟨rfl, ⟨nd, rfl⟩⟩; refine ⟨_, rfl, ?_⟩))
 go_ret
 exact ⟨by first | rfl | (simp; done) | (simp [*]; done), by repeat (first | exact Drawn0.refl _ | apply Drawn0.step)⟩

end Go.Proofs.Ytinibkdbfpafcaa.PFnMoved
