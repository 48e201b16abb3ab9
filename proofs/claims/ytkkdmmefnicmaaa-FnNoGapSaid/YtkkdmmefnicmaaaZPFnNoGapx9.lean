/- Lines by a program (a changed copy of the kit's print: this repo's wip/tools): Go functions as Lean functions, and proofs that the calls answer so. -/
import Derived.Test.YtkkdmmefnicmaaaZPFnNoGapx0
import Derived.Test.YtkkdmmefnicmaaaZPFnNoGapx1
import Derived.Test.YtkkdmmefnicmaaaZPFnNoGapx2
import Derived.Test.YtkkdmmefnicmaaaZPFnNoGapx8
namespace Go.Proofs.Ytkkdmmefnicmaaa.PFnNoGap
open Go.RowKit Go.Proofs.YtkkdmmefnicmaaaW.PrintWords Go.Proofs.YtkkdmmefnicmaaaW.PrintLast Go.Proofs.YtkkdmmefnicmaaaW.PrintMore
/-- Closing blocks told once. -/
theorem z9_0 {P : Prop} (h : P:=by repeat (first | exact Drawn0.refl _ | apply Drawn0.step)) : P:=h
theorem z9_1 {P : Prop} (h : P:=by first | rfl | (simp;done) | (simp [*];done)) : P:=h
theorem z9_2 {P : Prop} (h : P:=by repeat (first | (with_reducible first | exact HB.out | apply qm0 | apply qh0 | apply qi0) | exact HB.out)) : P:=h
theorem z9_3 {P : Prop} (h : P:=by (try simp only [List.map_toArray,List.map_cons,List.map_nil]);first | done | rfl | (simp only [List.length_drop,List.length_take];rfl)) : P:=h
theorem z9_4 {P : Prop} (h : P:=by repeat (first | (with_reducible first | exact HB.out | apply qm0 | apply qh0 | apply qi0 | refine qj0 ?_ (IsS186.ge HI271.out) | refine qj0 ?_ GE267.out) | exact HB.out)) : P:=h
theorem z9_5 {P : Prop} (h : P:=by (with_reducible repeat (first | refine qd0 ?_ _ | refine qe0 ?_ | refine qc0 ?_ _));exact BK267.out) : P:=h
theorem z9_6 {P : Prop} (h : P:=by repeat (first | (with_reducible first | exact HI271.out | apply IsS186.alloc | apply IsS186.drewN | apply IsS186.drew | apply IsS186.set_1 | apply IsS186.set_2 | refine IsS186.far ?_ NB271_267.out _) | exact HI271.out)) : P:=h
theorem z9_7 {P : Prop} (h : P:=by first | rfl | (simp [errW_none,errW_some] <;> rfl) | (simp [*,errW_none,errW_some] <;> rfl)) : P:=h
theorem z9_8 {P : Prop} (h : P:=by rw [hg];exact (qn0 (by repeat (first | (with_reducible first | exact HB.out | apply qm0 | apply qh0 | apply qi0) | exact HB.out)))) : P:=h
theorem z9_9 {P : Prop} (h : P:=by first | (with_reducible assumption) | assumption) : P:=h
attribute [local go_sem] max2_int min2_int max_two min_two max_three min_three max_four min_four   -- for this text's walks alone
set_option linter.unusedVariables false
set_option linter.unusedSimpArgs false

/-! ### spec_DrawRegisterOk: function 37 -/
def spec_DrawRegisterOk.f (k : Nat) (l0 : List Int) : Option ((List (S156)) × (List (S76))) := (spec_l1New.f k l0).bind fun bt268 => ((spec_l1Size.f l0 25).bind fun t272 => ((spec_l11DrawRegister.f k bt268.1 bt268.2.1 bt268.2.2 t272).bind fun bt273 => ((spec_l11SpoilRegister.f k bt268.1 bt273.2.2.1 bt273.2.2.2 bt273.1 bt273.2.1).bind fun bt281 => (some (bt281.1,bt281.2.1)))))
theorem spec_DrawRegisterOk.mono : ∀ a0 k,LeO (spec_DrawRegisterOk.f k a0) (spec_DrawRegisterOk.f (k + 1) a0) := by
 intro a0 k;unfold spec_DrawRegisterOk.f
 repeat' first
   | (with_reducible exact spec_l11DrawRegister.mono _ _ _ _ _)
   | (with_reducible exact spec_l11SpoilRegister.mono _ _ _ _ _ _)
   | (with_reducible exact spec_l1New.mono _ _)
   | (with_reducible exact LeO.refl _)
   | (with_reducible exact LeO.none _)
   | (with_reducible refine LeO.ite ?_ ?_)
   | (with_reducible refine LeO.bind ?_ (fun _ => ?_))
   | exact spec_l11DrawRegister.mono _ _ _ _ _
   | exact spec_l11SpoilRegister.mono _ _ _ _ _ _
   | exact spec_l1New.mono _ _
   | exact LeO.none _
   | refine LeO.ite ?_ ?_
   | refine LeO.bind ?_ (fun _ => ?_)
set_option maxHeartbeats 8000000 in
set_option maxRecDepth 100000 in
theorem spec_DrawRegisterOk.calls (k : Nat) (A0 : Option Addr) (c0 : Nat) (l0 : List Int) (r1 : List (S156)) (r2 : List (S76)) (w : World) (hr0 : Kd.C (Kd.int .u8) w A0 l0.length l0) (hc0 : l0.length ≤ c0) (h : spec_DrawRegisterOk.f k l0 = some (r1,r2)) :
  Calls Try.prog 37 #[.slice A0 l0.length c0] w fun e w' => ∃ v0_ v1_ : Value,e = .returned (.agg #[v0_,v1_]) ∧ Kd.R k156 156 w' w.heap.size (fun _ => True) v0_ r1 ∧ Kd.R k76 76 w' w.heap.size (fun _ => True) v1_ r2 ∧ Below w.heap.size w w' := by
 have hu71:=Try.underlying71;have HR0:=Aside0.mk hr0;have HC0:=Aside0.mk hc0;clear hr0 hc0;have HB:=Aside0.mk (Below.refl w.heap.size w);have H : ((spec_l1New.f k l0).bind fun bt268 => ((spec_l1Size.f l0 25).bind fun t272 => ((spec_l11DrawRegister.f k bt268.1 bt268.2.1 bt268.2.2 t272).bind fun bt273 => ((spec_l11SpoilRegister.f k bt268.1 bt273.2.2.1 bt273.2.2.2 bt273.1 bt273.2.1).bind fun bt281 => (some (bt281.1,bt281.2.1)))))) = some (r1,r2) := h;clear h;replace H:=Option.bind_eq_some_iff.mp H;obtain ⟨⟨t268,t269,t270⟩,A20,H⟩ := H;replace H : ((spec_l1Size.f l0 25).bind fun t272 => ((spec_l11DrawRegister.f k t268 t269 t270 t272).bind fun bt273 => ((spec_l11SpoilRegister.f k t268 bt273.2.2.1 bt273.2.2.2 bt273.1 bt273.2.1).bind fun bt281 => (some (bt281.1,bt281.2.1))))) = some (r1,r2) := H;have A2:=Aside0.mk A20;clear A20;replace H:=Option.bind_eq_some_iff.mp H;obtain ⟨t272,A30,H⟩ := H;replace H : ((spec_l11DrawRegister.f k t268 t269 t270 t272).bind fun bt273 => ((spec_l11SpoilRegister.f k t268 bt273.2.2.1 bt273.2.2.2 bt273.1 bt273.2.1).bind fun bt281 => (some (bt281.1,bt281.2.1)))) = some (r1,r2) := H;have A3:=Aside0.mk A30;clear A30;replace H:=Option.bind_eq_some_iff.mp H;obtain ⟨⟨t273,t276,t279,t280⟩,A40,H⟩ := H;replace H : ((spec_l11SpoilRegister.f k t268 t279 t280 t273 t276).bind fun bt281 => (some (bt281.1,bt281.2.1))) = some (r1,r2) := H;have A4:=Aside0.mk A40;clear A40;replace H:=Option.bind_eq_some_iff.mp H;obtain ⟨⟨t281,t284,t287,t288⟩,A50,H⟩ := H;replace H : (some (t281,t284)) = some (r1,r2) := H;have A5:=Aside0.mk A50;clear A50;simp only [Option.some.injEq,Prod.mk.injEq] at H;obtain ⟨rfl,rfl⟩ := H;go_enter Try.func37,Try.ntmps37
 go_wp2_with (first | ((with_reducible refine qy0 (N:=2) rfl ?_);refine qw0 ?hg (N:=2) ?hd (cs:=#[.slice none 0 0,.slice none 0 0]) (t:=71) ?hr ?_;(case hd => rfl);(case hg => rfl);(case hr => first | (go_simp;done) | (go_simp;rfl));intro gb267 hg w6 hbox hb;have n0_:=Aside0.mk (qg0 z9_2 hb);have n1_:=Aside0.mk (hbox);have n2_:=Aside0.mk ((z9_8 : w.heap.size ≤ gb267));have n3_:=Aside0.mk ((z9_8 : w.heap.size ≤ gb267));clear HB;have HB:=n0_;have BK267:=n1_;have GW267:=n2_;have GE267:=n3_;clear n0_ n1_ n2_ n3_;clear hb hbox hg) | ((with_reducible refine ql0 (f:=59) rfl ?_);refine qb1 (some 5) rfl rfl Try.func59 (by kernel_rfl) rfl #[.slice A0 l0.length c0] rfl z9_3 ?_;(with_reducible refine (spec_l1New.calls k _ _ l0 t268 t269 t270 w _ ?side1 ?side2 ?side3 A2.out).mono ?_);(case side1 => repeat (first | (with_reducible first | exact HB.out | apply qm0 | apply qh0 | apply qi0 | refine qj0 ?_ GE267.out) | exact HB.out));(case side2 => exact HR0.out);(case side3 => exact HC0.out);rintro e w7 ⟨g271,rfl,hi,hb,hb2⟩;refine ⟨_,rfl,?_⟩;have n0_:=Aside0.mk (qf0 (g:=gb267) (o := .cells #[.slice none 0 0,.slice none 0 0] 71 (0,0)) z9_5 hb2);have n1_:=Aside0.mk (hb);have n2_:=Aside0.mk (hi);have n3_:=Aside0.mk (IsS186.ne_blk hi (qf0 (g:=gb267) (o := .cells #[.slice none 0 0,.slice none 0 0] 71 (0,0)) z9_5 hb2) (by decide));have n4_:=Aside0.mk (Ne.symm (IsS186.ne_blk hi (qf0 (g:=gb267) (o := .cells #[.slice none 0 0,.slice none 0 0] 71 (0,0)) z9_5 hb2) (by decide)));clear BK267;clear HB;have BK267:=n0_;have HB:=n1_;have HI271:=n2_;have NB271_267:=n3_;have NB267_271:=n4_;clear n0_ n1_ n2_ n3_ n4_;(try clear hb);(try clear hb2);(try clear hk);(try clear hi)) | ((with_reducible refine ql0 (f:=62) rfl ?_);refine qb1 (some 9) rfl rfl Try.func62 (by kernel_rfl) rfl #[.slice A0 l0.length c0,.int .i64 25] rfl z9_3 ?_;(with_reducible refine (spec_l1Size.calls _ _ l0 25 t272 _ ?side1 ?side2 A3.out).mono ?_);(case side1 => repeat (first | exact (Kd.qx1 HR0.out HB.out) | (with_reducible refine Kd.qt1 ?_ _) | (with_reducible refine Kd.qs1 ?_ _) | (with_reducible refine Kd.qy1 ?_)));(case side2 => exact HC0.out);rintro e w' ⟨rfl,⟨nd,rfl⟩⟩;refine ⟨_,rfl,?_⟩;(try (rw [drewN_self w7];generalize hq_ : World.drewN w7 _ = w7;have n0_ : Aside0 (w7.heap[gb267]? = some (.cells #[.slice none 0 0,.slice none 0 0] 71 (0,0))) := ⟨by rw [← hq_];exact z9_5⟩;have n1_ : Aside0 (IsS186 w w7 g271 t268 t269 t270) := ⟨by rw [← hq_];exact z9_6⟩;have n2_ : Aside0 (Below w.heap.size w w7) := ⟨by rw [← hq_];exact z9_4⟩;clear BK267 HI271 HB hq_;have BK267:=n0_;have HI271:=n1_;have HB:=n2_;clear n0_ n1_ n2_))) | ((with_reducible refine ql0 (f:=107) rfl ?_);refine qb1 (some 10) rfl rfl Try.func107 (by kernel_rfl) rfl #[.pointer (some ⟨g271,0,none⟩),.int .i64 t272] rfl z9_3 ?_;(with_reducible refine (spec_l11DrawRegister.calls k g271 t268 t269 t270 t272 t273 t276 t279 t280 w _ ?side1 ?side2 A4.out).mono ?_);(case side1 => exact z9_6);(case side2 => exact z9_4);rintro e w8 ⟨v274,v277,rfl,ho0,ho1,hi,hb,hk⟩;refine ⟨_,rfl,?_⟩;have n0_:=Aside0.mk (qk0.blk hk (g' := gb267) (o := .cells #[.slice none 0 0,.slice none 0 0] 71 (0,0)) z9_5 NB267_271.out (by simp));have n1_:=Aside0.mk (Kd.R_lower ho0 (qn0 z9_4));have n2_:=Aside0.mk (Kd.R_lower ho1 (qn0 z9_4));have n3_:=Aside0.mk (hb);have n4_:=Aside0.mk (hi);clear BK267;clear HB;clear HI271;have BK267:=n0_;have HO275:=n1_;have HO278:=n2_;have HB:=n3_;have HI271:=n4_;clear n0_ n1_ n2_ n3_ n4_;(try clear hb);(try clear hb2);(try clear hk);(try clear hi);(try clear ho0);(try clear ho1);obtain ⟨Ao9,co9,eo9⟩ := Kd.qz0 HO275.out;subst eo9;obtain ⟨Ao10,co10,eo10⟩ := Kd.qz0 HO278.out;subst eo10) | ((with_reducible refine ql0 (f:=106) rfl ?_);refine qb1 (some 11) rfl rfl Try.func106 (by kernel_rfl) rfl #[.pointer (some ⟨g271,0,none⟩),.agg #[.slice Ao9 t273.length co9,.slice Ao10 t276.length co10]] rfl z9_3 ?_;(with_reducible refine (spec_l11SpoilRegister.calls k g271 t268 t279 t280 (fun k_ => some k_ = (.slice Ao9 t273.length co9 : Value).ownBlock) (.slice Ao9 t273.length co9) t273 (fun k_ => some k_ = (.slice Ao10 t276.length co10 : Value).ownBlock) (.slice Ao10 t276.length co10) t276 t281 t284 t287 t288 w _ ?side1 ?side2 ?side3 ?side4 A5.out).mono ?_);(case side1 => exact z9_6);(case side2 => exact z9_4);(case side3 => exact Kd.R_tight rfl HO275.out);(case side4 => exact Kd.R_tight rfl HO278.out);rintro e w11 ⟨v282,v285,rfl,ho0,ho1,hi,hb,hkp⟩;refine ⟨_,rfl,?_⟩;have n0_:=Aside0.mk (blk_kept z9_5 hkp (fun hs_ => Or.elim hs_ (fun hs_ => Or.elim hs_ (fun e_ => (fun e_ => (Kd.R_ne HO275.out BK267.out (by decide)) e_) e_) (fun e_ => (fun e_ => (Kd.R_ne HO278.out BK267.out (by decide)) e_) e_)) (fun e_ => NB267_271.out e_)));have n1_:=Aside0.mk (hi);have n2_:=Aside0.mk (Kd.qr0 (ok' := fun k_ => True) ho0 (fun k_ hk_ => trivial));have n3_:=Aside0.mk (Kd.qr0 (ok' := fun k_ => True) ho1 (fun k_ hk_ => trivial));have n4_:=Aside0.mk (hb);clear BK267;clear HI271;clear HB;clear HO275;clear HO278;have BK267:=n0_;have HI271:=n1_;have HO283:=n2_;have HO286:=n3_;have HB:=n4_;clear n0_ n1_ n2_ n3_ n4_;(try clear hb);(try clear hkp);(try clear ho0);(try clear ho1);obtain ⟨Ao12,co12,eo12⟩ := Kd.qz0 HO283.out;subst eo12;have hnb13:=NB267_271.out;have hnc13:=NB271_267.out;have hcz14_0 : w11.cell? ⟨gb267,0,none⟩ = some (.slice none 0 0) := (qa0 BK267.out 0).trans rfl;have hcz14_1 : w11.cell? ⟨gb267,1,none⟩ = some (.slice none 0 0) := (qa0 BK267.out 1).trans rfl;have hfz14_0:=qb0 BK267.out 0;have hfz14_1:=qb0 BK267.out 1;obtain ⟨Ao15,co15,eo15⟩ := Kd.qz0 HO286.out;subst eo15))
 refine bodyPost_ret (results_cell_row rfl _ _ gb267 71 #[.slice Ao12 t281.length co12,.slice Ao15 t284.length co15] (0,0) _ rfl (by (with_reducible repeat (first | refine qd0 ?_ _ | refine qe0 ?_ | refine qc0 ?_ _));refine qa1 (cs:=#[.slice Ao12 t281.length co12,.slice none 0 0]) ?_ 1 _ rfl;(with_reducible repeat (first | refine qd0 ?_ _ | refine qe0 ?_ | refine qc0 ?_ _));refine qa1 (cs:=#[.slice none 0 0,.slice none 0 0]) ?_ 0 _ rfl;(with_reducible repeat (first | refine qd0 ?_ _ | refine qe0 ?_ | refine qc0 ?_ _));exact BK267.out) Try.underlying71 rfl (by kernel_rfl)) rfl ?_;exact ⟨_,_,z9_7,by (with_reducible repeat (first | apply Kd.qq0 | apply Kd.qo0 | apply Kd.qs0));exact Kd.qr0 (Kd.R_far (p:=⟨gb267,1,none⟩) (Kd.R_far (p:=⟨gb267,0,none⟩) (Kd.qu0 HO283.out BK267.out (by decide)) (fun _ hk => hk.2) (.slice Ao12 t281.length co12)) (fun _ hk => hk.2) (.slice Ao15 t284.length co15)) (fun _ hk => trivial),by (with_reducible repeat (first | apply Kd.qq0 | apply Kd.qo0 | apply Kd.qs0));exact Kd.qr0 (Kd.R_far (p:=⟨gb267,1,none⟩) (Kd.R_far (p:=⟨gb267,0,none⟩) (Kd.qu0 HO286.out BK267.out (by decide)) (fun _ hk => hk.2) (.slice Ao12 t281.length co12)) (fun _ hk => hk.2) (.slice Ao15 t284.length co15)) (fun _ hk => trivial),z9_4⟩

/-! ### impl_nameByte: function 135 -/
def impl_nameByte.f (a0 : Int) : Option (Bool) := if a0 ≥ 97 then (if a0 ≤ 122 then (some true) else (if a0 ≥ 65 then (if a0 ≤ 90 then (some true) else (if a0 ≥ 48 then (if a0 ≤ 57 then (some true) else (if a0 = 45 then (some true) else (if a0 = 95 then (some true) else (some (a0 == 46))))) else (if a0 = 45 then (some true) else (if a0 = 95 then (some true) else (some (a0 == 46)))))) else (if a0 ≥ 48 then (if a0 ≤ 57 then (some true) else (if a0 = 45 then (some true) else (if a0 = 95 then (some true) else (some (a0 == 46))))) else (if a0 = 45 then (some true) else (if a0 = 95 then (some true) else (some (a0 == 46))))))) else (if a0 ≥ 65 then (if a0 ≤ 90 then (some true) else (if a0 ≥ 48 then (if a0 ≤ 57 then (some true) else (if a0 = 45 then (some true) else (if a0 = 95 then (some true) else (some (a0 == 46))))) else (if a0 = 45 then (some true) else (if a0 = 95 then (some true) else (some (a0 == 46)))))) else (if a0 ≥ 48 then (if a0 ≤ 57 then (some true) else (if a0 = 45 then (some true) else (if a0 = 95 then (some true) else (some (a0 == 46))))) else (if a0 = 45 then (some true) else (if a0 = 95 then (some true) else (some (a0 == 46))))))
set_option maxHeartbeats 8000000 in
set_option maxRecDepth 100000 in
theorem impl_nameByte.calls (a0 : Int) (r : Bool) (w : World) (h : impl_nameByte.f a0 = some r) :
  Calls Try.prog 135 #[.int .u8 a0] w fun e w' => e = .returned (.bool r) ∧ Drawn0 w w' := by
 have H : (if a0 ≥ 97 then (if a0 ≤ 122 then (some true) else (if a0 ≥ 65 then (if a0 ≤ 90 then (some true) else (if a0 ≥ 48 then (if a0 ≤ 57 then (some true) else (if a0 = 45 then (some true) else (if a0 = 95 then (some true) else (some (a0 == 46))))) else (if a0 = 45 then (some true) else (if a0 = 95 then (some true) else (some (a0 == 46)))))) else (if a0 ≥ 48 then (if a0 ≤ 57 then (some true) else (if a0 = 45 then (some true) else (if a0 = 95 then (some true) else (some (a0 == 46))))) else (if a0 = 45 then (some true) else (if a0 = 95 then (some true) else (some (a0 == 46))))))) else (if a0 ≥ 65 then (if a0 ≤ 90 then (some true) else (if a0 ≥ 48 then (if a0 ≤ 57 then (some true) else (if a0 = 45 then (some true) else (if a0 = 95 then (some true) else (some (a0 == 46))))) else (if a0 = 45 then (some true) else (if a0 = 95 then (some true) else (some (a0 == 46)))))) else (if a0 ≥ 48 then (if a0 ≤ 57 then (some true) else (if a0 = 45 then (some true) else (if a0 = 95 then (some true) else (some (a0 == 46))))) else (if a0 = 45 then (some true) else (if a0 = 95 then (some true) else (some (a0 == 46))))))) = some r:=h;clear h;by_cases c2 : a0 ≥ 97
 ·rw [if_pos c2] at H
  have c2b0 : decide (97 ≤ a0) = true:=decide_eq_true c2;clear c2;by_cases c3 : a0 ≤ 122
  ·rw [if_pos c3] at H
   have c3b0 : decide (a0 ≤ 122) = true:=decide_eq_true c3;clear c3;obtain rfl:=Option.some.inj H;go_enter Try.func135,Try.ntmps135;go_wp2;go_ret;exact ⟨z9_1,z9_0⟩
  rw [if_neg c3] at H;have c3b0 : decide (a0 ≤ 122) = false:=decide_eq_false c3;clear c3;by_cases c4 : a0 ≥ 65
  ·rw [if_pos c4] at H
   have c4b0 : decide (65 ≤ a0) = true:=decide_eq_true c4;clear c4;by_cases c5 : a0 ≤ 90
   ·rw [if_pos c5] at H
    have c5b0 : decide (a0 ≤ 90) = true:=decide_eq_true c5;clear c5;obtain rfl:=Option.some.inj H;go_enter Try.func135,Try.ntmps135;go_wp2;go_ret;exact ⟨z9_1,z9_0⟩
   rw [if_neg c5] at H;have c5b0 : decide (a0 ≤ 90) = false:=decide_eq_false c5;clear c5;by_cases c6 : a0 ≥ 48
   ·rw [if_pos c6] at H
    have c6b0 : decide (48 ≤ a0) = true:=decide_eq_true c6;clear c6;by_cases c7 : a0 ≤ 57
    ·rw [if_pos c7] at H
     have c7b0 : decide (a0 ≤ 57) = true:=decide_eq_true c7;clear c7;obtain rfl:=Option.some.inj H;go_enter Try.func135,Try.ntmps135;go_wp2;go_ret;exact ⟨z9_1,z9_0⟩
    rw [if_neg c7] at H;have c7b0 : decide (a0 ≤ 57) = false:=decide_eq_false c7;clear c7;by_cases c8 : a0 = 45
    ·rw [if_pos c8] at H
     have c8b0 : (a0 == 45) = true:=beq_iff_eq.mpr c8;have c8b1 : (a0 != 45) = false:=bne_eq_false_iff_eq.mpr c8;clear c8;obtain rfl:=Option.some.inj H;go_enter Try.func135,Try.ntmps135;go_wp2;go_ret;exact ⟨z9_1,z9_0⟩
    rw [if_neg c8] at H;have c8b0 : (a0 == 45) = false:=beq_eq_false_iff_ne.mpr c8;have c8b1 : (a0 != 45) = true:=bne_iff_ne.mpr c8;by_cases c9 : a0 = 95
    ·rw [if_pos c9] at H
     have c9b0 : (a0 == 95) = true:=beq_iff_eq.mpr c9;have c9b1 : (a0 != 95) = false:=bne_eq_false_iff_eq.mpr c9;clear c9;obtain rfl:=Option.some.inj H;go_enter Try.func135,Try.ntmps135;go_wp2;go_ret;exact ⟨z9_1,z9_0⟩
    rw [if_neg c9] at H;have c9b0 : (a0 == 95) = false:=beq_eq_false_iff_ne.mpr c9;have c9b1 : (a0 != 95) = true:=bne_iff_ne.mpr c9;obtain rfl:=Option.some.inj H;go_enter Try.func135,Try.ntmps135;go_wp2;go_ret;exact ⟨z9_1,z9_0⟩
   rw [if_neg c6] at H;have c6b0 : decide (48 ≤ a0) = false:=decide_eq_false c6;clear c6;by_cases c10 : a0 = 45
   ·rw [if_pos c10] at H
    have c10b0 : (a0 == 45) = true:=beq_iff_eq.mpr c10;have c10b1 : (a0 != 45) = false:=bne_eq_false_iff_eq.mpr c10;clear c10;obtain rfl:=Option.some.inj H;go_enter Try.func135,Try.ntmps135;go_wp2;go_ret;exact ⟨z9_1,z9_0⟩
   rw [if_neg c10] at H;have c10b0 : (a0 == 45) = false:=beq_eq_false_iff_ne.mpr c10;have c10b1 : (a0 != 45) = true:=bne_iff_ne.mpr c10;by_cases c11 : a0 = 95
   ·rw [if_pos c11] at H
    have c11b0 : (a0 == 95) = true:=beq_iff_eq.mpr c11;have c11b1 : (a0 != 95) = false:=bne_eq_false_iff_eq.mpr c11;clear c11;obtain rfl:=Option.some.inj H;go_enter Try.func135,Try.ntmps135;go_wp2;go_ret;exact ⟨z9_1,z9_0⟩
   rw [if_neg c11] at H;have c11b0 : (a0 == 95) = false:=beq_eq_false_iff_ne.mpr c11;have c11b1 : (a0 != 95) = true:=bne_iff_ne.mpr c11;obtain rfl:=Option.some.inj H;go_enter Try.func135,Try.ntmps135;go_wp2;go_ret;exact ⟨z9_1,z9_0⟩
  rw [if_neg c4] at H;have c4b0 : decide (65 ≤ a0) = false:=decide_eq_false c4;clear c4;by_cases c12 : a0 ≥ 48
  ·rw [if_pos c12] at H
   have c12b0 : decide (48 ≤ a0) = true:=decide_eq_true c12;clear c12;by_cases c13 : a0 ≤ 57
   ·rw [if_pos c13] at H
    have c13b0 : decide (a0 ≤ 57) = true:=decide_eq_true c13;clear c13;obtain rfl:=Option.some.inj H;go_enter Try.func135,Try.ntmps135;go_wp2;go_ret;exact ⟨z9_1,z9_0⟩
   rw [if_neg c13] at H;have c13b0 : decide (a0 ≤ 57) = false:=decide_eq_false c13;clear c13;by_cases c14 : a0 = 45
   ·rw [if_pos c14] at H
    have c14b0 : (a0 == 45) = true:=beq_iff_eq.mpr c14;have c14b1 : (a0 != 45) = false:=bne_eq_false_iff_eq.mpr c14;clear c14;obtain rfl:=Option.some.inj H;go_enter Try.func135,Try.ntmps135;go_wp2;go_ret;exact ⟨z9_1,z9_0⟩
   rw [if_neg c14] at H;have c14b0 : (a0 == 45) = false:=beq_eq_false_iff_ne.mpr c14;have c14b1 : (a0 != 45) = true:=bne_iff_ne.mpr c14;by_cases c15 : a0 = 95
   ·rw [if_pos c15] at H
    have c15b0 : (a0 == 95) = true:=beq_iff_eq.mpr c15;have c15b1 : (a0 != 95) = false:=bne_eq_false_iff_eq.mpr c15;clear c15;obtain rfl:=Option.some.inj H;go_enter Try.func135,Try.ntmps135;go_wp2;go_ret;exact ⟨z9_1,z9_0⟩
   rw [if_neg c15] at H;have c15b0 : (a0 == 95) = false:=beq_eq_false_iff_ne.mpr c15;have c15b1 : (a0 != 95) = true:=bne_iff_ne.mpr c15;obtain rfl:=Option.some.inj H;go_enter Try.func135,Try.ntmps135;go_wp2;go_ret;exact ⟨z9_1,z9_0⟩
  rw [if_neg c12] at H;have c12b0 : decide (48 ≤ a0) = false:=decide_eq_false c12;clear c12;by_cases c16 : a0 = 45
  ·rw [if_pos c16] at H
   have c16b0 : (a0 == 45) = true:=beq_iff_eq.mpr c16;have c16b1 : (a0 != 45) = false:=bne_eq_false_iff_eq.mpr c16;clear c16;obtain rfl:=Option.some.inj H;go_enter Try.func135,Try.ntmps135;go_wp2;go_ret;exact ⟨z9_1,z9_0⟩
  rw [if_neg c16] at H;have c16b0 : (a0 == 45) = false:=beq_eq_false_iff_ne.mpr c16;have c16b1 : (a0 != 45) = true:=bne_iff_ne.mpr c16;by_cases c17 : a0 = 95
  ·rw [if_pos c17] at H
   have c17b0 : (a0 == 95) = true:=beq_iff_eq.mpr c17;have c17b1 : (a0 != 95) = false:=bne_eq_false_iff_eq.mpr c17;clear c17;obtain rfl:=Option.some.inj H;go_enter Try.func135,Try.ntmps135;go_wp2;go_ret;exact ⟨z9_1,z9_0⟩
  rw [if_neg c17] at H;have c17b0 : (a0 == 95) = false:=beq_eq_false_iff_ne.mpr c17;have c17b1 : (a0 != 95) = true:=bne_iff_ne.mpr c17;obtain rfl:=Option.some.inj H;go_enter Try.func135,Try.ntmps135;go_wp2;go_ret;exact ⟨z9_1,z9_0⟩
 rw [if_neg c2] at H;have c2b0 : decide (97 ≤ a0) = false:=decide_eq_false c2;clear c2;by_cases c18 : a0 ≥ 65
 ·rw [if_pos c18] at H
  have c18b0 : decide (65 ≤ a0) = true:=decide_eq_true c18;clear c18;by_cases c19 : a0 ≤ 90
  ·rw [if_pos c19] at H
   have c19b0 : decide (a0 ≤ 90) = true:=decide_eq_true c19;clear c19;obtain rfl:=Option.some.inj H;go_enter Try.func135,Try.ntmps135;go_wp2;go_ret;exact ⟨z9_1,z9_0⟩
  rw [if_neg c19] at H;have c19b0 : decide (a0 ≤ 90) = false:=decide_eq_false c19;clear c19;by_cases c20 : a0 ≥ 48
  ·rw [if_pos c20] at H
   have c20b0 : decide (48 ≤ a0) = true:=decide_eq_true c20;clear c20;by_cases c21 : a0 ≤ 57
   ·rw [if_pos c21] at H
    have c21b0 : decide (a0 ≤ 57) = true:=decide_eq_true c21;clear c21;obtain rfl:=Option.some.inj H;go_enter Try.func135,Try.ntmps135;go_wp2;go_ret;exact ⟨z9_1,z9_0⟩
   rw [if_neg c21] at H;have c21b0 : decide (a0 ≤ 57) = false:=decide_eq_false c21;clear c21;by_cases c22 : a0 = 45
   ·rw [if_pos c22] at H
    have c22b0 : (a0 == 45) = true:=beq_iff_eq.mpr c22;have c22b1 : (a0 != 45) = false:=bne_eq_false_iff_eq.mpr c22;clear c22;obtain rfl:=Option.some.inj H;go_enter Try.func135,Try.ntmps135;go_wp2;go_ret;exact ⟨z9_1,z9_0⟩
   rw [if_neg c22] at H;have c22b0 : (a0 == 45) = false:=beq_eq_false_iff_ne.mpr c22;have c22b1 : (a0 != 45) = true:=bne_iff_ne.mpr c22;by_cases c23 : a0 = 95
   ·rw [if_pos c23] at H
    have c23b0 : (a0 == 95) = true:=beq_iff_eq.mpr c23;have c23b1 : (a0 != 95) = false:=bne_eq_false_iff_eq.mpr c23;clear c23;obtain rfl:=Option.some.inj H;go_enter Try.func135,Try.ntmps135;go_wp2;go_ret;exact ⟨z9_1,z9_0⟩
   rw [if_neg c23] at H;have c23b0 : (a0 == 95) = false:=beq_eq_false_iff_ne.mpr c23;have c23b1 : (a0 != 95) = true:=bne_iff_ne.mpr c23;obtain rfl:=Option.some.inj H;go_enter Try.func135,Try.ntmps135;go_wp2;go_ret;exact ⟨z9_1,z9_0⟩
  rw [if_neg c20] at H;have c20b0 : decide (48 ≤ a0) = false:=decide_eq_false c20;clear c20;by_cases c24 : a0 = 45
  ·rw [if_pos c24] at H
   have c24b0 : (a0 == 45) = true:=beq_iff_eq.mpr c24;have c24b1 : (a0 != 45) = false:=bne_eq_false_iff_eq.mpr c24;clear c24;obtain rfl:=Option.some.inj H;go_enter Try.func135,Try.ntmps135;go_wp2;go_ret;exact ⟨z9_1,z9_0⟩
  rw [if_neg c24] at H;have c24b0 : (a0 == 45) = false:=beq_eq_false_iff_ne.mpr c24;have c24b1 : (a0 != 45) = true:=bne_iff_ne.mpr c24;by_cases c25 : a0 = 95
  ·rw [if_pos c25] at H
   have c25b0 : (a0 == 95) = true:=beq_iff_eq.mpr c25;have c25b1 : (a0 != 95) = false:=bne_eq_false_iff_eq.mpr c25;clear c25;obtain rfl:=Option.some.inj H;go_enter Try.func135,Try.ntmps135;go_wp2;go_ret;exact ⟨z9_1,z9_0⟩
  rw [if_neg c25] at H;have c25b0 : (a0 == 95) = false:=beq_eq_false_iff_ne.mpr c25;have c25b1 : (a0 != 95) = true:=bne_iff_ne.mpr c25;obtain rfl:=Option.some.inj H;go_enter Try.func135,Try.ntmps135;go_wp2;go_ret;exact ⟨z9_1,z9_0⟩
 rw [if_neg c18] at H;have c18b0 : decide (65 ≤ a0) = false:=decide_eq_false c18;clear c18;by_cases c26 : a0 ≥ 48
 ·rw [if_pos c26] at H
  have c26b0 : decide (48 ≤ a0) = true:=decide_eq_true c26;clear c26;by_cases c27 : a0 ≤ 57
  ·rw [if_pos c27] at H
   have c27b0 : decide (a0 ≤ 57) = true:=decide_eq_true c27;clear c27;obtain rfl:=Option.some.inj H;go_enter Try.func135,Try.ntmps135;go_wp2;go_ret;exact ⟨z9_1,z9_0⟩
  rw [if_neg c27] at H;have c27b0 : decide (a0 ≤ 57) = false:=decide_eq_false c27;clear c27;by_cases c28 : a0 = 45
  ·rw [if_pos c28] at H
   have c28b0 : (a0 == 45) = true:=beq_iff_eq.mpr c28;have c28b1 : (a0 != 45) = false:=bne_eq_false_iff_eq.mpr c28;clear c28;obtain rfl:=Option.some.inj H;go_enter Try.func135,Try.ntmps135;go_wp2;go_ret;exact ⟨z9_1,z9_0⟩
  rw [if_neg c28] at H;have c28b0 : (a0 == 45) = false:=beq_eq_false_iff_ne.mpr c28;have c28b1 : (a0 != 45) = true:=bne_iff_ne.mpr c28;by_cases c29 : a0 = 95
  ·rw [if_pos c29] at H
   have c29b0 : (a0 == 95) = true:=beq_iff_eq.mpr c29;have c29b1 : (a0 != 95) = false:=bne_eq_false_iff_eq.mpr c29;clear c29;obtain rfl:=Option.some.inj H;go_enter Try.func135,Try.ntmps135;go_wp2;go_ret;exact ⟨z9_1,z9_0⟩
  rw [if_neg c29] at H;have c29b0 : (a0 == 95) = false:=beq_eq_false_iff_ne.mpr c29;have c29b1 : (a0 != 95) = true:=bne_iff_ne.mpr c29;obtain rfl:=Option.some.inj H;go_enter Try.func135,Try.ntmps135;go_wp2;go_ret;exact ⟨z9_1,z9_0⟩
 rw [if_neg c26] at H;have c26b0 : decide (48 ≤ a0) = false:=decide_eq_false c26;clear c26;by_cases c30 : a0 = 45
 ·rw [if_pos c30] at H
  have c30b0 : (a0 == 45) = true:=beq_iff_eq.mpr c30;have c30b1 : (a0 != 45) = false:=bne_eq_false_iff_eq.mpr c30;clear c30;obtain rfl:=Option.some.inj H;go_enter Try.func135,Try.ntmps135;go_wp2;go_ret;exact ⟨z9_1,z9_0⟩
 rw [if_neg c30] at H;have c30b0 : (a0 == 45) = false:=beq_eq_false_iff_ne.mpr c30;have c30b1 : (a0 != 45) = true:=bne_iff_ne.mpr c30;by_cases c31 : a0 = 95
 ·rw [if_pos c31] at H
  have c31b0 : (a0 == 95) = true:=beq_iff_eq.mpr c31;have c31b1 : (a0 != 95) = false:=bne_eq_false_iff_eq.mpr c31;clear c31;obtain rfl:=Option.some.inj H;go_enter Try.func135,Try.ntmps135;go_wp2;go_ret;exact ⟨z9_1,z9_0⟩
 rw [if_neg c31] at H;have c31b0 : (a0 == 95) = false:=beq_eq_false_iff_ne.mpr c31;have c31b1 : (a0 != 95) = true:=bne_iff_ne.mpr c31;obtain rfl:=Option.some.inj H;go_enter Try.func135,Try.ntmps135;go_wp2;go_ret;exact ⟨z9_1,z9_0⟩

/-! ### impl_NameOk: function 71 -/
mutual
def impl_NameOk.j0 : Nat → ByteArray → Bool → Option (Bool)
 | 0,_,_ => none
 | k + 1,x0,x11 => if x11 = true then (some false) else (impl_NameOk.l0 k x0 0)
def impl_NameOk.l0 : Nat → ByteArray → Int → Option (Bool)
 | 0,_,_ => none
 | k + 1,x0,x3 => if x3 < (x0.size : Int) then (if 0 ≤ x3 then ((impl_nameByte.f (bt x0 x3)).bind fun t289 => (if t289 = true then (impl_NameOk.l0 k x0 (wrap64 (x3 + 1))) else (some false))) else (none)) else (some true)
end
def impl_NameOk.f (k : Nat) (a0 : ByteArray) : Option (Bool) := if (a0.size : Int) < 1 then (impl_NameOk.j0 k a0 true) else (impl_NameOk.j0 k a0 (decide ((a0.size : Int) > 20)))
theorem impl_NameOk.mono_l : ∀ k,(∀ y0 y1,LeO (impl_NameOk.j0 k y0 y1) (impl_NameOk.j0 (k + 1) y0 y1)) ∧ (∀ y0 y1,LeO (impl_NameOk.l0 k y0 y1) (impl_NameOk.l0 (k + 1) y0 y1))
 | 0 => ⟨fun _ _ r h => by simp [impl_NameOk.j0] at h,fun _ _ r h => by simp [impl_NameOk.l0] at h⟩
 | k + 1 => by
  obtain ⟨ih0,ih1⟩ := impl_NameOk.mono_l k;refine ⟨?_,?_⟩
  ·intro y0 y1
   unfold impl_NameOk.j0
   repeat' first
   | (with_reducible exact ih0 _ _)
   | (with_reducible exact ih1 _ _)
   | (with_reducible exact LeO.refl _)
   | (with_reducible exact LeO.none _)
   | (with_reducible refine LeO.ite ?_ ?_)
   | (with_reducible refine LeO.bind ?_ (fun _ => ?_))
   | exact ih0 _ _
   | exact ih1 _ _
   | exact LeO.none _
   | refine LeO.ite ?_ ?_
   | refine LeO.bind ?_ (fun _ => ?_)
  ·intro y0 y1
   unfold impl_NameOk.l0
   repeat' first
   | (with_reducible exact ih0 _ _)
   | (with_reducible exact ih1 _ _)
   | (with_reducible exact LeO.refl _)
   | (with_reducible exact LeO.none _)
   | (with_reducible refine LeO.ite ?_ ?_)
   | (with_reducible refine LeO.bind ?_ (fun _ => ?_))
   | exact ih0 _ _
   | exact ih1 _ _
   | exact LeO.none _
   | refine LeO.ite ?_ ?_
   | refine LeO.bind ?_ (fun _ => ?_)
theorem impl_NameOk.mono : ∀ a0 k,LeO (impl_NameOk.f k a0) (impl_NameOk.f (k + 1) a0) := by
 intro a0 k;obtain ⟨ih0,ih1⟩ := impl_NameOk.mono_l k;unfold impl_NameOk.f
 repeat' first
   | (with_reducible exact ih0 _ _)
   | (with_reducible exact ih1 _ _)
   | (with_reducible exact LeO.refl _)
   | (with_reducible exact LeO.none _)
   | (with_reducible refine LeO.ite ?_ ?_)
   | (with_reducible refine LeO.bind ?_ (fun _ => ?_))
   | exact ih0 _ _
   | exact ih1 _ _
   | exact LeO.none _
   | refine LeO.ite ?_ ?_
   | refine LeO.bind ?_ (fun _ => ?_)
set_option maxHeartbeats 8000000 in
set_option maxRecDepth 100000 in
theorem impl_NameOk.calls (k : Nat) (a0 : ByteArray) (r : Bool) (w : World) (h : impl_NameOk.f k a0 = some r) :
  Calls Try.prog 71 #[.string a0] w fun e w' => e = .returned (.bool r) ∧ Drawn0 w w' := by
 have H : (if (a0.size : Int) < 1 then (impl_NameOk.j0 k a0 true) else (impl_NameOk.j0 k a0 (decide ((a0.size : Int) > 20)))) = some r:=h;clear h;have HC2:=Aside0.mk H;clear H;go_enter Try.func71,Try.ntmps71;(go_upto_region 1 with (fail));go_cut [11] (fun v11 wc => ∃ (kq : Nat) (x11_1 : Bool),v11 = .bool x11_1 ∧ Aside0 (impl_NameOk.j0 kq a0 x11_1 = some r) ∧ Aside0 (kq ≤ k) ∧ Drawn0 w wc)
 case first =>
  have H:=HC2.out;clear HC2;by_cases c3 : (a0.size : Int) < 1
  ·rw [if_pos c3] at H
   have c3b0 : decide ((a0.size : Int) < 1) = true:=decide_eq_true c3;have c3b1 : decide (a0.size < 1) = true:=decide_eq_true (by omega);clear c3;(first | rw [c3b0] | (simp only [i64_w,i32_w];rw [c3b0]) | skip);have H' := Aside0.mk H;clear H;go_wp2;go_meet
   case rel => exact ⟨_,(true),z9_1,H',⟨by first | omega | exact Nat.le_refl _⟩,z9_0⟩
  rw [if_neg c3] at H;have c3b0 : decide ((a0.size : Int) < 1) = false:=decide_eq_false c3;have c3b1 : decide (a0.size < 1) = false:=decide_eq_false (by omega);clear c3;(first | rw [c3b0] | (simp only [i64_w,i32_w];rw [c3b0]) | skip);have H' := Aside0.mk H;clear H;go_wp2;go_meet
  case rel => exact ⟨_,(decide ((a0.size : Int) > 20)),z9_1,H',⟨by first | omega | exact Nat.le_refl _⟩,z9_0⟩
 case rest =>
  clear HC2;(try clear p2);(try clear c3);(try clear c3b0);(try clear c3b1);obtain ⟨kq,x11_1,rfl,HA,HJ1,⟨mc1,rfl⟩⟩ := hcut
  cases kq with
  | zero => exact absurd HA.out (by simp [impl_NameOk.j0])
  | succ kj1 =>
   have H:=HA.out;clear HA;simp only [impl_NameOk.j0] at H;by_cases c4 : x11_1 = true
   ·subst c4
    (have H1 : (some false) = some r:=by rw [if_pos rfl] at H;exact H);clear H;have H:=H1;clear H1;obtain rfl:=Option.some.inj H;go_wp2;go_ret;exact ⟨z9_1,z9_0⟩
   replace c4:=Bool.eq_false_iff.mpr c4;subst c4;(have H1 : (impl_NameOk.l0 kj1 a0 0) = some r:=by rw [if_neg (show ¬ (false = true) by decide)] at H;exact H);clear H;have H:=H1;clear H1;have H' := Aside0.mk H;clear H;go_wp2;go_loopg [3] kj1 (fun kq v3 w' => ∃ (x3_2 : Int),v3 = .int .i64 x3_2 ∧ Aside0 (impl_NameOk.l0 kq a0 x3_2 = some r) ∧ Aside0 (kq ≤ kj1) ∧ Drawn0 w w')
   case atStart => exact ⟨(0),z9_1,H',⟨Nat.le_refl _⟩,z9_0⟩
   case round =>
    clear H';(try clear c1);(try clear p2);(try clear c3);(try clear c3b0);(try clear c3b1);(try clear c4);(try clear p2);obtain ⟨x3_2,rfl,HA,HK2,⟨m2,rfl⟩⟩ := hrel
    cases gk with
    | zero => exact absurd HA.out (by simp [impl_NameOk.l0])
    | succ k2 =>
     have H:=HA.out;clear HA;simp only [impl_NameOk.l0] at H;by_cases c5 : x3_2 < (a0.size : Int)
     ·rw [if_pos c5] at H
      have c5b0 : decide (x3_2 < (a0.size : Int)) = true:=decide_eq_true c5;clear c5;by_cases c6 : 0 ≤ x3_2
      case neg => rw [if_neg c6] at H;exact absurd H (by simp)
      rw [if_pos c6] at H;have c6b0 : decide (0 ≤ x3_2) = true:=decide_eq_true c6;clear c6;replace H:=Option.bind_eq_some_iff.mp H;obtain ⟨t289,A80,H⟩ := H;replace H : (if t289 = true then (impl_NameOk.l0 k2 a0 (wrap64 (x3_2 + 1))) else (some false)) = some r:=H;have A8:=Aside0.mk A80;clear A80;by_cases c9 : t289 = true
      ·subst c9
       (have H1 : (impl_NameOk.l0 k2 a0 (wrap64 (x3_2 + 1))) = some r:=by rw [if_pos rfl] at H;exact H);clear H;have H:=H1;clear H1;have H' := Aside0.mk H;clear H;have p7 : 0 ≤ (x3_2 : Int) := of_decide_eq_true z9_9;have q7 : x3_2 < (a0.size : Int) := of_decide_eq_true z9_9;have hx7:=bt_at a0 x3_2;replace p7:=eq_true p7;replace q7:=eq_true q7;(go_wp2_with (first | ((with_reducible refine ql0 (f:=135) rfl ?_);refine qb1 (some 21) rfl rfl Try.func135 (by kernel_rfl) rfl #[.int .u8 (bt a0 x3_2)] rfl z9_3 ?_;(with_reducible refine (impl_nameByte.calls (bt a0 x3_2) true _ A8.out).mono ?_);rintro e w' ⟨rfl,⟨nd,rfl⟩⟩;refine ⟨_,rfl,?_⟩)));go_roundg k2
       case measure => have:=HJ1.out;have:=HK2.out;omega
       case rel => exact ⟨(wrap64 (x3_2 + 1)),z9_1,H',⟨by have:=HJ1.out;have:=HK2.out;omega⟩,z9_0⟩
      replace c9:=Bool.eq_false_iff.mpr c9;subst c9;(have H1 : (some false) = some r:=by rw [if_neg (show ¬ (false = true) by decide)] at H;exact H);clear H;have H:=H1;clear H1;obtain rfl:=Option.some.inj H;have p7 : 0 ≤ (x3_2 : Int) := of_decide_eq_true z9_9;have q7 : x3_2 < (a0.size : Int) := of_decide_eq_true z9_9;have hx7:=bt_at a0 x3_2;replace p7:=eq_true p7;replace q7:=eq_true q7;(go_wp2_with (first | ((with_reducible refine ql0 (f:=135) rfl ?_);refine qb1 (some 21) rfl rfl Try.func135 (by kernel_rfl) rfl #[.int .u8 (bt a0 x3_2)] rfl z9_3 ?_;(with_reducible refine (impl_nameByte.calls (bt a0 x3_2) false _ A8.out).mono ?_);rintro e w' ⟨rfl,⟨nd,rfl⟩⟩;refine ⟨_,rfl,?_⟩)));go_ret;exact ⟨z9_1,z9_0⟩
     rw [if_neg c5] at H;have c5b0 : decide (x3_2 < (a0.size : Int)) = false:=decide_eq_false c5;clear c5;obtain rfl:=Option.some.inj H;go_wp2;go_ret;exact ⟨z9_1,z9_0⟩

/-! ### impl_between: function 100 -/
def impl_between.f (a0 : Int) (a1 : Int) (a2 : Int) : Option (Bool) := if a0 ≥ a1 then (some (decide (a0 ≤ a2))) else (some false)
set_option maxHeartbeats 8000000 in
set_option maxRecDepth 100000 in
theorem impl_between.calls (a0 : Int) (a1 : Int) (a2 : Int) (r : Bool) (w : World) (h : impl_between.f a0 a1 a2 = some r) :
  Calls Try.prog 100 #[.int .i64 a0,.int .i64 a1,.int .i64 a2] w fun e w' => e = .returned (.bool r) ∧ Drawn0 w w' := by
 have H : (if a0 ≥ a1 then (some (decide (a0 ≤ a2))) else (some false)) = some r:=h;clear h;by_cases c4 : a0 ≥ a1
 ·rw [if_pos c4] at H
  have c4b0 : decide (a1 ≤ a0) = true:=decide_eq_true c4;clear c4;obtain rfl:=Option.some.inj H;go_enter Try.func100,Try.ntmps100;go_wp2;go_ret;exact ⟨z9_1,z9_0⟩
 rw [if_neg c4] at H;have c4b0 : decide (a1 ≤ a0) = false:=decide_eq_false c4;clear c4;obtain rfl:=Option.some.inj H;go_enter Try.func100,Try.ntmps100;go_wp2;go_ret;exact ⟨z9_1,z9_0⟩

/-! ### impl_isDay: function 98 -/
def impl_isDay.f (a0 : Int) : Option (Bool) := (impl_between.f a0 0 40000).bind fun t290 => (some t290)
set_option maxHeartbeats 8000000 in
set_option maxRecDepth 100000 in
theorem impl_isDay.calls (a0 : Int) (r : Bool) (w : World) (h : impl_isDay.f a0 = some r) :
  Calls Try.prog 98 #[.int .i64 a0] w fun e w' => e = .returned (.bool r) ∧ Drawn0 w w' := by
 have H : ((impl_between.f a0 0 40000).bind fun t290 => (some t290)) = some r:=h;clear h;replace H:=Option.bind_eq_some_iff.mp H;obtain ⟨t290,A20,H⟩ := H;replace H : (some t290) = some r:=H;have A2:=Aside0.mk A20;clear A20;obtain rfl:=Option.some.inj H;go_enter Try.func98,Try.ntmps98;(go_wp2_with (first | ((with_reducible refine ql0 (f:=100) rfl ?_);refine qb1 (some 4) rfl rfl Try.func100 (by kernel_rfl) rfl #[.int .i64 a0,.int .i64 0,.int .i64 40000] rfl z9_3 ?_;(with_reducible refine (impl_between.calls a0 0 40000 t290 _ A2.out).mono ?_);rintro e w' ⟨rfl,⟨nd,rfl⟩⟩;refine ⟨_,rfl,?_⟩)));go_ret;exact ⟨z9_1,z9_0⟩

/-! ### impl_decimal: function 102 -/
mutual
def impl_decimal.l0 : Nat → Int → ByteArray → Option (ByteArray)
 | 0,_,_ => none
 | k + 1,x0,x3 => if x0 > 0 then ((some (([(wrap64 (48 + (Int.tmod x0 10))) % 256] : List Int) : List Int)).bind fun y295 => (if (strOfNums y295).size + x3.size ≤ 9223372036854775807 then (impl_decimal.l0 k (wrap64 (Int.tdiv x0 10)) ((strOfNums y295) ++ x3)) else (none))) else (some x3)
def impl_decimal.f : Nat → Int → Option (ByteArray)
 | 0,_ => none
 | k + 1,a0 => if a0 < 0 then ((impl_decimal.f k (wrap64 (-a0))).bind fun t291 => (if 1 + t291.size ≤ 9223372036854775807 then (some ((⟨#[45]⟩ : ByteArray) ++ t291)) else (none))) else (impl_decimal.l0 k (wrap64 (Int.tdiv a0 10)) (strOfNums (([(wrap64 (48 + (Int.tmod a0 10))) % 256] : List Int))))
end
theorem impl_decimal.mono_l : ∀ k,(∀ y0,LeO (impl_decimal.f k y0) (impl_decimal.f (k + 1) y0)) ∧ (∀ y0 y1,LeO (impl_decimal.l0 k y0 y1) (impl_decimal.l0 (k + 1) y0 y1))
 | 0 => ⟨fun _ r h => by simp [impl_decimal.f] at h,fun _ _ r h => by simp [impl_decimal.l0] at h⟩
 | k + 1 => by
  obtain ⟨ih0,ih1⟩ := impl_decimal.mono_l k;refine ⟨?_,?_⟩
  ·intro y0
   unfold impl_decimal.f
   repeat' first
   | (with_reducible exact ih0 _)
   | (with_reducible exact ih1 _ _)
   | (with_reducible exact LeO.refl _)
   | (with_reducible exact LeO.none _)
   | (with_reducible refine LeO.ite ?_ ?_)
   | (with_reducible refine LeO.bind ?_ (fun _ => ?_))
   | exact ih0 _
   | exact ih1 _ _
   | exact LeO.none _
   | refine LeO.ite ?_ ?_
   | refine LeO.bind ?_ (fun _ => ?_)
  ·intro y0 y1
   unfold impl_decimal.l0
   repeat' first
   | (with_reducible exact ih0 _)
   | (with_reducible exact ih1 _ _)
   | (with_reducible exact LeO.refl _)
   | (with_reducible exact LeO.none _)
   | (with_reducible refine LeO.ite ?_ ?_)
   | (with_reducible refine LeO.bind ?_ (fun _ => ?_))
   | exact ih0 _
   | exact ih1 _ _
   | exact LeO.none _
   | refine LeO.ite ?_ ?_
   | refine LeO.bind ?_ (fun _ => ?_)
theorem impl_decimal.mono : ∀ a0 k,LeO (impl_decimal.f k a0) (impl_decimal.f (k + 1) a0) := by
 intro a0 k;obtain ⟨ih0,ih1⟩ := impl_decimal.mono_l k;exact ih0 a0
set_option maxHeartbeats 8000000 in
set_option maxRecDepth 100000 in
theorem impl_decimal.calls (k : Nat) : ∀ (a0 : Int) (r : ByteArray) (w : World) (h : impl_decimal.f k a0 = some r),
  Calls Try.prog 102 #[.int .i64 a0] w fun e w' => e = .returned (.string r) ∧ Below w.heap.size w w' := by
 induction k using Nat.strongRecOn with
 | _ k ih =>
 intro a0 r w h
 cases k with
 | zero => exact absurd h (by simp [impl_decimal.f])
 | succ k =>
 simp only [impl_decimal.f] at h;have HB:=Aside0.mk (Below.refl w.heap.size w);have H : (if a0 < 0 then ((impl_decimal.f k (wrap64 (-a0))).bind fun t291 => (if 1 + t291.size ≤ 9223372036854775807 then (some ((⟨#[45]⟩ : ByteArray) ++ t291)) else (none))) else (impl_decimal.l0 k (wrap64 (Int.tdiv a0 10)) (strOfNums (([(wrap64 (48 + (Int.tmod a0 10))) % 256] : List Int))))) = some r:=h;clear h;by_cases c2 : a0 < 0
 ·rw [if_pos c2] at H
  have c2b0 : decide (a0 < 0) = true:=decide_eq_true c2;clear c2;replace H:=Option.bind_eq_some_iff.mp H;obtain ⟨t291,A30,H⟩ := H;replace H : (if 1 + t291.size ≤ 9223372036854775807 then (some ((⟨#[45]⟩ : ByteArray) ++ t291)) else (none)) = some r:=H;have A3:=Aside0.mk A30;clear A30;by_cases c4 : 1 + t291.size ≤ 9223372036854775807
  case neg => rw [if_neg c4] at H;exact absurd H (by simp)
  rw [if_pos c4] at H;have c4b0:=eq_true c4;have c4b1 : decide (1 + t291.size ≤ 9223372036854775807) = true:=decide_eq_true c4;(try have c4b2 : (9223372036854775807 < 1 + t291.size) = False:=eq_false (Nat.not_lt.2 c4));obtain rfl:=Option.some.inj H;go_enter Try.func102,Try.ntmps102;(go_wp2_with (first | ((with_reducible refine ql0 (f:=102) rfl ?_);refine qb1 (some 8) rfl rfl Try.func102 (by kernel_rfl) rfl #[.int .i64 (wrap64 (-a0))] rfl z9_3 ?_;(with_reducible refine (ih k (by omega) (wrap64 (-a0)) t291 _ A3.out).mono ?_);rintro e w5 ⟨rfl,hb⟩;refine ⟨_,rfl,?_⟩;have n0_:=Aside0.mk (qg0 z9_2 hb);clear HB;have HB:=n0_;clear n0_;(try clear hb);(try clear hb2);(try clear hk);(try clear hi))));go_ret;exact ⟨z9_7,z9_2⟩
 rw [if_neg c2] at H;have c2b0 : decide (a0 < 0) = false:=decide_eq_false c2;clear c2;(obtain ⟨y292,hy292⟩ : ∃ y_ : List Int,y_ = (([(wrap64 (48 + (Int.tmod a0 10))) % 256] : List Int)) := ⟨_,rfl⟩);(replace H : (impl_decimal.l0 k (wrap64 (Int.tdiv a0 10)) (strOfNums y292)) = some r:=by first | (rw [hy292];with_reducible exact H) | (have H2_:=(Option.bind_some _ _).symm.trans H;rw [hy292];with_reducible exact H2_) | (have H2_:=(Option.bind_some _ _).symm.trans H;with_reducible exact H2_) | with_reducible exact H | (rw [hy292];exact H) | exact H);have Ny292:=Aside0.mk hy292;clear hy292;have H' := Aside0.mk H;clear H;go_enter Try.func102,Try.ntmps102;(go_wp2_with (first | ((with_reducible refine qy0 (N:=14) rfl ?_);refine Kd.R_lit (Kd.int .u8) _ 5 ?hg (N:=14) ?hd (xs:=([(wrap64 (48 + (Int.tmod a0 10))) % 256] : List Int)) (inner := [.int .u8 ((wrap64 (48 + (Int.tmod a0 10))) % 256)]) (ok:=fun _ => True) (okp:=fun _ => True) ?hr ?hp (fun _ hk => hk) trivial (Below.refl _ _) (Nat.le_refl _) (by simp) ?_;(case hd => rfl);(case hg => rfl);(case hr => first | (go_simp;done) | (go_simp;rfl));(case hp => exact (Reps.one (show Kd.M (Kd.int .u8) _ _ _ ((wrap64 (48 + (Int.tmod a0 10))) % 256) [.int .u8 ((wrap64 (48 + (Int.tmod a0 10))) % 256)] from rfl) (Reps.none _ _)));intro v293 w6 ho7 hb hg_ hnew_;clear hg_ hnew_;(first | rw [← Ny292.out] at ho7 | (simp only [Int.reduceToNat] at ho7;rw [← Ny292.out] at ho7));have n0_:=Aside0.mk (Kd.R_lower ho7 (qn0 z9_2));have n1_:=Aside0.mk (qg0 z9_2 hb);clear HB;have HO294:=n0_;have HB:=n1_;clear n0_ n1_;clear hb ho7;have hcv8:=own_string (P:=Try.prog) Try.underlying22 Try.underlying5 Try.underlying9 (Kd.own_of_R HO294.out))));go_loopg [0,3] k (fun kq v0 v3 w' => ∃ (x0_1 : Int) (x3_1 : ByteArray),v0 = .int .i64 x0_1 ∧ v3 = .string x3_1 ∧ Aside0 (impl_decimal.l0 kq x0_1 x3_1 = some r) ∧ Aside0 (kq ≤ k) ∧ Aside0 (Below w.heap.size w w'))
 case atStart => exact ⟨(wrap64 (Int.tdiv a0 10)),(strOfNums y292),z9_1,z9_1,H',⟨Nat.le_refl _⟩,⟨z9_2⟩⟩
 case round =>
  clear H';(try clear c1);(try clear c2);(try clear c2b0);(try clear p2);(try clear c4);(try clear c4b0);(try clear c4b1);(try clear c4b2);(try clear p6);(try clear hcv8);obtain ⟨x0_1,x3_1,rfl,rfl,HA,HK1,HB⟩ := hrel
  cases gk with
  | zero => exact absurd HA.out (by simp [impl_decimal.l0])
  | succ k1 =>
   have H:=HA.out;clear HA;simp only [impl_decimal.l0] at H;by_cases c9 : x0_1 > 0
   ·rw [if_pos c9] at H
    have c9b0 : decide (0 < x0_1) = true:=decide_eq_true c9;clear c9;(obtain ⟨y295,hy295⟩ : ∃ y_ : List Int,y_ = (([(wrap64 (48 + (Int.tmod x0_1 10))) % 256] : List Int)) := ⟨_,rfl⟩);(replace H : (if (strOfNums y295).size + x3_1.size ≤ 9223372036854775807 then (impl_decimal.l0 k1 (wrap64 (Int.tdiv x0_1 10)) ((strOfNums y295) ++ x3_1)) else (none)) = some r:=by first | (rw [hy295];with_reducible exact H) | (have H2_:=(Option.bind_some _ _).symm.trans H;rw [hy295];with_reducible exact H2_) | (have H2_:=(Option.bind_some _ _).symm.trans H;with_reducible exact H2_) | with_reducible exact H | (rw [hy295];exact H) | exact H);have Ny295:=Aside0.mk hy295;clear hy295;by_cases c10 : (strOfNums y295).size + x3_1.size ≤ 9223372036854775807
    case neg => rw [if_neg c10] at H;exact absurd H (by simp)
    rw [if_pos c10] at H;have c10b0:=eq_true c10;have c10b1 : decide ((strOfNums y295).size + x3_1.size ≤ 9223372036854775807) = true:=decide_eq_true c10;(try have c10b2 : (9223372036854775807 < (strOfNums y295).size + x3_1.size) = False:=eq_false (Nat.not_lt.2 c10));have H' := Aside0.mk H;clear H;(go_wp2_with (first | ((with_reducible refine qy0 (N:=26) rfl ?_);refine Kd.R_lit (Kd.int .u8) _ 5 ?hg (N:=26) ?hd (xs:=([(wrap64 (48 + (Int.tmod x0_1 10))) % 256] : List Int)) (inner := [.int .u8 ((wrap64 (48 + (Int.tmod x0_1 10))) % 256)]) (ok:=fun _ => True) (okp:=fun _ => True) ?hr ?hp (fun _ hk => hk) trivial (Below.refl _ _) (Nat.le_refl _) (by simp) ?_;(case hd => rfl);(case hg => rfl);(case hr => first | (go_simp;done) | (go_simp;rfl));(case hp => exact (Reps.one (show Kd.M (Kd.int .u8) _ _ _ ((wrap64 (48 + (Int.tmod x0_1 10))) % 256) [.int .u8 ((wrap64 (48 + (Int.tmod x0_1 10))) % 256)] from rfl) (Reps.none _ _)));intro v296 w11 ho12 hb hg_ hnew_;clear hg_ hnew_;(first | rw [← Ny295.out] at ho12 | (simp only [Int.reduceToNat] at ho12;rw [← Ny295.out] at ho12));have n0_:=Aside0.mk (Kd.R_lower ho12 (qn0 z9_2));have n1_:=Aside0.mk (qg0 z9_2 hb);clear HB;have HO297:=n0_;have HB:=n1_;clear n0_ n1_;clear hb ho12;have hcv13:=own_string (P:=Try.prog) Try.underlying22 Try.underlying5 Try.underlying9 (Kd.own_of_R HO297.out))));go_roundg k1
    case measure => have:=HK1.out;omega
    case rel => exact ⟨(wrap64 (Int.tdiv x0_1 10)),((strOfNums y295) ++ x3_1),z9_1,z9_1,H',⟨by have:=HK1.out;omega⟩,⟨z9_2⟩⟩
   rw [if_neg c9] at H;have c9b0 : decide (0 < x0_1) = false:=decide_eq_false c9;clear c9;obtain rfl:=Option.some.inj H;go_wp2;go_ret;exact ⟨z9_7,z9_2⟩

/-! ### impl_digitsIn: function 108 -/
def impl_digitsIn.f (k : Nat) (a0 : Int) : Option (Int) := (impl_decimal.f k a0).bind fun t298 => (some (t298.size : Int))
theorem impl_digitsIn.mono : ∀ a0 k,LeO (impl_digitsIn.f k a0) (impl_digitsIn.f (k + 1) a0) := by
 intro a0 k;unfold impl_digitsIn.f
 repeat' first
   | (with_reducible exact impl_decimal.mono _ _)
   | (with_reducible exact LeO.refl _)
   | (with_reducible exact LeO.none _)
   | (with_reducible refine LeO.ite ?_ ?_)
   | (with_reducible refine LeO.bind ?_ (fun _ => ?_))
   | exact impl_decimal.mono _ _
   | exact LeO.none _
   | refine LeO.ite ?_ ?_
   | refine LeO.bind ?_ (fun _ => ?_)
set_option maxHeartbeats 8000000 in
set_option maxRecDepth 100000 in
theorem impl_digitsIn.calls (k : Nat) (a0 : Int) (r : Int) (w : World) (h : impl_digitsIn.f k a0 = some r) :
  Calls Try.prog 108 #[.int .i64 a0] w fun e w' => e = .returned (.int .i64 r) ∧ Below w.heap.size w w' := by
 have HB:=Aside0.mk (Below.refl w.heap.size w);have H : ((impl_decimal.f k a0).bind fun t298 => (some (t298.size : Int))) = some r:=h;clear h;replace H:=Option.bind_eq_some_iff.mp H;obtain ⟨t298,A20,H⟩ := H;replace H : (some (t298.size : Int)) = some r:=H;have A2:=Aside0.mk A20;clear A20;obtain rfl:=Option.some.inj H;go_enter Try.func108,Try.ntmps108;(go_wp2_with (first | ((with_reducible refine ql0 (f:=102) rfl ?_);refine qb1 (some 4) rfl rfl Try.func102 (by kernel_rfl) rfl #[.int .i64 a0] rfl z9_3 ?_;(with_reducible refine (impl_decimal.calls k a0 t298 _ A2.out).mono ?_);rintro e w3 ⟨rfl,hb⟩;refine ⟨_,rfl,?_⟩;have n0_:=Aside0.mk (qg0 z9_2 hb);clear HB;have HB:=n0_;clear n0_;(try clear hb);(try clear hb2);(try clear hk);(try clear hi))));go_ret;exact ⟨z9_7,z9_2⟩

end Go.Proofs.Ytkkdmmefnicmaaa.PFnNoGap
