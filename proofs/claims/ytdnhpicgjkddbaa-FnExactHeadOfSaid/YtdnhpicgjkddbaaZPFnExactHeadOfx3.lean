/- Lines by a program (a changed copy of the kit's print: this repo's wip/tools): Go functions as Lean functions, and proofs that the calls answer so. -/
import Derived.Test.YtdnhpicgjkddbaaZPFnExactHeadOfx0
import Derived.Test.YtdnhpicgjkddbaaZPFnExactHeadOfx2
namespace Go.Proofs.Ytdnhpicgjkddbaa.PFnExactHeadOf
open Go.RowKit Go.Proofs.YtdnhpicgjkddbaaW.PrintWords Go.Proofs.YtdnhpicgjkddbaaW.PrintLast Go.Proofs.YtdnhpicgjkddbaaW.PrintMore
attribute [local go_sem] max2_int min2_int max_two min_two max_three min_three max_four min_four   -- for this text's walks alone
set_option linter.unusedVariables false
set_option linter.unusedSimpArgs false

/-! ### impl_numbersOf: function 129 -/
mutual
def impl_numbersOf.l0 : Nat → Int → Int → Bool → Int → Int → ByteArray → List (S98) → Option (Int × Bool)
 | 0, _, _, _, _, _, _, _ => none
 | k + 1, x4, x2000, x2001, x164000, x164001, x164002, x164003 => if x4 < (x164002.size : Int) then (if 0 ≤ x4 then ((impl_chain_link.f x2000 x2001 (wrap64 (bt x164002 x4))).bind fun bt170 => (impl_numbersOf.l0 k (wrap64 (x4 + 1)) bt170.1 bt170.2 x164000 x164001 x164002 x164003)) else (none)) else ((impl_chain_link.f x2000 x2001 (x164003.length : Int)).bind fun bt172 => (impl_numbersOf.l1 k x164003 (x164003.length : Int) 0 bt172.1 bt172.2))
def impl_numbersOf.l1 : Nat → List (S98) → Int → Int → Int → Bool → Option (Int × Bool)
 | 0, _, _, _, _, _ => none
 | k + 1, x40, x41, x42, x2000, x2001 => if x42 < x41 then (if 0 ≤ x42 then (if x42 < (x40.length : Int) then ((impl_chain_link.f x2000 x2001 ((rd_T98 x40 x42).f0)).bind fun bt176 => ((impl_chain_link.f bt176.1 bt176.2 ((rd_T98 x40 x42).f1)).bind fun bt178 => ((impl_chain_link.f bt178.1 bt178.2 ((rd_T98 x40 x42).f2)).bind fun bt180 => ((impl_chain_link.f bt180.1 bt180.2 ((rd_T98 x40 x42).f3)).bind fun bt182 => ((impl_chain_link.f bt182.1 bt182.2 ((rd_T98 x40 x42).f4)).bind fun bt184 => (impl_numbersOf.l1 k x40 x41 (wrap64 (x42 + 1)) bt184.1 bt184.2)))))) else (none)) else (none)) else (some (x2000, x2001))
end
def impl_numbersOf.f (k : Nat) (a0_0 : Int) (a0_1 : Int) (a0_2 : ByteArray) (l0_3 : List (S98)) (s1_0 : Int) (s1_1 : Bool) : Option (Int × Bool) := (impl_chain_link.f s1_0 s1_1 a0_0).bind fun bt164 => ((impl_chain_link.f bt164.1 bt164.2 a0_1).bind fun bt166 => ((impl_chain_link.f bt166.1 bt166.2 (a0_2.size : Int)).bind fun bt168 => (impl_numbersOf.l0 k 0 bt168.1 bt168.2 a0_0 a0_1 a0_2 l0_3)))
theorem impl_numbersOf.mono_l : ∀ k, (∀ y0 y1 y2 y3 y4 y5 y6, LeO (impl_numbersOf.l0 k y0 y1 y2 y3 y4 y5 y6) (impl_numbersOf.l0 (k + 1) y0 y1 y2 y3 y4 y5 y6)) ∧ (∀ y0 y1 y2 y3 y4, LeO (impl_numbersOf.l1 k y0 y1 y2 y3 y4) (impl_numbersOf.l1 (k + 1) y0 y1 y2 y3 y4))
 | 0 => ⟨fun _ _ _ _ _ _ _ r h => by simp [impl_numbersOf.l0] at h, fun _ _ _ _ _ r h => by simp [impl_numbersOf.l1] at h⟩
 | k + 1 => by
  obtain ⟨ih0, ih1⟩ := impl_numbersOf.mono_l k
  refine ⟨?_, ?_⟩
  ·intro y0 y1 y2 y3 y4 y5 y6
   unfold impl_numbersOf.l0
   repeat' first
   | (with_reducible exact ih0 _ _ _ _ _ _ _)
   | (with_reducible exact ih1 _ _ _ _ _)
   | (with_reducible exact LeO.refl _)
   | (with_reducible exact LeO.none _)
   | (with_reducible refine LeO.ite ?_ ?_)
   | (with_reducible refine LeO.bind ?_ (fun _ => ?_))
   | exact ih0 _ _ _ _ _ _ _
   | exact ih1 _ _ _ _ _
   | exact LeO.none _
   | refine LeO.ite ?_ ?_
   | refine LeO.bind ?_ (fun _ => ?_)
  ·intro y0 y1 y2 y3 y4
   unfold impl_numbersOf.l1
   repeat' first
   | (with_reducible exact ih0 _ _ _ _ _ _ _)
   | (with_reducible exact ih1 _ _ _ _ _)
   | (with_reducible exact LeO.refl _)
   | (with_reducible exact LeO.none _)
   | (with_reducible refine LeO.ite ?_ ?_)
   | (with_reducible refine LeO.bind ?_ (fun _ => ?_))
   | exact ih0 _ _ _ _ _ _ _
   | exact ih1 _ _ _ _ _
   | exact LeO.none _
   | refine LeO.ite ?_ ?_
   | refine LeO.bind ?_ (fun _ => ?_)
theorem impl_numbersOf.mono : ∀ a0 a1 a2 a3 a4 a5 k, LeO (impl_numbersOf.f k a0 a1 a2 a3 a4 a5) (impl_numbersOf.f (k + 1) a0 a1 a2 a3 a4 a5) := by
 intro a0 a1 a2 a3 a4 a5 k
 obtain ⟨ih0, ih1⟩ := impl_numbersOf.mono_l k
 unfold impl_numbersOf.f
 repeat' first
   | (with_reducible exact ih0 _ _ _ _ _ _ _)
   | (with_reducible exact ih1 _ _ _ _ _)
   | (with_reducible exact LeO.refl _)
   | (with_reducible exact LeO.none _)
   | (with_reducible refine LeO.ite ?_ ?_)
   | (with_reducible refine LeO.bind ?_ (fun _ => ?_))
   | exact ih0 _ _ _ _ _ _ _
   | exact ih1 _ _ _ _ _
   | exact LeO.none _
   | refine LeO.ite ?_ ?_
   | refine LeO.bind ?_ (fun _ => ?_)
set_option maxHeartbeats 8000000 in
set_option maxRecDepth 100000 in
theorem impl_numbersOf.calls (k : Nat) (a0_0 : Int) (a0_1 : Int) (a0_2 : ByteArray) (A0_3 : Option Addr) (c0_3 : Nat) (l0_3 : List (S98)) (g : Nat) (s1_0 : Int) (s1_1 : Bool) (r1 : Int) (r2 : Bool) (w0 w : World) (hI : IsS182 w0 w g s1_0 s1_1) (hB : Below w0.heap.size w0 w) (hr0_3 : ∀ W_, ql0 w W_ g none → Kd.C k98 W_ A0_3 l0_3.length l0_3) (hc0_3 : l0_3.length ≤ c0_3) (h : impl_numbersOf.f k a0_0 a0_1 a0_2 l0_3 s1_0 s1_1 = some (r1, r2)) :
  Calls Try.prog 129 #[.agg #[.int .i64 a0_0, .int .i64 a0_1, .string a0_2, .slice A0_3 l0_3.length c0_3], .func (.func 128) #[.pointer (some ⟨g, 0, none⟩)] #[]] w fun e w' => e = .returned (.tuple #[]) ∧ IsS182 w0 w' g r1 r2 ∧ Below w0.heap.size w0 w' ∧ ql0 w w' g none := by
 have hu96 := Try.underlying96
 have hu98 := Try.underlying98
 have HR0_3 := Aside0.mk hr0_3
 have HC0_3 := Aside0.mk hc0_3
 clear hr0_3 hc0_3
 have HI1 := Aside0.mk hI
 have HK := Aside0.mk (ql0.refl w g none)
 have HL := Aside0.mk hB.size
 clear hI
 have HW0 := Aside0.mk hB.size
 have HB := Aside0.mk hB
 clear hB
 have H : ((impl_chain_link.f s1_0 s1_1 a0_0).bind fun bt164 => ((impl_chain_link.f bt164.1 bt164.2 a0_1).bind fun bt166 => ((impl_chain_link.f bt166.1 bt166.2 (a0_2.size : Int)).bind fun bt168 => (impl_numbersOf.l0 k 0 bt168.1 bt168.2 a0_0 a0_1 a0_2 l0_3)))) = some (r1, r2) := h
 clear h
 replace H := Option.bind_eq_some_iff.mp H
 obtain ⟨⟨t164, t165⟩, A30, H⟩ := H
 replace H : ((impl_chain_link.f t164 t165 a0_1).bind fun bt166 => ((impl_chain_link.f bt166.1 bt166.2 (a0_2.size : Int)).bind fun bt168 => (impl_numbersOf.l0 k 0 bt168.1 bt168.2 a0_0 a0_1 a0_2 l0_3))) = some (r1, r2) := H
 have A3 := Aside0.mk A30
 clear A30
 replace H := Option.bind_eq_some_iff.mp H
 obtain ⟨⟨t166, t167⟩, A40, H⟩ := H
 replace H : ((impl_chain_link.f t166 t167 (a0_2.size : Int)).bind fun bt168 => (impl_numbersOf.l0 k 0 bt168.1 bt168.2 a0_0 a0_1 a0_2 l0_3)) = some (r1, r2) := H
 have A4 := Aside0.mk A40
 clear A40
 replace H := Option.bind_eq_some_iff.mp H
 obtain ⟨⟨t168, t169⟩, A50, H⟩ := H
 replace H : (impl_numbersOf.l0 k 0 t168 t169 a0_0 a0_1 a0_2 l0_3) = some (r1, r2) := H
 have A5 := Aside0.mk A50
 clear A50
 have H' := Aside0.mk H
 clear H
 go_enter Try.func129, Try.ntmps129
 go_wp2_with (first | ((with_reducible refine qo0 (N := 2) rfl ?_); refine qn0 ?hg (N := 2) ?hd (cs := #[.int .i64 a0_0, .int .i64 a0_1, .string a0_2, .slice A0_3 l0_3.length c0_3]) (t := 96) ?hr ?_; (case hd => rfl); (case hg => rfl); (case hr => first | (go_simp; done) | (go_simp; rfl)); intro gb163 hg w6 hbox hb; have n0_ := Aside0.mk (IsS182.below (by repeat (first | (with_reducible first | exact HI1.out | apply IsS182.alloc | apply IsS182.drewN | apply IsS182.drew | apply IsS182.set_0 | apply IsS182.set_1) | exact HI1.out)) hb); have n1_ := Aside0.mk (ql0.trans (by repeat (first | (with_reducible first | exact HK.out | apply ql0.set_ | apply qr0 | apply qv0 | apply qs0) | exact HK.out)) (ql0.of_below hb g none) (.inl rfl)); have n2_ := Aside0.mk (qk0 (by repeat (first | (with_reducible first | exact HB.out | apply qb0 | apply qa0 | apply qc0 | refine qf0 ?_ (IsS182.ge HI1.out)) | exact HB.out)) hb); have n3_ := Aside0.mk (hbox); have n4_ := Aside0.mk ((by rw [hg]; exact (keep_size (w := w) (g := g) (row := none) (by repeat (first | (with_reducible first | exact HK.out | apply ql0.set_ | apply qr0 | apply qv0 | apply qs0) | exact HK.out))) : w.heap.size ≤ gb163)); have n5_ := Aside0.mk ((Nat.le_trans HW0.out (by rw [hg]; exact (keep_size (w := w) (g := g) (row := none) (by repeat (first | (with_reducible first | exact HK.out | apply ql0.set_ | apply qr0 | apply qv0 | apply qs0) | exact HK.out))) : w.heap.size ≤ gb163) : w0.heap.size ≤ gb163)); have n6_ := Aside0.mk ((by rw [hg]; exact Nat.ne_of_lt (IsS182.lt (show IsS182 w0 _ g s1_0 s1_1 from by repeat (first | (with_reducible first | exact HI1.out | apply IsS182.alloc | apply IsS182.drewN | apply IsS182.drew | apply IsS182.set_0 | apply IsS182.set_1) | exact HI1.out))) : g ≠ gb163)); have n7_ := Aside0.mk ((by rw [hg]; exact Nat.ne_of_gt (IsS182.lt (show IsS182 w0 _ g s1_0 s1_1 from by repeat (first | (with_reducible first | exact HI1.out | apply IsS182.alloc | apply IsS182.drewN | apply IsS182.drew | apply IsS182.set_0 | apply IsS182.set_1) | exact HI1.out))) : gb163 ≠ g)); clear HI1; clear HK; clear HB; have HI1 := n0_; have HK := n1_; have HB := n2_; have BK163 := n3_; have GW163 := n4_; have GE163 := n5_; have NB1_163 := n6_; have NB163_1 := n7_; clear n0_ n1_ n2_ n3_ n4_ n5_ n6_ n7_; clear hb hbox hg; have hnb7 := NB163_1.out; have hnc7 := NB1_163.out; have hcz8_0 : w6.cell? ⟨gb163, 0, none⟩ = some (.int .i64 a0_0) := (qe0 BK163.out 0).trans rfl; have hcz8_1 : w6.cell? ⟨gb163, 1, none⟩ = some (.int .i64 a0_1) := (qe0 BK163.out 1).trans rfl; have hcz8_2 : w6.cell? ⟨gb163, 2, none⟩ = some (.string a0_2) := (qe0 BK163.out 2).trans rfl; have hcz8_3 : w6.cell? ⟨gb163, 3, none⟩ = some (.slice A0_3 l0_3.length c0_3) := (qe0 BK163.out 3).trans rfl; have hfz8_0 := qd0 BK163.out 0; have hfz8_1 := qd0 BK163.out 1; have hfz8_2 := qd0 BK163.out 2; have hfz8_3 := qd0 BK163.out 3) | (go_at_call 128; (with_reducible refine (impl_chain_link.calls g s1_0 s1_1 a0_0 t164 t165 w0 _ ?side1 ?side2 A3.out).mono ?_); (case side1 => repeat (first | (with_reducible first | exact HI1.out | apply IsS182.alloc | apply IsS182.drewN | apply IsS182.drew | apply IsS182.set_0 | apply IsS182.set_1 | refine IsS182.far ?_ NB1_163.out _) | exact HI1.out)); (case side2 => repeat (first | (with_reducible first | exact HB.out | apply qb0 | apply qa0 | apply qc0 | refine qf0 ?_ (IsS182.ge HI1.out) | refine qf0 ?_ GE163.out) | exact HB.out)); rintro e w9 ⟨rfl, hi, hb, hk⟩; have n0_ := Aside0.mk (ql0.blk hk (g' := gb163) (o := .cells #[.int .i64 a0_0, .int .i64 a0_1, .string a0_2, .slice A0_3 l0_3.length c0_3] 96 (0, 0)) (by (with_reducible repeat (first | refine qg0 ?_ _ | refine qi0 ?_ | refine qh0 ?_ _)); exact BK163.out) NB163_1.out (by simp)); have n1_ := Aside0.mk (ql0.trans (by repeat (first | (with_reducible first | exact HK.out | apply ql0.set_ | apply qr0 | apply qv0 | apply qs0 | refine qz0 ?_ GW163.out _) | exact HK.out)) hk (.inl rfl)); have n2_ := Aside0.mk (hb); have n3_ := Aside0.mk (hi); clear BK163; clear HK; clear HB; clear HI1; have BK163 := n0_; have HK := n1_; have HB := n2_; have HI1 := n3_; clear n0_ n1_ n2_ n3_; (try clear hb); (try clear hb2); (try clear hk); (try clear hi); have hcz10_0 : w9.cell? ⟨gb163, 0, none⟩ = some (.int .i64 a0_0) := (qe0 BK163.out 0).trans rfl; have hcz10_1 : w9.cell? ⟨gb163, 1, none⟩ = some (.int .i64 a0_1) := (qe0 BK163.out 1).trans rfl; have hcz10_2 : w9.cell? ⟨gb163, 2, none⟩ = some (.string a0_2) := (qe0 BK163.out 2).trans rfl; have hcz10_3 : w9.cell? ⟨gb163, 3, none⟩ = some (.slice A0_3 l0_3.length c0_3) := (qe0 BK163.out 3).trans rfl; have hfz10_0 := qd0 BK163.out 0; have hfz10_1 := qd0 BK163.out 1; have hfz10_2 := qd0 BK163.out 2; have hfz10_3 := qd0 BK163.out 3) | (go_at_call 128; (with_reducible refine (impl_chain_link.calls g t164 t165 a0_1 t166 t167 w0 _ ?side1 ?side2 A4.out).mono ?_); (case side1 => repeat (first | (with_reducible first | exact HI1.out | apply IsS182.alloc | apply IsS182.drewN | apply IsS182.drew | apply IsS182.set_0 | apply IsS182.set_1 | refine IsS182.far ?_ NB1_163.out _) | exact HI1.out)); (case side2 => repeat (first | (with_reducible first | exact HB.out | apply qb0 | apply qa0 | apply qc0 | refine qf0 ?_ (IsS182.ge HI1.out) | refine qf0 ?_ GE163.out) | exact HB.out)); rintro e w11 ⟨rfl, hi, hb, hk⟩; have n0_ := Aside0.mk (ql0.blk hk (g' := gb163) (o := .cells #[.int .i64 a0_0, .int .i64 a0_1, .string a0_2, .slice A0_3 l0_3.length c0_3] 96 (0, 0)) (by (with_reducible repeat (first | refine qg0 ?_ _ | refine qi0 ?_ | refine qh0 ?_ _)); exact BK163.out) NB163_1.out (by simp)); have n1_ := Aside0.mk (ql0.trans (by repeat (first | (with_reducible first | exact HK.out | apply ql0.set_ | apply qr0 | apply qv0 | apply qs0 | refine qz0 ?_ GW163.out _) | exact HK.out)) hk (.inl rfl)); have n2_ := Aside0.mk (hb); have n3_ := Aside0.mk (hi); clear BK163; clear HK; clear HB; clear HI1; have BK163 := n0_; have HK := n1_; have HB := n2_; have HI1 := n3_; clear n0_ n1_ n2_ n3_; (try clear hb); (try clear hb2); (try clear hk); (try clear hi); have hcz12_0 : w11.cell? ⟨gb163, 0, none⟩ = some (.int .i64 a0_0) := (qe0 BK163.out 0).trans rfl; have hcz12_1 : w11.cell? ⟨gb163, 1, none⟩ = some (.int .i64 a0_1) := (qe0 BK163.out 1).trans rfl; have hcz12_2 : w11.cell? ⟨gb163, 2, none⟩ = some (.string a0_2) := (qe0 BK163.out 2).trans rfl; have hcz12_3 : w11.cell? ⟨gb163, 3, none⟩ = some (.slice A0_3 l0_3.length c0_3) := (qe0 BK163.out 3).trans rfl; have hfz12_0 := qd0 BK163.out 0; have hfz12_1 := qd0 BK163.out 1; have hfz12_2 := qd0 BK163.out 2; have hfz12_3 := qd0 BK163.out 3) | (go_at_call 128; (with_reducible refine (impl_chain_link.calls g t166 t167 (a0_2.size : Int) t168 t169 w0 _ ?side1 ?side2 A5.out).mono ?_); (case side1 => repeat (first | (with_reducible first | exact HI1.out | apply IsS182.alloc | apply IsS182.drewN | apply IsS182.drew | apply IsS182.set_0 | apply IsS182.set_1 | refine IsS182.far ?_ NB1_163.out _) | exact HI1.out)); (case side2 => repeat (first | (with_reducible first | exact HB.out | apply qb0 | apply qa0 | apply qc0 | refine qf0 ?_ (IsS182.ge HI1.out) | refine qf0 ?_ GE163.out) | exact HB.out)); rintro e w13 ⟨rfl, hi, hb, hk⟩; have n0_ := Aside0.mk (ql0.blk hk (g' := gb163) (o := .cells #[.int .i64 a0_0, .int .i64 a0_1, .string a0_2, .slice A0_3 l0_3.length c0_3] 96 (0, 0)) (by (with_reducible repeat (first | refine qg0 ?_ _ | refine qi0 ?_ | refine qh0 ?_ _)); exact BK163.out) NB163_1.out (by simp)); have n1_ := Aside0.mk (ql0.trans (by repeat (first | (with_reducible first | exact HK.out | apply ql0.set_ | apply qr0 | apply qv0 | apply qs0 | refine qz0 ?_ GW163.out _) | exact HK.out)) hk (.inl rfl)); have n2_ := Aside0.mk (hb); have n3_ := Aside0.mk (hi); clear BK163; clear HK; clear HB; clear HI1; have BK163 := n0_; have HK := n1_; have HB := n2_; have HI1 := n3_; clear n0_ n1_ n2_ n3_; (try clear hb); (try clear hb2); (try clear hk); (try clear hi)))
 go_loopg [4] k (fun kq v4 w' => ∃ (x4_1 : Int) (x2000_1 : Int) (x2001_1 : Bool), v4 = .int .i64 x4_1 ∧ Aside0 (impl_numbersOf.l0 kq x4_1 x2000_1 x2001_1 a0_0 a0_1 a0_2 l0_3 = some (r1, r2)) ∧ Aside0 (kq ≤ k) ∧ Aside0 (w'.heap[gb163]? = some (.cells #[.int .i64 a0_0, .int .i64 a0_1, .string a0_2, (.slice A0_3 l0_3.length c0_3)] 96 (0, 0))) ∧ Aside0 (IsS182 w0 w' g x2000_1 x2001_1) ∧ Aside0 (ql0 w w' g none) ∧ Aside0 (Below w0.heap.size w0 w'))
 case atStart => exact ⟨(0), (t168), (t169), (by first | rfl | (simp; done) | (simp [*]; done)), H', ⟨Nat.le_refl _⟩, ⟨by (with_reducible repeat (first | refine qg0 ?_ _ | refine qi0 ?_ | refine qh0 ?_ _)); exact BK163.out⟩, ⟨by repeat (first | (with_reducible first | exact HI1.out | apply IsS182.alloc | apply IsS182.drewN | apply IsS182.drew | apply IsS182.set_0 | apply IsS182.set_1 | refine IsS182.far ?_ NB1_163.out _) | exact HI1.out)⟩, ⟨by repeat (first | (with_reducible first | exact HK.out | apply ql0.set_ | apply qr0 | apply qv0 | apply qs0 | refine qz0 ?_ GW163.out _) | exact HK.out)⟩, ⟨by repeat (first | (with_reducible first | exact HB.out | apply qb0 | apply qa0 | apply qc0 | refine qf0 ?_ (IsS182.ge HI1.out) | refine qf0 ?_ GE163.out) | exact HB.out)⟩⟩
 case round =>
  clear H'
  try clear c1
  try clear p2
  try clear c7
  try clear c12
  try clear hcz10_0
  try clear hcz10_1
  try clear hcz10_2
  try clear hcz10_3
  try clear hcz12_0
  try clear hcz12_1
  try clear hcz12_2
  try clear hcz12_3
  try clear hcz8_0
  try clear hcz8_1
  try clear hcz8_2
  try clear hcz8_3
  try clear hfz10_0
  try clear hfz10_1
  try clear hfz10_2
  try clear hfz10_3
  try clear hfz12_0
  try clear hfz12_1
  try clear hfz12_2
  try clear hfz12_3
  try clear hfz8_0
  try clear hfz8_1
  try clear hfz8_2
  try clear hfz8_3
  obtain ⟨x4_1, x2000_1, x2001_1, rfl, HA, HK1, BK163, HI1, HK, HB⟩ := hrel
  cases gk with
  | zero => exact absurd HA.out (by simp [impl_numbersOf.l0])
  | succ k1 =>
   have H := HA.out
   clear HA
   simp only [impl_numbersOf.l0] at H
   by_cases c14 : x4_1 < (a0_2.size : Int)
   ·rw [if_pos c14] at H
    have c14b0 : decide (x4_1 < (a0_2.size : Int)) = true := decide_eq_true c14
    clear c14
    by_cases c15 : 0 ≤ x4_1
    case neg => rw [if_neg c15] at H; exact absurd H (by simp)
    rw [if_pos c15] at H
    have c15b0 : decide (0 ≤ x4_1) = true := decide_eq_true c15
    clear c15
    replace H := Option.bind_eq_some_iff.mp H
    obtain ⟨⟨t170, t171⟩, A170, H⟩ := H
    replace H : (impl_numbersOf.l0 k1 (wrap64 (x4_1 + 1)) t170 t171 a0_0 a0_1 a0_2 l0_3) = some (r1, r2) := H
    have A17 := Aside0.mk A170
    clear A170
    have H' := Aside0.mk H
    clear H
    have hnb18 := NB163_1.out
    have hnc18 := NB1_163.out
    have hcz19_0 : wr.cell? ⟨gb163, 0, none⟩ = some (.int .i64 a0_0) := (qe0 BK163.out 0).trans rfl
    have hcz19_1 : wr.cell? ⟨gb163, 1, none⟩ = some (.int .i64 a0_1) := (qe0 BK163.out 1).trans rfl
    have hcz19_2 : wr.cell? ⟨gb163, 2, none⟩ = some (.string a0_2) := (qe0 BK163.out 2).trans rfl
    have hcz19_3 : wr.cell? ⟨gb163, 3, none⟩ = some (.slice A0_3 l0_3.length c0_3) := (qe0 BK163.out 3).trans rfl
    have hfz19_0 := qd0 BK163.out 0
    have hfz19_1 := qd0 BK163.out 1
    have hfz19_2 := qd0 BK163.out 2
    have hfz19_3 := qd0 BK163.out 3
    have p16 : 0 ≤ (x4_1 : Int) := of_decide_eq_true (by first | (with_reducible assumption) | assumption)
    have q16 : x4_1 < (a0_2.size : Int) := of_decide_eq_true (by first | (with_reducible assumption) | assumption)
    have hx16 := bt_at a0_2 x4_1
    replace p16 := eq_true p16
    replace q16 := eq_true q16
    go_wp2_with (first | (go_at_call 128; (with_reducible refine (impl_chain_link.calls g x2000_1 x2001_1 (wrap64 (bt a0_2 x4_1)) t170 t171 w0 _ ?side1 ?side2 A17.out).mono ?_); (case side1 => repeat (first | (with_reducible first | exact HI1.out | apply IsS182.alloc | apply IsS182.drewN | apply IsS182.drew | apply IsS182.set_0 | apply IsS182.set_1 | refine IsS182.far ?_ NB1_163.out _) | exact HI1.out)); (case side2 => repeat (first | (with_reducible first | exact HB.out | apply qb0 | apply qa0 | apply qc0 | refine qf0 ?_ (IsS182.ge HI1.out) | refine qf0 ?_ GE163.out) | exact HB.out)); rintro e w20 ⟨rfl, hi, hb, hk⟩; have n0_ := Aside0.mk (ql0.blk hk (g' := gb163) (o := .cells #[.int .i64 a0_0, .int .i64 a0_1, .string a0_2, .slice A0_3 l0_3.length c0_3] 96 (0, 0)) (by (with_reducible repeat (first | refine qg0 ?_ _ | refine qi0 ?_ | refine qh0 ?_ _)); exact BK163.out) NB163_1.out (by simp)); have n1_ := Aside0.mk (ql0.trans (by repeat (first | (with_reducible first | exact HK.out | apply ql0.set_ | apply qr0 | apply qv0 | apply qs0 | refine qz0 ?_ GW163.out _) | exact HK.out)) hk (.inl rfl)); have n2_ := Aside0.mk (hb); have n3_ := Aside0.mk (hi); clear BK163; clear HK; clear HB; clear HI1; have BK163 := n0_; have HK := n1_; have HB := n2_; have HI1 := n3_; clear n0_ n1_ n2_ n3_; (try clear hb); (try clear hb2); (try clear hk); (try clear hi)))
    go_roundg k1
    case measure => have := HK1.out; omega
    case rel => exact ⟨(wrap64 (x4_1 + 1)), (t170), (t171), (by first | rfl | (simp; done) | (simp [*]; done)), H', ⟨by have := HK1.out; omega⟩, ⟨by (with_reducible repeat (first | refine qg0 ?_ _ | refine qi0 ?_ | refine qh0 ?_ _)); exact BK163.out⟩, ⟨by repeat (first | (with_reducible first | exact HI1.out | apply IsS182.alloc | apply IsS182.drewN | apply IsS182.drew | apply IsS182.set_0 | apply IsS182.set_1 | refine IsS182.far ?_ NB1_163.out _) | exact HI1.out)⟩, ⟨by repeat (first | (with_reducible first | exact HK.out | apply ql0.set_ | apply qr0 | apply qv0 | apply qs0 | refine qz0 ?_ GW163.out _) | exact HK.out)⟩, ⟨by repeat (first | (with_reducible first | exact HB.out | apply qb0 | apply qa0 | apply qc0 | refine qf0 ?_ (IsS182.ge HI1.out) | refine qf0 ?_ GE163.out) | exact HB.out)⟩⟩
   rw [if_neg c14] at H
   have c14b0 : decide (x4_1 < (a0_2.size : Int)) = false := decide_eq_false c14
   clear c14
   replace H := Option.bind_eq_some_iff.mp H
   obtain ⟨⟨t172, t173⟩, A210, H⟩ := H
   replace H : (impl_numbersOf.l1 k1 l0_3 (l0_3.length : Int) 0 t172 t173) = some (r1, r2) := H
   have A21 := Aside0.mk A210
   clear A210
   have H' := Aside0.mk H
   clear H
   have hnb22 := NB163_1.out
   have hnc22 := NB1_163.out
   have hcz23_0 : wr.cell? ⟨gb163, 0, none⟩ = some (.int .i64 a0_0) := (qe0 BK163.out 0).trans rfl
   have hcz23_1 : wr.cell? ⟨gb163, 1, none⟩ = some (.int .i64 a0_1) := (qe0 BK163.out 1).trans rfl
   have hcz23_2 : wr.cell? ⟨gb163, 2, none⟩ = some (.string a0_2) := (qe0 BK163.out 2).trans rfl
   have hcz23_3 : wr.cell? ⟨gb163, 3, none⟩ = some (.slice A0_3 l0_3.length c0_3) := (qe0 BK163.out 3).trans rfl
   have hfz23_0 := qd0 BK163.out 0
   have hfz23_1 := qd0 BK163.out 1
   have hfz23_2 := qd0 BK163.out 2
   have hfz23_3 := qd0 BK163.out 3
   go_wp2_with (first | (go_at_call 128; (with_reducible refine (impl_chain_link.calls g x2000_1 x2001_1 (l0_3.length : Int) t172 t173 w0 _ ?side1 ?side2 A21.out).mono ?_); (case side1 => repeat (first | (with_reducible first | exact HI1.out | apply IsS182.alloc | apply IsS182.drewN | apply IsS182.drew | apply IsS182.set_0 | apply IsS182.set_1 | refine IsS182.far ?_ NB1_163.out _) | exact HI1.out)); (case side2 => repeat (first | (with_reducible first | exact HB.out | apply qb0 | apply qa0 | apply qc0 | refine qf0 ?_ (IsS182.ge HI1.out) | refine qf0 ?_ GE163.out) | exact HB.out)); rintro e w24 ⟨rfl, hi, hb, hk⟩; have n0_ := Aside0.mk (ql0.blk hk (g' := gb163) (o := .cells #[.int .i64 a0_0, .int .i64 a0_1, .string a0_2, .slice A0_3 l0_3.length c0_3] 96 (0, 0)) (by (with_reducible repeat (first | refine qg0 ?_ _ | refine qi0 ?_ | refine qh0 ?_ _)); exact BK163.out) NB163_1.out (by simp)); have n1_ := Aside0.mk (ql0.trans (by repeat (first | (with_reducible first | exact HK.out | apply ql0.set_ | apply qr0 | apply qv0 | apply qs0 | refine qz0 ?_ GW163.out _) | exact HK.out)) hk (.inl rfl)); have n2_ := Aside0.mk (hb); have n3_ := Aside0.mk (hi); clear BK163; clear HK; clear HB; clear HI1; have BK163 := n0_; have HK := n1_; have HB := n2_; have HI1 := n3_; clear n0_ n1_ n2_ n3_; (try clear hb); (try clear hb2); (try clear hk); (try clear hi); have hcz25_0 : w24.cell? ⟨gb163, 0, none⟩ = some (.int .i64 a0_0) := (qe0 BK163.out 0).trans rfl; have hcz25_1 : w24.cell? ⟨gb163, 1, none⟩ = some (.int .i64 a0_1) := (qe0 BK163.out 1).trans rfl; have hcz25_2 : w24.cell? ⟨gb163, 2, none⟩ = some (.string a0_2) := (qe0 BK163.out 2).trans rfl; have hcz25_3 : w24.cell? ⟨gb163, 3, none⟩ = some (.slice A0_3 l0_3.length c0_3) := (qe0 BK163.out 3).trans rfl; have hfz25_0 := qd0 BK163.out 0; have hfz25_1 := qd0 BK163.out 1; have hfz25_2 := qd0 BK163.out 2; have hfz25_3 := qd0 BK163.out 3))
   go_loopg [42] k1 (fun kq v42 w' => ∃ (x42_2 : Int) (x2000_2 : Int) (x2001_2 : Bool), v42 = .int .i64 x42_2 ∧ Aside0 (impl_numbersOf.l1 kq l0_3 (l0_3.length : Int) x42_2 x2000_2 x2001_2 = some (r1, r2)) ∧ Aside0 (kq ≤ k1) ∧ Aside0 (w'.heap[gb163]? = some (.cells #[.int .i64 a0_0, .int .i64 a0_1, .string a0_2, (.slice A0_3 l0_3.length c0_3)] 96 (0, 0))) ∧ Aside0 (IsS182 w0 w' g x2000_2 x2001_2) ∧ Aside0 (ql0 w w' g none) ∧ Aside0 (Below w0.heap.size w0 w'))
   case atStart => exact ⟨(0), (t172), (t173), (by first | rfl | (simp; done) | (simp [*]; done)), H', ⟨Nat.le_refl _⟩, ⟨by (with_reducible repeat (first | refine qg0 ?_ _ | refine qi0 ?_ | refine qh0 ?_ _)); exact BK163.out⟩, ⟨by repeat (first | (with_reducible first | exact HI1.out | apply IsS182.alloc | apply IsS182.drewN | apply IsS182.drew | apply IsS182.set_0 | apply IsS182.set_1 | refine IsS182.far ?_ NB1_163.out _) | exact HI1.out)⟩, ⟨by repeat (first | (with_reducible first | exact HK.out | apply ql0.set_ | apply qr0 | apply qv0 | apply qs0 | refine qz0 ?_ GW163.out _) | exact HK.out)⟩, ⟨by repeat (first | (with_reducible first | exact HB.out | apply qb0 | apply qa0 | apply qc0 | refine qf0 ?_ (IsS182.ge HI1.out) | refine qf0 ?_ GE163.out) | exact HB.out)⟩⟩
   case round =>
    clear H'
    try clear c1
    try clear p1
    try clear q1
    try clear hx1
    try clear c2
    try clear p2
    try clear p6
    try clear c7
    try clear c12
    try clear c14
    try clear c14b0
    try clear c15
    try clear c15b0
    try clear p16
    try clear q16
    try clear hx16
    try clear c18
    try clear c22
    try clear hcz10_0
    try clear hcz10_1
    try clear hcz10_2
    try clear hcz10_3
    try clear hcz12_0
    try clear hcz12_1
    try clear hcz12_2
    try clear hcz12_3
    try clear hcz19_0
    try clear hcz19_1
    try clear hcz19_2
    try clear hcz19_3
    try clear hcz23_0
    try clear hcz23_1
    try clear hcz23_2
    try clear hcz23_3
    try clear hcz25_0
    try clear hcz25_1
    try clear hcz25_2
    try clear hcz25_3
    try clear hcz8_0
    try clear hcz8_1
    try clear hcz8_2
    try clear hcz8_3
    try clear hfz10_0
    try clear hfz10_1
    try clear hfz10_2
    try clear hfz10_3
    try clear hfz12_0
    try clear hfz12_1
    try clear hfz12_2
    try clear hfz12_3
    try clear hfz19_0
    try clear hfz19_1
    try clear hfz19_2
    try clear hfz19_3
    try clear hfz23_0
    try clear hfz23_1
    try clear hfz23_2
    try clear hfz23_3
    try clear hfz25_0
    try clear hfz25_1
    try clear hfz25_2
    try clear hfz25_3
    try clear hfz8_0
    try clear hfz8_1
    try clear hfz8_2
    try clear hfz8_3
    try clear p16
    try clear p2
    try clear q16
    obtain ⟨x42_2, x2000_2, x2001_2, rfl, HA, HK2, BK163, HI1, HK, HB⟩ := hrel
    cases gk with
    | zero => exact absurd HA.out (by simp [impl_numbersOf.l1])
    | succ k2 =>
     have H := HA.out
     clear HA
     simp only [impl_numbersOf.l1] at H
     by_cases c26 : x42_2 < (l0_3.length : Int)
     ·rw [if_pos c26] at H
      have c26b0 : decide (x42_2 < (l0_3.length : Int)) = true := decide_eq_true c26
      clear c26
      by_cases c27 : 0 ≤ x42_2
      case neg => rw [if_neg c27] at H; exact absurd H (by simp)
      rw [if_pos c27] at H
      have c27b0 : decide (0 ≤ x42_2) = true := decide_eq_true c27
      clear c27
      by_cases c28 : x42_2 < (l0_3.length : Int)
      case neg => rw [if_neg c28] at H; exact absurd H (by simp)
      rw [if_pos c28] at H
      have c28b0 : decide (x42_2 < (l0_3.length : Int)) = true := decide_eq_true c28
      clear c28
      replace H := Option.bind_eq_some_iff.mp H
      obtain ⟨⟨t176, t177⟩, A290, H⟩ := H
      replace H : ((impl_chain_link.f t176 t177 ((rd_T98 l0_3 x42_2).f1)).bind fun bt178 => ((impl_chain_link.f bt178.1 bt178.2 ((rd_T98 l0_3 x42_2).f2)).bind fun bt180 => ((impl_chain_link.f bt180.1 bt180.2 ((rd_T98 l0_3 x42_2).f3)).bind fun bt182 => ((impl_chain_link.f bt182.1 bt182.2 ((rd_T98 l0_3 x42_2).f4)).bind fun bt184 => (impl_numbersOf.l1 k2 l0_3 (l0_3.length : Int) (wrap64 (x42_2 + 1)) bt184.1 bt184.2))))) = some (r1, r2) := H
      have A29 := Aside0.mk A290
      clear A290
      replace H := Option.bind_eq_some_iff.mp H
      obtain ⟨⟨t178, t179⟩, A300, H⟩ := H
      replace H : ((impl_chain_link.f t178 t179 ((rd_T98 l0_3 x42_2).f2)).bind fun bt180 => ((impl_chain_link.f bt180.1 bt180.2 ((rd_T98 l0_3 x42_2).f3)).bind fun bt182 => ((impl_chain_link.f bt182.1 bt182.2 ((rd_T98 l0_3 x42_2).f4)).bind fun bt184 => (impl_numbersOf.l1 k2 l0_3 (l0_3.length : Int) (wrap64 (x42_2 + 1)) bt184.1 bt184.2)))) = some (r1, r2) := H
      have A30 := Aside0.mk A300
      clear A300
      replace H := Option.bind_eq_some_iff.mp H
      obtain ⟨⟨t180, t181⟩, A310, H⟩ := H
      replace H : ((impl_chain_link.f t180 t181 ((rd_T98 l0_3 x42_2).f3)).bind fun bt182 => ((impl_chain_link.f bt182.1 bt182.2 ((rd_T98 l0_3 x42_2).f4)).bind fun bt184 => (impl_numbersOf.l1 k2 l0_3 (l0_3.length : Int) (wrap64 (x42_2 + 1)) bt184.1 bt184.2))) = some (r1, r2) := H
      have A31 := Aside0.mk A310
      clear A310
      replace H := Option.bind_eq_some_iff.mp H
      obtain ⟨⟨t182, t183⟩, A320, H⟩ := H
      replace H : ((impl_chain_link.f t182 t183 ((rd_T98 l0_3 x42_2).f4)).bind fun bt184 => (impl_numbersOf.l1 k2 l0_3 (l0_3.length : Int) (wrap64 (x42_2 + 1)) bt184.1 bt184.2)) = some (r1, r2) := H
      have A32 := Aside0.mk A320
      clear A320
      replace H := Option.bind_eq_some_iff.mp H
      obtain ⟨⟨t184, t185⟩, A330, H⟩ := H
      replace H : (impl_numbersOf.l1 k2 l0_3 (l0_3.length : Int) (wrap64 (x42_2 + 1)) t184 t185) = some (r1, r2) := H
      have A33 := Aside0.mk A330
      clear A330
      have H' := Aside0.mk H
      clear H
      have p174 : 0 ≤ (x42_2 : Int) := of_decide_eq_true (by first | (with_reducible assumption) | assumption)
      have q174 : x42_2 < (l0_3.length : Int) := of_decide_eq_true (by first | (with_reducible assumption) | assumption)
      obtain ⟨ad174, e174, hx174_0, hx174_1, hx174_2, hx174_3, hx174_4⟩ := at_T98 (Kd.C_foot_now HR0_3.out HK.out) x42_2 p174 q174
      cases e174
      replace p174 := eq_true p174
      replace q174 := eq_true q174
      go_wp2_with (first | ((with_reducible refine qo0 (N := 6) rfl ?_); refine qn0 ?hg (N := 6) ?hd (cs := #[.int .i64 0, .int .i64 0, .int .i64 0, .int .i64 0, .int .i64 0]) (t := 98) ?hr ?_; (case hd => rfl); (case hg => rfl); (case hr => first | (go_simp; done) | (go_simp; rfl)); intro gb175 hg w34 hbox hb; have n0_ := Aside0.mk (qp0 (g := gb163) (o := .cells #[.int .i64 a0_0, .int .i64 a0_1, .string a0_2, .slice (some ad174) l0_3.length c0_3] 96 (0, 0)) (by (with_reducible repeat (first | refine qg0 ?_ _ | refine qi0 ?_ | refine qh0 ?_ _)); exact BK163.out) hb); have n1_ := Aside0.mk (IsS182.below (by repeat (first | (with_reducible first | exact HI1.out | apply IsS182.alloc | apply IsS182.drewN | apply IsS182.drew | apply IsS182.set_0 | apply IsS182.set_1 | refine IsS182.far ?_ NB1_163.out _) | exact HI1.out)) hb); have n2_ := Aside0.mk (ql0.trans (by repeat (first | (with_reducible first | exact HK.out | apply ql0.set_ | apply qr0 | apply qv0 | apply qs0 | refine qz0 ?_ GW163.out _) | exact HK.out)) (ql0.of_below hb g none) (.inl rfl)); have n3_ := Aside0.mk (qk0 (by repeat (first | (with_reducible first | exact HB.out | apply qb0 | apply qa0 | apply qc0 | refine qf0 ?_ (IsS182.ge HI1.out) | refine qf0 ?_ GE163.out) | exact HB.out)) hb); have n4_ := Aside0.mk (hbox); have n5_ := Aside0.mk ((by rw [hg]; exact (keep_size (w := w) (g := g) (row := none) (by repeat (first | (with_reducible first | exact HK.out | apply ql0.set_ | apply qr0 | apply qv0 | apply qs0 | refine qz0 ?_ GW163.out _) | exact HK.out))) : w.heap.size ≤ gb175)); have n6_ := Aside0.mk ((Nat.le_trans HW0.out (by rw [hg]; exact (keep_size (w := w) (g := g) (row := none) (by repeat (first | (with_reducible first | exact HK.out | apply ql0.set_ | apply qr0 | apply qv0 | apply qs0 | refine qz0 ?_ GW163.out _) | exact HK.out))) : w.heap.size ≤ gb175) : w0.heap.size ≤ gb175)); have n7_ := Aside0.mk ((by rw [hg]; exact Nat.ne_of_lt (qy0 (g := gb163) (o := .cells #[.int .i64 a0_0, .int .i64 a0_1, .string a0_2, .slice (some ad174) l0_3.length c0_3] 96 (0, 0)) (by (with_reducible repeat (first | refine qg0 ?_ _ | refine qi0 ?_ | refine qh0 ?_ _)); exact BK163.out)) : gb163 ≠ gb175)); have n8_ := Aside0.mk ((by rw [hg]; exact Nat.ne_of_gt (qy0 (g := gb163) (o := .cells #[.int .i64 a0_0, .int .i64 a0_1, .string a0_2, .slice (some ad174) l0_3.length c0_3] 96 (0, 0)) (by (with_reducible repeat (first | refine qg0 ?_ _ | refine qi0 ?_ | refine qh0 ?_ _)); exact BK163.out)) : gb175 ≠ gb163)); have n9_ := Aside0.mk ((by rw [hg]; exact Nat.ne_of_lt (IsS182.lt (show IsS182 w0 _ g x2000_2 x2001_2 from by repeat (first | (with_reducible first | exact HI1.out | apply IsS182.alloc | apply IsS182.drewN | apply IsS182.drew | apply IsS182.set_0 | apply IsS182.set_1 | refine IsS182.far ?_ NB1_163.out _) | exact HI1.out))) : g ≠ gb175)); have n10_ := Aside0.mk ((by rw [hg]; exact Nat.ne_of_gt (IsS182.lt (show IsS182 w0 _ g x2000_2 x2001_2 from by repeat (first | (with_reducible first | exact HI1.out | apply IsS182.alloc | apply IsS182.drewN | apply IsS182.drew | apply IsS182.set_0 | apply IsS182.set_1 | refine IsS182.far ?_ NB1_163.out _) | exact HI1.out))) : gb175 ≠ g)); clear BK163; clear HI1; clear HK; clear HB; have BK163 := n0_; have HI1 := n1_; have HK := n2_; have HB := n3_; have BK175 := n4_; have GW175 := n5_; have GE175 := n6_; have NB163_175 := n7_; have NB175_163 := n8_; have NB1_175 := n9_; have NB175_1 := n10_; clear n0_ n1_ n2_ n3_ n4_ n5_ n6_ n7_ n8_ n9_ n10_; clear hb hbox hg; have hnb35 := NB175_163.out; have hnc35 := NB163_175.out; have hnb36 := NB175_1.out; have hnc36 := NB1_175.out; have hcz37_0 : w34.cell? ⟨gb175, 0, none⟩ = some (.int .i64 0) := (qe0 BK175.out 0).trans rfl; have hcz37_1 : w34.cell? ⟨gb175, 1, none⟩ = some (.int .i64 0) := (qe0 BK175.out 1).trans rfl; have hcz37_2 : w34.cell? ⟨gb175, 2, none⟩ = some (.int .i64 0) := (qe0 BK175.out 2).trans rfl; have hcz37_3 : w34.cell? ⟨gb175, 3, none⟩ = some (.int .i64 0) := (qe0 BK175.out 3).trans rfl; have hcz37_4 : w34.cell? ⟨gb175, 4, none⟩ = some (.int .i64 0) := (qe0 BK175.out 4).trans rfl; have hfz37_0 := qd0 BK175.out 0; have hfz37_1 := qd0 BK175.out 1; have hfz37_2 := qd0 BK175.out 2; have hfz37_3 := qd0 BK175.out 3; have hfz37_4 := qd0 BK175.out 4) | (go_at_call 128; (with_reducible refine (impl_chain_link.calls g x2000_2 x2001_2 ((rd_T98 l0_3 x42_2).f0) t176 t177 w0 _ ?side1 ?side2 A29.out).mono ?_); (case side1 => repeat (first | (with_reducible first | exact HI1.out | apply IsS182.alloc | apply IsS182.drewN | apply IsS182.drew | apply IsS182.set_0 | apply IsS182.set_1 | refine IsS182.far ?_ NB1_163.out _ | refine IsS182.far ?_ NB1_175.out _) | exact HI1.out)); (case side2 => repeat (first | (with_reducible first | exact HB.out | apply qb0 | apply qa0 | apply qc0 | refine qf0 ?_ (IsS182.ge HI1.out) | refine qf0 ?_ GE163.out | refine qf0 ?_ GE175.out) | exact HB.out)); rintro e w38 ⟨rfl, hi, hb, hk⟩; have n0_ := Aside0.mk (ql0.blk hk (g' := gb163) (o := .cells #[.int .i64 a0_0, .int .i64 a0_1, .string a0_2, .slice (some ad174) l0_3.length c0_3] 96 (0, 0)) (by (with_reducible repeat (first | refine qg0 ?_ _ | refine qi0 ?_ | refine qh0 ?_ _)); refine qi1 ?_ NB163_175.out _; (with_reducible repeat (first | refine qg0 ?_ _ | refine qi0 ?_ | refine qh0 ?_ _)); refine qi1 ?_ NB163_175.out _; (with_reducible repeat (first | refine qg0 ?_ _ | refine qi0 ?_ | refine qh0 ?_ _)); refine qi1 ?_ NB163_175.out _; (with_reducible repeat (first | refine qg0 ?_ _ | refine qi0 ?_ | refine qh0 ?_ _)); refine qi1 ?_ NB163_175.out _; (with_reducible repeat (first | refine qg0 ?_ _ | refine qi0 ?_ | refine qh0 ?_ _)); refine qi1 ?_ NB163_175.out _; (with_reducible repeat (first | refine qg0 ?_ _ | refine qi0 ?_ | refine qh0 ?_ _)); exact BK163.out) NB163_1.out (by simp)); have n1_ := Aside0.mk (ql0.blk hk (g' := gb175) (o := .cells #[.int .i64 ((rd_T98 l0_3 x42_2).f0), .int .i64 ((rd_T98 l0_3 x42_2).f1), .int .i64 ((rd_T98 l0_3 x42_2).f2), .int .i64 ((rd_T98 l0_3 x42_2).f3), .int .i64 ((rd_T98 l0_3 x42_2).f4)] 98 (0, 0)) (by (with_reducible repeat (first | refine qg0 ?_ _ | refine qi0 ?_ | refine qh0 ?_ _)); refine qf1 (cs := #[.int .i64 ((rd_T98 l0_3 x42_2).f0), .int .i64 ((rd_T98 l0_3 x42_2).f1), .int .i64 ((rd_T98 l0_3 x42_2).f2), .int .i64 ((rd_T98 l0_3 x42_2).f3), .int .i64 0]) ?_ 4 _ rfl; (with_reducible repeat (first | refine qg0 ?_ _ | refine qi0 ?_ | refine qh0 ?_ _)); refine qf1 (cs := #[.int .i64 ((rd_T98 l0_3 x42_2).f0), .int .i64 ((rd_T98 l0_3 x42_2).f1), .int .i64 ((rd_T98 l0_3 x42_2).f2), .int .i64 0, .int .i64 0]) ?_ 3 _ rfl; (with_reducible repeat (first | refine qg0 ?_ _ | refine qi0 ?_ | refine qh0 ?_ _)); refine qf1 (cs := #[.int .i64 ((rd_T98 l0_3 x42_2).f0), .int .i64 ((rd_T98 l0_3 x42_2).f1), .int .i64 0, .int .i64 0, .int .i64 0]) ?_ 2 _ rfl; (with_reducible repeat (first | refine qg0 ?_ _ | refine qi0 ?_ | refine qh0 ?_ _)); refine qf1 (cs := #[.int .i64 ((rd_T98 l0_3 x42_2).f0), .int .i64 0, .int .i64 0, .int .i64 0, .int .i64 0]) ?_ 1 _ rfl; (with_reducible repeat (first | refine qg0 ?_ _ | refine qi0 ?_ | refine qh0 ?_ _)); refine qf1 (cs := #[.int .i64 0, .int .i64 0, .int .i64 0, .int .i64 0, .int .i64 0]) ?_ 0 _ rfl; (with_reducible repeat (first | refine qg0 ?_ _ | refine qi0 ?_ | refine qh0 ?_ _)); exact BK175.out) NB175_1.out (by simp)); have n2_ := Aside0.mk (ql0.trans (by repeat (first | (with_reducible first | exact HK.out | apply ql0.set_ | apply qr0 | apply qv0 | apply qs0 | refine qz0 ?_ GW163.out _ | refine qz0 ?_ GW175.out _) | exact HK.out)) hk (.inl rfl)); have n3_ := Aside0.mk (hb); have n4_ := Aside0.mk (hi); clear BK163; clear BK175; clear HK; clear HB; clear HI1; have BK163 := n0_; have BK175 := n1_; have HK := n2_; have HB := n3_; have HI1 := n4_; clear n0_ n1_ n2_ n3_ n4_; (try clear hb); (try clear hb2); (try clear hk); (try clear hi); have hcz39_0 : w38.cell? ⟨gb175, 0, none⟩ = some (.int .i64 ((rd_T98 l0_3 x42_2).f0)) := (qe0 BK175.out 0).trans rfl; have hcz39_1 : w38.cell? ⟨gb175, 1, none⟩ = some (.int .i64 ((rd_T98 l0_3 x42_2).f1)) := (qe0 BK175.out 1).trans rfl; have hcz39_2 : w38.cell? ⟨gb175, 2, none⟩ = some (.int .i64 ((rd_T98 l0_3 x42_2).f2)) := (qe0 BK175.out 2).trans rfl; have hcz39_3 : w38.cell? ⟨gb175, 3, none⟩ = some (.int .i64 ((rd_T98 l0_3 x42_2).f3)) := (qe0 BK175.out 3).trans rfl; have hcz39_4 : w38.cell? ⟨gb175, 4, none⟩ = some (.int .i64 ((rd_T98 l0_3 x42_2).f4)) := (qe0 BK175.out 4).trans rfl; have hfz39_0 := qd0 BK175.out 0; have hfz39_1 := qd0 BK175.out 1; have hfz39_2 := qd0 BK175.out 2; have hfz39_3 := qd0 BK175.out 3; have hfz39_4 := qd0 BK175.out 4) | (go_at_call 128; (with_reducible refine (impl_chain_link.calls g t176 t177 ((rd_T98 l0_3 x42_2).f1) t178 t179 w0 _ ?side1 ?side2 A30.out).mono ?_); (case side1 => repeat (first | (with_reducible first | exact HI1.out | apply IsS182.alloc | apply IsS182.drewN | apply IsS182.drew | apply IsS182.set_0 | apply IsS182.set_1 | refine IsS182.far ?_ NB1_163.out _ | refine IsS182.far ?_ NB1_175.out _) | exact HI1.out)); (case side2 => repeat (first | (with_reducible first | exact HB.out | apply qb0 | apply qa0 | apply qc0 | refine qf0 ?_ (IsS182.ge HI1.out) | refine qf0 ?_ GE163.out | refine qf0 ?_ GE175.out) | exact HB.out)); rintro e w40 ⟨rfl, hi, hb, hk⟩; have n0_ := Aside0.mk (ql0.blk hk (g' := gb163) (o := .cells #[.int .i64 a0_0, .int .i64 a0_1, .string a0_2, .slice (some ad174) l0_3.length c0_3] 96 (0, 0)) (by (with_reducible repeat (first | refine qg0 ?_ _ | refine qi0 ?_ | refine qh0 ?_ _)); exact BK163.out) NB163_1.out (by simp)); have n1_ := Aside0.mk (ql0.blk hk (g' := gb175) (o := .cells #[.int .i64 ((rd_T98 l0_3 x42_2).f0), .int .i64 ((rd_T98 l0_3 x42_2).f1), .int .i64 ((rd_T98 l0_3 x42_2).f2), .int .i64 ((rd_T98 l0_3 x42_2).f3), .int .i64 ((rd_T98 l0_3 x42_2).f4)] 98 (0, 0)) (by (with_reducible repeat (first | refine qg0 ?_ _ | refine qi0 ?_ | refine qh0 ?_ _)); exact BK175.out) NB175_1.out (by simp)); have n2_ := Aside0.mk (ql0.trans (by repeat (first | (with_reducible first | exact HK.out | apply ql0.set_ | apply qr0 | apply qv0 | apply qs0 | refine qz0 ?_ GW163.out _ | refine qz0 ?_ GW175.out _) | exact HK.out)) hk (.inl rfl)); have n3_ := Aside0.mk (hb); have n4_ := Aside0.mk (hi); clear BK163; clear BK175; clear HK; clear HB; clear HI1; have BK163 := n0_; have BK175 := n1_; have HK := n2_; have HB := n3_; have HI1 := n4_; clear n0_ n1_ n2_ n3_ n4_; (try clear hb); (try clear hb2); (try clear hk); (try clear hi); have hcz41_0 : w40.cell? ⟨gb175, 0, none⟩ = some (.int .i64 ((rd_T98 l0_3 x42_2).f0)) := (qe0 BK175.out 0).trans rfl; have hcz41_1 : w40.cell? ⟨gb175, 1, none⟩ = some (.int .i64 ((rd_T98 l0_3 x42_2).f1)) := (qe0 BK175.out 1).trans rfl; have hcz41_2 : w40.cell? ⟨gb175, 2, none⟩ = some (.int .i64 ((rd_T98 l0_3 x42_2).f2)) := (qe0 BK175.out 2).trans rfl; have hcz41_3 : w40.cell? ⟨gb175, 3, none⟩ = some (.int .i64 ((rd_T98 l0_3 x42_2).f3)) := (qe0 BK175.out 3).trans rfl; have hcz41_4 : w40.cell? ⟨gb175, 4, none⟩ = some (.int .i64 ((rd_T98 l0_3 x42_2).f4)) := (qe0 BK175.out 4).trans rfl; have hfz41_0 := qd0 BK175.out 0; have hfz41_1 := qd0 BK175.out 1; have hfz41_2 := qd0 BK175.out 2; have hfz41_3 := qd0 BK175.out 3; have hfz41_4 := qd0 BK175.out 4) | (go_at_call 128; (with_reducible refine (impl_chain_link.calls g t178 t179 ((rd_T98 l0_3 x42_2).f2) t180 t181 w0 _ ?side1 ?side2 A31.out).mono ?_); (case side1 => repeat (first | (with_reducible first | exact HI1.out | apply IsS182.alloc | apply IsS182.drewN | apply IsS182.drew | apply IsS182.set_0 | apply IsS182.set_1 | refine IsS182.far ?_ NB1_163.out _ | refine IsS182.far ?_ NB1_175.out _) | exact HI1.out)); (case side2 => repeat (first | (with_reducible first | exact HB.out | apply qb0 | apply qa0 | apply qc0 | refine qf0 ?_ (IsS182.ge HI1.out) | refine qf0 ?_ GE163.out | refine qf0 ?_ GE175.out) | exact HB.out)); rintro e w42 ⟨rfl, hi, hb, hk⟩; have n0_ := Aside0.mk (ql0.blk hk (g' := gb163) (o := .cells #[.int .i64 a0_0, .int .i64 a0_1, .string a0_2, .slice (some ad174) l0_3.length c0_3] 96 (0, 0)) (by (with_reducible repeat (first | refine qg0 ?_ _ | refine qi0 ?_ | refine qh0 ?_ _)); exact BK163.out) NB163_1.out (by simp)); have n1_ := Aside0.mk (ql0.blk hk (g' := gb175) (o := .cells #[.int .i64 ((rd_T98 l0_3 x42_2).f0), .int .i64 ((rd_T98 l0_3 x42_2).f1), .int .i64 ((rd_T98 l0_3 x42_2).f2), .int .i64 ((rd_T98 l0_3 x42_2).f3), .int .i64 ((rd_T98 l0_3 x42_2).f4)] 98 (0, 0)) (by (with_reducible repeat (first | refine qg0 ?_ _ | refine qi0 ?_ | refine qh0 ?_ _)); exact BK175.out) NB175_1.out (by simp)); have n2_ := Aside0.mk (ql0.trans (by repeat (first | (with_reducible first | exact HK.out | apply ql0.set_ | apply qr0 | apply qv0 | apply qs0 | refine qz0 ?_ GW163.out _ | refine qz0 ?_ GW175.out _) | exact HK.out)) hk (.inl rfl)); have n3_ := Aside0.mk (hb); have n4_ := Aside0.mk (hi); clear BK163; clear BK175; clear HK; clear HB; clear HI1; have BK163 := n0_; have BK175 := n1_; have HK := n2_; have HB := n3_; have HI1 := n4_; clear n0_ n1_ n2_ n3_ n4_; (try clear hb); (try clear hb2); (try clear hk); (try clear hi); have hcz43_0 : w42.cell? ⟨gb175, 0, none⟩ = some (.int .i64 ((rd_T98 l0_3 x42_2).f0)) := (qe0 BK175.out 0).trans rfl; have hcz43_1 : w42.cell? ⟨gb175, 1, none⟩ = some (.int .i64 ((rd_T98 l0_3 x42_2).f1)) := (qe0 BK175.out 1).trans rfl; have hcz43_2 : w42.cell? ⟨gb175, 2, none⟩ = some (.int .i64 ((rd_T98 l0_3 x42_2).f2)) := (qe0 BK175.out 2).trans rfl; have hcz43_3 : w42.cell? ⟨gb175, 3, none⟩ = some (.int .i64 ((rd_T98 l0_3 x42_2).f3)) := (qe0 BK175.out 3).trans rfl; have hcz43_4 : w42.cell? ⟨gb175, 4, none⟩ = some (.int .i64 ((rd_T98 l0_3 x42_2).f4)) := (qe0 BK175.out 4).trans rfl; have hfz43_0 := qd0 BK175.out 0; have hfz43_1 := qd0 BK175.out 1; have hfz43_2 := qd0 BK175.out 2; have hfz43_3 := qd0 BK175.out 3; have hfz43_4 := qd0 BK175.out 4) | (go_at_call 128; (with_reducible refine (impl_chain_link.calls g t180 t181 ((rd_T98 l0_3 x42_2).f3) t182 t183 w0 _ ?side1 ?side2 A32.out).mono ?_); (case side1 => repeat (first | (with_reducible first | exact HI1.out | apply IsS182.alloc | apply IsS182.drewN | apply IsS182.drew | apply IsS182.set_0 | apply IsS182.set_1 | refine IsS182.far ?_ NB1_163.out _ | refine IsS182.far ?_ NB1_175.out _) | exact HI1.out)); (case side2 => repeat (first | (with_reducible first | exact HB.out | apply qb0 | apply qa0 | apply qc0 | refine qf0 ?_ (IsS182.ge HI1.out) | refine qf0 ?_ GE163.out | refine qf0 ?_ GE175.out) | exact HB.out)); rintro e w44 ⟨rfl, hi, hb, hk⟩; have n0_ := Aside0.mk (ql0.blk hk (g' := gb163) (o := .cells #[.int .i64 a0_0, .int .i64 a0_1, .string a0_2, .slice (some ad174) l0_3.length c0_3] 96 (0, 0)) (by (with_reducible repeat (first | refine qg0 ?_ _ | refine qi0 ?_ | refine qh0 ?_ _)); exact BK163.out) NB163_1.out (by simp)); have n1_ := Aside0.mk (ql0.blk hk (g' := gb175) (o := .cells #[.int .i64 ((rd_T98 l0_3 x42_2).f0), .int .i64 ((rd_T98 l0_3 x42_2).f1), .int .i64 ((rd_T98 l0_3 x42_2).f2), .int .i64 ((rd_T98 l0_3 x42_2).f3), .int .i64 ((rd_T98 l0_3 x42_2).f4)] 98 (0, 0)) (by (with_reducible repeat (first | refine qg0 ?_ _ | refine qi0 ?_ | refine qh0 ?_ _)); exact BK175.out) NB175_1.out (by simp)); have n2_ := Aside0.mk (ql0.trans (by repeat (first | (with_reducible first | exact HK.out | apply ql0.set_ | apply qr0 | apply qv0 | apply qs0 | refine qz0 ?_ GW163.out _ | refine qz0 ?_ GW175.out _) | exact HK.out)) hk (.inl rfl)); have n3_ := Aside0.mk (hb); have n4_ := Aside0.mk (hi); clear BK163; clear BK175; clear HK; clear HB; clear HI1; have BK163 := n0_; have BK175 := n1_; have HK := n2_; have HB := n3_; have HI1 := n4_; clear n0_ n1_ n2_ n3_ n4_; (try clear hb); (try clear hb2); (try clear hk); (try clear hi); have hcz45_0 : w44.cell? ⟨gb175, 0, none⟩ = some (.int .i64 ((rd_T98 l0_3 x42_2).f0)) := (qe0 BK175.out 0).trans rfl; have hcz45_1 : w44.cell? ⟨gb175, 1, none⟩ = some (.int .i64 ((rd_T98 l0_3 x42_2).f1)) := (qe0 BK175.out 1).trans rfl; have hcz45_2 : w44.cell? ⟨gb175, 2, none⟩ = some (.int .i64 ((rd_T98 l0_3 x42_2).f2)) := (qe0 BK175.out 2).trans rfl; have hcz45_3 : w44.cell? ⟨gb175, 3, none⟩ = some (.int .i64 ((rd_T98 l0_3 x42_2).f3)) := (qe0 BK175.out 3).trans rfl; have hcz45_4 : w44.cell? ⟨gb175, 4, none⟩ = some (.int .i64 ((rd_T98 l0_3 x42_2).f4)) := (qe0 BK175.out 4).trans rfl; have hfz45_0 := qd0 BK175.out 0; have hfz45_1 := qd0 BK175.out 1; have hfz45_2 := qd0 BK175.out 2; have hfz45_3 := qd0 BK175.out 3; have hfz45_4 := qd0 BK175.out 4) | (go_at_call 128; (with_reducible refine (impl_chain_link.calls g t182 t183 ((rd_T98 l0_3 x42_2).f4) t184 t185 w0 _ ?side1 ?side2 A33.out).mono ?_); (case side1 => repeat (first | (with_reducible first | exact HI1.out | apply IsS182.alloc | apply IsS182.drewN | apply IsS182.drew | apply IsS182.set_0 | apply IsS182.set_1 | refine IsS182.far ?_ NB1_163.out _ | refine IsS182.far ?_ NB1_175.out _) | exact HI1.out)); (case side2 => repeat (first | (with_reducible first | exact HB.out | apply qb0 | apply qa0 | apply qc0 | refine qf0 ?_ (IsS182.ge HI1.out) | refine qf0 ?_ GE163.out | refine qf0 ?_ GE175.out) | exact HB.out)); rintro e w46 ⟨rfl, hi, hb, hk⟩; have n0_ := Aside0.mk (ql0.blk hk (g' := gb163) (o := .cells #[.int .i64 a0_0, .int .i64 a0_1, .string a0_2, .slice (some ad174) l0_3.length c0_3] 96 (0, 0)) (by (with_reducible repeat (first | refine qg0 ?_ _ | refine qi0 ?_ | refine qh0 ?_ _)); exact BK163.out) NB163_1.out (by simp)); have n1_ := Aside0.mk (ql0.blk hk (g' := gb175) (o := .cells #[.int .i64 ((rd_T98 l0_3 x42_2).f0), .int .i64 ((rd_T98 l0_3 x42_2).f1), .int .i64 ((rd_T98 l0_3 x42_2).f2), .int .i64 ((rd_T98 l0_3 x42_2).f3), .int .i64 ((rd_T98 l0_3 x42_2).f4)] 98 (0, 0)) (by (with_reducible repeat (first | refine qg0 ?_ _ | refine qi0 ?_ | refine qh0 ?_ _)); exact BK175.out) NB175_1.out (by simp)); have n2_ := Aside0.mk (ql0.trans (by repeat (first | (with_reducible first | exact HK.out | apply ql0.set_ | apply qr0 | apply qv0 | apply qs0 | refine qz0 ?_ GW163.out _ | refine qz0 ?_ GW175.out _) | exact HK.out)) hk (.inl rfl)); have n3_ := Aside0.mk (hb); have n4_ := Aside0.mk (hi); clear BK163; clear BK175; clear HK; clear HB; clear HI1; have BK163 := n0_; have BK175 := n1_; have HK := n2_; have HB := n3_; have HI1 := n4_; clear n0_ n1_ n2_ n3_ n4_; (try clear hb); (try clear hb2); (try clear hk); (try clear hi)))
      go_roundg k2
      case measure => have := HK1.out; have := HK2.out; omega
      case rel => exact ⟨(wrap64 (x42_2 + 1)), (t184), (t185), (by first | rfl | (simp; done) | (simp [*]; done)), H', ⟨by have := HK1.out; have := HK2.out; omega⟩, ⟨by (with_reducible repeat (first | refine qg0 ?_ _ | refine qi0 ?_ | refine qh0 ?_ _)); exact BK163.out⟩, ⟨by repeat (first | (with_reducible first | exact HI1.out | apply IsS182.alloc | apply IsS182.drewN | apply IsS182.drew | apply IsS182.set_0 | apply IsS182.set_1 | refine IsS182.far ?_ NB1_163.out _ | refine IsS182.far ?_ NB1_175.out _) | exact HI1.out)⟩, ⟨by repeat (first | (with_reducible first | exact HK.out | apply ql0.set_ | apply qr0 | apply qv0 | apply qs0 | refine qz0 ?_ GW163.out _ | refine qz0 ?_ GW175.out _) | exact HK.out)⟩, ⟨by repeat (first | (with_reducible first | exact HB.out | apply qb0 | apply qa0 | apply qc0 | refine qf0 ?_ (IsS182.ge HI1.out) | refine qf0 ?_ GE163.out | refine qf0 ?_ GE175.out) | exact HB.out)⟩⟩
     rw [if_neg c26] at H
     have c26b0 : decide (x42_2 < (l0_3.length : Int)) = false := decide_eq_false c26
     clear c26
     simp only [Option.some.injEq, Prod.mk.injEq] at H
     obtain ⟨rfl, rfl⟩ := H
     go_wp2
     first | go_end0 | ((try simp only [Exit.inBlock, Exit.then]); refine bodyPost_ret (results_none rfl _ _ _) rfl ?_)
     exact ⟨by first | rfl | (simp [errW_none, errW_some] <;> rfl) | (simp [*, errW_none, errW_some] <;> rfl), by repeat (first | (with_reducible first | exact HI1.out | apply IsS182.alloc | apply IsS182.drewN | apply IsS182.drew | apply IsS182.set_0 | apply IsS182.set_1 | refine IsS182.far ?_ NB1_163.out _) | exact HI1.out), by repeat (first | (with_reducible first | exact HB.out | apply qb0 | apply qa0 | apply qc0 | refine qf0 ?_ (IsS182.ge HI1.out) | refine qf0 ?_ GE163.out) | exact HB.out), by repeat (first | (with_reducible first | exact HK.out | apply ql0.set_ | apply qr0 | apply qv0 | apply qs0 | refine qz0 ?_ GW163.out _) | exact HK.out)⟩

/-! ### impl_HeadOf: function 60 -/
def impl_HeadOf.l0 : Nat → List (S96) → Int → Int → Int → Bool → Option (Int)
 | 0, _, _, _, _, _ => none
 | k + 1, x14, x15, x16, x187000, x187001 => if x16 < x15 then (if 0 ≤ x16 then (if x16 < (x14.length : Int) then (if (((rd_T96 x14 x16).f3).length : Int) > 60 then (some 0) else (if (((rd_T96 x14 x16).f2).size : Int) > 40 then (some 0) else ((impl_numbersOf.f k ((rd_T96 x14 x16).f0) ((rd_T96 x14 x16).f1) ((rd_T96 x14 x16).f2) ((rd_T96 x14 x16).f3) x187000 x187001).bind fun bt189 => (impl_HeadOf.l0 k x14 x15 (wrap64 (x16 + 1)) bt189.1 bt189.2)))) else (none)) else (none)) else (if x187001 = true then (some 0) else (some x187000))
def impl_HeadOf.f (k : Nat) (l0 : List (S96)) : Option (Int) := if (l0.length : Int) > 1000 then (some 0) else (impl_HeadOf.l0 k l0 (l0.length : Int) 0 1 false)
theorem impl_HeadOf.mono_l : ∀ k, (∀ y0 y1 y2 y3 y4, LeO (impl_HeadOf.l0 k y0 y1 y2 y3 y4) (impl_HeadOf.l0 (k + 1) y0 y1 y2 y3 y4))
 | 0 => fun _ _ _ _ _ r h => by simp [impl_HeadOf.l0] at h
 | k + 1 => by
  have ih0 := impl_HeadOf.mono_l k
  ·intro y0 y1 y2 y3 y4
   unfold impl_HeadOf.l0
   repeat' first
   | (with_reducible exact ih0 _ _ _ _ _)
   | (with_reducible exact impl_numbersOf.mono _ _ _ _ _ _ _)
   | (with_reducible exact LeO.refl _)
   | (with_reducible exact LeO.none _)
   | (with_reducible refine LeO.ite ?_ ?_)
   | (with_reducible refine LeO.bind ?_ (fun _ => ?_))
   | exact ih0 _ _ _ _ _
   | exact impl_numbersOf.mono _ _ _ _ _ _ _
   | exact LeO.none _
   | refine LeO.ite ?_ ?_
   | refine LeO.bind ?_ (fun _ => ?_)
theorem impl_HeadOf.mono : ∀ a0 k, LeO (impl_HeadOf.f k a0) (impl_HeadOf.f (k + 1) a0) := by
 intro a0 k
 have ih0 := impl_HeadOf.mono_l k
 unfold impl_HeadOf.f
 repeat' first
   | (with_reducible exact ih0 _ _ _ _ _)
   | (with_reducible exact impl_numbersOf.mono _ _ _ _ _ _ _)
   | (with_reducible exact LeO.refl _)
   | (with_reducible exact LeO.none _)
   | (with_reducible refine LeO.ite ?_ ?_)
   | (with_reducible refine LeO.bind ?_ (fun _ => ?_))
   | exact ih0 _ _ _ _ _
   | exact impl_numbersOf.mono _ _ _ _ _ _ _
   | exact LeO.none _
   | refine LeO.ite ?_ ?_
   | refine LeO.bind ?_ (fun _ => ?_)
set_option maxHeartbeats 8000000 in
set_option maxRecDepth 100000 in
theorem impl_HeadOf.calls (k : Nat) (A0 : Option Addr) (c0 : Nat) (l0 : List (S96)) (r : Int) (w : World) (hr0 : Kd.C k96 w A0 l0.length l0) (hc0 : l0.length ≤ c0) (h : impl_HeadOf.f k l0 = some r) :
  Calls Try.prog 60 #[.slice A0 l0.length c0] w fun e w' => e = .returned (.int .i64 r) ∧ Below w.heap.size w w' := by
 have hu182 := Try.underlying182
 have hu96 := Try.underlying96
 have hmf : ∀ (fn : Fn) (first cap : Array Value) (w : World), (Instr.makeFunc fn first cap).run Try.prog w = .ok (.func fn first cap) w := fun _ _ _ _ => rfl
 have HR0 := Aside0.mk hr0
 have HC0 := Aside0.mk hc0
 clear hr0 hc0
 have HB := Aside0.mk (Below.refl w.heap.size w)
 have H : (if (l0.length : Int) > 1000 then (some 0) else (impl_HeadOf.l0 k l0 (l0.length : Int) 0 1 false)) = some r := h
 clear h
 by_cases c2 : (l0.length : Int) > 1000
 ·rw [if_pos c2] at H
  have c2b0 : decide (1000 < (l0.length : Int)) = true := decide_eq_true c2
  have c2b1 : decide (1000 < l0.length) = true := decide_eq_true (by omega)
  clear c2
  obtain rfl := Option.some.inj H
  go_enter Try.func60, Try.ntmps60
  go_wp2
  go_ret
  exact ⟨by first | rfl | (simp [errW_none, errW_some] <;> rfl) | (simp [*, errW_none, errW_some] <;> rfl), by repeat (first | (with_reducible first | exact HB.out | apply qb0 | apply qa0 | apply qc0) | exact HB.out)⟩
 rw [if_neg c2] at H
 have c2b0 : decide (1000 < (l0.length : Int)) = false := decide_eq_false c2
 have c2b1 : decide (1000 < l0.length) = false := decide_eq_false (by omega)
 clear c2
 have H' := Aside0.mk H
 clear H
 go_enter Try.func60, Try.ntmps60
 go_wp2_with (first | ((with_reducible refine qo0 (N := 11) rfl ?_); (try (refine gate_guard (by rfl) ?_; dsimp only)); refine qn0 ?hg (N := 11) ?hd (cs := #[.int .i64 1, .bool false]) (t := 182) ?hr ?_; (case hd => rfl); (case hg => rfl); (case hr => first | (go_simp; done) | (go_simp; rfl)); intro gb186 hg w3 hbox hb; have n0_ := Aside0.mk (qk0 (by repeat (first | (with_reducible first | exact HB.out | apply qb0 | apply qa0 | apply qc0) | exact HB.out)) hb); have n1_ := Aside0.mk ((by rw [hg]; exact (qj0 (by repeat (first | (with_reducible first | exact HB.out | apply qb0 | apply qa0 | apply qc0) | exact HB.out))) : w.heap.size ≤ gb186)); have n2_ := Aside0.mk ((by rw [hg]; exact (qj0 (by repeat (first | (with_reducible first | exact HB.out | apply qb0 | apply qa0 | apply qc0) | exact HB.out))) : w.heap.size ≤ gb186)); have n3_ := Aside0.mk ((⟨hbox, (by rw [hg]; exact (qj0 (by repeat (first | (with_reducible first | exact HB.out | apply qb0 | apply qa0 | apply qc0) | exact HB.out))) : w.heap.size ≤ gb186)⟩ : IsS182 w w3 gb186 1 false)); clear HB; have HB := n0_; have GW186 := n1_; have GE186 := n2_; have HI186 := n3_; clear n0_ n1_ n2_ n3_; clear hb hbox hg))
 go_loopg [16] k (fun kq v16 w' => ∃ (x16_1 : Int) (x187000_1 : Int) (x187001_1 : Bool), v16 = .int .i64 x16_1 ∧ Aside0 (impl_HeadOf.l0 kq l0 (l0.length : Int) x16_1 x187000_1 x187001_1 = some r) ∧ Aside0 (kq ≤ k) ∧ Aside0 (IsS182 w w' gb186 x187000_1 x187001_1) ∧ Aside0 (Below w.heap.size w w'))
 case atStart => exact ⟨(0), (1), (false), (by first | rfl | (simp; done) | (simp [*]; done)), H', ⟨Nat.le_refl _⟩, ⟨by repeat (first | (with_reducible first | exact HI186.out | apply IsS182.alloc | apply IsS182.drewN | apply IsS182.drew | apply IsS182.set_0 | apply IsS182.set_1) | exact HI186.out)⟩, ⟨by repeat (first | (with_reducible first | exact HB.out | apply qb0 | apply qa0 | apply qc0 | refine qf0 ?_ (IsS182.ge HI186.out)) | exact HB.out)⟩⟩
 case round =>
  clear H'
  try clear c2
  try clear c2b0
  try clear c2b1
  try clear p2
  obtain ⟨x16_1, x187000_1, x187001_1, rfl, HA, HK1, HI186, HB⟩ := hrel
  cases gk with
  | zero => exact absurd HA.out (by simp [impl_HeadOf.l0])
  | succ k1 =>
   have H := HA.out
   clear HA
   simp only [impl_HeadOf.l0] at H
   by_cases c4 : x16_1 < (l0.length : Int)
   ·rw [if_pos c4] at H
    have c4b0 : decide (x16_1 < (l0.length : Int)) = true := decide_eq_true c4
    clear c4
    by_cases c5 : 0 ≤ x16_1
    case neg => rw [if_neg c5] at H; exact absurd H (by simp)
    rw [if_pos c5] at H
    have c5b0 : decide (0 ≤ x16_1) = true := decide_eq_true c5
    clear c5
    by_cases c6 : x16_1 < (l0.length : Int)
    case neg => rw [if_neg c6] at H; exact absurd H (by simp)
    rw [if_pos c6] at H
    have c6b0 : decide (x16_1 < (l0.length : Int)) = true := decide_eq_true c6
    clear c6
    by_cases c7 : (((rd_T96 l0 x16_1).f3).length : Int) > 60
    ·rw [if_pos c7] at H
     have c7b0 : decide (60 < (((rd_T96 l0 x16_1).f3).length : Int)) = true := decide_eq_true c7
     have c7b1 : decide (60 < ((rd_T96 l0 x16_1).f3).length) = true := decide_eq_true (by omega)
     clear c7
     obtain rfl := Option.some.inj H
     have p187 : 0 ≤ (x16_1 : Int) := of_decide_eq_true (by first | (with_reducible assumption) | assumption)
     have q187 : x16_1 < (l0.length : Int) := of_decide_eq_true (by first | (with_reducible assumption) | assumption)
     obtain ⟨ad187, A187_3, c187_3, e187, hx187_0, hx187_1, hx187_2, hx187_3, hl187_3, hi187_3⟩ := at_T96 HR0.out x16_1 p187 q187
     cases e187
     replace hx187_0 := (HB.out.cell (World.block_lt_of_cell? w _ hx187_0)).trans hx187_0
     replace hx187_1 := (HB.out.cell (World.block_lt_of_cell? w _ hx187_1)).trans hx187_1
     replace hx187_2 := (HB.out.cell (World.block_lt_of_cell? w _ hx187_2)).trans hx187_2
     replace hx187_3 := (HB.out.cell (World.block_lt_of_cell? w _ hx187_3)).trans hx187_3
     have HR187_3 := Aside0.mk hi187_3
     have HC187_3 := Aside0.mk hl187_3
     clear hi187_3 hl187_3
     replace p187 := eq_true p187
     replace q187 := eq_true q187
     go_wp2_with (first | ((with_reducible refine qo0 (N := 6) rfl ?_); (try (refine gate_guard (by rfl) ?_; dsimp only)); refine qn0 ?hg (N := 6) ?hd (cs := #[.int .i64 0, .int .i64 0, .string (⟨#[]⟩ : ByteArray), .slice none 0 0]) (t := 96) ?hr ?_; (case hd => rfl); (case hg => rfl); (case hr => first | (go_simp; done) | (go_simp; rfl)); intro gb188 hg w8 hbox hb; have n0_ := Aside0.mk (IsS182.below (by repeat (first | (with_reducible first | exact HI186.out | apply IsS182.alloc | apply IsS182.drewN | apply IsS182.drew | apply IsS182.set_0 | apply IsS182.set_1) | exact HI186.out)) hb); have n1_ := Aside0.mk (qk0 (by repeat (first | (with_reducible first | exact HB.out | apply qb0 | apply qa0 | apply qc0 | refine qf0 ?_ (IsS182.ge HI186.out)) | exact HB.out)) hb); have n2_ := Aside0.mk (hbox); have n3_ := Aside0.mk ((by rw [hg]; exact (qj0 (by repeat (first | (with_reducible first | exact HB.out | apply qb0 | apply qa0 | apply qc0 | refine qf0 ?_ (IsS182.ge HI186.out)) | exact HB.out))) : w.heap.size ≤ gb188)); have n4_ := Aside0.mk ((by rw [hg]; exact (qj0 (by repeat (first | (with_reducible first | exact HB.out | apply qb0 | apply qa0 | apply qc0 | refine qf0 ?_ (IsS182.ge HI186.out)) | exact HB.out))) : w.heap.size ≤ gb188)); have n5_ := Aside0.mk ((by rw [hg]; exact Nat.ne_of_lt (IsS182.lt (show IsS182 w _ gb186 x187000_1 x187001_1 from by repeat (first | (with_reducible first | exact HI186.out | apply IsS182.alloc | apply IsS182.drewN | apply IsS182.drew | apply IsS182.set_0 | apply IsS182.set_1) | exact HI186.out))) : gb186 ≠ gb188)); have n6_ := Aside0.mk ((by rw [hg]; exact Nat.ne_of_gt (IsS182.lt (show IsS182 w _ gb186 x187000_1 x187001_1 from by repeat (first | (with_reducible first | exact HI186.out | apply IsS182.alloc | apply IsS182.drewN | apply IsS182.drew | apply IsS182.set_0 | apply IsS182.set_1) | exact HI186.out))) : gb188 ≠ gb186)); clear HI186; clear HB; have HI186 := n0_; have HB := n1_; have BK188 := n2_; have GW188 := n3_; have GE188 := n4_; have NB186_188 := n5_; have NB188_186 := n6_; clear n0_ n1_ n2_ n3_ n4_ n5_ n6_; clear hb hbox hg; have hnb9 := NB188_186.out; have hnc9 := NB186_188.out; have hcz10_0 : w8.cell? ⟨gb188, 0, none⟩ = some (.int .i64 0) := (qe0 BK188.out 0).trans rfl; have hcz10_1 : w8.cell? ⟨gb188, 1, none⟩ = some (.int .i64 0) := (qe0 BK188.out 1).trans rfl; have hcz10_2 : w8.cell? ⟨gb188, 2, none⟩ = some (.string (⟨#[]⟩ : ByteArray)) := (qe0 BK188.out 2).trans rfl; have hcz10_3 : w8.cell? ⟨gb188, 3, none⟩ = some (.slice none 0 0) := (qe0 BK188.out 3).trans rfl; have hfz10_0 := qd0 BK188.out 0; have hfz10_1 := qd0 BK188.out 1; have hfz10_2 := qd0 BK188.out 2; have hfz10_3 := qd0 BK188.out 3))
     go_ret
     exact ⟨by first | rfl | (simp [errW_none, errW_some] <;> rfl) | (simp [*, errW_none, errW_some] <;> rfl), by repeat (first | (with_reducible first | exact HB.out | apply qb0 | apply qa0 | apply qc0 | refine qf0 ?_ (IsS182.ge HI186.out) | refine qf0 ?_ GE188.out) | exact HB.out)⟩
    rw [if_neg c7] at H
    have c7b0 : decide (60 < (((rd_T96 l0 x16_1).f3).length : Int)) = false := decide_eq_false c7
    have c7b1 : decide (60 < ((rd_T96 l0 x16_1).f3).length) = false := decide_eq_false (by omega)
    clear c7
    by_cases c11 : (((rd_T96 l0 x16_1).f2).size : Int) > 40
    ·rw [if_pos c11] at H
     have c11b0 : decide (40 < (((rd_T96 l0 x16_1).f2).size : Int)) = true := decide_eq_true c11
     have c11b1 : decide (40 < ((rd_T96 l0 x16_1).f2).size) = true := decide_eq_true (by omega)
     clear c11
     obtain rfl := Option.some.inj H
     have p187 : 0 ≤ (x16_1 : Int) := of_decide_eq_true (by first | (with_reducible assumption) | assumption)
     have q187 : x16_1 < (l0.length : Int) := of_decide_eq_true (by first | (with_reducible assumption) | assumption)
     obtain ⟨ad187, A187_3, c187_3, e187, hx187_0, hx187_1, hx187_2, hx187_3, hl187_3, hi187_3⟩ := at_T96 HR0.out x16_1 p187 q187
     cases e187
     replace hx187_0 := (HB.out.cell (World.block_lt_of_cell? w _ hx187_0)).trans hx187_0
     replace hx187_1 := (HB.out.cell (World.block_lt_of_cell? w _ hx187_1)).trans hx187_1
     replace hx187_2 := (HB.out.cell (World.block_lt_of_cell? w _ hx187_2)).trans hx187_2
     replace hx187_3 := (HB.out.cell (World.block_lt_of_cell? w _ hx187_3)).trans hx187_3
     have HR187_3 := Aside0.mk hi187_3
     have HC187_3 := Aside0.mk hl187_3
     clear hi187_3 hl187_3
     replace p187 := eq_true p187
     replace q187 := eq_true q187
     go_wp2_with (first | ((with_reducible refine qo0 (N := 6) rfl ?_); (try (refine gate_guard (by rfl) ?_; dsimp only)); refine qn0 ?hg (N := 6) ?hd (cs := #[.int .i64 0, .int .i64 0, .string (⟨#[]⟩ : ByteArray), .slice none 0 0]) (t := 96) ?hr ?_; (case hd => rfl); (case hg => rfl); (case hr => first | (go_simp; done) | (go_simp; rfl)); intro gb188 hg w12 hbox hb; have n0_ := Aside0.mk (IsS182.below (by repeat (first | (with_reducible first | exact HI186.out | apply IsS182.alloc | apply IsS182.drewN | apply IsS182.drew | apply IsS182.set_0 | apply IsS182.set_1) | exact HI186.out)) hb); have n1_ := Aside0.mk (qk0 (by repeat (first | (with_reducible first | exact HB.out | apply qb0 | apply qa0 | apply qc0 | refine qf0 ?_ (IsS182.ge HI186.out)) | exact HB.out)) hb); have n2_ := Aside0.mk (hbox); have n3_ := Aside0.mk ((by rw [hg]; exact (qj0 (by repeat (first | (with_reducible first | exact HB.out | apply qb0 | apply qa0 | apply qc0 | refine qf0 ?_ (IsS182.ge HI186.out)) | exact HB.out))) : w.heap.size ≤ gb188)); have n4_ := Aside0.mk ((by rw [hg]; exact (qj0 (by repeat (first | (with_reducible first | exact HB.out | apply qb0 | apply qa0 | apply qc0 | refine qf0 ?_ (IsS182.ge HI186.out)) | exact HB.out))) : w.heap.size ≤ gb188)); have n5_ := Aside0.mk ((by rw [hg]; exact Nat.ne_of_lt (IsS182.lt (show IsS182 w _ gb186 x187000_1 x187001_1 from by repeat (first | (with_reducible first | exact HI186.out | apply IsS182.alloc | apply IsS182.drewN | apply IsS182.drew | apply IsS182.set_0 | apply IsS182.set_1) | exact HI186.out))) : gb186 ≠ gb188)); have n6_ := Aside0.mk ((by rw [hg]; exact Nat.ne_of_gt (IsS182.lt (show IsS182 w _ gb186 x187000_1 x187001_1 from by repeat (first | (with_reducible first | exact HI186.out | apply IsS182.alloc | apply IsS182.drewN | apply IsS182.drew | apply IsS182.set_0 | apply IsS182.set_1) | exact HI186.out))) : gb188 ≠ gb186)); clear HI186; clear HB; have HI186 := n0_; have HB := n1_; have BK188 := n2_; have GW188 := n3_; have GE188 := n4_; have NB186_188 := n5_; have NB188_186 := n6_; clear n0_ n1_ n2_ n3_ n4_ n5_ n6_; clear hb hbox hg; have hnb13 := NB188_186.out; have hnc13 := NB186_188.out; have hcz14_0 : w12.cell? ⟨gb188, 0, none⟩ = some (.int .i64 0) := (qe0 BK188.out 0).trans rfl; have hcz14_1 : w12.cell? ⟨gb188, 1, none⟩ = some (.int .i64 0) := (qe0 BK188.out 1).trans rfl; have hcz14_2 : w12.cell? ⟨gb188, 2, none⟩ = some (.string (⟨#[]⟩ : ByteArray)) := (qe0 BK188.out 2).trans rfl; have hcz14_3 : w12.cell? ⟨gb188, 3, none⟩ = some (.slice none 0 0) := (qe0 BK188.out 3).trans rfl; have hfz14_0 := qd0 BK188.out 0; have hfz14_1 := qd0 BK188.out 1; have hfz14_2 := qd0 BK188.out 2; have hfz14_3 := qd0 BK188.out 3))
     go_ret
     exact ⟨by first | rfl | (simp [errW_none, errW_some] <;> rfl) | (simp [*, errW_none, errW_some] <;> rfl), by repeat (first | (with_reducible first | exact HB.out | apply qb0 | apply qa0 | apply qc0 | refine qf0 ?_ (IsS182.ge HI186.out) | refine qf0 ?_ GE188.out) | exact HB.out)⟩
    rw [if_neg c11] at H
    have c11b0 : decide (40 < (((rd_T96 l0 x16_1).f2).size : Int)) = false := decide_eq_false c11
    have c11b1 : decide (40 < ((rd_T96 l0 x16_1).f2).size) = false := decide_eq_false (by omega)
    clear c11
    replace H := Option.bind_eq_some_iff.mp H
    obtain ⟨⟨t189, t190⟩, A150, H⟩ := H
    replace H : (impl_HeadOf.l0 k1 l0 (l0.length : Int) (wrap64 (x16_1 + 1)) t189 t190) = some r := H
    have A15 := Aside0.mk A150
    clear A150
    have H' := Aside0.mk H
    clear H
    have p187 : 0 ≤ (x16_1 : Int) := of_decide_eq_true (by first | (with_reducible assumption) | assumption)
    have q187 : x16_1 < (l0.length : Int) := of_decide_eq_true (by first | (with_reducible assumption) | assumption)
    obtain ⟨ad187, A187_3, c187_3, e187, hx187_0, hx187_1, hx187_2, hx187_3, hl187_3, hi187_3⟩ := at_T96 HR0.out x16_1 p187 q187
    cases e187
    replace hx187_0 := (HB.out.cell (World.block_lt_of_cell? w _ hx187_0)).trans hx187_0
    replace hx187_1 := (HB.out.cell (World.block_lt_of_cell? w _ hx187_1)).trans hx187_1
    replace hx187_2 := (HB.out.cell (World.block_lt_of_cell? w _ hx187_2)).trans hx187_2
    replace hx187_3 := (HB.out.cell (World.block_lt_of_cell? w _ hx187_3)).trans hx187_3
    have HR187_3 := Aside0.mk hi187_3
    have HC187_3 := Aside0.mk hl187_3
    clear hi187_3 hl187_3
    replace p187 := eq_true p187
    replace q187 := eq_true q187
    go_wp2_with (first | ((with_reducible refine qo0 (N := 6) rfl ?_); (try (refine gate_guard (by rfl) ?_; dsimp only)); refine qn0 ?hg (N := 6) ?hd (cs := #[.int .i64 0, .int .i64 0, .string (⟨#[]⟩ : ByteArray), .slice none 0 0]) (t := 96) ?hr ?_; (case hd => rfl); (case hg => rfl); (case hr => first | (go_simp; done) | (go_simp; rfl)); intro gb188 hg w16 hbox hb; have n0_ := Aside0.mk (IsS182.below (by repeat (first | (with_reducible first | exact HI186.out | apply IsS182.alloc | apply IsS182.drewN | apply IsS182.drew | apply IsS182.set_0 | apply IsS182.set_1) | exact HI186.out)) hb); have n1_ := Aside0.mk (qk0 (by repeat (first | (with_reducible first | exact HB.out | apply qb0 | apply qa0 | apply qc0 | refine qf0 ?_ (IsS182.ge HI186.out)) | exact HB.out)) hb); have n2_ := Aside0.mk (hbox); have n3_ := Aside0.mk ((by rw [hg]; exact (qj0 (by repeat (first | (with_reducible first | exact HB.out | apply qb0 | apply qa0 | apply qc0 | refine qf0 ?_ (IsS182.ge HI186.out)) | exact HB.out))) : w.heap.size ≤ gb188)); have n4_ := Aside0.mk ((by rw [hg]; exact (qj0 (by repeat (first | (with_reducible first | exact HB.out | apply qb0 | apply qa0 | apply qc0 | refine qf0 ?_ (IsS182.ge HI186.out)) | exact HB.out))) : w.heap.size ≤ gb188)); have n5_ := Aside0.mk ((by rw [hg]; exact Nat.ne_of_lt (IsS182.lt (show IsS182 w _ gb186 x187000_1 x187001_1 from by repeat (first | (with_reducible first | exact HI186.out | apply IsS182.alloc | apply IsS182.drewN | apply IsS182.drew | apply IsS182.set_0 | apply IsS182.set_1) | exact HI186.out))) : gb186 ≠ gb188)); have n6_ := Aside0.mk ((by rw [hg]; exact Nat.ne_of_gt (IsS182.lt (show IsS182 w _ gb186 x187000_1 x187001_1 from by repeat (first | (with_reducible first | exact HI186.out | apply IsS182.alloc | apply IsS182.drewN | apply IsS182.drew | apply IsS182.set_0 | apply IsS182.set_1) | exact HI186.out))) : gb188 ≠ gb186)); clear HI186; clear HB; have HI186 := n0_; have HB := n1_; have BK188 := n2_; have GW188 := n3_; have GE188 := n4_; have NB186_188 := n5_; have NB188_186 := n6_; clear n0_ n1_ n2_ n3_ n4_ n5_ n6_; clear hb hbox hg; have hnb17 := NB188_186.out; have hnc17 := NB186_188.out; have hcz18_0 : w16.cell? ⟨gb188, 0, none⟩ = some (.int .i64 0) := (qe0 BK188.out 0).trans rfl; have hcz18_1 : w16.cell? ⟨gb188, 1, none⟩ = some (.int .i64 0) := (qe0 BK188.out 1).trans rfl; have hcz18_2 : w16.cell? ⟨gb188, 2, none⟩ = some (.string (⟨#[]⟩ : ByteArray)) := (qe0 BK188.out 2).trans rfl; have hcz18_3 : w16.cell? ⟨gb188, 3, none⟩ = some (.slice none 0 0) := (qe0 BK188.out 3).trans rfl; have hfz18_0 := qd0 BK188.out 0; have hfz18_1 := qd0 BK188.out 1; have hfz18_2 := qd0 BK188.out 2; have hfz18_3 := qd0 BK188.out 3) | ((with_reducible refine qm0 (f := 129) rfl ?_); refine qe1 (some 32) rfl rfl Try.func129 (by kernel_rfl) rfl #[.agg #[.int .i64 ((rd_T96 l0 x16_1).f0), .int .i64 ((rd_T96 l0 x16_1).f1), .string ((rd_T96 l0 x16_1).f2), .slice A187_3 ((rd_T96 l0 x16_1).f3).length c187_3], .func (.func 128) #[.pointer (some ⟨gb186, 0, none⟩)] #[]] rfl (by (try simp only [List.map_toArray, List.map_cons, List.map_nil]); first | done | rfl | (simp only [List.length_drop, List.length_take]; rfl)) ?_; (with_reducible refine (impl_numbersOf.calls k1 ((rd_T96 l0 x16_1).f0) ((rd_T96 l0 x16_1).f1) ((rd_T96 l0 x16_1).f2) _ _ ((rd_T96 l0 x16_1).f3) gb186 x187000_1 x187001_1 t189 t190 w _ ?side1 ?side2 ?side3 ?side4 A15.out).mono ?_); (case side1 => repeat (first | (with_reducible first | exact HI186.out | apply IsS182.alloc | apply IsS182.drewN | apply IsS182.drew | apply IsS182.set_0 | apply IsS182.set_1 | refine IsS182.far ?_ NB186_188.out _) | exact HI186.out)); (case side2 => repeat (first | (with_reducible first | exact HB.out | apply qb0 | apply qa0 | apply qc0 | refine qf0 ?_ (IsS182.ge HI186.out) | refine qf0 ?_ GE188.out) | exact HB.out)); (case side3 => exact Kd.C_foot_came k98_heap HR187_3.out (by repeat (first | (with_reducible first | exact HB.out | apply qb0 | apply qa0 | apply qc0 | refine qf0 ?_ (IsS182.ge HI186.out) | refine qf0 ?_ GE188.out) | exact HB.out)) (IsS182.ge HI186.out)); (case side4 => exact HC187_3.out); rintro e w19 ⟨rfl, hi, hb, hk⟩; refine ⟨_, rfl, ?_⟩; have n0_ := Aside0.mk (ql0.blk hk (g' := gb188) (o := .cells #[.int .i64 ((rd_T96 l0 x16_1).f0), .int .i64 ((rd_T96 l0 x16_1).f1), .string ((rd_T96 l0 x16_1).f2), .slice A187_3 ((rd_T96 l0 x16_1).f3).length c187_3] 96 (0, 0)) (by (with_reducible repeat (first | refine qg0 ?_ _ | refine qi0 ?_ | refine qh0 ?_ _)); refine qf1 (cs := #[.int .i64 ((rd_T96 l0 x16_1).f0), .int .i64 ((rd_T96 l0 x16_1).f1), .string ((rd_T96 l0 x16_1).f2), .slice none 0 0]) ?_ 3 _ rfl; (with_reducible repeat (first | refine qg0 ?_ _ | refine qi0 ?_ | refine qh0 ?_ _)); refine qf1 (cs := #[.int .i64 ((rd_T96 l0 x16_1).f0), .int .i64 ((rd_T96 l0 x16_1).f1), .string (⟨#[]⟩ : ByteArray), .slice none 0 0]) ?_ 2 _ rfl; (with_reducible repeat (first | refine qg0 ?_ _ | refine qi0 ?_ | refine qh0 ?_ _)); refine qf1 (cs := #[.int .i64 ((rd_T96 l0 x16_1).f0), .int .i64 0, .string (⟨#[]⟩ : ByteArray), .slice none 0 0]) ?_ 1 _ rfl; (with_reducible repeat (first | refine qg0 ?_ _ | refine qi0 ?_ | refine qh0 ?_ _)); refine qf1 (cs := #[.int .i64 0, .int .i64 0, .string (⟨#[]⟩ : ByteArray), .slice none 0 0]) ?_ 0 _ rfl; (with_reducible repeat (first | refine qg0 ?_ _ | refine qi0 ?_ | refine qh0 ?_ _)); exact BK188.out) NB188_186.out (by simp)); have n1_ := Aside0.mk (hb); have n2_ := Aside0.mk (hi); clear BK188; clear HB; clear HI186; have BK188 := n0_; have HB := n1_; have HI186 := n2_; clear n0_ n1_ n2_; (try clear hb); (try clear hb2); (try clear hk); (try clear hi)))
    go_roundg k1
    case measure => have := HK1.out; omega
    case rel => exact ⟨(wrap64 (x16_1 + 1)), (t189), (t190), (by first | rfl | (simp; done) | (simp [*]; done)), H', ⟨by have := HK1.out; omega⟩, ⟨by repeat (first | (with_reducible first | exact HI186.out | apply IsS182.alloc | apply IsS182.drewN | apply IsS182.drew | apply IsS182.set_0 | apply IsS182.set_1 | refine IsS182.far ?_ NB186_188.out _) | exact HI186.out)⟩, ⟨by repeat (first | (with_reducible first | exact HB.out | apply qb0 | apply qa0 | apply qc0 | refine qf0 ?_ (IsS182.ge HI186.out) | refine qf0 ?_ GE188.out) | exact HB.out)⟩⟩
   rw [if_neg c4] at H
   have c4b0 : decide (x16_1 < (l0.length : Int)) = false := decide_eq_false c4
   clear c4
   by_cases c20 : x187001_1 = true
   ·subst c20
    have H1 : (some 0) = some r := by rw [if_pos rfl] at H; exact H
    clear H
    have H := H1
    clear H1
    obtain rfl := Option.some.inj H
    obtain ⟨HGz21, hgz21⟩ := HI186.out
    have hcz21_0 := cellS182_0 HGz21
    have hcz21_1 := cellS182_1 HGz21
    have hfz21_0 := qd0 HGz21 0
    have hfz21_1 := qd0 HGz21 1
    clear HGz21 hgz21
    go_wp2
    go_ret
    exact ⟨by first | rfl | (simp [errW_none, errW_some] <;> rfl) | (simp [*, errW_none, errW_some] <;> rfl), by repeat (first | (with_reducible first | exact HB.out | apply qb0 | apply qa0 | apply qc0 | refine qf0 ?_ (IsS182.ge HI186.out)) | exact HB.out)⟩
   replace c20 := Bool.eq_false_iff.mpr c20
   subst c20
   have H1 : (some x187000_1) = some r := by rw [if_neg (show ¬ (false = true) by decide)] at H; exact H
   clear H
   have H := H1
   clear H1
   obtain rfl := Option.some.inj H
   obtain ⟨HGz22, hgz22⟩ := HI186.out
   have hcz22_0 := cellS182_0 HGz22
   have hcz22_1 := cellS182_1 HGz22
   have hfz22_0 := qd0 HGz22 0
   have hfz22_1 := qd0 HGz22 1
   clear HGz22 hgz22
   go_wp2
   go_ret
   exact ⟨by first | rfl | (simp [errW_none, errW_some] <;> rfl) | (simp [*, errW_none, errW_some] <;> rfl), by repeat (first | (with_reducible first | exact HB.out | apply qb0 | apply qa0 | apply qc0 | refine qf0 ?_ (IsS182.ge HI186.out)) | exact HB.out)⟩

/-! ### laws_eqLine: function 198 -/
def laws_eqLine.f (a0_0 : Int) (a0_1 : Int) (a0_2 : Int) (a0_3 : Int) (a0_4 : Int) (a1_0 : Int) (a1_1 : Int) (a1_2 : Int) (a1_3 : Int) (a1_4 : Int) : Option (Bool) := if a0_0 = a1_0 then (if a0_1 = a1_1 then (if a0_2 = a1_2 then (if a0_3 = a1_3 then (if a0_4 = a1_4 then (some true) else (some false)) else (some false)) else (some false)) else (some false)) else (some false)
set_option maxHeartbeats 8000000 in
set_option maxRecDepth 100000 in
theorem laws_eqLine.calls (a0_0 : Int) (a0_1 : Int) (a0_2 : Int) (a0_3 : Int) (a0_4 : Int) (a1_0 : Int) (a1_1 : Int) (a1_2 : Int) (a1_3 : Int) (a1_4 : Int) (r : Bool) (w : World) (h : laws_eqLine.f a0_0 a0_1 a0_2 a0_3 a0_4 a1_0 a1_1 a1_2 a1_3 a1_4 = some r) :
  Calls Try.prog 198 #[.agg #[.int .i64 a0_0, .int .i64 a0_1, .int .i64 a0_2, .int .i64 a0_3, .int .i64 a0_4], .agg #[.int .i64 a1_0, .int .i64 a1_1, .int .i64 a1_2, .int .i64 a1_3, .int .i64 a1_4]] w fun e w' => e = .returned (.bool r) ∧ Below w.heap.size w w' := by
 have hu98 := Try.underlying98
 have HB := Aside0.mk (Below.refl w.heap.size w)
 have H : (if a0_0 = a1_0 then (if a0_1 = a1_1 then (if a0_2 = a1_2 then (if a0_3 = a1_3 then (if a0_4 = a1_4 then (some true) else (some false)) else (some false)) else (some false)) else (some false)) else (some false)) = some r := h
 clear h
 by_cases c3 : a0_0 = a1_0
 ·rw [if_pos c3] at H
  have c3b0 : (a0_0 == a1_0) = true := beq_iff_eq.mpr c3
  have c3b1 : (a0_0 != a1_0) = false := bne_eq_false_iff_eq.mpr c3
  clear c3
  by_cases c4 : a0_1 = a1_1
  ·rw [if_pos c4] at H
   have c4b0 : (a0_1 == a1_1) = true := beq_iff_eq.mpr c4
   have c4b1 : (a0_1 != a1_1) = false := bne_eq_false_iff_eq.mpr c4
   clear c4
   by_cases c5 : a0_2 = a1_2
   ·rw [if_pos c5] at H
    have c5b0 : (a0_2 == a1_2) = true := beq_iff_eq.mpr c5
    have c5b1 : (a0_2 != a1_2) = false := bne_eq_false_iff_eq.mpr c5
    clear c5
    by_cases c6 : a0_3 = a1_3
    ·rw [if_pos c6] at H
     have c6b0 : (a0_3 == a1_3) = true := beq_iff_eq.mpr c6
     have c6b1 : (a0_3 != a1_3) = false := bne_eq_false_iff_eq.mpr c6
     clear c6
     by_cases c7 : a0_4 = a1_4
     ·rw [if_pos c7] at H
      have c7b0 : (a0_4 == a1_4) = true := beq_iff_eq.mpr c7
      have c7b1 : (a0_4 != a1_4) = false := bne_eq_false_iff_eq.mpr c7
      clear c7
      obtain rfl := Option.some.inj H
      go_enter Try.func198, Try.ntmps198
      go_wp2_with (first | ((with_reducible refine qo0 (N := 2) rfl ?_); refine qn0 ?hg (N := 2) ?hd (cs := #[.int .i64 a0_0, .int .i64 a0_1, .int .i64 a0_2, .int .i64 a0_3, .int .i64 a0_4]) (t := 98) ?hr ?_; (case hd => rfl); (case hg => rfl); (case hr => first | (go_simp; done) | (go_simp; rfl)); intro gb191 hg w8 hbox hb; have n0_ := Aside0.mk (qk0 (by repeat (first | (with_reducible first | exact HB.out | apply qb0 | apply qa0 | apply qc0) | exact HB.out)) hb); have n1_ := Aside0.mk (hbox); have n2_ := Aside0.mk ((by rw [hg]; exact (qj0 (by repeat (first | (with_reducible first | exact HB.out | apply qb0 | apply qa0 | apply qc0) | exact HB.out))) : w.heap.size ≤ gb191)); have n3_ := Aside0.mk ((by rw [hg]; exact (qj0 (by repeat (first | (with_reducible first | exact HB.out | apply qb0 | apply qa0 | apply qc0) | exact HB.out))) : w.heap.size ≤ gb191)); clear HB; have HB := n0_; have BK191 := n1_; have GW191 := n2_; have GE191 := n3_; clear n0_ n1_ n2_ n3_; clear hb hbox hg) | ((with_reducible refine qo0 (N := 3) rfl ?_); refine qn0 ?hg (N := 3) ?hd (cs := #[.int .i64 a1_0, .int .i64 a1_1, .int .i64 a1_2, .int .i64 a1_3, .int .i64 a1_4]) (t := 98) ?hr ?_; (case hd => rfl); (case hg => rfl); (case hr => first | (go_simp; done) | (go_simp; rfl)); intro gb192 hg w9 hbox hb; have n0_ := Aside0.mk (qp0 (g := gb191) (o := .cells #[.int .i64 a0_0, .int .i64 a0_1, .int .i64 a0_2, .int .i64 a0_3, .int .i64 a0_4] 98 (0, 0)) (by (with_reducible repeat (first | refine qg0 ?_ _ | refine qi0 ?_ | refine qh0 ?_ _)); exact BK191.out) hb); have n1_ := Aside0.mk (qk0 (by repeat (first | (with_reducible first | exact HB.out | apply qb0 | apply qa0 | apply qc0 | refine qf0 ?_ GE191.out) | exact HB.out)) hb); have n2_ := Aside0.mk (hbox); have n3_ := Aside0.mk ((by rw [hg]; exact (qj0 (by repeat (first | (with_reducible first | exact HB.out | apply qb0 | apply qa0 | apply qc0 | refine qf0 ?_ GE191.out) | exact HB.out))) : w.heap.size ≤ gb192)); have n4_ := Aside0.mk ((by rw [hg]; exact (qj0 (by repeat (first | (with_reducible first | exact HB.out | apply qb0 | apply qa0 | apply qc0 | refine qf0 ?_ GE191.out) | exact HB.out))) : w.heap.size ≤ gb192)); have n5_ := Aside0.mk ((by rw [hg]; exact Nat.ne_of_lt (qy0 (g := gb191) (o := .cells #[.int .i64 a0_0, .int .i64 a0_1, .int .i64 a0_2, .int .i64 a0_3, .int .i64 a0_4] 98 (0, 0)) (by (with_reducible repeat (first | refine qg0 ?_ _ | refine qi0 ?_ | refine qh0 ?_ _)); exact BK191.out)) : gb191 ≠ gb192)); have n6_ := Aside0.mk ((by rw [hg]; exact Nat.ne_of_gt (qy0 (g := gb191) (o := .cells #[.int .i64 a0_0, .int .i64 a0_1, .int .i64 a0_2, .int .i64 a0_3, .int .i64 a0_4] 98 (0, 0)) (by (with_reducible repeat (first | refine qg0 ?_ _ | refine qi0 ?_ | refine qh0 ?_ _)); exact BK191.out)) : gb192 ≠ gb191)); clear BK191; clear HB; have BK191 := n0_; have HB := n1_; have BK192 := n2_; have GW192 := n3_; have GE192 := n4_; have NB191_192 := n5_; have NB192_191 := n6_; clear n0_ n1_ n2_ n3_ n4_ n5_ n6_; clear hb hbox hg; have hnb10 := NB191_192.out; have hnc10 := NB192_191.out; have hcz11_0 : w9.cell? ⟨gb191, 0, none⟩ = some (.int .i64 a0_0) := (qe0 BK191.out 0).trans rfl; have hcz11_1 : w9.cell? ⟨gb191, 1, none⟩ = some (.int .i64 a0_1) := (qe0 BK191.out 1).trans rfl; have hcz11_2 : w9.cell? ⟨gb191, 2, none⟩ = some (.int .i64 a0_2) := (qe0 BK191.out 2).trans rfl; have hcz11_3 : w9.cell? ⟨gb191, 3, none⟩ = some (.int .i64 a0_3) := (qe0 BK191.out 3).trans rfl; have hcz11_4 : w9.cell? ⟨gb191, 4, none⟩ = some (.int .i64 a0_4) := (qe0 BK191.out 4).trans rfl; have hfz11_0 := qd0 BK191.out 0; have hfz11_1 := qd0 BK191.out 1; have hfz11_2 := qd0 BK191.out 2; have hfz11_3 := qd0 BK191.out 3; have hfz11_4 := qd0 BK191.out 4; have hcz12_0 : w9.cell? ⟨gb192, 0, none⟩ = some (.int .i64 a1_0) := (qe0 BK192.out 0).trans rfl; have hcz12_1 : w9.cell? ⟨gb192, 1, none⟩ = some (.int .i64 a1_1) := (qe0 BK192.out 1).trans rfl; have hcz12_2 : w9.cell? ⟨gb192, 2, none⟩ = some (.int .i64 a1_2) := (qe0 BK192.out 2).trans rfl; have hcz12_3 : w9.cell? ⟨gb192, 3, none⟩ = some (.int .i64 a1_3) := (qe0 BK192.out 3).trans rfl; have hcz12_4 : w9.cell? ⟨gb192, 4, none⟩ = some (.int .i64 a1_4) := (qe0 BK192.out 4).trans rfl; have hfz12_0 := qd0 BK192.out 0; have hfz12_1 := qd0 BK192.out 1; have hfz12_2 := qd0 BK192.out 2; have hfz12_3 := qd0 BK192.out 3; have hfz12_4 := qd0 BK192.out 4))
      go_ret
      exact ⟨by first | rfl | (simp [errW_none, errW_some] <;> rfl) | (simp [*, errW_none, errW_some] <;> rfl), by repeat (first | (with_reducible first | exact HB.out | apply qb0 | apply qa0 | apply qc0 | refine qf0 ?_ GE191.out | refine qf0 ?_ GE192.out) | exact HB.out)⟩
     rw [if_neg c7] at H
     have c7b0 : (a0_4 == a1_4) = false := beq_eq_false_iff_ne.mpr c7
     have c7b1 : (a0_4 != a1_4) = true := bne_iff_ne.mpr c7
     obtain rfl := Option.some.inj H
     go_enter Try.func198, Try.ntmps198
     go_wp2_with (first | ((with_reducible refine qo0 (N := 2) rfl ?_); refine qn0 ?hg (N := 2) ?hd (cs := #[.int .i64 a0_0, .int .i64 a0_1, .int .i64 a0_2, .int .i64 a0_3, .int .i64 a0_4]) (t := 98) ?hr ?_; (case hd => rfl); (case hg => rfl); (case hr => first | (go_simp; done) | (go_simp; rfl)); intro gb191 hg w13 hbox hb; have n0_ := Aside0.mk (qk0 (by repeat (first | (with_reducible first | exact HB.out | apply qb0 | apply qa0 | apply qc0) | exact HB.out)) hb); have n1_ := Aside0.mk (hbox); have n2_ := Aside0.mk ((by rw [hg]; exact (qj0 (by repeat (first | (with_reducible first | exact HB.out | apply qb0 | apply qa0 | apply qc0) | exact HB.out))) : w.heap.size ≤ gb191)); have n3_ := Aside0.mk ((by rw [hg]; exact (qj0 (by repeat (first | (with_reducible first | exact HB.out | apply qb0 | apply qa0 | apply qc0) | exact HB.out))) : w.heap.size ≤ gb191)); clear HB; have HB := n0_; have BK191 := n1_; have GW191 := n2_; have GE191 := n3_; clear n0_ n1_ n2_ n3_; clear hb hbox hg) | ((with_reducible refine qo0 (N := 3) rfl ?_); refine qn0 ?hg (N := 3) ?hd (cs := #[.int .i64 a1_0, .int .i64 a1_1, .int .i64 a1_2, .int .i64 a1_3, .int .i64 a1_4]) (t := 98) ?hr ?_; (case hd => rfl); (case hg => rfl); (case hr => first | (go_simp; done) | (go_simp; rfl)); intro gb192 hg w14 hbox hb; have n0_ := Aside0.mk (qp0 (g := gb191) (o := .cells #[.int .i64 a0_0, .int .i64 a0_1, .int .i64 a0_2, .int .i64 a0_3, .int .i64 a0_4] 98 (0, 0)) (by (with_reducible repeat (first | refine qg0 ?_ _ | refine qi0 ?_ | refine qh0 ?_ _)); exact BK191.out) hb); have n1_ := Aside0.mk (qk0 (by repeat (first | (with_reducible first | exact HB.out | apply qb0 | apply qa0 | apply qc0 | refine qf0 ?_ GE191.out) | exact HB.out)) hb); have n2_ := Aside0.mk (hbox); have n3_ := Aside0.mk ((by rw [hg]; exact (qj0 (by repeat (first | (with_reducible first | exact HB.out | apply qb0 | apply qa0 | apply qc0 | refine qf0 ?_ GE191.out) | exact HB.out))) : w.heap.size ≤ gb192)); have n4_ := Aside0.mk ((by rw [hg]; exact (qj0 (by repeat (first | (with_reducible first | exact HB.out | apply qb0 | apply qa0 | apply qc0 | refine qf0 ?_ GE191.out) | exact HB.out))) : w.heap.size ≤ gb192)); have n5_ := Aside0.mk ((by rw [hg]; exact Nat.ne_of_lt (qy0 (g := gb191) (o := .cells #[.int .i64 a0_0, .int .i64 a0_1, .int .i64 a0_2, .int .i64 a0_3, .int .i64 a0_4] 98 (0, 0)) (by (with_reducible repeat (first | refine qg0 ?_ _ | refine qi0 ?_ | refine qh0 ?_ _)); exact BK191.out)) : gb191 ≠ gb192)); have n6_ := Aside0.mk ((by rw [hg]; exact Nat.ne_of_gt (qy0 (g := gb191) (o := .cells #[.int .i64 a0_0, .int .i64 a0_1, .int .i64 a0_2, .int .i64 a0_3, .int .i64 a0_4] 98 (0, 0)) (by (with_reducible repeat (first | refine qg0 ?_ _ | refine qi0 ?_ | refine qh0 ?_ _)); exact BK191.out)) : gb192 ≠ gb191)); clear BK191; clear HB; have BK191 := n0_; have HB := n1_; have BK192 := n2_; have GW192 := n3_; have GE192 := n4_; have NB191_192 := n5_; have NB192_191 := n6_; clear n0_ n1_ n2_ n3_ n4_ n5_ n6_; clear hb hbox hg; have hnb15 := NB191_192.out; have hnc15 := NB192_191.out; have hcz16_0 : w14.cell? ⟨gb191, 0, none⟩ = some (.int .i64 a0_0) := (qe0 BK191.out 0).trans rfl; have hcz16_1 : w14.cell? ⟨gb191, 1, none⟩ = some (.int .i64 a0_1) := (qe0 BK191.out 1).trans rfl; have hcz16_2 : w14.cell? ⟨gb191, 2, none⟩ = some (.int .i64 a0_2) := (qe0 BK191.out 2).trans rfl; have hcz16_3 : w14.cell? ⟨gb191, 3, none⟩ = some (.int .i64 a0_3) := (qe0 BK191.out 3).trans rfl; have hcz16_4 : w14.cell? ⟨gb191, 4, none⟩ = some (.int .i64 a0_4) := (qe0 BK191.out 4).trans rfl; have hfz16_0 := qd0 BK191.out 0; have hfz16_1 := qd0 BK191.out 1; have hfz16_2 := qd0 BK191.out 2; have hfz16_3 := qd0 BK191.out 3; have hfz16_4 := qd0 BK191.out 4; have hcz17_0 : w14.cell? ⟨gb192, 0, none⟩ = some (.int .i64 a1_0) := (qe0 BK192.out 0).trans rfl; have hcz17_1 : w14.cell? ⟨gb192, 1, none⟩ = some (.int .i64 a1_1) := (qe0 BK192.out 1).trans rfl; have hcz17_2 : w14.cell? ⟨gb192, 2, none⟩ = some (.int .i64 a1_2) := (qe0 BK192.out 2).trans rfl; have hcz17_3 : w14.cell? ⟨gb192, 3, none⟩ = some (.int .i64 a1_3) := (qe0 BK192.out 3).trans rfl; have hcz17_4 : w14.cell? ⟨gb192, 4, none⟩ = some (.int .i64 a1_4) := (qe0 BK192.out 4).trans rfl; have hfz17_0 := qd0 BK192.out 0; have hfz17_1 := qd0 BK192.out 1; have hfz17_2 := qd0 BK192.out 2; have hfz17_3 := qd0 BK192.out 3; have hfz17_4 := qd0 BK192.out 4))
     go_ret
     exact ⟨by first | rfl | (simp [errW_none, errW_some] <;> rfl) | (simp [*, errW_none, errW_some] <;> rfl), by repeat (first | (with_reducible first | exact HB.out | apply qb0 | apply qa0 | apply qc0 | refine qf0 ?_ GE191.out | refine qf0 ?_ GE192.out) | exact HB.out)⟩
    rw [if_neg c6] at H
    have c6b0 : (a0_3 == a1_3) = false := beq_eq_false_iff_ne.mpr c6
    have c6b1 : (a0_3 != a1_3) = true := bne_iff_ne.mpr c6
    obtain rfl := Option.some.inj H
    go_enter Try.func198, Try.ntmps198
    go_wp2_with (first | ((with_reducible refine qo0 (N := 2) rfl ?_); refine qn0 ?hg (N := 2) ?hd (cs := #[.int .i64 a0_0, .int .i64 a0_1, .int .i64 a0_2, .int .i64 a0_3, .int .i64 a0_4]) (t := 98) ?hr ?_; (case hd => rfl); (case hg => rfl); (case hr => first | (go_simp; done) | (go_simp; rfl)); intro gb191 hg w18 hbox hb; have n0_ := Aside0.mk (qk0 (by repeat (first | (with_reducible first | exact HB.out | apply qb0 | apply qa0 | apply qc0) | exact HB.out)) hb); have n1_ := Aside0.mk (hbox); have n2_ := Aside0.mk ((by rw [hg]; exact (qj0 (by repeat (first | (with_reducible first | exact HB.out | apply qb0 | apply qa0 | apply qc0) | exact HB.out))) : w.heap.size ≤ gb191)); have n3_ := Aside0.mk ((by rw [hg]; exact (qj0 (by repeat (first | (with_reducible first | exact HB.out | apply qb0 | apply qa0 | apply qc0) | exact HB.out))) : w.heap.size ≤ gb191)); clear HB; have HB := n0_; have BK191 := n1_; have GW191 := n2_; have GE191 := n3_; clear n0_ n1_ n2_ n3_; clear hb hbox hg) | ((with_reducible refine qo0 (N := 3) rfl ?_); refine qn0 ?hg (N := 3) ?hd (cs := #[.int .i64 a1_0, .int .i64 a1_1, .int .i64 a1_2, .int .i64 a1_3, .int .i64 a1_4]) (t := 98) ?hr ?_; (case hd => rfl); (case hg => rfl); (case hr => first | (go_simp; done) | (go_simp; rfl)); intro gb192 hg w19 hbox hb; have n0_ := Aside0.mk (qp0 (g := gb191) (o := .cells #[.int .i64 a0_0, .int .i64 a0_1, .int .i64 a0_2, .int .i64 a0_3, .int .i64 a0_4] 98 (0, 0)) (by (with_reducible repeat (first | refine qg0 ?_ _ | refine qi0 ?_ | refine qh0 ?_ _)); exact BK191.out) hb); have n1_ := Aside0.mk (qk0 (by repeat (first | (with_reducible first | exact HB.out | apply qb0 | apply qa0 | apply qc0 | refine qf0 ?_ GE191.out) | exact HB.out)) hb); have n2_ := Aside0.mk (hbox); have n3_ := Aside0.mk ((by rw [hg]; exact (qj0 (by repeat (first | (with_reducible first | exact HB.out | apply qb0 | apply qa0 | apply qc0 | refine qf0 ?_ GE191.out) | exact HB.out))) : w.heap.size ≤ gb192)); have n4_ := Aside0.mk ((by rw [hg]; exact (qj0 (by repeat (first | (with_reducible first | exact HB.out | apply qb0 | apply qa0 | apply qc0 | refine qf0 ?_ GE191.out) | exact HB.out))) : w.heap.size ≤ gb192)); have n5_ := Aside0.mk ((by rw [hg]; exact Nat.ne_of_lt (qy0 (g := gb191) (o := .cells #[.int .i64 a0_0, .int .i64 a0_1, .int .i64 a0_2, .int .i64 a0_3, .int .i64 a0_4] 98 (0, 0)) (by (with_reducible repeat (first | refine qg0 ?_ _ | refine qi0 ?_ | refine qh0 ?_ _)); exact BK191.out)) : gb191 ≠ gb192)); have n6_ := Aside0.mk ((by rw [hg]; exact Nat.ne_of_gt (qy0 (g := gb191) (o := .cells #[.int .i64 a0_0, .int .i64 a0_1, .int .i64 a0_2, .int .i64 a0_3, .int .i64 a0_4] 98 (0, 0)) (by (with_reducible repeat (first | refine qg0 ?_ _ | refine qi0 ?_ | refine qh0 ?_ _)); exact BK191.out)) : gb192 ≠ gb191)); clear BK191; clear HB; have BK191 := n0_; have HB := n1_; have BK192 := n2_; have GW192 := n3_; have GE192 := n4_; have NB191_192 := n5_; have NB192_191 := n6_; clear n0_ n1_ n2_ n3_ n4_ n5_ n6_; clear hb hbox hg; have hnb20 := NB191_192.out; have hnc20 := NB192_191.out; have hcz21_0 : w19.cell? ⟨gb191, 0, none⟩ = some (.int .i64 a0_0) := (qe0 BK191.out 0).trans rfl; have hcz21_1 : w19.cell? ⟨gb191, 1, none⟩ = some (.int .i64 a0_1) := (qe0 BK191.out 1).trans rfl; have hcz21_2 : w19.cell? ⟨gb191, 2, none⟩ = some (.int .i64 a0_2) := (qe0 BK191.out 2).trans rfl; have hcz21_3 : w19.cell? ⟨gb191, 3, none⟩ = some (.int .i64 a0_3) := (qe0 BK191.out 3).trans rfl; have hcz21_4 : w19.cell? ⟨gb191, 4, none⟩ = some (.int .i64 a0_4) := (qe0 BK191.out 4).trans rfl; have hfz21_0 := qd0 BK191.out 0; have hfz21_1 := qd0 BK191.out 1; have hfz21_2 := qd0 BK191.out 2; have hfz21_3 := qd0 BK191.out 3; have hfz21_4 := qd0 BK191.out 4; have hcz22_0 : w19.cell? ⟨gb192, 0, none⟩ = some (.int .i64 a1_0) := (qe0 BK192.out 0).trans rfl; have hcz22_1 : w19.cell? ⟨gb192, 1, none⟩ = some (.int .i64 a1_1) := (qe0 BK192.out 1).trans rfl; have hcz22_2 : w19.cell? ⟨gb192, 2, none⟩ = some (.int .i64 a1_2) := (qe0 BK192.out 2).trans rfl; have hcz22_3 : w19.cell? ⟨gb192, 3, none⟩ = some (.int .i64 a1_3) := (qe0 BK192.out 3).trans rfl; have hcz22_4 : w19.cell? ⟨gb192, 4, none⟩ = some (.int .i64 a1_4) := (qe0 BK192.out 4).trans rfl; have hfz22_0 := qd0 BK192.out 0; have hfz22_1 := qd0 BK192.out 1; have hfz22_2 := qd0 BK192.out 2; have hfz22_3 := qd0 BK192.out 3; have hfz22_4 := qd0 BK192.out 4))
    go_ret
    exact ⟨by first | rfl | (simp [errW_none, errW_some] <;> rfl) | (simp [*, errW_none, errW_some] <;> rfl), by repeat (first | (with_reducible first | exact HB.out | apply qb0 | apply qa0 | apply qc0 | refine qf0 ?_ GE191.out | refine qf0 ?_ GE192.out) | exact HB.out)⟩
   rw [if_neg c5] at H
   have c5b0 : (a0_2 == a1_2) = false := beq_eq_false_iff_ne.mpr c5
   have c5b1 : (a0_2 != a1_2) = true := bne_iff_ne.mpr c5
   obtain rfl := Option.some.inj H
   go_enter Try.func198, Try.ntmps198
   go_wp2_with (first | ((with_reducible refine qo0 (N := 2) rfl ?_); refine qn0 ?hg (N := 2) ?hd (cs := #[.int .i64 a0_0, .int .i64 a0_1, .int .i64 a0_2, .int .i64 a0_3, .int .i64 a0_4]) (t := 98) ?hr ?_; (case hd => rfl); (case hg => rfl); (case hr => first | (go_simp; done) | (go_simp; rfl)); intro gb191 hg w23 hbox hb; have n0_ := Aside0.mk (qk0 (by repeat (first | (with_reducible first | exact HB.out | apply qb0 | apply qa0 | apply qc0) | exact HB.out)) hb); have n1_ := Aside0.mk (hbox); have n2_ := Aside0.mk ((by rw [hg]; exact (qj0 (by repeat (first | (with_reducible first | exact HB.out | apply qb0 | apply qa0 | apply qc0) | exact HB.out))) : w.heap.size ≤ gb191)); have n3_ := Aside0.mk ((by rw [hg]; exact (qj0 (by repeat (first | (with_reducible first | exact HB.out | apply qb0 | apply qa0 | apply qc0) | exact HB.out))) : w.heap.size ≤ gb191)); clear HB; have HB := n0_; have BK191 := n1_; have GW191 := n2_; have GE191 := n3_; clear n0_ n1_ n2_ n3_; clear hb hbox hg) | ((with_reducible refine qo0 (N := 3) rfl ?_); refine qn0 ?hg (N := 3) ?hd (cs := #[.int .i64 a1_0, .int .i64 a1_1, .int .i64 a1_2, .int .i64 a1_3, .int .i64 a1_4]) (t := 98) ?hr ?_; (case hd => rfl); (case hg => rfl); (case hr => first | (go_simp; done) | (go_simp; rfl)); intro gb192 hg w24 hbox hb; have n0_ := Aside0.mk (qp0 (g := gb191) (o := .cells #[.int .i64 a0_0, .int .i64 a0_1, .int .i64 a0_2, .int .i64 a0_3, .int .i64 a0_4] 98 (0, 0)) (by (with_reducible repeat (first | refine qg0 ?_ _ | refine qi0 ?_ | refine qh0 ?_ _)); exact BK191.out) hb); have n1_ := Aside0.mk (qk0 (by repeat (first | (with_reducible first | exact HB.out | apply qb0 | apply qa0 | apply qc0 | refine qf0 ?_ GE191.out) | exact HB.out)) hb); have n2_ := Aside0.mk (hbox); have n3_ := Aside0.mk ((by rw [hg]; exact (qj0 (by repeat (first | (with_reducible first | exact HB.out | apply qb0 | apply qa0 | apply qc0 | refine qf0 ?_ GE191.out) | exact HB.out))) : w.heap.size ≤ gb192)); have n4_ := Aside0.mk ((by rw [hg]; exact (qj0 (by repeat (first | (with_reducible first | exact HB.out | apply qb0 | apply qa0 | apply qc0 | refine qf0 ?_ GE191.out) | exact HB.out))) : w.heap.size ≤ gb192)); have n5_ := Aside0.mk ((by rw [hg]; exact Nat.ne_of_lt (qy0 (g := gb191) (o := .cells #[.int .i64 a0_0, .int .i64 a0_1, .int .i64 a0_2, .int .i64 a0_3, .int .i64 a0_4] 98 (0, 0)) (by (with_reducible repeat (first | refine qg0 ?_ _ | refine qi0 ?_ | refine qh0 ?_ _)); exact BK191.out)) : gb191 ≠ gb192)); have n6_ := Aside0.mk ((by rw [hg]; exact Nat.ne_of_gt (qy0 (g := gb191) (o := .cells #[.int .i64 a0_0, .int .i64 a0_1, .int .i64 a0_2, .int .i64 a0_3, .int .i64 a0_4] 98 (0, 0)) (by (with_reducible repeat (first | refine qg0 ?_ _ | refine qi0 ?_ | refine qh0 ?_ _)); exact BK191.out)) : gb192 ≠ gb191)); clear BK191; clear HB; have BK191 := n0_; have HB := n1_; have BK192 := n2_; have GW192 := n3_; have GE192 := n4_; have NB191_192 := n5_; have NB192_191 := n6_; clear n0_ n1_ n2_ n3_ n4_ n5_ n6_; clear hb hbox hg; have hnb25 := NB191_192.out; have hnc25 := NB192_191.out; have hcz26_0 : w24.cell? ⟨gb191, 0, none⟩ = some (.int .i64 a0_0) := (qe0 BK191.out 0).trans rfl; have hcz26_1 : w24.cell? ⟨gb191, 1, none⟩ = some (.int .i64 a0_1) := (qe0 BK191.out 1).trans rfl; have hcz26_2 : w24.cell? ⟨gb191, 2, none⟩ = some (.int .i64 a0_2) := (qe0 BK191.out 2).trans rfl; have hcz26_3 : w24.cell? ⟨gb191, 3, none⟩ = some (.int .i64 a0_3) := (qe0 BK191.out 3).trans rfl; have hcz26_4 : w24.cell? ⟨gb191, 4, none⟩ = some (.int .i64 a0_4) := (qe0 BK191.out 4).trans rfl; have hfz26_0 := qd0 BK191.out 0; have hfz26_1 := qd0 BK191.out 1; have hfz26_2 := qd0 BK191.out 2; have hfz26_3 := qd0 BK191.out 3; have hfz26_4 := qd0 BK191.out 4; have hcz27_0 : w24.cell? ⟨gb192, 0, none⟩ = some (.int .i64 a1_0) := (qe0 BK192.out 0).trans rfl; have hcz27_1 : w24.cell? ⟨gb192, 1, none⟩ = some (.int .i64 a1_1) := (qe0 BK192.out 1).trans rfl; have hcz27_2 : w24.cell? ⟨gb192, 2, none⟩ = some (.int .i64 a1_2) := (qe0 BK192.out 2).trans rfl; have hcz27_3 : w24.cell? ⟨gb192, 3, none⟩ = some (.int .i64 a1_3) := (qe0 BK192.out 3).trans rfl; have hcz27_4 : w24.cell? ⟨gb192, 4, none⟩ = some (.int .i64 a1_4) := (qe0 BK192.out 4).trans rfl; have hfz27_0 := qd0 BK192.out 0; have hfz27_1 := qd0 BK192.out 1; have hfz27_2 := qd0 BK192.out 2; have hfz27_3 := qd0 BK192.out 3; have hfz27_4 := qd0 BK192.out 4))
   go_ret
   exact ⟨by first | rfl | (simp [errW_none, errW_some] <;> rfl) | (simp [*, errW_none, errW_some] <;> rfl), by repeat (first | (with_reducible first | exact HB.out | apply qb0 | apply qa0 | apply qc0 | refine qf0 ?_ GE191.out | refine qf0 ?_ GE192.out) | exact HB.out)⟩
  rw [if_neg c4] at H
  have c4b0 : (a0_1 == a1_1) = false := beq_eq_false_iff_ne.mpr c4
  have c4b1 : (a0_1 != a1_1) = true := bne_iff_ne.mpr c4
  obtain rfl := Option.some.inj H
  go_enter Try.func198, Try.ntmps198
  go_wp2_with (first | ((with_reducible refine qo0 (N := 2) rfl ?_); refine qn0 ?hg (N := 2) ?hd (cs := #[.int .i64 a0_0, .int .i64 a0_1, .int .i64 a0_2, .int .i64 a0_3, .int .i64 a0_4]) (t := 98) ?hr ?_; (case hd => rfl); (case hg => rfl); (case hr => first | (go_simp; done) | (go_simp; rfl)); intro gb191 hg w28 hbox hb; have n0_ := Aside0.mk (qk0 (by repeat (first | (with_reducible first | exact HB.out | apply qb0 | apply qa0 | apply qc0) | exact HB.out)) hb); have n1_ := Aside0.mk (hbox); have n2_ := Aside0.mk ((by rw [hg]; exact (qj0 (by repeat (first | (with_reducible first | exact HB.out | apply qb0 | apply qa0 | apply qc0) | exact HB.out))) : w.heap.size ≤ gb191)); have n3_ := Aside0.mk ((by rw [hg]; exact (qj0 (by repeat (first | (with_reducible first | exact HB.out | apply qb0 | apply qa0 | apply qc0) | exact HB.out))) : w.heap.size ≤ gb191)); clear HB; have HB := n0_; have BK191 := n1_; have GW191 := n2_; have GE191 := n3_; clear n0_ n1_ n2_ n3_; clear hb hbox hg) | ((with_reducible refine qo0 (N := 3) rfl ?_); refine qn0 ?hg (N := 3) ?hd (cs := #[.int .i64 a1_0, .int .i64 a1_1, .int .i64 a1_2, .int .i64 a1_3, .int .i64 a1_4]) (t := 98) ?hr ?_; (case hd => rfl); (case hg => rfl); (case hr => first | (go_simp; done) | (go_simp; rfl)); intro gb192 hg w29 hbox hb; have n0_ := Aside0.mk (qp0 (g := gb191) (o := .cells #[.int .i64 a0_0, .int .i64 a0_1, .int .i64 a0_2, .int .i64 a0_3, .int .i64 a0_4] 98 (0, 0)) (by (with_reducible repeat (first | refine qg0 ?_ _ | refine qi0 ?_ | refine qh0 ?_ _)); exact BK191.out) hb); have n1_ := Aside0.mk (qk0 (by repeat (first | (with_reducible first | exact HB.out | apply qb0 | apply qa0 | apply qc0 | refine qf0 ?_ GE191.out) | exact HB.out)) hb); have n2_ := Aside0.mk (hbox); have n3_ := Aside0.mk ((by rw [hg]; exact (qj0 (by repeat (first | (with_reducible first | exact HB.out | apply qb0 | apply qa0 | apply qc0 | refine qf0 ?_ GE191.out) | exact HB.out))) : w.heap.size ≤ gb192)); have n4_ := Aside0.mk ((by rw [hg]; exact (qj0 (by repeat (first | (with_reducible first | exact HB.out | apply qb0 | apply qa0 | apply qc0 | refine qf0 ?_ GE191.out) | exact HB.out))) : w.heap.size ≤ gb192)); have n5_ := Aside0.mk ((by rw [hg]; exact Nat.ne_of_lt (qy0 (g := gb191) (o := .cells #[.int .i64 a0_0, .int .i64 a0_1, .int .i64 a0_2, .int .i64 a0_3, .int .i64 a0_4] 98 (0, 0)) (by (with_reducible repeat (first | refine qg0 ?_ _ | refine qi0 ?_ | refine qh0 ?_ _)); exact BK191.out)) : gb191 ≠ gb192)); have n6_ := Aside0.mk ((by rw [hg]; exact Nat.ne_of_gt (qy0 (g := gb191) (o := .cells #[.int .i64 a0_0, .int .i64 a0_1, .int .i64 a0_2, .int .i64 a0_3, .int .i64 a0_4] 98 (0, 0)) (by (with_reducible repeat (first | refine qg0 ?_ _ | refine qi0 ?_ | refine qh0 ?_ _)); exact BK191.out)) : gb192 ≠ gb191)); clear BK191; clear HB; have BK191 := n0_; have HB := n1_; have BK192 := n2_; have GW192 := n3_; have GE192 := n4_; have NB191_192 := n5_; have NB192_191 := n6_; clear n0_ n1_ n2_ n3_ n4_ n5_ n6_; clear hb hbox hg; have hnb30 := NB191_192.out; have hnc30 := NB192_191.out; have hcz31_0 : w29.cell? ⟨gb191, 0, none⟩ = some (.int .i64 a0_0) := (qe0 BK191.out 0).trans rfl; have hcz31_1 : w29.cell? ⟨gb191, 1, none⟩ = some (.int .i64 a0_1) := (qe0 BK191.out 1).trans rfl; have hcz31_2 : w29.cell? ⟨gb191, 2, none⟩ = some (.int .i64 a0_2) := (qe0 BK191.out 2).trans rfl; have hcz31_3 : w29.cell? ⟨gb191, 3, none⟩ = some (.int .i64 a0_3) := (qe0 BK191.out 3).trans rfl; have hcz31_4 : w29.cell? ⟨gb191, 4, none⟩ = some (.int .i64 a0_4) := (qe0 BK191.out 4).trans rfl; have hfz31_0 := qd0 BK191.out 0; have hfz31_1 := qd0 BK191.out 1; have hfz31_2 := qd0 BK191.out 2; have hfz31_3 := qd0 BK191.out 3; have hfz31_4 := qd0 BK191.out 4; have hcz32_0 : w29.cell? ⟨gb192, 0, none⟩ = some (.int .i64 a1_0) := (qe0 BK192.out 0).trans rfl; have hcz32_1 : w29.cell? ⟨gb192, 1, none⟩ = some (.int .i64 a1_1) := (qe0 BK192.out 1).trans rfl; have hcz32_2 : w29.cell? ⟨gb192, 2, none⟩ = some (.int .i64 a1_2) := (qe0 BK192.out 2).trans rfl; have hcz32_3 : w29.cell? ⟨gb192, 3, none⟩ = some (.int .i64 a1_3) := (qe0 BK192.out 3).trans rfl; have hcz32_4 : w29.cell? ⟨gb192, 4, none⟩ = some (.int .i64 a1_4) := (qe0 BK192.out 4).trans rfl; have hfz32_0 := qd0 BK192.out 0; have hfz32_1 := qd0 BK192.out 1; have hfz32_2 := qd0 BK192.out 2; have hfz32_3 := qd0 BK192.out 3; have hfz32_4 := qd0 BK192.out 4))
  go_ret
  exact ⟨by first | rfl | (simp [errW_none, errW_some] <;> rfl) | (simp [*, errW_none, errW_some] <;> rfl), by repeat (first | (with_reducible first | exact HB.out | apply qb0 | apply qa0 | apply qc0 | refine qf0 ?_ GE191.out | refine qf0 ?_ GE192.out) | exact HB.out)⟩
 rw [if_neg c3] at H
 have c3b0 : (a0_0 == a1_0) = false := beq_eq_false_iff_ne.mpr c3
 have c3b1 : (a0_0 != a1_0) = true := bne_iff_ne.mpr c3
 obtain rfl := Option.some.inj H
 go_enter Try.func198, Try.ntmps198
 go_wp2_with (first | ((with_reducible refine qo0 (N := 2) rfl ?_); refine qn0 ?hg (N := 2) ?hd (cs := #[.int .i64 a0_0, .int .i64 a0_1, .int .i64 a0_2, .int .i64 a0_3, .int .i64 a0_4]) (t := 98) ?hr ?_; (case hd => rfl); (case hg => rfl); (case hr => first | (go_simp; done) | (go_simp; rfl)); intro gb191 hg w33 hbox hb; have n0_ := Aside0.mk (qk0 (by repeat (first | (with_reducible first | exact HB.out | apply qb0 | apply qa0 | apply qc0) | exact HB.out)) hb); have n1_ := Aside0.mk (hbox); have n2_ := Aside0.mk ((by rw [hg]; exact (qj0 (by repeat (first | (with_reducible first | exact HB.out | apply qb0 | apply qa0 | apply qc0) | exact HB.out))) : w.heap.size ≤ gb191)); have n3_ := Aside0.mk ((by rw [hg]; exact (qj0 (by repeat (first | (with_reducible first | exact HB.out | apply qb0 | apply qa0 | apply qc0) | exact HB.out))) : w.heap.size ≤ gb191)); clear HB; have HB := n0_; have BK191 := n1_; have GW191 := n2_; have GE191 := n3_; clear n0_ n1_ n2_ n3_; clear hb hbox hg) | ((with_reducible refine qo0 (N := 3) rfl ?_); refine qn0 ?hg (N := 3) ?hd (cs := #[.int .i64 a1_0, .int .i64 a1_1, .int .i64 a1_2, .int .i64 a1_3, .int .i64 a1_4]) (t := 98) ?hr ?_; (case hd => rfl); (case hg => rfl); (case hr => first | (go_simp; done) | (go_simp; rfl)); intro gb192 hg w34 hbox hb; have n0_ := Aside0.mk (qp0 (g := gb191) (o := .cells #[.int .i64 a0_0, .int .i64 a0_1, .int .i64 a0_2, .int .i64 a0_3, .int .i64 a0_4] 98 (0, 0)) (by (with_reducible repeat (first | refine qg0 ?_ _ | refine qi0 ?_ | refine qh0 ?_ _)); exact BK191.out) hb); have n1_ := Aside0.mk (qk0 (by repeat (first | (with_reducible first | exact HB.out | apply qb0 | apply qa0 | apply qc0 | refine qf0 ?_ GE191.out) | exact HB.out)) hb); have n2_ := Aside0.mk (hbox); have n3_ := Aside0.mk ((by rw [hg]; exact (qj0 (by repeat (first | (with_reducible first | exact HB.out | apply qb0 | apply qa0 | apply qc0 | refine qf0 ?_ GE191.out) | exact HB.out))) : w.heap.size ≤ gb192)); have n4_ := Aside0.mk ((by rw [hg]; exact (qj0 (by repeat (first | (with_reducible first | exact HB.out | apply qb0 | apply qa0 | apply qc0 | refine qf0 ?_ GE191.out) | exact HB.out))) : w.heap.size ≤ gb192)); have n5_ := Aside0.mk ((by rw [hg]; exact Nat.ne_of_lt (qy0 (g := gb191) (o := .cells #[.int .i64 a0_0, .int .i64 a0_1, .int .i64 a0_2, .int .i64 a0_3, .int .i64 a0_4] 98 (0, 0)) (by (with_reducible repeat (first | refine qg0 ?_ _ | refine qi0 ?_ | refine qh0 ?_ _)); exact BK191.out)) : gb191 ≠ gb192)); have n6_ := Aside0.mk ((by rw [hg]; exact Nat.ne_of_gt (qy0 (g := gb191) (o := .cells #[.int .i64 a0_0, .int .i64 a0_1, .int .i64 a0_2, .int .i64 a0_3, .int .i64 a0_4] 98 (0, 0)) (by (with_reducible repeat (first | refine qg0 ?_ _ | refine qi0 ?_ | refine qh0 ?_ _)); exact BK191.out)) : gb192 ≠ gb191)); clear BK191; clear HB; have BK191 := n0_; have HB := n1_; have BK192 := n2_; have GW192 := n3_; have GE192 := n4_; have NB191_192 := n5_; have NB192_191 := n6_; clear n0_ n1_ n2_ n3_ n4_ n5_ n6_; clear hb hbox hg; have hnb35 := NB191_192.out; have hnc35 := NB192_191.out; have hcz36_0 : w34.cell? ⟨gb191, 0, none⟩ = some (.int .i64 a0_0) := (qe0 BK191.out 0).trans rfl; have hcz36_1 : w34.cell? ⟨gb191, 1, none⟩ = some (.int .i64 a0_1) := (qe0 BK191.out 1).trans rfl; have hcz36_2 : w34.cell? ⟨gb191, 2, none⟩ = some (.int .i64 a0_2) := (qe0 BK191.out 2).trans rfl; have hcz36_3 : w34.cell? ⟨gb191, 3, none⟩ = some (.int .i64 a0_3) := (qe0 BK191.out 3).trans rfl; have hcz36_4 : w34.cell? ⟨gb191, 4, none⟩ = some (.int .i64 a0_4) := (qe0 BK191.out 4).trans rfl; have hfz36_0 := qd0 BK191.out 0; have hfz36_1 := qd0 BK191.out 1; have hfz36_2 := qd0 BK191.out 2; have hfz36_3 := qd0 BK191.out 3; have hfz36_4 := qd0 BK191.out 4; have hcz37_0 : w34.cell? ⟨gb192, 0, none⟩ = some (.int .i64 a1_0) := (qe0 BK192.out 0).trans rfl; have hcz37_1 : w34.cell? ⟨gb192, 1, none⟩ = some (.int .i64 a1_1) := (qe0 BK192.out 1).trans rfl; have hcz37_2 : w34.cell? ⟨gb192, 2, none⟩ = some (.int .i64 a1_2) := (qe0 BK192.out 2).trans rfl; have hcz37_3 : w34.cell? ⟨gb192, 3, none⟩ = some (.int .i64 a1_3) := (qe0 BK192.out 3).trans rfl; have hcz37_4 : w34.cell? ⟨gb192, 4, none⟩ = some (.int .i64 a1_4) := (qe0 BK192.out 4).trans rfl; have hfz37_0 := qd0 BK192.out 0; have hfz37_1 := qd0 BK192.out 1; have hfz37_2 := qd0 BK192.out 2; have hfz37_3 := qd0 BK192.out 3; have hfz37_4 := qd0 BK192.out 4))
 go_ret
 exact ⟨by first | rfl | (simp [errW_none, errW_some] <;> rfl) | (simp [*, errW_none, errW_some] <;> rfl), by repeat (first | (with_reducible first | exact HB.out | apply qb0 | apply qa0 | apply qc0 | refine qf0 ?_ GE191.out | refine qf0 ?_ GE192.out) | exact HB.out)⟩

end Go.Proofs.Ytdnhpicgjkddbaa.PFnExactHeadOf
