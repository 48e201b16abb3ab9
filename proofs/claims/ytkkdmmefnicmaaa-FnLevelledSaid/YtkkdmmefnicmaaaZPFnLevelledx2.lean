/- Lines by a program (a changed copy of the kit's print: this repo's wip/tools): Go functions as Lean functions, and proofs that the calls answer so. -/
import Derived.Test.YtkkdmmefnicmaaaZPFnLevelledx0
import Derived.Test.YtkkdmmefnicmaaaZPFnLevelledx1
namespace Go.Proofs.Ytkkdmmefnicmaaa.PFnLevelled
open Go.RowKit Go.Proofs.YtkkdmmefnicmaaaW.PrintWords Go.Proofs.YtkkdmmefnicmaaaW.PrintLast Go.Proofs.YtkkdmmefnicmaaaW.PrintMore
/-- Runs of true and false, by turns. -/
def rb2l : Bool → List Nat → List Bool
 | _, [] => []
 | b, n :: r => List.replicate n b ++ rb2l (!b) r
def rb2 (l : List Nat) : Array Bool := (rb2l true l).toArray
attribute [local go_sem] max2_int min2_int max_two min_two max_three min_three max_four min_four   -- for this text's walks alone
set_option linter.unusedVariables false
set_option linter.unusedSimpArgs false

-- EXTERN loop.example/g00040/spec.l17Spoil
/-! ### spec_l17Spoil: function 81 -/
-- @making
/-- What spoils one item. -/
def spoilEl (s0_0 : List Int) (h i m q : Int) (l : List S52) (x : S52) : Option (List S52 × Int × Int) :=
 if m = 0 then (spec_l1Pick.f s0_0 h i [(⟨#[]⟩ : ByteArray), (⟨#[105, 48]⟩ : ByteArray), (⟨#[105, 49]⟩ : ByteArray)]).bind fun t => some (l.set q.toNat ⟨t.1, x.f1, x.f2, x.f3, x.f4⟩, t.2.1, t.2.2)
 else if m = 1 then (spec_l1PickInt.f s0_0 h i [0, 1000000, 1000001]).bind fun t => some (l.set q.toNat ⟨x.f0, t.1, x.f2, x.f3, x.f4⟩, t.2.1, t.2.2)
 else if m = 2 then some (l.set q.toNat ⟨x.f0, x.f1, !x.f2, x.f3, x.f4⟩, h, i)
 else if m = 3 then (if x.f3.length < 2932031007402 then (spec_l1PickInt.f s0_0 h i [q, 0, (l.length : Int)]).bind fun t => some (l.set q.toNat ⟨x.f0, x.f1, x.f2, x.f3 ++ [⟨t.1, 1, 0, 0, 0, 0⟩], x.f4⟩, t.2.1, t.2.2) else none)
 else if m = 4 then (if 0 < x.f3.length then (spec_l1PickInt.f s0_0 h i [0, 1000000, 1000001]).bind fun t => some (l.set q.toNat ⟨x.f0, x.f1, x.f2, x.f3.set 0 ⟨(rd_T54 x.f3 0).f0, t.1, (rd_T54 x.f3 0).f2, (rd_T54 x.f3 0).f3, (rd_T54 x.f3 0).f4, (rd_T54 x.f3 0).f5⟩, x.f4⟩, t.2.1, t.2.2) else some (l, h, i))
 else if m = 5 then (if 0 < x.f3.length then (spec_l1PickInt.f s0_0 h i [-1, 100, 101]).bind fun t => some (l.set q.toNat ⟨x.f0, x.f1, x.f2, x.f3.set 0 ⟨(rd_T54 x.f3 0).f0, (rd_T54 x.f3 0).f1, t.1, (rd_T54 x.f3 0).f3, (rd_T54 x.f3 0).f4, (rd_T54 x.f3 0).f5⟩, x.f4⟩, t.2.1, t.2.2) else some (l, h, i))
 else some (l, h, i)
def spec_l17Spoil.f (s0_0 : List Int) (s0_1 s0_2 : Int) (l : List S52) : Option (List S52 × Int × Int) :=
 (spec_l1Once.f s0_0 s0_1 s0_2 15).bind fun b => if b.1 = true then
  ((spec_l1Below.f s0_0 b.2.1 b.2.2 (l.length : Int)).bind fun q => (spec_l1Below.f s0_0 q.2.1 q.2.2 7).bind fun m =>
   if m.1 = 6 then some ([], m.2.1, m.2.2) else if 0 ≤ q.1 ∧ q.1 < (l.length : Int) then spoilEl s0_0 m.2.1 m.2.2 m.1 q.1 l (rd_T52 l q.1) else none)
  else some (l, b.2.1, b.2.2)
/-- Items over a state's call. -/
theorem items_call {w0 W W' : World} {g b : Nat} {s : List Int} {i h : Int} {u : Value} {l : List S52} (hI : IsS186 w0 W g s i h) (hS : Kd.S k52 52 W b (fun _ => True) u l) (hk : qj0 W W' g none) : Kd.S k52 52 W' b (fun _ => True) u l :=
 Kd.qt1 (Kd.S_keep (hI.apartS hS (by decide)) hk (fun _ h => h.2)) (fun _ _ => trivial)
theorem item_at {W : World} {base g n cap : Nat} {ok : Nat → Prop} {l : List S52} (h : Kd.S k52 52 W base ok (.slice (some ⟨g, 0, none⟩) n cap) l) (i : Int) (h0 : 0 ≤ i) (h1 : i < n) :
  ∃ (oki : Nat → Prop) (v3 v4 : Value), sepV v3 v4 ∧ k54.R 54 W base oki v3 (rd_T52 l i).f3 ∧ k54.R 54 W base oki v4 (rd_T52 l i).f4 ∧ (∀ k, oki k → ok k ∧ k ≠ g) ∧
   (W.cell? ⟨g, i.toNat * 5, none⟩ = some (.string (rd_T52 l i).f0) ∧ W.cell? ⟨g, i.toNat * 5 + 1, none⟩ = some (.int .i64 (rd_T52 l i).f1) ∧ W.cell? ⟨g, i.toNat * 5 + 2, none⟩ = some (.bool (rd_T52 l i).f2) ∧ W.cell? ⟨g, i.toNat * 5 + 3, none⟩ = some v3 ∧ W.cell? ⟨g, i.toNat * 5 + 4, none⟩ = some v4) ∧
   (W.frozen? ⟨g, i.toNat * 5, none⟩ = false ∧ W.frozen? ⟨g, i.toNat * 5 + 1, none⟩ = false ∧ W.frozen? ⟨g, i.toNat * 5 + 2, none⟩ = false ∧ W.frozen? ⟨g, i.toNat * 5 + 3, none⟩ = false) ∧
   Kd.H k52 52 W base ok (.slice (some ⟨g, 0, none⟩) n cap) l i oki [.string (rd_T52 l i).f0, .int .i64 (rd_T52 l i).f1, .bool (rd_T52 l i).f2, v3, v4] := by
 obtain ⟨oki, c, hcl, hM, hcc, hfr, hoki, hH⟩ := Kd.S_elem h z52 i h0 h1
 obtain ⟨v3, v4, rfl, hs, g3, g4⟩ := k52_openS hM
 exact ⟨oki, v3, v4, hs, g3, g4, hoki, ⟨hcc 0 _ rfl, hcc 1 _ rfl, hcc 2 _ rfl, hcc 3 _ rfl, hcc 4 _ rfl⟩, ⟨hfr 0, hfr 1, hfr 2, hfr 3⟩, hH⟩

def spec_l17Spoil.T12 : Bool × List (List Nat × List Nat) := (true, [([], []), ([], []), ([], []), ([], []), ([2, 3], [2, 3]), ([4], [4]), ([5], [5]), ([], []), ([], []), ([], []), ([9], [9]), ([8, 10], [8, 10]), ([7, 11], [7, 11]), ([12], [12]), ([13], [13]), ([6, 14, 12], [6, 14]), ([0, 1, 0, 1, 2, 3, 4, 5, 6, 7, 8, 9, 10, 11, 12, 13, 14, 15], [0, 1]), ([16, 0, 1, 2, 3, 4, 5, 6, 7, 8, 9, 10, 11, 12, 13, 14, 15], [16]), ([17, 15, 15, 0, 1, 2, 3, 4, 5, 6, 7, 8, 9, 10, 11, 12, 13, 14, 15], [15, 17])])
def spec_l17Spoil.B12 : List Nat := [0, 0, 0, 0, 12, 28, 60, 0, 0, 0, 512, 1792, 3968, 8064, 16256, 32764, 65535, 131071, 262143]
theorem spec_l17Spoil.tab12 : rtab .any (opsOf Try.f81 12) = spec_l17Spoil.T12 := by kernel_rfl
theorem spec_l17Spoil.bits12 : waitsOk spec_l17Spoil.T12.2 spec_l17Spoil.B12 = true := by kernel_rfl
def spec_l17Spoil.T15 : Bool × List (List Nat × List Nat) := (true, [([], []), ([], []), ([0, 1], [0, 1]), ([2], [2]), ([3], [3]), ([], []), ([], []), ([5, 6], [5, 6]), ([4, 0, 1, 2, 3, 4, 5, 6, 7], [4]), ([8, 0, 1, 2, 3, 4, 5, 6, 7], [8]), ([9, 7, 7, 0, 1, 2, 3, 4, 5, 6, 7], [7, 9])])
def spec_l17Spoil.B15 : List Nat := [0, 0, 3, 7, 15, 0, 0, 96, 255, 511, 1023]
theorem spec_l17Spoil.tab15 : rtab .any (opsOf Try.f81 15) = spec_l17Spoil.T15 := by kernel_rfl
theorem spec_l17Spoil.bits15 : waitsOk spec_l17Spoil.T15.2 spec_l17Spoil.B15 = true := by kernel_rfl
def spec_l17Spoil.T18 : Bool × List (List Nat × List Nat) := (true, [([], []), ([], []), ([0, 1], [0, 1]), ([2], [2]), ([3], [3]), ([], []), ([], []), ([5, 6], [5, 6]), ([4, 0, 1, 2, 3, 4, 5, 6, 7], [4]), ([8, 0, 1, 2, 3, 4, 5, 6, 7], [8]), ([9, 7, 7, 0, 1, 2, 3, 4, 5, 6, 7], [7, 9])])
def spec_l17Spoil.B18 : List Nat := [0, 0, 3, 7, 15, 0, 0, 96, 255, 511, 1023]
theorem spec_l17Spoil.tab18 : rtab .any (opsOf Try.f81 18) = spec_l17Spoil.T18 := by kernel_rfl
theorem spec_l17Spoil.bits18 : waitsOk spec_l17Spoil.T18.2 spec_l17Spoil.B18 = true := by kernel_rfl
set_option maxHeartbeats 8000000 in
set_option maxRecDepth 100000 in
theorem spec_l17Spoil.calls (g : Nat) (s0_0 : List Int) (s0_1 s0_2 : Int) (u : Value) (l : List S52) (r1 : List S52) (r2 r3 : Int) (w0 w : World) (hI : IsS186 w0 w g s0_0 s0_1 s0_2) (hB : Below w0.heap.size w0 w) (hS : Kd.S k52 52 w w0.heap.size (fun _ => True) u l) (h : spec_l17Spoil.f s0_0 s0_1 s0_2 l = some (r1, r2, r3)) :
  Calls Try.prog 81 #[.pointer (some ⟨g, 0, none⟩), u] w fun e w' => ∃ v0_ : Value, e = .returned v0_ ∧ Kd.S k52 52 w' w0.heap.size (fun _ => True) v0_ r1 ∧ IsS186 w0 w' g s0_0 r2 r3 ∧ Below w0.heap.size w0 w' := by
 obtain ⟨A, c, rfl⟩ := Kd.S_slice hS
 obtain ⟨⟨t1, a1, b1⟩, e1, h⟩ := Option.bind_eq_some_iff.1 h
 go_enter Try.func81, Try.ntmps81
 go_wp2_with (fail)
 refine (spec_l1Once.calls g s0_0 s0_1 s0_2 15 t1 a1 b1 w0 _ hI hB e1).mono ?_
 rintro e w1 ⟨rfl, hI1, hB1, hK1⟩
 dsimp only
 replace hS := items_call hI hS hK1
 clear hI hB hK1 e1
 cases t1 with
 | false =>
  have h' : some (l, a1, b1) = some (r1, r2, r3) := h
  simp only [Option.some.injEq, Prod.mk.injEq] at h'
  obtain ⟨rfl, rfl, rfl⟩ := h'
  clear h
  go_wp2_with (fail)
  go_ret
  exact ⟨_, rfl, hS, hI1, hB1⟩
 | true =>
  have h' : ((spec_l1Below.f s0_0 a1 b1 (l.length : Int)).bind fun q => (spec_l1Below.f s0_0 q.2.1 q.2.2 7).bind fun m => if m.1 = 6 then some ([], m.2.1, m.2.2) else if 0 ≤ q.1 ∧ q.1 < (l.length : Int) then spoilEl s0_0 m.2.1 m.2.2 m.1 q.1 l (rd_T52 l q.1) else none) = some (r1, r2, r3) := h
  clear h
  obtain ⟨⟨q, a2, b2⟩, e2, h'⟩ := Option.bind_eq_some_iff.1 h'
  obtain ⟨⟨m, a3, b3⟩, e3, h'⟩ := Option.bind_eq_some_iff.1 h'
  dsimp only at h'
  have H := Aside0.mk h'
  clear h'
  go_wp2_with (fail)
  refine (spec_l1Below.calls g s0_0 a1 b1 _ q a2 b2 w0 _ hI1 hB1 e2).mono ?_
  rintro e w2 ⟨rfl, hI2, hB2, hK2⟩
  dsimp only
  replace hS := items_call hI1 hS hK2
  clear hI1 hB1 hK2 e2
  go_wp2_with (fail)
  refine (spec_l1Below.calls g s0_0 a2 b2 7 m a3 b3 w0 _ hI2 hB2 e3).mono ?_
  rintro e w3 ⟨rfl, hI3, hB3, hK3⟩
  dsimp only
  replace hS := items_call hI2 hS hK3
  clear hI2 hB2 hK3 e3
  by_cases c6 : m = 6
  ·subst c6
   have h' := H.out
   clear H
   rw [if_pos rfl] at h'
   simp only [Option.some.injEq, Prod.mk.injEq] at h'
   obtain ⟨rfl, rfl, rfl⟩ := h'
   go_wp2_with (first | ((with_reducible refine qz0 (N := 106) rfl ?_); refine Kd.S_lit k52 _ 52 ?hg (N := 106) ?hd (xs := ([] : List (S52))) (inner := []) (ok := fun _ => True) (okp := fun _ => True) ?hr ?hp (fun _ hk => hk) trivial (Below.refl _ _) (Nat.le_refl _) (by simp) ?_; (case hd => rfl); (case hg => rfl); (case hr => first | (go_simp; done) | (go_simp; rfl)); (case hp => exact (Reps.none _ _)); intro vl wl hol hbl hg_ hnew_; clear hg_ hnew_; obtain ⟨Al, cl, rfl⟩ := Kd.S_slice hol))
   go_ret
   exact ⟨_, rfl, Kd.S_lower hol hB3.size, hI3.below hbl, qk0 hB3 hbl⟩
  have h6 : (m == 6) = false := beq_eq_false_iff_ne.mpr c6
  have h6' : decide (m = 6) = false := decide_eq_false c6
  have h' := H.out
  clear H
  rw [if_neg c6] at h'
  by_cases cq : 0 ≤ q ∧ q < (l.length : Int)
  case neg => rw [if_neg cq] at h'; cases h'
  rw [if_pos cq] at h'
  obtain ⟨q0, q1⟩ := cq
  obtain ⟨gi, ci, ei, hgi, hgl, cl, hGG⟩ := Kd.S_form hS (by omega)
  injection ei with ea_ en_ ec_
  subst ea_
  subst ec_
  clear en_ hGG
  have p0 : (0 ≤ q) = True := eq_true q0
  have p1 : (q < (l.length : Int)) = True := eq_true q1
  have p0b : decide (0 ≤ q) = true := decide_eq_true q0
  have p1b : decide (q < (l.length : Int)) = true := decide_eq_true q1
  have Q0 := Aside0.mk q0
  have Q1 := Aside0.mk q1
  clear q0 q1
  have hne : g ≠ gi := by have := hI3.own_neS hS (by decide); simpa [Value.ownBlock] using this
  have H := Aside0.mk h'
  clear h'
  by_cases c0 : m = 0
  ·subst c0
   have h' := H.out
   clear H
   unfold spoilEl at h'
   rw [if_pos rfl] at h'
   obtain ⟨⟨t, a4, b4⟩, e4, h'⟩ := Option.bind_eq_some_iff.1 h'
   simp only [Option.some.injEq, Prod.mk.injEq] at h'
   obtain ⟨rfl, rfl, rfl⟩ := h'
   go_wp2_with (first | ((with_reducible refine qz0 (N := 21) rfl ?_); refine Kd.R_lit Kd.string _ 9 ?hg (N := 21) ?hd (xs := ([(⟨#[]⟩ : ByteArray), (⟨#[105, 48]⟩ : ByteArray), (⟨#[105, 49]⟩ : ByteArray)] : List ByteArray)) (inner := [.string (⟨#[]⟩ : ByteArray), .string (⟨#[105, 48]⟩ : ByteArray), .string (⟨#[105, 49]⟩ : ByteArray)]) (ok := fun _ => True) (okp := fun _ => True) ?hr ?hp (fun _ hk => hk) trivial (Below.refl _ _) (Nat.le_refl _) (by simp) ?_; (case hd => rfl); (case hg => rfl); (case hr => first | (go_simp; done) | (go_simp; rfl)); (case hp => exact (Reps.one (show Kd.M Kd.string _ _ _ (⟨#[]⟩ : ByteArray) [.string (⟨#[]⟩ : ByteArray)] from rfl) (Reps.one (show Kd.M Kd.string _ _ _ (⟨#[105, 48]⟩ : ByteArray) [.string (⟨#[105, 48]⟩ : ByteArray)] from rfl) (Reps.one (show Kd.M Kd.string _ _ _ (⟨#[105, 49]⟩ : ByteArray) [.string (⟨#[105, 49]⟩ : ByteArray)] from rfl) (Reps.none _ _))))); intro vl wl hol hbl hg_ hnew_; clear hg_ hnew_; obtain ⟨Al, cl_, rfl⟩ := Kd.qm1 hol))
   replace hS := Kd.qr1 hS hbl
   have hI4 := hI3.below hbl
   have hB4 := qk0 hB3 hbl
   clear hI3 hB3 hbl
   refine (spec_l1Pick.calls g s0_0 a3 b3 _ _ _ t a4 b4 w0 _ hI4 hB4 (Kd.qv0 hol).2.2 (Kd.qv0 hol).2.1 (far_slice (IsS186.own_ne hI4 hol (by decide))) e4).mono ?_
   rintro e w4 ⟨rfl, hI5, hB5, hK5⟩
   dsimp only
   replace hS := items_call hI4 hS hK5
   clear hI4 hB4 hK5 hol e4
   obtain ⟨oki, v3, v4, hs, g3, g4, hoki, ⟨x0, x1, x2, x3, x4⟩, ⟨y0, y1, y2, y3⟩, hH⟩ := item_at hS q Q0.out Q1.out
   go_wp2_with (fail)
   go_ret
   have HP := Kd.S_seg0 hH Q0.out Q1.out (seg := [.string t]) (j := 0) (show 0 + 1 ≤ 5 from by decide) (x' := (⟨t, (rd_T52 l q).f1, (rd_T52 l q).f2, (rd_T52 l q).f3, (rd_T52 l q).f4⟩ : S52)) (k52_mkM _ _ _ (⟨t, (rd_T52 l q).f1, (rd_T52 l q).f2, (rd_T52 l q).f3, (rd_T52 l q).f4⟩ : S52) g3 g4 hs) (fun _ hk => hk)
   exact ⟨_, rfl, Kd.qt1 HP.1 (fun _ _ => trivial), hI5.far hne _, hB5.setCell (p := ⟨gi, _, none⟩) hgi _⟩
  have z0 : (m == 0) = false := beq_eq_false_iff_ne.mpr c0
  have z0' : decide (m = 0) = false := decide_eq_false c0
  by_cases c1 : m = 1
  ·subst c1
   have h' := H.out
   clear H
   unfold spoilEl at h'
   rw [if_neg (by decide), if_pos rfl] at h'
   obtain ⟨⟨t, a4, b4⟩, e4, h'⟩ := Option.bind_eq_some_iff.1 h'
   simp only [Option.some.injEq, Prod.mk.injEq] at h'
   obtain ⟨rfl, rfl, rfl⟩ := h'
   go_wp2_with (first | ((with_reducible refine qz0 (N := 30) rfl ?_); refine Kd.R_lit (Kd.int .i64) _ 3 ?hg (N := 30) ?hd (xs := ([0, 1000000, 1000001] : List Int)) (inner := [.int .i64 0, .int .i64 1000000, .int .i64 1000001]) (ok := fun _ => True) (okp := fun _ => True) ?hr ?hp (fun _ hk => hk) trivial (Below.refl _ _) (Nat.le_refl _) (by simp) ?_; (case hd => rfl); (case hg => rfl); (case hr => first | (go_simp; done) | (go_simp; rfl)); (case hp => exact (Reps.one (show Kd.M (Kd.int .i64) _ _ _ 0 [.int .i64 0] from rfl) (Reps.one (show Kd.M (Kd.int .i64) _ _ _ 1000000 [.int .i64 1000000] from rfl) (Reps.one (show Kd.M (Kd.int .i64) _ _ _ 1000001 [.int .i64 1000001] from rfl) (Reps.none _ _))))); intro vl wl hol hbl hg_ hnew_; clear hg_ hnew_; obtain ⟨Al, cl_, rfl⟩ := Kd.qm1 hol))
   replace hS := Kd.qr1 hS hbl
   have hI4 := hI3.below hbl
   have hB4 := qk0 hB3 hbl
   clear hI3 hB3 hbl
   refine (spec_l1PickInt.calls g s0_0 a3 b3 _ _ _ t a4 b4 w0 _ hI4 hB4 (Kd.qv0 hol).2.2 (Kd.qv0 hol).2.1 (far_slice (IsS186.own_ne hI4 hol (by decide))) e4).mono ?_
   rintro e w4 ⟨rfl, hI5, hB5, hK5⟩
   dsimp only
   replace hS := items_call hI4 hS hK5
   clear hI4 hB4 hK5 hol e4
   obtain ⟨oki, v3, v4, hs, g3, g4, hoki, ⟨x0, x1, x2, x3, x4⟩, ⟨y0, y1, y2, y3⟩, hH⟩ := item_at hS q Q0.out Q1.out
   go_wp2_with (fail)
   go_ret
   have HP := Kd.S_seg0 hH Q0.out Q1.out (seg := [.int .i64 t]) (j := 1) (show 1 + 1 ≤ 5 from by decide) (x' := (⟨(rd_T52 l q).f0, t, (rd_T52 l q).f2, (rd_T52 l q).f3, (rd_T52 l q).f4⟩ : S52)) (k52_mkM _ _ _ (⟨(rd_T52 l q).f0, t, (rd_T52 l q).f2, (rd_T52 l q).f3, (rd_T52 l q).f4⟩ : S52) g3 g4 hs) (fun _ hk => hk)
   exact ⟨_, rfl, Kd.qt1 HP.1 (fun _ _ => trivial), hI5.far hne _, hB5.setCell (p := ⟨gi, _, none⟩) hgi _⟩
  have z1 : (m == 1) = false := beq_eq_false_iff_ne.mpr c1
  have z1' : decide (m = 1) = false := decide_eq_false c1
  by_cases c2 : m = 2
  ·subst c2
   have h' := H.out
   clear H
   unfold spoilEl at h'
   rw [if_neg (by decide), if_neg (by decide), if_pos rfl] at h'
   simp only [Option.some.injEq, Prod.mk.injEq] at h'
   obtain ⟨rfl, rfl, rfl⟩ := h'
   obtain ⟨oki, v3, v4, hs, g3, g4, hoki, ⟨x0, x1, x2, x3, x4⟩, ⟨y0, y1, y2, y3⟩, hH⟩ := item_at hS q Q0.out Q1.out
   go_wp2_with (fail)
   go_ret
   have HP := Kd.S_seg0 hH Q0.out Q1.out (seg := [.bool (!(rd_T52 l q).f2)]) (j := 2) (show 2 + 1 ≤ 5 from by decide) (x' := (⟨(rd_T52 l q).f0, (rd_T52 l q).f1, !(rd_T52 l q).f2, (rd_T52 l q).f3, (rd_T52 l q).f4⟩ : S52)) (k52_mkM _ _ _ (⟨(rd_T52 l q).f0, (rd_T52 l q).f1, !(rd_T52 l q).f2, (rd_T52 l q).f3, (rd_T52 l q).f4⟩ : S52) g3 g4 hs) (fun _ hk => hk)
   exact ⟨_, rfl, Kd.qt1 HP.1 (fun _ _ => trivial), hI3.far hne _, hB3.setCell (p := ⟨gi, _, none⟩) hgi _⟩
  have z2 : (m == 2) = false := beq_eq_false_iff_ne.mpr c2
  have z2' : decide (m = 2) = false := decide_eq_false c2
  by_cases c3 : m = 3
  ·subst c3
   have h' := H.out
   clear H
   unfold spoilEl at h'
   rw [if_neg (by decide), if_neg (by decide), if_neg (by decide), if_pos rfl] at h'
   by_cases cl : (rd_T52 l q).f3.length < 2932031007402
   case neg => rw [if_neg cl] at h'; cases h'
   rw [if_pos cl] at h'
   obtain ⟨⟨t, a4, b4⟩, e4, h'⟩ := Option.bind_eq_some_iff.1 h'
   simp only [Option.some.injEq, Prod.mk.injEq] at h'
   obtain ⟨rfl, rfl, rfl⟩ := h'
   have CL := Aside0.mk cl
   clear cl
   go_wp2_with (fail)
   have hA := (hI3.drew).apartS (Kd.qd1 hS) (by decide)
   have hI4 := hI3.drew
   have hB4 := qd0 hB3
   clear hI3 hB3 hS
   obtain ⟨oki, v3, v4, hs, g3, g4, hoki, ⟨x0, x1, x2, x3, x4⟩, ⟨y0, y1, y2, y3⟩, hH⟩ := item_at hA q Q0.out Q1.out
   replace hH := Kd.H_widen hH
   clear x0 x1 x2 x4 y0 y1 y2 y3 hA
   generalize hw4 : w3.drew = w4 at hI4 hB4 g3 g4 x3 hH
   obtain ⟨ok2, hok2⟩ : ∃ ok2 : Nat → Prop, (fun k => oki k ∨ (True ∧ k ≠ g) ∧ w4.heap.size ≤ k) = ok2 := ⟨_, rfl⟩
   rw [hok2] at hH
   have hg2 : ∀ k, ok2 k → k ≠ g := by rw [← hok2]; exact fun k hk => hk.elim (fun h_ => (hoki k h_).1.2) (fun h_ => h_.1.2)
   have hN4 : ∀ k, w4.heap.size ≤ k → k ≠ g → ok2 k := by rw [← hok2]; exact fun k hk hn => .inr ⟨⟨trivial, hn⟩, hk⟩
   replace g3 := Kd.R_mono (ok' := ok2) g3 (by rw [← hok2]; exact fun _ h_ => .inl h_)
   replace g4 := Kd.R_mono (ok' := ok2) g4 (by rw [← hok2]; exact fun _ h_ => .inl h_)
   clear hok2 hoki
   obtain ⟨A3, c3, rfl⟩ := Kd.qm1 g3
   replace hw4 := Aside0.mk hw4.symm
   refine start_ (n := 19) (S := fun w' => w'.cell? ⟨gi, q.toNat * 5 + 3, none⟩ = some (.slice A3 (rd_T52 l q).f3.length c3) ∧ True) (ds := [18]) (rb2 [0, 19]) (by kernel_rfl) rfl rfl (by rw [hw4.out] at x3; exact ⟨x3, trivial⟩) (fun hHeld => ?_)
   refine with_tabW spec_l17Spoil.tab12 spec_l17Spoil.bits12 (fun HT_ HW_ => ?_)
   rw [← hw4.out] at hHeld ⊢
   clear hw4
   refine pure_ (i := 0) (N := some 48) (v := ?_) (a' := ?_) (rb2 [1, 18]) rfl rfl (qf1 HT_.out (by kernel_rfl)) (fun _ _ _ h => h) (Or.inl ⟨by rfl, ?_⟩) ?_ ?_
   rotate_left
   ·intro w'
    go_simp
    with_reducible rfl
   rotate_left
   ·simp only [Act.put, List.setIfInBounds_toArray, List.set_cons_zero, List.set_cons_succ, i64_w, i32_w]
    rfl
   refine pure_ (i := 1) (N := some 49) (v := ?_) (a' := ?_) (rb2 [2, 17]) rfl rfl (qf1 HT_.out (by kernel_rfl)) (fun _ _ _ h => h) (Or.inl ⟨by rfl, ?_⟩) ?_ ?_
   rotate_left
   ·intro w'
    go_simp
    with_reducible rfl
   rotate_left
   ·simp only [Act.put, List.setIfInBounds_toArray, List.set_cons_zero, List.set_cons_succ, i64_w, i32_w]
    rfl
   refine pure_ (i := 2) (N := some 50) (v := ?_) (a' := ?_) (rb2 [3, 16]) rfl rfl (qf1 HT_.out (by kernel_rfl)) (fun _ _ _ h => h) (Or.inl ⟨by rfl, ?_⟩) ?_ ?_
   rotate_left
   ·intro w'
    go_simp
    with_reducible rfl
   rotate_left
   ·simp only [Act.put, List.setIfInBounds_toArray, List.set_cons_zero, List.set_cons_succ, i64_w, i32_w]
    rfl
   refine pure_ (i := 3) (N := some 51) (v := ?_) (a' := ?_) (rb2 [4, 15]) rfl rfl (qf1 HT_.out (by kernel_rfl)) (fun _ _ _ h => h) (Or.inl ⟨by rfl, ?_⟩) ?_ ?_
   rotate_left
   ·intro w'
    go_simp
    with_reducible rfl
   rotate_left
   ·simp only [Act.put, List.setIfInBounds_toArray, List.set_cons_zero, List.set_cons_succ, i64_w, i32_w]
    rfl
   refine pure_ (i := 4) (N := some 52) (v := ?_) (a' := ?_) (rb2 [5, 14]) rfl rfl (qf1 HT_.out (by kernel_rfl)) (fun _ _ _ h => h) (Or.inl ⟨by rfl, ?_⟩) ?_ ?_
   rotate_left
   ·intro w'
    go_simp
    with_reducible rfl
   rotate_left
   ·simp only [Act.put, List.setIfInBounds_toArray, List.set_cons_zero, List.set_cons_succ, i64_w, i32_w]
    rfl
   refine pure_ (i := 5) (N := some 53) (v := ?_) (a' := ?_) (rb2 [6, 13]) rfl rfl (qf1 HT_.out (by kernel_rfl)) (fun _ _ _ h => h) (Or.inl ⟨by rfl, ?_⟩) ?_ ?_
   rotate_left
   ·intro w'
    go_simp
    with_reducible rfl
   rotate_left
   ·simp only [Act.put, List.setIfInBounds_toArray, List.set_cons_zero, List.set_cons_succ, i64_w, i32_w]
    rfl
   refine pure_ (i := 7) (N := some 55) (v := ?_) (a' := ?_) (rb2 [6, 1, 1, 11]) rfl rfl (qf1 HT_.out (by kernel_rfl)) (fun _ _ _ h => h) (Or.inl ⟨by rfl, ?_⟩) ?_ ?_
   rotate_left
   ·intro w'
    go_simp
    with_reducible rfl
   rotate_left
   ·simp only [Act.put, List.setIfInBounds_toArray, List.set_cons_zero, List.set_cons_succ, i64_w, i32_w]
    rfl
   refine pure_ (i := 8) (N := some 56) (v := ?_) (a' := ?_) (rb2 [6, 1, 2, 10]) rfl rfl (qf1 HT_.out (by kernel_rfl)) (fun _ _ _ h => h) (Or.inl ⟨by rfl, ?_⟩) ?_ ?_
   rotate_left
   ·intro w'
    go_simp
    with_reducible rfl
   rotate_left
   ·simp only [Act.put, List.setIfInBounds_toArray, List.set_cons_zero, List.set_cons_succ, i64_w, i32_w]
    rfl
   refine pure_ (i := 9) (N := some 57) (v := ?_) (a' := ?_) (rb2 [6, 1, 3, 9]) rfl rfl (qf1 HT_.out (by kernel_rfl)) (fun _ _ _ h => h) (Or.inl ⟨by rfl, ?_⟩) ?_ ?_
   rotate_left
   ·intro w'
    go_simp
    with_reducible rfl
   rotate_left
   ·simp only [Act.put, List.setIfInBounds_toArray, List.set_cons_zero, List.set_cons_succ, i64_w, i32_w]
    rfl
   refine pure_ (i := 10) (N := some 58) (v := ?_) (a' := ?_) (rb2 [6, 1, 4, 8]) rfl rfl (qf1 HT_.out (by kernel_rfl)) (fun _ _ _ h => h) (Or.inl ⟨by rfl, ?_⟩) ?_ ?_
   rotate_left
   ·intro w'
    go_simp
    with_reducible rfl
   rotate_left
   ·simp only [Act.put, List.setIfInBounds_toArray, List.set_cons_zero, List.set_cons_succ, i64_w, i32_w]
    rfl
   refine take_ (i := 6) (N := some 54) (v := ?_) (a' := ?_) (rb2 [11, 8]) rfl rfl (take_ofW HT_.out HW_.out (by kernel_rfl)) (fun _ _ _ h => h) (Or.inl ⟨by rfl, ?_⟩) hHeld ?_ ?_
   rotate_left
   ·rintro w' ⟨s0⟩
    go_simp
    with_reducible rfl
   rotate_left
   ·simp only [Act.put, List.setIfInBounds_toArray, List.set_cons_zero, List.set_cons_succ, i64_w, i32_w]
    rfl
   refine one_ (i := 11) (N := some 59) (rb2 [12, 7]) rfl rfl (one_of HT_.out (by kernel_rfl)) (by decide) (fun K hK => ?_)
   refine Kd.R_lit_step (Kd.int .i64) _ 3 ?hg (N := 59) ?hd (xs := ([q, 0, (l.length : Int)] : List Int)) (inner := [.int .i64 q, .int .i64 0, .int .i64 (l.length : Int)]) (ok := fun _ => True) (okp := fun _ => True) ?hr ?hp (fun _ hk => hk) trivial (Below.refl _ _) (Nat.le_refl _) (by simp) ?_
   (case hd => rfl)
   (case hg => rfl)
   (case hr => first | (go_simp; done) | (go_simp; rfl))
   (case hp => exact (Reps.one (show Kd.M (Kd.int .i64) _ _ _ q [.int .i64 q] from rfl) (Reps.one (show Kd.M (Kd.int .i64) _ _ _ 0 [.int .i64 0] from rfl) (Reps.one (show Kd.M (Kd.int .i64) _ _ _ (l.length : Int) [.int .i64 (l.length : Int)] from rfl) (Reps.none _ _)))))
   intro vl wl hol hbl hg_ hnew_
   clear hg_ hnew_
   have hwl := hbl.size
   replace hH := Kd.H_below hH hbl
   replace g3 := Kd.qs1 g3 hbl
   replace g4 := Kd.qs1 g4 hbl
   replace hI4 := hI4.below hbl
   replace hB4 := qk0 hB4 hbl
   obtain ⟨hat, hfr⟩ := Kd.H_at hH Q0.out Q1.out
   have x3 : World.cell? _ ⟨gi, q.toNat * 5 + 3, none⟩ = _ := hat 3 _ rfl
   clear hat hfr hbl
   obtain ⟨Al, cl_, rfl⟩ := Kd.qm1 hol
   refine hK.out _ _ ⟨x3, trivial⟩ (fun hHeld => ?_)
   clear hK K
   refine norm_ (a' := ?_) ?_ ?_
   rotate_left
   ·show Act.put _ (some 59) _ = _
    simp only [Act.put, List.setIfInBounds_toArray, List.set_cons_zero, List.set_cons_succ, i64_w, i32_w]
    rfl
   refine one_ (i := 12) (N := some 60) (rb2 [13, 6]) rfl rfl (one_of HT_.out (by kernel_rfl)) (by decide) (fun K hK => ?_)
   refine goes_ Try.func64 (by kernel_rfl) rfl #[.pointer (some ⟨g, 0, none⟩), .slice Al ([q, 0, (l.length : Int)] : List Int).length cl_] (by rfl) rfl rfl (by (try simp only [List.map_toArray, List.map_cons, List.map_nil]); first | done | rfl) ?_
   refine (spec_l1PickInt.calls g s0_0 a3 b3 _ _ _ t a4 b4 w0 _ hI4 hB4 (Kd.qv0 hol).2.2 (Kd.qv0 hol).2.1 (far_slice (IsS186.own_ne hI4 hol (by decide))) e4).mono ?_
   rintro e w5 ⟨rfl, hI5, hB5, hK5⟩
   refine ⟨_, rfl, ?_⟩
   have hw5 := hK5.1
   replace hH := Kd.H_keep hH hK5 (fun _ h_ => h_.2)
   replace g3 := Kd.R_keep g3 hK5 hg2
   replace g4 := Kd.R_keep g4 hK5 hg2
   clear hI4 hB4 hol e4
   have hI4 := hI5
   have hB4 := hB5
   clear hI5 hB5 hK5
   obtain ⟨hat, hfr⟩ := Kd.H_at hH Q0.out Q1.out
   have x3 : World.cell? _ ⟨gi, q.toNat * 5 + 3, none⟩ = _ := hat 3 _ rfl
   clear hat hfr
   refine hK.out _ _ ⟨x3, trivial⟩ (fun hHeld => ?_)
   clear hK K
   refine norm_ (a' := ?_) ?_ ?_
   rotate_left
   ·show Act.put _ (some 60) _ = _
    simp only [Act.put, List.setIfInBounds_toArray, List.set_cons_zero, List.set_cons_succ, i64_w, i32_w]
    rfl
   refine pure_ (i := 13) (N := some 61) (v := ?_) (a' := ?_) (rb2 [14, 5]) rfl rfl (qf1 HT_.out (by kernel_rfl)) (fun _ _ _ h => h) (Or.inl ⟨by rfl, ?_⟩) ?_ ?_
   rotate_left
   ·intro w'
    go_simp
    with_reducible rfl
   rotate_left
   ·simp only [Act.put, List.setIfInBounds_toArray, List.set_cons_zero, List.set_cons_succ, i64_w, i32_w]
    rfl
   refine one_ (i := 14) (N := some 62) (rb2 [15, 4]) rfl rfl (one_of HT_.out (by kernel_rfl)) (by decide) (fun K hK => ?_)
   have xA := ((qc0 (Below.refl _ _) (.cells #[.int .i64 t, .int .i64 1, .int .i64 0, .int .i64 0, .int .i64 0, .int .i64 0] 54) : Below w5.heap.size w5 (w5.alloc (.cells #[.int .i64 t, .int .i64 1, .int .i64 0, .int .i64 0, .int .i64 0, .int .i64 0] 54))).cell (World.block_lt_of_cell? w5 _ x3)).trans x3
   refine event_step (by rfl) (v := .slice (some ⟨w5.heap.size, 0, none⟩) 1 1) (w1 := w5.alloc (.cells #[.int .i64 t, .int .i64 1, .int .i64 0, .int .i64 0, .int .i64 0, .int .i64 0] 54)) ?hr ?_
   (case hr => first | (go_simp; done) | (go_simp; rfl))
   refine hK.out _ _ ⟨xA, trivial⟩ (fun hHeld => ?_)
   clear hK K
   refine norm_ (a' := ?_) ?_ ?_
   rotate_left
   ·show Act.put _ (some 62) _ = _
    simp only [Act.put, List.setIfInBounds_toArray, List.set_cons_zero, List.set_cons_succ, i64_w, i32_w]
    rfl
   refine one_ (i := 15) (N := some 63) (rb2 [16, 3]) rfl rfl (one_of HT_.out (by kernel_rfl)) (by decide) (fun K hK => ?_)
   refine Kd.R_append_step k54 w0.heap.size (by rfl) (.tmp 54) (.tmp 62) 50 54 (.agg #[(.int .i64 0), (.int .i64 0), (.int .i64 0), (.int .i64 0), (.int .i64 0), (.int .i64 0)]) 48 rfl Try.underlying50 info54 rfl (by decide) (by omega) (.slice A3 (rd_T52 l q).f3.length c3) (rd_T52 l q).f3 (⟨t, 1, 0, 0, 0, 0⟩ : S54) [.int .i64 t, .int .i64 1, .int .i64 0, .int .i64 0, .int .i64 0, .int .i64 0] ok2 (fun _ => False) (by rfl) (by rfl) (k54_mkM _ _ _ (⟨t, 1, 0, 0, 0, 0⟩ : S54)) (fun _ h_ => h_.elim) (fun k_ hk_ => hN4 k_ (by omega) (by have := IsS186.lt hI4; omega)) g3 hB4 hB4.size (by have := CL.out; omega) ?_
   intro v6 w6 ho6 hb6 hg6 hat6
   have hs6 : sepV v6 v4 := by
    intro k_ h1_ h4_
    rcases hat6 with ha_ | ⟨b_, hb_, hl_⟩
    ·exact hs k_ (ha_ ▸ h1_) h4_
    ·have := Kd.R_lt g4 k_ h4_
     rw [hb_] at h1_
     injection h1_ with h1_
     omega
   have g6 : k54.R 54 w6 w0.heap.size ok2 v4 (rd_T52 l q).f4 := Kd.R_mono (Kd.R_grown (Kd.R_tight rfl g4) hg6 (fun k_ hk_ e_ => hs k_ e_.symm hk_.symm)) (fun k_ hk_ => g4.1 k_ hk_.symm)
   replace hH := Kd.H_grown hH hg6 (fun k_ e_ => g3.1 k_ e_)
   have hI6 := hI4.grown hg6 (hI4.own_ne g3 (by decide))
   clear hI4 hB4 g3 g4 hs
   obtain ⟨hat, hfr⟩ := Kd.H_at hH Q0.out Q1.out
   have x3 : World.cell? _ ⟨gi, q.toNat * 5 + 3, none⟩ = _ := hat 3 _ rfl
   have y3 : World.frozen? _ ⟨gi, q.toNat * 5 + 3, none⟩ = _ := hfr 3
   clear hat hfr hat6 hg6
   obtain ⟨A6, c6_, rfl⟩ := Kd.qm1 ho6
   refine hK.out _ _ ⟨x3, trivial⟩ (fun hHeld => ?_)
   clear hK K
   refine norm_ (a' := ?_) ?_ ?_
   rotate_left
   ·show Act.put _ (some 63) _ = _
    simp only [Act.put, List.setIfInBounds_toArray, List.set_cons_zero, List.set_cons_succ, i64_w, i32_w]
    rfl
   refine pure_ (i := 16) (N := some 64) (v := ?_) (a' := ?_) (rb2 [17, 2]) rfl rfl (qf1 HT_.out (by kernel_rfl)) (fun _ _ _ h => h) (Or.inl ⟨by rfl, ?_⟩) ?_ ?_
   rotate_left
   ·intro w'
    go_simp
    with_reducible rfl
   rotate_left
   ·simp only [Act.put, List.setIfInBounds_toArray, List.set_cons_zero, List.set_cons_succ, i64_w, i32_w]
    rfl
   refine pure_ (i := 17) (N := some 65) (v := ?_) (a' := ?_) (rb2 [18, 1]) rfl rfl (qf1 HT_.out (by kernel_rfl)) (fun _ _ _ h => h) (Or.inl ⟨by rfl, ?_⟩) ?_ ?_
   rotate_left
   ·intro w'
    go_simp
    with_reducible rfl
   rotate_left
   ·simp only [Act.put, List.setIfInBounds_toArray, List.set_cons_zero, List.set_cons_succ, i64_w, i32_w]
    rfl
   refine last_ (i := 18) (N := none) (rb2 [19]) rfl rfl (one_of HT_.out (by kernel_rfl)) (by decide) (fun K hK => ?_)
   refine skip_ (w1 := (w6.setCell ⟨gi, q.toNat * 5 + 3, none⟩ (.slice A6 ((rd_T52 l q).f3 ++ [(⟨t, 1, 0, 0, 0, 0⟩ : S54)]).length c6_))) (by rfl) rfl ?_ ?_
   ·go_simp
    try rfl
   refine hK.out _ _ ?_
   clear hK K
   refine done_ (done_of HT_.out (by kernel_rfl)) ?_
   clear hHeld HT_ HW_
   go_wp2_with (fail)
   go_ret
   have HP := Kd.S_seg0 hH Q0.out Q1.out (seg := [.slice A6 ((rd_T52 l q).f3 ++ [(⟨t, 1, 0, 0, 0, 0⟩ : S54)]).length c6_]) (j := 3) (show 3 + 1 ≤ 5 from by decide) (x' := (⟨(rd_T52 l q).f0, (rd_T52 l q).f1, (rd_T52 l q).f2, (rd_T52 l q).f3 ++ [(⟨t, 1, 0, 0, 0, 0⟩ : S54)], (rd_T52 l q).f4⟩ : S52)) (k52_mkM _ _ _ (⟨(rd_T52 l q).f0, (rd_T52 l q).f1, (rd_T52 l q).f2, (rd_T52 l q).f3 ++ [(⟨t, 1, 0, 0, 0, 0⟩ : S54)], (rd_T52 l q).f4⟩ : S52) ho6 g6 hs6) (fun _ hk => hk)
   exact ⟨_, rfl, Kd.qt1 HP.1 (fun _ _ => trivial), hI6.far hne _, hb6.setCell (p := ⟨gi, _, none⟩) hgi _⟩
  have z3 : (m == 3) = false := beq_eq_false_iff_ne.mpr c3
  have z3' : decide (m = 3) = false := decide_eq_false c3
  by_cases c4 : m = 4
  ·subst c4
   have h' := H.out
   clear H
   unfold spoilEl at h'
   rw [if_neg (by decide), if_neg (by decide), if_neg (by decide), if_neg (by decide), if_pos rfl] at h'
   obtain ⟨oki, v3, v4, hs, g3, g4, hoki, ⟨x0, x1, x2, x3, x4⟩, ⟨y0, y1, y2, y3⟩, hH⟩ := item_at hS q Q0.out Q1.out
   obtain ⟨A3, c3, rfl⟩ := Kd.qm1 g3
   clear hs g3 g4 hoki x0 x1 x2 x4 y0 y1 y2 y3 hH
   by_cases cp : 0 < (rd_T52 l q).f3.length
   case neg =>
    rw [if_neg cp] at h'
    simp only [Option.some.injEq, Prod.mk.injEq] at h'
    obtain ⟨rfl, rfl, rfl⟩ := h'
    have n1 : (0 < ((rd_T52 l q).f3.length : Int)) = False := eq_false (by omega)
    have n2 : decide (0 < ((rd_T52 l q).f3.length : Int)) = false := decide_eq_false (by omega)
    have n3 : (0 < (rd_T52 l q).f3.length) = False := eq_false cp
    have n4 : decide (0 < (rd_T52 l q).f3.length) = false := decide_eq_false cp
    clear cp
    go_wp2_with (fail)
    go_ret
    exact ⟨_, rfl, hS, hI3, hB3⟩
   rw [if_pos cp] at h'
   obtain ⟨⟨t, a4, b4⟩, e4, h'⟩ := Option.bind_eq_some_iff.1 h'
   simp only [Option.some.injEq, Prod.mk.injEq] at h'
   obtain ⟨rfl, rfl, rfl⟩ := h'
   have n1 : (0 < ((rd_T52 l q).f3.length : Int)) = True := eq_true (by omega)
   have n2 : decide (0 < ((rd_T52 l q).f3.length : Int)) = true := decide_eq_true (by omega)
   have n3 : (0 < (rd_T52 l q).f3.length) = True := eq_true cp
   have n4 : decide (0 < (rd_T52 l q).f3.length) = true := decide_eq_true cp
   have CP := Aside0.mk cp
   clear cp
   go_wp2_with (fail)
   have hA := (hI3.drew).apartS (Kd.qd1 hS) (by decide)
   have hI4 := hI3.drew
   have hB4 := qd0 hB3
   clear hI3 hB3 hS
   obtain ⟨oki, v3, v4, hs, g3, g4, hoki, ⟨x0, x1, x2, x3, x4⟩, ⟨y0, y1, y2, y3⟩, hH⟩ := item_at hA q Q0.out Q1.out
   replace hH := Kd.H_widen hH
   clear x0 x1 x2 x4 y0 y1 y2 y3 hA
   generalize hw4 : w3.drew = w4 at hI4 hB4 g3 g4 x3 hH
   obtain ⟨ok2, hok2⟩ : ∃ ok2 : Nat → Prop, (fun k => oki k ∨ (True ∧ k ≠ g) ∧ w4.heap.size ≤ k) = ok2 := ⟨_, rfl⟩
   rw [hok2] at hH
   have hg2 : ∀ k, ok2 k → k ≠ g := by rw [← hok2]; exact fun k hk => hk.elim (fun h_ => (hoki k h_).1.2) (fun h_ => h_.1.2)
   have hN4 : ∀ k, w4.heap.size ≤ k → k ≠ g → ok2 k := by rw [← hok2]; exact fun k hk hn => .inr ⟨⟨trivial, hn⟩, hk⟩
   replace g3 := Kd.R_mono (ok' := ok2) g3 (by rw [← hok2]; exact fun _ h_ => .inl h_)
   replace g4 := Kd.R_mono (ok' := ok2) g4 (by rw [← hok2]; exact fun _ h_ => .inl h_)
   clear hok2 hoki
   obtain ⟨gp, c3, rfl, hgp, _, _, _⟩ := Kd.R_form g3 CP.out
   replace hw4 := Aside0.mk hw4.symm
   refine start_ (n := 11) (S := fun w' => w'.cell? ⟨gi, q.toNat * 5 + 3, none⟩ = some (.slice (some ⟨gp, 0, none⟩) (rd_T52 l q).f3.length c3) ∧ True) (ds := [10]) #[false, false, false, false, false, false, false, false, false, false, false] (by kernel_rfl) rfl rfl (by rw [hw4.out] at x3; exact ⟨x3, trivial⟩) (fun hHeld => ?_)
   refine with_tabW spec_l17Spoil.tab15 spec_l17Spoil.bits15 (fun HT_ HW_ => ?_)
   rw [← hw4.out] at hHeld ⊢
   clear hw4
   refine pure_ (i := 0) (N := some 75) (v := ?_) (a' := ?_) #[true, false, false, false, false, false, false, false, false, false, false] rfl rfl (qf1 HT_.out (by kernel_rfl)) (fun _ _ _ h => h) (Or.inl ⟨by rfl, ?_⟩) ?_ ?_
   rotate_left
   ·intro w'
    go_simp
    with_reducible rfl
   rotate_left
   ·simp only [Act.put, List.setIfInBounds_toArray, List.set_cons_zero, List.set_cons_succ, i64_w, i32_w]
    rfl
   refine pure_ (i := 1) (N := some 76) (v := ?_) (a' := ?_) #[true, true, false, false, false, false, false, false, false, false, false] rfl rfl (qf1 HT_.out (by kernel_rfl)) (fun _ _ _ h => h) (Or.inl ⟨by rfl, ?_⟩) ?_ ?_
   rotate_left
   ·intro w'
    go_simp
    with_reducible rfl
   rotate_left
   ·simp only [Act.put, List.setIfInBounds_toArray, List.set_cons_zero, List.set_cons_succ, i64_w, i32_w]
    rfl
   refine pure_ (i := 2) (N := some 77) (v := ?_) (a' := ?_) #[true, true, true, false, false, false, false, false, false, false, false] rfl rfl (qf1 HT_.out (by kernel_rfl)) (fun _ _ _ h => h) (Or.inl ⟨by rfl, ?_⟩) ?_ ?_
   rotate_left
   ·intro w'
    go_simp
    with_reducible rfl
   rotate_left
   ·simp only [Act.put, List.setIfInBounds_toArray, List.set_cons_zero, List.set_cons_succ, i64_w, i32_w]
    rfl
   refine pure_ (i := 3) (N := some 78) (v := ?_) (a' := ?_) #[true, true, true, true, false, false, false, false, false, false, false] rfl rfl (qf1 HT_.out (by kernel_rfl)) (fun _ _ _ h => h) (Or.inl ⟨by rfl, ?_⟩) ?_ ?_
   rotate_left
   ·intro w'
    go_simp
    with_reducible rfl
   rotate_left
   ·simp only [Act.put, List.setIfInBounds_toArray, List.set_cons_zero, List.set_cons_succ, i64_w, i32_w]
    rfl
   refine pure_ (i := 5) (N := some 80) (v := ?_) (a' := ?_) #[true, true, true, true, false, true, false, false, false, false, false] rfl rfl (qf1 HT_.out (by kernel_rfl)) (fun _ _ _ h => h) (Or.inl ⟨by rfl, ?_⟩) ?_ ?_
   rotate_left
   ·intro w'
    go_simp
    with_reducible rfl
   rotate_left
   ·simp only [Act.put, List.setIfInBounds_toArray, List.set_cons_zero, List.set_cons_succ, i64_w, i32_w]
    rfl
   refine take_ (i := 4) (N := some 79) (v := ?_) (a' := ?_) #[true, true, true, true, true, true, false, false, false, false, false] rfl rfl (take_ofW HT_.out HW_.out (by kernel_rfl)) (fun _ _ _ h => h) (Or.inl ⟨by rfl, ?_⟩) hHeld ?_ ?_
   rotate_left
   ·rintro w' ⟨s0⟩
    go_simp
    with_reducible rfl
   rotate_left
   ·simp only [Act.put, List.setIfInBounds_toArray, List.set_cons_zero, List.set_cons_succ, i64_w, i32_w]
    rfl
   refine one_ (i := 6) (N := some 81) #[true, true, true, true, true, true, true, false, false, false, false] rfl rfl (one_of HT_.out (by kernel_rfl)) (by decide) (fun K hK => ?_)
   refine Kd.R_lit_step (Kd.int .i64) _ 3 ?hg (N := 81) ?hd (xs := ([0, 1000000, 1000001] : List Int)) (inner := [.int .i64 0, .int .i64 1000000, .int .i64 1000001]) (ok := fun _ => True) (okp := fun _ => True) ?hr ?hp (fun _ hk => hk) trivial (Below.refl _ _) (Nat.le_refl _) (by simp) ?_
   (case hd => rfl)
   (case hg => rfl)
   (case hr => first | (go_simp; done) | (go_simp; rfl))
   (case hp => exact (Reps.one (show Kd.M (Kd.int .i64) _ _ _ 0 [.int .i64 0] from rfl) (Reps.one (show Kd.M (Kd.int .i64) _ _ _ 1000000 [.int .i64 1000000] from rfl) (Reps.one (show Kd.M (Kd.int .i64) _ _ _ 1000001 [.int .i64 1000001] from rfl) (Reps.none _ _)))))
   intro vl wl hol hbl hg_ hnew_
   clear hg_ hnew_
   have hwl := hbl.size
   replace hH := Kd.H_below hH hbl
   replace g3 := Kd.qs1 g3 hbl
   replace g4 := Kd.qs1 g4 hbl
   replace hI4 := hI4.below hbl
   replace hB4 := qk0 hB4 hbl
   obtain ⟨hat, hfr⟩ := Kd.H_at hH Q0.out Q1.out
   have x3 : World.cell? _ ⟨gi, q.toNat * 5 + 3, none⟩ = _ := hat 3 _ rfl
   clear hat hfr hbl
   obtain ⟨Al, cl_, rfl⟩ := Kd.qm1 hol
   refine hK.out _ _ ⟨x3, trivial⟩ (fun hHeld => ?_)
   clear hK K
   refine norm_ (a' := ?_) ?_ ?_
   rotate_left
   ·show Act.put _ (some 81) _ = _
    simp only [Act.put, List.setIfInBounds_toArray, List.set_cons_zero, List.set_cons_succ, i64_w, i32_w]
    rfl
   refine one_ (i := 7) (N := some 82) #[true, true, true, true, true, true, true, true, false, false, false] rfl rfl (one_of HT_.out (by kernel_rfl)) (by decide) (fun K hK => ?_)
   refine goes_ Try.func64 (by kernel_rfl) rfl #[.pointer (some ⟨g, 0, none⟩), .slice Al ([0, 1000000, 1000001] : List Int).length cl_] (by rfl) rfl rfl (by (try simp only [List.map_toArray, List.map_cons, List.map_nil]); first | done | rfl) ?_
   refine (spec_l1PickInt.calls g s0_0 a3 b3 _ _ _ t a4 b4 w0 _ hI4 hB4 (Kd.qv0 hol).2.2 (Kd.qv0 hol).2.1 (far_slice (IsS186.own_ne hI4 hol (by decide))) e4).mono ?_
   rintro e w5 ⟨rfl, hI5, hB5, hK5⟩
   refine ⟨_, rfl, ?_⟩
   have hw5 := hK5.1
   replace hH := Kd.H_keep hH hK5 (fun _ h_ => h_.2)
   replace g3 := Kd.R_keep g3 hK5 hg2
   replace g4 := Kd.R_keep g4 hK5 hg2
   clear hI4 hB4 hol e4
   have hI4 := hI5
   have hB4 := hB5
   clear hI5 hB5 hK5
   obtain ⟨hat, hfr⟩ := Kd.H_at hH Q0.out Q1.out
   have x3 : World.cell? _ ⟨gi, q.toNat * 5 + 3, none⟩ = _ := hat 3 _ rfl
   clear hat hfr
   refine hK.out _ _ ⟨x3, trivial⟩ (fun hHeld => ?_)
   clear hK K
   refine norm_ (a' := ?_) ?_ ?_
   rotate_left
   ·show Act.put _ (some 82) _ = _
    simp only [Act.put, List.setIfInBounds_toArray, List.set_cons_zero, List.set_cons_succ, i64_w, i32_w]
    rfl
   refine pure_ (i := 8) (N := some 83) (v := ?_) (a' := ?_) #[true, true, true, true, true, true, true, true, true, false, false] rfl rfl (qf1 HT_.out (by kernel_rfl)) (fun _ _ _ h => h) (Or.inl ⟨by rfl, ?_⟩) ?_ ?_
   rotate_left
   ·intro w'
    go_simp
    with_reducible rfl
   rotate_left
   ·simp only [Act.put, List.setIfInBounds_toArray, List.set_cons_zero, List.set_cons_succ, i64_w, i32_w]
    rfl
   refine pure_ (i := 9) (N := some 84) (v := ?_) (a' := ?_) #[true, true, true, true, true, true, true, true, true, true, false] rfl rfl (qf1 HT_.out (by kernel_rfl)) (fun _ _ _ h => h) (Or.inl ⟨by rfl, ?_⟩) ?_ ?_
   rotate_left
   ·intro w'
    go_simp
    with_reducible rfl
   rotate_left
   ·simp only [Act.put, List.setIfInBounds_toArray, List.set_cons_zero, List.set_cons_succ, i64_w, i32_w]
    rfl
   refine last_ (i := 10) (N := none) #[true, true, true, true, true, true, true, true, true, true, true] rfl rfl (one_of HT_.out (by kernel_rfl)) (by decide) (fun K hK => ?_)
   obtain ⟨ce, hcl, hcM, hcc, hcf⟩ := Kd.R_elem g3 z54 0 (by omega) (by have := CP.out; omega)
   obtain rfl := k54_openM hcM
   have x5 := hcc 1 _ rfl
   have y5 := hcf 1
   try simp only [Int.toNat_zero, Nat.zero_mul, Nat.zero_add] at x5 y5
   refine skip_ (w1 := (w5.setCell ⟨gp, 1, none⟩ (.int .i64 t))) (by rfl) rfl ?_ ?_
   ·go_simp
    try rfl
   refine hK.out _ _ ?_
   clear hK K
   refine done_ (done_of HT_.out (by kernel_rfl)) ?_
   clear hHeld HT_ HW_
   go_wp2_with (fail)
   go_ret
   have HR := Kd.R_seg g3 0 (by omega) (by have := CP.out; omega) (seg := [.int .i64 t]) (j := 1) (x' := (⟨(rd_T54 (rd_T52 l q).f3 0).f0, t, (rd_T54 (rd_T52 l q).f3 0).f2, (rd_T54 (rd_T52 l q).f3 0).f3, (rd_T54 (rd_T52 l q).f3 0).f4, (rd_T54 (rd_T52 l q).f3 0).f5⟩ : S54)) hcl hcc (show 1 + 1 ≤ 6 from by decide) (okp := fun _ => False) (k54_mkM _ _ _ (⟨(rd_T54 (rd_T52 l q).f3 0).f0, t, (rd_T54 (rd_T52 l q).f3 0).f2, (rd_T54 (rd_T52 l q).f3 0).f3, (rd_T54 (rd_T52 l q).f3 0).f4, (rd_T54 (rd_T52 l q).f3 0).f5⟩ : S54)) (fun _ h_ => h_.elim)
   have hW : w5.setCells gp ((0 : Int).toNat * k54.sz + 1) [.int .i64 t] = (w5.setCell ⟨gp, 1, none⟩ (.int .i64 t)) := rfl
   rw [hW] at HR
   have g6 := Kd.R_mono (ok' := ok2) (Kd.R_grown (Kd.R_tight rfl g4) HR.2 (fun k_ hk_ e_ => hs k_ (by rw [e_]; simp [Value.ownBlock]) hk_.symm)) (fun k_ hk_ => g4.1 k_ hk_.symm)
   have hH6 := Kd.H_grown hH HR.2 (fun k_ e_ => g3.1 k_ (by simpa [Value.ownBlock] using e_))
   have hI6 := hI4.grown HR.2 (by have := hI4.own_ne g3 (by decide); simpa [Value.ownBlock] using this)
   exact ⟨_, rfl, Kd.qt1 (Kd.H_back hH6 (x' := (⟨(rd_T52 l q).f0, (rd_T52 l q).f1, (rd_T52 l q).f2, (rd_T52 l q).f3.set 0 (⟨(rd_T54 (rd_T52 l q).f3 0).f0, t, (rd_T54 (rd_T52 l q).f3 0).f2, (rd_T54 (rd_T52 l q).f3 0).f3, (rd_T54 (rd_T52 l q).f3 0).f4, (rd_T54 (rd_T52 l q).f3 0).f5⟩ : S54), (rd_T52 l q).f4⟩ : S52)) (k52_mkM _ _ _ (⟨(rd_T52 l q).f0, (rd_T52 l q).f1, (rd_T52 l q).f2, (rd_T52 l q).f3.set 0 (⟨(rd_T54 (rd_T52 l q).f3 0).f0, t, (rd_T54 (rd_T52 l q).f3 0).f2, (rd_T54 (rd_T52 l q).f3 0).f3, (rd_T54 (rd_T52 l q).f3 0).f4, (rd_T54 (rd_T52 l q).f3 0).f5⟩ : S54), (rd_T52 l q).f4⟩ : S52) HR.1 g6 hs) (fun _ hk => hk)) (fun _ _ => trivial), hI6, hB4.setCell (p := ⟨gp, _, none⟩) hgp _⟩
  have z4 : (m == 4) = false := beq_eq_false_iff_ne.mpr c4
  have z4' : decide (m = 4) = false := decide_eq_false c4
  by_cases c5 : m = 5
  ·subst c5
   have h' := H.out
   clear H
   unfold spoilEl at h'
   rw [if_neg (by decide), if_neg (by decide), if_neg (by decide), if_neg (by decide), if_neg (by decide), if_pos rfl] at h'
   obtain ⟨oki, v3, v4, hs, g3, g4, hoki, ⟨x0, x1, x2, x3, x4⟩, ⟨y0, y1, y2, y3⟩, hH⟩ := item_at hS q Q0.out Q1.out
   obtain ⟨A3, c3, rfl⟩ := Kd.qm1 g3
   clear hs g3 g4 hoki x0 x1 x2 x4 y0 y1 y2 y3 hH
   by_cases cp : 0 < (rd_T52 l q).f3.length
   case neg =>
    rw [if_neg cp] at h'
    simp only [Option.some.injEq, Prod.mk.injEq] at h'
    obtain ⟨rfl, rfl, rfl⟩ := h'
    have n1 : (0 < ((rd_T52 l q).f3.length : Int)) = False := eq_false (by omega)
    have n2 : decide (0 < ((rd_T52 l q).f3.length : Int)) = false := decide_eq_false (by omega)
    have n3 : (0 < (rd_T52 l q).f3.length) = False := eq_false cp
    have n4 : decide (0 < (rd_T52 l q).f3.length) = false := decide_eq_false cp
    clear cp
    go_wp2_with (fail)
    go_ret
    exact ⟨_, rfl, hS, hI3, hB3⟩
   rw [if_pos cp] at h'
   obtain ⟨⟨t, a4, b4⟩, e4, h'⟩ := Option.bind_eq_some_iff.1 h'
   simp only [Option.some.injEq, Prod.mk.injEq] at h'
   obtain ⟨rfl, rfl, rfl⟩ := h'
   have n1 : (0 < ((rd_T52 l q).f3.length : Int)) = True := eq_true (by omega)
   have n2 : decide (0 < ((rd_T52 l q).f3.length : Int)) = true := decide_eq_true (by omega)
   have n3 : (0 < (rd_T52 l q).f3.length) = True := eq_true cp
   have n4 : decide (0 < (rd_T52 l q).f3.length) = true := decide_eq_true cp
   have CP := Aside0.mk cp
   clear cp
   go_wp2_with (fail)
   have hA := (hI3.drew).apartS (Kd.qd1 hS) (by decide)
   have hI4 := hI3.drew
   have hB4 := qd0 hB3
   clear hI3 hB3 hS
   obtain ⟨oki, v3, v4, hs, g3, g4, hoki, ⟨x0, x1, x2, x3, x4⟩, ⟨y0, y1, y2, y3⟩, hH⟩ := item_at hA q Q0.out Q1.out
   replace hH := Kd.H_widen hH
   clear x0 x1 x2 x4 y0 y1 y2 y3 hA
   generalize hw4 : w3.drew = w4 at hI4 hB4 g3 g4 x3 hH
   obtain ⟨ok2, hok2⟩ : ∃ ok2 : Nat → Prop, (fun k => oki k ∨ (True ∧ k ≠ g) ∧ w4.heap.size ≤ k) = ok2 := ⟨_, rfl⟩
   rw [hok2] at hH
   have hg2 : ∀ k, ok2 k → k ≠ g := by rw [← hok2]; exact fun k hk => hk.elim (fun h_ => (hoki k h_).1.2) (fun h_ => h_.1.2)
   have hN4 : ∀ k, w4.heap.size ≤ k → k ≠ g → ok2 k := by rw [← hok2]; exact fun k hk hn => .inr ⟨⟨trivial, hn⟩, hk⟩
   replace g3 := Kd.R_mono (ok' := ok2) g3 (by rw [← hok2]; exact fun _ h_ => .inl h_)
   replace g4 := Kd.R_mono (ok' := ok2) g4 (by rw [← hok2]; exact fun _ h_ => .inl h_)
   clear hok2 hoki
   obtain ⟨gp, c3, rfl, hgp, _, _, _⟩ := Kd.R_form g3 CP.out
   replace hw4 := Aside0.mk hw4.symm
   refine start_ (n := 11) (S := fun w' => w'.cell? ⟨gi, q.toNat * 5 + 3, none⟩ = some (.slice (some ⟨gp, 0, none⟩) (rd_T52 l q).f3.length c3) ∧ True) (ds := [10]) #[false, false, false, false, false, false, false, false, false, false, false] (by kernel_rfl) rfl rfl (by rw [hw4.out] at x3; exact ⟨x3, trivial⟩) (fun hHeld => ?_)
   refine with_tabW spec_l17Spoil.tab18 spec_l17Spoil.bits18 (fun HT_ HW_ => ?_)
   rw [← hw4.out] at hHeld ⊢
   clear hw4
   refine pure_ (i := 0) (N := some 94) (v := ?_) (a' := ?_) #[true, false, false, false, false, false, false, false, false, false, false] rfl rfl (qf1 HT_.out (by kernel_rfl)) (fun _ _ _ h => h) (Or.inl ⟨by rfl, ?_⟩) ?_ ?_
   rotate_left
   ·intro w'
    go_simp
    with_reducible rfl
   rotate_left
   ·simp only [Act.put, List.setIfInBounds_toArray, List.set_cons_zero, List.set_cons_succ, i64_w, i32_w]
    rfl
   refine pure_ (i := 1) (N := some 95) (v := ?_) (a' := ?_) #[true, true, false, false, false, false, false, false, false, false, false] rfl rfl (qf1 HT_.out (by kernel_rfl)) (fun _ _ _ h => h) (Or.inl ⟨by rfl, ?_⟩) ?_ ?_
   rotate_left
   ·intro w'
    go_simp
    with_reducible rfl
   rotate_left
   ·simp only [Act.put, List.setIfInBounds_toArray, List.set_cons_zero, List.set_cons_succ, i64_w, i32_w]
    rfl
   refine pure_ (i := 2) (N := some 96) (v := ?_) (a' := ?_) #[true, true, true, false, false, false, false, false, false, false, false] rfl rfl (qf1 HT_.out (by kernel_rfl)) (fun _ _ _ h => h) (Or.inl ⟨by rfl, ?_⟩) ?_ ?_
   rotate_left
   ·intro w'
    go_simp
    with_reducible rfl
   rotate_left
   ·simp only [Act.put, List.setIfInBounds_toArray, List.set_cons_zero, List.set_cons_succ, i64_w, i32_w]
    rfl
   refine pure_ (i := 3) (N := some 97) (v := ?_) (a' := ?_) #[true, true, true, true, false, false, false, false, false, false, false] rfl rfl (qf1 HT_.out (by kernel_rfl)) (fun _ _ _ h => h) (Or.inl ⟨by rfl, ?_⟩) ?_ ?_
   rotate_left
   ·intro w'
    go_simp
    with_reducible rfl
   rotate_left
   ·simp only [Act.put, List.setIfInBounds_toArray, List.set_cons_zero, List.set_cons_succ, i64_w, i32_w]
    rfl
   refine pure_ (i := 5) (N := some 99) (v := ?_) (a' := ?_) #[true, true, true, true, false, true, false, false, false, false, false] rfl rfl (qf1 HT_.out (by kernel_rfl)) (fun _ _ _ h => h) (Or.inl ⟨by rfl, ?_⟩) ?_ ?_
   rotate_left
   ·intro w'
    go_simp
    with_reducible rfl
   rotate_left
   ·simp only [Act.put, List.setIfInBounds_toArray, List.set_cons_zero, List.set_cons_succ, i64_w, i32_w]
    rfl
   refine take_ (i := 4) (N := some 98) (v := ?_) (a' := ?_) #[true, true, true, true, true, true, false, false, false, false, false] rfl rfl (take_ofW HT_.out HW_.out (by kernel_rfl)) (fun _ _ _ h => h) (Or.inl ⟨by rfl, ?_⟩) hHeld ?_ ?_
   rotate_left
   ·rintro w' ⟨s0⟩
    go_simp
    with_reducible rfl
   rotate_left
   ·simp only [Act.put, List.setIfInBounds_toArray, List.set_cons_zero, List.set_cons_succ, i64_w, i32_w]
    rfl
   refine one_ (i := 6) (N := some 100) #[true, true, true, true, true, true, true, false, false, false, false] rfl rfl (one_of HT_.out (by kernel_rfl)) (by decide) (fun K hK => ?_)
   refine Kd.R_lit_step (Kd.int .i64) _ 3 ?hg (N := 100) ?hd (xs := ([(-1), 100, 101] : List Int)) (inner := [.int .i64 (-1), .int .i64 100, .int .i64 101]) (ok := fun _ => True) (okp := fun _ => True) ?hr ?hp (fun _ hk => hk) trivial (Below.refl _ _) (Nat.le_refl _) (by simp) ?_
   (case hd => rfl)
   (case hg => rfl)
   (case hr => first | (go_simp; done) | (go_simp; rfl))
   (case hp => exact (Reps.one (show Kd.M (Kd.int .i64) _ _ _ (-1) [.int .i64 (-1)] from rfl) (Reps.one (show Kd.M (Kd.int .i64) _ _ _ 100 [.int .i64 100] from rfl) (Reps.one (show Kd.M (Kd.int .i64) _ _ _ 101 [.int .i64 101] from rfl) (Reps.none _ _)))))
   intro vl wl hol hbl hg_ hnew_
   clear hg_ hnew_
   have hwl := hbl.size
   replace hH := Kd.H_below hH hbl
   replace g3 := Kd.qs1 g3 hbl
   replace g4 := Kd.qs1 g4 hbl
   replace hI4 := hI4.below hbl
   replace hB4 := qk0 hB4 hbl
   obtain ⟨hat, hfr⟩ := Kd.H_at hH Q0.out Q1.out
   have x3 : World.cell? _ ⟨gi, q.toNat * 5 + 3, none⟩ = _ := hat 3 _ rfl
   clear hat hfr hbl
   obtain ⟨Al, cl_, rfl⟩ := Kd.qm1 hol
   refine hK.out _ _ ⟨x3, trivial⟩ (fun hHeld => ?_)
   clear hK K
   refine norm_ (a' := ?_) ?_ ?_
   rotate_left
   ·show Act.put _ (some 100) _ = _
    simp only [Act.put, List.setIfInBounds_toArray, List.set_cons_zero, List.set_cons_succ, i64_w, i32_w]
    rfl
   refine one_ (i := 7) (N := some 101) #[true, true, true, true, true, true, true, true, false, false, false] rfl rfl (one_of HT_.out (by kernel_rfl)) (by decide) (fun K hK => ?_)
   refine goes_ Try.func64 (by kernel_rfl) rfl #[.pointer (some ⟨g, 0, none⟩), .slice Al ([(-1), 100, 101] : List Int).length cl_] (by rfl) rfl rfl (by (try simp only [List.map_toArray, List.map_cons, List.map_nil]); first | done | rfl) ?_
   refine (spec_l1PickInt.calls g s0_0 a3 b3 _ _ _ t a4 b4 w0 _ hI4 hB4 (Kd.qv0 hol).2.2 (Kd.qv0 hol).2.1 (far_slice (IsS186.own_ne hI4 hol (by decide))) e4).mono ?_
   rintro e w5 ⟨rfl, hI5, hB5, hK5⟩
   refine ⟨_, rfl, ?_⟩
   have hw5 := hK5.1
   replace hH := Kd.H_keep hH hK5 (fun _ h_ => h_.2)
   replace g3 := Kd.R_keep g3 hK5 hg2
   replace g4 := Kd.R_keep g4 hK5 hg2
   clear hI4 hB4 hol e4
   have hI4 := hI5
   have hB4 := hB5
   clear hI5 hB5 hK5
   obtain ⟨hat, hfr⟩ := Kd.H_at hH Q0.out Q1.out
   have x3 : World.cell? _ ⟨gi, q.toNat * 5 + 3, none⟩ = _ := hat 3 _ rfl
   clear hat hfr
   refine hK.out _ _ ⟨x3, trivial⟩ (fun hHeld => ?_)
   clear hK K
   refine norm_ (a' := ?_) ?_ ?_
   rotate_left
   ·show Act.put _ (some 101) _ = _
    simp only [Act.put, List.setIfInBounds_toArray, List.set_cons_zero, List.set_cons_succ, i64_w, i32_w]
    rfl
   refine pure_ (i := 8) (N := some 102) (v := ?_) (a' := ?_) #[true, true, true, true, true, true, true, true, true, false, false] rfl rfl (qf1 HT_.out (by kernel_rfl)) (fun _ _ _ h => h) (Or.inl ⟨by rfl, ?_⟩) ?_ ?_
   rotate_left
   ·intro w'
    go_simp
    with_reducible rfl
   rotate_left
   ·simp only [Act.put, List.setIfInBounds_toArray, List.set_cons_zero, List.set_cons_succ, i64_w, i32_w]
    rfl
   refine pure_ (i := 9) (N := some 103) (v := ?_) (a' := ?_) #[true, true, true, true, true, true, true, true, true, true, false] rfl rfl (qf1 HT_.out (by kernel_rfl)) (fun _ _ _ h => h) (Or.inl ⟨by rfl, ?_⟩) ?_ ?_
   rotate_left
   ·intro w'
    go_simp
    with_reducible rfl
   rotate_left
   ·simp only [Act.put, List.setIfInBounds_toArray, List.set_cons_zero, List.set_cons_succ, i64_w, i32_w]
    rfl
   refine last_ (i := 10) (N := none) #[true, true, true, true, true, true, true, true, true, true, true] rfl rfl (one_of HT_.out (by kernel_rfl)) (by decide) (fun K hK => ?_)
   obtain ⟨ce, hcl, hcM, hcc, hcf⟩ := Kd.R_elem g3 z54 0 (by omega) (by have := CP.out; omega)
   obtain rfl := k54_openM hcM
   have x5 := hcc 2 _ rfl
   have y5 := hcf 2
   try simp only [Int.toNat_zero, Nat.zero_mul, Nat.zero_add] at x5 y5
   refine skip_ (w1 := (w5.setCell ⟨gp, 2, none⟩ (.int .i64 t))) (by rfl) rfl ?_ ?_
   ·go_simp
    try rfl
   refine hK.out _ _ ?_
   clear hK K
   refine done_ (done_of HT_.out (by kernel_rfl)) ?_
   clear hHeld HT_ HW_
   go_wp2_with (fail)
   go_ret
   have HR := Kd.R_seg g3 0 (by omega) (by have := CP.out; omega) (seg := [.int .i64 t]) (j := 2) (x' := (⟨(rd_T54 (rd_T52 l q).f3 0).f0, (rd_T54 (rd_T52 l q).f3 0).f1, t, (rd_T54 (rd_T52 l q).f3 0).f3, (rd_T54 (rd_T52 l q).f3 0).f4, (rd_T54 (rd_T52 l q).f3 0).f5⟩ : S54)) hcl hcc (show 2 + 1 ≤ 6 from by decide) (okp := fun _ => False) (k54_mkM _ _ _ (⟨(rd_T54 (rd_T52 l q).f3 0).f0, (rd_T54 (rd_T52 l q).f3 0).f1, t, (rd_T54 (rd_T52 l q).f3 0).f3, (rd_T54 (rd_T52 l q).f3 0).f4, (rd_T54 (rd_T52 l q).f3 0).f5⟩ : S54)) (fun _ h_ => h_.elim)
   have hW : w5.setCells gp ((0 : Int).toNat * k54.sz + 2) [.int .i64 t] = (w5.setCell ⟨gp, 2, none⟩ (.int .i64 t)) := rfl
   rw [hW] at HR
   have g6 := Kd.R_mono (ok' := ok2) (Kd.R_grown (Kd.R_tight rfl g4) HR.2 (fun k_ hk_ e_ => hs k_ (by rw [e_]; simp [Value.ownBlock]) hk_.symm)) (fun k_ hk_ => g4.1 k_ hk_.symm)
   have hH6 := Kd.H_grown hH HR.2 (fun k_ e_ => g3.1 k_ (by simpa [Value.ownBlock] using e_))
   have hI6 := hI4.grown HR.2 (by have := hI4.own_ne g3 (by decide); simpa [Value.ownBlock] using this)
   exact ⟨_, rfl, Kd.qt1 (Kd.H_back hH6 (x' := (⟨(rd_T52 l q).f0, (rd_T52 l q).f1, (rd_T52 l q).f2, (rd_T52 l q).f3.set 0 (⟨(rd_T54 (rd_T52 l q).f3 0).f0, (rd_T54 (rd_T52 l q).f3 0).f1, t, (rd_T54 (rd_T52 l q).f3 0).f3, (rd_T54 (rd_T52 l q).f3 0).f4, (rd_T54 (rd_T52 l q).f3 0).f5⟩ : S54), (rd_T52 l q).f4⟩ : S52)) (k52_mkM _ _ _ (⟨(rd_T52 l q).f0, (rd_T52 l q).f1, (rd_T52 l q).f2, (rd_T52 l q).f3.set 0 (⟨(rd_T54 (rd_T52 l q).f3 0).f0, (rd_T54 (rd_T52 l q).f3 0).f1, t, (rd_T54 (rd_T52 l q).f3 0).f3, (rd_T54 (rd_T52 l q).f3 0).f4, (rd_T54 (rd_T52 l q).f3 0).f5⟩ : S54), (rd_T52 l q).f4⟩ : S52) HR.1 g6 hs) (fun _ hk => hk)) (fun _ _ => trivial), hI6, hB4.setCell (p := ⟨gp, _, none⟩) hgp _⟩
  have z5 : (m == 5) = false := beq_eq_false_iff_ne.mpr c5
  have z5' : decide (m = 5) = false := decide_eq_false c5
  have h' := H.out
  clear H
  unfold spoilEl at h'
  rw [if_neg c0, if_neg c1, if_neg c2, if_neg c3, if_neg c4, if_neg c5] at h'
  simp only [Option.some.injEq, Prod.mk.injEq] at h'
  obtain ⟨rfl, rfl, rfl⟩ := h'
  go_wp2_with (fail)
  go_ret
  exact ⟨_, rfl, hS, hI3, hB3⟩

end Go.Proofs.Ytkkdmmefnicmaaa.PFnLevelled
