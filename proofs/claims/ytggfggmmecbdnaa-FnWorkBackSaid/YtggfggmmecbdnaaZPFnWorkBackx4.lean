/- Lines by a program (a changed copy of the kit's print: this repo's wip/tools): Go functions as Lean functions, and proofs that the calls answer so. -/
import Derived.Test.YtggfggmmecbdnaaZPFnWorkBackx0
import Derived.Test.YtggfggmmecbdnaaZPFnWorkBackx2
import Derived.Test.YtggfggmmecbdnaaZPFnWorkBackx3
import Derived.RangeFuncLeaves
import Derived.RangeFuncFrom
import Derived.RangeFuncNested
import Derived.Shelf.Abstract
import Derived.WalkKit
import Derived.OwnWalkIn
import Derived.TacticsInMore
import Derived.LoopNIn
import Derived.LoopIn
import Derived.Sort.LoopGhostIn
import Derived.Sort.CutIn
namespace Go.Proofs.Ytggfggmmecbdnaa.PFnWorkBack
open Go.RowKit Go.Proofs.YtggfggmmecbdnaaW.PrintWords Go.Proofs.YtggfggmmecbdnaaW.PrintLast Go.Proofs.YtggfggmmecbdnaaW.PrintMore
/-- Closing blocks told once. -/
theorem z4_0 {P : Prop} (h : P := by show Boxed w5 _ _ (.int .i64 (awLeft a2 - ((0 : Nat) : Int))); rw [show awLeft a2 - ((0 : Nat) : Int) = awLeft a2 by omega]; exact gL5) : P := h
theorem z4_1 {P : Prop} (h : P := by show w.heap.size ≤ w3.heap.size; omega) : P := h
theorem z4_2 {P : Prop} (h : P := by show w.heap.size ≤ w.heap.size + 1; omega) : P := h
attribute [local go_sem] max2_int min2_int max_two min_two max_three min_three max_four min_four   -- for this text's walks alone
set_option linter.unusedVariables false
set_option linter.unusedSimpArgs false

-- EXTERN loop.example/g00040/impl.AddWork
/-! ### impl_AddWork: function 8 -/
-- @rounds
-- @making
-- @import Derived.RangeFuncLeaves
-- @import Derived.RangeFuncFrom
-- @import Derived.RangeFuncNested
-- @import Derived.Shelf.Abstract
-- @import Derived.WalkKit
-- @import Derived.OwnWalkIn
-- @import Derived.TacticsInMore
-- @import Derived.LoopNIn
-- @import Derived.LoopIn
-- @import Derived.Sort.LoopGhostIn
-- @import Derived.Sort.CutIn
open Go.Shelf
attribute [local go_sem] Oper.semAt_some
/-- The working days from a day on, by steps; the days told by rounds, each asked by as many. -/
def wdl (k : Nat) (off : Int) (l : List Int) (step : Int) : Nat → Int → Option (List Int)
 | 0, _ => none
 | j + 1, d => (impl_isDay.f d).bind fun t => if t = true then ((impl_works.f k off l d).bind fun b => (wdl k off l step j (wrap64 (d + step))).bind fun r => some (if b = true then d :: r else r)) else some []
/-- What a round keeps: whatever lay below, and the two boxes that the iterator reads. -/
def KpW (w0 : World) (sb cb : Nat) (W W' : World) : Prop := Below w0.heap.size W W' ∧ W'.heap[sb]? = W.heap[sb]? ∧ W'.heap[cb]? = W.heap[cb]?
theorem isDay_b (a0 : Int) (r : Bool) (w : World) (h : impl_isDay.f a0 = some r) : Calls Try.prog 26 #[.int .i64 a0] w fun e w' => e = .returned (.bool r) ∧ Below w.heap.size w w' :=
 (impl_isDay.calls a0 r w h).mono (fun e w' hh => by
  obtain ⟨h1, nd, h2⟩ := hh
  refine ⟨h1, ?_⟩
  rw [h2]
  exact qe0 (Below.refl _ _) _)
set_option maxHeartbeats 4000000 in
set_option maxRecDepth 100000 in
theorem wd_in (k : Nat) (off : Int) (A : Option Addr) (c : Nat) (l : List Int) (step from_ : Int) (j : Nat) (xs : List Int) (hx : wdl k off l step j from_ = some xs) (n : Nat) (hn : 1 ≤ n) (lp fb sb cb : Nat) (w0 : World) (hkd : Kd.C (Kd.int .i64) w0 A l.length l) (hc0 : l.length ≤ c) (J Jx : List Int → World → Prop) (W : World) (hJa : AbidesFrom W.heap.size J)
  (hY : ∀ pre x W1, J pre W1 → pre.length < xs.length → YieldAt Fence.wide (n - 1) Try.prog lp #[.int .i64 x] W1 fun e W' => (e = .returned (.bool true) ∧ J (pre ++ [x]) W' ∧ KpW w0 sb cb W1 W') ∨ (e = .returned (.bool false) ∧ Jx (pre ++ [x]) W'))
  (hf : W.heap[fb]? = some (.cells #[.int .i64 from_] 3 (0, 0))) (hs : W.heap[sb]? = some (.cells #[.int .i64 step] 3 (0, 0))) (hc : W.heap[cb]? = some (.cells #[.int .i64 off, .slice A l.length c] 26 (0, 0))) (hB : Below w0.heap.size w0 W) (h0 : J [] W) :
  CallsIn Fence.wide n Try.prog 47 #[.func (.yield lp) #[] #[], .pointer (some ⟨fb, 0, none⟩), .pointer (some ⟨sb, 0, none⟩), .pointer (some ⟨cb, 0, none⟩)] W fun e W' => (∃ v, e = .returned v) ∧ ((∃ ys, ys = xs ∧ J ys W') ∨ (∃ pre, pre <+: xs ∧ Jx pre W')) := by
 refine callsIn_of_wp Try.func47 rfl trivial ?_ rfl
 simp only [Try.ntmps47, List.size_toArray, List.length_cons, List.length_nil, Nat.reduceAdd, Nat.reduceSub, Array.replicate_succ, Array.replicate_zero, List.push_toArray, List.append_toArray, List.nil_append, List.cons_append]
 have cf : W.cell? ⟨fb, 0, none⟩ = some (.int .i64 from_) := (qb0 hf 0).trans rfl
 gi_wp2
 gi_loopg [5] j (fun kq v wr => ∃ (pre rest : List Int) (d : Int), v = .int .i64 d ∧ xs = pre ++ rest ∧ wdl k off l step kq d = some rest ∧ J pre wr ∧ wr.heap[sb]? = some (.cells #[.int .i64 step] 3 (0, 0)) ∧ wr.heap[cb]? = some (.cells #[.int .i64 off, .slice A l.length c] 26 (0, 0)) ∧ Below w0.heap.size w0 wr)
 case atStart => exact ⟨[], xs, from_, rfl, rfl, hx, h0, hs, hc, hB⟩
 case round =>
  obtain ⟨pre, rest, d, rfl, hxs, hw, hJs, hs', hc', hB'⟩ := hrel
  cases gk with
  | zero => simp [wdl] at hw
  | succ gk =>
   simp only [wdl] at hw
   obtain ⟨t, e1, hw⟩ := Option.bind_eq_some_iff.1 hw
   have gj : ∀ {wa wb : World}, Below wa.heap.size wa wb → J pre wa → J pre wb := fun {wa wb} hb hj => hJa pre wa wb none hj (grown_of_below hb none) (fun r e => by cases e)
   have bl : ∀ {wa wb : World} {g : Nat} {o : Obj}, Below wa.heap.size wa wb → wa.heap[g]? = some o → wb.heap[g]? = some o := fun {wa wb g o} hb h => (hb.block g (qu0 h)).trans h
   have hsz : w0.heap.size ≤ wr.heap.size := hB'.size
   cases t with
   | false =>
    rw [if_neg (by decide)] at hw
    obtain rfl := Option.some.inj hw
    gi_wp2_with (refine ⟨trivial, ?_⟩; gi_at_call 26; refine (callsIn_wide.2 (isDay_b d false wr e1)).mono ?_; rintro e w1 ⟨rfl, hb⟩)
    go_end0
    exact ⟨⟨_, rfl⟩, .inl ⟨pre, by rw [hxs, List.append_nil], gj hb hJs⟩⟩
   | true =>
    rw [if_pos rfl] at hw
    obtain ⟨b, e2, hw⟩ := Option.bind_eq_some_iff.1 hw
    obtain ⟨r, e3, hw⟩ := Option.bind_eq_some_iff.1 hw
    have hw := Option.some.inj hw
    cases b with
    | false =>
     rw [if_neg (by decide)] at hw
     subst hw
     gi_wp2_with (first | (refine ⟨trivial, ?_⟩; gi_at_call 26; refine (callsIn_wide.2 (isDay_b d true wr e1)).mono ?_; rintro e w1 ⟨rfl, hb⟩; have hc1 := bl hb hc'; have cc0 : w1.cell? ⟨cb, 0, none⟩ = some (.int .i64 off) := (qb0 hc1 0).trans rfl; have cc1 : w1.cell? ⟨cb, 1, none⟩ = some (.slice A l.length c) := (qb0 hc1 1).trans rfl; have hB1 := hB'.trans (hb.mono hsz)) | (refine ⟨trivial, ?_⟩; gi_at_call 25; refine (callsIn_wide.2 (impl_works.calls k off A c l d false w1 (Kd.qd1 hkd hB1) hc0 e2)).mono ?_; rintro e w2 ⟨rfl, hb2⟩; have hs2 := bl hb2 (bl hb hs'); have hc2 := bl hb2 hc1; have cs : w2.cell? ⟨sb, 0, none⟩ = some (.int .i64 step) := (qb0 hs2 0).trans rfl; have hB2 := hB1.trans (hb2.mono hB1.size)))
     refine ⟨fun _ h => (by cases h), ?_⟩
     gi_wp2
     gi_roundg gk
     case rel => exact ⟨pre, r, wrap64 (d + step), rfl, hxs, e3, gj hb2 (gj hb hJs), hs2, hc2, hB2⟩
     case measure => omega
    | true =>
     rw [if_pos rfl] at hw
     subst hw
     gi_wp2_with (first | (refine ⟨trivial, ?_⟩; gi_at_call 26; refine (callsIn_wide.2 (isDay_b d true wr e1)).mono ?_; rintro e w1 ⟨rfl, hb⟩; have hc1 := bl hb hc'; have cc0 : w1.cell? ⟨cb, 0, none⟩ = some (.int .i64 off) := (qb0 hc1 0).trans rfl; have cc1 : w1.cell? ⟨cb, 1, none⟩ = some (.slice A l.length c) := (qb0 hc1 1).trans rfl; have hB1 := hB'.trans (hb.mono hsz)) | (refine ⟨trivial, ?_⟩; gi_at_call 25; refine (callsIn_wide.2 (impl_works.calls k off A c l d true w1 (Kd.qd1 hkd hB1) hc0 e2)).mono ?_; rintro e w2 ⟨rfl, hb2⟩; have hs2 := bl hb2 (bl hb hs'); have hc2 := bl hb2 hc1; have hB2 := hB1.trans (hb2.mono hB1.size); obtain ⟨fn, tmps, assign, body, hy, hR⟩ := hY pre d w2 (gj hb2 (gj hb hJs)) (by rw [hxs]; simp)))
     refine hR.mono ?_
     rintro e W3 (⟨rfl, hJ3, hk3⟩ | ⟨rfl, hJx3⟩)
     ·have hs3 := hk3.2.1.trans hs2
      have hc3 := hk3.2.2.trans hc2
      have cs : W3.cell? ⟨sb, 0, none⟩ = some (.int .i64 step) := (qb0 hs3 0).trans rfl
      gi_wp2
      gi_roundg gk
      case rel => exact ⟨pre ++ [d], r, wrap64 (d + step), rfl, by rw [hxs]; simp, e3, hJ3, hs3, hc3, hB2.trans hk3.1⟩
      case measure => omega
     ·gi_wp2
      refine bodyPost_ret (results_none rfl _ _ _) rfl ?_
      exact ⟨⟨_, rfl⟩, .inr ⟨pre ++ [d], ⟨r, by rw [hxs]; simp⟩, hJx3⟩⟩
/-- The iterator's contract, from the world in which its boxes lie. -/
theorem wd_stops (k : Nat) (off : Int) (A : Option Addr) (c : Nat) (l : List Int) (step from_ : Int) (j : Nat) (xs : List Int) (hx : wdl k off l step j from_ = some xs) (n : Nat) (hn : 1 ≤ n) (fb sb cb : Nat) (w0 : World) (hkd : Kd.C (Kd.int .i64) w0 A l.length l) (hc0 : l.length ≤ c) (W0 : World)
  (hf : W0.heap[fb]? = some (.cells #[.int .i64 from_] 3 (0, 0))) (hs : W0.heap[sb]? = some (.cells #[.int .i64 step] 3 (0, 0))) (hc : W0.heap[cb]? = some (.cells #[.int .i64 off, .slice A l.length c] 26 (0, 0))) (hB : Below w0.heap.size w0 W0) :
  SeqStopsK Fence.wide n Try.prog 47 #[.pointer (some ⟨fb, 0, none⟩), .pointer (some ⟨sb, 0, none⟩), .pointer (some ⟨cb, 0, none⟩)] (fun x : Int => #[Value.int .i64 x]) (KpW w0 sb cb) (fun ys => ys = xs) (fun pre => pre <+: xs) xs.length W0 := fun lp J Jx W hW hJ _ hY h0 =>
 wd_in k off A c l step from_ j xs hx n hn lp fb sb cb w0 hkd hc0 J Jx W hJ hY ((hW.block fb (qu0 hf)).trans hf) ((hW.block sb (qu0 hs)).trans hs) ((hW.block cb (qu0 hc)).trans hc) (hB.trans (hW.mono hB.size)) h0
theorem KpW_t {w0 : World} {sb cb : Nat} {A B C : World} (h : KpW w0 sb cb A B) (k : KpW w0 sb cb B C) : KpW w0 sb cb A C := ⟨h.1.trans k.1, k.2.1.trans h.2.1, k.2.2.trans h.2.2⟩
theorem KpW_b {w0 w : World} {sb cb : Nat} (h0 : w0.heap.size ≤ w.heap.size) (hs : sb < w.heap.size) (hc : cb < w.heap.size) (W : World) (l : Nat) (o o' : Obj) (hl : w.heap.size ≤ l) (h : W.heap[l]? = some o) (h1 : o.isCells = false) (h2 : o.isWalk = false) : KpW w0 sb cb W (W.putObj l o') :=
 ⟨belowK_b h0 W l o o' hl h h1 h2, World.putObj_heap_other (by omega), World.putObj_heap_other (by omega)⟩
theorem new1 (w : World) (o1 o2 : Obj) : ((w.alloc o1).alloc o2).heap[w.heap.size + 1]? = some o2 := by
 have := World.alloc_heap_new (w.alloc o1) o2
 rwa [World.size_alloc] at this
theorem new2 (w : World) (o1 o2 o3 : Obj) : (((w.alloc o1).alloc o2).alloc o3).heap[w.heap.size + 2]? = some o3 := by
 have := World.alloc_heap_new ((w.alloc o1).alloc o2) o3
 rwa [World.size_alloc, World.size_alloc] at this
/-- The call that makes the iterator. -/
theorem workdays_in (off : Int) (A : Option Addr) (c : Nat) (ln : Nat) (from_ step : Int) (w : World) :
  Calls Try.prog 28 #[.agg #[.int .i64 off, .slice A ln c], .int .i64 from_, .int .i64 step] w fun e w' => e = .returned (.func (.func 47) #[] #[.pointer (some ⟨w.heap.size + 1, 0, none⟩), .pointer (some ⟨w.heap.size + 2, 0, none⟩), .pointer (some ⟨w.heap.size, 0, none⟩)]) ∧ Below w.heap.size w w' ∧
   w'.heap[w.heap.size + 1]? = some (.cells #[.int .i64 from_] 3 (0, 0)) ∧ w'.heap[w.heap.size + 2]? = some (.cells #[.int .i64 step] 3 (0, 0)) ∧ w'.heap[w.heap.size]? = some (.cells #[.int .i64 off, .slice A ln c] 26 (0, 0)) := by
 have hu26 := Try.underlying26
 go_enter Try.func28, Try.ntmps28
 go_wp2
 go_ret
 refine ⟨rfl, ?_, ?_, ?_, ?_⟩
 ·exact (((Below.refl _ w).alloc (Nat.le_refl _) _).alloc (by simp) _).alloc (by simp; omega) _
 ·exact qg0 (new1 w _ _) _
 ·exact new2 w _ _ _
 ·exact qg0 (qg0 (World.alloc_heap_new w _) _) _
theorem wdl_mono {k : Nat} {off : Int} {l : List Int} {s : Int} : ∀ (j : Nat) (d : Int) (r : List Int), wdl k off l s j d = some r → wdl (k + 1) off l s (j + 1) d = some r
 | 0, _, _, h => by simp [wdl] at h
 | j + 1, d, r, h => by
  rw [wdl] at h ⊢
  obtain ⟨t, e1, h⟩ := Option.bind_eq_some_iff.1 h
  rw [e1, Option.bind_some]
  by_cases c : t = true
  ·rw [if_pos c] at h ⊢
   obtain ⟨b, e2, h⟩ := Option.bind_eq_some_iff.1 h
   obtain ⟨r', e3, h⟩ := Option.bind_eq_some_iff.1 h
   rw [impl_works.mono _ _ _ _ _ e2, Option.bind_some, wdl_mono j _ _ e3, Option.bind_some]
   exact h
  ·rw [if_neg c] at h ⊢
   exact h
/-- By how much a span of working days steps, from where, and how many are to come. -/
def awStep (n : Int) : Int := if n > 0 then 1 else if n < 0 then -1 else 1
def awFrom (day n : Int) : Int := if n > 0 then wrap64 (day + 1) else if n < 0 then wrap64 (day - 1) else day
def awLeft (n : Int) : Int := if n > 0 then n else if n < 0 then wrap64 (-n) else 1
def impl_AddWork.f (k : Nat) (a0_0 : Int) (l0_1 : List Int) (a1 a2 : Int) : Option Int :=
 (impl_CalOk.f k a0_0 l0_1).bind fun t1 => (if t1 = true then ((impl_isDay.f a1).bind fun t2 => (if t2 = true then ((impl_between.f a2 (-2000) 2000).bind fun t3 => (if t3 = true then ((wdl k a0_0 l0_1 (awStep a2) k (awFrom a1 a2)).bind fun xs => some ((xs[(awLeft a2 - 1).toNat]?).getD (-1))) else some (-1))) else some (-1))) else some (-1))
theorem impl_AddWork.mono : ∀ a0 a1 a2 a3 k, LeO (impl_AddWork.f k a0 a1 a2 a3) (impl_AddWork.f (k + 1) a0 a1 a2 a3) := by
 intro off l day n k r h
 unfold impl_AddWork.f at h ⊢
 obtain ⟨t1, e1, h⟩ := Option.bind_eq_some_iff.1 h
 rw [impl_CalOk.mono _ _ _ _ e1, Option.bind_some]
 by_cases c1 : t1 = true
 ·rw [if_pos c1] at h ⊢
  obtain ⟨t2, e2, h⟩ := Option.bind_eq_some_iff.1 h
  rw [e2, Option.bind_some]
  by_cases c2 : t2 = true
  ·rw [if_pos c2] at h ⊢
   obtain ⟨t3, e3, h⟩ := Option.bind_eq_some_iff.1 h
   rw [e3, Option.bind_some]
   by_cases c3 : t3 = true
   ·rw [if_pos c3] at h ⊢
    obtain ⟨xs, e4, h⟩ := Option.bind_eq_some_iff.1 h
    rw [wdl_mono _ _ _ e4, Option.bind_some]
    exact h
   ·rw [if_neg c3] at h ⊢
    exact h
  ·rw [if_neg c2] at h ⊢
   exact h
 ·rw [if_neg c1] at h ⊢
  exact h
theorem res8 (tmps : Array Value) (W : World) (g : Nat) (v : Value) (hp : tmps.getD 6 undef = .pointer (some ⟨g, 0, none⟩)) (hc : W.cell? ⟨g, 0, none⟩ = some v) : (results Try.f8 tmps).run Try.prog W = .ok v W := by
 have h : Try.f8.results = #[.cell 6 3] := rfl
 have hp' : tmps[6]?.getD undef = .pointer (some ⟨g, 0, none⟩) := by simpa using hp
 simp [results, h, go_sem, hc, hp']
theorem left_ok {n : Int} (h : impl_between.f n (-2000) 2000 = some true) : 1 ≤ awLeft n ∧ awLeft n ≤ 2000 := by
 have hn : -2000 ≤ n ∧ n ≤ 2000 := by
  unfold impl_between.f at h
  by_cases c : n ≥ -2000
  ·rw [if_pos c] at h
   have := of_decide_eq_true (Option.some.inj h)
   omega
  ·rw [if_neg c] at h
   simp at h
 unfold awLeft
 by_cases h1 : n > 0
 ·rw [if_pos h1]; omega
 ·rw [if_neg h1]
  by_cases h2 : n < 0
  ·rw [if_pos h2]
   unfold wrap64
   omega
  ·rw [if_neg h2]; omega
theorem bl_ {wa wb : World} {g : Nat} {o : Obj} (hb : Below wa.heap.size wa wb) (h : wa.heap[g]? = some o) : wb.heap[g]? = some o := (hb.block g (qu0 h)).trans h
theorem between_b (a0 a1 a2 : Int) (r : Bool) (w : World) (h : impl_between.f a0 a1 a2 = some r) : Calls Try.prog 27 #[.int .i64 a0, .int .i64 a1, .int .i64 a2] w fun e w' => e = .returned (.bool r) ∧ Below w.heap.size w w' :=
 (impl_between.calls a0 a1 a2 r w h).mono (fun e w' hh => by
  obtain ⟨h1, nd, h2⟩ := hh
  refine ⟨h1, ?_⟩
  rw [h2]
  exact qe0 (Below.refl _ _) _)
set_option maxHeartbeats 8000000 in
set_option maxRecDepth 100000 in
theorem impl_AddWork.calls (k : Nat) (a0_0 : Int) (A0_1 : Option Addr) (c0_1 : Nat) (l0_1 : List Int) (a1 a2 : Int) (r : Int) (w : World) (hr0_1 : Kd.C (Kd.int .i64) w A0_1 l0_1.length l0_1) (hc0_1 : l0_1.length ≤ c0_1) (h : impl_AddWork.f k a0_0 l0_1 a1 a2 = some r) :
  Calls Try.prog 8 #[.agg #[.int .i64 a0_0, .slice A0_1 l0_1.length c0_1], .int .i64 a1, .int .i64 a2] w fun e w' => e = .returned (.int .i64 r) ∧ Below w.heap.size w w' := by
 have hu26 := Try.underlying26
 unfold impl_AddWork.f at h
 obtain ⟨t1, e1, h⟩ := Option.bind_eq_some_iff.1 h
 have hB0 : Below w.heap.size w ((w.alloc (.cells #[.int .i64 a0_0, .slice A0_1 l0_1.length c0_1] 26)).alloc (.cells #[.int .i64 0] 3)) := ((Below.refl _ w).alloc (Nat.le_refl _) _).alloc (by simp) _
 have g0 : ((w.alloc (.cells #[.int .i64 a0_0, .slice A0_1 l0_1.length c0_1] 26)).alloc (.cells #[.int .i64 0] 3)).heap[w.heap.size]? = some (.cells #[.int .i64 a0_0, .slice A0_1 l0_1.length c0_1] 26 (0, 0)) := qg0 (World.alloc_heap_new w _) _
 have g1 : ((w.alloc (.cells #[.int .i64 a0_0, .slice A0_1 l0_1.length c0_1] 26)).alloc (.cells #[.int .i64 0] 3)).heap[w.heap.size + 1]? = some (.cells #[.int .i64 0] 3 (0, 0)) := new1 w _ _
 generalize hwa : ((w.alloc (.cells #[.int .i64 a0_0, .slice A0_1 l0_1.length c0_1] 26)).alloc (.cells #[.int .i64 0] 3)) = wa at hB0 g0 g1
 have q0 : wa.cell? ⟨w.heap.size, 0, none⟩ = some (.int .i64 a0_0) := (qb0 g0 0).trans rfl
 have q1 : wa.cell? ⟨w.heap.size, 1, none⟩ = some (.slice A0_1 l0_1.length c0_1) := (qb0 g0 1).trans rfl
 refine (callsIn_wide (n := 3)).1 ?_
 refine callsIn_of_wp_marks Try.func8 rfl trivial ?_ rfl
 simp only [Try.ntmps8, List.size_toArray, List.length_cons, List.length_nil, Nat.reduceAdd, Nat.reduceSub, Array.replicate_succ, Array.replicate_zero, List.push_toArray, List.append_toArray, List.nil_append, List.cons_append]
 gi_upto_region 1 with (fail)
 clear hwa
 have off_ : ∀ {W : World}, Below w.heap.size w W → W.cell? ⟨w.heap.size + 1, 0, none⟩ = some (.int .i64 0) → ∀ tmps : Array Value, tmps.getD 6 undef = .pointer (some ⟨w.heap.size + 1, 0, none⟩) → ∃ v, (results Try.f8 tmps).run Try.prog (W.setCell ⟨w.heap.size + 1, 0, none⟩ (.int .i64 (-1))) = .ok v (W.setCell ⟨w.heap.size + 1, 0, none⟩ (.int .i64 (-1))) ∧ (Ending.returned v = Ending.returned (.int .i64 (-1)) ∧ Below w.heap.size w (W.setCell ⟨w.heap.size + 1, 0, none⟩ (.int .i64 (-1)))) :=
  fun {W} hB hc tmps hp => ⟨_, res8 tmps _ _ _ hp (World.cell?_setCell_same' _ _ _ (by rw [hc]; rfl)), rfl, hB.setCell (p := ⟨w.heap.size + 1, 0, none⟩) (by simp) _⟩
 cases t1 with
 | false =>
  rw [if_neg (by decide)] at h
  obtain rfl := Option.some.inj h
  gi_wp2_with (first | (refine ⟨trivial, ?_⟩; gi_at_call 24; refine (callsIn_wide.2 (impl_CalOk.calls k a0_0 A0_1 c0_1 l0_1 false wa (Kd.qd1 hr0_1 hB0) hc0_1 e1)).mono ?_; rintro e w1 ⟨rfl, hb⟩; have g0a := bl_ hb g0; have g1a := bl_ hb g1; have hB1 := hB0.trans (hb.mono hB0.size); have q1' : w1.cell? ⟨w.heap.size + 1, 0, none⟩ = some (.int .i64 0) := (qb0 g1a 0).trans rfl; have f1' := qa0 g1a 0))
  refine ⟨trivial, ?_⟩
  gi_wp2
  refine ⟨trivial, ?_⟩
  gi_wp2
  exact off_ hB1 q1' _ rfl
 | true =>
  rw [if_pos rfl] at h
  obtain ⟨t2, e2, h⟩ := Option.bind_eq_some_iff.1 h
  cases t2 with
  | false =>
   rw [if_neg (by decide)] at h
   obtain rfl := Option.some.inj h
   gi_wp2_with (first | (refine ⟨trivial, ?_⟩; gi_at_call 24; refine (callsIn_wide.2 (impl_CalOk.calls k a0_0 A0_1 c0_1 l0_1 true wa (Kd.qd1 hr0_1 hB0) hc0_1 e1)).mono ?_; rintro e w1 ⟨rfl, hb⟩; have g0a := bl_ hb g0; have g1a := bl_ hb g1; have hB1 := hB0.trans (hb.mono hB0.size); have q1' : w1.cell? ⟨w.heap.size + 1, 0, none⟩ = some (.int .i64 0) := (qb0 g1a 0).trans rfl; have f1' := qa0 g1a 0) | (refine ⟨trivial, ?_⟩; gi_at_call 26; refine (callsIn_wide.2 (isDay_b a1 false w1 e2)).mono ?_; rintro e w2 ⟨rfl, hb⟩; have g0b := bl_ hb g0a; have g1b := bl_ hb g1a; have hB2 := hB1.trans (hb.mono hB1.size); have q1'' : w2.cell? ⟨w.heap.size + 1, 0, none⟩ = some (.int .i64 0) := (qb0 g1b 0).trans rfl; have f1'' := qa0 g1b 0))
   refine ⟨trivial, ?_⟩
   gi_wp2
   exact off_ hB2 q1'' _ rfl
  | true =>
   rw [if_pos rfl] at h
   obtain ⟨t3, e3, h⟩ := Option.bind_eq_some_iff.1 h
   cases t3 with
   | false =>
    rw [if_neg (by decide)] at h
    obtain rfl := Option.some.inj h
    gi_wp2_with (first | (refine ⟨trivial, ?_⟩; gi_at_call 24; refine (callsIn_wide.2 (impl_CalOk.calls k a0_0 A0_1 c0_1 l0_1 true wa (Kd.qd1 hr0_1 hB0) hc0_1 e1)).mono ?_; rintro e w1 ⟨rfl, hb⟩; have g0a := bl_ hb g0; have g1a := bl_ hb g1; have hB1 := hB0.trans (hb.mono hB0.size); have q1' : w1.cell? ⟨w.heap.size + 1, 0, none⟩ = some (.int .i64 0) := (qb0 g1a 0).trans rfl; have f1' := qa0 g1a 0) | (refine ⟨trivial, ?_⟩; gi_at_call 26; refine (callsIn_wide.2 (isDay_b a1 true w1 e2)).mono ?_; rintro e w2 ⟨rfl, hb⟩; have g0b := bl_ hb g0a; have g1b := bl_ hb g1a; have hB2 := hB1.trans (hb.mono hB1.size); have q1'' : w2.cell? ⟨w.heap.size + 1, 0, none⟩ = some (.int .i64 0) := (qb0 g1b 0).trans rfl; have f1'' := qa0 g1b 0) | (refine ⟨trivial, ?_⟩; gi_at_call 27; refine (callsIn_wide.2 (between_b a2 (-2000) 2000 false w2 e3)).mono ?_; rintro e w3 ⟨rfl, hb⟩; have g0c := bl_ hb g0b; have g1c := bl_ hb g1b; have hB3 := hB2.trans (hb.mono hB2.size); have q3 : w3.cell? ⟨w.heap.size + 1, 0, none⟩ = some (.int .i64 0) := (qb0 g1c 0).trans rfl; have f3 := qa0 g1c 0; have q30 : w3.cell? ⟨w.heap.size, 0, none⟩ = some (.int .i64 a0_0) := (qb0 g0c 0).trans rfl; have q31 : w3.cell? ⟨w.heap.size, 1, none⟩ = some (.slice A0_1 l0_1.length c0_1) := (qb0 g0c 1).trans rfl))
    exact off_ hB3 q3 _ rfl
   | true =>
    rw [if_pos rfl] at h
    obtain ⟨xs, e4, h⟩ := Option.bind_eq_some_iff.1 h
    have hr := Option.some.inj h
    have hleft := left_ok e3
    have h3 : (a2 > 0 ∧ awStep a2 = 1 ∧ awFrom a1 a2 = wrap64 (a1 + 1) ∧ awLeft a2 = a2) ∨ (¬ a2 > 0 ∧ a2 < 0 ∧ awStep a2 = -1 ∧ awFrom a1 a2 = wrap64 (a1 - 1) ∧ awLeft a2 = wrap64 (-a2)) ∨ (¬ a2 > 0 ∧ ¬ a2 < 0 ∧ awStep a2 = 1 ∧ awFrom a1 a2 = a1 ∧ awLeft a2 = 1) := by
     unfold awStep awFrom awLeft
     by_cases c1 : a2 > 0
     ·simp [c1]
     ·by_cases c2 : a2 < 0
      ·simp [c1, c2]
      ·simp [c1, c2]
    rcases h3 with ⟨c1, s1, s2, s3⟩ | ⟨c1, c2, s1, s2, s3⟩ | ⟨c1, c2, s1, s2, s3⟩
    ·have c1b : decide (a2 > 0) = true := decide_eq_true c1
     have c1c : decide (0 < a2) = true := c1b
     rw [s1, s2] at e4
     gi_upto_region 9 with (first | (refine ⟨trivial, ?_⟩; gi_at_call 24; refine (callsIn_wide.2 (impl_CalOk.calls k a0_0 A0_1 c0_1 l0_1 true wa (Kd.qd1 hr0_1 hB0) hc0_1 e1)).mono ?_; rintro e w1 ⟨rfl, hb⟩; have g0a := bl_ hb g0; have g1a := bl_ hb g1; have hB1 := hB0.trans (hb.mono hB0.size); have q1' : w1.cell? ⟨w.heap.size + 1, 0, none⟩ = some (.int .i64 0) := (qb0 g1a 0).trans rfl; have f1' := qa0 g1a 0) | (refine ⟨trivial, ?_⟩; gi_at_call 26; refine (callsIn_wide.2 (isDay_b a1 true w1 e2)).mono ?_; rintro e w2 ⟨rfl, hb⟩; have g0b := bl_ hb g0a; have g1b := bl_ hb g1a; have hB2 := hB1.trans (hb.mono hB1.size); have q1'' : w2.cell? ⟨w.heap.size + 1, 0, none⟩ = some (.int .i64 0) := (qb0 g1b 0).trans rfl; have f1'' := qa0 g1b 0) | (refine ⟨trivial, ?_⟩; gi_at_call 27; refine (callsIn_wide.2 (between_b a2 (-2000) 2000 true w2 e3)).mono ?_; rintro e w3 ⟨rfl, hb⟩; have g0c := bl_ hb g0b; have g1c := bl_ hb g1b; have hB3 := hB2.trans (hb.mono hB2.size); have q3 : w3.cell? ⟨w.heap.size + 1, 0, none⟩ = some (.int .i64 0) := (qb0 g1c 0).trans rfl; have f3 := qa0 g1c 0; have q30 : w3.cell? ⟨w.heap.size, 0, none⟩ = some (.int .i64 a0_0) := (qb0 g0c 0).trans rfl; have q31 : w3.cell? ⟨w.heap.size, 1, none⟩ = some (.slice A0_1 l0_1.length c0_1) := (qb0 g0c 1).trans rfl))
     have gL : (w3.alloc (.cells #[.int .i64 (a2)] 3)).heap[w3.heap.size]? = some (.cells #[.int .i64 (awLeft a2)] 3 (0, 0)) := by rw [s3]; exact World.alloc_heap_new w3 _
     have g0d : (w3.alloc (.cells #[.int .i64 (a2)] 3)).heap[w.heap.size]? = some (.cells #[.int .i64 a0_0, .slice A0_1 l0_1.length c0_1] 26 (0, 0)) := qg0 g0c _
     have g1d : (w3.alloc (.cells #[.int .i64 (a2)] 3)).heap[w.heap.size + 1]? = some (.cells #[.int .i64 0] 3 (0, 0)) := qg0 g1c _
     have hB4 : Below w.heap.size w (w3.alloc (.cells #[.int .i64 (a2)] 3)) := hB3.alloc hB3.size _
     have hLR : w.heap.size + 1 < w3.heap.size := qu0 g1c
     generalize (w3.alloc (.cells #[.int .i64 (a2)] 3)) = w4 at gL g0d g1d hB4 ⊢
     have q40 : w4.cell? ⟨w.heap.size, 0, none⟩ = some (.int .i64 a0_0) := (qb0 g0d 0).trans rfl
     have q41 : w4.cell? ⟨w.heap.size, 1, none⟩ = some (.slice A0_1 l0_1.length c0_1) := (qb0 g0d 1).trans rfl
     have hL4 : w3.heap.size < w4.heap.size := qu0 gL
     gi_wp2_with (refine ⟨trivial, ?_⟩; gi_at_call 28; refine (callsIn_wide.2 (workdays_in a0_0 A0_1 c0_1 l0_1.length (wrap64 (a1 + 1)) (1) w4)).mono ?_; rintro e w5 ⟨rfl, hb5, hf5, hs5, hc5⟩)
     have gL5 := bl_ hb5 gL
     have g15 := bl_ hb5 g1d
     have hB5 := hB4.trans (hb5.mono hB4.size)
     have hsz5 := hb5.size
     refine wpIn_rangeFunc_ownF (F := Fence.wide) rfl (by omega) (gf := 47) (lb := #[.pointer (some ⟨w4.heap.size + 1, 0, none⟩), .pointer (some ⟨w4.heap.size + 2, 0, none⟩), .pointer (some ⟨w4.heap.size, 0, none⟩)]) rfl trivial (enters_of Try.func47 (by kernel_rfl) rfl)
      (wd_stops k a0_0 A0_1 c0_1 l0_1 (1) (wrap64 (a1 + 1)) k xs e4 (3 - 1) (by omega) (w4.heap.size + 1) (w4.heap.size + 2) w4.heap.size w hr0_1 hc0_1 w5 hf5 hs5 hc5 hB5) KpW_t (KpW_b hB5.size (qu0 hs5) (qu0 hc5)) (Below.refl _ _) (fun _ => rfl)
      (fun pre W => (((pre.length : Int) < awLeft a2 ∧ Boxed W w3.heap.size 3 (.int .i64 (awLeft a2 - pre.length))) ∧ Boxed W (w.heap.size + 1) 3 (.int .i64 0)) ∧ Below w.heap.size w W)
      (fun c pre W => (∃ p x, c = Code.ret ∧ pre = p ++ [x] ∧ (p.length : Int) + 1 = awLeft a2 ∧ Boxed W (w.heap.size + 1) 3 (.int .i64 x)) ∧ Below w.heap.size w W)
      (OwnFrom.and (Own.from (fun s A B row hs hg hr => ⟨⟨hs.1.1, boxed_own _ _ (fun (p : List Int) => Value.int .i64 (awLeft a2 - p.length)) s A B row hs.1.2 hg hr⟩, boxed_own _ _ (fun (_ : List Int) => Value.int .i64 0) s A B row hs.2 hg hr⟩) _) (ownFrom_below (Nat.le_refl _) hB5.size))
      (fun c => OwnFrom.and (Own.from (fun s A B row hs hg hr => by obtain ⟨p, x, h1, h2, h3, h4⟩ := hs; exact ⟨p, x, h1, h2, h3, boxed_own _ _ (fun (_ : List Int) => Value.int .i64 x) s A B row h4 hg hr⟩) _) (ownFrom_below (Nat.le_refl _) hB5.size))
      ⟨⟨⟨by have := hleft.1; show ((0 : Nat) : Int) < _; omega, z4_0⟩, g15⟩, hB5⟩ ?aa1 ?assign1 ?body1 ?done1 ?stop1
     case assign1 =>
      intro lp x W K hK
      gi_wp2
      exact hK
     case body1 =>
      rintro lp pre x W ⟨⟨⟨hlt, hL⟩, hR⟩, hB⟩ hN
      have hvb : 1 ≤ awLeft a2 - (pre.length : Int) ∧ awLeft a2 - (pre.length : Int) ≤ 2000 := by have := hleft.2; omega
      generalize hv : awLeft a2 - (pre.length : Int) = v at hL hvb
      have hwv : wrap64 (v - 1) = v - 1 := by unfold wrap64; omega
      have cL : W.cell? ⟨w3.heap.size, 0, none⟩ = some (.int .i64 v) := (qb0 hL 0).trans rfl
      have fL := qa0 hL 0
      have cR : W.cell? ⟨w.heap.size + 1, 0, none⟩ = some (.int .i64 0) := (qb0 hR 0).trans rfl
      have fR := qa0 hR 0
      have HV := Aside0.mk hwv
      clear hwv
      have hne : w3.heap.size ≠ w.heap.size + 1 := by omega
      have hne2 : w.heap.size + 1 ≠ w3.heap.size := by omega
      gi_wp2
      ·rename_i hx
       have hx1 : v - 1 = 0 := eq_of_beq hx
       exact ⟨(KeepsOthers.setCell _ _ _).trans (KeepsOthers.setCell _ _ _), ⟨pre, x, rfl, rfl, by omega, qy0 (hR.other hne2 _) 0 _ rfl⟩, (hB.setCell (p := ⟨w3.heap.size, 0, none⟩) z4_1 _).setCell (p := ⟨w.heap.size + 1, 0, none⟩) z4_2 _⟩
      all_goals
       rename_i hx
       have hx1 : v - 1 ≠ 0 := fun h => by rw [h] at hx; cases hx
       have e : awLeft a2 - ((pre ++ [x]).length : Int) = v - 1 := by rw [List.length_append, List.length_singleton]; omega
       have e0 : ((pre ++ [x]).length : Int) < awLeft a2 := by omega
       refine ⟨KeepsOthers.setCell _ _ _, ⟨(Below.refl _ W).setCell (p := ⟨w3.heap.size, 0, none⟩) z4_1 _, Below.heap_setCell W _ _ _ (by show _ ≠ w3.heap.size; omega), Below.heap_setCell W _ _ _ (by show _ ≠ w3.heap.size; omega)⟩, ⟨⟨e0, ?_⟩, hR.other hne2 _⟩, hB.setCell (p := ⟨w3.heap.size, 0, none⟩) z4_1 _⟩
       rw [e]
       first | exact qy0 hL 0 _ rfl | (rw [← HV.out]; exact qy0 hL 0 _ rfl)
     case done1 =>
      rintro D ys W hD rfl ⟨⟨⟨hlt, hL⟩, hR⟩, hB⟩ hK
      have cR : W.cell? ⟨w.heap.size + 1, 0, none⟩ = some (.int .i64 0) := (qb0 hR 0).trans rfl
      have fR := qa0 hR 0
      gi_wp2
      have hK' := (KeepsOthers.setCell W ⟨w.heap.size + 1, 0, none⟩ (.int .i64 (-1))).same D _ hK rfl
      refine ⟨by simp, .inl ⟨_, _, rfl, run_takeDeferred hK', ?_⟩⟩
      have hc5 := cell_kept (World.cell?_setCell_same' W ⟨w.heap.size + 1, 0, none⟩ (.int .i64 (-1)) (by rw [cR]; rfl)) (grownBy_putObj' _ D (.deferred none)) (fun r e => by cases e; exact ⟨_, hK', rfl⟩)
      have hno : ys[(awLeft a2 - 1).toNat]? = none := List.getElem?_eq_none (by omega)
      have hr1 : r = -1 := by rw [← hr, hno]; rfl
      exact ⟨_, res8 _ _ _ _ rfl hc5, by rw [hr1], (hB.setCell (p := ⟨w.heap.size + 1, 0, none⟩) z4_2 _).trans (belowK_b (w := w) (Nat.le_refl _) _ D _ _ (by omega) hK' rfl rfl)⟩
     case stop1 =>
      rintro D c pre W hD hpre ⟨⟨p, x, rfl, rfl, hp, hR⟩, hB⟩ hK
      gi_wp2
      refine ⟨by simp, .inl ⟨_, _, rfl, run_takeDeferred hK, ?_⟩⟩
      have cR : W.cell? ⟨w.heap.size + 1, 0, none⟩ = some (.int .i64 x) := (qb0 hR 0).trans rfl
      have hc5 := cell_kept cR (grownBy_putObj' _ D (.deferred none)) (fun r e => by cases e; exact ⟨_, hK, rfl⟩)
      have hr1 : r = x := by
       obtain ⟨t, ht⟩ := hpre
       have hlen : (awLeft a2 - 1).toNat = p.length := by omega
       rw [← hr, hlen, ← ht]
       simp
      exact ⟨_, res8 _ _ _ _ rfl hc5, by rw [hr1], hB.trans (belowK_b (w := w) (Nat.le_refl _) W D _ _ (by omega) hK rfl rfl)⟩
    ·have c1b : decide (a2 > 0) = false := decide_eq_false c1
     have c1c : decide (0 < a2) = false := c1b
     have c2b : decide (a2 < 0) = true := decide_eq_true c2
     rw [s1, s2] at e4
     gi_upto_region 9 with (first | (refine ⟨trivial, ?_⟩; gi_at_call 24; refine (callsIn_wide.2 (impl_CalOk.calls k a0_0 A0_1 c0_1 l0_1 true wa (Kd.qd1 hr0_1 hB0) hc0_1 e1)).mono ?_; rintro e w1 ⟨rfl, hb⟩; have g0a := bl_ hb g0; have g1a := bl_ hb g1; have hB1 := hB0.trans (hb.mono hB0.size); have q1' : w1.cell? ⟨w.heap.size + 1, 0, none⟩ = some (.int .i64 0) := (qb0 g1a 0).trans rfl; have f1' := qa0 g1a 0) | (refine ⟨trivial, ?_⟩; gi_at_call 26; refine (callsIn_wide.2 (isDay_b a1 true w1 e2)).mono ?_; rintro e w2 ⟨rfl, hb⟩; have g0b := bl_ hb g0a; have g1b := bl_ hb g1a; have hB2 := hB1.trans (hb.mono hB1.size); have q1'' : w2.cell? ⟨w.heap.size + 1, 0, none⟩ = some (.int .i64 0) := (qb0 g1b 0).trans rfl; have f1'' := qa0 g1b 0) | (refine ⟨trivial, ?_⟩; gi_at_call 27; refine (callsIn_wide.2 (between_b a2 (-2000) 2000 true w2 e3)).mono ?_; rintro e w3 ⟨rfl, hb⟩; have g0c := bl_ hb g0b; have g1c := bl_ hb g1b; have hB3 := hB2.trans (hb.mono hB2.size); have q3 : w3.cell? ⟨w.heap.size + 1, 0, none⟩ = some (.int .i64 0) := (qb0 g1c 0).trans rfl; have f3 := qa0 g1c 0; have q30 : w3.cell? ⟨w.heap.size, 0, none⟩ = some (.int .i64 a0_0) := (qb0 g0c 0).trans rfl; have q31 : w3.cell? ⟨w.heap.size, 1, none⟩ = some (.slice A0_1 l0_1.length c0_1) := (qb0 g0c 1).trans rfl))
     have gL : (w3.alloc (.cells #[.int .i64 (wrap64 (-a2))] 3)).heap[w3.heap.size]? = some (.cells #[.int .i64 (awLeft a2)] 3 (0, 0)) := by rw [s3]; exact World.alloc_heap_new w3 _
     have g0d : (w3.alloc (.cells #[.int .i64 (wrap64 (-a2))] 3)).heap[w.heap.size]? = some (.cells #[.int .i64 a0_0, .slice A0_1 l0_1.length c0_1] 26 (0, 0)) := qg0 g0c _
     have g1d : (w3.alloc (.cells #[.int .i64 (wrap64 (-a2))] 3)).heap[w.heap.size + 1]? = some (.cells #[.int .i64 0] 3 (0, 0)) := qg0 g1c _
     have hB4 : Below w.heap.size w (w3.alloc (.cells #[.int .i64 (wrap64 (-a2))] 3)) := hB3.alloc hB3.size _
     have hLR : w.heap.size + 1 < w3.heap.size := qu0 g1c
     generalize (w3.alloc (.cells #[.int .i64 (wrap64 (-a2))] 3)) = w4 at gL g0d g1d hB4 ⊢
     have q40 : w4.cell? ⟨w.heap.size, 0, none⟩ = some (.int .i64 a0_0) := (qb0 g0d 0).trans rfl
     have q41 : w4.cell? ⟨w.heap.size, 1, none⟩ = some (.slice A0_1 l0_1.length c0_1) := (qb0 g0d 1).trans rfl
     have hL4 : w3.heap.size < w4.heap.size := qu0 gL
     gi_wp2_with (refine ⟨trivial, ?_⟩; gi_at_call 28; refine (callsIn_wide.2 (workdays_in a0_0 A0_1 c0_1 l0_1.length (wrap64 (a1 - 1)) (-1) w4)).mono ?_; rintro e w5 ⟨rfl, hb5, hf5, hs5, hc5⟩)
     have gL5 := bl_ hb5 gL
     have g15 := bl_ hb5 g1d
     have hB5 := hB4.trans (hb5.mono hB4.size)
     have hsz5 := hb5.size
     refine wpIn_rangeFunc_ownF (F := Fence.wide) rfl (by omega) (gf := 47) (lb := #[.pointer (some ⟨w4.heap.size + 1, 0, none⟩), .pointer (some ⟨w4.heap.size + 2, 0, none⟩), .pointer (some ⟨w4.heap.size, 0, none⟩)]) rfl trivial (enters_of Try.func47 (by kernel_rfl) rfl)
      (wd_stops k a0_0 A0_1 c0_1 l0_1 (-1) (wrap64 (a1 - 1)) k xs e4 (3 - 1) (by omega) (w4.heap.size + 1) (w4.heap.size + 2) w4.heap.size w hr0_1 hc0_1 w5 hf5 hs5 hc5 hB5) KpW_t (KpW_b hB5.size (qu0 hs5) (qu0 hc5)) (Below.refl _ _) (fun _ => rfl)
      (fun pre W => (((pre.length : Int) < awLeft a2 ∧ Boxed W w3.heap.size 3 (.int .i64 (awLeft a2 - pre.length))) ∧ Boxed W (w.heap.size + 1) 3 (.int .i64 0)) ∧ Below w.heap.size w W)
      (fun c pre W => (∃ p x, c = Code.ret ∧ pre = p ++ [x] ∧ (p.length : Int) + 1 = awLeft a2 ∧ Boxed W (w.heap.size + 1) 3 (.int .i64 x)) ∧ Below w.heap.size w W)
      (OwnFrom.and (Own.from (fun s A B row hs hg hr => ⟨⟨hs.1.1, boxed_own _ _ (fun (p : List Int) => Value.int .i64 (awLeft a2 - p.length)) s A B row hs.1.2 hg hr⟩, boxed_own _ _ (fun (_ : List Int) => Value.int .i64 0) s A B row hs.2 hg hr⟩) _) (ownFrom_below (Nat.le_refl _) hB5.size))
      (fun c => OwnFrom.and (Own.from (fun s A B row hs hg hr => by obtain ⟨p, x, h1, h2, h3, h4⟩ := hs; exact ⟨p, x, h1, h2, h3, boxed_own _ _ (fun (_ : List Int) => Value.int .i64 x) s A B row h4 hg hr⟩) _) (ownFrom_below (Nat.le_refl _) hB5.size))
      ⟨⟨⟨by have := hleft.1; show ((0 : Nat) : Int) < _; omega, z4_0⟩, g15⟩, hB5⟩ ?aa2 ?assign2 ?body2 ?done2 ?stop2
     case assign2 =>
      intro lp x W K hK
      gi_wp2
      exact hK
     case body2 =>
      rintro lp pre x W ⟨⟨⟨hlt, hL⟩, hR⟩, hB⟩ hN
      have hvb : 1 ≤ awLeft a2 - (pre.length : Int) ∧ awLeft a2 - (pre.length : Int) ≤ 2000 := by have := hleft.2; omega
      generalize hv : awLeft a2 - (pre.length : Int) = v at hL hvb
      have hwv : wrap64 (v - 1) = v - 1 := by unfold wrap64; omega
      have cL : W.cell? ⟨w3.heap.size, 0, none⟩ = some (.int .i64 v) := (qb0 hL 0).trans rfl
      have fL := qa0 hL 0
      have cR : W.cell? ⟨w.heap.size + 1, 0, none⟩ = some (.int .i64 0) := (qb0 hR 0).trans rfl
      have fR := qa0 hR 0
      have HV := Aside0.mk hwv
      clear hwv
      have hne : w3.heap.size ≠ w.heap.size + 1 := by omega
      have hne2 : w.heap.size + 1 ≠ w3.heap.size := by omega
      gi_wp2
      ·rename_i hx
       have hx1 : v - 1 = 0 := eq_of_beq hx
       exact ⟨(KeepsOthers.setCell _ _ _).trans (KeepsOthers.setCell _ _ _), ⟨pre, x, rfl, rfl, by omega, qy0 (hR.other hne2 _) 0 _ rfl⟩, (hB.setCell (p := ⟨w3.heap.size, 0, none⟩) z4_1 _).setCell (p := ⟨w.heap.size + 1, 0, none⟩) z4_2 _⟩
      all_goals
       rename_i hx
       have hx1 : v - 1 ≠ 0 := fun h => by rw [h] at hx; cases hx
       have e : awLeft a2 - ((pre ++ [x]).length : Int) = v - 1 := by rw [List.length_append, List.length_singleton]; omega
       have e0 : ((pre ++ [x]).length : Int) < awLeft a2 := by omega
       refine ⟨KeepsOthers.setCell _ _ _, ⟨(Below.refl _ W).setCell (p := ⟨w3.heap.size, 0, none⟩) z4_1 _, Below.heap_setCell W _ _ _ (by show _ ≠ w3.heap.size; omega), Below.heap_setCell W _ _ _ (by show _ ≠ w3.heap.size; omega)⟩, ⟨⟨e0, ?_⟩, hR.other hne2 _⟩, hB.setCell (p := ⟨w3.heap.size, 0, none⟩) z4_1 _⟩
       rw [e]
       first | exact qy0 hL 0 _ rfl | (rw [← HV.out]; exact qy0 hL 0 _ rfl)
     case done2 =>
      rintro D ys W hD rfl ⟨⟨⟨hlt, hL⟩, hR⟩, hB⟩ hK
      have cR : W.cell? ⟨w.heap.size + 1, 0, none⟩ = some (.int .i64 0) := (qb0 hR 0).trans rfl
      have fR := qa0 hR 0
      gi_wp2
      have hK' := (KeepsOthers.setCell W ⟨w.heap.size + 1, 0, none⟩ (.int .i64 (-1))).same D _ hK rfl
      refine ⟨by simp, .inl ⟨_, _, rfl, run_takeDeferred hK', ?_⟩⟩
      have hc5 := cell_kept (World.cell?_setCell_same' W ⟨w.heap.size + 1, 0, none⟩ (.int .i64 (-1)) (by rw [cR]; rfl)) (grownBy_putObj' _ D (.deferred none)) (fun r e => by cases e; exact ⟨_, hK', rfl⟩)
      have hno : ys[(awLeft a2 - 1).toNat]? = none := List.getElem?_eq_none (by omega)
      have hr1 : r = -1 := by rw [← hr, hno]; rfl
      exact ⟨_, res8 _ _ _ _ rfl hc5, by rw [hr1], (hB.setCell (p := ⟨w.heap.size + 1, 0, none⟩) z4_2 _).trans (belowK_b (w := w) (Nat.le_refl _) _ D _ _ (by omega) hK' rfl rfl)⟩
     case stop2 =>
      rintro D c pre W hD hpre ⟨⟨p, x, rfl, rfl, hp, hR⟩, hB⟩ hK
      gi_wp2
      refine ⟨by simp, .inl ⟨_, _, rfl, run_takeDeferred hK, ?_⟩⟩
      have cR : W.cell? ⟨w.heap.size + 1, 0, none⟩ = some (.int .i64 x) := (qb0 hR 0).trans rfl
      have hc5 := cell_kept cR (grownBy_putObj' _ D (.deferred none)) (fun r e => by cases e; exact ⟨_, hK, rfl⟩)
      have hr1 : r = x := by
       obtain ⟨t, ht⟩ := hpre
       have hlen : (awLeft a2 - 1).toNat = p.length := by omega
       rw [← hr, hlen, ← ht]
       simp
      exact ⟨_, res8 _ _ _ _ rfl hc5, by rw [hr1], hB.trans (belowK_b (w := w) (Nat.le_refl _) W D _ _ (by omega) hK rfl rfl)⟩
    ·have c1b : decide (a2 > 0) = false := decide_eq_false c1
     have c1c : decide (0 < a2) = false := c1b
     have c2b : decide (a2 < 0) = false := decide_eq_false c2
     rw [s1, s2] at e4
     gi_upto_region 9 with (first | (refine ⟨trivial, ?_⟩; gi_at_call 24; refine (callsIn_wide.2 (impl_CalOk.calls k a0_0 A0_1 c0_1 l0_1 true wa (Kd.qd1 hr0_1 hB0) hc0_1 e1)).mono ?_; rintro e w1 ⟨rfl, hb⟩; have g0a := bl_ hb g0; have g1a := bl_ hb g1; have hB1 := hB0.trans (hb.mono hB0.size); have q1' : w1.cell? ⟨w.heap.size + 1, 0, none⟩ = some (.int .i64 0) := (qb0 g1a 0).trans rfl; have f1' := qa0 g1a 0) | (refine ⟨trivial, ?_⟩; gi_at_call 26; refine (callsIn_wide.2 (isDay_b a1 true w1 e2)).mono ?_; rintro e w2 ⟨rfl, hb⟩; have g0b := bl_ hb g0a; have g1b := bl_ hb g1a; have hB2 := hB1.trans (hb.mono hB1.size); have q1'' : w2.cell? ⟨w.heap.size + 1, 0, none⟩ = some (.int .i64 0) := (qb0 g1b 0).trans rfl; have f1'' := qa0 g1b 0) | (refine ⟨trivial, ?_⟩; gi_at_call 27; refine (callsIn_wide.2 (between_b a2 (-2000) 2000 true w2 e3)).mono ?_; rintro e w3 ⟨rfl, hb⟩; have g0c := bl_ hb g0b; have g1c := bl_ hb g1b; have hB3 := hB2.trans (hb.mono hB2.size); have q3 : w3.cell? ⟨w.heap.size + 1, 0, none⟩ = some (.int .i64 0) := (qb0 g1c 0).trans rfl; have f3 := qa0 g1c 0; have q30 : w3.cell? ⟨w.heap.size, 0, none⟩ = some (.int .i64 a0_0) := (qb0 g0c 0).trans rfl; have q31 : w3.cell? ⟨w.heap.size, 1, none⟩ = some (.slice A0_1 l0_1.length c0_1) := (qb0 g0c 1).trans rfl))
     have gL : (w3.alloc (.cells #[.int .i64 (1)] 3)).heap[w3.heap.size]? = some (.cells #[.int .i64 (awLeft a2)] 3 (0, 0)) := by rw [s3]; exact World.alloc_heap_new w3 _
     have g0d : (w3.alloc (.cells #[.int .i64 (1)] 3)).heap[w.heap.size]? = some (.cells #[.int .i64 a0_0, .slice A0_1 l0_1.length c0_1] 26 (0, 0)) := qg0 g0c _
     have g1d : (w3.alloc (.cells #[.int .i64 (1)] 3)).heap[w.heap.size + 1]? = some (.cells #[.int .i64 0] 3 (0, 0)) := qg0 g1c _
     have hB4 : Below w.heap.size w (w3.alloc (.cells #[.int .i64 (1)] 3)) := hB3.alloc hB3.size _
     have hLR : w.heap.size + 1 < w3.heap.size := qu0 g1c
     generalize (w3.alloc (.cells #[.int .i64 (1)] 3)) = w4 at gL g0d g1d hB4 ⊢
     have q40 : w4.cell? ⟨w.heap.size, 0, none⟩ = some (.int .i64 a0_0) := (qb0 g0d 0).trans rfl
     have q41 : w4.cell? ⟨w.heap.size, 1, none⟩ = some (.slice A0_1 l0_1.length c0_1) := (qb0 g0d 1).trans rfl
     have hL4 : w3.heap.size < w4.heap.size := qu0 gL
     gi_wp2_with (refine ⟨trivial, ?_⟩; gi_at_call 28; refine (callsIn_wide.2 (workdays_in a0_0 A0_1 c0_1 l0_1.length (a1) (1) w4)).mono ?_; rintro e w5 ⟨rfl, hb5, hf5, hs5, hc5⟩)
     have gL5 := bl_ hb5 gL
     have g15 := bl_ hb5 g1d
     have hB5 := hB4.trans (hb5.mono hB4.size)
     have hsz5 := hb5.size
     refine wpIn_rangeFunc_ownF (F := Fence.wide) rfl (by omega) (gf := 47) (lb := #[.pointer (some ⟨w4.heap.size + 1, 0, none⟩), .pointer (some ⟨w4.heap.size + 2, 0, none⟩), .pointer (some ⟨w4.heap.size, 0, none⟩)]) rfl trivial (enters_of Try.func47 (by kernel_rfl) rfl)
      (wd_stops k a0_0 A0_1 c0_1 l0_1 (1) (a1) k xs e4 (3 - 1) (by omega) (w4.heap.size + 1) (w4.heap.size + 2) w4.heap.size w hr0_1 hc0_1 w5 hf5 hs5 hc5 hB5) KpW_t (KpW_b hB5.size (qu0 hs5) (qu0 hc5)) (Below.refl _ _) (fun _ => rfl)
      (fun pre W => (((pre.length : Int) < awLeft a2 ∧ Boxed W w3.heap.size 3 (.int .i64 (awLeft a2 - pre.length))) ∧ Boxed W (w.heap.size + 1) 3 (.int .i64 0)) ∧ Below w.heap.size w W)
      (fun c pre W => (∃ p x, c = Code.ret ∧ pre = p ++ [x] ∧ (p.length : Int) + 1 = awLeft a2 ∧ Boxed W (w.heap.size + 1) 3 (.int .i64 x)) ∧ Below w.heap.size w W)
      (OwnFrom.and (Own.from (fun s A B row hs hg hr => ⟨⟨hs.1.1, boxed_own _ _ (fun (p : List Int) => Value.int .i64 (awLeft a2 - p.length)) s A B row hs.1.2 hg hr⟩, boxed_own _ _ (fun (_ : List Int) => Value.int .i64 0) s A B row hs.2 hg hr⟩) _) (ownFrom_below (Nat.le_refl _) hB5.size))
      (fun c => OwnFrom.and (Own.from (fun s A B row hs hg hr => by obtain ⟨p, x, h1, h2, h3, h4⟩ := hs; exact ⟨p, x, h1, h2, h3, boxed_own _ _ (fun (_ : List Int) => Value.int .i64 x) s A B row h4 hg hr⟩) _) (ownFrom_below (Nat.le_refl _) hB5.size))
      ⟨⟨⟨by have := hleft.1; show ((0 : Nat) : Int) < _; omega, z4_0⟩, g15⟩, hB5⟩ ?aa3 ?assign3 ?body3 ?done3 ?stop3
     case assign3 =>
      intro lp x W K hK
      gi_wp2
      exact hK
     case body3 =>
      rintro lp pre x W ⟨⟨⟨hlt, hL⟩, hR⟩, hB⟩ hN
      have hvb : 1 ≤ awLeft a2 - (pre.length : Int) ∧ awLeft a2 - (pre.length : Int) ≤ 2000 := by have := hleft.2; omega
      generalize hv : awLeft a2 - (pre.length : Int) = v at hL hvb
      have hwv : wrap64 (v - 1) = v - 1 := by unfold wrap64; omega
      have cL : W.cell? ⟨w3.heap.size, 0, none⟩ = some (.int .i64 v) := (qb0 hL 0).trans rfl
      have fL := qa0 hL 0
      have cR : W.cell? ⟨w.heap.size + 1, 0, none⟩ = some (.int .i64 0) := (qb0 hR 0).trans rfl
      have fR := qa0 hR 0
      have HV := Aside0.mk hwv
      clear hwv
      have hne : w3.heap.size ≠ w.heap.size + 1 := by omega
      have hne2 : w.heap.size + 1 ≠ w3.heap.size := by omega
      gi_wp2
      ·rename_i hx
       have hx1 : v - 1 = 0 := eq_of_beq hx
       exact ⟨(KeepsOthers.setCell _ _ _).trans (KeepsOthers.setCell _ _ _), ⟨pre, x, rfl, rfl, by omega, qy0 (hR.other hne2 _) 0 _ rfl⟩, (hB.setCell (p := ⟨w3.heap.size, 0, none⟩) z4_1 _).setCell (p := ⟨w.heap.size + 1, 0, none⟩) z4_2 _⟩
      all_goals
       rename_i hx
       have hx1 : v - 1 ≠ 0 := fun h => by rw [h] at hx; cases hx
       have e : awLeft a2 - ((pre ++ [x]).length : Int) = v - 1 := by rw [List.length_append, List.length_singleton]; omega
       have e0 : ((pre ++ [x]).length : Int) < awLeft a2 := by omega
       refine ⟨KeepsOthers.setCell _ _ _, ⟨(Below.refl _ W).setCell (p := ⟨w3.heap.size, 0, none⟩) z4_1 _, Below.heap_setCell W _ _ _ (by show _ ≠ w3.heap.size; omega), Below.heap_setCell W _ _ _ (by show _ ≠ w3.heap.size; omega)⟩, ⟨⟨e0, ?_⟩, hR.other hne2 _⟩, hB.setCell (p := ⟨w3.heap.size, 0, none⟩) z4_1 _⟩
       rw [e]
       first | exact qy0 hL 0 _ rfl | (rw [← HV.out]; exact qy0 hL 0 _ rfl)
     case done3 =>
      rintro D ys W hD rfl ⟨⟨⟨hlt, hL⟩, hR⟩, hB⟩ hK
      have cR : W.cell? ⟨w.heap.size + 1, 0, none⟩ = some (.int .i64 0) := (qb0 hR 0).trans rfl
      have fR := qa0 hR 0
      gi_wp2
      have hK' := (KeepsOthers.setCell W ⟨w.heap.size + 1, 0, none⟩ (.int .i64 (-1))).same D _ hK rfl
      refine ⟨by simp, .inl ⟨_, _, rfl, run_takeDeferred hK', ?_⟩⟩
      have hc5 := cell_kept (World.cell?_setCell_same' W ⟨w.heap.size + 1, 0, none⟩ (.int .i64 (-1)) (by rw [cR]; rfl)) (grownBy_putObj' _ D (.deferred none)) (fun r e => by cases e; exact ⟨_, hK', rfl⟩)
      have hno : ys[(awLeft a2 - 1).toNat]? = none := List.getElem?_eq_none (by omega)
      have hr1 : r = -1 := by rw [← hr, hno]; rfl
      exact ⟨_, res8 _ _ _ _ rfl hc5, by rw [hr1], (hB.setCell (p := ⟨w.heap.size + 1, 0, none⟩) z4_2 _).trans (belowK_b (w := w) (Nat.le_refl _) _ D _ _ (by omega) hK' rfl rfl)⟩
     case stop3 =>
      rintro D c pre W hD hpre ⟨⟨p, x, rfl, rfl, hp, hR⟩, hB⟩ hK
      gi_wp2
      refine ⟨by simp, .inl ⟨_, _, rfl, run_takeDeferred hK, ?_⟩⟩
      have cR : W.cell? ⟨w.heap.size + 1, 0, none⟩ = some (.int .i64 x) := (qb0 hR 0).trans rfl
      have hc5 := cell_kept cR (grownBy_putObj' _ D (.deferred none)) (fun r e => by cases e; exact ⟨_, hK, rfl⟩)
      have hr1 : r = x := by
       obtain ⟨t, ht⟩ := hpre
       have hlen : (awLeft a2 - 1).toNat = p.length := by omega
       rw [← hr, hlen, ← ht]
       simp
      exact ⟨_, res8 _ _ _ _ rfl hc5, by rw [hr1], hB.trans (belowK_b (w := w) (Nat.le_refl _) W D _ _ (by omega) hK rfl rfl)⟩

end Go.Proofs.Ytggfggmmecbdnaa.PFnWorkBack
