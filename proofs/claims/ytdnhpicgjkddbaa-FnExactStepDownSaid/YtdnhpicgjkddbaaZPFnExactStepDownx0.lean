/- Lines by a program (a changed copy of the kit's print: this repo's wip/tools): Go functions as Lean functions, and proofs that the calls answer so. -/
import Derived.Test.YtdnhpicgjkddbaaProg
import Derived.Below
import Derived.Deep.Draws
import Derived.Deep.AppendLies
import Derived.Maps.AppendAt
import Derived.OwnWalk
import Derived.Laws.BytesArg
import Derived.Laws.MakeOwn
import Derived.Laws.OwnMore
import Derived.Deep.OwnRows
import Derived.Tactics
import Derived.Lib.ConvBytes
import Derived.Laws.Slices
import Derived.WalkKit
import Derived.KernelRfl
import Derived.RowKit3
import Derived.Deep.LoopGhost
import Derived.Deep.QuietTactic
import Derived.BigQuiet
import Derived.WideLaws
import Derived.Deep.DeepCutAuto
import Derived.Deep.CutBlock
import Derived.Deep.RegionHeld3
import Derived.Laws.Rows
import Derived.Lib.AppendStr
import Derived.ArgAppend
import Derived.Laws.IdiomCopy
import Derived.OrdersHeld
import Derived.Laws.BitsLemmas
import Derived.RowKit
import Derived.Test.YtdnhpicgjkddbaaZWWords
import Derived.Test.YtdnhpicgjkddbaaZWLast
import Derived.Test.YtdnhpicgjkddbaaZWTab
import Derived.Test.YtdnhpicgjkddbaaZWFour
import Derived.Test.YtdnhpicgjkddbaaZWQPut
import Derived.Test.YtdnhpicgjkddbaaZWApart
import Derived.Test.YtdnhpicgjkddbaaZWArr
import Derived.Test.YtdnhpicgjkddbaaZWZeros
import Derived.Test.YtdnhpicgjkddbaaZWFoot
import Derived.Test.YtdnhpicgjkddbaaZWKept
import Derived.Test.YtdnhpicgjkddbaaZWShare
import Derived.Test.YtdnhpicgjkddbaaZWN
import Derived.Test.YtdnhpicgjkddbaaZWFootNe
import Derived.Test.YtdnhpicgjkddbaaZWAt
import Derived.Test.YtdnhpicgjkddbaaZWEqStruct
import Derived.Test.YtdnhpicgjkddbaaZWRepsOne
import Derived.Test.YtdnhpicgjkddbaaZWInv
import Derived.Test.YtdnhpicgjkddbaaZWInvWords
import Derived.Test.YtdnhpicgjkddbaaZWGuard
import Derived.Test.YtdnhpicgjkddbaaZWNEv
import Derived.Test.YtdnhpicgjkddbaaZWMore
import Derived.Test.YtdnhpicgjkddbaaZMap
import Derived.Test.YtdnhpicgjkddbaaZFn
import Derived.Test.YtdnhpicgjkddbaaZMark
namespace Go.Proofs.Ytdnhpicgjkddbaa.PFnExactStepDown
open Go.RowKit Go.Proofs.YtdnhpicgjkddbaaW.PrintWords Go.Proofs.YtdnhpicgjkddbaaW.PrintLast Go.Proofs.YtdnhpicgjkddbaaW.PrintMore
attribute [local go_sem] max2_int min2_int max_two min_two max_three min_three max_four min_four   -- for this text's walks alone
set_option linter.unusedVariables false
set_option linter.unusedSimpArgs false



def errW : Option Int → Value
 | none => .nilIface
 | some c => .iface 0 (.int .i64 c)
theorem errW_none : errW none = .nilIface := rfl
theorem errW_some (c : Int) : errW (some c) = .iface 0 (.int .i64 c) := rfl

theorem info3 : (Try.prog.info? 3).map (fun i => (i.zero, i.size, i.bytes)) = some (some (.int .i64 0), 1, 8) := by kernel_rfl
theorem info152 : (Try.prog.info? 152).map (fun i => (i.zero, i.size, i.bytes)) = some (some (.agg #[(.int .i64 0), (.slice none 0 0), (.slice none 0 0)]), 3, 56) := by kernel_rfl
theorem info223 : (Try.prog.info? 223).map (fun i => (i.zero, i.size, i.bytes)) = some (some (.agg #[(.int .i64 0), (.int .i64 0)]), 2, 16) := by kernel_rfl
-- the values' own types
/-! #### struct type 150 -/
structure S150 where
 f0 : Int
 f1 : (List Int)
 f2 : (List Int)
def z150 : S150 := ⟨(0 : Int), ([] : List Int), ([] : List Int)⟩
def k150 : Kd S150 := Kd.iso (Kd.pair (Kd.int .i64) (Kd.pair (Kd.slice 3 (Kd.int .i64)) (Kd.slice 3 (Kd.int .i64)))) (fun x : S150 => (x.f0, x.f1, x.f2))
theorem k150_open {w : World} {x : S150} {cs : List Value} (h : k150.K w x cs) : ∃ A1 c1 A2 c2, cs = [.int .i64 x.f0, .slice A1 x.f1.length c1, .slice A2 x.f2.length c2] ∧ x.f1.length ≤ c1 ∧ (Kd.int .i64).C w A1 x.f1.length x.f1 ∧ x.f2.length ≤ c2 ∧ (Kd.int .i64).C w A2 x.f2.length x.f2 := by
 obtain ⟨_, _, rfl, rfl, ⟨_, _, rfl, ⟨A1, c1, rfl, l1, g1⟩, ⟨A2, c2, rfl, l2, g2⟩⟩⟩ := h
 exact ⟨A1, c1, A2, c2, rfl, l1, g1, l2, g2⟩
def rd_T150 (xs : List S150) (i : Int) : S150 := xs.getD i.toNat z150
theorem at_T150 {w : World} {A : Option Addr} {n : Nat} {xs : List S150} (h : Kd.C k150 w A n xs) (i : Int) (h0 : 0 ≤ i) (h1 : i < n) : ∃ ad A1 c1 A2 c2, A = some ad ∧ w.cell? (ad.add (i.toNat * 3)) = some (.int .i64 (rd_T150 xs i).f0) ∧ w.cell? ⟨(ad.add (i.toNat * 3)).block, (ad.add (i.toNat * 3)).off + 1, none⟩ = some (.slice A1 (rd_T150 xs i).f1.length c1) ∧ w.cell? ⟨(ad.add (i.toNat * 3)).block, (ad.add (i.toNat * 3)).off + 2, none⟩ = some (.slice A2 (rd_T150 xs i).f2.length c2) ∧ (rd_T150 xs i).f1.length ≤ c1 ∧ (Kd.int .i64).C w A1 (rd_T150 xs i).f1.length (rd_T150 xs i).f1 ∧ (rd_T150 xs i).f2.length ≤ c2 ∧ (Kd.int .i64).C w A2 (rd_T150 xs i).f2.length (rd_T150 xs i).f2 := by
 obtain ⟨ad, c, e, _, hK, hc0⟩ := Kd.C_get h z150 i h0 h1
 have hc : ∀ j u, c[j]? = some u → w.cell? (ad.add (i.toNat * 3 + j)) = some u := hc0
 obtain ⟨A1, c1, A2, c2, rfl, l1, g1, l2, g2⟩ := k150_open hK
 exact ⟨ad, A1, c1, A2, c2, e, hc 0 _ rfl, by rw [← add_field _ _ 1 (by omega)]; exact hc 1 _ rfl, by rw [← add_field _ _ 2 (by omega)]; exact hc 2 _ rfl, l1, g1, l2, g2⟩

/-! #### struct type 152 -/
structure S152 where
 f0 : Int
 f1 : (List Int)
 f2 : (List Int)
def z152 : S152 := ⟨(0 : Int), ([] : List Int), ([] : List Int)⟩
def k152 : Kd S152 := Kd.iso (Kd.pair (Kd.int .i64) (Kd.pair (Kd.slice 3 (Kd.int .i64)) (Kd.slice 3 (Kd.int .i64)))) (fun x : S152 => (x.f0, x.f1, x.f2))
theorem k152_open {w : World} {x : S152} {cs : List Value} (h : k152.K w x cs) : ∃ A1 c1 A2 c2, cs = [.int .i64 x.f0, .slice A1 x.f1.length c1, .slice A2 x.f2.length c2] ∧ x.f1.length ≤ c1 ∧ (Kd.int .i64).C w A1 x.f1.length x.f1 ∧ x.f2.length ≤ c2 ∧ (Kd.int .i64).C w A2 x.f2.length x.f2 := by
 obtain ⟨_, _, rfl, rfl, ⟨_, _, rfl, ⟨A1, c1, rfl, l1, g1⟩, ⟨A2, c2, rfl, l2, g2⟩⟩⟩ := h
 exact ⟨A1, c1, A2, c2, rfl, l1, g1, l2, g2⟩
theorem k152_openM {w : World} {base : Nat} {ok : Nat → Prop} {x : S152} {cs : List Value} (h : k152.M w base ok x cs) : ∃ v1 v2, cs = [.int .i64 x.f0, v1, v2] ∧ (Kd.int .i64).R 3 w base ok v1 x.f1 ∧ (Kd.int .i64).R 3 w base ok v2 x.f2 := by
 obtain ⟨_, _, rfl, rfl, ⟨_, _, rfl, ⟨v1, rfl, g1⟩, ⟨v2, rfl, g2⟩⟩⟩ := h
 exact ⟨v1, v2, rfl, g1, g2⟩
theorem k152_mkM (w : World) (base : Nat) (ok : Nat → Prop) (x : S152) {v1 : Value} (g1 : (Kd.int .i64).R 3 w base ok v1 x.f1) {v2 : Value} (g2 : (Kd.int .i64).R 3 w base ok v2 x.f2) : k152.M w base ok x [.int .i64 x.f0, v1, v2] := ⟨[.int .i64 x.f0], [v1, v2], rfl, rfl, ⟨[v1], [v2], rfl, ⟨v1, rfl, g1⟩, ⟨v2, rfl, g2⟩⟩⟩
def rd_T152 (xs : List S152) (i : Int) : S152 := xs.getD i.toNat z152
theorem at_T152 {w : World} {A : Option Addr} {n : Nat} {xs : List S152} (h : Kd.C k152 w A n xs) (i : Int) (h0 : 0 ≤ i) (h1 : i < n) : ∃ ad A1 c1 A2 c2, A = some ad ∧ w.cell? (ad.add (i.toNat * 3)) = some (.int .i64 (rd_T152 xs i).f0) ∧ w.cell? ⟨(ad.add (i.toNat * 3)).block, (ad.add (i.toNat * 3)).off + 1, none⟩ = some (.slice A1 (rd_T152 xs i).f1.length c1) ∧ w.cell? ⟨(ad.add (i.toNat * 3)).block, (ad.add (i.toNat * 3)).off + 2, none⟩ = some (.slice A2 (rd_T152 xs i).f2.length c2) ∧ (rd_T152 xs i).f1.length ≤ c1 ∧ (Kd.int .i64).C w A1 (rd_T152 xs i).f1.length (rd_T152 xs i).f1 ∧ (rd_T152 xs i).f2.length ≤ c2 ∧ (Kd.int .i64).C w A2 (rd_T152 xs i).f2.length (rd_T152 xs i).f2 := by
 obtain ⟨ad, c, e, _, hK, hc0⟩ := Kd.C_get h z152 i h0 h1
 have hc : ∀ j u, c[j]? = some u → w.cell? (ad.add (i.toNat * 3 + j)) = some u := hc0
 obtain ⟨A1, c1, A2, c2, rfl, l1, g1, l2, g2⟩ := k152_open hK
 exact ⟨ad, A1, c1, A2, c2, e, hc 0 _ rfl, by rw [← add_field _ _ 1 (by omega)]; exact hc 1 _ rfl, by rw [← add_field _ _ 2 (by omega)]; exact hc 2 _ rfl, l1, g1, l2, g2⟩

/-! #### struct type 223 -/
structure S223 where
 f0 : Int
 f1 : Int
def z223 : S223 := ⟨(0 : Int), (0 : Int)⟩
def k223 : Kd S223 := Kd.iso (Kd.pair (Kd.int .i64) (Kd.int .i64)) (fun x : S223 => (x.f0, x.f1))
theorem k223_open {w : World} {x : S223} {cs : List Value} (h : k223.K w x cs) : cs = [.int .i64 x.f0, .int .i64 x.f1] := by
 obtain ⟨_, _, rfl, rfl, rfl⟩ := h
 exact rfl
theorem k223_openM {w : World} {base : Nat} {ok : Nat → Prop} {x : S223} {cs : List Value} (h : k223.M w base ok x cs) : cs = [.int .i64 x.f0, .int .i64 x.f1] := by
 obtain ⟨_, _, rfl, rfl, rfl⟩ := h
 exact rfl
theorem k223_mkM (w : World) (base : Nat) (ok : Nat → Prop) (x : S223)  : k223.M w base ok x [.int .i64 x.f0, .int .i64 x.f1] := ⟨[.int .i64 x.f0], [.int .i64 x.f1], rfl, rfl, rfl⟩
def rd_T223 (xs : List S223) (i : Int) : S223 := xs.getD i.toNat z223
theorem at_T223 {w : World} {A : Option Addr} {n : Nat} {xs : List S223} (h : Kd.C k223 w A n xs) (i : Int) (h0 : 0 ≤ i) (h1 : i < n) : ∃ ad , A = some ad ∧ w.cell? (ad.add (i.toNat * 2)) = some (.int .i64 (rd_T223 xs i).f0) ∧ w.cell? ⟨(ad.add (i.toNat * 2)).block, (ad.add (i.toNat * 2)).off + 1, none⟩ = some (.int .i64 (rd_T223 xs i).f1) := by
 obtain ⟨ad, c, e, _, hK, hc0⟩ := Kd.C_get h z223 i h0 h1
 have hc : ∀ j u, c[j]? = some u → w.cell? (ad.add (i.toNat * 2 + j)) = some u := hc0
 obtain rfl := k223_open hK
 exact ⟨ad, e, hc 0 _ rfl, by rw [← add_field _ _ 1 (by omega)]; exact hc 1 _ rfl⟩

noncomputable def kz155 : Kz Int Bool := ⟨Try.prog, 3, (Value.int .i64), Value.bool⟩
theorem kz155_K : Go.Maps.Keyed kz155.P kz155.kt := Go.Maps.int_keyed Try.underlying3
theorem kz155_inj : ∀ x y, kz155.enc x = kz155.enc y → x = y := by
 intro x y h
 injection h
theorem kz155_t : kz155.P.underlying 155 = some (.map kz155.kt 4) := Try.underlying155
theorem kz155_z : ∀ w, (zeroValue 4).run kz155.P w = .ok (kz155.encv false) w := fun _ => by kernel_rfl
theorem kz155_key (x : Int) (h0 : (-9223372036854775808) ≤ x) (h1 : x ≤ 9223372036854775807) : ∃ kl, keyOf kz155.P kz155.kt (kz155.enc x) = some kl := ⟨_, Go.Maps.keyOf_int_mk Try.underlying3 (Go.WalkArith.wf_i64 ⟨h0, h1⟩)⟩
/-- What is known of a value of type 150 that reads as data. -/
def G150 (x : S150) : Prop := (Lit.int .i64 x.f0).wf = true ∧ (x.f1.length ≤ maxLen ∧ ∀ a_ ∈ x.f1, (Lit.int .i64 a_).wf = true) ∧ (x.f2.length ≤ maxLen ∧ ∀ a_ ∈ x.f2, (Lit.int .i64 a_).wf = true)
end Go.Proofs.Ytdnhpicgjkddbaa.PFnExactStepDown
