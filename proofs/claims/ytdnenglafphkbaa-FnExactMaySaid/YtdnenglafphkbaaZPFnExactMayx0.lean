/- Lines by a program (a changed copy of the kit's print: this repo's wip/tools): Go functions as Lean functions, and proofs that the calls answer so. -/
import Derived.Test.YtdnenglafphkbaaProg
import Derived.Below
import Derived.Deep.Draws
import Derived.Deep.AppendLies
import Derived.Maps.AppendAt
import Derived.OwnWalk
import Derived.Laws.BytesArg
import Derived.Laws.MakeOwn
import Derived.Laws.OwnMore
import Derived.Deep.OwnRows
import Derived.Tactics
import Derived.Lib.ConvBytes
import Derived.Laws.Slices
import Derived.WalkKit
import Derived.KernelRfl
import Derived.RowKit3
import Derived.Deep.LoopGhost
import Derived.Deep.QuietTactic
import Derived.BigQuiet
import Derived.WideLaws
import Derived.Deep.DeepCutAuto
import Derived.Deep.CutBlock
import Derived.Deep.RegionHeld3
import Derived.Laws.Rows
import Derived.Lib.AppendStr
import Derived.ArgAppend
import Derived.Laws.IdiomCopy
import Derived.OrdersHeld
import Derived.Laws.BitsLemmas
import Derived.RowKit
import Derived.Test.YtdnenglafphkbaaZWWords
import Derived.Test.YtdnenglafphkbaaZWLast
import Derived.Test.YtdnenglafphkbaaZWTab
import Derived.Test.YtdnenglafphkbaaZWFour
import Derived.Test.YtdnenglafphkbaaZWQPut
import Derived.Test.YtdnenglafphkbaaZWApart
import Derived.Test.YtdnenglafphkbaaZWArr
import Derived.Test.YtdnenglafphkbaaZWZeros
import Derived.Test.YtdnenglafphkbaaZWFoot
import Derived.Test.YtdnenglafphkbaaZWKept
import Derived.Test.YtdnenglafphkbaaZWShare
import Derived.Test.YtdnenglafphkbaaZWN
import Derived.Test.YtdnenglafphkbaaZWFootNe
import Derived.Test.YtdnenglafphkbaaZWAt
import Derived.Test.YtdnenglafphkbaaZWEqStruct
import Derived.Test.YtdnenglafphkbaaZWRepsOne
import Derived.Test.YtdnenglafphkbaaZWInv
import Derived.Test.YtdnenglafphkbaaZWInvWords
import Derived.Test.YtdnenglafphkbaaZWGuard
import Derived.Test.YtdnenglafphkbaaZWNEv
import Derived.Test.YtdnenglafphkbaaZWMore
import Derived.Test.YtdnenglafphkbaaZMap
import Derived.Test.YtdnenglafphkbaaZFn
import Derived.Test.YtdnenglafphkbaaZMark
namespace Go.Proofs.Ytdnenglafphkbaa.PFnExactMay
open Go.RowKit Go.Proofs.YtdnenglafphkbaaW.PrintWords Go.Proofs.YtdnenglafphkbaaW.PrintLast Go.Proofs.YtdnenglafphkbaaW.PrintMore
attribute [local go_sem] max2_int min2_int max_two min_two max_three min_three max_four min_four   -- for this text's walks alone
set_option linter.unusedVariables false
set_option linter.unusedSimpArgs false



def errW : Option Int → Value
 | none => .nilIface
 | some c => .iface 0 (.int .i64 c)
theorem errW_none : errW none = .nilIface := rfl
theorem errW_some (c : Int) : errW (some c) = .iface 0 (.int .i64 c) := rfl

theorem info9 : (Try.prog.info? 9).map (fun i => (i.zero, i.size, i.bytes)) = some (some (.string ⟨#[]⟩), 1, 16) := by kernel_rfl
theorem info123 : (Try.prog.info? 123).map (fun i => (i.zero, i.size, i.bytes)) = some (some (.agg #[(.string ⟨#[]⟩), (.slice none 0 0), (.int .i64 0), (.string ⟨#[]⟩), (.bool false)]), 5, 72) := by kernel_rfl
-- the values' own types
/-! #### struct type 121 -/
structure S121 where
 f0 : ByteArray
 f1 : (List ByteArray)
 f2 : Int
 f3 : ByteArray
 f4 : Bool
def z121 : S121 := ⟨(⟨#[]⟩ : ByteArray), ([] : List ByteArray), (0 : Int), (⟨#[]⟩ : ByteArray), false⟩
def k121 : Kd S121 := Kd.iso (Kd.pair Kd.string (Kd.pair (Kd.slice 9 Kd.string) (Kd.pair (Kd.int .i64) (Kd.pair Kd.string Kd.bool)))) (fun x : S121 => (x.f0, x.f1, x.f2, x.f3, x.f4))
theorem k121_open {w : World} {x : S121} {cs : List Value} (h : k121.K w x cs) : ∃ A1 c1, cs = [.string x.f0, .slice A1 x.f1.length c1, .int .i64 x.f2, .string x.f3, .bool x.f4] ∧ x.f1.length ≤ c1 ∧ Kd.string.C w A1 x.f1.length x.f1 := by
 obtain ⟨_, _, rfl, rfl, ⟨_, _, rfl, ⟨A1, c1, rfl, l1, g1⟩, ⟨_, _, rfl, rfl, ⟨_, _, rfl, rfl, rfl⟩⟩⟩⟩ := h
 exact ⟨A1, c1, rfl, l1, g1⟩
def rd_T121 (xs : List S121) (i : Int) : S121 := xs.getD i.toNat z121
theorem at_T121 {w : World} {A : Option Addr} {n : Nat} {xs : List S121} (h : Kd.C k121 w A n xs) (i : Int) (h0 : 0 ≤ i) (h1 : i < n) : ∃ ad A1 c1, A = some ad ∧ w.cell? (ad.add (i.toNat * 5)) = some (.string (rd_T121 xs i).f0) ∧ w.cell? ⟨(ad.add (i.toNat * 5)).block, (ad.add (i.toNat * 5)).off + 1, none⟩ = some (.slice A1 (rd_T121 xs i).f1.length c1) ∧ w.cell? ⟨(ad.add (i.toNat * 5)).block, (ad.add (i.toNat * 5)).off + 2, none⟩ = some (.int .i64 (rd_T121 xs i).f2) ∧ w.cell? ⟨(ad.add (i.toNat * 5)).block, (ad.add (i.toNat * 5)).off + 3, none⟩ = some (.string (rd_T121 xs i).f3) ∧ w.cell? ⟨(ad.add (i.toNat * 5)).block, (ad.add (i.toNat * 5)).off + 4, none⟩ = some (.bool (rd_T121 xs i).f4) ∧ (rd_T121 xs i).f1.length ≤ c1 ∧ Kd.string.C w A1 (rd_T121 xs i).f1.length (rd_T121 xs i).f1 := by
 obtain ⟨ad, c, e, _, hK, hc0⟩ := Kd.C_get h z121 i h0 h1
 have hc : ∀ j u, c[j]? = some u → w.cell? (ad.add (i.toNat * 5 + j)) = some u := hc0
 obtain ⟨A1, c1, rfl, l1, g1⟩ := k121_open hK
 exact ⟨ad, A1, c1, e, hc 0 _ rfl, by rw [← add_field _ _ 1 (by omega)]; exact hc 1 _ rfl, by rw [← add_field _ _ 2 (by omega)]; exact hc 2 _ rfl, by rw [← add_field _ _ 3 (by omega)]; exact hc 3 _ rfl, by rw [← add_field _ _ 4 (by omega)]; exact hc 4 _ rfl, l1, g1⟩

/-! #### struct type 123 -/
structure S123 where
 f0 : ByteArray
 f1 : (List ByteArray)
 f2 : Int
 f3 : ByteArray
 f4 : Bool
def z123 : S123 := ⟨(⟨#[]⟩ : ByteArray), ([] : List ByteArray), (0 : Int), (⟨#[]⟩ : ByteArray), false⟩
def k123 : Kd S123 := Kd.iso (Kd.pair Kd.string (Kd.pair (Kd.slice 9 Kd.string) (Kd.pair (Kd.int .i64) (Kd.pair Kd.string Kd.bool)))) (fun x : S123 => (x.f0, x.f1, x.f2, x.f3, x.f4))
theorem k123_open {w : World} {x : S123} {cs : List Value} (h : k123.K w x cs) : ∃ A1 c1, cs = [.string x.f0, .slice A1 x.f1.length c1, .int .i64 x.f2, .string x.f3, .bool x.f4] ∧ x.f1.length ≤ c1 ∧ Kd.string.C w A1 x.f1.length x.f1 := by
 obtain ⟨_, _, rfl, rfl, ⟨_, _, rfl, ⟨A1, c1, rfl, l1, g1⟩, ⟨_, _, rfl, rfl, ⟨_, _, rfl, rfl, rfl⟩⟩⟩⟩ := h
 exact ⟨A1, c1, rfl, l1, g1⟩
theorem k123_openM {w : World} {base : Nat} {ok : Nat → Prop} {x : S123} {cs : List Value} (h : k123.M w base ok x cs) : ∃ v1, cs = [.string x.f0, v1, .int .i64 x.f2, .string x.f3, .bool x.f4] ∧ Kd.string.R 9 w base ok v1 x.f1 := by
 obtain ⟨_, _, rfl, rfl, ⟨_, _, rfl, ⟨v1, rfl, g1⟩, ⟨_, _, rfl, rfl, ⟨_, _, rfl, rfl, rfl⟩⟩⟩⟩ := h
 exact ⟨v1, rfl, g1⟩
theorem k123_mkM (w : World) (base : Nat) (ok : Nat → Prop) (x : S123) {v1 : Value} (g1 : Kd.string.R 9 w base ok v1 x.f1) : k123.M w base ok x [.string x.f0, v1, .int .i64 x.f2, .string x.f3, .bool x.f4] := ⟨[.string x.f0], [v1, .int .i64 x.f2, .string x.f3, .bool x.f4], rfl, rfl, ⟨[v1], [.int .i64 x.f2, .string x.f3, .bool x.f4], rfl, ⟨v1, rfl, g1⟩, ⟨[.int .i64 x.f2], [.string x.f3, .bool x.f4], rfl, rfl, ⟨[.string x.f3], [.bool x.f4], rfl, rfl, rfl⟩⟩⟩⟩
def rd_T123 (xs : List S123) (i : Int) : S123 := xs.getD i.toNat z123
theorem at_T123 {w : World} {A : Option Addr} {n : Nat} {xs : List S123} (h : Kd.C k123 w A n xs) (i : Int) (h0 : 0 ≤ i) (h1 : i < n) : ∃ ad A1 c1, A = some ad ∧ w.cell? (ad.add (i.toNat * 5)) = some (.string (rd_T123 xs i).f0) ∧ w.cell? ⟨(ad.add (i.toNat * 5)).block, (ad.add (i.toNat * 5)).off + 1, none⟩ = some (.slice A1 (rd_T123 xs i).f1.length c1) ∧ w.cell? ⟨(ad.add (i.toNat * 5)).block, (ad.add (i.toNat * 5)).off + 2, none⟩ = some (.int .i64 (rd_T123 xs i).f2) ∧ w.cell? ⟨(ad.add (i.toNat * 5)).block, (ad.add (i.toNat * 5)).off + 3, none⟩ = some (.string (rd_T123 xs i).f3) ∧ w.cell? ⟨(ad.add (i.toNat * 5)).block, (ad.add (i.toNat * 5)).off + 4, none⟩ = some (.bool (rd_T123 xs i).f4) ∧ (rd_T123 xs i).f1.length ≤ c1 ∧ Kd.string.C w A1 (rd_T123 xs i).f1.length (rd_T123 xs i).f1 := by
 obtain ⟨ad, c, e, _, hK, hc0⟩ := Kd.C_get h z123 i h0 h1
 have hc : ∀ j u, c[j]? = some u → w.cell? (ad.add (i.toNat * 5 + j)) = some u := hc0
 obtain ⟨A1, c1, rfl, l1, g1⟩ := k123_open hK
 exact ⟨ad, A1, c1, e, hc 0 _ rfl, by rw [← add_field _ _ 1 (by omega)]; exact hc 1 _ rfl, by rw [← add_field _ _ 2 (by omega)]; exact hc 2 _ rfl, by rw [← add_field _ _ 3 (by omega)]; exact hc 3 _ rfl, by rw [← add_field _ _ 4 (by omega)]; exact hc 4 _ rfl, l1, g1⟩

noncomputable def kz95 : Kz ByteArray Bool := ⟨Try.prog, 9, Value.string, Value.bool⟩
theorem kz95_K : Go.Maps.Keyed kz95.P kz95.kt := Go.Maps.string_keyed Try.underlying9
theorem kz95_inj : ∀ x y, kz95.enc x = kz95.enc y → x = y := by
 intro x y h
 injection h
theorem kz95_t : kz95.P.underlying 95 = some (.map kz95.kt 4) := Try.underlying95
theorem kz95_z : ∀ w, (zeroValue 4).run kz95.P w = .ok (kz95.encv false) w := fun _ => by kernel_rfl
theorem kz95_key (x : ByteArray) (h : x.size ≤ 9223372036854775807) : ∃ kl, keyOf kz95.P kz95.kt (kz95.enc x) = some kl := ⟨_, Go.WideMaps.keyOf_string_mk Try.underlying9 h⟩
/-- What is known of a value of type 121 that reads as data. -/
def G121 (x : S121) : Prop := x.f0.size ≤ maxLen ∧ (x.f1.length ≤ maxLen ∧ ∀ a_ ∈ x.f1, a_.size ≤ maxLen) ∧ (Lit.int .i64 x.f2).wf = true ∧ x.f3.size ≤ maxLen ∧ True
end Go.Proofs.Ytdnenglafphkbaa.PFnExactMay
