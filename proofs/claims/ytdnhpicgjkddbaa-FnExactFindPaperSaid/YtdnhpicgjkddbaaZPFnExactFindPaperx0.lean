/- Lines by a program (a changed copy of the kit's print: this repo's wip/tools): Go functions as Lean functions, and proofs that the calls answer so. -/
import Derived.Test.YtdnhpicgjkddbaaProg
import Derived.Below
import Derived.Deep.Draws
import Derived.Deep.AppendLies
import Derived.Maps.AppendAt
import Derived.OwnWalk
import Derived.Laws.BytesArg
import Derived.Laws.MakeOwn
import Derived.Laws.OwnMore
import Derived.Deep.OwnRows
import Derived.Tactics
import Derived.Lib.ConvBytes
import Derived.Laws.Slices
import Derived.WalkKit
import Derived.KernelRfl
import Derived.RowKit3
import Derived.Deep.LoopGhost
import Derived.Deep.QuietTactic
import Derived.BigQuiet
import Derived.WideLaws
import Derived.Deep.DeepCutAuto
import Derived.Deep.CutBlock
import Derived.Deep.RegionHeld3
import Derived.Laws.Rows
import Derived.Lib.AppendStr
import Derived.ArgAppend
import Derived.Laws.IdiomCopy
import Derived.OrdersHeld
import Derived.Laws.BitsLemmas
import Derived.RowKit
import Derived.Test.YtdnhpicgjkddbaaZWWords
import Derived.Test.YtdnhpicgjkddbaaZWLast
import Derived.Test.YtdnhpicgjkddbaaZWTab
import Derived.Test.YtdnhpicgjkddbaaZWFour
import Derived.Test.YtdnhpicgjkddbaaZWQPut
import Derived.Test.YtdnhpicgjkddbaaZWApart
import Derived.Test.YtdnhpicgjkddbaaZWArr
import Derived.Test.YtdnhpicgjkddbaaZWZeros
import Derived.Test.YtdnhpicgjkddbaaZWFoot
import Derived.Test.YtdnhpicgjkddbaaZWKept
import Derived.Test.YtdnhpicgjkddbaaZWShare
import Derived.Test.YtdnhpicgjkddbaaZWN
import Derived.Test.YtdnhpicgjkddbaaZWFootNe
import Derived.Test.YtdnhpicgjkddbaaZWAt
import Derived.Test.YtdnhpicgjkddbaaZWEqStruct
import Derived.Test.YtdnhpicgjkddbaaZWRepsOne
import Derived.Test.YtdnhpicgjkddbaaZWInv
import Derived.Test.YtdnhpicgjkddbaaZWInvWords
import Derived.Test.YtdnhpicgjkddbaaZWGuard
import Derived.Test.YtdnhpicgjkddbaaZWNEv
import Derived.Test.YtdnhpicgjkddbaaZWMore
import Derived.Test.YtdnhpicgjkddbaaZMap
import Derived.Test.YtdnhpicgjkddbaaZFn
namespace Go.Proofs.Ytdnhpicgjkddbaa.PFnExactFindPaper
open Go.RowKit Go.Proofs.YtdnhpicgjkddbaaW.PrintWords Go.Proofs.YtdnhpicgjkddbaaW.PrintLast Go.Proofs.YtdnhpicgjkddbaaW.PrintMore
attribute [local go_sem] max2_int min2_int max_two min_two max_three min_three max_four min_four   -- for this text's walks alone
set_option linter.unusedVariables false
set_option linter.unusedSimpArgs false



def errW : Option Int → Value
 | none => .nilIface
 | some c => .iface 0 (.int .i64 c)
theorem errW_none : errW none = .nilIface := rfl
theorem errW_some (c : Int) : errW (some c) = .iface 0 (.int .i64 c) := rfl

theorem info53 : (Try.prog.info? 53).map (fun i => (i.zero, i.size, i.bytes)) = some (some (.agg #[(.int .i64 0), (.int .i64 0), (.int .i64 0), (.bool false)]), 4, 32) := by kernel_rfl
theorem info122 : (Try.prog.info? 122).map (fun i => (i.zero, i.size, i.bytes)) = some (some (.agg #[(.string ⟨#[]⟩), (.int .i64 0)]), 2, 24) := by kernel_rfl
-- the values' own types
/-! #### struct type 207 -/
structure S207 where
 f0 : ByteArray
 f1 : Int
def z207 : S207 := ⟨(⟨#[]⟩ : ByteArray), (0 : Int)⟩
def k207 : Kd S207 := Kd.iso (Kd.pair Kd.string (Kd.int .i64)) (fun x : S207 => (x.f0, x.f1))
theorem k207_open {w : World} {x : S207} {cs : List Value} (h : k207.K w x cs) : cs = [.string x.f0, .int .i64 x.f1] := by
 obtain ⟨_, _, rfl, rfl, rfl⟩ := h
 exact rfl
def rd_T207 (xs : List S207) (i : Int) : S207 := xs.getD i.toNat z207
theorem at_T207 {w : World} {A : Option Addr} {n : Nat} {xs : List S207} (h : Kd.C k207 w A n xs) (i : Int) (h0 : 0 ≤ i) (h1 : i < n) : ∃ ad , A = some ad ∧ w.cell? (ad.add (i.toNat * 2)) = some (.string (rd_T207 xs i).f0) ∧ w.cell? ⟨(ad.add (i.toNat * 2)).block, (ad.add (i.toNat * 2)).off + 1, none⟩ = some (.int .i64 (rd_T207 xs i).f1) := by
 obtain ⟨ad, c, e, _, hK, hc0⟩ := Kd.C_get h z207 i h0 h1
 have hc : ∀ j u, c[j]? = some u → w.cell? (ad.add (i.toNat * 2 + j)) = some u := hc0
 obtain rfl := k207_open hK
 exact ⟨ad, e, hc 0 _ rfl, by rw [← add_field _ _ 1 (by omega)]; exact hc 1 _ rfl⟩

/-! #### struct type 210 -/
structure S210 where
 f0 : Int
 f1 : Int
 f2 : Int
 f3 : Bool
def z210 : S210 := ⟨(0 : Int), (0 : Int), (0 : Int), false⟩
def k210 : Kd S210 := Kd.iso (Kd.pair (Kd.int .i64) (Kd.pair (Kd.int .i64) (Kd.pair (Kd.int .i64) Kd.bool))) (fun x : S210 => (x.f0, x.f1, x.f2, x.f3))
theorem k210_open {w : World} {x : S210} {cs : List Value} (h : k210.K w x cs) : cs = [.int .i64 x.f0, .int .i64 x.f1, .int .i64 x.f2, .bool x.f3] := by
 obtain ⟨_, _, rfl, rfl, ⟨_, _, rfl, rfl, ⟨_, _, rfl, rfl, rfl⟩⟩⟩ := h
 exact rfl
def rd_T210 (xs : List S210) (i : Int) : S210 := xs.getD i.toNat z210
theorem at_T210 {w : World} {A : Option Addr} {n : Nat} {xs : List S210} (h : Kd.C k210 w A n xs) (i : Int) (h0 : 0 ≤ i) (h1 : i < n) : ∃ ad , A = some ad ∧ w.cell? (ad.add (i.toNat * 4)) = some (.int .i64 (rd_T210 xs i).f0) ∧ w.cell? ⟨(ad.add (i.toNat * 4)).block, (ad.add (i.toNat * 4)).off + 1, none⟩ = some (.int .i64 (rd_T210 xs i).f1) ∧ w.cell? ⟨(ad.add (i.toNat * 4)).block, (ad.add (i.toNat * 4)).off + 2, none⟩ = some (.int .i64 (rd_T210 xs i).f2) ∧ w.cell? ⟨(ad.add (i.toNat * 4)).block, (ad.add (i.toNat * 4)).off + 3, none⟩ = some (.bool (rd_T210 xs i).f3) := by
 obtain ⟨ad, c, e, _, hK, hc0⟩ := Kd.C_get h z210 i h0 h1
 have hc : ∀ j u, c[j]? = some u → w.cell? (ad.add (i.toNat * 4 + j)) = some u := hc0
 obtain rfl := k210_open hK
 exact ⟨ad, e, hc 0 _ rfl, by rw [← add_field _ _ 1 (by omega)]; exact hc 1 _ rfl, by rw [← add_field _ _ 2 (by omega)]; exact hc 2 _ rfl, by rw [← add_field _ _ 3 (by omega)]; exact hc 3 _ rfl⟩

/-! #### struct type 36 -/
structure S36 where
 f0 : (List S207)
 f1 : (List S210)
def k36 : Kd S36 := Kd.iso (Kd.pair (Kd.slice 207 k207) (Kd.slice 210 k210)) (fun x : S36 => (x.f0, x.f1))
theorem k36_open {w : World} {x : S36} {cs : List Value} (h : k36.K w x cs) : ∃ A0 c0 A1 c1, cs = [.slice A0 x.f0.length c0, .slice A1 x.f1.length c1] ∧ x.f0.length ≤ c0 ∧ k207.C w A0 x.f0.length x.f0 ∧ x.f1.length ≤ c1 ∧ k210.C w A1 x.f1.length x.f1 := by
 obtain ⟨_, _, rfl, ⟨A0, c0, rfl, l0, g0⟩, ⟨A1, c1, rfl, l1, g1⟩⟩ := h
 exact ⟨A0, c0, A1, c1, rfl, l0, g0, l1, g1⟩
/-! #### struct type 122 -/
structure S122 where
 f0 : ByteArray
 f1 : Int
def z122 : S122 := ⟨(⟨#[]⟩ : ByteArray), (0 : Int)⟩
def k122 : Kd S122 := Kd.iso (Kd.pair Kd.string (Kd.int .i64)) (fun x : S122 => (x.f0, x.f1))
theorem k122_open {w : World} {x : S122} {cs : List Value} (h : k122.K w x cs) : cs = [.string x.f0, .int .i64 x.f1] := by
 obtain ⟨_, _, rfl, rfl, rfl⟩ := h
 exact rfl
theorem k122_openM {w : World} {base : Nat} {ok : Nat → Prop} {x : S122} {cs : List Value} (h : k122.M w base ok x cs) : cs = [.string x.f0, .int .i64 x.f1] := by
 obtain ⟨_, _, rfl, rfl, rfl⟩ := h
 exact rfl
theorem k122_mkM (w : World) (base : Nat) (ok : Nat → Prop) (x : S122)  : k122.M w base ok x [.string x.f0, .int .i64 x.f1] := ⟨[.string x.f0], [.int .i64 x.f1], rfl, rfl, rfl⟩
def rd_T122 (xs : List S122) (i : Int) : S122 := xs.getD i.toNat z122
theorem at_T122 {w : World} {A : Option Addr} {n : Nat} {xs : List S122} (h : Kd.C k122 w A n xs) (i : Int) (h0 : 0 ≤ i) (h1 : i < n) : ∃ ad , A = some ad ∧ w.cell? (ad.add (i.toNat * 2)) = some (.string (rd_T122 xs i).f0) ∧ w.cell? ⟨(ad.add (i.toNat * 2)).block, (ad.add (i.toNat * 2)).off + 1, none⟩ = some (.int .i64 (rd_T122 xs i).f1) := by
 obtain ⟨ad, c, e, _, hK, hc0⟩ := Kd.C_get h z122 i h0 h1
 have hc : ∀ j u, c[j]? = some u → w.cell? (ad.add (i.toNat * 2 + j)) = some u := hc0
 obtain rfl := k122_open hK
 exact ⟨ad, e, hc 0 _ rfl, by rw [← add_field _ _ 1 (by omega)]; exact hc 1 _ rfl⟩

/-! #### struct type 53 -/
structure S53 where
 f0 : Int
 f1 : Int
 f2 : Int
 f3 : Bool
def z53 : S53 := ⟨(0 : Int), (0 : Int), (0 : Int), false⟩
def k53 : Kd S53 := Kd.iso (Kd.pair (Kd.int .i64) (Kd.pair (Kd.int .i64) (Kd.pair (Kd.int .i64) Kd.bool))) (fun x : S53 => (x.f0, x.f1, x.f2, x.f3))
theorem k53_open {w : World} {x : S53} {cs : List Value} (h : k53.K w x cs) : cs = [.int .i64 x.f0, .int .i64 x.f1, .int .i64 x.f2, .bool x.f3] := by
 obtain ⟨_, _, rfl, rfl, ⟨_, _, rfl, rfl, ⟨_, _, rfl, rfl, rfl⟩⟩⟩ := h
 exact rfl
theorem k53_openM {w : World} {base : Nat} {ok : Nat → Prop} {x : S53} {cs : List Value} (h : k53.M w base ok x cs) : cs = [.int .i64 x.f0, .int .i64 x.f1, .int .i64 x.f2, .bool x.f3] := by
 obtain ⟨_, _, rfl, rfl, ⟨_, _, rfl, rfl, ⟨_, _, rfl, rfl, rfl⟩⟩⟩ := h
 exact rfl
theorem k53_mkM (w : World) (base : Nat) (ok : Nat → Prop) (x : S53)  : k53.M w base ok x [.int .i64 x.f0, .int .i64 x.f1, .int .i64 x.f2, .bool x.f3] := ⟨[.int .i64 x.f0], [.int .i64 x.f1, .int .i64 x.f2, .bool x.f3], rfl, rfl, ⟨[.int .i64 x.f1], [.int .i64 x.f2, .bool x.f3], rfl, rfl, ⟨[.int .i64 x.f2], [.bool x.f3], rfl, rfl, rfl⟩⟩⟩
def rd_T53 (xs : List S53) (i : Int) : S53 := xs.getD i.toNat z53
theorem at_T53 {w : World} {A : Option Addr} {n : Nat} {xs : List S53} (h : Kd.C k53 w A n xs) (i : Int) (h0 : 0 ≤ i) (h1 : i < n) : ∃ ad , A = some ad ∧ w.cell? (ad.add (i.toNat * 4)) = some (.int .i64 (rd_T53 xs i).f0) ∧ w.cell? ⟨(ad.add (i.toNat * 4)).block, (ad.add (i.toNat * 4)).off + 1, none⟩ = some (.int .i64 (rd_T53 xs i).f1) ∧ w.cell? ⟨(ad.add (i.toNat * 4)).block, (ad.add (i.toNat * 4)).off + 2, none⟩ = some (.int .i64 (rd_T53 xs i).f2) ∧ w.cell? ⟨(ad.add (i.toNat * 4)).block, (ad.add (i.toNat * 4)).off + 3, none⟩ = some (.bool (rd_T53 xs i).f3) := by
 obtain ⟨ad, c, e, _, hK, hc0⟩ := Kd.C_get h z53 i h0 h1
 have hc : ∀ j u, c[j]? = some u → w.cell? (ad.add (i.toNat * 4 + j)) = some u := hc0
 obtain rfl := k53_open hK
 exact ⟨ad, e, hc 0 _ rfl, by rw [← add_field _ _ 1 (by omega)]; exact hc 1 _ rfl, by rw [← add_field _ _ 2 (by omega)]; exact hc 2 _ rfl, by rw [← add_field _ _ 3 (by omega)]; exact hc 3 _ rfl⟩

/-! #### struct type 42 -/
structure S42 where
 f0 : (List S122)
 f1 : (List S53)
noncomputable def kz127 : Kz ByteArray Bool := ⟨Try.prog, 9, Value.string, Value.bool⟩
theorem kz127_K : Go.Maps.Keyed kz127.P kz127.kt := Go.Maps.string_keyed Try.underlying9
theorem kz127_inj : ∀ x y, kz127.enc x = kz127.enc y → x = y := by
 intro x y h
 injection h
theorem kz127_t : kz127.P.underlying 127 = some (.map kz127.kt 4) := Try.underlying127
theorem kz127_z : ∀ w, (zeroValue 4).run kz127.P w = .ok (kz127.encv false) w := fun _ => by kernel_rfl
theorem kz127_key (x : ByteArray) (h : x.size ≤ 9223372036854775807) : ∃ kl, keyOf kz127.P kz127.kt (kz127.enc x) = some kl := ⟨_, Go.WideMaps.keyOf_string_mk Try.underlying9 h⟩
noncomputable def kz128 : Kz Int Int := ⟨Try.prog, 3, (Value.int .i64), (Value.int .i64)⟩
theorem kz128_K : Go.Maps.Keyed kz128.P kz128.kt := Go.Maps.int_keyed Try.underlying3
theorem kz128_inj : ∀ x y, kz128.enc x = kz128.enc y → x = y := by
 intro x y h
 injection h
theorem kz128_t : kz128.P.underlying 128 = some (.map kz128.kt 3) := Try.underlying128
theorem kz128_z : ∀ w, (zeroValue 3).run kz128.P w = .ok (kz128.encv 0) w := fun _ => by kernel_rfl
theorem kz128_key (x : Int) (h0 : (-9223372036854775808) ≤ x) (h1 : x ≤ 9223372036854775807) : ∃ kl, keyOf kz128.P kz128.kt (kz128.enc x) = some kl := ⟨_, Go.Maps.keyOf_int_mk Try.underlying3 (Go.WalkArith.wf_i64 ⟨h0, h1⟩)⟩
/-- What is known of a value of type 207 that reads as data. -/
def G207 (x : S207) : Prop := x.f0.size ≤ maxLen ∧ (Lit.int .i64 x.f1).wf = true
/-- What is known of a value of type 210 that reads as data. -/
def G210 (x : S210) : Prop := (Lit.int .i64 x.f0).wf = true ∧ (Lit.int .i64 x.f1).wf = true ∧ (Lit.int .i64 x.f2).wf = true ∧ True
/-- What is known of a value of type 36 that reads as data. -/
def G36 (x : S36) : Prop := (x.f0.length ≤ maxLen ∧ ∀ a_ ∈ x.f0, G207 a_) ∧ (x.f1.length ≤ maxLen ∧ ∀ a_ ∈ x.f1, G210 a_)
end Go.Proofs.Ytdnhpicgjkddbaa.PFnExactFindPaper
