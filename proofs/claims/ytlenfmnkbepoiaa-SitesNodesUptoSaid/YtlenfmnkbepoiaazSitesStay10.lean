/-
  SitesStay: texts of this claim, put together by a program of this session. No conditions beyond what each lemma says.
-/
import Derived.Test.YtlenfmnkbepoiaaProg
import Derived.Below
import Derived.Deep.Draws
import Derived.Deep.AppendLies
import Derived.Maps.AppendAt
import Derived.OwnWalk
import Derived.Laws.BytesArg
import Derived.Laws.MakeOwn
import Derived.Laws.OwnMore
import Derived.Deep.OwnRows
import Derived.Tactics
import Derived.Lib.ConvBytes
import Derived.Laws.Slices
import Derived.WalkKit
import Derived.KernelRfl
import Derived.RowKit3
import Derived.Deep.LoopGhost
import Derived.Deep.QuietTactic
import Derived.BigQuiet
import Derived.WideLaws
import Derived.Deep.DeepCutAuto
import Derived.Deep.CutBlock
import Derived.Deep.RegionHeld3
import Derived.Laws.Rows
import Derived.Lib.AppendStr
import Derived.ArgAppend
import Derived.Laws.IdiomCopy
import Derived.OrdersHeld
import Derived.Laws.BitsLemmas
import Derived.RowKit
import Derived.Lib.OthersKept
import Derived.Shelf.Abstract
import Derived.Test.YtlenfmnkbepoiaazSitesStay6
import Derived.Test.YtlenfmnkbepoiaazSitesStay1
import Derived.Test.YtlenfmnkbepoiaazSitesStay0
import Derived.Test.YtlenfmnkbepoiaazSitesStay7
import Derived.Test.YtlenfmnkbepoiaazSitesStay2
import Derived.Test.YtlenfmnkbepoiaazSitesStay3
import Derived.Test.YtlenfmnkbepoiaazSitesStay8
import Derived.Test.YtlenfmnkbepoiaazSitesStay9
import Derived.Test.YtlenfmnkbepoiaazSitesStay4
import Derived.Test.YtlenfmnkbepoiaazSitesStay5
namespace Go.Proofs.Ytlenfmnkbepoiaa.PSitesTell
open Go.RowKit Go.Proofs.YtlenfmnkbepoiaaW.Mine Go.Proofs.YtlenfmnkbepoiaaW.PrintWords Go.Proofs.YtlenfmnkbepoiaaW.PrintLast Go.Proofs.YtlenfmnkbepoiaaW.PrintMore
attribute [local go_sem] max2_int min2_int max_two min_two max_three min_three max_four min_four   -- for this text's walks alone
set_option linter.unusedVariables false
set_option linter.unusedSimpArgs false



theorem info26 : (Try.prog.info? 26).map (fun i => (i.zero, i.size, i.bytes)) = some (some (.agg #[(.int .i64 0), (.int .i64 0), (.string ⟨#[]⟩), (.slice none 0 0), (.slice none 0 0)]), 5, 80) := by kernel_rfl
theorem info31 : (Try.prog.info? 31).map (fun i => (i.zero, i.size, i.bytes)) = some (some (.agg #[(.int .i64 0), (.int .i64 0), (.string ⟨#[]⟩), (.bool false), (.slice none 0 0), (.slice none 0 0), (.slice none 0 0)]), 7, 112) := by kernel_rfl
theorem info68 : (Try.prog.info? 68).map (fun i => (i.zero, i.size, i.bytes)) = some (some (.agg #[(.string ⟨#[]⟩), (.int .i64 0), (.int .i64 0), (.string ⟨#[]⟩), (.slice none 0 0), (.slice none 0 0)]), 6, 96) := by kernel_rfl
-- the values' own types
/-! #### struct type 26, nested in itself -/
structure S26 where
  f0 : Int
  f1 : Int
  f2 : ByteArray
  f3 : (List ByteArray)
  f4 : (List S26)
def z26 : S26 := ⟨(0 : Int), (0 : Int), (⟨#[]⟩ : ByteArray), ([] : List ByteArray), ([] : List S26)⟩
def F26 (d : Kd S26) : Kd S26 := Kd.iso (Kd.pair (Kd.int .i64) (Kd.pair (Kd.int .i64) (Kd.pair Kd.string (Kd.pair (Kd.slice 9 Kd.string) (Kd.slice 26 d))))) (fun x : S26 => (x.f0, x.f1, x.f2, x.f3, x.f4))
theorem mono26 : Kd.Mono F26 := Kd.mono_iso _ (Kd.mono_pair (Kd.mono_const _) (Kd.mono_pair (Kd.mono_const _) (Kd.mono_pair (Kd.mono_const _) (Kd.mono_pair (Kd.mono_const _) (Kd.mono_slice 26 Kd.mono_id)))))
theorem sub26 : Kd.Sub F26 [9, 26] := Kd.sub_iso _ (Kd.sub_pair (Kd.sub_const _ (by decide)) (Kd.sub_pair (Kd.sub_const _ (by decide)) (Kd.sub_pair (Kd.sub_const _ (by decide)) (Kd.sub_pair (Kd.sub_const _ (by decide)) (Kd.sub_slice 26 (by decide) Kd.sub_id)))))
theorem sz26 : ∀ n, (Kd.upto F26 5 [9, 26] n).sz = 5 := Kd.upto_sz (fun _ => rfl)
def k26 : Kd S26 := Kd.fix F26 5 [9, 26] sz26 (Kd.upto_E sub26)
theorem k26_heap : Kd.Heap k26 := Kd.heap_fix (fun _ h_ => Kd.heap_iso _ (Kd.heap_pair (Kd.heap_int .i64) (Kd.heap_pair (Kd.heap_int .i64) (Kd.heap_pair Kd.heap_string (Kd.heap_pair (Kd.heap_slice 9 Kd.heap_string) (Kd.heap_slice 26 h_))))))
theorem k26_open {w : World} {x : S26} {cs : List Value} (h : k26.K w x cs) : ∃ A3 c3 A4 c4, cs = [.int .i64 x.f0, .int .i64 x.f1, .string x.f2, .slice A3 x.f3.length c3, .slice A4 x.f4.length c4] ∧ x.f3.length ≤ c3 ∧ Kd.string.C w A3 x.f3.length x.f3 ∧ x.f4.length ≤ c4 ∧ k26.C w A4 x.f4.length x.f4 := by
  obtain ⟨n, h⟩ := h
  cases n with
  | zero => exact h.elim
  | succ n =>
    obtain ⟨_, _, rfl, rfl, ⟨_, _, rfl, rfl, ⟨_, _, rfl, rfl, ⟨_, _, rfl, ⟨A3, c3, rfl, l3, g3⟩, ⟨A4, c4, rfl, l4, g4⟩⟩⟩⟩⟩ := h
    exact ⟨A3, c3, A4, c4, rfl, l3, g3, l4, Kd.fix_C g4⟩
theorem k26_mk (w : World) (x : S26) {A3 : Option Addr} {c3 : Nat} (l3 : x.f3.length ≤ c3) (g3 : Kd.string.C w A3 x.f3.length x.f3) {A4 : Option Addr} {c4 : Nat} (l4 : x.f4.length ≤ c4) (g4 : k26.C w A4 x.f4.length x.f4) : k26.K w x [.int .i64 x.f0, .int .i64 x.f1, .string x.f2, .slice A3 x.f3.length c3, .slice A4 x.f4.length c4] := by
  obtain ⟨n4, q4⟩ := Kd.fix_C_back mono26 g4
  have r4 := Kd.upto_C_le mono26 sz26 (show n4 ≤ n4 by omega) q4
  exact ⟨n4 + 1, ⟨[.int .i64 x.f0], [.int .i64 x.f1, .string x.f2, .slice A3 x.f3.length c3, .slice A4 x.f4.length c4], rfl, rfl, ⟨[.int .i64 x.f1], [.string x.f2, .slice A3 x.f3.length c3, .slice A4 x.f4.length c4], rfl, rfl, ⟨[.string x.f2], [.slice A3 x.f3.length c3, .slice A4 x.f4.length c4], rfl, rfl, ⟨[.slice A3 x.f3.length c3], [.slice A4 x.f4.length c4], rfl, ⟨A3, c3, rfl, l3, g3⟩, ⟨A4, c4, rfl, l4, r4⟩⟩⟩⟩⟩⟩
theorem k26_openF {W : World} {ok : Nat → Prop} {x : S26} {cs : List Value} (h : Kd.FK k26 W ok x cs) : ∃ A3 c3 A4 c4, cs = [.int .i64 x.f0, .int .i64 x.f1, .string x.f2, .slice A3 x.f3.length c3, .slice A4 x.f4.length c4] ∧ x.f3.length ≤ c3 ∧ Kd.F Kd.string W ok A3 x.f3.length x.f3 ∧ x.f4.length ≤ c4 ∧ Kd.F k26 W ok A4 x.f4.length x.f4 := by
  obtain ⟨A3, c3, A4, c4, rfl, l3, _, l4, _⟩ := k26_open (Kd.FK_now h)
  exact ⟨A3, c3, A4, c4, rfl, l3, (fun W' hW => by obtain ⟨A3_, c3_, A4_, c4_, he, l3_, g3_, l4_, g4_⟩ := k26_open (h W' hW); injection (Option.some.inj (show some (Value.slice A3 x.f3.length c3) = some (Value.slice A3_ x.f3.length c3_) from congrArg (fun l => l[3]?) he)) with ha_ _ _; rw [ha_]; exact g3_), l4, (fun W' hW => by obtain ⟨A3_, c3_, A4_, c4_, he, l3_, g3_, l4_, g4_⟩ := k26_open (h W' hW); injection (Option.some.inj (show some (Value.slice A4 x.f4.length c4) = some (Value.slice A4_ x.f4.length c4_) from congrArg (fun l => l[4]?) he)) with ha_ _ _; rw [ha_]; exact g4_)⟩
theorem k26_mkF (W : World) (ok : Nat → Prop) (x : S26) {A3 : Option Addr} {c3 : Nat} (l3 : x.f3.length ≤ c3) (g3 : Kd.F Kd.string W ok A3 x.f3.length x.f3) {A4 : Option Addr} {c4 : Nat} (l4 : x.f4.length ≤ c4) (g4 : Kd.F k26 W ok A4 x.f4.length x.f4) : Kd.FK k26 W ok x [.int .i64 x.f0, .int .i64 x.f1, .string x.f2, .slice A3 x.f3.length c3, .slice A4 x.f4.length c4] := fun W2 hW => k26_mk W2 x l3 (g3 W2 hW) l4 (g4 W2 hW)
/-! #### struct type 31, nested in itself -/
structure S31 where
  f0 : Int
  f1 : Int
  f2 : ByteArray
  f3 : Bool
  f4 : (List S26)
  f5 : (List ByteArray)
  f6 : (List S31)
def z31 : S31 := ⟨(0 : Int), (0 : Int), (⟨#[]⟩ : ByteArray), false, ([] : List S26), ([] : List ByteArray), ([] : List S31)⟩
def F31 (d : Kd S31) : Kd S31 := Kd.iso (Kd.pair (Kd.int .i64) (Kd.pair (Kd.int .i64) (Kd.pair Kd.string (Kd.pair Kd.bool (Kd.pair (Kd.slice 26 k26) (Kd.pair (Kd.slice 9 Kd.string) (Kd.slice 31 d))))))) (fun x : S31 => (x.f0, x.f1, x.f2, x.f3, x.f4, x.f5, x.f6))
theorem mono31 : Kd.Mono F31 := Kd.mono_iso _ (Kd.mono_pair (Kd.mono_const _) (Kd.mono_pair (Kd.mono_const _) (Kd.mono_pair (Kd.mono_const _) (Kd.mono_pair (Kd.mono_const _) (Kd.mono_pair (Kd.mono_const _) (Kd.mono_pair (Kd.mono_const _) (Kd.mono_slice 31 Kd.mono_id)))))))
theorem sub31 : Kd.Sub F31 [9, 26, 31] := Kd.sub_iso _ (Kd.sub_pair (Kd.sub_const _ (by decide)) (Kd.sub_pair (Kd.sub_const _ (by decide)) (Kd.sub_pair (Kd.sub_const _ (by decide)) (Kd.sub_pair (Kd.sub_const _ (by decide)) (Kd.sub_pair (Kd.sub_const _ (by decide)) (Kd.sub_pair (Kd.sub_const _ (by decide)) (Kd.sub_slice 31 (by decide) Kd.sub_id)))))))
theorem sz31 : ∀ n, (Kd.upto F31 7 [9, 26, 31] n).sz = 7 := Kd.upto_sz (fun _ => rfl)
def k31 : Kd S31 := Kd.fix F31 7 [9, 26, 31] sz31 (Kd.upto_E sub31)
theorem k31_heap : Kd.Heap k31 := Kd.heap_fix (fun _ h_ => Kd.heap_iso _ (Kd.heap_pair (Kd.heap_int .i64) (Kd.heap_pair (Kd.heap_int .i64) (Kd.heap_pair Kd.heap_string (Kd.heap_pair Kd.heap_bool (Kd.heap_pair (Kd.heap_slice 26 k26_heap) (Kd.heap_pair (Kd.heap_slice 9 Kd.heap_string) (Kd.heap_slice 31 h_))))))))
theorem k31_open {w : World} {x : S31} {cs : List Value} (h : k31.K w x cs) : ∃ A4 c4 A5 c5 A6 c6, cs = [.int .i64 x.f0, .int .i64 x.f1, .string x.f2, .bool x.f3, .slice A4 x.f4.length c4, .slice A5 x.f5.length c5, .slice A6 x.f6.length c6] ∧ x.f4.length ≤ c4 ∧ k26.C w A4 x.f4.length x.f4 ∧ x.f5.length ≤ c5 ∧ Kd.string.C w A5 x.f5.length x.f5 ∧ x.f6.length ≤ c6 ∧ k31.C w A6 x.f6.length x.f6 := by
  obtain ⟨n, h⟩ := h
  cases n with
  | zero => exact h.elim
  | succ n =>
    obtain ⟨_, _, rfl, rfl, ⟨_, _, rfl, rfl, ⟨_, _, rfl, rfl, ⟨_, _, rfl, rfl, ⟨_, _, rfl, ⟨A4, c4, rfl, l4, g4⟩, ⟨_, _, rfl, ⟨A5, c5, rfl, l5, g5⟩, ⟨A6, c6, rfl, l6, g6⟩⟩⟩⟩⟩⟩⟩ := h
    exact ⟨A4, c4, A5, c5, A6, c6, rfl, l4, g4, l5, g5, l6, Kd.fix_C g6⟩
theorem k31_mk (w : World) (x : S31) {A4 : Option Addr} {c4 : Nat} (l4 : x.f4.length ≤ c4) (g4 : k26.C w A4 x.f4.length x.f4) {A5 : Option Addr} {c5 : Nat} (l5 : x.f5.length ≤ c5) (g5 : Kd.string.C w A5 x.f5.length x.f5) {A6 : Option Addr} {c6 : Nat} (l6 : x.f6.length ≤ c6) (g6 : k31.C w A6 x.f6.length x.f6) : k31.K w x [.int .i64 x.f0, .int .i64 x.f1, .string x.f2, .bool x.f3, .slice A4 x.f4.length c4, .slice A5 x.f5.length c5, .slice A6 x.f6.length c6] := by
  obtain ⟨n6, q6⟩ := Kd.fix_C_back mono31 g6
  have r6 := Kd.upto_C_le mono31 sz31 (show n6 ≤ n6 by omega) q6
  exact ⟨n6 + 1, ⟨[.int .i64 x.f0], [.int .i64 x.f1, .string x.f2, .bool x.f3, .slice A4 x.f4.length c4, .slice A5 x.f5.length c5, .slice A6 x.f6.length c6], rfl, rfl, ⟨[.int .i64 x.f1], [.string x.f2, .bool x.f3, .slice A4 x.f4.length c4, .slice A5 x.f5.length c5, .slice A6 x.f6.length c6], rfl, rfl, ⟨[.string x.f2], [.bool x.f3, .slice A4 x.f4.length c4, .slice A5 x.f5.length c5, .slice A6 x.f6.length c6], rfl, rfl, ⟨[.bool x.f3], [.slice A4 x.f4.length c4, .slice A5 x.f5.length c5, .slice A6 x.f6.length c6], rfl, rfl, ⟨[.slice A4 x.f4.length c4], [.slice A5 x.f5.length c5, .slice A6 x.f6.length c6], rfl, ⟨A4, c4, rfl, l4, g4⟩, ⟨[.slice A5 x.f5.length c5], [.slice A6 x.f6.length c6], rfl, ⟨A5, c5, rfl, l5, g5⟩, ⟨A6, c6, rfl, l6, r6⟩⟩⟩⟩⟩⟩⟩⟩
theorem k31_openF {W : World} {ok : Nat → Prop} {x : S31} {cs : List Value} (h : Kd.FK k31 W ok x cs) : ∃ A4 c4 A5 c5 A6 c6, cs = [.int .i64 x.f0, .int .i64 x.f1, .string x.f2, .bool x.f3, .slice A4 x.f4.length c4, .slice A5 x.f5.length c5, .slice A6 x.f6.length c6] ∧ x.f4.length ≤ c4 ∧ Kd.F k26 W ok A4 x.f4.length x.f4 ∧ x.f5.length ≤ c5 ∧ Kd.F Kd.string W ok A5 x.f5.length x.f5 ∧ x.f6.length ≤ c6 ∧ Kd.F k31 W ok A6 x.f6.length x.f6 := by
  obtain ⟨A4, c4, A5, c5, A6, c6, rfl, l4, _, l5, _, l6, _⟩ := k31_open (Kd.FK_now h)
  exact ⟨A4, c4, A5, c5, A6, c6, rfl, l4, (fun W' hW => by obtain ⟨A4_, c4_, A5_, c5_, A6_, c6_, he, l4_, g4_, l5_, g5_, l6_, g6_⟩ := k31_open (h W' hW); injection (Option.some.inj (show some (Value.slice A4 x.f4.length c4) = some (Value.slice A4_ x.f4.length c4_) from congrArg (fun l => l[4]?) he)) with ha_ _ _; rw [ha_]; exact g4_), l5, (fun W' hW => by obtain ⟨A4_, c4_, A5_, c5_, A6_, c6_, he, l4_, g4_, l5_, g5_, l6_, g6_⟩ := k31_open (h W' hW); injection (Option.some.inj (show some (Value.slice A5 x.f5.length c5) = some (Value.slice A5_ x.f5.length c5_) from congrArg (fun l => l[5]?) he)) with ha_ _ _; rw [ha_]; exact g5_), l6, (fun W' hW => by obtain ⟨A4_, c4_, A5_, c5_, A6_, c6_, he, l4_, g4_, l5_, g5_, l6_, g6_⟩ := k31_open (h W' hW); injection (Option.some.inj (show some (Value.slice A6 x.f6.length c6) = some (Value.slice A6_ x.f6.length c6_) from congrArg (fun l => l[6]?) he)) with ha_ _ _; rw [ha_]; exact g6_)⟩
theorem k31_mkF (W : World) (ok : Nat → Prop) (x : S31) {A4 : Option Addr} {c4 : Nat} (l4 : x.f4.length ≤ c4) (g4 : Kd.F k26 W ok A4 x.f4.length x.f4) {A5 : Option Addr} {c5 : Nat} (l5 : x.f5.length ≤ c5) (g5 : Kd.F Kd.string W ok A5 x.f5.length x.f5) {A6 : Option Addr} {c6 : Nat} (l6 : x.f6.length ≤ c6) (g6 : Kd.F k31 W ok A6 x.f6.length x.f6) : Kd.FK k31 W ok x [.int .i64 x.f0, .int .i64 x.f1, .string x.f2, .bool x.f3, .slice A4 x.f4.length c4, .slice A5 x.f5.length c5, .slice A6 x.f6.length c6] := fun W2 hW => k31_mk W2 x l4 (g4 W2 hW) l5 (g5 W2 hW) l6 (g6 W2 hW)
/-! #### struct type 68 -/
structure S68 where
  f0 : ByteArray
  f1 : S26
def z68 : S68 := ⟨(⟨#[]⟩ : ByteArray), z26⟩
def k68 : Kd S68 := Kd.iso (Kd.pair Kd.string k26) (fun x : S68 => (x.f0, x.f1))
theorem k68_heap : Kd.Heap k68 := Kd.heap_iso _ (Kd.heap_pair Kd.heap_string k26_heap)
theorem k68_open {w : World} {x : S68} {cs : List Value} (h : k68.K w x cs) : ∃ A4 c4 A5 c5, cs = [.string x.f0, .int .i64 x.f1.f0, .int .i64 x.f1.f1, .string x.f1.f2, .slice A4 x.f1.f3.length c4, .slice A5 x.f1.f4.length c5] ∧ x.f1.f3.length ≤ c4 ∧ Kd.string.C w A4 x.f1.f3.length x.f1.f3 ∧ x.f1.f4.length ≤ c5 ∧ k26.C w A5 x.f1.f4.length x.f1.f4 := by
  obtain ⟨_, _, rfl, rfl, s1⟩ := h
  obtain ⟨A4, c4, A5, c5, rfl, l4, g4, l5, g5⟩ := k26_open s1
  exact ⟨A4, c4, A5, c5, rfl, l4, g4, l5, g5⟩
theorem k68_mk (w : World) (x : S68) {A4 : Option Addr} {c4 : Nat} (l4 : x.f1.f3.length ≤ c4) (g4 : Kd.string.C w A4 x.f1.f3.length x.f1.f3) {A5 : Option Addr} {c5 : Nat} (l5 : x.f1.f4.length ≤ c5) (g5 : k26.C w A5 x.f1.f4.length x.f1.f4) : k68.K w x [.string x.f0, .int .i64 x.f1.f0, .int .i64 x.f1.f1, .string x.f1.f2, .slice A4 x.f1.f3.length c4, .slice A5 x.f1.f4.length c5] := ⟨[.string x.f0], [.int .i64 x.f1.f0, .int .i64 x.f1.f1, .string x.f1.f2, .slice A4 x.f1.f3.length c4, .slice A5 x.f1.f4.length c5], rfl, rfl, (k26_mk w x.f1 l4 g4 l5 g5)⟩
theorem k68_openF {W : World} {ok : Nat → Prop} {x : S68} {cs : List Value} (h : Kd.FK k68 W ok x cs) : ∃ A4 c4 A5 c5, cs = [.string x.f0, .int .i64 x.f1.f0, .int .i64 x.f1.f1, .string x.f1.f2, .slice A4 x.f1.f3.length c4, .slice A5 x.f1.f4.length c5] ∧ x.f1.f3.length ≤ c4 ∧ Kd.F Kd.string W ok A4 x.f1.f3.length x.f1.f3 ∧ x.f1.f4.length ≤ c5 ∧ Kd.F k26 W ok A5 x.f1.f4.length x.f1.f4 := by
  obtain ⟨A4, c4, A5, c5, rfl, l4, _, l5, _⟩ := k68_open (Kd.FK_now h)
  exact ⟨A4, c4, A5, c5, rfl, l4, (fun W' hW => by obtain ⟨A4_, c4_, A5_, c5_, he, l4_, g4_, l5_, g5_⟩ := k68_open (h W' hW); injection (Option.some.inj (show some (Value.slice A4 x.f1.f3.length c4) = some (Value.slice A4_ x.f1.f3.length c4_) from congrArg (fun l => l[4]?) he)) with ha_ _ _; rw [ha_]; exact g4_), l5, (fun W' hW => by obtain ⟨A4_, c4_, A5_, c5_, he, l4_, g4_, l5_, g5_⟩ := k68_open (h W' hW); injection (Option.some.inj (show some (Value.slice A5 x.f1.f4.length c5) = some (Value.slice A5_ x.f1.f4.length c5_) from congrArg (fun l => l[5]?) he)) with ha_ _ _; rw [ha_]; exact g5_)⟩
theorem k68_mkF (W : World) (ok : Nat → Prop) (x : S68) {A4 : Option Addr} {c4 : Nat} (l4 : x.f1.f3.length ≤ c4) (g4 : Kd.F Kd.string W ok A4 x.f1.f3.length x.f1.f3) {A5 : Option Addr} {c5 : Nat} (l5 : x.f1.f4.length ≤ c5) (g5 : Kd.F k26 W ok A5 x.f1.f4.length x.f1.f4) : Kd.FK k68 W ok x [.string x.f0, .int .i64 x.f1.f0, .int .i64 x.f1.f1, .string x.f1.f2, .slice A4 x.f1.f3.length c4, .slice A5 x.f1.f4.length c5] := fun W2 hW => k68_mk W2 x l4 (g4 W2 hW) l5 (g5 W2 hW)
/-! #### struct type 28 -/
structure S28 where
  f0 : ByteArray
  f1 : (List S68)
  f2 : (List S68)
  f3 : S26
def z28 : S28 := ⟨(⟨#[]⟩ : ByteArray), ([] : List S68), ([] : List S68), z26⟩
def k28 : Kd S28 := Kd.iso (Kd.pair Kd.string (Kd.pair (Kd.slice 68 k68) (Kd.pair (Kd.slice 68 k68) k26))) (fun x : S28 => (x.f0, x.f1, x.f2, x.f3))
theorem k28_open {w : World} {x : S28} {cs : List Value} (h : k28.K w x cs) : ∃ A1 c1 A2 c2 A6 c6 A7 c7, cs = [.string x.f0, .slice A1 x.f1.length c1, .slice A2 x.f2.length c2, .int .i64 x.f3.f0, .int .i64 x.f3.f1, .string x.f3.f2, .slice A6 x.f3.f3.length c6, .slice A7 x.f3.f4.length c7] ∧ x.f1.length ≤ c1 ∧ k68.C w A1 x.f1.length x.f1 ∧ x.f2.length ≤ c2 ∧ k68.C w A2 x.f2.length x.f2 ∧ x.f3.f3.length ≤ c6 ∧ Kd.string.C w A6 x.f3.f3.length x.f3.f3 ∧ x.f3.f4.length ≤ c7 ∧ k26.C w A7 x.f3.f4.length x.f3.f4 := by
  obtain ⟨_, _, rfl, rfl, ⟨_, _, rfl, ⟨A1, c1, rfl, l1, g1⟩, ⟨_, _, rfl, ⟨A2, c2, rfl, l2, g2⟩, s3⟩⟩⟩ := h
  obtain ⟨A6, c6, A7, c7, rfl, l6, g6, l7, g7⟩ := k26_open s3
  exact ⟨A1, c1, A2, c2, A6, c6, A7, c7, rfl, l1, g1, l2, g2, l6, g6, l7, g7⟩
theorem k28_mk (w : World) (x : S28) {A1 : Option Addr} {c1 : Nat} (l1 : x.f1.length ≤ c1) (g1 : k68.C w A1 x.f1.length x.f1) {A2 : Option Addr} {c2 : Nat} (l2 : x.f2.length ≤ c2) (g2 : k68.C w A2 x.f2.length x.f2) {A6 : Option Addr} {c6 : Nat} (l6 : x.f3.f3.length ≤ c6) (g6 : Kd.string.C w A6 x.f3.f3.length x.f3.f3) {A7 : Option Addr} {c7 : Nat} (l7 : x.f3.f4.length ≤ c7) (g7 : k26.C w A7 x.f3.f4.length x.f3.f4) : k28.K w x [.string x.f0, .slice A1 x.f1.length c1, .slice A2 x.f2.length c2, .int .i64 x.f3.f0, .int .i64 x.f3.f1, .string x.f3.f2, .slice A6 x.f3.f3.length c6, .slice A7 x.f3.f4.length c7] := ⟨[.string x.f0], [.slice A1 x.f1.length c1, .slice A2 x.f2.length c2, .int .i64 x.f3.f0, .int .i64 x.f3.f1, .string x.f3.f2, .slice A6 x.f3.f3.length c6, .slice A7 x.f3.f4.length c7], rfl, rfl, ⟨[.slice A1 x.f1.length c1], [.slice A2 x.f2.length c2, .int .i64 x.f3.f0, .int .i64 x.f3.f1, .string x.f3.f2, .slice A6 x.f3.f3.length c6, .slice A7 x.f3.f4.length c7], rfl, ⟨A1, c1, rfl, l1, g1⟩, ⟨[.slice A2 x.f2.length c2], [.int .i64 x.f3.f0, .int .i64 x.f3.f1, .string x.f3.f2, .slice A6 x.f3.f3.length c6, .slice A7 x.f3.f4.length c7], rfl, ⟨A2, c2, rfl, l2, g2⟩, (k26_mk w x.f3 l6 g6 l7 g7)⟩⟩⟩
/-! #### struct type 33 -/
structure S33 where
  f0 : S28
  f1 : S31
def z33 : S33 := ⟨z28, z31⟩
def k33 : Kd S33 := Kd.iso (Kd.pair k28 k31) (fun x : S33 => (x.f0, x.f1))
theorem k33_open {w : World} {x : S33} {cs : List Value} (h : k33.K w x cs) : ∃ A1 c1 A2 c2 A6 c6 A7 c7 A12 c12 A13 c13 A14 c14, cs = [.string x.f0.f0, .slice A1 x.f0.f1.length c1, .slice A2 x.f0.f2.length c2, .int .i64 x.f0.f3.f0, .int .i64 x.f0.f3.f1, .string x.f0.f3.f2, .slice A6 x.f0.f3.f3.length c6, .slice A7 x.f0.f3.f4.length c7, .int .i64 x.f1.f0, .int .i64 x.f1.f1, .string x.f1.f2, .bool x.f1.f3, .slice A12 x.f1.f4.length c12, .slice A13 x.f1.f5.length c13, .slice A14 x.f1.f6.length c14] ∧ x.f0.f1.length ≤ c1 ∧ k68.C w A1 x.f0.f1.length x.f0.f1 ∧ x.f0.f2.length ≤ c2 ∧ k68.C w A2 x.f0.f2.length x.f0.f2 ∧ x.f0.f3.f3.length ≤ c6 ∧ Kd.string.C w A6 x.f0.f3.f3.length x.f0.f3.f3 ∧ x.f0.f3.f4.length ≤ c7 ∧ k26.C w A7 x.f0.f3.f4.length x.f0.f3.f4 ∧ x.f1.f4.length ≤ c12 ∧ k26.C w A12 x.f1.f4.length x.f1.f4 ∧ x.f1.f5.length ≤ c13 ∧ Kd.string.C w A13 x.f1.f5.length x.f1.f5 ∧ x.f1.f6.length ≤ c14 ∧ k31.C w A14 x.f1.f6.length x.f1.f6 := by
  obtain ⟨_, _, rfl, s0, s8⟩ := h
  obtain ⟨A1, c1, A2, c2, A6, c6, A7, c7, rfl, l1, g1, l2, g2, l6, g6, l7, g7⟩ := k28_open s0
  obtain ⟨A12, c12, A13, c13, A14, c14, rfl, l12, g12, l13, g13, l14, g14⟩ := k31_open s8
  exact ⟨A1, c1, A2, c2, A6, c6, A7, c7, A12, c12, A13, c13, A14, c14, rfl, l1, g1, l2, g2, l6, g6, l7, g7, l12, g12, l13, g13, l14, g14⟩
theorem k33_mk (w : World) (x : S33) {A1 : Option Addr} {c1 : Nat} (l1 : x.f0.f1.length ≤ c1) (g1 : k68.C w A1 x.f0.f1.length x.f0.f1) {A2 : Option Addr} {c2 : Nat} (l2 : x.f0.f2.length ≤ c2) (g2 : k68.C w A2 x.f0.f2.length x.f0.f2) {A6 : Option Addr} {c6 : Nat} (l6 : x.f0.f3.f3.length ≤ c6) (g6 : Kd.string.C w A6 x.f0.f3.f3.length x.f0.f3.f3) {A7 : Option Addr} {c7 : Nat} (l7 : x.f0.f3.f4.length ≤ c7) (g7 : k26.C w A7 x.f0.f3.f4.length x.f0.f3.f4) {A12 : Option Addr} {c12 : Nat} (l12 : x.f1.f4.length ≤ c12) (g12 : k26.C w A12 x.f1.f4.length x.f1.f4) {A13 : Option Addr} {c13 : Nat} (l13 : x.f1.f5.length ≤ c13) (g13 : Kd.string.C w A13 x.f1.f5.length x.f1.f5) {A14 : Option Addr} {c14 : Nat} (l14 : x.f1.f6.length ≤ c14) (g14 : k31.C w A14 x.f1.f6.length x.f1.f6) : k33.K w x [.string x.f0.f0, .slice A1 x.f0.f1.length c1, .slice A2 x.f0.f2.length c2, .int .i64 x.f0.f3.f0, .int .i64 x.f0.f3.f1, .string x.f0.f3.f2, .slice A6 x.f0.f3.f3.length c6, .slice A7 x.f0.f3.f4.length c7, .int .i64 x.f1.f0, .int .i64 x.f1.f1, .string x.f1.f2, .bool x.f1.f3, .slice A12 x.f1.f4.length c12, .slice A13 x.f1.f5.length c13, .slice A14 x.f1.f6.length c14] := ⟨[.string x.f0.f0, .slice A1 x.f0.f1.length c1, .slice A2 x.f0.f2.length c2, .int .i64 x.f0.f3.f0, .int .i64 x.f0.f3.f1, .string x.f0.f3.f2, .slice A6 x.f0.f3.f3.length c6, .slice A7 x.f0.f3.f4.length c7], [.int .i64 x.f1.f0, .int .i64 x.f1.f1, .string x.f1.f2, .bool x.f1.f3, .slice A12 x.f1.f4.length c12, .slice A13 x.f1.f5.length c13, .slice A14 x.f1.f6.length c14], rfl, (k28_mk w x.f0 l1 g1 l2 g2 l6 g6 l7 g7), (k31_mk w x.f1 l12 g12 l13 g13 l14 g14)⟩
theorem k33_openF {W : World} {ok : Nat → Prop} {x : S33} {cs : List Value} (h : Kd.FK k33 W ok x cs) : ∃ A1 c1 A2 c2 A6 c6 A7 c7 A12 c12 A13 c13 A14 c14, cs = [.string x.f0.f0, .slice A1 x.f0.f1.length c1, .slice A2 x.f0.f2.length c2, .int .i64 x.f0.f3.f0, .int .i64 x.f0.f3.f1, .string x.f0.f3.f2, .slice A6 x.f0.f3.f3.length c6, .slice A7 x.f0.f3.f4.length c7, .int .i64 x.f1.f0, .int .i64 x.f1.f1, .string x.f1.f2, .bool x.f1.f3, .slice A12 x.f1.f4.length c12, .slice A13 x.f1.f5.length c13, .slice A14 x.f1.f6.length c14] ∧ x.f0.f1.length ≤ c1 ∧ Kd.F k68 W ok A1 x.f0.f1.length x.f0.f1 ∧ x.f0.f2.length ≤ c2 ∧ Kd.F k68 W ok A2 x.f0.f2.length x.f0.f2 ∧ x.f0.f3.f3.length ≤ c6 ∧ Kd.F Kd.string W ok A6 x.f0.f3.f3.length x.f0.f3.f3 ∧ x.f0.f3.f4.length ≤ c7 ∧ Kd.F k26 W ok A7 x.f0.f3.f4.length x.f0.f3.f4 ∧ x.f1.f4.length ≤ c12 ∧ Kd.F k26 W ok A12 x.f1.f4.length x.f1.f4 ∧ x.f1.f5.length ≤ c13 ∧ Kd.F Kd.string W ok A13 x.f1.f5.length x.f1.f5 ∧ x.f1.f6.length ≤ c14 ∧ Kd.F k31 W ok A14 x.f1.f6.length x.f1.f6 := by
  obtain ⟨A1, c1, A2, c2, A6, c6, A7, c7, A12, c12, A13, c13, A14, c14, rfl, l1, _, l2, _, l6, _, l7, _, l12, _, l13, _, l14, _⟩ := k33_open (Kd.FK_now h)
  exact ⟨A1, c1, A2, c2, A6, c6, A7, c7, A12, c12, A13, c13, A14, c14, rfl, l1, (fun W' hW => by obtain ⟨A1_, c1_, A2_, c2_, A6_, c6_, A7_, c7_, A12_, c12_, A13_, c13_, A14_, c14_, he, l1_, g1_, l2_, g2_, l6_, g6_, l7_, g7_, l12_, g12_, l13_, g13_, l14_, g14_⟩ := k33_open (h W' hW); injection (Option.some.inj (show some (Value.slice A1 x.f0.f1.length c1) = some (Value.slice A1_ x.f0.f1.length c1_) from congrArg (fun l => l[1]?) he)) with ha_ _ _; rw [ha_]; exact g1_), l2, (fun W' hW => by obtain ⟨A1_, c1_, A2_, c2_, A6_, c6_, A7_, c7_, A12_, c12_, A13_, c13_, A14_, c14_, he, l1_, g1_, l2_, g2_, l6_, g6_, l7_, g7_, l12_, g12_, l13_, g13_, l14_, g14_⟩ := k33_open (h W' hW); injection (Option.some.inj (show some (Value.slice A2 x.f0.f2.length c2) = some (Value.slice A2_ x.f0.f2.length c2_) from congrArg (fun l => l[2]?) he)) with ha_ _ _; rw [ha_]; exact g2_), l6, (fun W' hW => by obtain ⟨A1_, c1_, A2_, c2_, A6_, c6_, A7_, c7_, A12_, c12_, A13_, c13_, A14_, c14_, he, l1_, g1_, l2_, g2_, l6_, g6_, l7_, g7_, l12_, g12_, l13_, g13_, l14_, g14_⟩ := k33_open (h W' hW); injection (Option.some.inj (show some (Value.slice A6 x.f0.f3.f3.length c6) = some (Value.slice A6_ x.f0.f3.f3.length c6_) from congrArg (fun l => l[6]?) he)) with ha_ _ _; rw [ha_]; exact g6_), l7, (fun W' hW => by obtain ⟨A1_, c1_, A2_, c2_, A6_, c6_, A7_, c7_, A12_, c12_, A13_, c13_, A14_, c14_, he, l1_, g1_, l2_, g2_, l6_, g6_, l7_, g7_, l12_, g12_, l13_, g13_, l14_, g14_⟩ := k33_open (h W' hW); injection (Option.some.inj (show some (Value.slice A7 x.f0.f3.f4.length c7) = some (Value.slice A7_ x.f0.f3.f4.length c7_) from congrArg (fun l => l[7]?) he)) with ha_ _ _; rw [ha_]; exact g7_), l12, (fun W' hW => by obtain ⟨A1_, c1_, A2_, c2_, A6_, c6_, A7_, c7_, A12_, c12_, A13_, c13_, A14_, c14_, he, l1_, g1_, l2_, g2_, l6_, g6_, l7_, g7_, l12_, g12_, l13_, g13_, l14_, g14_⟩ := k33_open (h W' hW); injection (Option.some.inj (show some (Value.slice A12 x.f1.f4.length c12) = some (Value.slice A12_ x.f1.f4.length c12_) from congrArg (fun l => l[12]?) he)) with ha_ _ _; rw [ha_]; exact g12_), l13, (fun W' hW => by obtain ⟨A1_, c1_, A2_, c2_, A6_, c6_, A7_, c7_, A12_, c12_, A13_, c13_, A14_, c14_, he, l1_, g1_, l2_, g2_, l6_, g6_, l7_, g7_, l12_, g12_, l13_, g13_, l14_, g14_⟩ := k33_open (h W' hW); injection (Option.some.inj (show some (Value.slice A13 x.f1.f5.length c13) = some (Value.slice A13_ x.f1.f5.length c13_) from congrArg (fun l => l[13]?) he)) with ha_ _ _; rw [ha_]; exact g13_), l14, (fun W' hW => by obtain ⟨A1_, c1_, A2_, c2_, A6_, c6_, A7_, c7_, A12_, c12_, A13_, c13_, A14_, c14_, he, l1_, g1_, l2_, g2_, l6_, g6_, l7_, g7_, l12_, g12_, l13_, g13_, l14_, g14_⟩ := k33_open (h W' hW); injection (Option.some.inj (show some (Value.slice A14 x.f1.f6.length c14) = some (Value.slice A14_ x.f1.f6.length c14_) from congrArg (fun l => l[14]?) he)) with ha_ _ _; rw [ha_]; exact g14_)⟩
theorem k33_mkF (W : World) (ok : Nat → Prop) (x : S33) {A1 : Option Addr} {c1 : Nat} (l1 : x.f0.f1.length ≤ c1) (g1 : Kd.F k68 W ok A1 x.f0.f1.length x.f0.f1) {A2 : Option Addr} {c2 : Nat} (l2 : x.f0.f2.length ≤ c2) (g2 : Kd.F k68 W ok A2 x.f0.f2.length x.f0.f2) {A6 : Option Addr} {c6 : Nat} (l6 : x.f0.f3.f3.length ≤ c6) (g6 : Kd.F Kd.string W ok A6 x.f0.f3.f3.length x.f0.f3.f3) {A7 : Option Addr} {c7 : Nat} (l7 : x.f0.f3.f4.length ≤ c7) (g7 : Kd.F k26 W ok A7 x.f0.f3.f4.length x.f0.f3.f4) {A12 : Option Addr} {c12 : Nat} (l12 : x.f1.f4.length ≤ c12) (g12 : Kd.F k26 W ok A12 x.f1.f4.length x.f1.f4) {A13 : Option Addr} {c13 : Nat} (l13 : x.f1.f5.length ≤ c13) (g13 : Kd.F Kd.string W ok A13 x.f1.f5.length x.f1.f5) {A14 : Option Addr} {c14 : Nat} (l14 : x.f1.f6.length ≤ c14) (g14 : Kd.F k31 W ok A14 x.f1.f6.length x.f1.f6) : Kd.FK k33 W ok x [.string x.f0.f0, .slice A1 x.f0.f1.length c1, .slice A2 x.f0.f2.length c2, .int .i64 x.f0.f3.f0, .int .i64 x.f0.f3.f1, .string x.f0.f3.f2, .slice A6 x.f0.f3.f3.length c6, .slice A7 x.f0.f3.f4.length c7, .int .i64 x.f1.f0, .int .i64 x.f1.f1, .string x.f1.f2, .bool x.f1.f3, .slice A12 x.f1.f4.length c12, .slice A13 x.f1.f5.length c13, .slice A14 x.f1.f6.length c14] := fun W2 hW => k33_mk W2 x l1 (g1 W2 hW) l2 (g2 W2 hW) l6 (g6 W2 hW) l7 (g7 W2 hW) l12 (g12 W2 hW) l13 (g13 W2 hW) l14 (g14 W2 hW)
end Go.Proofs.Ytlenfmnkbepoiaa.PSitesTell
