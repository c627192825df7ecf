/-
  prim: what Takes, Int, Bool, Str, quotient and Do answer, the table lying in its block. No other conditions.
-/
import Derived.Test.YtophddbbeechkaaDoorProg
import Derived.WalkKit
import Derived.Handy
import Derived.Below
import Derived.KernelRfl
import Derived.Laws.ResultCell
import Derived.Test.YtophddbbeechkaaDoorWMine
namespace Go.Proofs.YtophddbbeechkaaDoor.W1
open Go.RowKit Go.Proofs.YtophddbbeechkaaDoorW.PrintWords Go.Proofs.YtophddbbeechkaaDoorW.PrintLast Go.Proofs.YtophddbbeechkaaDoorW.PrintMore Go.Proofs.YtophddbbeechkaaDoorW.Mine
attribute [local go_sem] max2_int min2_int
set_option linter.unusedVariables false
set_option linter.unusedSimpArgs false
def takesTab (op : Int) : Int := if op = 5 then 3 else if 1 ≤ op ∧ op ≤ 7 then 1 else 0
/-- The table prim.takes lies in its block. -/
def GW (w : World) : Prop := 0 < w.heap.size ∧ ∀ i : Nat, i < 8 → w.cell? ⟨0, i, none⟩ = some (.int .i64 (takesTab i))
theorem GW.below {w w' : World} (h : GW w) (hb : Below w.heap.size w w') : GW w' :=
  ⟨Nat.lt_of_lt_of_le h.1 hb.size, fun i hi => (hb.cell (p := ⟨0, i, none⟩) h.1).trans (h.2 i hi)⟩
theorem takes_out (op : Int) (h : op < 0 ∨ 8 ≤ op) : takesTab op = 0 := by
  unfold takesTab
  rw [if_neg (by omega), if_neg (by omega)]
set_option maxHeartbeats 1000000 in
set_option maxRecDepth 100000 in
theorem takes_c (a0 : Int) (w : World) (hG : GW w) : Calls Tryd.prog 13 #[.int .i64 a0] w fun e w' => e = .returned (.int .i64 (takesTab a0)) ∧ Below w.heap.size w w' := by
  by_cases h0 : a0 < 0
  · rw [takes_out a0 (.inl h0)]
    have c0 : decide (a0 < 0) = true := decide_eq_true h0
    clear h0 hG
    go_enter Tryd.func13, Tryd.ntmps13
    go_wp2
    go_ret
    exact ⟨rfl, Below.refl _ _⟩
  by_cases h8 : 8 ≤ a0
  · rw [takes_out a0 (.inr h8)]
    have c0 : decide (a0 < 0) = false := decide_eq_false h0
    have c1 : decide (8 ≤ a0) = true := decide_eq_true h8
    clear h0 h8 hG
    go_enter Tryd.func13, Tryd.ntmps13
    go_wp2
    go_ret
    exact ⟨rfl, Below.refl _ _⟩
  obtain ⟨n, rfl⟩ := Int.eq_ofNat_of_zero_le (by omega : 0 ≤ a0)
  have hn : n < 8 := by omega
  have hc : w.cell? ⟨0, n, none⟩ = some (.int .i64 (takesTab n)) := hG.2 n hn
  have c0 : decide ((n : Int) < 0) = false := decide_eq_false h0
  have c1 : decide (8 ≤ (n : Int)) = false := decide_eq_false h8
  have c2 : decide (8 ≤ n) = false := decide_eq_false (by omega)
  have c3 : decide ((n : Int) < 8) = true := decide_eq_true (by omega)
  have c4 : decide (n < 8) = true := decide_eq_true hn
  generalize takesTab n = t at hc ⊢
  clear h0 h8 hG
  go_enter Tryd.func13, Tryd.ntmps13
  go_wp2
  go_ret
  exact ⟨rfl, Below.refl _ _⟩
/-- A value of a kind, a number, a text; all else zero. -/
abbrev vv (k n : Int) (s : ByteArray) : Value := .agg #[.int .i64 k, .int .i64 n, .int .i64 0, .bool false, .string s, .string ⟨#[]⟩, .int .i64 0, .slice none 0 0, .slice none 0 0, .slice none 0 0]
theorem new_at {w : World} {o : Obj} {g : Nat} (h : g = w.heap.size) : (w.alloc o).heap[g]? = some o := h ▸ blk_new w o
set_option maxHeartbeats 1000000 in
set_option maxRecDepth 100000 in
theorem int_c (n : Int) (w : World) : Calls Tryd.prog 15 #[.int .i64 n] w fun e w' => e = .returned (vv 1 n ⟨#[]⟩) ∧ Below w.heap.size w w' := by
  go_enter Tryd.func15, Tryd.ntmps15
  go_wp2
  (try simp only [Exit.inBlock, Exit.then]); refine bodyPost_ret (results_cell_row rfl _ _ _ 28 _ (0, 0) _ rfl (by (repeat (first | (refine new_at ?_; first | (with_reducible rfl) | (simp only [World.size_alloc]; done)) | refine blk_alloc ?_ _))) Tryd.underlying28 rfl (by kernel_rfl)) rfl ?_
  exact ⟨rfl, by go_grown⟩
set_option maxHeartbeats 1000000 in
set_option maxRecDepth 100000 in
theorem bool_c (b : Bool) (w : World) : Calls Tryd.prog 17 #[.bool b] w fun e w' => e = .returned (vv 2 (bif b then 1 else 0) ⟨#[]⟩) ∧ Below w.heap.size w w' := by
  cases b
  · go_enter Tryd.func17, Tryd.ntmps17
    go_wp2
    (try simp only [Exit.inBlock, Exit.then]); refine bodyPost_ret (results_cell_row rfl _ _ _ 28 _ (0, 0) _ rfl (by (repeat (first | (refine new_at ?_; first | (with_reducible rfl) | (simp only [World.size_alloc]; done)) | refine blk_alloc ?_ _))) Tryd.underlying28 rfl (by kernel_rfl)) rfl ?_
    exact ⟨rfl, by go_grown⟩
  · go_enter Tryd.func17, Tryd.ntmps17
    go_wp2
    (try simp only [Exit.inBlock, Exit.then]); refine bodyPost_ret (results_cell_row rfl _ _ _ 28 _ (0, 0) _ rfl (by (repeat (first | (refine new_at ?_; first | (with_reducible rfl) | (simp only [World.size_alloc]; done)) | refine blk_alloc ?_ _))) Tryd.underlying28 rfl (by kernel_rfl)) rfl ?_
    exact ⟨rfl, by go_grown⟩
theorem extract_all (s : ByteArray) (n : Nat) (h : s.size ≤ n) : s.extract 0 n = s := by
  apply ByteArray.ext
  rw [ByteArray.data_extract]
  exact Array.extract_eq_self_of_le (by simpa using h)
set_option maxHeartbeats 1000000 in
set_option maxRecDepth 100000 in
theorem str_c (s : ByteArray) (w : World) : Calls Tryd.prog 19 #[.string s] w fun e w' => e = .returned (vv 3 0 (s.extract 0 256)) ∧ Below w.heap.size w w' := by
  by_cases h : 256 < (s.size : Int)
  · go_enter Tryd.func19, Tryd.ntmps19
    go_wp2
    (try simp only [Exit.inBlock, Exit.then]); refine bodyPost_ret (results_cell_row rfl _ _ _ 28 _ (0, 0) _ rfl (by (repeat (first | (refine new_at ?_; first | (with_reducible rfl) | (simp only [World.size_alloc]; done)) | refine blk_alloc ?_ _))) Tryd.underlying28 rfl (by kernel_rfl)) rfl ?_
    exact ⟨rfl, by go_grown⟩
  · rw [extract_all s 256 (by omega)]
    have h' : (s.size : Int) ≤ 256 := by omega
    go_enter Tryd.func19, Tryd.ntmps19
    go_wp2
    (try simp only [Exit.inBlock, Exit.then]); refine bodyPost_ret (results_cell_row rfl _ _ _ 28 _ (0, 0) _ rfl (by (repeat (first | (refine new_at ?_; first | (with_reducible rfl) | (simp only [World.size_alloc]; done)) | refine blk_alloc ?_ _))) Tryd.underlying28 rfl (by kernel_rfl)) rfl ?_
    exact ⟨rfl, by go_grown⟩
set_option maxHeartbeats 1000000 in
set_option maxRecDepth 100000 in
theorem quot_zero (a : Int) (w : World) : Calls Tryd.prog 23 #[.int .i64 a, .int .i64 0] w fun e w' => e = .returned (.tuple #[vv 0 0 ⟨#[]⟩, .int .i64 22]) ∧ Below w.heap.size w w' := by
  go_enter Tryd.func23, Tryd.ntmps23
  go_wp2
  (try simp only [Exit.inBlock, Exit.then]); refine bodyPost_ret (results_ct rfl _ _ _ 28 _ (0, 0) _ rfl (by (repeat (first | (refine new_at ?_; first | (with_reducible rfl) | (simp only [World.size_alloc]; done)) | refine blk_alloc ?_ _))) Tryd.underlying28 rfl (by kernel_rfl)) rfl ?_
  exact ⟨rfl, by go_grown⟩
set_option maxHeartbeats 1000000 in
set_option maxRecDepth 100000 in
theorem quot_c (a b : Int) (hb : b ≠ 0) (w : World) : Calls Tryd.prog 23 #[.int .i64 a, .int .i64 b] w fun e w' => e = .returned (.tuple #[vv 1 (wrap64 (a.tdiv b)) ⟨#[]⟩, .int .i64 0]) ∧ Below w.heap.size w w' := by
  have h0 : decide (b = 0) = false := decide_eq_false hb
  go_enter Tryd.func23, Tryd.ntmps23
  go_wp2
  (try simp only [Exit.inBlock, Exit.then]); refine bodyPost_ret (results_ct rfl _ _ _ 28 _ (0, 0) _ rfl (by (repeat (first | (refine new_at ?_; first | (with_reducible rfl) | (simp only [World.size_alloc]; done)) | refine blk_alloc ?_ _))) Tryd.underlying28 rfl (by kernel_rfl)) rfl ?_
  exact ⟨rfl, by go_grown⟩
/-- Any value: its kind, number and text stand apart. -/
abbrev av (k n : Int) (s : ByteArray) (x2 x3 x5 x6 x7 x8 x9 : Value) : Value := .agg #[.int .i64 k, .int .i64 n, x2, x3, .string s, x5, x6, x7, x8, x9]
set_option maxHeartbeats 2000000 in
set_option maxRecDepth 100000 in
theorem do_add (ka na kb nb : Int) (sa sb : ByteArray) (a2 a3 a5 a6 a7 a8 a9 b2 b3 b5 b6 b7 b8 b9 : Value) (w : World) (hG : GW w) (hk : ka = 1) (hk' : kb = 1) :
    Calls Tryd.prog 10 #[.int .i64 1, av ka na sa a2 a3 a5 a6 a7 a8 a9, av kb nb sb b2 b3 b5 b6 b7 b8 b9] w fun e w' => e = .returned (.tuple #[vv 1 (wrap64 (na + nb)) (⟨#[]⟩ : ByteArray), .int .i64 0]) ∧ Below w.heap.size w w' := by
  have hsz : 0 < w.heap.size := hG.1
  have hc : w.cell? ⟨0, 1, none⟩ = some (.int .i64 1) := hG.2 1 (by decide)
  subst hk; subst hk'
  go_enter Tryd.func10, Tryd.ntmps10
  go_wp2
  (try simp only [Exit.inBlock, Exit.then]); refine bodyPost_ret (results_ct rfl _ _ _ 28 _ (0, 0) _ rfl (by (repeat (first | (refine new_at ?_; first | (with_reducible rfl) | (simp only [World.size_alloc]; done)) | refine blk_alloc ?_ _))) Tryd.underlying28 rfl (by kernel_rfl)) rfl ?_
  exact ⟨rfl, by go_grown⟩
set_option maxHeartbeats 2000000 in
set_option maxRecDepth 100000 in
theorem do_sub (ka na kb nb : Int) (sa sb : ByteArray) (a2 a3 a5 a6 a7 a8 a9 b2 b3 b5 b6 b7 b8 b9 : Value) (w : World) (hG : GW w) (hk : ka = 1) (hk' : kb = 1) :
    Calls Tryd.prog 10 #[.int .i64 2, av ka na sa a2 a3 a5 a6 a7 a8 a9, av kb nb sb b2 b3 b5 b6 b7 b8 b9] w fun e w' => e = .returned (.tuple #[vv 1 (wrap64 (na - nb)) (⟨#[]⟩ : ByteArray), .int .i64 0]) ∧ Below w.heap.size w w' := by
  have hsz : 0 < w.heap.size := hG.1
  have hc : w.cell? ⟨0, 2, none⟩ = some (.int .i64 1) := hG.2 2 (by decide)
  subst hk; subst hk'
  go_enter Tryd.func10, Tryd.ntmps10
  go_wp2
  (try simp only [Exit.inBlock, Exit.then]); refine bodyPost_ret (results_ct rfl _ _ _ 28 _ (0, 0) _ rfl (by (repeat (first | (refine new_at ?_; first | (with_reducible rfl) | (simp only [World.size_alloc]; done)) | refine blk_alloc ?_ _))) Tryd.underlying28 rfl (by kernel_rfl)) rfl ?_
  exact ⟨rfl, by go_grown⟩
set_option maxHeartbeats 2000000 in
set_option maxRecDepth 100000 in
theorem do_mul (ka na kb nb : Int) (sa sb : ByteArray) (a2 a3 a5 a6 a7 a8 a9 b2 b3 b5 b6 b7 b8 b9 : Value) (w : World) (hG : GW w) (hk : ka = 1) (hk' : kb = 1) :
    Calls Tryd.prog 10 #[.int .i64 3, av ka na sa a2 a3 a5 a6 a7 a8 a9, av kb nb sb b2 b3 b5 b6 b7 b8 b9] w fun e w' => e = .returned (.tuple #[vv 1 (wrap64 (na * nb)) (⟨#[]⟩ : ByteArray), .int .i64 0]) ∧ Below w.heap.size w w' := by
  have hsz : 0 < w.heap.size := hG.1
  have hc : w.cell? ⟨0, 3, none⟩ = some (.int .i64 1) := hG.2 3 (by decide)
  subst hk; subst hk'
  go_enter Tryd.func10, Tryd.ntmps10
  go_wp2
  (try simp only [Exit.inBlock, Exit.then]); refine bodyPost_ret (results_ct rfl _ _ _ 28 _ (0, 0) _ rfl (by (repeat (first | (refine new_at ?_; first | (with_reducible rfl) | (simp only [World.size_alloc]; done)) | refine blk_alloc ?_ _))) Tryd.underlying28 rfl (by kernel_rfl)) rfl ?_
  exact ⟨rfl, by go_grown⟩
set_option maxHeartbeats 2000000 in
set_option maxRecDepth 100000 in
theorem do_zero (ka na kb nb : Int) (sa sb : ByteArray) (a2 a3 a5 a6 a7 a8 a9 b2 b3 b5 b6 b7 b8 b9 : Value) (w : World) (hG : GW w) (hk : ka = 1) (hk' : kb = 1) (hz : nb = 0) :
    Calls Tryd.prog 10 #[.int .i64 4, av ka na sa a2 a3 a5 a6 a7 a8 a9, av kb nb sb b2 b3 b5 b6 b7 b8 b9] w fun e w' => e = .returned (.tuple #[vv 0 0 (⟨#[]⟩ : ByteArray), .int .i64 22]) ∧ Below w.heap.size w w' := by
  have hsz : 0 < w.heap.size := hG.1
  have hc : w.cell? ⟨0, 4, none⟩ = some (.int .i64 1) := hG.2 4 (by decide)
  subst hk; subst hk'
  subst hz
  go_enter Tryd.func10, Tryd.ntmps10
  go_wp2
  (try simp only [Exit.inBlock, Exit.then]); refine bodyPost_ret (results_ct rfl _ _ _ 28 _ (0, 0) _ rfl (by (repeat (first | (refine new_at ?_; first | (with_reducible rfl) | (simp only [World.size_alloc]; done)) | refine blk_alloc ?_ _))) Tryd.underlying28 rfl (by kernel_rfl)) rfl ?_
  exact ⟨rfl, by go_grown⟩
set_option maxHeartbeats 2000000 in
set_option maxRecDepth 100000 in
theorem do_div (ka na kb nb : Int) (sa sb : ByteArray) (a2 a3 a5 a6 a7 a8 a9 b2 b3 b5 b6 b7 b8 b9 : Value) (w : World) (hG : GW w) (hk : ka = 1) (hk' : kb = 1) (hz : nb ≠ 0) :
    Calls Tryd.prog 10 #[.int .i64 4, av ka na sa a2 a3 a5 a6 a7 a8 a9, av kb nb sb b2 b3 b5 b6 b7 b8 b9] w fun e w' => e = .returned (.tuple #[vv 1 (wrap64 (na.tdiv nb)) (⟨#[]⟩ : ByteArray), .int .i64 0]) ∧ Below w.heap.size w w' := by
  have hsz : 0 < w.heap.size := hG.1
  have hc : w.cell? ⟨0, 4, none⟩ = some (.int .i64 1) := hG.2 4 (by decide)
  subst hk; subst hk'
  have h0 : decide (nb = 0) = false := decide_eq_false hz
  go_enter Tryd.func10, Tryd.ntmps10
  go_wp2
  (try simp only [Exit.inBlock, Exit.then]); refine bodyPost_ret (results_ct rfl _ _ _ 28 _ (0, 0) _ rfl (by (repeat (first | (refine new_at ?_; first | (with_reducible rfl) | (simp only [World.size_alloc]; done)) | refine blk_alloc ?_ _))) Tryd.underlying28 rfl (by kernel_rfl)) rfl ?_
  exact ⟨rfl, by go_grown⟩
set_option maxHeartbeats 2000000 in
set_option maxRecDepth 100000 in
theorem do_cat (ka na kb nb : Int) (sa sb : ByteArray) (a2 a3 a5 a6 a7 a8 a9 b2 b3 b5 b6 b7 b8 b9 : Value) (w : World) (hG : GW w) (hk : ka = 3) (hk' : kb = 3) (hs : sa.size + sb.size ≤ 256) :
    Calls Tryd.prog 10 #[.int .i64 5, av ka na sa a2 a3 a5 a6 a7 a8 a9, av kb nb sb b2 b3 b5 b6 b7 b8 b9] w fun e w' => e = .returned (.tuple #[vv 3 0 ((sa ++ sb).extract 0 256), .int .i64 0]) ∧ Below w.heap.size w w' := by
  have hsz : 0 < w.heap.size := hG.1
  have hc : w.cell? ⟨0, 5, none⟩ = some (.int .i64 3) := hG.2 5 (by decide)
  subst hk; subst hk'
  have hs' : ((sa ++ sb).size : Int) ≤ 256 := by rw [ByteArray.size_append]; omega
  go_enter Tryd.func10, Tryd.ntmps10
  go_wp2
  (try simp only [Exit.inBlock, Exit.then]); refine bodyPost_ret (results_ct rfl _ _ _ 28 _ (0, 0) _ rfl (by (repeat (first | (refine new_at ?_; first | (with_reducible rfl) | (simp only [World.size_alloc]; done)) | refine blk_alloc ?_ _))) Tryd.underlying28 rfl (by kernel_rfl)) rfl ?_
  have e : (sa ++ sb).extract 0 (sa.size + sb.size) = (sa ++ sb).extract 0 256 := (extract_all _ _ (Nat.le_of_eq ByteArray.size_append)).trans (extract_all _ _ (by omega)).symm
  exact ⟨by rw [← e]; rfl, by go_grown⟩
set_option maxHeartbeats 2000000 in
set_option maxRecDepth 100000 in
theorem do_cut (ka na kb nb : Int) (sa sb : ByteArray) (a2 a3 a5 a6 a7 a8 a9 b2 b3 b5 b6 b7 b8 b9 : Value) (w : World) (hG : GW w) (hk : ka = 3) (hk' : kb = 3) (hs : 256 < sa.size + sb.size) (hm : sa.size + sb.size ≤ 9223372036854775807) :
    Calls Tryd.prog 10 #[.int .i64 5, av ka na sa a2 a3 a5 a6 a7 a8 a9, av kb nb sb b2 b3 b5 b6 b7 b8 b9] w fun e w' => e = .returned (.tuple #[vv 3 0 ((sa ++ sb).extract 0 256), .int .i64 0]) ∧ Below w.heap.size w w' := by
  have hsz : 0 < w.heap.size := hG.1
  have hc : w.cell? ⟨0, 5, none⟩ = some (.int .i64 3) := hG.2 5 (by decide)
  subst hk; subst hk'
  have hs' : 256 < ((sa ++ sb).size : Int) := by rw [ByteArray.size_append]; omega
  go_enter Tryd.func10, Tryd.ntmps10
  go_wp2
  (try simp only [Exit.inBlock, Exit.then]); refine bodyPost_ret (results_ct rfl _ _ _ 28 _ (0, 0) _ rfl (by (repeat (first | (refine new_at ?_; first | (with_reducible rfl) | (simp only [World.size_alloc]; done)) | refine blk_alloc ?_ _))) Tryd.underlying28 rfl (by kernel_rfl)) rfl ?_
  exact ⟨rfl, by go_grown⟩
set_option maxHeartbeats 2000000 in
set_option maxRecDepth 100000 in
theorem do_less_true (ka na kb nb : Int) (sa sb : ByteArray) (a2 a3 a5 a6 a7 a8 a9 b2 b3 b5 b6 b7 b8 b9 : Value) (w : World) (hG : GW w) (hk : ka = 1) (hk' : kb = 1) (hn : na < nb) :
    Calls Tryd.prog 10 #[.int .i64 6, av ka na sa a2 a3 a5 a6 a7 a8 a9, av kb nb sb b2 b3 b5 b6 b7 b8 b9] w fun e w' => e = .returned (.tuple #[vv 2 1 (⟨#[]⟩ : ByteArray), .int .i64 0]) ∧ Below w.heap.size w w' := by
  have hsz : 0 < w.heap.size := hG.1
  have hc : w.cell? ⟨0, 6, none⟩ = some (.int .i64 1) := hG.2 6 (by decide)
  subst hk; subst hk'
  have h0 : decide (na < nb) = true := decide_eq_true hn
  go_enter Tryd.func10, Tryd.ntmps10
  go_wp2
  (try simp only [Exit.inBlock, Exit.then]); refine bodyPost_ret (results_ct rfl _ _ _ 28 _ (0, 0) _ rfl (by (repeat (first | (refine new_at ?_; first | (with_reducible rfl) | (simp only [World.size_alloc]; done)) | refine blk_alloc ?_ _))) Tryd.underlying28 rfl (by kernel_rfl)) rfl ?_
  exact ⟨rfl, by go_grown⟩
set_option maxHeartbeats 2000000 in
set_option maxRecDepth 100000 in
theorem do_less_false (ka na kb nb : Int) (sa sb : ByteArray) (a2 a3 a5 a6 a7 a8 a9 b2 b3 b5 b6 b7 b8 b9 : Value) (w : World) (hG : GW w) (hk : ka = 1) (hk' : kb = 1) (hn : ¬ (na < nb)) :
    Calls Tryd.prog 10 #[.int .i64 6, av ka na sa a2 a3 a5 a6 a7 a8 a9, av kb nb sb b2 b3 b5 b6 b7 b8 b9] w fun e w' => e = .returned (.tuple #[vv 2 0 (⟨#[]⟩ : ByteArray), .int .i64 0]) ∧ Below w.heap.size w w' := by
  have hsz : 0 < w.heap.size := hG.1
  have hc : w.cell? ⟨0, 6, none⟩ = some (.int .i64 1) := hG.2 6 (by decide)
  subst hk; subst hk'
  have h0 : decide (na < nb) = false := decide_eq_false hn
  go_enter Tryd.func10, Tryd.ntmps10
  go_wp2
  (try simp only [Exit.inBlock, Exit.then]); refine bodyPost_ret (results_ct rfl _ _ _ 28 _ (0, 0) _ rfl (by (repeat (first | (refine new_at ?_; first | (with_reducible rfl) | (simp only [World.size_alloc]; done)) | refine blk_alloc ?_ _))) Tryd.underlying28 rfl (by kernel_rfl)) rfl ?_
  exact ⟨rfl, by go_grown⟩
set_option maxHeartbeats 2000000 in
set_option maxRecDepth 100000 in
theorem do_same_true (ka na kb nb : Int) (sa sb : ByteArray) (a2 a3 a5 a6 a7 a8 a9 b2 b3 b5 b6 b7 b8 b9 : Value) (w : World) (hG : GW w) (hk : ka = 1) (hk' : kb = 1) (hn : na = nb) :
    Calls Tryd.prog 10 #[.int .i64 7, av ka na sa a2 a3 a5 a6 a7 a8 a9, av kb nb sb b2 b3 b5 b6 b7 b8 b9] w fun e w' => e = .returned (.tuple #[vv 2 1 (⟨#[]⟩ : ByteArray), .int .i64 0]) ∧ Below w.heap.size w w' := by
  have hsz : 0 < w.heap.size := hG.1
  have hc : w.cell? ⟨0, 7, none⟩ = some (.int .i64 1) := hG.2 7 (by decide)
  subst hk; subst hk'
  have h0 : decide (na = nb) = true := decide_eq_true hn
  have h1 : (na == nb) = true := by simpa using hn
  go_enter Tryd.func10, Tryd.ntmps10
  go_wp2
  (try simp only [Exit.inBlock, Exit.then]); refine bodyPost_ret (results_ct rfl _ _ _ 28 _ (0, 0) _ rfl (by (repeat (first | (refine new_at ?_; first | (with_reducible rfl) | (simp only [World.size_alloc]; done)) | refine blk_alloc ?_ _))) Tryd.underlying28 rfl (by kernel_rfl)) rfl ?_
  exact ⟨rfl, by go_grown⟩
set_option maxHeartbeats 2000000 in
set_option maxRecDepth 100000 in
theorem do_same_false (ka na kb nb : Int) (sa sb : ByteArray) (a2 a3 a5 a6 a7 a8 a9 b2 b3 b5 b6 b7 b8 b9 : Value) (w : World) (hG : GW w) (hk : ka = 1) (hk' : kb = 1) (hn : ¬ (na = nb)) :
    Calls Tryd.prog 10 #[.int .i64 7, av ka na sa a2 a3 a5 a6 a7 a8 a9, av kb nb sb b2 b3 b5 b6 b7 b8 b9] w fun e w' => e = .returned (.tuple #[vv 2 0 (⟨#[]⟩ : ByteArray), .int .i64 0]) ∧ Below w.heap.size w w' := by
  have hsz : 0 < w.heap.size := hG.1
  have hc : w.cell? ⟨0, 7, none⟩ = some (.int .i64 1) := hG.2 7 (by decide)
  subst hk; subst hk'
  have h0 : decide (na = nb) = false := decide_eq_false hn
  have h1 : (na == nb) = false := by simpa using hn
  go_enter Tryd.func10, Tryd.ntmps10
  go_wp2
  (try simp only [Exit.inBlock, Exit.then]); refine bodyPost_ret (results_ct rfl _ _ _ 28 _ (0, 0) _ rfl (by (repeat (first | (refine new_at ?_; first | (with_reducible rfl) | (simp only [World.size_alloc]; done)) | refine blk_alloc ?_ _))) Tryd.underlying28 rfl (by kernel_rfl)) rfl ?_
  exact ⟨rfl, by go_grown⟩
set_option maxHeartbeats 2000000 in
set_option maxRecDepth 100000 in
theorem do_low (op : Int) (ka na kb nb : Int) (sa sb : ByteArray) (a2 a3 a5 a6 a7 a8 a9 b2 b3 b5 b6 b7 b8 b9 : Value) (w : World) (hG : GW w) (h0 : op < 0) :
    Calls Tryd.prog 10 #[.int .i64 op, av ka na sa a2 a3 a5 a6 a7 a8 a9, av kb nb sb b2 b3 b5 b6 b7 b8 b9] w fun e w' => e = .returned (.tuple #[vv 0 0 (⟨#[]⟩ : ByteArray), .int .i64 1]) ∧ Below w.heap.size w w' := by
  have hsz : 0 < w.heap.size := hG.1
  have c0 : decide (op < 0) = true := decide_eq_true h0
  clear h0
  go_enter Tryd.func10, Tryd.ntmps10
  go_wp2
  (try simp only [Exit.inBlock, Exit.then]); refine bodyPost_ret (results_ct rfl _ _ _ 28 _ (0, 0) _ rfl (by (repeat (first | (refine new_at ?_; first | (with_reducible rfl) | (simp only [World.size_alloc]; done)) | refine blk_alloc ?_ _))) Tryd.underlying28 rfl (by kernel_rfl)) rfl ?_
  exact ⟨rfl, by go_grown⟩
set_option maxHeartbeats 2000000 in
set_option maxRecDepth 100000 in
theorem do_high (op : Int) (ka na kb nb : Int) (sa sb : ByteArray) (a2 a3 a5 a6 a7 a8 a9 b2 b3 b5 b6 b7 b8 b9 : Value) (w : World) (hG : GW w) (h8 : 8 ≤ op) :
    Calls Tryd.prog 10 #[.int .i64 op, av ka na sa a2 a3 a5 a6 a7 a8 a9, av kb nb sb b2 b3 b5 b6 b7 b8 b9] w fun e w' => e = .returned (.tuple #[vv 0 0 (⟨#[]⟩ : ByteArray), .int .i64 1]) ∧ Below w.heap.size w w' := by
  have hsz : 0 < w.heap.size := hG.1
  have c0 : decide (op < 0) = false := decide_eq_false (by omega)
  have c1 : decide (8 ≤ op) = true := decide_eq_true h8
  clear h8
  go_enter Tryd.func10, Tryd.ntmps10
  go_wp2
  (try simp only [Exit.inBlock, Exit.then]); refine bodyPost_ret (results_ct rfl _ _ _ 28 _ (0, 0) _ rfl (by (repeat (first | (refine new_at ?_; first | (with_reducible rfl) | (simp only [World.size_alloc]; done)) | refine blk_alloc ?_ _))) Tryd.underlying28 rfl (by kernel_rfl)) rfl ?_
  exact ⟨rfl, by go_grown⟩
set_option maxHeartbeats 2000000 in
set_option maxRecDepth 100000 in
theorem do_none (ka na kb nb : Int) (sa sb : ByteArray) (a2 a3 a5 a6 a7 a8 a9 b2 b3 b5 b6 b7 b8 b9 : Value) (w : World) (hG : GW w)  :
    Calls Tryd.prog 10 #[.int .i64 0, av ka na sa a2 a3 a5 a6 a7 a8 a9, av kb nb sb b2 b3 b5 b6 b7 b8 b9] w fun e w' => e = .returned (.tuple #[vv 0 0 (⟨#[]⟩ : ByteArray), .int .i64 1]) ∧ Below w.heap.size w w' := by
  have hsz : 0 < w.heap.size := hG.1
  have hc : w.cell? ⟨0, 0, none⟩ = some (.int .i64 0) := hG.2 0 (by decide)
  go_enter Tryd.func10, Tryd.ntmps10
  go_wp2
  (try simp only [Exit.inBlock, Exit.then]); refine bodyPost_ret (results_ct rfl _ _ _ 28 _ (0, 0) _ rfl (by (repeat (first | (refine new_at ?_; first | (with_reducible rfl) | (simp only [World.size_alloc]; done)) | refine blk_alloc ?_ _))) Tryd.underlying28 rfl (by kernel_rfl)) rfl ?_
  exact ⟨rfl, by go_grown⟩
set_option maxHeartbeats 2000000 in
set_option maxRecDepth 100000 in
theorem do_ta (n : Nat) (t : Int) (ka na kb nb : Int) (sa sb : ByteArray) (a2 a3 a5 a6 a7 a8 a9 b2 b3 b5 b6 b7 b8 b9 : Value) (w : World) (hG : GW w) (hn : n < 8) (ht : takesTab n = t) (h0 : t ≠ 0) (hk : ka ≠ t) :
    Calls Tryd.prog 10 #[.int .i64 n, av ka na sa a2 a3 a5 a6 a7 a8 a9, av kb nb sb b2 b3 b5 b6 b7 b8 b9] w fun e w' => e = .returned (.tuple #[vv 0 0 (⟨#[]⟩ : ByteArray), .int .i64 13]) ∧ Below w.heap.size w w' := by
  have hsz : 0 < w.heap.size := hG.1
  have hc : w.cell? ⟨0, n, none⟩ = some (.int .i64 t) := hG.2 n (by omega) |>.trans (by rw [ht])
  have c0 : decide ((n : Int) < 0) = false := decide_eq_false (by omega)
  have c1 : decide (8 ≤ (n : Int)) = false := decide_eq_false (by omega)
  have c2 : decide (8 ≤ n) = false := decide_eq_false (by omega)
  have c3 : decide ((n : Int) < 8) = true := decide_eq_true (by omega)
  have c4 : decide (n < 8) = true := decide_eq_true hn
  have c5 : (t == 0) = false := by simpa using h0
  have c6 : decide (t = 0) = false := by simpa using h0
  have c7 : (ka == t) = false := by simpa using hk
  have c8 : decide (ka = t) = false := by simpa using hk
  clear ht h0 hk
  go_enter Tryd.func10, Tryd.ntmps10
  go_wp2
  (try simp only [Exit.inBlock, Exit.then]); refine bodyPost_ret (results_ct rfl _ _ _ 28 _ (0, 0) _ rfl (by (repeat (first | (refine new_at ?_; first | (with_reducible rfl) | (simp only [World.size_alloc]; done)) | refine blk_alloc ?_ _))) Tryd.underlying28 rfl (by kernel_rfl)) rfl ?_
  exact ⟨rfl, by go_grown⟩
set_option maxHeartbeats 2000000 in
set_option maxRecDepth 100000 in
theorem do_tb (n : Nat) (t : Int) (ka na kb nb : Int) (sa sb : ByteArray) (a2 a3 a5 a6 a7 a8 a9 b2 b3 b5 b6 b7 b8 b9 : Value) (w : World) (hG : GW w) (hn : n < 8) (ht : takesTab n = t) (h0 : t ≠ 0) (hk : ka = t) (hk' : kb ≠ t) :
    Calls Tryd.prog 10 #[.int .i64 n, av ka na sa a2 a3 a5 a6 a7 a8 a9, av kb nb sb b2 b3 b5 b6 b7 b8 b9] w fun e w' => e = .returned (.tuple #[vv 0 0 (⟨#[]⟩ : ByteArray), .int .i64 13]) ∧ Below w.heap.size w w' := by
  have hsz : 0 < w.heap.size := hG.1
  have hc : w.cell? ⟨0, n, none⟩ = some (.int .i64 t) := hG.2 n (by omega) |>.trans (by rw [ht])
  have c0 : decide ((n : Int) < 0) = false := decide_eq_false (by omega)
  have c1 : decide (8 ≤ (n : Int)) = false := decide_eq_false (by omega)
  have c2 : decide (8 ≤ n) = false := decide_eq_false (by omega)
  have c3 : decide ((n : Int) < 8) = true := decide_eq_true (by omega)
  have c4 : decide (n < 8) = true := decide_eq_true hn
  have c5 : (t == 0) = false := by simpa using h0
  have c6 : decide (t = 0) = false := by simpa using h0
  subst hk
  have c7 : (kb == ka) = false := by simpa using hk'
  have c8 : decide (kb = ka) = false := by simpa using hk'
  clear ht h0 hk'
  go_enter Tryd.func10, Tryd.ntmps10
  go_wp2
  (try simp only [Exit.inBlock, Exit.then]); refine bodyPost_ret (results_ct rfl _ _ _ 28 _ (0, 0) _ rfl (by (repeat (first | (refine new_at ?_; first | (with_reducible rfl) | (simp only [World.size_alloc]; done)) | refine blk_alloc ?_ _))) Tryd.underlying28 rfl (by kernel_rfl)) rfl ?_
  exact ⟨rfl, by go_grown⟩
end Go.Proofs.YtophddbbeechkaaDoor.W1
