/-
  prim: what limbeckref32's Takes, Int, Bool, Str and Do answer. No conditions but the texts' lengths.
-/
import Derived.Test.YtophddbbeechkaaDoorW1
namespace Go.Proofs.YtophddbbeechkaaDoor.W2
open Go.RowKit Go.Proofs.YtophddbbeechkaaDoorW.PrintWords Go.Proofs.YtophddbbeechkaaDoorW.PrintLast Go.Proofs.YtophddbbeechkaaDoorW.PrintMore Go.Proofs.YtophddbbeechkaaDoorW.Mine Go.Proofs.YtophddbbeechkaaDoor.W1
attribute [local go_sem] max2_int min2_int
set_option linter.unusedVariables false
set_option linter.unusedSimpArgs false
theorem w64_congr {x y : Int} (h : x % 18446744073709551616 = y % 18446744073709551616) : wrap64 x = wrap64 y := by
  unfold wrap64
  omega
theorem radd (a b : Int) : wrap64 (IntKind.u64.wrap (IntKind.u64.wrap a + IntKind.u64.wrap b)) = wrap64 (a + b) := by
  apply w64_congr
  simp only [IntKind.wrap_u64]
  omega
theorem rsub (a b : Int) : wrap64 (IntKind.u64.wrap (IntKind.u64.wrap a - IntKind.u64.wrap b)) = wrap64 (a - b) := by
  apply w64_congr
  simp only [IntKind.wrap_u64]
  omega
theorem rmul (a b : Int) : wrap64 (IntKind.u64.wrap (IntKind.u64.wrap a * IntKind.u64.wrap b)) = wrap64 (a * b) := by
  apply w64_congr
  simp only [IntKind.wrap_u64]
  rw [Int.emod_emod_of_dvd _ (Int.dvd_refl _), ← Int.mul_emod]
theorem rneg (a : Int) : wrap64 (IntKind.u64.wrap (-IntKind.u64.wrap a)) = wrap64 (a.tdiv (-1)) := by
  rw [Int.tdiv_neg, Int.tdiv_one]
  apply w64_congr
  simp only [IntKind.wrap_u64]
  omega
set_option maxHeartbeats 2000000 in
set_option maxRecDepth 100000 in
theorem rtakes_in (n : Int) (h1 : 1 ≤ n) (h7 : n ≤ 7) (h5 : n ≠ 5) (w : World) : Calls Tryd.prog 14 #[.int .i64 n] w fun e w' => e = .returned (.int .i64 1) ∧ Below w.heap.size w w' := by
  have c0 : decide (n < 1) = false := decide_eq_false (by omega)
  have c1 : decide (7 < n) = false := decide_eq_false (by omega)
  have c2 : (n == 5) = false := by simpa using h5
  go_enter Tryd.func14, Tryd.ntmps14
  go_wp2
  go_returns
  exact ⟨rfl, by go_grown⟩
set_option maxHeartbeats 2000000 in
set_option maxRecDepth 100000 in
theorem rtakes_5  (w : World) : Calls Tryd.prog 14 #[.int .i64 5] w fun e w' => e = .returned (.int .i64 3) ∧ Below w.heap.size w w' := by
  go_enter Tryd.func14, Tryd.ntmps14
  go_wp2
  go_returns
  exact ⟨rfl, by go_grown⟩
set_option maxHeartbeats 2000000 in
set_option maxRecDepth 100000 in
theorem rtakes_lo (n : Int) (h1 : n < 1) (w : World) : Calls Tryd.prog 14 #[.int .i64 n] w fun e w' => e = .returned (.int .i64 0) ∧ Below w.heap.size w w' := by
  have c0 : decide (n < 1) = true := decide_eq_true (by omega)
  go_enter Tryd.func14, Tryd.ntmps14
  go_wp2
  go_returns
  exact ⟨rfl, by go_grown⟩
set_option maxHeartbeats 2000000 in
set_option maxRecDepth 100000 in
theorem rtakes_hi (n : Int) (h1 : 7 < n) (w : World) : Calls Tryd.prog 14 #[.int .i64 n] w fun e w' => e = .returned (.int .i64 0) ∧ Below w.heap.size w w' := by
  have c0 : decide (n < 1) = false := decide_eq_false (by omega)
  have c1 : decide (7 < n) = true := decide_eq_true (by omega)
  go_enter Tryd.func14, Tryd.ntmps14
  go_wp2
  go_returns
  exact ⟨rfl, by go_grown⟩
set_option maxHeartbeats 2000000 in
set_option maxRecDepth 100000 in
theorem rint_c (n : Int) (w : World) : Calls Tryd.prog 16 #[.int .i64 n] w fun e w' => e = .returned (vv 1 n (⟨#[]⟩ : ByteArray)) ∧ Below w.heap.size w w' := by
  go_enter Tryd.func16, Tryd.ntmps16
  go_wp2
  (try simp only [Exit.inBlock, Exit.then]); refine bodyPost_ret (results_cell_row rfl _ _ _ 28 _ (0, 0) _ rfl (by (repeat (first | (refine new_at ?_; first | (with_reducible rfl) | (simp only [World.size_alloc]; done)) | refine blk_alloc ?_ _))) Tryd.underlying28 rfl (by kernel_rfl)) rfl ?_
  exact ⟨rfl, by go_grown⟩
set_option maxHeartbeats 2000000 in
set_option maxRecDepth 100000 in
theorem rbool_t  (w : World) : Calls Tryd.prog 18 #[.bool true] w fun e w' => e = .returned (vv 2 1 (⟨#[]⟩ : ByteArray)) ∧ Below w.heap.size w w' := by
  go_enter Tryd.func18, Tryd.ntmps18
  go_wp2
  (try simp only [Exit.inBlock, Exit.then]); refine bodyPost_ret (results_cell_row rfl _ _ _ 28 _ (0, 0) _ rfl (by (repeat (first | (refine new_at ?_; first | (with_reducible rfl) | (simp only [World.size_alloc]; done)) | refine blk_alloc ?_ _))) Tryd.underlying28 rfl (by kernel_rfl)) rfl ?_
  exact ⟨rfl, by go_grown⟩
set_option maxHeartbeats 2000000 in
set_option maxRecDepth 100000 in
theorem rbool_f  (w : World) : Calls Tryd.prog 18 #[.bool false] w fun e w' => e = .returned (vv 2 0 (⟨#[]⟩ : ByteArray)) ∧ Below w.heap.size w w' := by
  go_enter Tryd.func18, Tryd.ntmps18
  go_wp2
  (try simp only [Exit.inBlock, Exit.then]); refine bodyPost_ret (results_cell_row rfl _ _ _ 28 _ (0, 0) _ rfl (by (repeat (first | (refine new_at ?_; first | (with_reducible rfl) | (simp only [World.size_alloc]; done)) | refine blk_alloc ?_ _))) Tryd.underlying28 rfl (by kernel_rfl)) rfl ?_
  exact ⟨rfl, by go_grown⟩
set_option maxHeartbeats 2000000 in
set_option maxRecDepth 100000 in
theorem rstr_l (s : ByteArray) (h : 256 < (s.size : Int)) (w : World) : Calls Tryd.prog 20 #[.string s] w fun e w' => e = .returned (vv 3 0 (s.extract 0 256)) ∧ Below w.heap.size w w' := by
  have c0 : decide (256 < (s.size : Int)) = true := decide_eq_true h
  go_enter Tryd.func20, Tryd.ntmps20
  go_wp2
  (try simp only [Exit.inBlock, Exit.then]); refine bodyPost_ret (results_cell_row rfl _ _ _ 28 _ (0, 0) _ rfl (by (repeat (first | (refine new_at ?_; first | (with_reducible rfl) | (simp only [World.size_alloc]; done)) | refine blk_alloc ?_ _))) Tryd.underlying28 rfl (by kernel_rfl)) rfl ?_
  exact ⟨rfl, by go_grown⟩
set_option maxHeartbeats 2000000 in
set_option maxRecDepth 100000 in
theorem rstr_s (s : ByteArray) (h : (s.size : Int) ≤ 256) (w : World) : Calls Tryd.prog 20 #[.string s] w fun e w' => e = .returned (vv 3 0 s) ∧ Below w.heap.size w w' := by
  have c0 : decide (256 < (s.size : Int)) = false := decide_eq_false (by omega)
  go_enter Tryd.func20, Tryd.ntmps20
  go_wp2
  (try simp only [Exit.inBlock, Exit.then]); refine bodyPost_ret (results_cell_row rfl _ _ _ 28 _ (0, 0) _ rfl (by (repeat (first | (refine new_at ?_; first | (with_reducible rfl) | (simp only [World.size_alloc]; done)) | refine blk_alloc ?_ _))) Tryd.underlying28 rfl (by kernel_rfl)) rfl ?_
  exact ⟨rfl, by go_grown⟩
set_option maxHeartbeats 2000000 in
set_option maxRecDepth 100000 in
theorem rdo_add (ka na kb nb : Int) (sa sb : ByteArray) (a2 a3 a5 a6 a7 a8 a9 b2 b3 b5 b6 b7 b8 b9 : Value) (hk : ka = 1) (hk' : kb = 1) (w : World) : Calls Tryd.prog 11 #[.int .i64 1, av ka na sa a2 a3 a5 a6 a7 a8 a9, av kb nb sb b2 b3 b5 b6 b7 b8 b9] w fun e w' => e = .returned (.tuple #[vv 1 (wrap64 (na + nb)) (⟨#[]⟩ : ByteArray), .int .i64 0]) ∧ Below w.heap.size w w' := by
  subst hk; subst hk'
  go_enter Tryd.func11, Tryd.ntmps11
  go_wp2
  (try simp only [Exit.inBlock, Exit.then]); refine bodyPost_ret (results_ct rfl _ _ _ 28 _ (0, 0) _ rfl (by (repeat (first | (refine new_at ?_; first | (with_reducible rfl) | (simp only [World.size_alloc]; done)) | refine blk_alloc ?_ _))) Tryd.underlying28 rfl (by kernel_rfl)) rfl ?_
  exact ⟨by rw [← radd]; rfl, by go_grown⟩
set_option maxHeartbeats 2000000 in
set_option maxRecDepth 100000 in
theorem rdo_sub (ka na kb nb : Int) (sa sb : ByteArray) (a2 a3 a5 a6 a7 a8 a9 b2 b3 b5 b6 b7 b8 b9 : Value) (hk : ka = 1) (hk' : kb = 1) (w : World) : Calls Tryd.prog 11 #[.int .i64 2, av ka na sa a2 a3 a5 a6 a7 a8 a9, av kb nb sb b2 b3 b5 b6 b7 b8 b9] w fun e w' => e = .returned (.tuple #[vv 1 (wrap64 (na - nb)) (⟨#[]⟩ : ByteArray), .int .i64 0]) ∧ Below w.heap.size w w' := by
  subst hk; subst hk'
  go_enter Tryd.func11, Tryd.ntmps11
  go_wp2
  (try simp only [Exit.inBlock, Exit.then]); refine bodyPost_ret (results_ct rfl _ _ _ 28 _ (0, 0) _ rfl (by (repeat (first | (refine new_at ?_; first | (with_reducible rfl) | (simp only [World.size_alloc]; done)) | refine blk_alloc ?_ _))) Tryd.underlying28 rfl (by kernel_rfl)) rfl ?_
  exact ⟨by rw [← rsub]; rfl, by go_grown⟩
set_option maxHeartbeats 2000000 in
set_option maxRecDepth 100000 in
theorem rdo_mul (ka na kb nb : Int) (sa sb : ByteArray) (a2 a3 a5 a6 a7 a8 a9 b2 b3 b5 b6 b7 b8 b9 : Value) (hk : ka = 1) (hk' : kb = 1) (w : World) : Calls Tryd.prog 11 #[.int .i64 3, av ka na sa a2 a3 a5 a6 a7 a8 a9, av kb nb sb b2 b3 b5 b6 b7 b8 b9] w fun e w' => e = .returned (.tuple #[vv 1 (wrap64 (na * nb)) (⟨#[]⟩ : ByteArray), .int .i64 0]) ∧ Below w.heap.size w w' := by
  subst hk; subst hk'
  go_enter Tryd.func11, Tryd.ntmps11
  go_wp2
  (try simp only [Exit.inBlock, Exit.then]); refine bodyPost_ret (results_ct rfl _ _ _ 28 _ (0, 0) _ rfl (by (repeat (first | (refine new_at ?_; first | (with_reducible rfl) | (simp only [World.size_alloc]; done)) | refine blk_alloc ?_ _))) Tryd.underlying28 rfl (by kernel_rfl)) rfl ?_
  exact ⟨by rw [← rmul]; rfl, by go_grown⟩
set_option maxHeartbeats 2000000 in
set_option maxRecDepth 100000 in
theorem rdo_zero (ka na kb nb : Int) (sa sb : ByteArray) (a2 a3 a5 a6 a7 a8 a9 b2 b3 b5 b6 b7 b8 b9 : Value) (hk : ka = 1) (hk' : kb = 1) (hz : nb = 0) (w : World) : Calls Tryd.prog 11 #[.int .i64 4, av ka na sa a2 a3 a5 a6 a7 a8 a9, av kb nb sb b2 b3 b5 b6 b7 b8 b9] w fun e w' => e = .returned (.tuple #[vv 0 0 (⟨#[]⟩ : ByteArray), .int .i64 22]) ∧ Below w.heap.size w w' := by
  subst hk; subst hk'
  subst hz
  go_enter Tryd.func11, Tryd.ntmps11
  go_wp2
  (try simp only [Exit.inBlock, Exit.then]); refine bodyPost_ret (results_ct rfl _ _ _ 28 _ (0, 0) _ rfl (by (repeat (first | (refine new_at ?_; first | (with_reducible rfl) | (simp only [World.size_alloc]; done)) | refine blk_alloc ?_ _))) Tryd.underlying28 rfl (by kernel_rfl)) rfl ?_
  exact ⟨rfl, by go_grown⟩
set_option maxHeartbeats 2000000 in
set_option maxRecDepth 100000 in
theorem rdo_neg (ka na kb nb : Int) (sa sb : ByteArray) (a2 a3 a5 a6 a7 a8 a9 b2 b3 b5 b6 b7 b8 b9 : Value) (hk : ka = 1) (hk' : kb = 1) (hz : nb = -1) (w : World) : Calls Tryd.prog 11 #[.int .i64 4, av ka na sa a2 a3 a5 a6 a7 a8 a9, av kb nb sb b2 b3 b5 b6 b7 b8 b9] w fun e w' => e = .returned (.tuple #[vv 1 (wrap64 (na.tdiv nb)) (⟨#[]⟩ : ByteArray), .int .i64 0]) ∧ Below w.heap.size w w' := by
  subst hk; subst hk'
  subst hz
  go_enter Tryd.func11, Tryd.ntmps11
  go_wp2
  (try simp only [Exit.inBlock, Exit.then]); refine bodyPost_ret (results_ct rfl _ _ _ 28 _ (0, 0) _ rfl (by (repeat (first | (refine new_at ?_; first | (with_reducible rfl) | (simp only [World.size_alloc]; done)) | refine blk_alloc ?_ _))) Tryd.underlying28 rfl (by kernel_rfl)) rfl ?_
  exact ⟨by rw [← rneg]; rfl, by go_grown⟩
set_option maxHeartbeats 2000000 in
set_option maxRecDepth 100000 in
theorem rdo_div (ka na kb nb : Int) (sa sb : ByteArray) (a2 a3 a5 a6 a7 a8 a9 b2 b3 b5 b6 b7 b8 b9 : Value) (hk : ka = 1) (hk' : kb = 1) (hz : nb ≠ 0) (hn : nb ≠ -1) (w : World) : Calls Tryd.prog 11 #[.int .i64 4, av ka na sa a2 a3 a5 a6 a7 a8 a9, av kb nb sb b2 b3 b5 b6 b7 b8 b9] w fun e w' => e = .returned (.tuple #[vv 1 (wrap64 (na.tdiv nb)) (⟨#[]⟩ : ByteArray), .int .i64 0]) ∧ Below w.heap.size w w' := by
  subst hk; subst hk'
  have h0 : decide (nb = 0) = false := decide_eq_false hz
  have h1 : decide (nb = -1) = false := decide_eq_false hn
  have h2 : (nb == -1) = false := by simpa using hn
  go_enter Tryd.func11, Tryd.ntmps11
  go_wp2
  (try simp only [Exit.inBlock, Exit.then]); refine bodyPost_ret (results_ct rfl _ _ _ 28 _ (0, 0) _ rfl (by (repeat (first | (refine new_at ?_; first | (with_reducible rfl) | (simp only [World.size_alloc]; done)) | refine blk_alloc ?_ _))) Tryd.underlying28 rfl (by kernel_rfl)) rfl ?_
  exact ⟨rfl, by go_grown⟩
set_option maxHeartbeats 2000000 in
set_option maxRecDepth 100000 in
theorem rdo_cat (ka na kb nb : Int) (sa sb : ByteArray) (a2 a3 a5 a6 a7 a8 a9 b2 b3 b5 b6 b7 b8 b9 : Value) (hk : ka = 3) (hk' : kb = 3) (hs : sa.size + sb.size ≤ 256) (w : World) : Calls Tryd.prog 11 #[.int .i64 5, av ka na sa a2 a3 a5 a6 a7 a8 a9, av kb nb sb b2 b3 b5 b6 b7 b8 b9] w fun e w' => e = .returned (.tuple #[vv 3 0 (sa ++ sb), .int .i64 0]) ∧ Below w.heap.size w w' := by
  subst hk; subst hk'
  have hs' : ((sa ++ sb).size : Int) ≤ 256 := by rw [ByteArray.size_append]; omega
  go_enter Tryd.func11, Tryd.ntmps11
  go_wp2
  (try simp only [Exit.inBlock, Exit.then]); refine bodyPost_ret (results_ct rfl _ _ _ 28 _ (0, 0) _ rfl (by (repeat (first | (refine new_at ?_; first | (with_reducible rfl) | (simp only [World.size_alloc]; done)) | refine blk_alloc ?_ _))) Tryd.underlying28 rfl (by kernel_rfl)) rfl ?_
  exact ⟨rfl, by go_grown⟩
set_option maxHeartbeats 2000000 in
set_option maxRecDepth 100000 in
theorem rdo_cut (ka na kb nb : Int) (sa sb : ByteArray) (a2 a3 a5 a6 a7 a8 a9 b2 b3 b5 b6 b7 b8 b9 : Value) (hk : ka = 3) (hk' : kb = 3) (hs : 256 < sa.size + sb.size) (hm : sa.size + sb.size ≤ 9223372036854775807) (w : World) : Calls Tryd.prog 11 #[.int .i64 5, av ka na sa a2 a3 a5 a6 a7 a8 a9, av kb nb sb b2 b3 b5 b6 b7 b8 b9] w fun e w' => e = .returned (.tuple #[vv 3 0 ((sa ++ sb).extract 0 256), .int .i64 0]) ∧ Below w.heap.size w w' := by
  subst hk; subst hk'
  have hs' : 256 < ((sa ++ sb).size : Int) := by rw [ByteArray.size_append]; omega
  go_enter Tryd.func11, Tryd.ntmps11
  go_wp2
  (try simp only [Exit.inBlock, Exit.then]); refine bodyPost_ret (results_ct rfl _ _ _ 28 _ (0, 0) _ rfl (by (repeat (first | (refine new_at ?_; first | (with_reducible rfl) | (simp only [World.size_alloc]; done)) | refine blk_alloc ?_ _))) Tryd.underlying28 rfl (by kernel_rfl)) rfl ?_
  exact ⟨rfl, by go_grown⟩
set_option maxHeartbeats 2000000 in
set_option maxRecDepth 100000 in
theorem rdo_less_true (ka na kb nb : Int) (sa sb : ByteArray) (a2 a3 a5 a6 a7 a8 a9 b2 b3 b5 b6 b7 b8 b9 : Value) (hk : ka = 1) (hk' : kb = 1) (hn : na < nb) (w : World) : Calls Tryd.prog 11 #[.int .i64 6, av ka na sa a2 a3 a5 a6 a7 a8 a9, av kb nb sb b2 b3 b5 b6 b7 b8 b9] w fun e w' => e = .returned (.tuple #[vv 2 1 (⟨#[]⟩ : ByteArray), .int .i64 0]) ∧ Below w.heap.size w w' := by
  subst hk; subst hk'
  have h0 : decide (na < nb) = true := decide_eq_true hn
  go_enter Tryd.func11, Tryd.ntmps11
  go_wp2
  (try simp only [Exit.inBlock, Exit.then]); refine bodyPost_ret (results_ct rfl _ _ _ 28 _ (0, 0) _ rfl (by (repeat (first | (refine new_at ?_; first | (with_reducible rfl) | (simp only [World.size_alloc]; done)) | refine blk_alloc ?_ _))) Tryd.underlying28 rfl (by kernel_rfl)) rfl ?_
  exact ⟨rfl, by go_grown⟩
set_option maxHeartbeats 2000000 in
set_option maxRecDepth 100000 in
theorem rdo_less_false (ka na kb nb : Int) (sa sb : ByteArray) (a2 a3 a5 a6 a7 a8 a9 b2 b3 b5 b6 b7 b8 b9 : Value) (hk : ka = 1) (hk' : kb = 1) (hn : ¬ (na < nb)) (w : World) : Calls Tryd.prog 11 #[.int .i64 6, av ka na sa a2 a3 a5 a6 a7 a8 a9, av kb nb sb b2 b3 b5 b6 b7 b8 b9] w fun e w' => e = .returned (.tuple #[vv 2 0 (⟨#[]⟩ : ByteArray), .int .i64 0]) ∧ Below w.heap.size w w' := by
  subst hk; subst hk'
  have h0 : decide (na < nb) = false := decide_eq_false hn
  go_enter Tryd.func11, Tryd.ntmps11
  go_wp2
  (try simp only [Exit.inBlock, Exit.then]); refine bodyPost_ret (results_ct rfl _ _ _ 28 _ (0, 0) _ rfl (by (repeat (first | (refine new_at ?_; first | (with_reducible rfl) | (simp only [World.size_alloc]; done)) | refine blk_alloc ?_ _))) Tryd.underlying28 rfl (by kernel_rfl)) rfl ?_
  exact ⟨rfl, by go_grown⟩
set_option maxHeartbeats 2000000 in
set_option maxRecDepth 100000 in
theorem rdo_same_true (ka na kb nb : Int) (sa sb : ByteArray) (a2 a3 a5 a6 a7 a8 a9 b2 b3 b5 b6 b7 b8 b9 : Value) (hk : ka = 1) (hk' : kb = 1) (hn : na = nb) (w : World) : Calls Tryd.prog 11 #[.int .i64 7, av ka na sa a2 a3 a5 a6 a7 a8 a9, av kb nb sb b2 b3 b5 b6 b7 b8 b9] w fun e w' => e = .returned (.tuple #[vv 2 1 (⟨#[]⟩ : ByteArray), .int .i64 0]) ∧ Below w.heap.size w w' := by
  subst hk; subst hk'
  have h0 : decide (na = nb) = true := decide_eq_true hn
  have h1 : (na == nb) = true := by simpa using hn
  go_enter Tryd.func11, Tryd.ntmps11
  go_wp2
  (try simp only [Exit.inBlock, Exit.then]); refine bodyPost_ret (results_ct rfl _ _ _ 28 _ (0, 0) _ rfl (by (repeat (first | (refine new_at ?_; first | (with_reducible rfl) | (simp only [World.size_alloc]; done)) | refine blk_alloc ?_ _))) Tryd.underlying28 rfl (by kernel_rfl)) rfl ?_
  exact ⟨rfl, by go_grown⟩
set_option maxHeartbeats 2000000 in
set_option maxRecDepth 100000 in
theorem rdo_same_false (ka na kb nb : Int) (sa sb : ByteArray) (a2 a3 a5 a6 a7 a8 a9 b2 b3 b5 b6 b7 b8 b9 : Value) (hk : ka = 1) (hk' : kb = 1) (hn : ¬ (na = nb)) (w : World) : Calls Tryd.prog 11 #[.int .i64 7, av ka na sa a2 a3 a5 a6 a7 a8 a9, av kb nb sb b2 b3 b5 b6 b7 b8 b9] w fun e w' => e = .returned (.tuple #[vv 2 0 (⟨#[]⟩ : ByteArray), .int .i64 0]) ∧ Below w.heap.size w w' := by
  subst hk; subst hk'
  have h0 : decide (na = nb) = false := decide_eq_false hn
  have h1 : (na == nb) = false := by simpa using hn
  go_enter Tryd.func11, Tryd.ntmps11
  go_wp2
  (try simp only [Exit.inBlock, Exit.then]); refine bodyPost_ret (results_ct rfl _ _ _ 28 _ (0, 0) _ rfl (by (repeat (first | (refine new_at ?_; first | (with_reducible rfl) | (simp only [World.size_alloc]; done)) | refine blk_alloc ?_ _))) Tryd.underlying28 rfl (by kernel_rfl)) rfl ?_
  exact ⟨rfl, by go_grown⟩
set_option maxHeartbeats 2000000 in
set_option maxRecDepth 100000 in
theorem rdo_low (op : Int) (ka na kb nb : Int) (sa sb : ByteArray) (a2 a3 a5 a6 a7 a8 a9 b2 b3 b5 b6 b7 b8 b9 : Value) (h0 : op < 1) (w : World) : Calls Tryd.prog 11 #[.int .i64 op, av ka na sa a2 a3 a5 a6 a7 a8 a9, av kb nb sb b2 b3 b5 b6 b7 b8 b9] w fun e w' => e = .returned (.tuple #[vv 0 0 (⟨#[]⟩ : ByteArray), .int .i64 1]) ∧ Below w.heap.size w w' := by
  have c0 : decide (op < 1) = true := decide_eq_true h0
  go_enter Tryd.func11, Tryd.ntmps11
  go_wp2
  (try simp only [Exit.inBlock, Exit.then]); refine bodyPost_ret (results_ct rfl _ _ _ 28 _ (0, 0) _ rfl (by (repeat (first | (refine new_at ?_; first | (with_reducible rfl) | (simp only [World.size_alloc]; done)) | refine blk_alloc ?_ _))) Tryd.underlying28 rfl (by kernel_rfl)) rfl ?_
  exact ⟨rfl, by go_grown⟩
set_option maxHeartbeats 2000000 in
set_option maxRecDepth 100000 in
theorem rdo_high (op : Int) (ka na kb nb : Int) (sa sb : ByteArray) (a2 a3 a5 a6 a7 a8 a9 b2 b3 b5 b6 b7 b8 b9 : Value) (h8 : 7 < op) (w : World) : Calls Tryd.prog 11 #[.int .i64 op, av ka na sa a2 a3 a5 a6 a7 a8 a9, av kb nb sb b2 b3 b5 b6 b7 b8 b9] w fun e w' => e = .returned (.tuple #[vv 0 0 (⟨#[]⟩ : ByteArray), .int .i64 1]) ∧ Below w.heap.size w w' := by
  have c0 : decide (op < 1) = false := decide_eq_false (by omega)
  have c1 : decide (7 < op) = true := decide_eq_true h8
  go_enter Tryd.func11, Tryd.ntmps11
  go_wp2
  (try simp only [Exit.inBlock, Exit.then]); refine bodyPost_ret (results_ct rfl _ _ _ 28 _ (0, 0) _ rfl (by (repeat (first | (refine new_at ?_; first | (with_reducible rfl) | (simp only [World.size_alloc]; done)) | refine blk_alloc ?_ _))) Tryd.underlying28 rfl (by kernel_rfl)) rfl ?_
  exact ⟨rfl, by go_grown⟩
set_option maxHeartbeats 2000000 in
set_option maxRecDepth 100000 in
theorem rdo_ta (n : Int) (ka na kb nb : Int) (sa sb : ByteArray) (a2 a3 a5 a6 a7 a8 a9 b2 b3 b5 b6 b7 b8 b9 : Value) (h1 : 1 ≤ n) (h7 : n ≤ 7) (h5 : n ≠ 5) (hk : ka ≠ 1) (w : World) : Calls Tryd.prog 11 #[.int .i64 n, av ka na sa a2 a3 a5 a6 a7 a8 a9, av kb nb sb b2 b3 b5 b6 b7 b8 b9] w fun e w' => e = .returned (.tuple #[vv 0 0 (⟨#[]⟩ : ByteArray), .int .i64 13]) ∧ Below w.heap.size w w' := by
  have c0 : decide (n < 1) = false := decide_eq_false (by omega)
  have c1 : decide (7 < n) = false := decide_eq_false (by omega)
  have c2 : (n == 5) = false := by simpa using h5
  have c7 : (ka == 1) = false := by simpa using hk
  go_enter Tryd.func11, Tryd.ntmps11
  go_wp2
  (try simp only [Exit.inBlock, Exit.then]); refine bodyPost_ret (results_ct rfl _ _ _ 28 _ (0, 0) _ rfl (by (repeat (first | (refine new_at ?_; first | (with_reducible rfl) | (simp only [World.size_alloc]; done)) | refine blk_alloc ?_ _))) Tryd.underlying28 rfl (by kernel_rfl)) rfl ?_
  exact ⟨rfl, by go_grown⟩
set_option maxHeartbeats 2000000 in
set_option maxRecDepth 100000 in
theorem rdo_tb (n : Int) (ka na kb nb : Int) (sa sb : ByteArray) (a2 a3 a5 a6 a7 a8 a9 b2 b3 b5 b6 b7 b8 b9 : Value) (h1 : 1 ≤ n) (h7 : n ≤ 7) (h5 : n ≠ 5) (hk : ka = 1) (hk' : kb ≠ 1) (w : World) : Calls Tryd.prog 11 #[.int .i64 n, av ka na sa a2 a3 a5 a6 a7 a8 a9, av kb nb sb b2 b3 b5 b6 b7 b8 b9] w fun e w' => e = .returned (.tuple #[vv 0 0 (⟨#[]⟩ : ByteArray), .int .i64 13]) ∧ Below w.heap.size w w' := by
  have c0 : decide (n < 1) = false := decide_eq_false (by omega)
  have c1 : decide (7 < n) = false := decide_eq_false (by omega)
  have c2 : (n == 5) = false := by simpa using h5
  subst hk
  have c7 : (kb == 1) = false := by simpa using hk'
  go_enter Tryd.func11, Tryd.ntmps11
  go_wp2
  (try simp only [Exit.inBlock, Exit.then]); refine bodyPost_ret (results_ct rfl _ _ _ 28 _ (0, 0) _ rfl (by (repeat (first | (refine new_at ?_; first | (with_reducible rfl) | (simp only [World.size_alloc]; done)) | refine blk_alloc ?_ _))) Tryd.underlying28 rfl (by kernel_rfl)) rfl ?_
  exact ⟨rfl, by go_grown⟩
set_option maxHeartbeats 2000000 in
set_option maxRecDepth 100000 in
theorem rdo_ta5 (ka na kb nb : Int) (sa sb : ByteArray) (a2 a3 a5 a6 a7 a8 a9 b2 b3 b5 b6 b7 b8 b9 : Value) (hk : ka ≠ 3) (w : World) : Calls Tryd.prog 11 #[.int .i64 5, av ka na sa a2 a3 a5 a6 a7 a8 a9, av kb nb sb b2 b3 b5 b6 b7 b8 b9] w fun e w' => e = .returned (.tuple #[vv 0 0 (⟨#[]⟩ : ByteArray), .int .i64 13]) ∧ Below w.heap.size w w' := by
  have c7 : (ka == 3) = false := by simpa using hk
  go_enter Tryd.func11, Tryd.ntmps11
  go_wp2
  (try simp only [Exit.inBlock, Exit.then]); refine bodyPost_ret (results_ct rfl _ _ _ 28 _ (0, 0) _ rfl (by (repeat (first | (refine new_at ?_; first | (with_reducible rfl) | (simp only [World.size_alloc]; done)) | refine blk_alloc ?_ _))) Tryd.underlying28 rfl (by kernel_rfl)) rfl ?_
  exact ⟨rfl, by go_grown⟩
set_option maxHeartbeats 2000000 in
set_option maxRecDepth 100000 in
theorem rdo_tb5 (ka na kb nb : Int) (sa sb : ByteArray) (a2 a3 a5 a6 a7 a8 a9 b2 b3 b5 b6 b7 b8 b9 : Value) (hk : ka = 3) (hk' : kb ≠ 3) (w : World) : Calls Tryd.prog 11 #[.int .i64 5, av ka na sa a2 a3 a5 a6 a7 a8 a9, av kb nb sb b2 b3 b5 b6 b7 b8 b9] w fun e w' => e = .returned (.tuple #[vv 0 0 (⟨#[]⟩ : ByteArray), .int .i64 13]) ∧ Below w.heap.size w w' := by
  subst hk
  have c7 : (kb == 3) = false := by simpa using hk'
  go_enter Tryd.func11, Tryd.ntmps11
  go_wp2
  (try simp only [Exit.inBlock, Exit.then]); refine bodyPost_ret (results_ct rfl _ _ _ 28 _ (0, 0) _ rfl (by (repeat (first | (refine new_at ?_; first | (with_reducible rfl) | (simp only [World.size_alloc]; done)) | refine blk_alloc ?_ _))) Tryd.underlying28 rfl (by kernel_rfl)) rfl ?_
  exact ⟨rfl, by go_grown⟩
end Go.Proofs.YtophddbbeechkaaDoor.W2
