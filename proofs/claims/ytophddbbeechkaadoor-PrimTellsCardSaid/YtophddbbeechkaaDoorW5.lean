/-
  prim: limbecklaw32.two, walked for each operation that the laws ask.
-/
import Derived.Test.YtophddbbeechkaaDoorW4
namespace Go.Proofs.YtophddbbeechkaaDoor.W5
open Go.RowKit Go.Proofs.YtophddbbeechkaaDoorW.PrintWords Go.Proofs.YtophddbbeechkaaDoorW.PrintLast Go.Proofs.YtophddbbeechkaaDoorW.PrintMore Go.Proofs.YtophddbbeechkaaDoorW.Mine Go.Proofs.YtophddbbeechkaaDoor.W1 Go.Proofs.YtophddbbeechkaaDoor.W3
attribute [local go_sem] max2_int min2_int
set_option linter.unusedVariables false
set_option linter.unusedSimpArgs false
set_option maxHeartbeats 2000000 in
set_option maxRecDepth 100000 in
theorem two_add (ka na kb nb : Int) (sa sb : ByteArray) (a2 a3 a5 a6 a7 a8 a9 b2 b3 b5 b6 b7 b8 b9 : Value) (w : World) (hG : GW w) (hk : ka = 1) (hk' : kb = 1) :
    Calls Tryd.prog 21 #[.int .i64 1, av ka na sa a2 a3 a5 a6 a7 a8 a9, av kb nb sb b2 b3 b5 b6 b7 b8 b9] w fun e w' => e = .returned (vv 1 (wrap64 (na + nb)) (⟨#[]⟩ : ByteArray)) ∧ Below w.heap.size w w' := by
  have hsz : 0 < w.heap.size := hG.1
  have hc : w.cell? ⟨0, 1, none⟩ = some (.int .i64 1) := hG.2 1 (by decide)
  subst hk; subst hk'
  go_enter Tryd.func21, Tryd.ntmps21
  go_wp2
  (try simp only [Exit.inBlock, Exit.then]); refine bodyPost_ret (results_cell_row rfl _ _ _ 28 _ (0, 0) _ rfl (by (repeat (first | (refine new_at ?_; first | (with_reducible rfl) | (simp only [World.size_alloc]; done)) | refine blk_alloc ?_ _))) Tryd.underlying28 rfl (by kernel_rfl)) rfl ?_
  exact ⟨rfl, by go_grown⟩
set_option maxHeartbeats 2000000 in
set_option maxRecDepth 100000 in
theorem two_sub (ka na kb nb : Int) (sa sb : ByteArray) (a2 a3 a5 a6 a7 a8 a9 b2 b3 b5 b6 b7 b8 b9 : Value) (w : World) (hG : GW w) (hk : ka = 1) (hk' : kb = 1) :
    Calls Tryd.prog 21 #[.int .i64 2, av ka na sa a2 a3 a5 a6 a7 a8 a9, av kb nb sb b2 b3 b5 b6 b7 b8 b9] w fun e w' => e = .returned (vv 1 (wrap64 (na - nb)) (⟨#[]⟩ : ByteArray)) ∧ Below w.heap.size w w' := by
  have hsz : 0 < w.heap.size := hG.1
  have hc : w.cell? ⟨0, 2, none⟩ = some (.int .i64 1) := hG.2 2 (by decide)
  subst hk; subst hk'
  go_enter Tryd.func21, Tryd.ntmps21
  go_wp2
  (try simp only [Exit.inBlock, Exit.then]); refine bodyPost_ret (results_cell_row rfl _ _ _ 28 _ (0, 0) _ rfl (by (repeat (first | (refine new_at ?_; first | (with_reducible rfl) | (simp only [World.size_alloc]; done)) | refine blk_alloc ?_ _))) Tryd.underlying28 rfl (by kernel_rfl)) rfl ?_
  exact ⟨rfl, by go_grown⟩
set_option maxHeartbeats 2000000 in
set_option maxRecDepth 100000 in
theorem two_mul (ka na kb nb : Int) (sa sb : ByteArray) (a2 a3 a5 a6 a7 a8 a9 b2 b3 b5 b6 b7 b8 b9 : Value) (w : World) (hG : GW w) (hk : ka = 1) (hk' : kb = 1) :
    Calls Tryd.prog 21 #[.int .i64 3, av ka na sa a2 a3 a5 a6 a7 a8 a9, av kb nb sb b2 b3 b5 b6 b7 b8 b9] w fun e w' => e = .returned (vv 1 (wrap64 (na * nb)) (⟨#[]⟩ : ByteArray)) ∧ Below w.heap.size w w' := by
  have hsz : 0 < w.heap.size := hG.1
  have hc : w.cell? ⟨0, 3, none⟩ = some (.int .i64 1) := hG.2 3 (by decide)
  subst hk; subst hk'
  go_enter Tryd.func21, Tryd.ntmps21
  go_wp2
  (try simp only [Exit.inBlock, Exit.then]); refine bodyPost_ret (results_cell_row rfl _ _ _ 28 _ (0, 0) _ rfl (by (repeat (first | (refine new_at ?_; first | (with_reducible rfl) | (simp only [World.size_alloc]; done)) | refine blk_alloc ?_ _))) Tryd.underlying28 rfl (by kernel_rfl)) rfl ?_
  exact ⟨rfl, by go_grown⟩
set_option maxHeartbeats 2000000 in
set_option maxRecDepth 100000 in
theorem two_cat (ka na kb nb : Int) (sa sb : ByteArray) (a2 a3 a5 a6 a7 a8 a9 b2 b3 b5 b6 b7 b8 b9 : Value) (w : World) (hG : GW w) (hk : ka = 3) (hk' : kb = 3) (hs : sa.size + sb.size ≤ 256) :
    Calls Tryd.prog 21 #[.int .i64 5, av ka na sa a2 a3 a5 a6 a7 a8 a9, av kb nb sb b2 b3 b5 b6 b7 b8 b9] w fun e w' => e = .returned (vv 3 0 ((sa ++ sb).extract 0 256)) ∧ Below w.heap.size w w' := by
  have hsz : 0 < w.heap.size := hG.1
  have hc : w.cell? ⟨0, 5, none⟩ = some (.int .i64 3) := hG.2 5 (by decide)
  subst hk; subst hk'
  have hs' : ((sa ++ sb).size : Int) ≤ 256 := by rw [ByteArray.size_append]; omega
  go_enter Tryd.func21, Tryd.ntmps21
  go_wp2
  (try simp only [Exit.inBlock, Exit.then]); refine bodyPost_ret (results_cell_row rfl _ _ _ 28 _ (0, 0) _ rfl (by (repeat (first | (refine new_at ?_; first | (with_reducible rfl) | (simp only [World.size_alloc]; done)) | refine blk_alloc ?_ _))) Tryd.underlying28 rfl (by kernel_rfl)) rfl ?_
  have e : (sa ++ sb).extract 0 (sa.size + sb.size) = (sa ++ sb).extract 0 256 := (extract_all _ _ (Nat.le_of_eq ByteArray.size_append)).trans (extract_all _ _ (by omega)).symm
  exact ⟨by rw [← e], by go_grown⟩
set_option maxHeartbeats 2000000 in
set_option maxRecDepth 100000 in
theorem two_cut (ka na kb nb : Int) (sa sb : ByteArray) (a2 a3 a5 a6 a7 a8 a9 b2 b3 b5 b6 b7 b8 b9 : Value) (w : World) (hG : GW w) (hk : ka = 3) (hk' : kb = 3) (hs : 256 < sa.size + sb.size) (hm : sa.size + sb.size ≤ 9223372036854775807) :
    Calls Tryd.prog 21 #[.int .i64 5, av ka na sa a2 a3 a5 a6 a7 a8 a9, av kb nb sb b2 b3 b5 b6 b7 b8 b9] w fun e w' => e = .returned (vv 3 0 ((sa ++ sb).extract 0 256)) ∧ Below w.heap.size w w' := by
  have hsz : 0 < w.heap.size := hG.1
  have hc : w.cell? ⟨0, 5, none⟩ = some (.int .i64 3) := hG.2 5 (by decide)
  subst hk; subst hk'
  have hs' : 256 < ((sa ++ sb).size : Int) := by rw [ByteArray.size_append]; omega
  go_enter Tryd.func21, Tryd.ntmps21
  go_wp2
  (try simp only [Exit.inBlock, Exit.then]); refine bodyPost_ret (results_cell_row rfl _ _ _ 28 _ (0, 0) _ rfl (by (repeat (first | (refine new_at ?_; first | (with_reducible rfl) | (simp only [World.size_alloc]; done)) | refine blk_alloc ?_ _))) Tryd.underlying28 rfl (by kernel_rfl)) rfl ?_
  exact ⟨rfl, by go_grown⟩
set_option maxHeartbeats 2000000 in
set_option maxRecDepth 100000 in
theorem two_less_true (ka na kb nb : Int) (sa sb : ByteArray) (a2 a3 a5 a6 a7 a8 a9 b2 b3 b5 b6 b7 b8 b9 : Value) (w : World) (hG : GW w) (hk : ka = 1) (hk' : kb = 1) (hn : na < nb) :
    Calls Tryd.prog 21 #[.int .i64 6, av ka na sa a2 a3 a5 a6 a7 a8 a9, av kb nb sb b2 b3 b5 b6 b7 b8 b9] w fun e w' => e = .returned (vv 2 1 (⟨#[]⟩ : ByteArray)) ∧ Below w.heap.size w w' := by
  have hsz : 0 < w.heap.size := hG.1
  have hc : w.cell? ⟨0, 6, none⟩ = some (.int .i64 1) := hG.2 6 (by decide)
  subst hk; subst hk'
  have h0 : decide (na < nb) = true := decide_eq_true hn
  go_enter Tryd.func21, Tryd.ntmps21
  go_wp2
  (try simp only [Exit.inBlock, Exit.then]); refine bodyPost_ret (results_cell_row rfl _ _ _ 28 _ (0, 0) _ rfl (by (repeat (first | (refine new_at ?_; first | (with_reducible rfl) | (simp only [World.size_alloc]; done)) | refine blk_alloc ?_ _))) Tryd.underlying28 rfl (by kernel_rfl)) rfl ?_
  exact ⟨rfl, by go_grown⟩
set_option maxHeartbeats 2000000 in
set_option maxRecDepth 100000 in
theorem two_less_false (ka na kb nb : Int) (sa sb : ByteArray) (a2 a3 a5 a6 a7 a8 a9 b2 b3 b5 b6 b7 b8 b9 : Value) (w : World) (hG : GW w) (hk : ka = 1) (hk' : kb = 1) (hn : ¬ (na < nb)) :
    Calls Tryd.prog 21 #[.int .i64 6, av ka na sa a2 a3 a5 a6 a7 a8 a9, av kb nb sb b2 b3 b5 b6 b7 b8 b9] w fun e w' => e = .returned (vv 2 0 (⟨#[]⟩ : ByteArray)) ∧ Below w.heap.size w w' := by
  have hsz : 0 < w.heap.size := hG.1
  have hc : w.cell? ⟨0, 6, none⟩ = some (.int .i64 1) := hG.2 6 (by decide)
  subst hk; subst hk'
  have h0 : decide (na < nb) = false := decide_eq_false hn
  go_enter Tryd.func21, Tryd.ntmps21
  go_wp2
  (try simp only [Exit.inBlock, Exit.then]); refine bodyPost_ret (results_cell_row rfl _ _ _ 28 _ (0, 0) _ rfl (by (repeat (first | (refine new_at ?_; first | (with_reducible rfl) | (simp only [World.size_alloc]; done)) | refine blk_alloc ?_ _))) Tryd.underlying28 rfl (by kernel_rfl)) rfl ?_
  exact ⟨rfl, by go_grown⟩
set_option maxHeartbeats 2000000 in
set_option maxRecDepth 100000 in
theorem two_same_true (ka na kb nb : Int) (sa sb : ByteArray) (a2 a3 a5 a6 a7 a8 a9 b2 b3 b5 b6 b7 b8 b9 : Value) (w : World) (hG : GW w) (hk : ka = 1) (hk' : kb = 1) (hn : na = nb) :
    Calls Tryd.prog 21 #[.int .i64 7, av ka na sa a2 a3 a5 a6 a7 a8 a9, av kb nb sb b2 b3 b5 b6 b7 b8 b9] w fun e w' => e = .returned (vv 2 1 (⟨#[]⟩ : ByteArray)) ∧ Below w.heap.size w w' := by
  have hsz : 0 < w.heap.size := hG.1
  have hc : w.cell? ⟨0, 7, none⟩ = some (.int .i64 1) := hG.2 7 (by decide)
  subst hk; subst hk'
  have h0 : decide (na = nb) = true := decide_eq_true hn
  have h1 : (na == nb) = true := by simpa using hn
  go_enter Tryd.func21, Tryd.ntmps21
  go_wp2
  (try simp only [Exit.inBlock, Exit.then]); refine bodyPost_ret (results_cell_row rfl _ _ _ 28 _ (0, 0) _ rfl (by (repeat (first | (refine new_at ?_; first | (with_reducible rfl) | (simp only [World.size_alloc]; done)) | refine blk_alloc ?_ _))) Tryd.underlying28 rfl (by kernel_rfl)) rfl ?_
  exact ⟨rfl, by go_grown⟩
set_option maxHeartbeats 2000000 in
set_option maxRecDepth 100000 in
theorem two_same_false (ka na kb nb : Int) (sa sb : ByteArray) (a2 a3 a5 a6 a7 a8 a9 b2 b3 b5 b6 b7 b8 b9 : Value) (w : World) (hG : GW w) (hk : ka = 1) (hk' : kb = 1) (hn : ¬ (na = nb)) :
    Calls Tryd.prog 21 #[.int .i64 7, av ka na sa a2 a3 a5 a6 a7 a8 a9, av kb nb sb b2 b3 b5 b6 b7 b8 b9] w fun e w' => e = .returned (vv 2 0 (⟨#[]⟩ : ByteArray)) ∧ Below w.heap.size w w' := by
  have hsz : 0 < w.heap.size := hG.1
  have hc : w.cell? ⟨0, 7, none⟩ = some (.int .i64 1) := hG.2 7 (by decide)
  subst hk; subst hk'
  have h0 : decide (na = nb) = false := decide_eq_false hn
  have h1 : (na == nb) = false := by simpa using hn
  go_enter Tryd.func21, Tryd.ntmps21
  go_wp2
  (try simp only [Exit.inBlock, Exit.then]); refine bodyPost_ret (results_cell_row rfl _ _ _ 28 _ (0, 0) _ rfl (by (repeat (first | (refine new_at ?_; first | (with_reducible rfl) | (simp only [World.size_alloc]; done)) | refine blk_alloc ?_ _))) Tryd.underlying28 rfl (by kernel_rfl)) rfl ?_
  exact ⟨rfl, by go_grown⟩
end Go.Proofs.YtophddbbeechkaaDoor.W5
