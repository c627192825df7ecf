/-
  prim: the walk of PrimTexts.
-/
import Derived.Test.YtophddbbeechkaaDoorWB
namespace Go.Proofs.YtophddbbeechkaaDoor.W9
open Go.RowKit Go.Proofs.YtophddbbeechkaaDoorW.PrintWords Go.Proofs.YtophddbbeechkaaDoorW.PrintLast Go.Proofs.YtophddbbeechkaaDoorW.PrintMore Go.Proofs.YtophddbbeechkaaDoorW.Mine Go.Proofs.YtophddbbeechkaaDoor.W1 Go.Proofs.YtophddbbeechkaaDoor.W2 Go.Proofs.YtophddbbeechkaaDoor.W3 Go.Proofs.YtophddbbeechkaaDoor.W5 Go.Proofs.YtophddbbeechkaaDoor.WB
attribute [local go_sem] max2_int min2_int
set_option linter.unusedVariables false
set_option linter.unusedSimpArgs false
def cut (s : ByteArray) : ByteArray := s.extract 0 256
theorem cut_list (s : ByteArray) : (cut s).data.toList = s.data.toList.take 256 := by
  unfold cut
  rw [ByteArray.data_extract, Array.toList_extract, List.extract_eq_take_drop]
  simp
theorem by_list {s t : ByteArray} (h : s.data.toList = t.data.toList) : s = t := by
  apply ByteArray.ext
  exact Array.toList_inj.1 h
theorem app_list (s t : ByteArray) : (s ++ t).data.toList = s.data.toList ++ t.data.toList := by
  rw [ByteArray.data_append, Array.toList_append]
theorem take_l {α : Type} (n : Nat) (x y : List α) : (x.take n ++ y).take n = (x ++ y).take n := by
  rw [List.take_append, List.take_append, List.take_take, Nat.min_self, List.length_take]
  congr 2
  omega
theorem take_r {α : Type} (n : Nat) (x y : List α) : (x ++ y.take n).take n = (x ++ y).take n := by
  rw [List.take_append, List.take_append, List.take_take]
  congr 2
  omega
theorem cut_l (s t : ByteArray) : cut (cut s ++ t) = cut (s ++ t) := by_list (by rw [cut_list, cut_list, app_list, app_list, cut_list, take_l])
theorem cut_r (s t : ByteArray) : cut (s ++ cut t) = cut (s ++ t) := by_list (by rw [cut_list, cut_list, app_list, app_list, cut_list, take_r])
theorem app_assoc (s t u : ByteArray) : s ++ t ++ u = s ++ (t ++ u) := by_list (by simp only [app_list, List.append_assoc])
theorem left_is (a b c : ByteArray) : cut (cut (cut a ++ cut b) ++ cut c) = cut (a ++ b ++ c) := by
  rw [cut_l, cut_r, app_assoc, cut_l, ← app_assoc]
  have h : cut (a ++ cut b ++ c) = cut (a ++ b ++ c) := by rw [← cut_l (a ++ cut b), cut_r a b, cut_l]
  exact h
theorem right_is (a b c : ByteArray) : cut (cut a ++ cut (cut b ++ cut c)) = cut (a ++ b ++ c) := by
  rw [cut_l, cut_r, ← app_assoc, cut_r]
  rw [← cut_l (a ++ cut b), cut_r a b, cut_l]
theorem cut_size (s : ByteArray) : (cut s).size ≤ 256 := by
  have h := congrArg List.length (cut_list s)
  rw [List.length_take, Array.length_toList] at h
  have : (cut s).size = (cut s).data.size := rfl
  omega
theorem cut_all (s : ByteArray) (h : s.size ≤ 256) : cut s = s := extract_all s 256 h
theorem frozen_next {a b : World} {p : Addr} (hb : Below a.heap.size a b) (hp : p.block < a.heap.size) (h : a.frozen? p = false) : b.frozen? p = false := (hb.frozen hp).trans h
/-- A new box that holds zeros lies so behind a call that came after it was made. -/
theorem zb_next {a b : World} {g : Nat} (hb : Below a.heap.size a b) (h : (a.cell? ⟨g, 0, none⟩ = some (.int .i64 (0)) ∧ a.cell? ⟨g, 1, none⟩ = some (.int .i64 (0)) ∧ a.cell? ⟨g, 2, none⟩ = some (.int .i64 0) ∧ a.cell? ⟨g, 3, none⟩ = some (.bool false) ∧ a.cell? ⟨g, 4, none⟩ = some (.string (E0)) ∧ a.cell? ⟨g, 5, none⟩ = some (.string ⟨#[]⟩) ∧ a.cell? ⟨g, 6, none⟩ = some (.int .i64 0) ∧ a.cell? ⟨g, 7, none⟩ = some (.slice none 0 0) ∧ a.cell? ⟨g, 8, none⟩ = some (.slice none 0 0) ∧ a.cell? ⟨g, 9, none⟩ = some (.slice none 0 0)) ∧ (a.frozen? ⟨g, 0, none⟩ = false ∧ a.frozen? ⟨g, 1, none⟩ = false ∧ a.frozen? ⟨g, 2, none⟩ = false ∧ a.frozen? ⟨g, 3, none⟩ = false ∧ a.frozen? ⟨g, 4, none⟩ = false ∧ a.frozen? ⟨g, 5, none⟩ = false ∧ a.frozen? ⟨g, 6, none⟩ = false ∧ a.frozen? ⟨g, 7, none⟩ = false ∧ a.frozen? ⟨g, 8, none⟩ = false ∧ a.frozen? ⟨g, 9, none⟩ = false)) : (b.cell? ⟨g, 0, none⟩ = some (.int .i64 (0)) ∧ b.cell? ⟨g, 1, none⟩ = some (.int .i64 (0)) ∧ b.cell? ⟨g, 2, none⟩ = some (.int .i64 0) ∧ b.cell? ⟨g, 3, none⟩ = some (.bool false) ∧ b.cell? ⟨g, 4, none⟩ = some (.string (E0)) ∧ b.cell? ⟨g, 5, none⟩ = some (.string ⟨#[]⟩) ∧ b.cell? ⟨g, 6, none⟩ = some (.int .i64 0) ∧ b.cell? ⟨g, 7, none⟩ = some (.slice none 0 0) ∧ b.cell? ⟨g, 8, none⟩ = some (.slice none 0 0) ∧ b.cell? ⟨g, 9, none⟩ = some (.slice none 0 0)) ∧ (b.frozen? ⟨g, 0, none⟩ = false ∧ b.frozen? ⟨g, 1, none⟩ = false ∧ b.frozen? ⟨g, 2, none⟩ = false ∧ b.frozen? ⟨g, 3, none⟩ = false ∧ b.frozen? ⟨g, 4, none⟩ = false ∧ b.frozen? ⟨g, 5, none⟩ = false ∧ b.frozen? ⟨g, 6, none⟩ = false ∧ b.frozen? ⟨g, 7, none⟩ = false ∧ b.frozen? ⟨g, 8, none⟩ = false ∧ b.frozen? ⟨g, 9, none⟩ = false) := by
  have hl : g < a.heap.size := World.block_lt_of_cell? a ⟨g, 0, none⟩ h.1.1
  obtain ⟨hc, h0, h1, h2, h3, h4, h5, h6, h7, h8, h9⟩ := h
  exact ⟨cells_next hb hc, frozen_next hb hl h0, frozen_next hb hl h1, frozen_next hb hl h2, frozen_next hb hl h3, frozen_next hb hl h4, frozen_next hb hl h5, frozen_next hb hl h6, frozen_next hb hl h7, frozen_next hb hl h8, frozen_next hb hl h9⟩
theorem zb_new' (X : World) : let a := X.alloc (.cells (cells 0 0 E0).toArray 28); let g := X.heap.size; (a.cell? ⟨g, 0, none⟩ = some (.int .i64 (0)) ∧ a.cell? ⟨g, 1, none⟩ = some (.int .i64 (0)) ∧ a.cell? ⟨g, 2, none⟩ = some (.int .i64 0) ∧ a.cell? ⟨g, 3, none⟩ = some (.bool false) ∧ a.cell? ⟨g, 4, none⟩ = some (.string (E0)) ∧ a.cell? ⟨g, 5, none⟩ = some (.string ⟨#[]⟩) ∧ a.cell? ⟨g, 6, none⟩ = some (.int .i64 0) ∧ a.cell? ⟨g, 7, none⟩ = some (.slice none 0 0) ∧ a.cell? ⟨g, 8, none⟩ = some (.slice none 0 0) ∧ a.cell? ⟨g, 9, none⟩ = some (.slice none 0 0)) ∧ (a.frozen? ⟨g, 0, none⟩ = false ∧ a.frozen? ⟨g, 1, none⟩ = false ∧ a.frozen? ⟨g, 2, none⟩ = false ∧ a.frozen? ⟨g, 3, none⟩ = false ∧ a.frozen? ⟨g, 4, none⟩ = false ∧ a.frozen? ⟨g, 5, none⟩ = false ∧ a.frozen? ⟨g, 6, none⟩ = false ∧ a.frozen? ⟨g, 7, none⟩ = false ∧ a.frozen? ⟨g, 8, none⟩ = false ∧ a.frozen? ⟨g, 9, none⟩ = false) := by
  refine ⟨cells_new X 0 0 E0 28, ?_⟩
  simp
theorem zb_new {X b : World} (hb : Below (X.alloc (.cells (cells 0 0 E0).toArray 28)).heap.size (X.alloc (.cells (cells 0 0 E0).toArray 28)) b) : let g := X.heap.size; (b.cell? ⟨g, 0, none⟩ = some (.int .i64 (0)) ∧ b.cell? ⟨g, 1, none⟩ = some (.int .i64 (0)) ∧ b.cell? ⟨g, 2, none⟩ = some (.int .i64 0) ∧ b.cell? ⟨g, 3, none⟩ = some (.bool false) ∧ b.cell? ⟨g, 4, none⟩ = some (.string (E0)) ∧ b.cell? ⟨g, 5, none⟩ = some (.string ⟨#[]⟩) ∧ b.cell? ⟨g, 6, none⟩ = some (.int .i64 0) ∧ b.cell? ⟨g, 7, none⟩ = some (.slice none 0 0) ∧ b.cell? ⟨g, 8, none⟩ = some (.slice none 0 0) ∧ b.cell? ⟨g, 9, none⟩ = some (.slice none 0 0)) ∧ (b.frozen? ⟨g, 0, none⟩ = false ∧ b.frozen? ⟨g, 1, none⟩ = false ∧ b.frozen? ⟨g, 2, none⟩ = false ∧ b.frozen? ⟨g, 3, none⟩ = false ∧ b.frozen? ⟨g, 4, none⟩ = false ∧ b.frozen? ⟨g, 5, none⟩ = false ∧ b.frozen? ⟨g, 6, none⟩ = false ∧ b.frozen? ⟨g, 7, none⟩ = false ∧ b.frozen? ⟨g, 8, none⟩ = false ∧ b.frozen? ⟨g, 9, none⟩ = false) := zb_next hb (zb_new' X)
theorem zb_newd {X b : World} (hb : Below (X.alloc (.cells (cells 0 0 E0).toArray 28)).drew.heap.size (X.alloc (.cells (cells 0 0 E0).toArray 28)).drew b) : let g := X.heap.size; (b.cell? ⟨g, 0, none⟩ = some (.int .i64 (0)) ∧ b.cell? ⟨g, 1, none⟩ = some (.int .i64 (0)) ∧ b.cell? ⟨g, 2, none⟩ = some (.int .i64 0) ∧ b.cell? ⟨g, 3, none⟩ = some (.bool false) ∧ b.cell? ⟨g, 4, none⟩ = some (.string (E0)) ∧ b.cell? ⟨g, 5, none⟩ = some (.string ⟨#[]⟩) ∧ b.cell? ⟨g, 6, none⟩ = some (.int .i64 0) ∧ b.cell? ⟨g, 7, none⟩ = some (.slice none 0 0) ∧ b.cell? ⟨g, 8, none⟩ = some (.slice none 0 0) ∧ b.cell? ⟨g, 9, none⟩ = some (.slice none 0 0)) ∧ (b.frozen? ⟨g, 0, none⟩ = false ∧ b.frozen? ⟨g, 1, none⟩ = false ∧ b.frozen? ⟨g, 2, none⟩ = false ∧ b.frozen? ⟨g, 3, none⟩ = false ∧ b.frozen? ⟨g, 4, none⟩ = false ∧ b.frozen? ⟨g, 5, none⟩ = false ∧ b.frozen? ⟨g, 6, none⟩ = false ∧ b.frozen? ⟨g, 7, none⟩ = false ∧ b.frozen? ⟨g, 8, none⟩ = false ∧ b.frozen? ⟨g, 9, none⟩ = false) := zb_new ⟨hb.os, hb.tape, hb.output, hb.size, hb.block⟩
def Sb (X : World) (w : World) (gx : Nat) (kx nx : Int) (sx : ByteArray) (gy : Nat) (ky ny : Int) (sy : ByteArray) (gz : Nat) (kz nz : Int) (sz : ByteArray) (gu : Nat) (ku nu : Int) (su : ByteArray) (w' : World) : Prop :=
  Below X.heap.size X w' ∧ Fit w w' ∧ (w'.cell? ⟨gx, 0, none⟩ = some (.int .i64 (kx)) ∧ w'.cell? ⟨gx, 1, none⟩ = some (.int .i64 (nx)) ∧ w'.cell? ⟨gx, 2, none⟩ = some (.int .i64 0) ∧ w'.cell? ⟨gx, 3, none⟩ = some (.bool false) ∧ w'.cell? ⟨gx, 4, none⟩ = some (.string (sx)) ∧ w'.cell? ⟨gx, 5, none⟩ = some (.string ⟨#[]⟩) ∧ w'.cell? ⟨gx, 6, none⟩ = some (.int .i64 0) ∧ w'.cell? ⟨gx, 7, none⟩ = some (.slice none 0 0) ∧ w'.cell? ⟨gx, 8, none⟩ = some (.slice none 0 0) ∧ w'.cell? ⟨gx, 9, none⟩ = some (.slice none 0 0)) ∧ (w'.cell? ⟨gy, 0, none⟩ = some (.int .i64 (ky)) ∧ w'.cell? ⟨gy, 1, none⟩ = some (.int .i64 (ny)) ∧ w'.cell? ⟨gy, 2, none⟩ = some (.int .i64 0) ∧ w'.cell? ⟨gy, 3, none⟩ = some (.bool false) ∧ w'.cell? ⟨gy, 4, none⟩ = some (.string (sy)) ∧ w'.cell? ⟨gy, 5, none⟩ = some (.string ⟨#[]⟩) ∧ w'.cell? ⟨gy, 6, none⟩ = some (.int .i64 0) ∧ w'.cell? ⟨gy, 7, none⟩ = some (.slice none 0 0) ∧ w'.cell? ⟨gy, 8, none⟩ = some (.slice none 0 0) ∧ w'.cell? ⟨gy, 9, none⟩ = some (.slice none 0 0)) ∧ (w'.cell? ⟨gz, 0, none⟩ = some (.int .i64 (kz)) ∧ w'.cell? ⟨gz, 1, none⟩ = some (.int .i64 (nz)) ∧ w'.cell? ⟨gz, 2, none⟩ = some (.int .i64 0) ∧ w'.cell? ⟨gz, 3, none⟩ = some (.bool false) ∧ w'.cell? ⟨gz, 4, none⟩ = some (.string (sz)) ∧ w'.cell? ⟨gz, 5, none⟩ = some (.string ⟨#[]⟩) ∧ w'.cell? ⟨gz, 6, none⟩ = some (.int .i64 0) ∧ w'.cell? ⟨gz, 7, none⟩ = some (.slice none 0 0) ∧ w'.cell? ⟨gz, 8, none⟩ = some (.slice none 0 0) ∧ w'.cell? ⟨gz, 9, none⟩ = some (.slice none 0 0)) ∧ (w'.cell? ⟨gu, 0, none⟩ = some (.int .i64 (ku)) ∧ w'.cell? ⟨gu, 1, none⟩ = some (.int .i64 (nu)) ∧ w'.cell? ⟨gu, 2, none⟩ = some (.int .i64 0) ∧ w'.cell? ⟨gu, 3, none⟩ = some (.bool false) ∧ w'.cell? ⟨gu, 4, none⟩ = some (.string (su)) ∧ w'.cell? ⟨gu, 5, none⟩ = some (.string ⟨#[]⟩) ∧ w'.cell? ⟨gu, 6, none⟩ = some (.int .i64 0) ∧ w'.cell? ⟨gu, 7, none⟩ = some (.slice none 0 0) ∧ w'.cell? ⟨gu, 8, none⟩ = some (.slice none 0 0) ∧ w'.cell? ⟨gu, 9, none⟩ = some (.slice none 0 0))
theorem Sb.mk {X w' : World} {w : World} {gx : Nat} {kx nx : Int} {sx : ByteArray} {gy : Nat} {ky ny : Int} {sy : ByteArray} {gz : Nat} {kz nz : Int} {sz : ByteArray} {gu : Nat} {ku nu : Int} {su : ByteArray} (st : St w gx kx nx sx gy ky ny sy gz kz nz sz gu ku nu su X) (hb : Below X.heap.size X w') : Sb X w gx kx nx sx gy ky ny sy gz kz nz sz gu ku nu su w' := ⟨hb, st.next hb⟩
theorem below_call {X u v : World} {R : Prop} (hb : Below u.heap.size u v) (h : Below X.heap.size X u ∧ R) : Below X.heap.size X v := chain h.1 hb
theorem below_realloc {X a : World} {o : Obj} {R : Prop} (h : Below X.heap.size X (a.alloc o) ∧ R) (hs : X.heap.size ≤ a.heap.size) (o' : Obj) : Below X.heap.size X (a.alloc o') := by
  have ha : Below X.heap.size X a := ⟨h.1.os, h.1.tape, h.1.output, hs, fun i hi => (Below.heap_alloc a o i (Nat.lt_of_lt_of_le hi hs)).symm.trans (h.1.block i hi)⟩
  exact ha.alloc hs o'
/-- A new box of zeros, into which a value is stored. -/
theorem box_set {a X : World} {g : Nat} {k n : Int} {s : ByteArray} (h : (a.cell? ⟨g, 0, none⟩ = some (.int .i64 (0)) ∧ a.cell? ⟨g, 1, none⟩ = some (.int .i64 (0)) ∧ a.cell? ⟨g, 2, none⟩ = some (.int .i64 0) ∧ a.cell? ⟨g, 3, none⟩ = some (.bool false) ∧ a.cell? ⟨g, 4, none⟩ = some (.string (E0)) ∧ a.cell? ⟨g, 5, none⟩ = some (.string ⟨#[]⟩) ∧ a.cell? ⟨g, 6, none⟩ = some (.int .i64 0) ∧ a.cell? ⟨g, 7, none⟩ = some (.slice none 0 0) ∧ a.cell? ⟨g, 8, none⟩ = some (.slice none 0 0) ∧ a.cell? ⟨g, 9, none⟩ = some (.slice none 0 0)) ∧ (a.frozen? ⟨g, 0, none⟩ = false ∧ a.frozen? ⟨g, 1, none⟩ = false ∧ a.frozen? ⟨g, 2, none⟩ = false ∧ a.frozen? ⟨g, 3, none⟩ = false ∧ a.frozen? ⟨g, 4, none⟩ = false ∧ a.frozen? ⟨g, 5, none⟩ = false ∧ a.frozen? ⟨g, 6, none⟩ = false ∧ a.frozen? ⟨g, 7, none⟩ = false ∧ a.frozen? ⟨g, 8, none⟩ = false ∧ a.frozen? ⟨g, 9, none⟩ = false)) (hX : X = ((((((((((a.setCell ⟨g, 0, none⟩ (.int .i64 k)).setCell ⟨g, 1, none⟩ (.int .i64 n)).setCell ⟨g, 2, none⟩ (.int .i64 0)).setCell ⟨g, 3, none⟩ (.bool false)).setCell ⟨g, 4, none⟩ (.string s)).setCell ⟨g, 5, none⟩ (.string E0)).setCell ⟨g, 6, none⟩ (.int .i64 0)).setCell ⟨g, 7, none⟩ (.slice none 0 0)).setCell ⟨g, 8, none⟩ (.slice none 0 0)).setCell ⟨g, 9, none⟩ (.slice none 0 0))) : X.cell? ⟨g, 0, none⟩ = some (.int .i64 (k)) ∧ X.cell? ⟨g, 1, none⟩ = some (.int .i64 (n)) ∧ X.cell? ⟨g, 2, none⟩ = some (.int .i64 0) ∧ X.cell? ⟨g, 3, none⟩ = some (.bool false) ∧ X.cell? ⟨g, 4, none⟩ = some (.string (s)) ∧ X.cell? ⟨g, 5, none⟩ = some (.string ⟨#[]⟩) ∧ X.cell? ⟨g, 6, none⟩ = some (.int .i64 0) ∧ X.cell? ⟨g, 7, none⟩ = some (.slice none 0 0) ∧ X.cell? ⟨g, 8, none⟩ = some (.slice none 0 0) ∧ X.cell? ⟨g, 9, none⟩ = some (.slice none 0 0) := by
  subst hX
  obtain ⟨⟨h0, h1, h2, h3, h4, h5, h6, h7, h8, h9⟩, _⟩ := h
  refine ⟨?_, ?_, ?_, ?_, ?_, ?_, ?_, ?_, ?_, ?_⟩ <;> go_cell
/-- Two boxes hold texts. -/
def Two (w : World) (gv : Nat) (sv : ByteArray) (gu : Nat) (su : ByteArray) (w' : World) : Prop := Fit w w' ∧ (w'.cell? ⟨gv, 0, none⟩ = some (.int .i64 (3)) ∧ w'.cell? ⟨gv, 1, none⟩ = some (.int .i64 (0)) ∧ w'.cell? ⟨gv, 2, none⟩ = some (.int .i64 0) ∧ w'.cell? ⟨gv, 3, none⟩ = some (.bool false) ∧ w'.cell? ⟨gv, 4, none⟩ = some (.string (sv)) ∧ w'.cell? ⟨gv, 5, none⟩ = some (.string ⟨#[]⟩) ∧ w'.cell? ⟨gv, 6, none⟩ = some (.int .i64 0) ∧ w'.cell? ⟨gv, 7, none⟩ = some (.slice none 0 0) ∧ w'.cell? ⟨gv, 8, none⟩ = some (.slice none 0 0) ∧ w'.cell? ⟨gv, 9, none⟩ = some (.slice none 0 0)) ∧ (w'.cell? ⟨gu, 0, none⟩ = some (.int .i64 (3)) ∧ w'.cell? ⟨gu, 1, none⟩ = some (.int .i64 (0)) ∧ w'.cell? ⟨gu, 2, none⟩ = some (.int .i64 0) ∧ w'.cell? ⟨gu, 3, none⟩ = some (.bool false) ∧ w'.cell? ⟨gu, 4, none⟩ = some (.string (su)) ∧ w'.cell? ⟨gu, 5, none⟩ = some (.string ⟨#[]⟩) ∧ w'.cell? ⟨gu, 6, none⟩ = some (.int .i64 0) ∧ w'.cell? ⟨gu, 7, none⟩ = some (.slice none 0 0) ∧ w'.cell? ⟨gu, 8, none⟩ = some (.slice none 0 0) ∧ w'.cell? ⟨gu, 9, none⟩ = some (.slice none 0 0))
theorem two_str (s t : ByteArray) (w : World) (hG : GW w) :
    Calls Tryd.prog 21 #[.int .i64 5, vv 3 0 (cut s), vv 3 0 (cut t)] w fun e w' => e = .returned (vv 3 0 (cut (cut s ++ cut t))) ∧ Below w.heap.size w w' := by
  have hs := cut_size s
  have ht := cut_size t
  by_cases hl : (cut s).size + (cut t).size ≤ 256
  · exact two_cat 3 0 3 0 _ _ _ _ _ _ _ _ _ _ _ _ _ _ _ _ w hG rfl rfl hl
  · exact two_cut 3 0 3 0 _ _ _ _ _ _ _ _ _ _ _ _ _ _ _ _ w hG rfl rfl (by omega) (by omega)
theorem str_cut (s : ByteArray) (w : World) : Calls Tryd.prog 19 #[.string s] w fun e w' => e = .returned (vv 3 0 (cut s)) ∧ Below w.heap.size w w' := str_c s w
set_option maxHeartbeats 20000000 in
set_option maxRecDepth 100000 in
theorem texts_c (a b c : ByteArray) (w : World) (hG : GW w) : Calls Tryd.prog 7 #[.string a, .string b, .string c] w fun e w' => e = .returned (.bool true) ∧ Below w.heap.size w w' := by
  have al : ∀ (a : World) (o : Obj), Below a.heap.size a (a.alloc o) := fun a o => (Below.refl _ _).alloc (Nat.le_refl _) o
  by_cases ha : 400 < (a.size : Int)
  · have c0 : decide (400 < (a.size : Int)) = true := decide_eq_true ha
    go_enter Tryd.func7, Tryd.ntmps7
    go_wp2_with fail
    go_call (awake_c w hG) as e w1 ⟨he, hb1⟩
    subst he
    go_wp2
    go_returns
    exact ⟨rfl, hb1⟩
  by_cases hb : 400 < (b.size : Int)
  · have c0 : decide (400 < (a.size : Int)) = false := decide_eq_false ha
    have c1 : decide (400 < (b.size : Int)) = true := decide_eq_true hb
    go_enter Tryd.func7, Tryd.ntmps7
    go_wp2_with fail
    go_call (awake_c w hG) as e w1 ⟨he, hb1⟩
    subst he
    go_wp2
    go_returns
    exact ⟨rfl, hb1⟩
  by_cases hc : 400 < (c.size : Int)
  · have c0 : decide (400 < (a.size : Int)) = false := decide_eq_false ha
    have c1 : decide (400 < (b.size : Int)) = false := decide_eq_false hb
    have c2 : decide (400 < (c.size : Int)) = true := decide_eq_true hc
    go_enter Tryd.func7, Tryd.ntmps7
    go_wp2_with fail
    go_call (awake_c w hG) as e w1 ⟨he, hb1⟩
    subst he
    go_wp2
    go_returns
    exact ⟨rfl, hb1⟩
  have c0 : decide (400 < (a.size : Int)) = false := decide_eq_false ha
  have c1 : decide (400 < (b.size : Int)) = false := decide_eq_false hb
  have c2 : decide (400 < (c.size : Int)) = false := decide_eq_false hc
  go_enter Tryd.func7, Tryd.ntmps7
  go_wp2_with fail
  go_call (str_cut a) as e w1 ⟨he, hb1⟩
  subst he
  go_wp2_with fail
  go_call (str_cut b) as e w2 ⟨he, hb2⟩
  subst he
  go_wp2_with fail
  go_call (str_cut c) as e w3 ⟨he, hb3⟩
  subst he
  have f3 := ((((((Fit.start hG).next hb1).next hb2).next hb3).alloc (.cells (cells 3 0 (cut a)).toArray 28)).alloc (.cells (cells 3 0 (cut b)).toArray 28)).alloc (.cells (cells 3 0 (cut c)).toArray 28)
  have x3 := cells_next (al _ (.cells (cells 3 0 (cut c)).toArray 28)) (cells_next (al _ (.cells (cells 3 0 (cut b)).toArray 28)) (cells_new w3 3 0 (cut a) 28))
  have y3 := cells_next (al _ (.cells (cells 3 0 (cut c)).toArray 28)) (cells_new (w3.alloc (.cells (cells 3 0 (cut a)).toArray 28)) 3 0 (cut b) 28)
  have z3 := cells_new ((w3.alloc (.cells (cells 3 0 (cut a)).toArray 28)).alloc (.cells (cells 3 0 (cut b)).toArray 28)) 3 0 (cut c) 28
  simp only [World.size_alloc] at y3 z3
  have st : St w w3.heap.size 3 0 (cut a) (w3.heap.size + 1) 3 0 (cut b) (w3.heap.size + 1 + 1) 3 0 (cut c) w3.heap.size 3 0 (cut a) _ := ⟨f3, x3, y3, z3, x3⟩
  clear x3 y3 z3 f3 hb1 hb2 hb3
  go_wp2_with fail
  generalize hX : (((w3.alloc _).alloc _).alloc _) = X0 at st ⊢
  have sX : w3.heap.size + 1 + 1 + 1 = X0.heap.size := by rw [← hX]; simp only [World.size_alloc]
  go_region_held3 (fun w' => Below X0.heap.size X0 w' ∧ Fit w w' ∧ (w'.cell? ⟨w3.heap.size, 0, none⟩ = some (.int .i64 (3)) ∧ w'.cell? ⟨w3.heap.size, 1, none⟩ = some (.int .i64 (0)) ∧ w'.cell? ⟨w3.heap.size, 2, none⟩ = some (.int .i64 0) ∧ w'.cell? ⟨w3.heap.size, 3, none⟩ = some (.bool false) ∧ w'.cell? ⟨w3.heap.size, 4, none⟩ = some (.string (cut a)) ∧ w'.cell? ⟨w3.heap.size, 5, none⟩ = some (.string ⟨#[]⟩) ∧ w'.cell? ⟨w3.heap.size, 6, none⟩ = some (.int .i64 0) ∧ w'.cell? ⟨w3.heap.size, 7, none⟩ = some (.slice none 0 0) ∧ w'.cell? ⟨w3.heap.size, 8, none⟩ = some (.slice none 0 0) ∧ w'.cell? ⟨w3.heap.size, 9, none⟩ = some (.slice none 0 0)) ∧ (w'.cell? ⟨w3.heap.size + 1, 0, none⟩ = some (.int .i64 (3)) ∧ w'.cell? ⟨w3.heap.size + 1, 1, none⟩ = some (.int .i64 (0)) ∧ w'.cell? ⟨w3.heap.size + 1, 2, none⟩ = some (.int .i64 0) ∧ w'.cell? ⟨w3.heap.size + 1, 3, none⟩ = some (.bool false) ∧ w'.cell? ⟨w3.heap.size + 1, 4, none⟩ = some (.string (cut b)) ∧ w'.cell? ⟨w3.heap.size + 1, 5, none⟩ = some (.string ⟨#[]⟩) ∧ w'.cell? ⟨w3.heap.size + 1, 6, none⟩ = some (.int .i64 0) ∧ w'.cell? ⟨w3.heap.size + 1, 7, none⟩ = some (.slice none 0 0) ∧ w'.cell? ⟨w3.heap.size + 1, 8, none⟩ = some (.slice none 0 0) ∧ w'.cell? ⟨w3.heap.size + 1, 9, none⟩ = some (.slice none 0 0)) ∧ (w'.cell? ⟨w3.heap.size + 1 + 1, 0, none⟩ = some (.int .i64 (3)) ∧ w'.cell? ⟨w3.heap.size + 1 + 1, 1, none⟩ = some (.int .i64 (0)) ∧ w'.cell? ⟨w3.heap.size + 1 + 1, 2, none⟩ = some (.int .i64 0) ∧ w'.cell? ⟨w3.heap.size + 1 + 1, 3, none⟩ = some (.bool false) ∧ w'.cell? ⟨w3.heap.size + 1 + 1, 4, none⟩ = some (.string (cut c)) ∧ w'.cell? ⟨w3.heap.size + 1 + 1, 5, none⟩ = some (.string ⟨#[]⟩) ∧ w'.cell? ⟨w3.heap.size + 1 + 1, 6, none⟩ = some (.int .i64 0) ∧ w'.cell? ⟨w3.heap.size + 1 + 1, 7, none⟩ = some (.slice none 0 0) ∧ w'.cell? ⟨w3.heap.size + 1 + 1, 8, none⟩ = some (.slice none 0 0) ∧ w'.cell? ⟨w3.heap.size + 1 + 1, 9, none⟩ = some (.slice none 0 0)) ∧ (w'.cell? ⟨w3.heap.size, 0, none⟩ = some (.int .i64 (3)) ∧ w'.cell? ⟨w3.heap.size, 1, none⟩ = some (.int .i64 (0)) ∧ w'.cell? ⟨w3.heap.size, 2, none⟩ = some (.int .i64 0) ∧ w'.cell? ⟨w3.heap.size, 3, none⟩ = some (.bool false) ∧ w'.cell? ⟨w3.heap.size, 4, none⟩ = some (.string (cut a)) ∧ w'.cell? ⟨w3.heap.size, 5, none⟩ = some (.string ⟨#[]⟩) ∧ w'.cell? ⟨w3.heap.size, 6, none⟩ = some (.int .i64 0) ∧ w'.cell? ⟨w3.heap.size, 7, none⟩ = some (.slice none 0 0) ∧ w'.cell? ⟨w3.heap.size, 8, none⟩ = some (.slice none 0 0) ∧ w'.cell? ⟨w3.heap.size, 9, none⟩ = some (.slice none 0 0)))
    ((refine (Sb.mk st ?_ : @Sb X0 w (w3.heap.size) (3) (0) (cut a) (w3.heap.size + 1) (3) (0) (cut b) (w3.heap.size + 1 + 1) (3) (0) (cut c) (w3.heap.size) (3) (0) (cut a) _); first | (with_reducible exact (Below.refl _ _).drew) | (with_reducible exact ((Below.refl _ _).alloc (Nat.le_refl _) _).drew) | (with_reducible exact below_call (by assumption) (by assumption)) | (with_reducible exact below_realloc (by assumption) (by omega) _) | (with_reducible exact Below.alloc (And.left (by assumption)) (by first | omega | exact (And.left (by assumption)).size) _) | ((repeat' (with_reducible refine Below.setCell ?_ ?_ _)) <;> first | (exact Nat.le_refl X0.heap.size) | omega | (with_reducible exact And.left (by assumption)))))
    (first
      | (go_at_call 21; refine (two_str _ _ _ ?_).mono ?_; (exact Fit.gw (w := w) (And.left (And.right (by assumption)))); rintro e w' ⟨rfl, hb⟩; have sz := hb.size; (try simp only [World.size_alloc, World.size_drew] at sz); first | (have zb := zb_next hb (by with_reducible assumption)) | (have zb := zb_new hb; dsimp only at zb) | (have zb := zb_newd hb; dsimp only at zb) | skip))
  · rename_i hH
    have st1 : St w w3.heap.size 3 0 (cut a) (w3.heap.size + 1) 3 0 (cut b) (w3.heap.size + 1 + 1) 3 0 (cut c) w'.heap.size 3 0 (cut (cut (cut a ++ cut b) ++ cut c)) _ := ⟨hH.2.1, hH.2.2.1, hH.2.2.2.1, hH.2.2.2.2.1, cells_new w' 3 0 _ 28⟩
    have lg := World.block_lt_of_cell? _ _ st1.2.2.2.2.1
    dsimp only at lg
    clear hH
    generalize hX1 : (World.alloc w' _) = X1 at st1 lg ⊢
    generalize hg1 : w'.heap.size = g1 at st1 lg ⊢
    clear hb st hX1 hg1
    go_wp2_with fail
    go_region_held3 (fun w' => Below X1.heap.size X1 w' ∧ Fit w w' ∧ (w'.cell? ⟨w3.heap.size, 0, none⟩ = some (.int .i64 (3)) ∧ w'.cell? ⟨w3.heap.size, 1, none⟩ = some (.int .i64 (0)) ∧ w'.cell? ⟨w3.heap.size, 2, none⟩ = some (.int .i64 0) ∧ w'.cell? ⟨w3.heap.size, 3, none⟩ = some (.bool false) ∧ w'.cell? ⟨w3.heap.size, 4, none⟩ = some (.string (cut a)) ∧ w'.cell? ⟨w3.heap.size, 5, none⟩ = some (.string ⟨#[]⟩) ∧ w'.cell? ⟨w3.heap.size, 6, none⟩ = some (.int .i64 0) ∧ w'.cell? ⟨w3.heap.size, 7, none⟩ = some (.slice none 0 0) ∧ w'.cell? ⟨w3.heap.size, 8, none⟩ = some (.slice none 0 0) ∧ w'.cell? ⟨w3.heap.size, 9, none⟩ = some (.slice none 0 0)) ∧ (w'.cell? ⟨w3.heap.size + 1, 0, none⟩ = some (.int .i64 (3)) ∧ w'.cell? ⟨w3.heap.size + 1, 1, none⟩ = some (.int .i64 (0)) ∧ w'.cell? ⟨w3.heap.size + 1, 2, none⟩ = some (.int .i64 0) ∧ w'.cell? ⟨w3.heap.size + 1, 3, none⟩ = some (.bool false) ∧ w'.cell? ⟨w3.heap.size + 1, 4, none⟩ = some (.string (cut b)) ∧ w'.cell? ⟨w3.heap.size + 1, 5, none⟩ = some (.string ⟨#[]⟩) ∧ w'.cell? ⟨w3.heap.size + 1, 6, none⟩ = some (.int .i64 0) ∧ w'.cell? ⟨w3.heap.size + 1, 7, none⟩ = some (.slice none 0 0) ∧ w'.cell? ⟨w3.heap.size + 1, 8, none⟩ = some (.slice none 0 0) ∧ w'.cell? ⟨w3.heap.size + 1, 9, none⟩ = some (.slice none 0 0)) ∧ (w'.cell? ⟨w3.heap.size + 1 + 1, 0, none⟩ = some (.int .i64 (3)) ∧ w'.cell? ⟨w3.heap.size + 1 + 1, 1, none⟩ = some (.int .i64 (0)) ∧ w'.cell? ⟨w3.heap.size + 1 + 1, 2, none⟩ = some (.int .i64 0) ∧ w'.cell? ⟨w3.heap.size + 1 + 1, 3, none⟩ = some (.bool false) ∧ w'.cell? ⟨w3.heap.size + 1 + 1, 4, none⟩ = some (.string (cut c)) ∧ w'.cell? ⟨w3.heap.size + 1 + 1, 5, none⟩ = some (.string ⟨#[]⟩) ∧ w'.cell? ⟨w3.heap.size + 1 + 1, 6, none⟩ = some (.int .i64 0) ∧ w'.cell? ⟨w3.heap.size + 1 + 1, 7, none⟩ = some (.slice none 0 0) ∧ w'.cell? ⟨w3.heap.size + 1 + 1, 8, none⟩ = some (.slice none 0 0) ∧ w'.cell? ⟨w3.heap.size + 1 + 1, 9, none⟩ = some (.slice none 0 0)) ∧ (w'.cell? ⟨g1, 0, none⟩ = some (.int .i64 (3)) ∧ w'.cell? ⟨g1, 1, none⟩ = some (.int .i64 (0)) ∧ w'.cell? ⟨g1, 2, none⟩ = some (.int .i64 0) ∧ w'.cell? ⟨g1, 3, none⟩ = some (.bool false) ∧ w'.cell? ⟨g1, 4, none⟩ = some (.string (cut (cut (cut a ++ cut b) ++ cut c))) ∧ w'.cell? ⟨g1, 5, none⟩ = some (.string ⟨#[]⟩) ∧ w'.cell? ⟨g1, 6, none⟩ = some (.int .i64 0) ∧ w'.cell? ⟨g1, 7, none⟩ = some (.slice none 0 0) ∧ w'.cell? ⟨g1, 8, none⟩ = some (.slice none 0 0) ∧ w'.cell? ⟨g1, 9, none⟩ = some (.slice none 0 0)))
      ((refine (Sb.mk st1 ?_ : @Sb X1 w (w3.heap.size) (3) (0) (cut a) (w3.heap.size + 1) (3) (0) (cut b) (w3.heap.size + 1 + 1) (3) (0) (cut c) (g1) (3) (0) (cut (cut (cut a ++ cut b) ++ cut c)) _); first | (with_reducible exact (Below.refl _ _).drew) | (with_reducible exact ((Below.refl _ _).alloc (Nat.le_refl _) _).drew) | (with_reducible exact below_call (by assumption) (by assumption)) | (with_reducible exact below_realloc (by assumption) (by omega) _) | (with_reducible exact Below.alloc (And.left (by assumption)) (by first | omega | exact (And.left (by assumption)).size) _) | ((repeat' (with_reducible refine Below.setCell ?_ ?_ _)) <;> first | (exact Nat.le_refl X1.heap.size) | omega | (with_reducible exact And.left (by assumption)))))
      (first
        | (go_at_call 21; refine (two_str _ _ _ ?_).mono ?_; (exact Fit.gw (w := w) (And.left (And.right (by assumption)))); rintro e w' ⟨rfl, hb⟩; have sz := hb.size; (try simp only [World.size_alloc, World.size_drew] at sz); first | (have zb := zb_next hb (by with_reducible assumption)) | (have zb := zb_new hb; dsimp only at zb) | (have zb := zb_newd hb; dsimp only at zb) | skip))
    · rename_i hH
      have st2 : Two w g1 (cut (cut (cut a ++ cut b) ++ cut c)) w'.heap.size (cut (cut a ++ cut (cut b ++ cut c))) _ := ⟨hH.2.1, hH.2.2.2.2.2, cells_new w' 3 0 _ 28⟩
      clear hH
      generalize hX2 : (World.alloc w' _) = X2 at st2 ⊢
      generalize hg2 : w'.heap.size = g2 at st2 ⊢
      clear hX2 hg2 st1
      obtain ⟨f2, cv, cu⟩ := st2
      rw [left_is] at cv
      rw [right_is] at cu
      go_wp2_with fail
      go_call (same_eq 3 0 0 (cut (a ++ b ++ c)) (cut (a ++ b ++ c)) rfl rfl) as e w5 ⟨he, hb5⟩
      subst he
      have cv5 := cells_next hb5 cv
      have f5 := f2.next hb5
      by_cases hs : a.size + b.size + c.size ≤ 256
      · have hq : cut (a ++ b ++ c) = a ++ b ++ c := cut_all _ (by simpa [ByteArray.size_append] using hs)
        rw [hq] at cv5
        go_wp2_with fail
        go_call (awake_c w5 f5.gw) as e w6 ⟨he, hb6⟩
        subst he
        go_wp2
        go_returns
        exact ⟨rfl, (f5.next hb6).bel⟩
      · have hz := cut_size (a ++ b ++ c)
        have hy : decide (((cut (a ++ b ++ c)).size : Int) ≤ 256) = true := decide_eq_true (by omega)
        have hx : decide (256 < (a.size : Int) + (b.size : Int) + (c.size : Int)) = true := decide_eq_true (by omega)
        go_wp2_with fail
        go_call (awake_c w5 f5.gw) as e w6 ⟨he, hb6⟩
        subst he
        go_wp2
        go_returns
        exact ⟨rfl, (f5.next hb6).bel⟩
    · rename_i wa _ _ hH
      have st2 : Two w g1 (cut (cut (cut a ++ cut b) ++ cut c)) wa.heap.size (cut (cut a ++ cut (cut b ++ cut c))) _ := ⟨hH.2.1, hH.2.2.2.2.2, box_set zb rfl⟩
      clear hH
      generalize hX2 : (World.setCell (World.setCell _ _ _) ⟨_, 9, none⟩ _) = X2 at st2 ⊢
      generalize hg2 : wa.heap.size = g2 at st2 ⊢
      clear hX2 hg2 st1
      obtain ⟨f2, cv, cu⟩ := st2
      rw [left_is] at cv
      rw [right_is] at cu
      go_wp2_with fail
      go_call (same_eq 3 0 0 (cut (a ++ b ++ c)) (cut (a ++ b ++ c)) rfl rfl) as e w5 ⟨he, hb5⟩
      subst he
      have cv5 := cells_next hb5 cv
      have f5 := f2.next hb5
      by_cases hs : a.size + b.size + c.size ≤ 256
      · have hq : cut (a ++ b ++ c) = a ++ b ++ c := cut_all _ (by simpa [ByteArray.size_append] using hs)
        rw [hq] at cv5
        go_wp2_with fail
        go_call (awake_c w5 f5.gw) as e w6 ⟨he, hb6⟩
        subst he
        go_wp2
        go_returns
        exact ⟨rfl, (f5.next hb6).bel⟩
      · have hz := cut_size (a ++ b ++ c)
        have hy : decide (((cut (a ++ b ++ c)).size : Int) ≤ 256) = true := decide_eq_true (by omega)
        have hx : decide (256 < (a.size : Int) + (b.size : Int) + (c.size : Int)) = true := decide_eq_true (by omega)
        go_wp2_with fail
        go_call (awake_c w5 f5.gw) as e w6 ⟨he, hb6⟩
        subst he
        go_wp2
        go_returns
        exact ⟨rfl, (f5.next hb6).bel⟩
    · rename_i wa _ _ _ hH
      have st2 : Two w g1 (cut (cut (cut a ++ cut b) ++ cut c)) X1.heap.size (cut (cut a ++ cut (cut b ++ cut c))) _ := ⟨hH.2.1, hH.2.2.2.2.2, box_set zb rfl⟩
      clear hH
      generalize hX2 : (World.setCell (World.setCell _ _ _) ⟨_, 9, none⟩ _) = X2 at st2 ⊢
      generalize hg2 : X1.heap.size = g2 at st2 ⊢
      clear hX2 hg2 st1
      obtain ⟨f2, cv, cu⟩ := st2
      rw [left_is] at cv
      rw [right_is] at cu
      go_wp2_with fail
      go_call (same_eq 3 0 0 (cut (a ++ b ++ c)) (cut (a ++ b ++ c)) rfl rfl) as e w5 ⟨he, hb5⟩
      subst he
      have cv5 := cells_next hb5 cv
      have f5 := f2.next hb5
      by_cases hs : a.size + b.size + c.size ≤ 256
      · have hq : cut (a ++ b ++ c) = a ++ b ++ c := cut_all _ (by simpa [ByteArray.size_append] using hs)
        rw [hq] at cv5
        go_wp2_with fail
        go_call (awake_c w5 f5.gw) as e w6 ⟨he, hb6⟩
        subst he
        go_wp2
        go_returns
        exact ⟨rfl, (f5.next hb6).bel⟩
      · have hz := cut_size (a ++ b ++ c)
        have hy : decide (((cut (a ++ b ++ c)).size : Int) ≤ 256) = true := decide_eq_true (by omega)
        have hx : decide (256 < (a.size : Int) + (b.size : Int) + (c.size : Int)) = true := decide_eq_true (by omega)
        go_wp2_with fail
        go_call (awake_c w5 f5.gw) as e w6 ⟨he, hb6⟩
        subst he
        go_wp2
        go_returns
        exact ⟨rfl, (f5.next hb6).bel⟩
  · rename_i wa _ _ hH
    have st1 : St w w3.heap.size 3 0 (cut a) (w3.heap.size + 1) 3 0 (cut b) (w3.heap.size + 1 + 1) 3 0 (cut c) wa.heap.size 3 0 (cut (cut (cut a ++ cut b) ++ cut c)) _ := ⟨hH.2.1, hH.2.2.1, hH.2.2.2.1, hH.2.2.2.2.1, box_set zb rfl⟩
    have lg := World.block_lt_of_cell? _ _ st1.2.2.2.2.1
    dsimp only at lg
    clear hH
    generalize hX1 : (World.setCell (World.setCell _ _ _) ⟨_, 9, none⟩ _) = X1 at st1 lg ⊢
    generalize hg1 : wa.heap.size = g1 at st1 lg ⊢
    clear hb st hX1 hg1
    go_wp2_with fail
    go_region_held3 (fun w' => Below X1.heap.size X1 w' ∧ Fit w w' ∧ (w'.cell? ⟨w3.heap.size, 0, none⟩ = some (.int .i64 (3)) ∧ w'.cell? ⟨w3.heap.size, 1, none⟩ = some (.int .i64 (0)) ∧ w'.cell? ⟨w3.heap.size, 2, none⟩ = some (.int .i64 0) ∧ w'.cell? ⟨w3.heap.size, 3, none⟩ = some (.bool false) ∧ w'.cell? ⟨w3.heap.size, 4, none⟩ = some (.string (cut a)) ∧ w'.cell? ⟨w3.heap.size, 5, none⟩ = some (.string ⟨#[]⟩) ∧ w'.cell? ⟨w3.heap.size, 6, none⟩ = some (.int .i64 0) ∧ w'.cell? ⟨w3.heap.size, 7, none⟩ = some (.slice none 0 0) ∧ w'.cell? ⟨w3.heap.size, 8, none⟩ = some (.slice none 0 0) ∧ w'.cell? ⟨w3.heap.size, 9, none⟩ = some (.slice none 0 0)) ∧ (w'.cell? ⟨w3.heap.size + 1, 0, none⟩ = some (.int .i64 (3)) ∧ w'.cell? ⟨w3.heap.size + 1, 1, none⟩ = some (.int .i64 (0)) ∧ w'.cell? ⟨w3.heap.size + 1, 2, none⟩ = some (.int .i64 0) ∧ w'.cell? ⟨w3.heap.size + 1, 3, none⟩ = some (.bool false) ∧ w'.cell? ⟨w3.heap.size + 1, 4, none⟩ = some (.string (cut b)) ∧ w'.cell? ⟨w3.heap.size + 1, 5, none⟩ = some (.string ⟨#[]⟩) ∧ w'.cell? ⟨w3.heap.size + 1, 6, none⟩ = some (.int .i64 0) ∧ w'.cell? ⟨w3.heap.size + 1, 7, none⟩ = some (.slice none 0 0) ∧ w'.cell? ⟨w3.heap.size + 1, 8, none⟩ = some (.slice none 0 0) ∧ w'.cell? ⟨w3.heap.size + 1, 9, none⟩ = some (.slice none 0 0)) ∧ (w'.cell? ⟨w3.heap.size + 1 + 1, 0, none⟩ = some (.int .i64 (3)) ∧ w'.cell? ⟨w3.heap.size + 1 + 1, 1, none⟩ = some (.int .i64 (0)) ∧ w'.cell? ⟨w3.heap.size + 1 + 1, 2, none⟩ = some (.int .i64 0) ∧ w'.cell? ⟨w3.heap.size + 1 + 1, 3, none⟩ = some (.bool false) ∧ w'.cell? ⟨w3.heap.size + 1 + 1, 4, none⟩ = some (.string (cut c)) ∧ w'.cell? ⟨w3.heap.size + 1 + 1, 5, none⟩ = some (.string ⟨#[]⟩) ∧ w'.cell? ⟨w3.heap.size + 1 + 1, 6, none⟩ = some (.int .i64 0) ∧ w'.cell? ⟨w3.heap.size + 1 + 1, 7, none⟩ = some (.slice none 0 0) ∧ w'.cell? ⟨w3.heap.size + 1 + 1, 8, none⟩ = some (.slice none 0 0) ∧ w'.cell? ⟨w3.heap.size + 1 + 1, 9, none⟩ = some (.slice none 0 0)) ∧ (w'.cell? ⟨g1, 0, none⟩ = some (.int .i64 (3)) ∧ w'.cell? ⟨g1, 1, none⟩ = some (.int .i64 (0)) ∧ w'.cell? ⟨g1, 2, none⟩ = some (.int .i64 0) ∧ w'.cell? ⟨g1, 3, none⟩ = some (.bool false) ∧ w'.cell? ⟨g1, 4, none⟩ = some (.string (cut (cut (cut a ++ cut b) ++ cut c))) ∧ w'.cell? ⟨g1, 5, none⟩ = some (.string ⟨#[]⟩) ∧ w'.cell? ⟨g1, 6, none⟩ = some (.int .i64 0) ∧ w'.cell? ⟨g1, 7, none⟩ = some (.slice none 0 0) ∧ w'.cell? ⟨g1, 8, none⟩ = some (.slice none 0 0) ∧ w'.cell? ⟨g1, 9, none⟩ = some (.slice none 0 0)))
      ((refine (Sb.mk st1 ?_ : @Sb X1 w (w3.heap.size) (3) (0) (cut a) (w3.heap.size + 1) (3) (0) (cut b) (w3.heap.size + 1 + 1) (3) (0) (cut c) (g1) (3) (0) (cut (cut (cut a ++ cut b) ++ cut c)) _); first | (with_reducible exact (Below.refl _ _).drew) | (with_reducible exact ((Below.refl _ _).alloc (Nat.le_refl _) _).drew) | (with_reducible exact below_call (by assumption) (by assumption)) | (with_reducible exact below_realloc (by assumption) (by omega) _) | (with_reducible exact Below.alloc (And.left (by assumption)) (by first | omega | exact (And.left (by assumption)).size) _) | ((repeat' (with_reducible refine Below.setCell ?_ ?_ _)) <;> first | (exact Nat.le_refl X1.heap.size) | omega | (with_reducible exact And.left (by assumption)))))
      (first
        | (go_at_call 21; refine (two_str _ _ _ ?_).mono ?_; (exact Fit.gw (w := w) (And.left (And.right (by assumption)))); rintro e w' ⟨rfl, hb⟩; have sz := hb.size; (try simp only [World.size_alloc, World.size_drew] at sz); first | (have zb := zb_next hb (by with_reducible assumption)) | (have zb := zb_new hb; dsimp only at zb) | (have zb := zb_newd hb; dsimp only at zb) | skip))
    · rename_i hH
      have st2 : Two w g1 (cut (cut (cut a ++ cut b) ++ cut c)) w'.heap.size (cut (cut a ++ cut (cut b ++ cut c))) _ := ⟨hH.2.1, hH.2.2.2.2.2, cells_new w' 3 0 _ 28⟩
      clear hH
      generalize hX2 : (World.alloc w' _) = X2 at st2 ⊢
      generalize hg2 : w'.heap.size = g2 at st2 ⊢
      clear hX2 hg2 st1
      obtain ⟨f2, cv, cu⟩ := st2
      rw [left_is] at cv
      rw [right_is] at cu
      go_wp2_with fail
      go_call (same_eq 3 0 0 (cut (a ++ b ++ c)) (cut (a ++ b ++ c)) rfl rfl) as e w5 ⟨he, hb5⟩
      subst he
      have cv5 := cells_next hb5 cv
      have f5 := f2.next hb5
      by_cases hs : a.size + b.size + c.size ≤ 256
      · have hq : cut (a ++ b ++ c) = a ++ b ++ c := cut_all _ (by simpa [ByteArray.size_append] using hs)
        rw [hq] at cv5
        go_wp2_with fail
        go_call (awake_c w5 f5.gw) as e w6 ⟨he, hb6⟩
        subst he
        go_wp2
        go_returns
        exact ⟨rfl, (f5.next hb6).bel⟩
      · have hz := cut_size (a ++ b ++ c)
        have hy : decide (((cut (a ++ b ++ c)).size : Int) ≤ 256) = true := decide_eq_true (by omega)
        have hx : decide (256 < (a.size : Int) + (b.size : Int) + (c.size : Int)) = true := decide_eq_true (by omega)
        go_wp2_with fail
        go_call (awake_c w5 f5.gw) as e w6 ⟨he, hb6⟩
        subst he
        go_wp2
        go_returns
        exact ⟨rfl, (f5.next hb6).bel⟩
    · rename_i wa _ _ hH
      have st2 : Two w g1 (cut (cut (cut a ++ cut b) ++ cut c)) wa.heap.size (cut (cut a ++ cut (cut b ++ cut c))) _ := ⟨hH.2.1, hH.2.2.2.2.2, box_set zb rfl⟩
      clear hH
      generalize hX2 : (World.setCell (World.setCell _ _ _) ⟨_, 9, none⟩ _) = X2 at st2 ⊢
      generalize hg2 : wa.heap.size = g2 at st2 ⊢
      clear hX2 hg2 st1
      obtain ⟨f2, cv, cu⟩ := st2
      rw [left_is] at cv
      rw [right_is] at cu
      go_wp2_with fail
      go_call (same_eq 3 0 0 (cut (a ++ b ++ c)) (cut (a ++ b ++ c)) rfl rfl) as e w5 ⟨he, hb5⟩
      subst he
      have cv5 := cells_next hb5 cv
      have f5 := f2.next hb5
      by_cases hs : a.size + b.size + c.size ≤ 256
      · have hq : cut (a ++ b ++ c) = a ++ b ++ c := cut_all _ (by simpa [ByteArray.size_append] using hs)
        rw [hq] at cv5
        go_wp2_with fail
        go_call (awake_c w5 f5.gw) as e w6 ⟨he, hb6⟩
        subst he
        go_wp2
        go_returns
        exact ⟨rfl, (f5.next hb6).bel⟩
      · have hz := cut_size (a ++ b ++ c)
        have hy : decide (((cut (a ++ b ++ c)).size : Int) ≤ 256) = true := decide_eq_true (by omega)
        have hx : decide (256 < (a.size : Int) + (b.size : Int) + (c.size : Int)) = true := decide_eq_true (by omega)
        go_wp2_with fail
        go_call (awake_c w5 f5.gw) as e w6 ⟨he, hb6⟩
        subst he
        go_wp2
        go_returns
        exact ⟨rfl, (f5.next hb6).bel⟩
    · rename_i wa _ _ _ hH
      have st2 : Two w g1 (cut (cut (cut a ++ cut b) ++ cut c)) X1.heap.size (cut (cut a ++ cut (cut b ++ cut c))) _ := ⟨hH.2.1, hH.2.2.2.2.2, box_set zb rfl⟩
      clear hH
      generalize hX2 : (World.setCell (World.setCell _ _ _) ⟨_, 9, none⟩ _) = X2 at st2 ⊢
      generalize hg2 : X1.heap.size = g2 at st2 ⊢
      clear hX2 hg2 st1
      obtain ⟨f2, cv, cu⟩ := st2
      rw [left_is] at cv
      rw [right_is] at cu
      go_wp2_with fail
      go_call (same_eq 3 0 0 (cut (a ++ b ++ c)) (cut (a ++ b ++ c)) rfl rfl) as e w5 ⟨he, hb5⟩
      subst he
      have cv5 := cells_next hb5 cv
      have f5 := f2.next hb5
      by_cases hs : a.size + b.size + c.size ≤ 256
      · have hq : cut (a ++ b ++ c) = a ++ b ++ c := cut_all _ (by simpa [ByteArray.size_append] using hs)
        rw [hq] at cv5
        go_wp2_with fail
        go_call (awake_c w5 f5.gw) as e w6 ⟨he, hb6⟩
        subst he
        go_wp2
        go_returns
        exact ⟨rfl, (f5.next hb6).bel⟩
      · have hz := cut_size (a ++ b ++ c)
        have hy : decide (((cut (a ++ b ++ c)).size : Int) ≤ 256) = true := decide_eq_true (by omega)
        have hx : decide (256 < (a.size : Int) + (b.size : Int) + (c.size : Int)) = true := decide_eq_true (by omega)
        go_wp2_with fail
        go_call (awake_c w5 f5.gw) as e w6 ⟨he, hb6⟩
        subst he
        go_wp2
        go_returns
        exact ⟨rfl, (f5.next hb6).bel⟩
  · rename_i wa _ _ _ hH
    have st1 : St w w3.heap.size 3 0 (cut a) (w3.heap.size + 1) 3 0 (cut b) (w3.heap.size + 1 + 1) 3 0 (cut c) X0.heap.size 3 0 (cut (cut (cut a ++ cut b) ++ cut c)) _ := ⟨hH.2.1, hH.2.2.1, hH.2.2.2.1, hH.2.2.2.2.1, box_set zb rfl⟩
    have lg := World.block_lt_of_cell? _ _ st1.2.2.2.2.1
    dsimp only at lg
    clear hH
    generalize hX1 : (World.setCell (World.setCell _ _ _) ⟨_, 9, none⟩ _) = X1 at st1 lg ⊢
    generalize hg1 : X0.heap.size = g1 at st1 lg ⊢
    clear hb st hX1 hg1
    go_wp2_with fail
    go_region_held3 (fun w' => Below X1.heap.size X1 w' ∧ Fit w w' ∧ (w'.cell? ⟨w3.heap.size, 0, none⟩ = some (.int .i64 (3)) ∧ w'.cell? ⟨w3.heap.size, 1, none⟩ = some (.int .i64 (0)) ∧ w'.cell? ⟨w3.heap.size, 2, none⟩ = some (.int .i64 0) ∧ w'.cell? ⟨w3.heap.size, 3, none⟩ = some (.bool false) ∧ w'.cell? ⟨w3.heap.size, 4, none⟩ = some (.string (cut a)) ∧ w'.cell? ⟨w3.heap.size, 5, none⟩ = some (.string ⟨#[]⟩) ∧ w'.cell? ⟨w3.heap.size, 6, none⟩ = some (.int .i64 0) ∧ w'.cell? ⟨w3.heap.size, 7, none⟩ = some (.slice none 0 0) ∧ w'.cell? ⟨w3.heap.size, 8, none⟩ = some (.slice none 0 0) ∧ w'.cell? ⟨w3.heap.size, 9, none⟩ = some (.slice none 0 0)) ∧ (w'.cell? ⟨w3.heap.size + 1, 0, none⟩ = some (.int .i64 (3)) ∧ w'.cell? ⟨w3.heap.size + 1, 1, none⟩ = some (.int .i64 (0)) ∧ w'.cell? ⟨w3.heap.size + 1, 2, none⟩ = some (.int .i64 0) ∧ w'.cell? ⟨w3.heap.size + 1, 3, none⟩ = some (.bool false) ∧ w'.cell? ⟨w3.heap.size + 1, 4, none⟩ = some (.string (cut b)) ∧ w'.cell? ⟨w3.heap.size + 1, 5, none⟩ = some (.string ⟨#[]⟩) ∧ w'.cell? ⟨w3.heap.size + 1, 6, none⟩ = some (.int .i64 0) ∧ w'.cell? ⟨w3.heap.size + 1, 7, none⟩ = some (.slice none 0 0) ∧ w'.cell? ⟨w3.heap.size + 1, 8, none⟩ = some (.slice none 0 0) ∧ w'.cell? ⟨w3.heap.size + 1, 9, none⟩ = some (.slice none 0 0)) ∧ (w'.cell? ⟨w3.heap.size + 1 + 1, 0, none⟩ = some (.int .i64 (3)) ∧ w'.cell? ⟨w3.heap.size + 1 + 1, 1, none⟩ = some (.int .i64 (0)) ∧ w'.cell? ⟨w3.heap.size + 1 + 1, 2, none⟩ = some (.int .i64 0) ∧ w'.cell? ⟨w3.heap.size + 1 + 1, 3, none⟩ = some (.bool false) ∧ w'.cell? ⟨w3.heap.size + 1 + 1, 4, none⟩ = some (.string (cut c)) ∧ w'.cell? ⟨w3.heap.size + 1 + 1, 5, none⟩ = some (.string ⟨#[]⟩) ∧ w'.cell? ⟨w3.heap.size + 1 + 1, 6, none⟩ = some (.int .i64 0) ∧ w'.cell? ⟨w3.heap.size + 1 + 1, 7, none⟩ = some (.slice none 0 0) ∧ w'.cell? ⟨w3.heap.size + 1 + 1, 8, none⟩ = some (.slice none 0 0) ∧ w'.cell? ⟨w3.heap.size + 1 + 1, 9, none⟩ = some (.slice none 0 0)) ∧ (w'.cell? ⟨g1, 0, none⟩ = some (.int .i64 (3)) ∧ w'.cell? ⟨g1, 1, none⟩ = some (.int .i64 (0)) ∧ w'.cell? ⟨g1, 2, none⟩ = some (.int .i64 0) ∧ w'.cell? ⟨g1, 3, none⟩ = some (.bool false) ∧ w'.cell? ⟨g1, 4, none⟩ = some (.string (cut (cut (cut a ++ cut b) ++ cut c))) ∧ w'.cell? ⟨g1, 5, none⟩ = some (.string ⟨#[]⟩) ∧ w'.cell? ⟨g1, 6, none⟩ = some (.int .i64 0) ∧ w'.cell? ⟨g1, 7, none⟩ = some (.slice none 0 0) ∧ w'.cell? ⟨g1, 8, none⟩ = some (.slice none 0 0) ∧ w'.cell? ⟨g1, 9, none⟩ = some (.slice none 0 0)))
      ((refine (Sb.mk st1 ?_ : @Sb X1 w (w3.heap.size) (3) (0) (cut a) (w3.heap.size + 1) (3) (0) (cut b) (w3.heap.size + 1 + 1) (3) (0) (cut c) (g1) (3) (0) (cut (cut (cut a ++ cut b) ++ cut c)) _); first | (with_reducible exact (Below.refl _ _).drew) | (with_reducible exact ((Below.refl _ _).alloc (Nat.le_refl _) _).drew) | (with_reducible exact below_call (by assumption) (by assumption)) | (with_reducible exact below_realloc (by assumption) (by omega) _) | (with_reducible exact Below.alloc (And.left (by assumption)) (by first | omega | exact (And.left (by assumption)).size) _) | ((repeat' (with_reducible refine Below.setCell ?_ ?_ _)) <;> first | (exact Nat.le_refl X1.heap.size) | omega | (with_reducible exact And.left (by assumption)))))
      (first
        | (go_at_call 21; refine (two_str _ _ _ ?_).mono ?_; (exact Fit.gw (w := w) (And.left (And.right (by assumption)))); rintro e w' ⟨rfl, hb⟩; have sz := hb.size; (try simp only [World.size_alloc, World.size_drew] at sz); first | (have zb := zb_next hb (by with_reducible assumption)) | (have zb := zb_new hb; dsimp only at zb) | (have zb := zb_newd hb; dsimp only at zb) | skip))
    · rename_i hH
      have st2 : Two w g1 (cut (cut (cut a ++ cut b) ++ cut c)) w'.heap.size (cut (cut a ++ cut (cut b ++ cut c))) _ := ⟨hH.2.1, hH.2.2.2.2.2, cells_new w' 3 0 _ 28⟩
      clear hH
      generalize hX2 : (World.alloc w' _) = X2 at st2 ⊢
      generalize hg2 : w'.heap.size = g2 at st2 ⊢
      clear hX2 hg2 st1
      obtain ⟨f2, cv, cu⟩ := st2
      rw [left_is] at cv
      rw [right_is] at cu
      go_wp2_with fail
      go_call (same_eq 3 0 0 (cut (a ++ b ++ c)) (cut (a ++ b ++ c)) rfl rfl) as e w5 ⟨he, hb5⟩
      subst he
      have cv5 := cells_next hb5 cv
      have f5 := f2.next hb5
      by_cases hs : a.size + b.size + c.size ≤ 256
      · have hq : cut (a ++ b ++ c) = a ++ b ++ c := cut_all _ (by simpa [ByteArray.size_append] using hs)
        rw [hq] at cv5
        go_wp2_with fail
        go_call (awake_c w5 f5.gw) as e w6 ⟨he, hb6⟩
        subst he
        go_wp2
        go_returns
        exact ⟨rfl, (f5.next hb6).bel⟩
      · have hz := cut_size (a ++ b ++ c)
        have hy : decide (((cut (a ++ b ++ c)).size : Int) ≤ 256) = true := decide_eq_true (by omega)
        have hx : decide (256 < (a.size : Int) + (b.size : Int) + (c.size : Int)) = true := decide_eq_true (by omega)
        go_wp2_with fail
        go_call (awake_c w5 f5.gw) as e w6 ⟨he, hb6⟩
        subst he
        go_wp2
        go_returns
        exact ⟨rfl, (f5.next hb6).bel⟩
    · rename_i wa _ _ hH
      have st2 : Two w g1 (cut (cut (cut a ++ cut b) ++ cut c)) wa.heap.size (cut (cut a ++ cut (cut b ++ cut c))) _ := ⟨hH.2.1, hH.2.2.2.2.2, box_set zb rfl⟩
      clear hH
      generalize hX2 : (World.setCell (World.setCell _ _ _) ⟨_, 9, none⟩ _) = X2 at st2 ⊢
      generalize hg2 : wa.heap.size = g2 at st2 ⊢
      clear hX2 hg2 st1
      obtain ⟨f2, cv, cu⟩ := st2
      rw [left_is] at cv
      rw [right_is] at cu
      go_wp2_with fail
      go_call (same_eq 3 0 0 (cut (a ++ b ++ c)) (cut (a ++ b ++ c)) rfl rfl) as e w5 ⟨he, hb5⟩
      subst he
      have cv5 := cells_next hb5 cv
      have f5 := f2.next hb5
      by_cases hs : a.size + b.size + c.size ≤ 256
      · have hq : cut (a ++ b ++ c) = a ++ b ++ c := cut_all _ (by simpa [ByteArray.size_append] using hs)
        rw [hq] at cv5
        go_wp2_with fail
        go_call (awake_c w5 f5.gw) as e w6 ⟨he, hb6⟩
        subst he
        go_wp2
        go_returns
        exact ⟨rfl, (f5.next hb6).bel⟩
      · have hz := cut_size (a ++ b ++ c)
        have hy : decide (((cut (a ++ b ++ c)).size : Int) ≤ 256) = true := decide_eq_true (by omega)
        have hx : decide (256 < (a.size : Int) + (b.size : Int) + (c.size : Int)) = true := decide_eq_true (by omega)
        go_wp2_with fail
        go_call (awake_c w5 f5.gw) as e w6 ⟨he, hb6⟩
        subst he
        go_wp2
        go_returns
        exact ⟨rfl, (f5.next hb6).bel⟩
    · rename_i wa _ _ _ hH
      have st2 : Two w g1 (cut (cut (cut a ++ cut b) ++ cut c)) X1.heap.size (cut (cut a ++ cut (cut b ++ cut c))) _ := ⟨hH.2.1, hH.2.2.2.2.2, box_set zb rfl⟩
      clear hH
      generalize hX2 : (World.setCell (World.setCell _ _ _) ⟨_, 9, none⟩ _) = X2 at st2 ⊢
      generalize hg2 : X1.heap.size = g2 at st2 ⊢
      clear hX2 hg2 st1
      obtain ⟨f2, cv, cu⟩ := st2
      rw [left_is] at cv
      rw [right_is] at cu
      go_wp2_with fail
      go_call (same_eq 3 0 0 (cut (a ++ b ++ c)) (cut (a ++ b ++ c)) rfl rfl) as e w5 ⟨he, hb5⟩
      subst he
      have cv5 := cells_next hb5 cv
      have f5 := f2.next hb5
      by_cases hs : a.size + b.size + c.size ≤ 256
      · have hq : cut (a ++ b ++ c) = a ++ b ++ c := cut_all _ (by simpa [ByteArray.size_append] using hs)
        rw [hq] at cv5
        go_wp2_with fail
        go_call (awake_c w5 f5.gw) as e w6 ⟨he, hb6⟩
        subst he
        go_wp2
        go_returns
        exact ⟨rfl, (f5.next hb6).bel⟩
      · have hz := cut_size (a ++ b ++ c)
        have hy : decide (((cut (a ++ b ++ c)).size : Int) ≤ 256) = true := decide_eq_true (by omega)
        have hx : decide (256 < (a.size : Int) + (b.size : Int) + (c.size : Int)) = true := decide_eq_true (by omega)
        go_wp2_with fail
        go_call (awake_c w5 f5.gw) as e w6 ⟨he, hb6⟩
        subst he
        go_wp2
        go_returns
        exact ⟨rfl, (f5.next hb6).bel⟩
end Go.Proofs.YtophddbbeechkaaDoor.W9
