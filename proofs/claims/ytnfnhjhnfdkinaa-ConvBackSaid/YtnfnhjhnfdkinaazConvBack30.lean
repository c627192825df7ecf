/-
  ConvBack: texts of this claim, put together by a program of this session. No conditions beyond what each lemma says.
-/
import Derived.Test.YtnfnhjhnfdkinaazConvBack27
namespace Go.Proofs.Ytnfnhjhnfdkinaa.PConvBack
open Go.RowKit Go.Proofs.YtnfnhjhnfdkinaaW.Mine Go.Proofs.YtnfnhjhnfdkinaaW.PrintWords Go.Proofs.YtnfnhjhnfdkinaaW.PrintLast Go.Proofs.YtnfnhjhnfdkinaaW.PrintMore
attribute [local go_sem] max2_int min2_int max_two min_two max_three min_three max_four min_four
set_option linter.unusedVariables false
set_option linter.unusedSimpArgs false
/-- Words of a value that are read. -/
inductive Okx : Vl → Prop
  | mk (x : Vl) (h6 : ∀ y, y ∈ x.f6 → Okw y) (h7 : ∀ y, y ∈ x.f7 → y.size ≤ 140737488351232) (hs : ∀ y, y ∈ x.f8 → Okx y) : Okx x
theorem Okx.types {x : Vl} (h : Okx x) : ∀ y, y ∈ x.f6 → Okw y := by cases h; assumption
theorem Okx.words {x : Vl} (h : Okx x) : ∀ y, y ∈ x.f7 → y.size ≤ 140737488351232 := by cases h; assumption
theorem Okx.all {x : Vl} (h : Okx x) : ∀ y, y ∈ x.f8 → Okx y := by cases h; assumption
def Own4 (x : Vl) : Prop := (x.f0 = 4 → x = ⟨4, 0, 0, false, ⟨#[]⟩, z52, [], x.f7, x.f8⟩) ∧ (x.f0 = 8 → x = ⟨8, x.f1, 0, false, ⟨#[]⟩, z52, [], [], x.f8⟩)
theorem empty_of {b : ByteArray} (h : b.toList = ([] : List UInt8)) : b = ⟨#[]⟩ := (text_iff _ _).1 (by unfold eqText; rw [h]; kernel_rfl)
theorem own_no {x : Vl} (h4 : ¬ x.f0 = 4) (h8 : ¬ x.f0 = 8) : Own4 x := ⟨fun h => absurd h h4, fun h => absurd h h8⟩
/-- A truth; if it is so, the value's own fields are right. -/
def OwOut (v : Vl) (w : World) (e : Ending) (w' : World) : Prop := ∃ b : Bool, e = .returned (.bool b) ∧ (b = true → Own4 v) ∧ Below w.heap.size w w'
theorem rrising_c {l : List ByteArray} (hl : l.length ≤ 140737488351232) (ho : ∀ y, y ∈ l → y.size ≤ 140737488351232) {A : Option Addr} {c : Nat} {w : World} (h : Kd.string.C w A l.length l) (hc : l.length ≤ c) :
    Calls Try.prog 76 #[.slice A l.length c] w fun e w' => ∃ b : Bool, e = .returned (.bool b) ∧ Below w.heap.size w w' := by
  obtain ⟨r, hr, _⟩ := rising_told l hl ho
  obtain ⟨k, hk⟩ := hr.rounds
  exact (limbeckref01_Rising.calls k _ _ l r _ h hc hk).mono fun e w' k => ⟨r, k⟩
set_option maxHeartbeats 8000000 in
set_option maxRecDepth 100000 in
theorem own_t1 (f0 : Int) (f1 : Int) (f2 : Int) (f3 : Bool) (f4 : ByteArray) (g0 : ByteArray) (g1 : Int) (f6 : List Ty) (f7 : List ByteArray) (f8 : List Vl) {A6 A7 A8 : Option Addr} {c6 c7 c8 : Nat} {w : World} (n3 : ¬ f0 = 3) (hf4 : ¬ f4.toList = []) :
    Calls Try.prog 82 #[.agg #[.int .i64 f0, .int .i64 f1, .int .i64 f2, .bool f3, .string f4, .string g0, .int .i64 g1, .slice A6 (f6 : List Ty).length c6, .slice A7 (f7 : List ByteArray).length c7, .slice A8 (f8 : List Vl).length c8]] w (OwOut ⟨f0, f1, f2, f3, f4, ⟨g0, g1⟩, f6, f7, f8⟩ w) := by
  have kV := blk_new w (.cells #[.int .i64 f0, .int .i64 f1, .int .i64 f2, .bool f3, .string f4, .string g0, .int .i64 g1, .slice A6 (f6 : List Ty).length c6, .slice A7 (f7 : List ByteArray).length c7, .slice A8 (f8 : List Vl).length c8] 55)
  have b0 := below_alloc1 w (.cells #[.int .i64 f0, .int .i64 f1, .int .i64 f2, .bool f3, .string f4, .string g0, .int .i64 g1, .slice A6 (f6 : List Ty).length c6, .slice A7 (f7 : List ByteArray).length c7, .slice A8 (f8 : List Vl).length c8] 55)
  obtain ⟨⟨v0, v1, v2, v3, v4, v5, v6, v7, v8, v9⟩, _, lv⟩ := ten kV
  have B0 := Aside0.mk b0
  have d3b : (f0 == 3) = false := beq_eq_false_iff_ne.2 n3
  have d3c : (f0 != 3) = true := by rw [bne, d3b]; rfl
  have d3a : decide (f0 = 3) = false := decide_eq_false n3
  have qf4a : (f4.toList == ([] : List UInt8)) = false := beq_eq_false_iff_ne.2 hf4
  have qf4b : (f4.toList != ([] : List UInt8)) = true := by rw [bne, qf4a]; rfl
  clear kV b0
  go_enter Try.func82, Try.ntmps82
  go_wp2
  go_ret
  exact ⟨false, rfl, (fun h => absurd h (by decide)), B0.out⟩
set_option maxHeartbeats 8000000 in
set_option maxRecDepth 100000 in
theorem own_t2a (f1 : Int) (f2 : Int) (f3 : Bool) (f4 : ByteArray) (g0 : ByteArray) (g1 : Int) (f6 : List Ty) (a_ : ByteArray) (xs : List ByteArray) (f8 : List Vl) {A6 A7 A8 : Option Addr} {c6 c7 c8 : Nat} {w : World}  (hx : (xs.length : Int) ≥ 0) :
    Calls Try.prog 82 #[.agg #[.int .i64 3, .int .i64 f1, .int .i64 f2, .bool f3, .string f4, .string g0, .int .i64 g1, .slice A6 (f6 : List Ty).length c6, .slice A7 ((a_ :: xs) : List ByteArray).length c7, .slice A8 (f8 : List Vl).length c8]] w (OwOut ⟨3, f1, f2, f3, f4, ⟨g0, g1⟩, f6, (a_ :: xs), f8⟩ w) := by
  have kV := blk_new w (.cells #[.int .i64 3, .int .i64 f1, .int .i64 f2, .bool f3, .string f4, .string g0, .int .i64 g1, .slice A6 (f6 : List Ty).length c6, .slice A7 ((a_ :: xs) : List ByteArray).length c7, .slice A8 (f8 : List Vl).length c8] 55)
  have b0 := below_alloc1 w (.cells #[.int .i64 3, .int .i64 f1, .int .i64 f2, .bool f3, .string f4, .string g0, .int .i64 g1, .slice A6 (f6 : List Ty).length c6, .slice A7 ((a_ :: xs) : List ByteArray).length c7, .slice A8 (f8 : List Vl).length c8] 55)
  obtain ⟨⟨v0, v1, v2, v3, v4, v5, v6, v7, v8, v9⟩, _, lv⟩ := ten kV
  have B0 := Aside0.mk b0
  have hp : decide ((xs.length : Int) + 1 > 0) = true := decide_eq_true (by omega)
  have hp2 : decide (0 < (xs.length : Int) + 1) = true := decide_eq_true (by omega)
  clear kV b0
  go_enter Try.func82, Try.ntmps82
  go_wp2
  go_ret
  exact ⟨false, rfl, (fun h => absurd h (by decide)), B0.out⟩
set_option maxHeartbeats 8000000 in
set_option maxRecDepth 100000 in
theorem own_t2b (f0 : Int) (f1 : Int) (f2 : Int) (f3 : Bool) (g0 : ByteArray) (g1 : Int) (f6 : List Ty) (a_ : ByteArray) (xs : List ByteArray) (f8 : List Vl) {A6 A7 A8 : Option Addr} {c6 c7 c8 : Nat} {w : World} (n3 : ¬ f0 = 3) (n4 : ¬ f0 = 4) (hx : (xs.length : Int) ≥ 0) :
    Calls Try.prog 82 #[.agg #[.int .i64 f0, .int .i64 f1, .int .i64 f2, .bool f3, .string ⟨#[]⟩, .string g0, .int .i64 g1, .slice A6 (f6 : List Ty).length c6, .slice A7 ((a_ :: xs) : List ByteArray).length c7, .slice A8 (f8 : List Vl).length c8]] w (OwOut ⟨f0, f1, f2, f3, ⟨#[]⟩, ⟨g0, g1⟩, f6, (a_ :: xs), f8⟩ w) := by
  have kV := blk_new w (.cells #[.int .i64 f0, .int .i64 f1, .int .i64 f2, .bool f3, .string ⟨#[]⟩, .string g0, .int .i64 g1, .slice A6 (f6 : List Ty).length c6, .slice A7 ((a_ :: xs) : List ByteArray).length c7, .slice A8 (f8 : List Vl).length c8] 55)
  have b0 := below_alloc1 w (.cells #[.int .i64 f0, .int .i64 f1, .int .i64 f2, .bool f3, .string ⟨#[]⟩, .string g0, .int .i64 g1, .slice A6 (f6 : List Ty).length c6, .slice A7 ((a_ :: xs) : List ByteArray).length c7, .slice A8 (f8 : List Vl).length c8] 55)
  obtain ⟨⟨v0, v1, v2, v3, v4, v5, v6, v7, v8, v9⟩, _, lv⟩ := ten kV
  have B0 := Aside0.mk b0
  have d3b : (f0 == 3) = false := beq_eq_false_iff_ne.2 n3
  have d3c : (f0 != 3) = true := by rw [bne, d3b]; rfl
  have d3a : decide (f0 = 3) = false := decide_eq_false n3
  have d4b : (f0 == 4) = false := beq_eq_false_iff_ne.2 n4
  have d4c : (f0 != 4) = true := by rw [bne, d4b]; rfl
  have d4a : decide (f0 = 4) = false := decide_eq_false n4
  have hp : decide ((xs.length : Int) + 1 > 0) = true := decide_eq_true (by omega)
  have hp2 : decide (0 < (xs.length : Int) + 1) = true := decide_eq_true (by omega)
  clear kV b0
  go_enter Try.func82, Try.ntmps82
  go_wp2
  go_ret
  exact ⟨false, rfl, (fun h => absurd h (by decide)), B0.out⟩
set_option maxHeartbeats 8000000 in
set_option maxRecDepth 100000 in
theorem own_t3ax (f1 : Int) (f2 : Int) (f3 : Bool) (f4 : ByteArray) (g0 : ByteArray) (g1 : Int) (f6 : List Ty) (f8 : List Vl) {A6 A7 A8 : Option Addr} {c6 c7 c8 : Nat} {w : World}  (hg0 : ¬ g0.toList = []) :
    Calls Try.prog 82 #[.agg #[.int .i64 3, .int .i64 f1, .int .i64 f2, .bool f3, .string f4, .string g0, .int .i64 g1, .slice A6 (f6 : List Ty).length c6, .slice A7 ([] : List ByteArray).length c7, .slice A8 (f8 : List Vl).length c8]] w (OwOut ⟨3, f1, f2, f3, f4, ⟨g0, g1⟩, f6, [], f8⟩ w) := by
  have kV := blk_new w (.cells #[.int .i64 3, .int .i64 f1, .int .i64 f2, .bool f3, .string f4, .string g0, .int .i64 g1, .slice A6 (f6 : List Ty).length c6, .slice A7 ([] : List ByteArray).length c7, .slice A8 (f8 : List Vl).length c8] 55)
  have b0 := below_alloc1 w (.cells #[.int .i64 3, .int .i64 f1, .int .i64 f2, .bool f3, .string f4, .string g0, .int .i64 g1, .slice A6 (f6 : List Ty).length c6, .slice A7 ([] : List ByteArray).length c7, .slice A8 (f8 : List Vl).length c8] 55)
  obtain ⟨⟨v0, v1, v2, v3, v4, v5, v6, v7, v8, v9⟩, _, lv⟩ := ten kV
  have B0 := Aside0.mk b0
  have qg0a : (g0.toList == ([] : List UInt8)) = false := beq_eq_false_iff_ne.2 hg0
  have qg0b : (g0.toList != ([] : List UInt8)) = true := by rw [bne, qg0a]; rfl
  clear kV b0
  go_enter Try.func82, Try.ntmps82
  go_wp2
  go_ret
  exact ⟨false, rfl, (fun h => absurd h (by decide)), B0.out⟩
set_option maxHeartbeats 8000000 in
set_option maxRecDepth 100000 in
theorem own_t3ay (f1 : Int) (f2 : Int) (f3 : Bool) (f4 : ByteArray) (g1 : Int) (f6 : List Ty) (f8 : List Vl) {A6 A7 A8 : Option Addr} {c6 c7 c8 : Nat} {w : World}  (hg1 : ¬ g1 = 0) :
    Calls Try.prog 82 #[.agg #[.int .i64 3, .int .i64 f1, .int .i64 f2, .bool f3, .string f4, .string ⟨#[]⟩, .int .i64 g1, .slice A6 (f6 : List Ty).length c6, .slice A7 ([] : List ByteArray).length c7, .slice A8 (f8 : List Vl).length c8]] w (OwOut ⟨3, f1, f2, f3, f4, ⟨⟨#[]⟩, g1⟩, f6, [], f8⟩ w) := by
  have kV := blk_new w (.cells #[.int .i64 3, .int .i64 f1, .int .i64 f2, .bool f3, .string f4, .string ⟨#[]⟩, .int .i64 g1, .slice A6 (f6 : List Ty).length c6, .slice A7 ([] : List ByteArray).length c7, .slice A8 (f8 : List Vl).length c8] 55)
  have b0 := below_alloc1 w (.cells #[.int .i64 3, .int .i64 f1, .int .i64 f2, .bool f3, .string f4, .string ⟨#[]⟩, .int .i64 g1, .slice A6 (f6 : List Ty).length c6, .slice A7 ([] : List ByteArray).length c7, .slice A8 (f8 : List Vl).length c8] 55)
  obtain ⟨⟨v0, v1, v2, v3, v4, v5, v6, v7, v8, v9⟩, _, lv⟩ := ten kV
  have B0 := Aside0.mk b0
  have qg1a : (g1 == 0) = false := beq_eq_false_iff_ne.2 hg1
  have qg1b : (g1 != 0) = true := by rw [bne, qg1a]; rfl
  clear kV b0
  go_enter Try.func82, Try.ntmps82
  go_wp2
  go_ret
  exact ⟨false, rfl, (fun h => absurd h (by decide)), B0.out⟩
set_option maxHeartbeats 8000000 in
set_option maxRecDepth 100000 in
theorem own_t3bx (f1 : Int) (f2 : Int) (f3 : Bool) (g0 : ByteArray) (g1 : Int) (f6 : List Ty) (f7 : List ByteArray) (f8 : List Vl) {A6 A7 A8 : Option Addr} {c6 c7 c8 : Nat} {w : World}  (hg0 : ¬ g0.toList = []) :
    Calls Try.prog 82 #[.agg #[.int .i64 4, .int .i64 f1, .int .i64 f2, .bool f3, .string ⟨#[]⟩, .string g0, .int .i64 g1, .slice A6 (f6 : List Ty).length c6, .slice A7 (f7 : List ByteArray).length c7, .slice A8 (f8 : List Vl).length c8]] w (OwOut ⟨4, f1, f2, f3, ⟨#[]⟩, ⟨g0, g1⟩, f6, f7, f8⟩ w) := by
  have kV := blk_new w (.cells #[.int .i64 4, .int .i64 f1, .int .i64 f2, .bool f3, .string ⟨#[]⟩, .string g0, .int .i64 g1, .slice A6 (f6 : List Ty).length c6, .slice A7 (f7 : List ByteArray).length c7, .slice A8 (f8 : List Vl).length c8] 55)
  have b0 := below_alloc1 w (.cells #[.int .i64 4, .int .i64 f1, .int .i64 f2, .bool f3, .string ⟨#[]⟩, .string g0, .int .i64 g1, .slice A6 (f6 : List Ty).length c6, .slice A7 (f7 : List ByteArray).length c7, .slice A8 (f8 : List Vl).length c8] 55)
  obtain ⟨⟨v0, v1, v2, v3, v4, v5, v6, v7, v8, v9⟩, _, lv⟩ := ten kV
  have B0 := Aside0.mk b0
  have qg0a : (g0.toList == ([] : List UInt8)) = false := beq_eq_false_iff_ne.2 hg0
  have qg0b : (g0.toList != ([] : List UInt8)) = true := by rw [bne, qg0a]; rfl
  clear kV b0
  go_enter Try.func82, Try.ntmps82
  go_wp2
  go_ret
  exact ⟨false, rfl, (fun h => absurd h (by decide)), B0.out⟩
set_option maxHeartbeats 8000000 in
set_option maxRecDepth 100000 in
theorem own_t3by (f1 : Int) (f2 : Int) (f3 : Bool) (g1 : Int) (f6 : List Ty) (f7 : List ByteArray) (f8 : List Vl) {A6 A7 A8 : Option Addr} {c6 c7 c8 : Nat} {w : World}  (hg1 : ¬ g1 = 0) :
    Calls Try.prog 82 #[.agg #[.int .i64 4, .int .i64 f1, .int .i64 f2, .bool f3, .string ⟨#[]⟩, .string ⟨#[]⟩, .int .i64 g1, .slice A6 (f6 : List Ty).length c6, .slice A7 (f7 : List ByteArray).length c7, .slice A8 (f8 : List Vl).length c8]] w (OwOut ⟨4, f1, f2, f3, ⟨#[]⟩, ⟨⟨#[]⟩, g1⟩, f6, f7, f8⟩ w) := by
  have kV := blk_new w (.cells #[.int .i64 4, .int .i64 f1, .int .i64 f2, .bool f3, .string ⟨#[]⟩, .string ⟨#[]⟩, .int .i64 g1, .slice A6 (f6 : List Ty).length c6, .slice A7 (f7 : List ByteArray).length c7, .slice A8 (f8 : List Vl).length c8] 55)
  have b0 := below_alloc1 w (.cells #[.int .i64 4, .int .i64 f1, .int .i64 f2, .bool f3, .string ⟨#[]⟩, .string ⟨#[]⟩, .int .i64 g1, .slice A6 (f6 : List Ty).length c6, .slice A7 (f7 : List ByteArray).length c7, .slice A8 (f8 : List Vl).length c8] 55)
  obtain ⟨⟨v0, v1, v2, v3, v4, v5, v6, v7, v8, v9⟩, _, lv⟩ := ten kV
  have B0 := Aside0.mk b0
  have qg1a : (g1 == 0) = false := beq_eq_false_iff_ne.2 hg1
  have qg1b : (g1 != 0) = true := by rw [bne, qg1a]; rfl
  clear kV b0
  go_enter Try.func82, Try.ntmps82
  go_wp2
  go_ret
  exact ⟨false, rfl, (fun h => absurd h (by decide)), B0.out⟩
set_option maxHeartbeats 8000000 in
set_option maxRecDepth 100000 in
theorem own_t3cx (f0 : Int) (f1 : Int) (f2 : Int) (f3 : Bool) (g0 : ByteArray) (g1 : Int) (f6 : List Ty) (f8 : List Vl) {A6 A7 A8 : Option Addr} {c6 c7 c8 : Nat} {w : World} (n3 : ¬ f0 = 3) (n4 : ¬ f0 = 4) (n6 : ¬ f0 = 6) (hg0 : ¬ g0.toList = []) :
    Calls Try.prog 82 #[.agg #[.int .i64 f0, .int .i64 f1, .int .i64 f2, .bool f3, .string ⟨#[]⟩, .string g0, .int .i64 g1, .slice A6 (f6 : List Ty).length c6, .slice A7 ([] : List ByteArray).length c7, .slice A8 (f8 : List Vl).length c8]] w (OwOut ⟨f0, f1, f2, f3, ⟨#[]⟩, ⟨g0, g1⟩, f6, [], f8⟩ w) := by
  have kV := blk_new w (.cells #[.int .i64 f0, .int .i64 f1, .int .i64 f2, .bool f3, .string ⟨#[]⟩, .string g0, .int .i64 g1, .slice A6 (f6 : List Ty).length c6, .slice A7 ([] : List ByteArray).length c7, .slice A8 (f8 : List Vl).length c8] 55)
  have b0 := below_alloc1 w (.cells #[.int .i64 f0, .int .i64 f1, .int .i64 f2, .bool f3, .string ⟨#[]⟩, .string g0, .int .i64 g1, .slice A6 (f6 : List Ty).length c6, .slice A7 ([] : List ByteArray).length c7, .slice A8 (f8 : List Vl).length c8] 55)
  obtain ⟨⟨v0, v1, v2, v3, v4, v5, v6, v7, v8, v9⟩, _, lv⟩ := ten kV
  have B0 := Aside0.mk b0
  have d3b : (f0 == 3) = false := beq_eq_false_iff_ne.2 n3
  have d3c : (f0 != 3) = true := by rw [bne, d3b]; rfl
  have d3a : decide (f0 = 3) = false := decide_eq_false n3
  have d4b : (f0 == 4) = false := beq_eq_false_iff_ne.2 n4
  have d4c : (f0 != 4) = true := by rw [bne, d4b]; rfl
  have d4a : decide (f0 = 4) = false := decide_eq_false n4
  have d6b : (f0 == 6) = false := beq_eq_false_iff_ne.2 n6
  have d6c : (f0 != 6) = true := by rw [bne, d6b]; rfl
  have d6a : decide (f0 = 6) = false := decide_eq_false n6
  have qg0a : (g0.toList == ([] : List UInt8)) = false := beq_eq_false_iff_ne.2 hg0
  have qg0b : (g0.toList != ([] : List UInt8)) = true := by rw [bne, qg0a]; rfl
  clear kV b0
  go_enter Try.func82, Try.ntmps82
  go_wp2
  go_ret
  exact ⟨false, rfl, (fun h => absurd h (by decide)), B0.out⟩
set_option maxHeartbeats 8000000 in
set_option maxRecDepth 100000 in
theorem own_t3cy (f0 : Int) (f1 : Int) (f2 : Int) (f3 : Bool) (g1 : Int) (f6 : List Ty) (f8 : List Vl) {A6 A7 A8 : Option Addr} {c6 c7 c8 : Nat} {w : World} (n3 : ¬ f0 = 3) (n4 : ¬ f0 = 4) (n6 : ¬ f0 = 6) (hg1 : ¬ g1 = 0) :
    Calls Try.prog 82 #[.agg #[.int .i64 f0, .int .i64 f1, .int .i64 f2, .bool f3, .string ⟨#[]⟩, .string ⟨#[]⟩, .int .i64 g1, .slice A6 (f6 : List Ty).length c6, .slice A7 ([] : List ByteArray).length c7, .slice A8 (f8 : List Vl).length c8]] w (OwOut ⟨f0, f1, f2, f3, ⟨#[]⟩, ⟨⟨#[]⟩, g1⟩, f6, [], f8⟩ w) := by
  have kV := blk_new w (.cells #[.int .i64 f0, .int .i64 f1, .int .i64 f2, .bool f3, .string ⟨#[]⟩, .string ⟨#[]⟩, .int .i64 g1, .slice A6 (f6 : List Ty).length c6, .slice A7 ([] : List ByteArray).length c7, .slice A8 (f8 : List Vl).length c8] 55)
  have b0 := below_alloc1 w (.cells #[.int .i64 f0, .int .i64 f1, .int .i64 f2, .bool f3, .string ⟨#[]⟩, .string ⟨#[]⟩, .int .i64 g1, .slice A6 (f6 : List Ty).length c6, .slice A7 ([] : List ByteArray).length c7, .slice A8 (f8 : List Vl).length c8] 55)
  obtain ⟨⟨v0, v1, v2, v3, v4, v5, v6, v7, v8, v9⟩, _, lv⟩ := ten kV
  have B0 := Aside0.mk b0
  have d3b : (f0 == 3) = false := beq_eq_false_iff_ne.2 n3
  have d3c : (f0 != 3) = true := by rw [bne, d3b]; rfl
  have d3a : decide (f0 = 3) = false := decide_eq_false n3
  have d4b : (f0 == 4) = false := beq_eq_false_iff_ne.2 n4
  have d4c : (f0 != 4) = true := by rw [bne, d4b]; rfl
  have d4a : decide (f0 = 4) = false := decide_eq_false n4
  have d6b : (f0 == 6) = false := beq_eq_false_iff_ne.2 n6
  have d6c : (f0 != 6) = true := by rw [bne, d6b]; rfl
  have d6a : decide (f0 = 6) = false := decide_eq_false n6
  have qg1a : (g1 == 0) = false := beq_eq_false_iff_ne.2 hg1
  have qg1b : (g1 != 0) = true := by rw [bne, qg1a]; rfl
  clear kV b0
  go_enter Try.func82, Try.ntmps82
  go_wp2
  go_ret
  exact ⟨false, rfl, (fun h => absurd h (by decide)), B0.out⟩
set_option maxHeartbeats 8000000 in
set_option maxRecDepth 100000 in
theorem own_t4ax (f1 : Int) (f2 : Int) (f3 : Bool) (f4 : ByteArray) (f6 : List Ty) (f8 : List Vl) {A6 A7 A8 : Option Addr} {c6 c7 c8 : Nat} {w : World}  (hf2 : ¬ f2 = 0) :
    Calls Try.prog 82 #[.agg #[.int .i64 3, .int .i64 f1, .int .i64 f2, .bool f3, .string f4, .string ⟨#[]⟩, .int .i64 0, .slice A6 (f6 : List Ty).length c6, .slice A7 ([] : List ByteArray).length c7, .slice A8 (f8 : List Vl).length c8]] w (OwOut ⟨3, f1, f2, f3, f4, ⟨⟨#[]⟩, 0⟩, f6, [], f8⟩ w) := by
  have kV := blk_new w (.cells #[.int .i64 3, .int .i64 f1, .int .i64 f2, .bool f3, .string f4, .string ⟨#[]⟩, .int .i64 0, .slice A6 (f6 : List Ty).length c6, .slice A7 ([] : List ByteArray).length c7, .slice A8 (f8 : List Vl).length c8] 55)
  have b0 := below_alloc1 w (.cells #[.int .i64 3, .int .i64 f1, .int .i64 f2, .bool f3, .string f4, .string ⟨#[]⟩, .int .i64 0, .slice A6 (f6 : List Ty).length c6, .slice A7 ([] : List ByteArray).length c7, .slice A8 (f8 : List Vl).length c8] 55)
  obtain ⟨⟨v0, v1, v2, v3, v4, v5, v6, v7, v8, v9⟩, _, lv⟩ := ten kV
  have B0 := Aside0.mk b0
  have qf2a : (f2 == 0) = false := beq_eq_false_iff_ne.2 hf2
  have qf2b : (f2 != 0) = true := by rw [bne, qf2a]; rfl
  clear kV b0
  go_enter Try.func82, Try.ntmps82
  go_wp2
  go_ret
  exact ⟨false, rfl, (fun h => absurd h (by decide)), B0.out⟩
set_option maxHeartbeats 8000000 in
set_option maxRecDepth 100000 in
theorem own_t4ay (f1 : Int) (f4 : ByteArray) (f6 : List Ty) (f8 : List Vl) {A6 A7 A8 : Option Addr} {c6 c7 c8 : Nat} {w : World}  :
    Calls Try.prog 82 #[.agg #[.int .i64 3, .int .i64 f1, .int .i64 0, .bool true, .string f4, .string ⟨#[]⟩, .int .i64 0, .slice A6 (f6 : List Ty).length c6, .slice A7 ([] : List ByteArray).length c7, .slice A8 (f8 : List Vl).length c8]] w (OwOut ⟨3, f1, 0, true, f4, ⟨⟨#[]⟩, 0⟩, f6, [], f8⟩ w) := by
  have kV := blk_new w (.cells #[.int .i64 3, .int .i64 f1, .int .i64 0, .bool true, .string f4, .string ⟨#[]⟩, .int .i64 0, .slice A6 (f6 : List Ty).length c6, .slice A7 ([] : List ByteArray).length c7, .slice A8 (f8 : List Vl).length c8] 55)
  have b0 := below_alloc1 w (.cells #[.int .i64 3, .int .i64 f1, .int .i64 0, .bool true, .string f4, .string ⟨#[]⟩, .int .i64 0, .slice A6 (f6 : List Ty).length c6, .slice A7 ([] : List ByteArray).length c7, .slice A8 (f8 : List Vl).length c8] 55)
  obtain ⟨⟨v0, v1, v2, v3, v4, v5, v6, v7, v8, v9⟩, _, lv⟩ := ten kV
  have B0 := Aside0.mk b0
  clear kV b0
  go_enter Try.func82, Try.ntmps82
  go_wp2
  go_ret
  exact ⟨false, rfl, (fun h => absurd h (by decide)), B0.out⟩
set_option maxHeartbeats 8000000 in
set_option maxRecDepth 100000 in
theorem own_t4bx (f1 : Int) (f2 : Int) (f3 : Bool) (f6 : List Ty) (f7 : List ByteArray) (f8 : List Vl) {A6 A7 A8 : Option Addr} {c6 c7 c8 : Nat} {w : World}  (hf2 : ¬ f2 = 0) :
    Calls Try.prog 82 #[.agg #[.int .i64 4, .int .i64 f1, .int .i64 f2, .bool f3, .string ⟨#[]⟩, .string ⟨#[]⟩, .int .i64 0, .slice A6 (f6 : List Ty).length c6, .slice A7 (f7 : List ByteArray).length c7, .slice A8 (f8 : List Vl).length c8]] w (OwOut ⟨4, f1, f2, f3, ⟨#[]⟩, ⟨⟨#[]⟩, 0⟩, f6, f7, f8⟩ w) := by
  have kV := blk_new w (.cells #[.int .i64 4, .int .i64 f1, .int .i64 f2, .bool f3, .string ⟨#[]⟩, .string ⟨#[]⟩, .int .i64 0, .slice A6 (f6 : List Ty).length c6, .slice A7 (f7 : List ByteArray).length c7, .slice A8 (f8 : List Vl).length c8] 55)
  have b0 := below_alloc1 w (.cells #[.int .i64 4, .int .i64 f1, .int .i64 f2, .bool f3, .string ⟨#[]⟩, .string ⟨#[]⟩, .int .i64 0, .slice A6 (f6 : List Ty).length c6, .slice A7 (f7 : List ByteArray).length c7, .slice A8 (f8 : List Vl).length c8] 55)
  obtain ⟨⟨v0, v1, v2, v3, v4, v5, v6, v7, v8, v9⟩, _, lv⟩ := ten kV
  have B0 := Aside0.mk b0
  have qf2a : (f2 == 0) = false := beq_eq_false_iff_ne.2 hf2
  have qf2b : (f2 != 0) = true := by rw [bne, qf2a]; rfl
  clear kV b0
  go_enter Try.func82, Try.ntmps82
  go_wp2
  go_ret
  exact ⟨false, rfl, (fun h => absurd h (by decide)), B0.out⟩
set_option maxHeartbeats 8000000 in
set_option maxRecDepth 100000 in
theorem own_t4by (f1 : Int) (f6 : List Ty) (f7 : List ByteArray) (f8 : List Vl) {A6 A7 A8 : Option Addr} {c6 c7 c8 : Nat} {w : World}  :
    Calls Try.prog 82 #[.agg #[.int .i64 4, .int .i64 f1, .int .i64 0, .bool true, .string ⟨#[]⟩, .string ⟨#[]⟩, .int .i64 0, .slice A6 (f6 : List Ty).length c6, .slice A7 (f7 : List ByteArray).length c7, .slice A8 (f8 : List Vl).length c8]] w (OwOut ⟨4, f1, 0, true, ⟨#[]⟩, ⟨⟨#[]⟩, 0⟩, f6, f7, f8⟩ w) := by
  have kV := blk_new w (.cells #[.int .i64 4, .int .i64 f1, .int .i64 0, .bool true, .string ⟨#[]⟩, .string ⟨#[]⟩, .int .i64 0, .slice A6 (f6 : List Ty).length c6, .slice A7 (f7 : List ByteArray).length c7, .slice A8 (f8 : List Vl).length c8] 55)
  have b0 := below_alloc1 w (.cells #[.int .i64 4, .int .i64 f1, .int .i64 0, .bool true, .string ⟨#[]⟩, .string ⟨#[]⟩, .int .i64 0, .slice A6 (f6 : List Ty).length c6, .slice A7 (f7 : List ByteArray).length c7, .slice A8 (f8 : List Vl).length c8] 55)
  obtain ⟨⟨v0, v1, v2, v3, v4, v5, v6, v7, v8, v9⟩, _, lv⟩ := ten kV
  have B0 := Aside0.mk b0
  clear kV b0
  go_enter Try.func82, Try.ntmps82
  go_wp2
  go_ret
  exact ⟨false, rfl, (fun h => absurd h (by decide)), B0.out⟩
set_option maxHeartbeats 8000000 in
set_option maxRecDepth 100000 in
theorem own_t4cx (f1 : Int) (f2 : Int) (f3 : Bool) (g0 : ByteArray) (g1 : Int) (f6 : List Ty) (f8 : List Vl) {A6 A7 A8 : Option Addr} {c6 c7 c8 : Nat} {w : World}  (hf2 : ¬ f2 = 0) :
    Calls Try.prog 82 #[.agg #[.int .i64 6, .int .i64 f1, .int .i64 f2, .bool f3, .string ⟨#[]⟩, .string g0, .int .i64 g1, .slice A6 (f6 : List Ty).length c6, .slice A7 ([] : List ByteArray).length c7, .slice A8 (f8 : List Vl).length c8]] w (OwOut ⟨6, f1, f2, f3, ⟨#[]⟩, ⟨g0, g1⟩, f6, [], f8⟩ w) := by
  have kV := blk_new w (.cells #[.int .i64 6, .int .i64 f1, .int .i64 f2, .bool f3, .string ⟨#[]⟩, .string g0, .int .i64 g1, .slice A6 (f6 : List Ty).length c6, .slice A7 ([] : List ByteArray).length c7, .slice A8 (f8 : List Vl).length c8] 55)
  have b0 := below_alloc1 w (.cells #[.int .i64 6, .int .i64 f1, .int .i64 f2, .bool f3, .string ⟨#[]⟩, .string g0, .int .i64 g1, .slice A6 (f6 : List Ty).length c6, .slice A7 ([] : List ByteArray).length c7, .slice A8 (f8 : List Vl).length c8] 55)
  obtain ⟨⟨v0, v1, v2, v3, v4, v5, v6, v7, v8, v9⟩, _, lv⟩ := ten kV
  have B0 := Aside0.mk b0
  have qf2a : (f2 == 0) = false := beq_eq_false_iff_ne.2 hf2
  have qf2b : (f2 != 0) = true := by rw [bne, qf2a]; rfl
  clear kV b0
  go_enter Try.func82, Try.ntmps82
  go_wp2
  go_ret
  exact ⟨false, rfl, (fun h => absurd h (by decide)), B0.out⟩
set_option maxHeartbeats 8000000 in
set_option maxRecDepth 100000 in
theorem own_t4cy (f1 : Int) (g0 : ByteArray) (g1 : Int) (f6 : List Ty) (f8 : List Vl) {A6 A7 A8 : Option Addr} {c6 c7 c8 : Nat} {w : World}  :
    Calls Try.prog 82 #[.agg #[.int .i64 6, .int .i64 f1, .int .i64 0, .bool true, .string ⟨#[]⟩, .string g0, .int .i64 g1, .slice A6 (f6 : List Ty).length c6, .slice A7 ([] : List ByteArray).length c7, .slice A8 (f8 : List Vl).length c8]] w (OwOut ⟨6, f1, 0, true, ⟨#[]⟩, ⟨g0, g1⟩, f6, [], f8⟩ w) := by
  have kV := blk_new w (.cells #[.int .i64 6, .int .i64 f1, .int .i64 0, .bool true, .string ⟨#[]⟩, .string g0, .int .i64 g1, .slice A6 (f6 : List Ty).length c6, .slice A7 ([] : List ByteArray).length c7, .slice A8 (f8 : List Vl).length c8] 55)
  have b0 := below_alloc1 w (.cells #[.int .i64 6, .int .i64 f1, .int .i64 0, .bool true, .string ⟨#[]⟩, .string g0, .int .i64 g1, .slice A6 (f6 : List Ty).length c6, .slice A7 ([] : List ByteArray).length c7, .slice A8 (f8 : List Vl).length c8] 55)
  obtain ⟨⟨v0, v1, v2, v3, v4, v5, v6, v7, v8, v9⟩, _, lv⟩ := ten kV
  have B0 := Aside0.mk b0
  clear kV b0
  go_enter Try.func82, Try.ntmps82
  go_wp2
  go_ret
  exact ⟨false, rfl, (fun h => absurd h (by decide)), B0.out⟩
set_option maxHeartbeats 8000000 in
set_option maxRecDepth 100000 in
theorem own_t4dx (f0 : Int) (f1 : Int) (f2 : Int) (f3 : Bool) (f6 : List Ty) (f8 : List Vl) {A6 A7 A8 : Option Addr} {c6 c7 c8 : Nat} {w : World} (n3 : ¬ f0 = 3) (n4 : ¬ f0 = 4) (n6 : ¬ f0 = 6) (n7 : ¬ f0 = 7) (hf2 : ¬ f2 = 0) :
    Calls Try.prog 82 #[.agg #[.int .i64 f0, .int .i64 f1, .int .i64 f2, .bool f3, .string ⟨#[]⟩, .string ⟨#[]⟩, .int .i64 0, .slice A6 (f6 : List Ty).length c6, .slice A7 ([] : List ByteArray).length c7, .slice A8 (f8 : List Vl).length c8]] w (OwOut ⟨f0, f1, f2, f3, ⟨#[]⟩, ⟨⟨#[]⟩, 0⟩, f6, [], f8⟩ w) := by
  have kV := blk_new w (.cells #[.int .i64 f0, .int .i64 f1, .int .i64 f2, .bool f3, .string ⟨#[]⟩, .string ⟨#[]⟩, .int .i64 0, .slice A6 (f6 : List Ty).length c6, .slice A7 ([] : List ByteArray).length c7, .slice A8 (f8 : List Vl).length c8] 55)
  have b0 := below_alloc1 w (.cells #[.int .i64 f0, .int .i64 f1, .int .i64 f2, .bool f3, .string ⟨#[]⟩, .string ⟨#[]⟩, .int .i64 0, .slice A6 (f6 : List Ty).length c6, .slice A7 ([] : List ByteArray).length c7, .slice A8 (f8 : List Vl).length c8] 55)
  obtain ⟨⟨v0, v1, v2, v3, v4, v5, v6, v7, v8, v9⟩, _, lv⟩ := ten kV
  have B0 := Aside0.mk b0
  have d3b : (f0 == 3) = false := beq_eq_false_iff_ne.2 n3
  have d3c : (f0 != 3) = true := by rw [bne, d3b]; rfl
  have d3a : decide (f0 = 3) = false := decide_eq_false n3
  have d4b : (f0 == 4) = false := beq_eq_false_iff_ne.2 n4
  have d4c : (f0 != 4) = true := by rw [bne, d4b]; rfl
  have d4a : decide (f0 = 4) = false := decide_eq_false n4
  have d6b : (f0 == 6) = false := beq_eq_false_iff_ne.2 n6
  have d6c : (f0 != 6) = true := by rw [bne, d6b]; rfl
  have d6a : decide (f0 = 6) = false := decide_eq_false n6
  have d7b : (f0 == 7) = false := beq_eq_false_iff_ne.2 n7
  have d7c : (f0 != 7) = true := by rw [bne, d7b]; rfl
  have d7a : decide (f0 = 7) = false := decide_eq_false n7
  have qf2a : (f2 == 0) = false := beq_eq_false_iff_ne.2 hf2
  have qf2b : (f2 != 0) = true := by rw [bne, qf2a]; rfl
  clear kV b0
  go_enter Try.func82, Try.ntmps82
  go_wp2
  go_ret
  exact ⟨false, rfl, (fun h => absurd h (by decide)), B0.out⟩
set_option maxHeartbeats 8000000 in
set_option maxRecDepth 100000 in
theorem own_t4dy (f0 : Int) (f1 : Int) (f6 : List Ty) (f8 : List Vl) {A6 A7 A8 : Option Addr} {c6 c7 c8 : Nat} {w : World} (n3 : ¬ f0 = 3) (n4 : ¬ f0 = 4) (n6 : ¬ f0 = 6) (n7 : ¬ f0 = 7) :
    Calls Try.prog 82 #[.agg #[.int .i64 f0, .int .i64 f1, .int .i64 0, .bool true, .string ⟨#[]⟩, .string ⟨#[]⟩, .int .i64 0, .slice A6 (f6 : List Ty).length c6, .slice A7 ([] : List ByteArray).length c7, .slice A8 (f8 : List Vl).length c8]] w (OwOut ⟨f0, f1, 0, true, ⟨#[]⟩, ⟨⟨#[]⟩, 0⟩, f6, [], f8⟩ w) := by
  have kV := blk_new w (.cells #[.int .i64 f0, .int .i64 f1, .int .i64 0, .bool true, .string ⟨#[]⟩, .string ⟨#[]⟩, .int .i64 0, .slice A6 (f6 : List Ty).length c6, .slice A7 ([] : List ByteArray).length c7, .slice A8 (f8 : List Vl).length c8] 55)
  have b0 := below_alloc1 w (.cells #[.int .i64 f0, .int .i64 f1, .int .i64 0, .bool true, .string ⟨#[]⟩, .string ⟨#[]⟩, .int .i64 0, .slice A6 (f6 : List Ty).length c6, .slice A7 ([] : List ByteArray).length c7, .slice A8 (f8 : List Vl).length c8] 55)
  obtain ⟨⟨v0, v1, v2, v3, v4, v5, v6, v7, v8, v9⟩, _, lv⟩ := ten kV
  have B0 := Aside0.mk b0
  have d3b : (f0 == 3) = false := beq_eq_false_iff_ne.2 n3
  have d3c : (f0 != 3) = true := by rw [bne, d3b]; rfl
  have d3a : decide (f0 = 3) = false := decide_eq_false n3
  have d4b : (f0 == 4) = false := beq_eq_false_iff_ne.2 n4
  have d4c : (f0 != 4) = true := by rw [bne, d4b]; rfl
  have d4a : decide (f0 = 4) = false := decide_eq_false n4
  have d6b : (f0 == 6) = false := beq_eq_false_iff_ne.2 n6
  have d6c : (f0 != 6) = true := by rw [bne, d6b]; rfl
  have d6a : decide (f0 = 6) = false := decide_eq_false n6
  have d7b : (f0 == 7) = false := beq_eq_false_iff_ne.2 n7
  have d7c : (f0 != 7) = true := by rw [bne, d7b]; rfl
  have d7a : decide (f0 = 7) = false := decide_eq_false n7
  clear kV b0
  go_enter Try.func82, Try.ntmps82
  go_wp2
  go_ret
  exact ⟨false, rfl, (fun h => absurd h (by decide)), B0.out⟩
set_option maxHeartbeats 8000000 in
set_option maxRecDepth 100000 in
theorem own_1 (f1 : Int) (f6 : List Ty) (f8 : List Vl) {A6 A7 A8 : Option Addr} {c6 c7 c8 : Nat} {w : World}  :
    Calls Try.prog 82 #[.agg #[.int .i64 1, .int .i64 f1, .int .i64 0, .bool false, .string ⟨#[]⟩, .string ⟨#[]⟩, .int .i64 0, .slice A6 (f6 : List Ty).length c6, .slice A7 ([] : List ByteArray).length c7, .slice A8 (f8 : List Vl).length c8]] w (OwOut ⟨1, f1, 0, false, ⟨#[]⟩, ⟨⟨#[]⟩, 0⟩, f6, [], f8⟩ w) := by
  have kV := blk_new w (.cells #[.int .i64 1, .int .i64 f1, .int .i64 0, .bool false, .string ⟨#[]⟩, .string ⟨#[]⟩, .int .i64 0, .slice A6 (f6 : List Ty).length c6, .slice A7 ([] : List ByteArray).length c7, .slice A8 (f8 : List Vl).length c8] 55)
  have b0 := below_alloc1 w (.cells #[.int .i64 1, .int .i64 f1, .int .i64 0, .bool false, .string ⟨#[]⟩, .string ⟨#[]⟩, .int .i64 0, .slice A6 (f6 : List Ty).length c6, .slice A7 ([] : List ByteArray).length c7, .slice A8 (f8 : List Vl).length c8] 55)
  obtain ⟨⟨v0, v1, v2, v3, v4, v5, v6, v7, v8, v9⟩, _, lv⟩ := ten kV
  have B0 := Aside0.mk b0
  have HN := Aside0.mk (own_no (x := ⟨1, f1, 0, false, ⟨#[]⟩, ⟨⟨#[]⟩, 0⟩, f6, [], f8⟩) (by simp) (by simp))
  clear kV b0
  go_enter Try.func82, Try.ntmps82
  go_wp2
  go_ret
  exact ⟨_, rfl, (fun _ => HN.out), B0.out⟩
set_option maxHeartbeats 8000000 in
set_option maxRecDepth 100000 in
theorem own_2a (f1 : Int) (f6 : List Ty) (f8 : List Vl) {A6 A7 A8 : Option Addr} {c6 c7 c8 : Nat} {w : World} (hs : (wrap64 ((f6.length : Int) + (f8.length : Int)) == 0) = false) :
    Calls Try.prog 82 #[.agg #[.int .i64 2, .int .i64 f1, .int .i64 0, .bool false, .string ⟨#[]⟩, .string ⟨#[]⟩, .int .i64 0, .slice A6 (f6 : List Ty).length c6, .slice A7 ([] : List ByteArray).length c7, .slice A8 (f8 : List Vl).length c8]] w (OwOut ⟨2, f1, 0, false, ⟨#[]⟩, ⟨⟨#[]⟩, 0⟩, f6, [], f8⟩ w) := by
  have kV := blk_new w (.cells #[.int .i64 2, .int .i64 f1, .int .i64 0, .bool false, .string ⟨#[]⟩, .string ⟨#[]⟩, .int .i64 0, .slice A6 (f6 : List Ty).length c6, .slice A7 ([] : List ByteArray).length c7, .slice A8 (f8 : List Vl).length c8] 55)
  have b0 := below_alloc1 w (.cells #[.int .i64 2, .int .i64 f1, .int .i64 0, .bool false, .string ⟨#[]⟩, .string ⟨#[]⟩, .int .i64 0, .slice A6 (f6 : List Ty).length c6, .slice A7 ([] : List ByteArray).length c7, .slice A8 (f8 : List Vl).length c8] 55)
  obtain ⟨⟨v0, v1, v2, v3, v4, v5, v6, v7, v8, v9⟩, _, lv⟩ := ten kV
  have B0 := Aside0.mk b0
  have HN := Aside0.mk (own_no (x := ⟨2, f1, 0, false, ⟨#[]⟩, ⟨⟨#[]⟩, 0⟩, f6, [], f8⟩) (by simp) (by simp))
  have hs2 : (wrap64 ((f6.length : Int) + (f8.length : Int)) != 0) = true := by rw [bne, hs]; rfl
  clear kV b0
  go_enter Try.func82, Try.ntmps82
  go_wp2
  go_ret
  exact ⟨_, rfl, (fun _ => HN.out), B0.out⟩
set_option maxHeartbeats 8000000 in
set_option maxRecDepth 100000 in
theorem own_2b  {A6 A7 A8 : Option Addr} {c6 c7 c8 : Nat} {w : World}  :
    Calls Try.prog 82 #[.agg #[.int .i64 2, .int .i64 0, .int .i64 0, .bool false, .string ⟨#[]⟩, .string ⟨#[]⟩, .int .i64 0, .slice A6 ([] : List Ty).length c6, .slice A7 ([] : List ByteArray).length c7, .slice A8 ([] : List Vl).length c8]] w (OwOut ⟨2, 0, 0, false, ⟨#[]⟩, ⟨⟨#[]⟩, 0⟩, [], [], []⟩ w) := by
  have kV := blk_new w (.cells #[.int .i64 2, .int .i64 0, .int .i64 0, .bool false, .string ⟨#[]⟩, .string ⟨#[]⟩, .int .i64 0, .slice A6 ([] : List Ty).length c6, .slice A7 ([] : List ByteArray).length c7, .slice A8 ([] : List Vl).length c8] 55)
  have b0 := below_alloc1 w (.cells #[.int .i64 2, .int .i64 0, .int .i64 0, .bool false, .string ⟨#[]⟩, .string ⟨#[]⟩, .int .i64 0, .slice A6 ([] : List Ty).length c6, .slice A7 ([] : List ByteArray).length c7, .slice A8 ([] : List Vl).length c8] 55)
  obtain ⟨⟨v0, v1, v2, v3, v4, v5, v6, v7, v8, v9⟩, _, lv⟩ := ten kV
  have B0 := Aside0.mk b0
  have HN := Aside0.mk (own_no (x := ⟨2, 0, 0, false, ⟨#[]⟩, ⟨⟨#[]⟩, 0⟩, [], [], []⟩) (by simp) (by simp))
  clear kV b0
  go_enter Try.func82, Try.ntmps82
  go_wp2
  go_ret
  exact ⟨_, rfl, (fun _ => HN.out), B0.out⟩
set_option maxHeartbeats 8000000 in
set_option maxRecDepth 100000 in
theorem own_2c (f1 : Int) {A6 A7 A8 : Option Addr} {c6 c7 c8 : Nat} {w : World} (hf1 : ¬ f1 = 0) :
    Calls Try.prog 82 #[.agg #[.int .i64 2, .int .i64 f1, .int .i64 0, .bool false, .string ⟨#[]⟩, .string ⟨#[]⟩, .int .i64 0, .slice A6 ([] : List Ty).length c6, .slice A7 ([] : List ByteArray).length c7, .slice A8 ([] : List Vl).length c8]] w (OwOut ⟨2, f1, 0, false, ⟨#[]⟩, ⟨⟨#[]⟩, 0⟩, [], [], []⟩ w) := by
  have kV := blk_new w (.cells #[.int .i64 2, .int .i64 f1, .int .i64 0, .bool false, .string ⟨#[]⟩, .string ⟨#[]⟩, .int .i64 0, .slice A6 ([] : List Ty).length c6, .slice A7 ([] : List ByteArray).length c7, .slice A8 ([] : List Vl).length c8] 55)
  have b0 := below_alloc1 w (.cells #[.int .i64 2, .int .i64 f1, .int .i64 0, .bool false, .string ⟨#[]⟩, .string ⟨#[]⟩, .int .i64 0, .slice A6 ([] : List Ty).length c6, .slice A7 ([] : List ByteArray).length c7, .slice A8 ([] : List Vl).length c8] 55)
  obtain ⟨⟨v0, v1, v2, v3, v4, v5, v6, v7, v8, v9⟩, _, lv⟩ := ten kV
  have B0 := Aside0.mk b0
  have HN := Aside0.mk (own_no (x := ⟨2, f1, 0, false, ⟨#[]⟩, ⟨⟨#[]⟩, 0⟩, [], [], []⟩) (by simp) (by simp))
  have qf1a : (f1 == 0) = false := beq_eq_false_iff_ne.2 hf1
  have qf1b : (f1 != 0) = true := by rw [bne, qf1a]; rfl
  clear kV b0
  go_enter Try.func82, Try.ntmps82
  go_wp2
  go_ret
  exact ⟨_, rfl, (fun _ => HN.out), B0.out⟩
set_option maxHeartbeats 8000000 in
set_option maxRecDepth 100000 in
theorem own_3a (f1 : Int) (f4 : ByteArray) (f6 : List Ty) (f8 : List Vl) {A6 A7 A8 : Option Addr} {c6 c7 c8 : Nat} {w : World} (hs : (wrap64 ((f6.length : Int) + (f8.length : Int)) == 0) = false) :
    Calls Try.prog 82 #[.agg #[.int .i64 3, .int .i64 f1, .int .i64 0, .bool false, .string f4, .string ⟨#[]⟩, .int .i64 0, .slice A6 (f6 : List Ty).length c6, .slice A7 ([] : List ByteArray).length c7, .slice A8 (f8 : List Vl).length c8]] w (OwOut ⟨3, f1, 0, false, f4, ⟨⟨#[]⟩, 0⟩, f6, [], f8⟩ w) := by
  have kV := blk_new w (.cells #[.int .i64 3, .int .i64 f1, .int .i64 0, .bool false, .string f4, .string ⟨#[]⟩, .int .i64 0, .slice A6 (f6 : List Ty).length c6, .slice A7 ([] : List ByteArray).length c7, .slice A8 (f8 : List Vl).length c8] 55)
  have b0 := below_alloc1 w (.cells #[.int .i64 3, .int .i64 f1, .int .i64 0, .bool false, .string f4, .string ⟨#[]⟩, .int .i64 0, .slice A6 (f6 : List Ty).length c6, .slice A7 ([] : List ByteArray).length c7, .slice A8 (f8 : List Vl).length c8] 55)
  obtain ⟨⟨v0, v1, v2, v3, v4, v5, v6, v7, v8, v9⟩, _, lv⟩ := ten kV
  have B0 := Aside0.mk b0
  have HN := Aside0.mk (own_no (x := ⟨3, f1, 0, false, f4, ⟨⟨#[]⟩, 0⟩, f6, [], f8⟩) (by simp) (by simp))
  have hs2 : (wrap64 ((f6.length : Int) + (f8.length : Int)) != 0) = true := by rw [bne, hs]; rfl
  clear kV b0
  go_enter Try.func82, Try.ntmps82
  go_wp2
  go_ret
  exact ⟨_, rfl, (fun _ => HN.out), B0.out⟩
set_option maxHeartbeats 8000000 in
set_option maxRecDepth 100000 in
theorem own_3b (f4 : ByteArray) {A6 A7 A8 : Option Addr} {c6 c7 c8 : Nat} {w : World}  :
    Calls Try.prog 82 #[.agg #[.int .i64 3, .int .i64 0, .int .i64 0, .bool false, .string f4, .string ⟨#[]⟩, .int .i64 0, .slice A6 ([] : List Ty).length c6, .slice A7 ([] : List ByteArray).length c7, .slice A8 ([] : List Vl).length c8]] w (OwOut ⟨3, 0, 0, false, f4, ⟨⟨#[]⟩, 0⟩, [], [], []⟩ w) := by
  have kV := blk_new w (.cells #[.int .i64 3, .int .i64 0, .int .i64 0, .bool false, .string f4, .string ⟨#[]⟩, .int .i64 0, .slice A6 ([] : List Ty).length c6, .slice A7 ([] : List ByteArray).length c7, .slice A8 ([] : List Vl).length c8] 55)
  have b0 := below_alloc1 w (.cells #[.int .i64 3, .int .i64 0, .int .i64 0, .bool false, .string f4, .string ⟨#[]⟩, .int .i64 0, .slice A6 ([] : List Ty).length c6, .slice A7 ([] : List ByteArray).length c7, .slice A8 ([] : List Vl).length c8] 55)
  obtain ⟨⟨v0, v1, v2, v3, v4, v5, v6, v7, v8, v9⟩, _, lv⟩ := ten kV
  have B0 := Aside0.mk b0
  have HN := Aside0.mk (own_no (x := ⟨3, 0, 0, false, f4, ⟨⟨#[]⟩, 0⟩, [], [], []⟩) (by simp) (by simp))
  clear kV b0
  go_enter Try.func82, Try.ntmps82
  go_wp2
  go_ret
  exact ⟨_, rfl, (fun _ => HN.out), B0.out⟩
set_option maxHeartbeats 8000000 in
set_option maxRecDepth 100000 in
theorem own_3c (f1 : Int) (f4 : ByteArray) {A6 A7 A8 : Option Addr} {c6 c7 c8 : Nat} {w : World} (hf1 : ¬ f1 = 0) :
    Calls Try.prog 82 #[.agg #[.int .i64 3, .int .i64 f1, .int .i64 0, .bool false, .string f4, .string ⟨#[]⟩, .int .i64 0, .slice A6 ([] : List Ty).length c6, .slice A7 ([] : List ByteArray).length c7, .slice A8 ([] : List Vl).length c8]] w (OwOut ⟨3, f1, 0, false, f4, ⟨⟨#[]⟩, 0⟩, [], [], []⟩ w) := by
  have kV := blk_new w (.cells #[.int .i64 3, .int .i64 f1, .int .i64 0, .bool false, .string f4, .string ⟨#[]⟩, .int .i64 0, .slice A6 ([] : List Ty).length c6, .slice A7 ([] : List ByteArray).length c7, .slice A8 ([] : List Vl).length c8] 55)
  have b0 := below_alloc1 w (.cells #[.int .i64 3, .int .i64 f1, .int .i64 0, .bool false, .string f4, .string ⟨#[]⟩, .int .i64 0, .slice A6 ([] : List Ty).length c6, .slice A7 ([] : List ByteArray).length c7, .slice A8 ([] : List Vl).length c8] 55)
  obtain ⟨⟨v0, v1, v2, v3, v4, v5, v6, v7, v8, v9⟩, _, lv⟩ := ten kV
  have B0 := Aside0.mk b0
  have HN := Aside0.mk (own_no (x := ⟨3, f1, 0, false, f4, ⟨⟨#[]⟩, 0⟩, [], [], []⟩) (by simp) (by simp))
  have qf1a : (f1 == 0) = false := beq_eq_false_iff_ne.2 hf1
  have qf1b : (f1 != 0) = true := by rw [bne, qf1a]; rfl
  clear kV b0
  go_enter Try.func82, Try.ntmps82
  go_wp2
  go_ret
  exact ⟨_, rfl, (fun _ => HN.out), B0.out⟩
set_option maxHeartbeats 8000000 in
set_option maxRecDepth 100000 in
theorem own_5a (f1 : Int) (f6 : List Ty) (f8 : List Vl) {A6 A7 A8 : Option Addr} {c6 c7 c8 : Nat} {w : World} (hs : (wrap64 ((f6.length : Int) + (f8.length : Int)) == 0) = false) :
    Calls Try.prog 82 #[.agg #[.int .i64 5, .int .i64 f1, .int .i64 0, .bool false, .string ⟨#[]⟩, .string ⟨#[]⟩, .int .i64 0, .slice A6 (f6 : List Ty).length c6, .slice A7 ([] : List ByteArray).length c7, .slice A8 (f8 : List Vl).length c8]] w (OwOut ⟨5, f1, 0, false, ⟨#[]⟩, ⟨⟨#[]⟩, 0⟩, f6, [], f8⟩ w) := by
  have kV := blk_new w (.cells #[.int .i64 5, .int .i64 f1, .int .i64 0, .bool false, .string ⟨#[]⟩, .string ⟨#[]⟩, .int .i64 0, .slice A6 (f6 : List Ty).length c6, .slice A7 ([] : List ByteArray).length c7, .slice A8 (f8 : List Vl).length c8] 55)
  have b0 := below_alloc1 w (.cells #[.int .i64 5, .int .i64 f1, .int .i64 0, .bool false, .string ⟨#[]⟩, .string ⟨#[]⟩, .int .i64 0, .slice A6 (f6 : List Ty).length c6, .slice A7 ([] : List ByteArray).length c7, .slice A8 (f8 : List Vl).length c8] 55)
  obtain ⟨⟨v0, v1, v2, v3, v4, v5, v6, v7, v8, v9⟩, _, lv⟩ := ten kV
  have B0 := Aside0.mk b0
  have HN := Aside0.mk (own_no (x := ⟨5, f1, 0, false, ⟨#[]⟩, ⟨⟨#[]⟩, 0⟩, f6, [], f8⟩) (by simp) (by simp))
  have hs2 : (wrap64 ((f6.length : Int) + (f8.length : Int)) != 0) = true := by rw [bne, hs]; rfl
  clear kV b0
  go_enter Try.func82, Try.ntmps82
  go_wp2
  go_ret
  exact ⟨_, rfl, (fun _ => HN.out), B0.out⟩
set_option maxHeartbeats 8000000 in
set_option maxRecDepth 100000 in
theorem own_5b (f1 : Int) {A6 A7 A8 : Option Addr} {c6 c7 c8 : Nat} {w : World}  :
    Calls Try.prog 82 #[.agg #[.int .i64 5, .int .i64 f1, .int .i64 0, .bool false, .string ⟨#[]⟩, .string ⟨#[]⟩, .int .i64 0, .slice A6 ([] : List Ty).length c6, .slice A7 ([] : List ByteArray).length c7, .slice A8 ([] : List Vl).length c8]] w (OwOut ⟨5, f1, 0, false, ⟨#[]⟩, ⟨⟨#[]⟩, 0⟩, [], [], []⟩ w) := by
  have kV := blk_new w (.cells #[.int .i64 5, .int .i64 f1, .int .i64 0, .bool false, .string ⟨#[]⟩, .string ⟨#[]⟩, .int .i64 0, .slice A6 ([] : List Ty).length c6, .slice A7 ([] : List ByteArray).length c7, .slice A8 ([] : List Vl).length c8] 55)
  have b0 := below_alloc1 w (.cells #[.int .i64 5, .int .i64 f1, .int .i64 0, .bool false, .string ⟨#[]⟩, .string ⟨#[]⟩, .int .i64 0, .slice A6 ([] : List Ty).length c6, .slice A7 ([] : List ByteArray).length c7, .slice A8 ([] : List Vl).length c8] 55)
  obtain ⟨⟨v0, v1, v2, v3, v4, v5, v6, v7, v8, v9⟩, _, lv⟩ := ten kV
  have B0 := Aside0.mk b0
  have HN := Aside0.mk (own_no (x := ⟨5, f1, 0, false, ⟨#[]⟩, ⟨⟨#[]⟩, 0⟩, [], [], []⟩) (by simp) (by simp))
  clear kV b0
  go_enter Try.func82, Try.ntmps82
  go_wp2
  go_ret
  exact ⟨_, rfl, (fun _ => HN.out), B0.out⟩
set_option maxHeartbeats 8000000 in
set_option maxRecDepth 100000 in
theorem own_8a (f1 : Int) (f6 : List Ty) (f8 : List Vl) {A6 A7 A8 : Option Addr} {c6 c7 c8 : Nat} {w : World} (h6 : 0 < f6.length) :
    Calls Try.prog 82 #[.agg #[.int .i64 8, .int .i64 f1, .int .i64 0, .bool false, .string ⟨#[]⟩, .string ⟨#[]⟩, .int .i64 0, .slice A6 (f6 : List Ty).length c6, .slice A7 ([] : List ByteArray).length c7, .slice A8 (f8 : List Vl).length c8]] w (OwOut ⟨8, f1, 0, false, ⟨#[]⟩, ⟨⟨#[]⟩, 0⟩, f6, [], f8⟩ w) := by
  have kV := blk_new w (.cells #[.int .i64 8, .int .i64 f1, .int .i64 0, .bool false, .string ⟨#[]⟩, .string ⟨#[]⟩, .int .i64 0, .slice A6 (f6 : List Ty).length c6, .slice A7 ([] : List ByteArray).length c7, .slice A8 (f8 : List Vl).length c8] 55)
  have b0 := below_alloc1 w (.cells #[.int .i64 8, .int .i64 f1, .int .i64 0, .bool false, .string ⟨#[]⟩, .string ⟨#[]⟩, .int .i64 0, .slice A6 (f6 : List Ty).length c6, .slice A7 ([] : List ByteArray).length c7, .slice A8 (f8 : List Vl).length c8] 55)
  obtain ⟨⟨v0, v1, v2, v3, v4, v5, v6, v7, v8, v9⟩, _, lv⟩ := ten kV
  have B0 := Aside0.mk b0
  have lf6a : (((f6.length : Nat) : Int) == 0) = false := beq_eq_false_iff_ne.2 (by omega)
  have lf6b : (((f6.length : Nat) : Int) != 0) = true := by rw [bne, lf6a]; rfl
  clear kV b0
  go_enter Try.func82, Try.ntmps82
  go_wp2
  go_ret
  exact ⟨false, rfl, (fun h => absurd h (by decide)), B0.out⟩
set_option maxHeartbeats 8000000 in
set_option maxRecDepth 100000 in
theorem own_8b (f1 : Int) (f8 : List Vl) {A6 A7 A8 : Option Addr} {c6 c7 c8 : Nat} {w : World} (h8 : ¬ f8.length = 1) :
    Calls Try.prog 82 #[.agg #[.int .i64 8, .int .i64 f1, .int .i64 0, .bool false, .string ⟨#[]⟩, .string ⟨#[]⟩, .int .i64 0, .slice A6 ([] : List Ty).length c6, .slice A7 ([] : List ByteArray).length c7, .slice A8 (f8 : List Vl).length c8]] w (OwOut ⟨8, f1, 0, false, ⟨#[]⟩, ⟨⟨#[]⟩, 0⟩, [], [], f8⟩ w) := by
  have kV := blk_new w (.cells #[.int .i64 8, .int .i64 f1, .int .i64 0, .bool false, .string ⟨#[]⟩, .string ⟨#[]⟩, .int .i64 0, .slice A6 ([] : List Ty).length c6, .slice A7 ([] : List ByteArray).length c7, .slice A8 (f8 : List Vl).length c8] 55)
  have b0 := below_alloc1 w (.cells #[.int .i64 8, .int .i64 f1, .int .i64 0, .bool false, .string ⟨#[]⟩, .string ⟨#[]⟩, .int .i64 0, .slice A6 ([] : List Ty).length c6, .slice A7 ([] : List ByteArray).length c7, .slice A8 (f8 : List Vl).length c8] 55)
  obtain ⟨⟨v0, v1, v2, v3, v4, v5, v6, v7, v8, v9⟩, _, lv⟩ := ten kV
  have B0 := Aside0.mk b0
  have mf8a : (((f8.length : Nat) : Int) == 1) = false := beq_eq_false_iff_ne.2 (by omega)
  have mf8b : (((f8.length : Nat) : Int) != 1) = true := by rw [bne, mf8a]; rfl
  have mf8c : decide ((((f8.length : Nat) : Int)) = 1) = false := decide_eq_false (by omega)
  clear kV b0
  go_enter Try.func82, Try.ntmps82
  go_wp2
  go_ret
  exact ⟨false, rfl, (fun h => absurd h (by decide)), B0.out⟩
set_option maxHeartbeats 8000000 in
set_option maxRecDepth 100000 in
theorem own_8c (f1 : Int) (f8 : List Vl) {A6 A7 A8 : Option Addr} {c6 c7 c8 : Nat} {w : World} (h8 : f8.length = 1) :
    Calls Try.prog 82 #[.agg #[.int .i64 8, .int .i64 f1, .int .i64 0, .bool false, .string ⟨#[]⟩, .string ⟨#[]⟩, .int .i64 0, .slice A6 ([] : List Ty).length c6, .slice A7 ([] : List ByteArray).length c7, .slice A8 (f8 : List Vl).length c8]] w (OwOut ⟨8, f1, 0, false, ⟨#[]⟩, ⟨⟨#[]⟩, 0⟩, [], [], f8⟩ w) := by
  have kV := blk_new w (.cells #[.int .i64 8, .int .i64 f1, .int .i64 0, .bool false, .string ⟨#[]⟩, .string ⟨#[]⟩, .int .i64 0, .slice A6 ([] : List Ty).length c6, .slice A7 ([] : List ByteArray).length c7, .slice A8 (f8 : List Vl).length c8] 55)
  have b0 := below_alloc1 w (.cells #[.int .i64 8, .int .i64 f1, .int .i64 0, .bool false, .string ⟨#[]⟩, .string ⟨#[]⟩, .int .i64 0, .slice A6 ([] : List Ty).length c6, .slice A7 ([] : List ByteArray).length c7, .slice A8 (f8 : List Vl).length c8] 55)
  obtain ⟨⟨v0, v1, v2, v3, v4, v5, v6, v7, v8, v9⟩, _, lv⟩ := ten kV
  have B0 := Aside0.mk b0
  have e1 : (((f8.length : Nat) : Int) == 1) = true := beq_iff_eq.2 (by omega)
  have e1c : decide (((f8.length : Nat) : Int) = 1) = true := decide_eq_true (by omega)
  clear h8
  clear kV b0
  go_enter Try.func82, Try.ntmps82
  go_wp2
  go_ret
  exact ⟨_, rfl, (fun _ => ⟨(fun h => by simp at h), (fun _ => rfl)⟩), B0.out⟩
set_option maxHeartbeats 8000000 in
set_option maxRecDepth 100000 in
theorem own_4a (f1 : Int) (f6 : List Ty) (f7 : List ByteArray) (f8 : List Vl) {A6 A7 A8 : Option Addr} {c6 c7 c8 : Nat} {w : World} (h6 : 0 < f6.length) :
    Calls Try.prog 82 #[.agg #[.int .i64 4, .int .i64 f1, .int .i64 0, .bool false, .string ⟨#[]⟩, .string ⟨#[]⟩, .int .i64 0, .slice A6 (f6 : List Ty).length c6, .slice A7 (f7 : List ByteArray).length c7, .slice A8 (f8 : List Vl).length c8]] w (OwOut ⟨4, f1, 0, false, ⟨#[]⟩, ⟨⟨#[]⟩, 0⟩, f6, f7, f8⟩ w) := by
  have kV := blk_new w (.cells #[.int .i64 4, .int .i64 f1, .int .i64 0, .bool false, .string ⟨#[]⟩, .string ⟨#[]⟩, .int .i64 0, .slice A6 (f6 : List Ty).length c6, .slice A7 (f7 : List ByteArray).length c7, .slice A8 (f8 : List Vl).length c8] 55)
  have b0 := below_alloc1 w (.cells #[.int .i64 4, .int .i64 f1, .int .i64 0, .bool false, .string ⟨#[]⟩, .string ⟨#[]⟩, .int .i64 0, .slice A6 (f6 : List Ty).length c6, .slice A7 (f7 : List ByteArray).length c7, .slice A8 (f8 : List Vl).length c8] 55)
  obtain ⟨⟨v0, v1, v2, v3, v4, v5, v6, v7, v8, v9⟩, _, lv⟩ := ten kV
  have B0 := Aside0.mk b0
  have lf6a : (((f6.length : Nat) : Int) == 0) = false := beq_eq_false_iff_ne.2 (by omega)
  have lf6b : (((f6.length : Nat) : Int) != 0) = true := by rw [bne, lf6a]; rfl
  clear kV b0
  go_enter Try.func82, Try.ntmps82
  go_wp2
  go_ret
  exact ⟨false, rfl, (fun h => absurd h (by decide)), B0.out⟩
set_option maxHeartbeats 8000000 in
set_option maxRecDepth 100000 in
theorem own_4b (f1 : Int) (f7 : List ByteArray) (f8 : List Vl) {A6 A7 A8 : Option Addr} {c6 c7 c8 : Nat} {w : World} (hf1 : ¬ f1 = 0) :
    Calls Try.prog 82 #[.agg #[.int .i64 4, .int .i64 f1, .int .i64 0, .bool false, .string ⟨#[]⟩, .string ⟨#[]⟩, .int .i64 0, .slice A6 ([] : List Ty).length c6, .slice A7 (f7 : List ByteArray).length c7, .slice A8 (f8 : List Vl).length c8]] w (OwOut ⟨4, f1, 0, false, ⟨#[]⟩, ⟨⟨#[]⟩, 0⟩, [], f7, f8⟩ w) := by
  have kV := blk_new w (.cells #[.int .i64 4, .int .i64 f1, .int .i64 0, .bool false, .string ⟨#[]⟩, .string ⟨#[]⟩, .int .i64 0, .slice A6 ([] : List Ty).length c6, .slice A7 (f7 : List ByteArray).length c7, .slice A8 (f8 : List Vl).length c8] 55)
  have b0 := below_alloc1 w (.cells #[.int .i64 4, .int .i64 f1, .int .i64 0, .bool false, .string ⟨#[]⟩, .string ⟨#[]⟩, .int .i64 0, .slice A6 ([] : List Ty).length c6, .slice A7 (f7 : List ByteArray).length c7, .slice A8 (f8 : List Vl).length c8] 55)
  obtain ⟨⟨v0, v1, v2, v3, v4, v5, v6, v7, v8, v9⟩, _, lv⟩ := ten kV
  have B0 := Aside0.mk b0
  have qf1a : (f1 == 0) = false := beq_eq_false_iff_ne.2 hf1
  have qf1b : (f1 != 0) = true := by rw [bne, qf1a]; rfl
  clear kV b0
  go_enter Try.func82, Try.ntmps82
  go_wp2
  go_ret
  exact ⟨false, rfl, (fun h => absurd h (by decide)), B0.out⟩
set_option maxHeartbeats 8000000 in
set_option maxRecDepth 100000 in
theorem own_4c (f7 : List ByteArray) (f8 : List Vl) {A6 A7 A8 : Option Addr} {c6 c7 c8 : Nat} {w : World} (h8 : ¬ f8.length = f7.length) :
    Calls Try.prog 82 #[.agg #[.int .i64 4, .int .i64 0, .int .i64 0, .bool false, .string ⟨#[]⟩, .string ⟨#[]⟩, .int .i64 0, .slice A6 ([] : List Ty).length c6, .slice A7 (f7 : List ByteArray).length c7, .slice A8 (f8 : List Vl).length c8]] w (OwOut ⟨4, 0, 0, false, ⟨#[]⟩, ⟨⟨#[]⟩, 0⟩, [], f7, f8⟩ w) := by
  have kV := blk_new w (.cells #[.int .i64 4, .int .i64 0, .int .i64 0, .bool false, .string ⟨#[]⟩, .string ⟨#[]⟩, .int .i64 0, .slice A6 ([] : List Ty).length c6, .slice A7 (f7 : List ByteArray).length c7, .slice A8 (f8 : List Vl).length c8] 55)
  have b0 := below_alloc1 w (.cells #[.int .i64 4, .int .i64 0, .int .i64 0, .bool false, .string ⟨#[]⟩, .string ⟨#[]⟩, .int .i64 0, .slice A6 ([] : List Ty).length c6, .slice A7 (f7 : List ByteArray).length c7, .slice A8 (f8 : List Vl).length c8] 55)
  obtain ⟨⟨v0, v1, v2, v3, v4, v5, v6, v7, v8, v9⟩, _, lv⟩ := ten kV
  have B0 := Aside0.mk b0
  have m1 : (((f8.length : Nat) : Int) == ((f7.length : Nat) : Int)) = false := beq_eq_false_iff_ne.2 (by omega)
  have m2 : decide (((f8.length : Nat) : Int) = ((f7.length : Nat) : Int)) = false := decide_eq_false (by omega)
  have m3 : decide (f8.length = f7.length) = false := decide_eq_false h8
  clear kV b0
  go_enter Try.func82, Try.ntmps82
  go_wp2
  go_ret
  exact ⟨false, rfl, (fun h => absurd h (by decide)), B0.out⟩
set_option maxHeartbeats 8000000 in
set_option maxRecDepth 100000 in
theorem own_4d (f7 : List ByteArray) (f8 : List Vl) {A6 A7 A8 : Option Addr} {c6 c7 c8 : Nat} {w : World} (h8 : f8.length = f7.length) (hl : f7.length ≤ 140737488351232) (ho : ∀ y, y ∈ f7 → y.size ≤ 140737488351232) (hC : Kd.string.C w A7 f7.length f7) (hc : f7.length ≤ c7) :
    Calls Try.prog 82 #[.agg #[.int .i64 4, .int .i64 0, .int .i64 0, .bool false, .string ⟨#[]⟩, .string ⟨#[]⟩, .int .i64 0, .slice A6 ([] : List Ty).length c6, .slice A7 (f7 : List ByteArray).length c7, .slice A8 (f8 : List Vl).length c8]] w (OwOut ⟨4, 0, 0, false, ⟨#[]⟩, ⟨⟨#[]⟩, 0⟩, [], f7, f8⟩ w) := by
  have kV := blk_new w (.cells #[.int .i64 4, .int .i64 0, .int .i64 0, .bool false, .string ⟨#[]⟩, .string ⟨#[]⟩, .int .i64 0, .slice A6 ([] : List Ty).length c6, .slice A7 (f7 : List ByteArray).length c7, .slice A8 (f8 : List Vl).length c8] 55)
  have b0 := below_alloc1 w (.cells #[.int .i64 4, .int .i64 0, .int .i64 0, .bool false, .string ⟨#[]⟩, .string ⟨#[]⟩, .int .i64 0, .slice A6 ([] : List Ty).length c6, .slice A7 (f7 : List ByteArray).length c7, .slice A8 (f8 : List Vl).length c8] 55)
  obtain ⟨⟨v0, v1, v2, v3, v4, v5, v6, v7, v8, v9⟩, _, lv⟩ := ten kV
  have B0 := Aside0.mk b0
  have HR := Aside0.mk (rrising_c hl ho (Kd.C_below hC b0) hc)
  have m1 : (((f8.length : Nat) : Int) == ((f7.length : Nat) : Int)) = true := beq_iff_eq.2 (by omega)
  have m2 : decide (((f8.length : Nat) : Int) = ((f7.length : Nat) : Int)) = true := decide_eq_true (by omega)
  have m3 : decide (f8.length = f7.length) = true := decide_eq_true h8
  clear h8
  clear kV b0
  go_enter Try.func82, Try.ntmps82
  go_wp2_with fail
  refine HR.out.mono ?_
  rintro e_ w1 ⟨rb, rfl, hB⟩
  go_wp2
  go_ret
  exact ⟨_, rfl, (fun _ => ⟨(fun _ => rfl), (fun h => by simp at h)⟩), chain B0.out hB⟩
end Go.Proofs.Ytnfnhjhnfdkinaa.PConvBack
