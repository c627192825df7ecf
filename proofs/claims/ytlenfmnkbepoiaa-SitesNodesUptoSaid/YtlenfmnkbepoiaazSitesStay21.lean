/-
  SitesStay: texts of this claim, put together by a program of this session. No conditions beyond what each lemma says.
-/
import Derived.Test.YtlenfmnkbepoiaazSitesStay20
namespace Go.Proofs.Ytlenfmnkbepoiaa.PSitesTell
open Go.RowKit Go.Proofs.YtlenfmnkbepoiaaW.Mine Go.Proofs.YtlenfmnkbepoiaaW.PrintWords Go.Proofs.YtlenfmnkbepoiaaW.PrintLast Go.Proofs.YtlenfmnkbepoiaaW.PrintMore
attribute [local go_sem] max2_int min2_int max_two min_two max_three min_three max_four min_four
set_option linter.unusedVariables false
set_option linter.unusedSimpArgs false
abbrev tyI : Ty := ⟨1, 0, ⟨#[]⟩, [], []⟩
abbrev tyD : Ty := ⟨5, 0, ⟨#[]⟩, [], []⟩
abbrev exV : Ex := ⟨4, 0, ⟨#[120]⟩, false, [], [], []⟩
abbrev xD : De := ⟨⟨⟨#[102]⟩, [], [⟨⟨#[120]⟩, tyI⟩], tyD⟩, ⟨12, 0, ⟨#[]⟩, false, [tyI], [], [exV]⟩⟩
abbrev yD : De := ⟨⟨⟨#[102]⟩, [], [⟨⟨#[120]⟩, tyD⟩], tyD⟩, ⟨12, 0, ⟨#[]⟩, false, [tyI], [], [exV]⟩⟩
theorem leafT (w : World) (ok : Nat → Prop) (k n : Int) (s : ByteArray) : FT w ok ⟨k, n, s, [], []⟩ none 0 none 0 := ⟨Nat.le_refl _, Kd.F_nil _ _ _, Nat.le_refl _, Kd.F_nil _ _ _⟩
theorem leafE (w : World) (ok : Nat → Prop) (k n : Int) (s : ByteArray) (b : Bool) : FE w ok ⟨k, n, s, b, [], [], []⟩ none 0 none 0 none 0 := ⟨Nat.le_refl _, Kd.F_nil _ _ _, Nat.le_refl _, Kd.F_nil _ _ _, Nat.le_refl _, Kd.F_nil _ _ _⟩
/-- A row of one element, written out. -/
theorem one_F {α : Type} {d : Kd α} {w : World} {ok : Nat → Prop} {t : TypeId} {g : Nat} {x : α} {cs : List Value} (h : w.heap[g]? = some (.cells cs.toArray t (0, 0))) (hx : Kd.FK d w ok x cs) (hl : cs.length = d.sz) (hg : ok g) : Kd.F d w ok (some ⟨g, 0, none⟩) [x].length [x] :=
  AR.F (t := t) ⟨cs, h, by simpa using (Reps.none (Kd.FK d w ok) d.sz).snoc hx hl⟩ (by simp) (fun _ hk => hk) hg
theorem simple_c (k : Int) {w : World} : Calls Try.prog 41 #[.int .i64 k] w fun e w' => e = .returned (tv ⟨k, 0, ⟨#[]⟩, [], []⟩ none 0 none 0) ∧ Below w.heap.size w w' := by
  have kN := blk_new w (.cells #[.int .i64 k, .int .i64 0, .string ⟨#[]⟩, .slice none 0 0, .slice none 0 0] 26)
  have b0 := below_alloc1 w (.cells #[.int .i64 k, .int .i64 0, .string ⟨#[]⟩, .slice none 0 0, .slice none 0 0] 26)
  go_enter Try.func41, Try.ntmps41
  go_wp2
  (try simp only [Exit.inBlock, Exit.then])
  refine bodyPost_ret (results_cell_row rfl _ _ _ 26 _ (0, 0) _ rfl kN Try.underlying26 rfl (by kernel_rfl)) rfl ?_
  exact ⟨rfl, b0⟩
theorem dyn_c {w : World} : Calls Try.prog 42 #[] w fun e w' => e = .returned (tv tyD none 0 none 0) ∧ Below w.heap.size w w' := by
  have kN := blk_new w (.cells #[.int .i64 5, .int .i64 0, .string ⟨#[]⟩, .slice none 0 0, .slice none 0 0] 26)
  have b0 := below_alloc1 w (.cells #[.int .i64 5, .int .i64 0, .string ⟨#[]⟩, .slice none 0 0, .slice none 0 0] 26)
  go_enter Try.func42, Try.ntmps42
  go_wp2
  (try simp only [Exit.inBlock, Exit.then])
  refine bodyPost_ret (results_cell_row rfl _ _ _ 26 _ (0, 0) _ rfl kN Try.underlying26 rfl (by kernel_rfl)) rfl ?_
  exact ⟨rfl, b0⟩
theorem so_leaf (k n : Int) (s : ByteArray) (b : Bool) : So ⟨k, n, s, b, [], [], []⟩ := .mk _ (by simp) (by simp) (fun y h => by cases h)
theorem xD_ok : DOK xD := ⟨by simp, by simp, .mk _ (by simp) (by simp) (fun y h => by rw [List.mem_singleton.1 h]; exact so_leaf _ _ _ _)⟩
theorem xD_sites : sitesD xD = [(tyI, 0), (tyD, 0), (tyI, 1)] := by
  simp [sitesD, sitesE_eq, sitesK_cons, sitesK_nil]
theorem xD_at : atR xD 2 = (tyI, 1, true) := by
  unfold atR
  rw [xD_sites]
  have h0 : wrap64 ((0 : Nat) : Int) = 0 := wrap_lo (by omega) (by omega)
  have h1 : wrap64 ((1 : Nat) : Int) = 1 := wrap_lo (by omega) (by omega)
  have h2 : wrap64 ((2 : Nat) : Int) = 2 := wrap_lo (by omega) (by omega)
  simp only [List.length_cons, List.length_nil, atS, h2, Nat.zero_add, Nat.reduceAdd]
  simp
theorem xD_put : putR xD 0 tyD = (yD, true) := by
  have h0 : wrap64 ((0 : Nat) : Int) = 0 := wrap_lo (by omega) (by omega)
  have h1 : wrap64 ((1 : Nat) : Int) = 1 := wrap_lo (by omega) (by omega)
  have h2 : wrap64 ((2 : Nat) : Int) = 2 := wrap_lo (by omega) (by omega)
  unfold putR
  rw [xD_sites]
  simp only [List.length_cons, List.length_nil, hitB, Nat.zero_add, Nat.reduceAdd, h0, decide_true, Bool.or_true, Bool.true_or, if_true]
  simp only [turnD, turnB, turnE_eq, turnK_cons, turnK_nil, turnT, putF, List.length_cons, List.length_nil, Nat.zero_add, Nat.reduceAdd, h0, h1, h2]
  simp
set_option maxHeartbeats 8000000 in
set_option maxRecDepth 100000 in
theorem awake17_c {w : World} : Calls Try.prog 12 #[] w fun e w' => e = .returned (.bool true) ∧ Below w.heap.size w w' := by
  have HD := Aside0.mk (fun W => @dyn_c W)
  go_enter Try.func12, Try.ntmps12
  go_wp2_with fail
  go_call (simple_c 1) as e w1 ⟨he, hb1⟩
  subst he
  go_wp2_with fail
  go_call (HD.out _) as e w2 ⟨he, hb2⟩
  subst he
  have HB2 := Aside0.mk (hb1.trans (hb2.mono hb1.size))
  clear HD hb1 hb2
  have s0_ : w2.heap.size = w2.heap.size := by rfl
  have k0 := blk_new w2 (.cells #[.int .i64 1, .int .i64 0, .string ⟨#[]⟩, .slice none 0 0, .slice none 0 0] 26)
  rw [s0_] at k0
  have s1_ : (w2.alloc (.cells #[.int .i64 1, .int .i64 0, .string ⟨#[]⟩, .slice none 0 0, .slice none 0 0] 26)).heap.size = w2.heap.size + 1 := by rw [World.size_alloc, s0_]
  have k1 := blk_new (w2.alloc (.cells #[.int .i64 1, .int .i64 0, .string ⟨#[]⟩, .slice none 0 0, .slice none 0 0] 26)) (.cells #[.int .i64 5, .int .i64 0, .string ⟨#[]⟩, .slice none 0 0, .slice none 0 0] 26)
  rw [s1_] at k1
  replace k0 := blk_alloc k0 (.cells #[.int .i64 5, .int .i64 0, .string ⟨#[]⟩, .slice none 0 0, .slice none 0 0] 26)
  have s2_ : ((w2.alloc (.cells #[.int .i64 1, .int .i64 0, .string ⟨#[]⟩, .slice none 0 0, .slice none 0 0] 26)).alloc (.cells #[.int .i64 5, .int .i64 0, .string ⟨#[]⟩, .slice none 0 0, .slice none 0 0] 26)).heap.size = w2.heap.size + 1 + 1 := by rw [World.size_alloc, s1_]
  have k2 := blk_new ((w2.alloc (.cells #[.int .i64 1, .int .i64 0, .string ⟨#[]⟩, .slice none 0 0, .slice none 0 0] 26)).alloc (.cells #[.int .i64 5, .int .i64 0, .string ⟨#[]⟩, .slice none 0 0, .slice none 0 0] 26)) (.cells #[.string ⟨#[120]⟩, .int .i64 1, .int .i64 0, .string ⟨#[]⟩, .slice none 0 0, .slice none 0 0] 68)
  rw [s2_] at k2
  replace k0 := blk_alloc k0 (.cells #[.string ⟨#[120]⟩, .int .i64 1, .int .i64 0, .string ⟨#[]⟩, .slice none 0 0, .slice none 0 0] 68)
  replace k1 := blk_alloc k1 (.cells #[.string ⟨#[120]⟩, .int .i64 1, .int .i64 0, .string ⟨#[]⟩, .slice none 0 0, .slice none 0 0] 68)
  have s3_ : (((w2.alloc (.cells #[.int .i64 1, .int .i64 0, .string ⟨#[]⟩, .slice none 0 0, .slice none 0 0] 26)).alloc (.cells #[.int .i64 5, .int .i64 0, .string ⟨#[]⟩, .slice none 0 0, .slice none 0 0] 26)).alloc (.cells #[.string ⟨#[120]⟩, .int .i64 1, .int .i64 0, .string ⟨#[]⟩, .slice none 0 0, .slice none 0 0] 68)).heap.size = w2.heap.size + 1 + 1 + 1 := by rw [World.size_alloc, s2_]
  have k3 := blk_new (((w2.alloc (.cells #[.int .i64 1, .int .i64 0, .string ⟨#[]⟩, .slice none 0 0, .slice none 0 0] 26)).alloc (.cells #[.int .i64 5, .int .i64 0, .string ⟨#[]⟩, .slice none 0 0, .slice none 0 0] 26)).alloc (.cells #[.string ⟨#[120]⟩, .int .i64 1, .int .i64 0, .string ⟨#[]⟩, .slice none 0 0, .slice none 0 0] 68)) (.cells #[.int .i64 1, .int .i64 0, .string ⟨#[]⟩, .slice none 0 0, .slice none 0 0] 26)
  rw [s3_] at k3
  replace k0 := blk_alloc k0 (.cells #[.int .i64 1, .int .i64 0, .string ⟨#[]⟩, .slice none 0 0, .slice none 0 0] 26)
  replace k1 := blk_alloc k1 (.cells #[.int .i64 1, .int .i64 0, .string ⟨#[]⟩, .slice none 0 0, .slice none 0 0] 26)
  replace k2 := blk_alloc k2 (.cells #[.int .i64 1, .int .i64 0, .string ⟨#[]⟩, .slice none 0 0, .slice none 0 0] 26)
  have s4_ : ((((w2.alloc (.cells #[.int .i64 1, .int .i64 0, .string ⟨#[]⟩, .slice none 0 0, .slice none 0 0] 26)).alloc (.cells #[.int .i64 5, .int .i64 0, .string ⟨#[]⟩, .slice none 0 0, .slice none 0 0] 26)).alloc (.cells #[.string ⟨#[120]⟩, .int .i64 1, .int .i64 0, .string ⟨#[]⟩, .slice none 0 0, .slice none 0 0] 68)).alloc (.cells #[.int .i64 1, .int .i64 0, .string ⟨#[]⟩, .slice none 0 0, .slice none 0 0] 26)).heap.size = w2.heap.size + 1 + 1 + 1 + 1 := by rw [World.size_alloc, s3_]
  have k4 := blk_new ((((w2.alloc (.cells #[.int .i64 1, .int .i64 0, .string ⟨#[]⟩, .slice none 0 0, .slice none 0 0] 26)).alloc (.cells #[.int .i64 5, .int .i64 0, .string ⟨#[]⟩, .slice none 0 0, .slice none 0 0] 26)).alloc (.cells #[.string ⟨#[120]⟩, .int .i64 1, .int .i64 0, .string ⟨#[]⟩, .slice none 0 0, .slice none 0 0] 68)).alloc (.cells #[.int .i64 1, .int .i64 0, .string ⟨#[]⟩, .slice none 0 0, .slice none 0 0] 26)) (.cells #[.int .i64 4, .int .i64 0, .string ⟨#[120]⟩, .bool false, .slice none 0 0, .slice none 0 0, .slice none 0 0] 31)
  rw [s4_] at k4
  replace k0 := blk_alloc k0 (.cells #[.int .i64 4, .int .i64 0, .string ⟨#[120]⟩, .bool false, .slice none 0 0, .slice none 0 0, .slice none 0 0] 31)
  replace k1 := blk_alloc k1 (.cells #[.int .i64 4, .int .i64 0, .string ⟨#[120]⟩, .bool false, .slice none 0 0, .slice none 0 0, .slice none 0 0] 31)
  replace k2 := blk_alloc k2 (.cells #[.int .i64 4, .int .i64 0, .string ⟨#[120]⟩, .bool false, .slice none 0 0, .slice none 0 0, .slice none 0 0] 31)
  replace k3 := blk_alloc k3 (.cells #[.int .i64 4, .int .i64 0, .string ⟨#[120]⟩, .bool false, .slice none 0 0, .slice none 0 0, .slice none 0 0] 31)
  have s5_ : (((((w2.alloc (.cells #[.int .i64 1, .int .i64 0, .string ⟨#[]⟩, .slice none 0 0, .slice none 0 0] 26)).alloc (.cells #[.int .i64 5, .int .i64 0, .string ⟨#[]⟩, .slice none 0 0, .slice none 0 0] 26)).alloc (.cells #[.string ⟨#[120]⟩, .int .i64 1, .int .i64 0, .string ⟨#[]⟩, .slice none 0 0, .slice none 0 0] 68)).alloc (.cells #[.int .i64 1, .int .i64 0, .string ⟨#[]⟩, .slice none 0 0, .slice none 0 0] 26)).alloc (.cells #[.int .i64 4, .int .i64 0, .string ⟨#[120]⟩, .bool false, .slice none 0 0, .slice none 0 0, .slice none 0 0] 31)).heap.size = w2.heap.size + 1 + 1 + 1 + 1 + 1 := by rw [World.size_alloc, s4_]
  have k5 := blk_new (((((w2.alloc (.cells #[.int .i64 1, .int .i64 0, .string ⟨#[]⟩, .slice none 0 0, .slice none 0 0] 26)).alloc (.cells #[.int .i64 5, .int .i64 0, .string ⟨#[]⟩, .slice none 0 0, .slice none 0 0] 26)).alloc (.cells #[.string ⟨#[120]⟩, .int .i64 1, .int .i64 0, .string ⟨#[]⟩, .slice none 0 0, .slice none 0 0] 68)).alloc (.cells #[.int .i64 1, .int .i64 0, .string ⟨#[]⟩, .slice none 0 0, .slice none 0 0] 26)).alloc (.cells #[.int .i64 4, .int .i64 0, .string ⟨#[120]⟩, .bool false, .slice none 0 0, .slice none 0 0, .slice none 0 0] 31)) (.cells (dcells xD none 0 (some ⟨w2.heap.size + 1 + 1, 0, none⟩) 1 none 0 none 0 (some ⟨w2.heap.size + 1 + 1 + 1, 0, none⟩) 1 none 0 (some ⟨w2.heap.size + 1 + 1 + 1 + 1, 0, none⟩) 1) 33)
  rw [s5_] at k5
  replace k0 := blk_alloc k0 (.cells (dcells xD none 0 (some ⟨w2.heap.size + 1 + 1, 0, none⟩) 1 none 0 none 0 (some ⟨w2.heap.size + 1 + 1 + 1, 0, none⟩) 1 none 0 (some ⟨w2.heap.size + 1 + 1 + 1 + 1, 0, none⟩) 1) 33)
  replace k1 := blk_alloc k1 (.cells (dcells xD none 0 (some ⟨w2.heap.size + 1 + 1, 0, none⟩) 1 none 0 none 0 (some ⟨w2.heap.size + 1 + 1 + 1, 0, none⟩) 1 none 0 (some ⟨w2.heap.size + 1 + 1 + 1 + 1, 0, none⟩) 1) 33)
  replace k2 := blk_alloc k2 (.cells (dcells xD none 0 (some ⟨w2.heap.size + 1 + 1, 0, none⟩) 1 none 0 none 0 (some ⟨w2.heap.size + 1 + 1 + 1, 0, none⟩) 1 none 0 (some ⟨w2.heap.size + 1 + 1 + 1 + 1, 0, none⟩) 1) 33)
  replace k3 := blk_alloc k3 (.cells (dcells xD none 0 (some ⟨w2.heap.size + 1 + 1, 0, none⟩) 1 none 0 none 0 (some ⟨w2.heap.size + 1 + 1 + 1, 0, none⟩) 1 none 0 (some ⟨w2.heap.size + 1 + 1 + 1 + 1, 0, none⟩) 1) 33)
  replace k4 := blk_alloc k4 (.cells (dcells xD none 0 (some ⟨w2.heap.size + 1 + 1, 0, none⟩) 1 none 0 none 0 (some ⟨w2.heap.size + 1 + 1 + 1, 0, none⟩) 1 none 0 (some ⟨w2.heap.size + 1 + 1 + 1 + 1, 0, none⟩) 1) 33)
  have s6_ : ((((((w2.alloc (.cells #[.int .i64 1, .int .i64 0, .string ⟨#[]⟩, .slice none 0 0, .slice none 0 0] 26)).alloc (.cells #[.int .i64 5, .int .i64 0, .string ⟨#[]⟩, .slice none 0 0, .slice none 0 0] 26)).alloc (.cells #[.string ⟨#[120]⟩, .int .i64 1, .int .i64 0, .string ⟨#[]⟩, .slice none 0 0, .slice none 0 0] 68)).alloc (.cells #[.int .i64 1, .int .i64 0, .string ⟨#[]⟩, .slice none 0 0, .slice none 0 0] 26)).alloc (.cells #[.int .i64 4, .int .i64 0, .string ⟨#[120]⟩, .bool false, .slice none 0 0, .slice none 0 0, .slice none 0 0] 31)).alloc (.cells (dcells xD none 0 (some ⟨w2.heap.size + 1 + 1, 0, none⟩) 1 none 0 none 0 (some ⟨w2.heap.size + 1 + 1 + 1, 0, none⟩) 1 none 0 (some ⟨w2.heap.size + 1 + 1 + 1 + 1, 0, none⟩) 1) 33)).heap.size = w2.heap.size + 1 + 1 + 1 + 1 + 1 + 1 := by rw [World.size_alloc, s5_]
  have b0 : Below w2.heap.size w2 ((((((w2.alloc (.cells #[.int .i64 1, .int .i64 0, .string ⟨#[]⟩, .slice none 0 0, .slice none 0 0] 26)).alloc (.cells #[.int .i64 5, .int .i64 0, .string ⟨#[]⟩, .slice none 0 0, .slice none 0 0] 26)).alloc (.cells #[.string ⟨#[120]⟩, .int .i64 1, .int .i64 0, .string ⟨#[]⟩, .slice none 0 0, .slice none 0 0] 68)).alloc (.cells #[.int .i64 1, .int .i64 0, .string ⟨#[]⟩, .slice none 0 0, .slice none 0 0] 26)).alloc (.cells #[.int .i64 4, .int .i64 0, .string ⟨#[120]⟩, .bool false, .slice none 0 0, .slice none 0 0, .slice none 0 0] 31)).alloc (.cells (dcells xD none 0 (some ⟨w2.heap.size + 1 + 1, 0, none⟩) 1 none 0 none 0 (some ⟨w2.heap.size + 1 + 1 + 1, 0, none⟩) 1 none 0 (some ⟨w2.heap.size + 1 + 1 + 1 + 1, 0, none⟩) 1) 33)) := (((((((Below.refl _ w2).alloc (by rw [s0_]; omega) _).alloc (by rw [s1_]; omega) _).alloc (by rw [s2_]; omega) _).alloc (by rw [s3_]; omega) _).alloc (by rw [s4_]; omega) _).alloc (by rw [s5_]; omega) _)
  have hok : ∀ k, k ≤ 4 → w2.heap.size + k < w2.heap.size + 1 + 1 + 1 + 1 + 1 + 1 := fun k h => by omega
  obtain ⟨Bs, hBs⟩ : ∃ f : Nat → Prop, f = fun b => b < w2.heap.size + 1 + 1 + 1 + 1 + 1 + 1 := ⟨_, rfl⟩
  have hFD : FD ((((((w2.alloc (.cells #[.int .i64 1, .int .i64 0, .string ⟨#[]⟩, .slice none 0 0, .slice none 0 0] 26)).alloc (.cells #[.int .i64 5, .int .i64 0, .string ⟨#[]⟩, .slice none 0 0, .slice none 0 0] 26)).alloc (.cells #[.string ⟨#[120]⟩, .int .i64 1, .int .i64 0, .string ⟨#[]⟩, .slice none 0 0, .slice none 0 0] 68)).alloc (.cells #[.int .i64 1, .int .i64 0, .string ⟨#[]⟩, .slice none 0 0, .slice none 0 0] 26)).alloc (.cells #[.int .i64 4, .int .i64 0, .string ⟨#[120]⟩, .bool false, .slice none 0 0, .slice none 0 0, .slice none 0 0] 31)).alloc (.cells (dcells xD none 0 (some ⟨w2.heap.size + 1 + 1, 0, none⟩) 1 none 0 none 0 (some ⟨w2.heap.size + 1 + 1 + 1, 0, none⟩) 1 none 0 (some ⟨w2.heap.size + 1 + 1 + 1 + 1, 0, none⟩) 1) 33)) Bs xD none 0 (some ⟨w2.heap.size + 1 + 1, 0, none⟩) 1 none 0 none 0 (some ⟨w2.heap.size + 1 + 1 + 1, 0, none⟩) 1 none 0 (some ⟨w2.heap.size + 1 + 1 + 1 + 1, 0, none⟩) 1 := by
    rw [hBs]
    exact ⟨⟨Nat.le_refl _, Kd.F_nil _ _ _⟩, ⟨Nat.le_refl _, one_F (x := (⟨⟨#[120]⟩, tyI⟩ : Bi)) k2 (bi_fk (x := ⟨⟨#[120]⟩, tyI⟩) (leafT _ _ _ _ _)) rfl (by omega)⟩, leafT _ _ _ _ _, Nat.le_refl _, one_F (x := tyI) k3 (leafT _ _ _ _ _).fk rfl (by omega), Nat.le_refl _, Kd.F_nil _ _ _, Nat.le_refl _, one_F (x := exV) k4 (leafE _ _ _ _ _ _).fk rfl (by omega)⟩
  have HC := Aside0.mk (at_c xD xD_ok 2 (Base := Bs) (w := ((((((w2.alloc (.cells #[.int .i64 1, .int .i64 0, .string ⟨#[]⟩, .slice none 0 0, .slice none 0 0] 26)).alloc (.cells #[.int .i64 5, .int .i64 0, .string ⟨#[]⟩, .slice none 0 0, .slice none 0 0] 26)).alloc (.cells #[.string ⟨#[120]⟩, .int .i64 1, .int .i64 0, .string ⟨#[]⟩, .slice none 0 0, .slice none 0 0] 68)).alloc (.cells #[.int .i64 1, .int .i64 0, .string ⟨#[]⟩, .slice none 0 0, .slice none 0 0] 26)).alloc (.cells #[.int .i64 4, .int .i64 0, .string ⟨#[120]⟩, .bool false, .slice none 0 0, .slice none 0 0, .slice none 0 0] 31)).alloc (.cells (dcells xD none 0 (some ⟨w2.heap.size + 1 + 1, 0, none⟩) 1 none 0 none 0 (some ⟨w2.heap.size + 1 + 1 + 1, 0, none⟩) 1 none 0 (some ⟨w2.heap.size + 1 + 1 + 1 + 1, 0, none⟩) 1) 33))) (fun b hb => by rw [hBs] at hb; rw [s6_]; exact hb) hFD)
  have HFD := Aside0.mk hFD
  have HB0 := Aside0.mk b0
  have HS6 := Aside0.mk s6_
  have K5 := Aside0.mk (And.intro k0 (And.intro k1 k5))
  have HBS := Aside0.mk hBs
  clear hFD b0 s0_ s1_ s2_ s3_ s4_ s5_ s6_ k2 k3 k4 hok hBs k0 k1
  go_wp2_with (first
    | (refine wpList_load_row rfl 33 (.tmp 3) rfl (w2.heap.size + 1 + 1 + 1 + 1 + 1) rfl _ _ (0, 0) _ k5 Try.underlying33 rfl (by kernel_rfl) ?_)
    | fail)
  go_call (HC.out) as e w3 ⟨A3, c3, A4, c4, he, hft, hb⟩
  rw [xD_at] at he
  subst he
  obtain ⟨k0, k1, k5'⟩ := K5.out
  have hz3 : w2.heap.size + 6 ≤ w3.heap.size := by have := hb.size; rw [HS6.out] at this; exact this
  have k5 := blk_below k5' hb
  replace k1 := blk_below k1 hb
  have hFD3 := HFD.out.below hb
  have hbw : Below w2.heap.size w2 w3 := HB0.out.trans (hb.mono (by rw [HS6.out]; omega))
  clear k0 k5' K5 hft hb HC HFD HB0 HS6
  have kT := blk_new w3 (.cells (tarr tyI A3 c3 A4 c4) 26)
  have bT := below_alloc1 w3 (.cells (tarr tyI A3 c3 A4 c4) 26)
  have zT' := World.size_alloc w3 (.cells (tarr tyI A3 c3 A4 c4) 26)
  have k5b := blk_below k5 bT
  have k1b := blk_below k1 bT
  have hFD4 := hFD3.below bT
  have HP := Aside0.mk (sput_c xD xD_ok 0 tyD (Base := Bs) (w := w3.alloc (.cells (tarr tyI A3 c3 A4 c4) 26)) (fun b hb => by rw [HBS.out] at hb; rw [zT']; omega) hFD4 (T3 := none) (e3 := 0) (T4 := none) (e4 := 0) (leafT _ _ _ _ _))
  have HFD4 := Aside0.mk hFD4
  have HBW := Aside0.mk (And.intro hbw (And.intro bT (And.intro kT zT')))
  have hz9 : w2.heap.size + 1 < w3.heap.size := by omega
  clear hFD3 hFD4 hbw bT zT' k1
  go_wp2_with (first
    | (refine wpList_load_row rfl 33 (.tmp 3) rfl (w2.heap.size + 1 + 1 + 1 + 1 + 1) rfl _ _ (0, 0) _ k5b Try.underlying33 rfl (by kernel_rfl) ?_)
    | (refine wpList_load_row rfl 26 (.tmp 2) rfl (w2.heap.size + 1) rfl _ _ (0, 0) _ k1b Try.underlying26 rfl (by kernel_rfl) ?_)
    | fail)
  go_call (HP.out) as e w4 ⟨X1, y1, X2, y2, X3, y3, X4, y4, Z4, u4, Z5, u5, Z6, u6, he, hfd, hb⟩
  rw [xD_put] at he hfd
  subst he
  obtain ⟨hbw, bT, kT, zT'⟩ := HBW.out
  have hz4 : w3.heap.size + 1 ≤ w4.heap.size := by have := hb.size; rw [zT'] at this; exact this
  have kN := blk_new w4 (.cells zdcells 33)
  have bN := below_alloc1 w4 (.cells zdcells 33)
  have hqR : Kq (fun b => b = w4.heap.size) _ _ := Kq.setRow (w4.alloc (.cells zdcells 33)) (g := w4.heap.size) (dcells yD X1 y1 X2 y2 X3 y3 X4 y4 Z4 u4 Z5 u5 Z6 u6)
  have kX := setRow_heap (w4.alloc (.cells zdcells 33)) w4.heap.size _ (dcells yD X1 y1 X2 y2 X3 y3 X4 y4 Z4 u4 Z5 u5 Z6 u6) _ _ kN
  have k5c := hqR.blk (blk_below (blk_below k5b hb) bN) (by omega)
  have kTc := hqR.blk (blk_below (blk_below kT hb) bN) (by omega)
  have hbl : Below (w3.alloc (.cells (tarr tyI A3 c3 A4 c4) 26)).heap.size (w3.alloc (.cells (tarr tyI A3 c3 A4 c4) 26)) _ := (hb.trans (bN.mono hb.size)).trans (hqR.below (by have := bN.size; have := hb.size; omega) (fun k hk h => by rw [zT'] at hk; omega))
  have hfd2 : FD _ (fun b => b < w4.heap.size) yD X1 y1 X2 y2 X3 y3 X4 y4 Z4 u4 Z5 u5 Z6 u6 := ((hfd.rd.fd).below bN).kq hqR (fun b hb he => by omega)
  have hfd5 := HFD4.out.below hbl
  have hsz5 := hbl.size
  have HBW2 := Aside0.mk (hbw.trans ((bT.trans (hbl.mono bT.size)).mono hbw.size))
  have HKN := Aside0.mk kN
  clear hbw bT kT hb kN bN hqR hfd k1b HFD4 HP HBW k5 k5b
  generalize hW5 : World.setRow _ _ _ = W5 at kX k5c kTc hfd2 hfd5 hsz5 HBW2
  have HC5 := Aside0.mk (count_c2 xD xD_ok (by rw [xD_sites]; simp) (Base := Bs) (w := W5) (fun b hb => by rw [HBS.out] at hb; omega) hfd5)
  have HKX := Aside0.mk (And.intro kX (And.intro k5c (And.intro kTc (And.intro hfd2 hfd5))))
  clear hfd2 hfd5 kTc hsz5
  go_wp2_with (first
    | (refine wpList_store_row rfl 33 (.tmp 7) (.tmp 32) rfl w4.heap.size (dcells yD X1 y1 X2 y2 X3 y3 X4 y4 Z4 u4 Z5 u5 Z6 u6) rfl rfl _ _ HKN.out (by kernel_rfl) rfl (by simp [Value.oneCell']) ?_; rw [hW5])
    | (refine wpList_load_row rfl 33 (.tmp 3) rfl (w2.heap.size + 1 + 1 + 1 + 1 + 1) rfl _ _ (0, 0) _ k5c Try.underlying33 rfl (by kernel_rfl) ?_)
    | fail)
  go_call (HC5.out) as e w6 ⟨he, hb⟩
  rw [xD_sites] at he
  subst he
  obtain ⟨kX', k5', kTc, hfd2, hfd5⟩ := HKX.out
  have kX6 := blk_below kX' hb
  have k56 := blk_below k5' hb
  have kT6 := blk_below kTc hb
  have hy := belt (hfd2.rd.below hb).1.2.1.2 0 (by simp)
  have hx := belt (hfd5.rd.below hb).1.2.1.2 0 (by simp)
  have hbw := HB2.out.trans ((HBW2.out.trans (hb.mono HBW2.out.size)).mono HB2.out.size)
  have HBF := Aside0.mk hbw
  clear kX' k5' kTc hfd2 hfd5 hb HKX HC5 kX k5c HBW2 HB2 hbw
  obtain ⟨ad, V3, v3, V4, v4, hE, -, b0_, b1_, b2_, b3_, b4_, b5_⟩ := hy
  obtain ⟨ad2, V5, v5, V6, v6, hE2, -, c0_, c1_, c2_, c3_, c4_, c5_⟩ := hx
  subst hE
  obtain rfl := (Option.some.inj hE2).symm
  obtain ⟨⟨f0, f1, f2, f3, f4⟩, -, lf⟩ := five kT6
  obtain ⟨⟨g0, g1, g2, g3, g4, g5, g6, g7, g8, g9, g10, g11, g12, g13, g14⟩, -, lg⟩ := fifteen kX6
  obtain ⟨⟨h0, h1, h2, h3, h4, h5, h6, h7, h8, h9, h10, h11, h12, h13, h14⟩, -, lh⟩ := fifteen k56
  dsimp only [List.getElem_cons_zero] at b0_ b1_ c0_ c1_
  have b1x : w6.cell? ⟨ad.block, ad.off + 1, none⟩ = some (.int .i64 5) := by simpa [Addr.add_zero'] using b1_
  have c1x : w6.cell? ⟨w2.heap.size + 1 + 1, 1, none⟩ = some (.int .i64 1) := by simpa [Addr.add_zero'] using c1_
  clear kX6 k56 kT6 b0_ b1_ b2_ b3_ b4_ b5_ c0_ c1_ c2_ c3_ c4_ c5_
  go_wp2
  go_ret
  exact ⟨rfl, HBF.out⟩
end Go.Proofs.Ytlenfmnkbepoiaa.PSitesTell
namespace Go.Proofs.Ytlenfmnkbepoiaa.PSitesTell
open Go.RowKit Go.Proofs.YtlenfmnkbepoiaaW.Mine Go.Proofs.YtlenfmnkbepoiaaW.PrintWords Go.Proofs.YtlenfmnkbepoiaaW.PrintLast Go.Proofs.YtlenfmnkbepoiaaW.PrintMore
set_option linter.unusedVariables false
set_option linter.unusedSimpArgs false
mutual
theorem nodesE_turn (F : Nat → Ty → Ty) : ∀ (x : Ex) (i : Nat), nodesE (turnE F i x) = nodesE x
  | ⟨a, b, c, d, ts, ls, ks⟩, i => by
    rw [turnE_eq, nodesE_eq, nodesE_eq]
    dsimp only
    rw [nodesK_turn F ks]
theorem nodesK_turn (F : Nat → Ty → Ty) : ∀ (l : List Ex) (i : Nat), nodesK (turnK F i l) = nodesK l
  | [], i => by rw [turnK_nil]
  | a :: l, i => by rw [turnK_cons, nodesK_cons, nodesK_cons, nodesE_turn F a, nodesK_turn F l]
end
mutual
theorem numE_turn (F : Nat → Ty → Ty) : ∀ (x : Ex) (i : Nat), numE (turnE F i x) = numE x
  | ⟨a, b, c, d, ts, ls, ks⟩, i => by
    rw [turnE_eq, numE_eq, numE_eq]
    dsimp only
    rw [numK_turn F ks, turnT_len]
theorem numK_turn (F : Nat → Ty → Ty) : ∀ (l : List Ex) (i : Nat), numK (turnK F i l) = numK l
  | [], i => by rw [turnK_nil]
  | a :: l, i => by rw [turnK_cons, numK_cons, numK_cons, numE_turn F a, numK_turn F l]
end
/-- Sites turned, from a number on. -/
def mapI (F : Nat → Ty → Ty) (i : Nat) : List (Ty × Int) → List (Ty × Int)
  | [] => []
  | p :: l => (F i p.1, p.2) :: mapI F (i + 1) l
theorem mapI_len (F : Nat → Ty → Ty) : ∀ (l : List (Ty × Int)) (i : Nat), (mapI F i l).length = l.length
  | [], _ => rfl
  | p :: l, i => by simp only [mapI, List.length_cons, mapI_len F l]
theorem mapI_append (F : Nat → Ty → Ty) : ∀ (a b : List (Ty × Int)) (i : Nat), mapI F i (a ++ b) = mapI F i a ++ mapI F (i + a.length) b
  | [], b, i => by simp [mapI]
  | p :: a, b, i => by
    simp only [List.cons_append, mapI, List.length_cons]
    rw [mapI_append F a b (i + 1), show i + 1 + a.length = i + (a.length + 1) by omega]
theorem mapI_get (F : Nat → Ty → Ty) : ∀ (l : List (Ty × Int)) (i j : Nat), (mapI F i l)[j]? = (l[j]?).map (fun p => (F (i + j) p.1, p.2))
  | [], i, j => by simp [mapI]
  | p :: l, i, 0 => by simp [mapI]
  | p :: l, i, j + 1 => by
    simp only [mapI, List.getElem?_cons_succ]
    rw [mapI_get F l (i + 1) j, show i + 1 + j = i + (j + 1) by omega]
theorem turnT_sites (F : Nat → Ty → Ty) (n : Int) : ∀ (l : List Ty) (i : Nat), (turnT F i l).map (fun t => (t, n)) = mapI F i (l.map (fun t => (t, n)))
  | [], _ => rfl
  | a :: l, i => by simp only [turnT, List.map_cons, mapI, turnT_sites F n l]
theorem turnB_sites (F : Nat → Ty → Ty) : ∀ (l : List Bi) (i : Nat), (turnB F i l).map (fun b => (b.f1, (0 : Int))) = mapI F i (l.map (fun b => (b.f1, (0 : Int))))
  | [], _ => rfl
  | a :: l, i => by simp only [turnB, List.map_cons, mapI, turnB_sites F l]
mutual
theorem turnE_sites (F : Nat → Ty → Ty) : ∀ (x : Ex) (i : Nat) (n : Int), sitesE n (turnE F i x) = mapI F i (sitesE n x)
  | ⟨a, b, c, d, ts, ls, ks⟩, i, n => by
    rw [turnE_eq, sitesE_eq, sitesE_eq, mapI_append]
    dsimp only
    rw [turnT_sites, turnK_sites F ks, List.length_map]
theorem turnK_sites (F : Nat → Ty → Ty) : ∀ (l : List Ex) (i : Nat) (n : Int), sitesK n (turnK F i l) = mapI F i (sitesK n l)
  | [], i, n => by rw [turnK_nil, sitesK_nil]; rfl
  | a :: l, i, n => by
    have hc : cntE (turnE F i a) = cntE a := by unfold cntE; rw [nodesE_turn]
    rw [turnK_cons, sitesK_cons, sitesK_cons, mapI_append, turnE_sites F a, hc, turnK_sites F l, sitesE_len]
end
theorem turnD_sites (F : Nat → Ty → Ty) (d : De) : sitesD (turnD F d) = mapI F 0 (sitesD d) := by
  unfold sitesD turnD
  dsimp only
  rw [turnB_sites, turnB_sites, turnE_sites, mapI_append, mapI_append, mapI_append, List.length_append, List.length_append, List.length_append, List.length_map, List.length_map]
  simp [mapI]
theorem turnD_len (F : Nat → Ty → Ty) (d : De) : (sitesD (turnD F d)).length = (sitesD d).length := by rw [turnD_sites, mapI_len]
theorem turnD_get (F : Nat → Ty → Ty) (d : De) (j : Nat) : (sitesD (turnD F d))[j]? = ((sitesD d)[j]?).map (fun p => (F j p.1, p.2)) := by rw [turnD_sites, mapI_get]; simp
/-! Turned twice. -/
theorem turnT_two (F G : Nat → Ty → Ty) : ∀ (l : List Ty) (i : Nat), turnT F i (turnT G i l) = turnT (fun j t => F j (G j t)) i l
  | [], _ => rfl
  | a :: l, i => by simp only [turnT, turnT_two F G l]
theorem turnB_two (F G : Nat → Ty → Ty) : ∀ (l : List Bi) (i : Nat), turnB F i (turnB G i l) = turnB (fun j t => F j (G j t)) i l
  | [], _ => rfl
  | a :: l, i => by simp only [turnB, turnB_two F G l]
mutual
theorem turnE_two (F G : Nat → Ty → Ty) : ∀ (x : Ex) (i : Nat), turnE F i (turnE G i x) = turnE (fun j t => F j (G j t)) i x
  | ⟨a, b, c, d, ts, ls, ks⟩, i => by
    rw [turnE_eq G, turnE_eq F, turnE_eq]
    dsimp only
    rw [turnT_two, turnT_len, turnK_two F G ks]
theorem turnK_two (F G : Nat → Ty → Ty) : ∀ (l : List Ex) (i : Nat), turnK F i (turnK G i l) = turnK (fun j t => F j (G j t)) i l
  | [], i => by rw [turnK_nil, turnK_nil, turnK_nil]
  | a :: l, i => by rw [turnK_cons, turnK_cons, turnK_cons, turnE_two F G a, numE_turn, turnK_two F G l]
end
theorem turnD_two (F G : Nat → Ty → Ty) (d : De) : turnD F (turnD G d) = turnD (fun j t => F j (G j t)) d := by
  unfold turnD
  dsimp only
  rw [turnB_two, turnB_len, turnB_len, turnB_two, turnE_two]
/-! Turned alike. -/
theorem turnT_ext (F G : Nat → Ty → Ty) : ∀ (l : List Ty) (i : Nat), (∀ j t, l[j]? = some t → F (i + j) t = G (i + j) t) → turnT F i l = turnT G i l
  | [], _, _ => rfl
  | a :: l, i, h => by
    simp only [turnT]
    rw [show F i a = G i a from by simpa using h 0 a rfl, turnT_ext F G l (i + 1) (fun j t hj => by have := h (j + 1) t (by simpa using hj); rwa [show i + (j + 1) = i + 1 + j by omega] at this)]
theorem turnB_ext (F G : Nat → Ty → Ty) : ∀ (l : List Bi) (i : Nat), (∀ j b, l[j]? = some b → F (i + j) b.f1 = G (i + j) b.f1) → turnB F i l = turnB G i l
  | [], _, _ => rfl
  | a :: l, i, h => by
    simp only [turnB]
    rw [show F i a.f1 = G i a.f1 from by simpa using h 0 a rfl, turnB_ext F G l (i + 1) (fun j t hj => by have := h (j + 1) t (by simpa using hj); rwa [show i + (j + 1) = i + 1 + j by omega] at this)]
mutual
theorem turnE_ext (F G : Nat → Ty → Ty) : ∀ (x : Ex) (i : Nat) (n : Int), (∀ j p, (sitesE n x)[j]? = some p → F (i + j) p.1 = G (i + j) p.1) → turnE F i x = turnE G i x
  | ⟨a, b, c, d, ts, ls, ks⟩, i, n, h => by
    rw [sitesE_eq] at h
    dsimp only at h
    rw [turnE_eq, turnE_eq]
    dsimp only
    rw [turnT_ext F G ts i (fun j t hj => h j (t, n) (by rw [List.getElem?_append_left (by rw [List.length_map]; exact (List.getElem?_eq_some_iff.1 hj).1), List.getElem?_map, hj]; rfl)),
      turnK_ext F G ks (i + ts.length) (wrap64 (n + 1)) (fun j p hj => by
        have := h (ts.length + j) p (by rw [List.getElem?_append_right (by rw [List.length_map]; omega), List.length_map, show ts.length + j - ts.length = j by omega]; exact hj)
        rwa [show i + (ts.length + j) = i + ts.length + j by omega] at this)]
theorem turnK_ext (F G : Nat → Ty → Ty) : ∀ (l : List Ex) (i : Nat) (n : Int), (∀ j p, (sitesK n l)[j]? = some p → F (i + j) p.1 = G (i + j) p.1) → turnK F i l = turnK G i l
  | [], i, n, _ => by rw [turnK_nil, turnK_nil]
  | a :: l, i, n, h => by
    rw [sitesK_cons] at h
    rw [turnK_cons, turnK_cons]
    rw [turnE_ext F G a i n (fun j p hj => h j p (by rw [List.getElem?_append_left (List.getElem?_eq_some_iff.1 hj).1]; exact hj)),
      turnK_ext F G l (i + numE a) _ (fun j p hj => by
        have := h (numE a + j) p (by rw [List.getElem?_append_right (by rw [sitesE_len]; omega), sitesE_len, show numE a + j - numE a = j by omega]; exact hj)
        rwa [show i + (numE a + j) = i + numE a + j by omega] at this)]
end
theorem turnD_ext (F G : Nat → Ty → Ty) (d : De) (h : ∀ j p, (sitesD d)[j]? = some p → F j p.1 = G j p.1) : turnD F d = turnD G d := by
  obtain ⟨q1, q2, q3, q4⟩ := (At.self (sitesD d)).parts
  unfold turnD
  rw [turnB_ext F G d.f0.f1 0 (fun j b hj => by have := h j (b.f1, 0) (by have := q1 j (b.f1, 0) (by rw [List.getElem?_map, hj]; rfl); rwa [Nat.zero_add] at this); rwa [Nat.zero_add]),
    turnB_ext F G d.f0.f2 d.f0.f1.length (fun j b hj => h _ (b.f1, 0) (q2 j (b.f1, 0) (by rw [List.getElem?_map, hj]; rfl))),
    turnE_ext F G d.f1 (d.f0.f1.length + d.f0.f2.length + 1) 1 (fun j p hj => h _ p (q4 j p hj)), h _ _ q3]
theorem turnT_id : ∀ (l : List Ty) (i : Nat), turnT idF i l = l
  | [], _ => rfl
  | a :: l, i => by simp only [turnT, turnT_id l, idF]
theorem turnB_id : ∀ (l : List Bi) (i : Nat), turnB idF i l = l
  | [], _ => rfl
  | a :: l, i => by simp only [turnB, turnB_id l, idF]
mutual
theorem turnE_id : ∀ (x : Ex) (i : Nat), turnE idF i x = x
  | ⟨a, b, c, d, ts, ls, ks⟩, i => by
    rw [turnE_eq]
    dsimp only
    rw [turnT_id, turnK_id ks]
theorem turnK_id : ∀ (l : List Ex) (i : Nat), turnK idF i l = l
  | [], i => turnK_nil _ _
  | a :: l, i => by rw [turnK_cons, turnE_id a, turnK_id l]
end
theorem turnD_id (d : De) : turnD idF d = d := by
  unfold turnD
  rw [turnB_id, turnB_id, turnE_id]
  rfl
/-! What At and Put tell, of definitions that are small. -/
theorem atS_small (st : List (Ty × Int)) (k : Nat) : ∀ (j : Nat), j ≤ st.length → st.length ≤ 1000000000000 → atS st (k : Int) j = if k < j then st.getD k (zT, 0) else (zT, -1)
  | 0, _, _ => rfl
  | j + 1, h, hs => by
    show (if wrap64 (j : Int) = (k : Int) then st.getD j (zT, 0) else atS st (k : Int) j) = _
    rw [wrap_lo (by omega) (by omega), atS_small st k j (by omega) hs]
    by_cases hj : j = k
    · subst hj
      rw [if_pos rfl, if_pos (by omega)]
    · rw [if_neg (by omega)]
      by_cases h2 : k < j
      · rw [if_pos h2, if_pos (by omega)]
      · rw [if_neg h2, if_neg (by omega)]
theorem hitB_small (k : Nat) : ∀ (j : Nat), j ≤ 1000000000000 → hitB (k : Int) j = decide (k < j)
  | 0, _ => by simp [hitB]
  | j + 1, h => by
    show (decide (wrap64 (j : Int) = (k : Int)) || hitB (k : Int) j) = _
    rw [wrap_lo (by omega) (by omega), hitB_small k j (by omega), ← Bool.decide_or]
    exact decide_eq_decide.2 (by omega)
theorem putF_small (k : Nat) (t : Ty) (j : Nat) (old : Ty) (h : j ≤ 1000000000000) : putF (k : Int) t j old = if j = k then t else old := by
  unfold putF
  rw [wrap_lo (by omega) (by omega)]
  by_cases hj : j = k
  · subst hj; rw [if_pos rfl, if_pos rfl]
  · rw [if_neg (by omega), if_neg hj]
/-- The numbers of a definition's sites. -/
theorem sitesD_rng (d : De) (hn : nodesE d.f1 ≤ 1000000000000) : ∀ p, p ∈ sitesD d → 0 ≤ p.2 := by
  intro p hp
  unfold sitesD at hp
  rw [List.mem_append, List.mem_append, List.mem_append] at hp
  rcases hp with ((hp | hp) | hp) | hp
  · obtain ⟨b, _, rfl⟩ := List.mem_map.1 hp; exact Int.le_refl _
  · obtain ⟨b, _, rfl⟩ := List.mem_map.1 hp; exact Int.le_refl _
  · rw [List.mem_singleton.1 hp]; exact Int.le_refl _
  · have := (sitesE_rng d.f1 1 (by omega) p hp).1
    omega
theorem atR_small (d : De) (hs : Small d) (k : Nat) (hk : k < (sitesD d).length) : atR d (k : Int) = ((sitesD d)[k].1, (sitesD d)[k].2, true) := by
  have e := atS_small (sitesD d) k _ (Nat.le_refl _) hs.1
  rw [if_pos hk, List.getD_eq_getElem?_getD, List.getElem?_eq_getElem hk, Option.getD_some] at e
  unfold atR
  rw [e, if_neg (by have := sitesD_rng d hs.2 _ (List.getElem_mem hk); omega)]
theorem putR_small (d : De) (hs : Small d) (t : Ty) (k : Nat) (hk : k < (sitesD d).length) : putR d (k : Int) t = (turnD (putF (k : Int) t) d, true) := by
  unfold putR
  rw [hitB_small k _ hs.1, decide_eq_true hk, if_pos rfl]
theorem Small.turn {d : De} (h : Small d) (F : Nat → Ty → Ty) : Small (turnD F d) := ⟨by rw [turnD_len]; exact h.1, by show nodesE (turnE F _ d.f1) ≤ _; rw [nodesE_turn]; exact h.2⟩
/-- Put back, it is what it was. -/
theorem put_back (d : De) (hs : Small d) (t : Ty) (k : Nat) (hk : k < (sitesD d).length) : turnD (putF (k : Int) (sitesD d)[k].1) (turnD (putF (k : Int) t) d) = d := by
  rw [turnD_two]
  refine (turnD_ext _ idF d (fun j p hj => ?_)).trans (turnD_id d)
  have hjl := (List.getElem?_eq_some_iff.1 hj).1
  have h1 := hs.1
  show putF (k : Int) (sitesD d)[k].1 j (putF (k : Int) t j p.1) = p.1
  rw [putF_small _ _ _ _ (by omega), putF_small _ _ _ _ (by omega)]
  by_cases hjk : j = k
  · subst hjk
    rw [List.getElem?_eq_getElem hk] at hj
    rw [if_pos rfl, Option.some.inj hj]
  · rw [if_neg hjk, if_neg hjk]
theorem put_at (d : De) (hs : Small d) (t : Ty) (k j : Nat) (hj : j < (sitesD d).length) (hj2 : j < (sitesD (turnD (putF (k : Int) t) d)).length) : (sitesD (turnD (putF (k : Int) t) d))[j] = (if j = k then t else (sitesD d)[j].1, (sitesD d)[j].2) := by
  have h1 := hs.1
  have h := turnD_get (putF (k : Int) t) d j
  rw [List.getElem?_eq_getElem hj, List.getElem?_eq_getElem hj2] at h
  rw [Option.some.inj h]
  show (putF (k : Int) t j (sitesD d)[j].1, (sitesD d)[j].2) = _
  rw [putF_small _ _ _ _ (by omega)]
/-! What fits, fits when turned. -/
mutual
theorem so_turn (F : Nat → Ty → Ty) : ∀ (x : Ex) (i : Nat), So x → So (turnE F i x)
  | ⟨a, b, c, d, ts, ls, ks⟩, i, h => by
    cases h with
    | mk _ h1 h2 h3 =>
      rw [turnE_eq]
      dsimp only at h1 h2 h3 ⊢
      exact .mk _ (by simpa [turnT_len] using h1) (by simpa [turnK_len] using h2) (soK_turn F ks _ h3)
theorem soK_turn (F : Nat → Ty → Ty) : ∀ (l : List Ex) (i : Nat), (∀ y, y ∈ l → So y) → ∀ y, y ∈ turnK F i l → So y
  | [], i, _, y, hy => by rw [turnK_nil] at hy; cases hy
  | a :: l, i, h, y, hy => by
    rw [turnK_cons, List.mem_cons] at hy
    rcases hy with rfl | hy
    · exact so_turn F a i (h a (List.mem_cons_self ..))
    · exact soK_turn F l _ (fun z hz => h z (List.mem_cons_of_mem _ hz)) y hy
end
theorem DOK.turn {d : De} (h : DOK d) (F : Nat → Ty → Ty) : DOK (turnD F d) := ⟨by show (turnB F 0 d.f0.f1).length * 96 ≤ _; rw [turnB_len]; exact h.1, by show (turnB F _ d.f0.f2).length * 96 ≤ _; rw [turnB_len]; exact h.2.1, so_turn F _ _ h.2.2⟩
theorem okt_turnT (F : Nat → Ty → Ty) (hF : ∀ j t, Okt t → Okt (F j t)) : ∀ (l : List Ty) (i : Nat), (∀ y, y ∈ l → Okt y) → ∀ y, y ∈ turnT F i l → Okt y
  | [], i, _, y, hy => by cases hy
  | a :: l, i, h, y, hy => by
    simp only [turnT, List.mem_cons] at hy
    rcases hy with rfl | hy
    · exact hF i a (h a (List.mem_cons_self ..))
    · exact okt_turnT F hF l _ (fun z hz => h z (List.mem_cons_of_mem _ hz)) y hy
theorem okt_turnB (F : Nat → Ty → Ty) (hF : ∀ j t, Okt t → Okt (F j t)) : ∀ (l : List Bi) (i : Nat), (∀ y, y ∈ l → Okt y.f1) → ∀ y, y ∈ turnB F i l → Okt y.f1
  | [], i, _, y, hy => by cases hy
  | a :: l, i, h, y, hy => by
    simp only [turnB, List.mem_cons] at hy
    rcases hy with rfl | hy
    · exact hF i a.f1 (h a (List.mem_cons_self ..))
    · exact okt_turnB F hF l _ (fun z hz => h z (List.mem_cons_of_mem _ hz)) y hy
mutual
theorem oke_turn (F : Nat → Ty → Ty) (hF : ∀ j t, Okt t → Okt (F j t)) : ∀ (x : Ex) (i : Nat), Oke x → Oke (turnE F i x)
  | ⟨a, b, c, d, ts, ls, ks⟩, i, h => by
    cases h with
    | mk _ h4 ht h5 h6 ha =>
      rw [turnE_eq]
      dsimp only at h4 ht h5 h6 ha ⊢
      exact .mk _ (by simpa [turnT_len] using h4) (okt_turnT F hF ts i ht) h5 (by simpa [turnK_len] using h6) (okeK_turn F hF ks _ ha)
theorem okeK_turn (F : Nat → Ty → Ty) (hF : ∀ j t, Okt t → Okt (F j t)) : ∀ (l : List Ex) (i : Nat), (∀ y, y ∈ l → Oke y) → ∀ y, y ∈ turnK F i l → Oke y
  | [], i, _, y, hy => by rw [turnK_nil] at hy; cases hy
  | a :: l, i, h, y, hy => by
    rw [turnK_cons, List.mem_cons] at hy
    rcases hy with rfl | hy
    · exact oke_turn F hF a i (h a (List.mem_cons_self ..))
    · exact okeK_turn F hF l _ (fun z hz => h z (List.mem_cons_of_mem _ hz)) y hy
end
theorem putF_okt {kk : Int} {t : Ty} (ht : Okt t) (j : Nat) (s : Ty) (hs : Okt s) : Okt (putF kk t j s) := by unfold putF; split; exact ht; exact hs
theorem OkD.turn {d : De} (h : OkD d) (F : Nat → Ty → Ty) (hF : ∀ j t, Okt t → Okt (F j t)) : OkD (turnD F d) :=
  ⟨⟨⟨by show (turnB F 0 d.f0.f1).length * 96 ≤ _; rw [turnB_len]; exact h.1.1.1, okt_turnB F hF _ _ h.1.1.2⟩, ⟨by show (turnB F _ d.f0.f2).length * 96 ≤ _; rw [turnB_len]; exact h.1.2.1.1, okt_turnB F hF _ _ h.1.2.1.2⟩, hF _ _ h.1.2.2⟩, oke_turn F hF _ _ h.2⟩
mutual
theorem so_oke : ∀ (x : Ex), Oke x → So x
  | ⟨a, b, c, d, ts, ls, ks⟩, h => by
    cases h with
    | mk _ h4 ht h5 h6 ha => exact .mk _ h4 h6 (soK_oke ks ha)
theorem soK_oke : ∀ (l : List Ex), (∀ y, y ∈ l → Oke y) → ∀ y, y ∈ l → So y
  | [], _, y, hy => by cases hy
  | a :: l, h, y, hy => by
    rw [List.mem_cons] at hy
    rcases hy with rfl | hy
    · exact so_oke y (h y (List.mem_cons_self ..))
    · exact soK_oke l (fun z hz => h z (List.mem_cons_of_mem _ hz)) y hy
end
theorem OkD.dok {d : De} (h : OkD d) : DOK d := ⟨h.1.1.1, h.1.2.1.1, so_oke _ h.2⟩
mutual
theorem okt_body : ∀ (x : Ex), Oke x → ∀ y, y ∈ bodyE x → Okt y
  | ⟨a, b, c, d, ts, ls, ks⟩, h, y, hy => by
    cases h with
    | mk _ h4 ht h5 h6 ha =>
      rw [bodyE_eq, List.mem_append] at hy
      dsimp only at ht ha hy
      rcases hy with hy | hy
      · exact ht y hy
      · exact okt_bodyK ks ha y hy
theorem okt_bodyK : ∀ (l : List Ex), (∀ y, y ∈ l → Oke y) → ∀ y, y ∈ bodyK l → Okt y
  | [], _, y, hy => by simp [bodyK] at hy
  | a :: l, h, y, hy => by
    simp only [bodyK, List.mem_append] at hy
    rcases hy with hy | hy
    · exact okt_body a (h a (List.mem_cons_self ..)) y hy
    · exact okt_bodyK l (fun z hz => h z (List.mem_cons_of_mem _ hz)) y hy
end
theorem okt_all {d : De} (h : OkD d) : ∀ y, y ∈ allD d → Okt y := by
  intro y hy
  rw [allD_eq, List.mem_append] at hy
  rcases hy with hy | hy
  · unfold sigT at hy
    rw [List.mem_append, List.mem_append] at hy
    rcases hy with (hy | hy) | hy
    · obtain ⟨b, hb, rfl⟩ := List.mem_map.1 hy; exact h.1.1.2 b hb
    · obtain ⟨b, hb, rfl⟩ := List.mem_map.1 hy; exact h.1.2.1.2 b hb
    · rw [List.mem_singleton.1 hy]; exact h.1.2.2
  · exact okt_body _ h.2 y hy
theorem okt_site {d : De} (h : OkD d) (k : Nat) (hk : k < (sitesD d).length) : Okt (sitesD d)[k].1 := okt_all h _ (by unfold allD; exact List.mem_map.2 ⟨_, List.getElem_mem hk, rfl⟩)
end Go.Proofs.Ytlenfmnkbepoiaa.PSitesTell
