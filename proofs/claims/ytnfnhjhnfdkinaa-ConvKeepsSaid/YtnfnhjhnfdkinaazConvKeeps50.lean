/-
  ConvKeeps: texts of this claim, put together by a program of this session. No conditions beyond what each lemma says.
-/
import Derived.Test.YtnfnhjhnfdkinaazConvKeeps49
namespace Go.Proofs.Ytnfnhjhnfdkinaa.PConvBack
open Go.RowKit Go.Proofs.YtnfnhjhnfdkinaaW.Mine Go.Proofs.YtnfnhjhnfdkinaaW.PrintWords Go.Proofs.YtnfnhjhnfdkinaaW.PrintLast Go.Proofs.YtnfnhjhnfdkinaaW.PrintMore
attribute [local go_sem] max2_int min2_int max_two min_two max_three min_three max_four min_four
set_option linter.unusedVariables false
set_option linter.unusedSimpArgs false
/-- A value told apart from a block g. -/
def RVg (w : World) (g : Nat) (x : Vl) (A6 : Option Addr) (c6 : Nat) (A7 : Option Addr) (c7 : Nat) (A8 : Option Addr) (c8 : Nat) : Prop := FV w (fun k => k ≠ g) x A6 c6 A7 c7 A8 c8
section
variable {w w1 : World} {g : Nat} {A6 A7 A8 : Option Addr} {c6 c7 c8 : Nat} {x : Vl}
theorem RVg.below (h : RVg w g x A6 c6 A7 c7 A8 c8) (hb : Below w.heap.size w w1) : RVg w1 g x A6 c6 A7 c7 A8 c8 := FV.below h hb
theorem RV.ag (h : RV w x A6 c6 A7 c7 A8 c8) : RVg w w.heap.size x A6 c6 A7 c7 A8 c8 := FV.mono h.fv (fun k hk => Nat.ne_of_lt hk)
theorem RV.gg (h : RV w x A6 c6 A7 c7 A8 c8) (hb : Below w.heap.size w w1) (hg : w.heap.size ≤ g) : RVg w1 g x A6 c6 A7 c7 A8 c8 := (h.fv.mono (fun k hk => by omega)).below hb
theorem RVg.rv (h : RVg w g x A6 c6 A7 c7 A8 c8) : RV w x A6 c6 A7 c7 A8 c8 := FV.rv h
theorem RVg.stored10 (h : RVg w g x A6 c6 A7 c7 A8 c8) (v0 v1 v2 v3 v4 v5 v6 v7 v8 v9 : Value) : RVg ((((((((((w.setCell ⟨g, 0, none⟩ v0).setCell ⟨g, 1, none⟩ v1).setCell ⟨g, 2, none⟩ v2).setCell ⟨g, 3, none⟩ v3).setCell ⟨g, 4, none⟩ v4).setCell ⟨g, 5, none⟩ v5).setCell ⟨g, 6, none⟩ v6).setCell ⟨g, 7, none⟩ v7).setCell ⟨g, 8, none⟩ v8).setCell ⟨g, 9, none⟩ v9) g x A6 c6 A7 c7 A8 c8 := FV.stored h (fun _ hk => hk) v0 v1 v2 v3 v4 v5 v6 v7 v8 v9
theorem RV.leaf (w : World) (k n m : Int) (b : Bool) (s : ByteArray) (q : S52) : RV w ⟨k, n, m, b, s, q, [], [], []⟩ none 0 none 0 none 0 := ⟨Nat.le_refl _, Kd.C_nil _ w, Nat.le_refl _, Kd.C_nil _ w, Nat.le_refl _, Kd.C_nil _ w⟩
theorem RVg.leaf (w : World) (g : Nat) (k n m : Int) (b : Bool) (s : ByteArray) (q : S52) : RVg w g ⟨k, n, m, b, s, q, [], [], []⟩ none 0 none 0 none 0 := ⟨Nat.le_refl _, Kd.F_nil _ _ _, Nat.le_refl _, Kd.F_nil _ _ _, Nat.le_refl _, Kd.F_nil _ _ _⟩
theorem RT.leaf (w : World) (k n : Int) (s : ByteArray) : RT w ⟨k, n, s, [], []⟩ none 0 none 0 := ⟨Nat.le_refl _, Kd.C_nil _ w, Nat.le_refl _, Kd.C_nil _ w⟩
theorem RTg.leaf (w : World) (g : Nat) (k n : Int) (s : ByteArray) : RTg w g ⟨k, n, s, [], []⟩ none 0 none 0 := ⟨Nat.le_refl _, Kd.F_nil _ _ _, Nat.le_refl _, Kd.F_nil _ _ _⟩
end
/-- A value comes, and a truth. -/
def DoOut (w : World) (u : Vl) (b : Bool) (e : Ending) (w' : World) : Prop := ∃ A6 c6 A7 c7 A8 c8, e = .returned (.tuple #[vv u A6 c6 A7 c7 A8 c8, .bool b]) ∧ RV w' u A6 c6 A7 c7 A8 c8 ∧ Below w.heap.size w w'
def DoOutg (w : World) (g : Nat) (u : Vl) (b : Bool) (e : Ending) (w' : World) : Prop := ∃ A6 c6 A7 c7 A8 c8, e = .returned (.tuple #[vv u A6 c6 A7 c7 A8 c8, .bool b]) ∧ RVg w' g u A6 c6 A7 c7 A8 c8 ∧ Below w.heap.size w w'
theorem do_t {lo up : Int} {inn : Bool} {v u : Vl} {p : Ty} {b : Bool} (hd : doV lo up inn v p = if b = true then some u else none) (hz : b = false → u = zV) (ov : Okv v) (op : Okt p) (orr : Okr p) {A6 A7 A8 A3 A4 : Option Addr} {c6 c7 c8 c3 c4 : Nat} {w : World} (hv : RV w v A6 c6 A7 c7 A8 c8) (hp : RT w p A3 c3 A4 c4) :
    Calls Try.prog 44 #[vv v A6 c6 A7 c7 A8 c8, tv p A3 c3 A4 c4, .int .i64 lo, .int .i64 up, .bool inn] w (DoOut w u b) := by
  refine (do_c lo up inn v p ov op orr (ok := fun k => k < w.heap.size) (fun _ h => h) hv.fv hp.ft).mono ?_
  rintro e w' h
  rw [hd] at h
  cases b with
  | true => obtain ⟨hb, A6, c6, A7, c7, A8, c8, he, hf⟩ := h; exact ⟨A6, c6, A7, c7, A8, c8, he, hf.rv, hb⟩
  | false => obtain ⟨hb, he⟩ := h; rw [hz rfl]; exact ⟨none, 0, none, 0, none, 0, he, RV.zero _, hb⟩
theorem do_g {lo up : Int} {inn : Bool} {v u : Vl} {p : Ty} {b : Bool} (hd : doV lo up inn v p = if b = true then some u else none) (hz : b = false → u = zV) (ov : Okv v) (op : Okt p) (orr : Okr p) {A6 A7 A8 A3 A4 : Option Addr} {c6 c7 c8 c3 c4 g : Nat} {w : World} (hg : g < w.heap.size) (hv : RVg w g v A6 c6 A7 c7 A8 c8) (hp : RTg w g p A3 c3 A4 c4) :
    Calls Try.prog 44 #[vv v A6 c6 A7 c7 A8 c8, tv p A3 c3 A4 c4, .int .i64 lo, .int .i64 up, .bool inn] w (DoOutg w g u b) := by
  refine (do_c lo up inn v p ov op orr (ok := fun k => k ≠ g ∧ k < w.heap.size) (fun _ h => h.2) (FV.bound hv) (FT.bound hp)).mono ?_
  rintro e w' h
  rw [hd] at h
  cases b with
  | true => obtain ⟨hb, A6, c6, A7, c7, A8, c8, he, hf⟩ := h; exact ⟨A6, c6, A7, c7, A8, c8, he, hf.mono (fun k hk => by omega), hb⟩
  | false => obtain ⟨hb, he⟩ := h; rw [hz rfl]; exact ⟨none, 0, none, 0, none, 0, he, RVg.leaf _ _ _ _ _ _ _ _, hb⟩
abbrev sealT (n : Int) : Ty := ⟨9, n, ⟨#[]⟩, [], []⟩
abbrev funT (a b : Ty) : Ty := ⟨7, 0, ⟨#[]⟩, [], [⟨a.f0, a.f1, a.f2, a.f3, a.f4⟩, ⟨b.f0, b.f1, b.f2, b.f3, b.f4⟩]⟩
set_option maxHeartbeats 4000000 in
set_option maxRecDepth 100000 in
theorem mkseal_c (n : Int) {w : World} : Calls Try.prog 77 #[.int .i64 n] w fun e w' => e = .returned (tv (sealT n) none 0 none 0) ∧ Below w.heap.size w w' := by
  have kN := blk_new w (.cells (tarr (sealT n) none 0 none 0) 25)
  have b0 := below_alloc1 w (.cells (tarr (sealT n) none 0 none 0) 25)
  have KN := Aside0.mk kN
  have BN := Aside0.mk b0
  clear kN b0
  go_enter Try.func77, Try.ntmps77
  go_wp2
  (try simp only [Exit.inBlock, Exit.then]); refine bodyPost_ret (results_cell_row rfl _ _ _ 25 _ (0, 0) _ rfl KN.out Try.underlying25 rfl (by kernel_rfl)) rfl ?_
  exact ⟨rfl, BN.out⟩
theorem mkfun_c (a b : Ty) {A3 A4 B3 B4 : Option Addr} {c3 c4 d3 d4 : Nat} {w : World} (ha : RT w a A3 c3 A4 c4) (hb : RT w b B3 d3 B4 d4) :
    Calls Try.prog 53 #[tv a A3 c3 A4 c4, tv b B3 d3 B4 d4] w fun e w' => ∃ A3 c3 A4 c4, e = .returned (tv (funT a b) A3 c3 A4 c4) ∧ RT w' (funT a b) A3 c3 A4 c4 ∧ Below w.heap.size w w' := by
  have hf := ha.ft
  have kf := hb.ft
  refine (limbeckref04_Fun.calls a.f0 a.f1 a.f2 _ A3 c3 a.f3 _ A4 c4 a.f4 b.f0 b.f1 b.f2 _ B3 d3 b.f3 _ B4 d4 b.f4 _ _ _ _ _ w (Kd.V_mk hf.1 hf.2.1) (Kd.V_mk hf.2.2.1 hf.2.2.2) (Kd.V_mk kf.1 kf.2.1) (Kd.V_mk kf.2.2.1 kf.2.2.2) rfl).mono ?_
  rintro e w' ⟨v3, v4, rfl, h3, h4, hb⟩
  obtain ⟨B3, d3, rfl, g3, f3⟩ := Kd.R_reads h3
  obtain ⟨B4, d4, rfl⟩ := Kd.N_slice h4
  exact ⟨B3, d3, B4, d4, rfl, ⟨g3, f3, (Kd.N_reads' h4).2.1, (Kd.N_reads' h4).2.2⟩, hb⟩
abbrev intV (n : Int) : Vl := ⟨1, n, 0, false, ⟨#[]⟩, z52, [], [], []⟩
abbrev inV (n : Int) (v : Vl) : Vl := ⟨8, n, 0, false, ⟨#[]⟩, z52, [], [], [v]⟩
theorem okv_int (n : Int) : Okv (intV n) := .mk _ (by simp) (by simp) (by simp) (by simp) (by simp)
theorem okv_in (n : Int) {v : Vl} (h : Okv v) : Okv (inV n v) := .mk _ (by simp) (by simp) (by simp) (by simp) (by simpa using h)
theorem okt_seal (n : Int) : Okt (sealT n) := .mk _ (by simp) (by simp) (by simp)
theorem okr_seal (n : Int) : Okr (sealT n) := .mk _ (fun h => by cases h) (fun h => by cases h)
theorem okt_fun (a b : Ty) (ha : Okt ⟨a.f0, a.f1, a.f2, a.f3, a.f4⟩) (hb : Okt ⟨b.f0, b.f1, b.f2, b.f3, b.f4⟩) : Okt (funT a b) := .mk _ (by simp) (by simp) (fun y hy => by
  rcases List.mem_cons.1 hy with rfl | hy
  · exact ha
  · obtain rfl := List.mem_singleton.1 hy; exact hb)
theorem do_w1 : doV 1 2 true (intV 3) (sealT 1) = if true = true then some (inV 1 (intV 3)) else none := by
  unfold doV; rw [turnV_seal (by rfl) rfl, sealV_in]; rfl
theorem do_w2 : doV 1 2 false (inV 1 (intV 3)) (sealT 1) = if true = true then some (intV 3) else none := by
  unfold doV; rw [turnV_seal (by rfl) rfl]; rfl
theorem do_w3 : doV 1 2 false (intV 3) (sealT 1) = if false = true then some zV else none := by
  unfold doV; rw [turnV_seal (by rfl) rfl]; rfl
theorem has_w : hasB 0 2 (funT (sealT 1) dynT) = true := by rfl
/-- What awake puts together, by letters. -/
theorem awake_vals : ∃ x y z : Vl, x.f1 = 3 ∧ y.f0 = 8 ∧ y.f1 = 1
    ∧ (∀ {w : World}, RV w x none 0 none 0 none 0) ∧ (∀ {w : World} {g : Nat}, RVg w g x none 0 none 0 none 0) ∧ x = intV 3
    ∧ (∀ {A6 A7 A8 : Option Addr} {c6 c7 c8 : Nat} {w : World}, RV w x A6 c6 A7 c7 A8 c8 → Calls Try.prog 44 #[vv x A6 c6 A7 c7 A8 c8, tv (sealT 1) none 0 none 0, .int .i64 1, .int .i64 2, .bool true] w (DoOut w y true))
    ∧ (∀ {A6 A7 A8 : Option Addr} {c6 c7 c8 g : Nat} {w : World}, g < w.heap.size → RVg w g x A6 c6 A7 c7 A8 c8 → Calls Try.prog 44 #[vv x A6 c6 A7 c7 A8 c8, tv (sealT 1) none 0 none 0, .int .i64 1, .int .i64 2, .bool true] w (DoOutg w g y true))
    ∧ (∀ {A6 A7 A8 : Option Addr} {c6 c7 c8 : Nat} {w : World}, RV w y A6 c6 A7 c7 A8 c8 → Calls Try.prog 44 #[vv y A6 c6 A7 c7 A8 c8, tv (sealT 1) none 0 none 0, .int .i64 1, .int .i64 2, .bool false] w (DoOut w x true))
    ∧ (∀ {A6 A7 A8 : Option Addr} {c6 c7 c8 g : Nat} {w : World}, g < w.heap.size → RVg w g y A6 c6 A7 c7 A8 c8 → Calls Try.prog 44 #[vv y A6 c6 A7 c7 A8 c8, tv (sealT 1) none 0 none 0, .int .i64 1, .int .i64 2, .bool false] w (DoOutg w g x true))
    ∧ (∀ {A6 A7 A8 : Option Addr} {c6 c7 c8 : Nat} {w : World}, RV w x A6 c6 A7 c7 A8 c8 → Calls Try.prog 44 #[vv x A6 c6 A7 c7 A8 c8, tv (sealT 1) none 0 none 0, .int .i64 1, .int .i64 2, .bool false] w (DoOut w z false))
    ∧ (∀ {A6 A7 A8 : Option Addr} {c6 c7 c8 g : Nat} {w : World}, g < w.heap.size → RVg w g x A6 c6 A7 c7 A8 c8 → Calls Try.prog 44 #[vv x A6 c6 A7 c7 A8 c8, tv (sealT 1) none 0 none 0, .int .i64 1, .int .i64 2, .bool false] w (DoOutg w g z false)) :=
  ⟨intV 3, inV 1 (intV 3), zV, rfl, rfl, rfl, RV.leaf _ _ _ _ _ _ _, RVg.leaf _ _ _ _ _ _ _ _, rfl,
   fun h => do_t do_w1 (fun h => by cases h) (okv_int 3) (okt_seal 1) (okr_seal 1) h (RT.leaf _ _ _ _),
   fun hg h => do_g do_w1 (fun h => by cases h) (okv_int 3) (okt_seal 1) (okr_seal 1) hg h (RTg.leaf _ _ _ _ _),
   fun h => do_t do_w2 (fun h => by cases h) (okv_in 1 (okv_int 3)) (okt_seal 1) (okr_seal 1) h (RT.leaf _ _ _ _),
   fun hg h => do_g do_w2 (fun h => by cases h) (okv_in 1 (okv_int 3)) (okt_seal 1) (okr_seal 1) hg h (RTg.leaf _ _ _ _ _),
   fun h => do_t do_w3 (fun _ => rfl) (okv_int 3) (okt_seal 1) (okr_seal 1) h (RT.leaf _ _ _ _),
   fun hg h => do_g do_w3 (fun _ => rfl) (okv_int 3) (okt_seal 1) (okr_seal 1) hg h (RTg.leaf _ _ _ _ _)⟩
end Go.Proofs.Ytnfnhjhnfdkinaa.PConvBack
