/-
  Subst: texts of this claim, put together by a program of this session. No conditions beyond what each lemma says.
-/
import Derived.Test.YtnfnhjhnfdkinaazSubst17
namespace Go.Proofs.Ytnfnhjhnfdkinaa.PSubstPuts
open Go.RowKit Go.Proofs.YtnfnhjhnfdkinaaW.Mine Go.Proofs.YtnfnhjhnfdkinaaW.PrintWords Go.Proofs.YtnfnhjhnfdkinaaW.PrintLast Go.Proofs.YtnfnhjhnfdkinaaW.PrintMore
attribute [local go_sem] max2_int min2_int max_two min_two max_three min_three max_four min_four
set_option linter.unusedVariables false
set_option linter.unusedSimpArgs false
abbrev varT (s : ByteArray) : Ty := ⟨6, 0, s, [], []⟩
abbrev simpT (k : Int) : Ty := ⟨k, 0, ⟨#[]⟩, [], []⟩
abbrev funT (a b : Ty) : Ty := ⟨7, 0, ⟨#[]⟩, [], [⟨a.f0, a.f1, a.f2, a.f3, a.f4⟩, ⟨b.f0, b.f1, b.f2, b.f3, b.f4⟩]⟩
theorem var_c (s : ByteArray) (w : World) : Calls Try.prog 61 #[.string s] w (TyOut w (varT s)) := by
  refine (limbeckref04_Var.calls s _ _ _ _ _ w rfl).mono ?_
  rintro e w' ⟨v3, v4, rfl, h3, h4, hb⟩
  obtain ⟨B3, d3, rfl, g3, f3⟩ := Kd.R_reads h3
  obtain ⟨B4, d4, rfl, g4, f4⟩ := Kd.R_reads h4
  exact ⟨B3, d3, B4, d4, rfl, ⟨g3, f3, g4, f4⟩, hb⟩
theorem simple_c (k : Int) (w : World) : Calls Try.prog 51 #[.int .i64 k] w (TyOut w (simpT k)) := by
  refine (limbeckref04_Simple.calls k _ _ _ _ _ w rfl).mono ?_
  rintro e w' ⟨v3, v4, rfl, h3, h4, hb⟩
  obtain ⟨B3, d3, rfl, g3, f3⟩ := Kd.R_reads h3
  obtain ⟨B4, d4, rfl, g4, f4⟩ := Kd.R_reads h4
  exact ⟨B3, d3, B4, d4, rfl, ⟨g3, f3, g4, f4⟩, hb⟩
theorem fun_c (a b : Ty) {A3 A4 C3 C4 : Option Addr} {a3 a4 b3 b4 : Nat} {w : World} (h : RT w a A3 a3 A4 a4) (k : RT w b C3 b3 C4 b4) : Calls Try.prog 53 #[tv a A3 a3 A4 a4, tv b C3 b3 C4 b4] w (TyOut w (funT a b)) := by
  have hf := h.ft
  have kf := k.ft
  refine (limbeckref04_Fun.calls a.f0 a.f1 a.f2 _ A3 a3 a.f3 _ A4 a4 a.f4 b.f0 b.f1 b.f2 _ C3 b3 b.f3 _ C4 b4 b.f4 _ _ _ _ _ w (Kd.V_mk hf.1 hf.2.1) (Kd.V_mk hf.2.2.1 hf.2.2.2) (Kd.V_mk kf.1 kf.2.1) (Kd.V_mk kf.2.2.1 kf.2.2.2) rfl).mono ?_
  rintro e w' ⟨v3, v4, rfl, h3, h4, hb⟩
  obtain ⟨B3, d3, rfl, g3, f3⟩ := Kd.R_reads h3
  obtain ⟨B4, d4, rfl⟩ := Kd.N_slice h4
  exact ⟨B3, d3, B4, d4, rfl, ⟨g3, f3, (Kd.N_reads' h4).2.1, (Kd.N_reads' h4).2.2⟩, hb⟩
theorem C_lit {α : Type} (d : Kd α) {w : World} {g : Nat} {xs : List α} {inner : List Value} {ty : TypeId} (h : w.heap[g]? = some (.cells inner.toArray ty (0, 0))) (hr : Reps (d.K w) d.sz xs inner) (hm : xs.length ≤ 9223372036854775807) : d.C w (some ⟨g, 0, none⟩) xs.length xs := by
  refine ⟨rfl, hm, fun _ => ⟨_, rfl, fun j p hj => ?_⟩⟩
  have hlt : j < xs.length := (List.getElem?_eq_some_iff.1 hj).1
  have h1 : j * d.sz + d.sz ≤ inner.length := by rw [hr.1, ← Nat.succ_mul]; exact Nat.mul_le_mul_right _ hlt
  refine ⟨(inner.drop (j * d.sz)).take d.sz, by rw [List.length_take, List.length_drop]; omega, hr.2 j p hj, fun i u hu => ?_⟩
  have e : (Addr.add ⟨g, 0, none⟩ (j * d.sz + i) : Addr) = ⟨g, j * d.sz + i, none⟩ := by rw [Addr.add_lit, Nat.zero_add]
  rw [e, blk_cell h]
  have hi : i < d.sz := by
    have := (List.getElem?_eq_some_iff.1 hu).1
    rw [List.length_take] at this; omega
  rw [List.getElem?_take_of_lt hi, List.getElem?_drop] at hu
  simpa using hu
theorem reps_one {α : Type} {R : α → List Value → Prop} {sz : Nat} {p : α} {c : List Value} (h : R p c) (hc : c.length = sz) : Reps R sz [p] c := by
  have := (Reps.none R sz).snoc h hc
  simpa using this
theorem reps_two {α : Type} {R : α → List Value → Prop} {sz : Nat} {p q : α} {c d : List Value} (h : R p c) (hc : c.length = sz) (k : R q d) (hd : d.length = sz) : Reps R sz [p, q] (c ++ d) := (reps_one h hc).snoc k hd
theorem bind_row {w : World} {g : Nat} (s : ByteArray) (x : Ty) {A3 A4 : Option Addr} {c3 c4 : Nat} (hk : w.heap[g]? = some (.cells #[.string s, .int .i64 x.f0, .int .i64 x.f1, .string x.f2, .slice A3 x.f3.length c3, .slice A4 x.f4.length c4] 43 (0, 0))) (h : RT w x A3 c3 A4 c4) : RB w (some ⟨g, 0, none⟩) 1 [⟨s, x⟩] :=
  ⟨C_lit kBi (xs := [⟨s, x⟩]) (inner := [.string s, .int .i64 x.f0, .int .i64 x.f1, .string x.f2, .slice A3 x.f3.length c3, .slice A4 x.f4.length c4]) hk (reps_one (k43_mk w ⟨s, x⟩ h.1 h.2.1 h.2.2.1 h.2.2.2) rfl) (by simp), Nat.le_refl _⟩
theorem ty_row {w : World} {g : Nat} (x y : Ty) {A3 A4 B3 B4 : Option Addr} {c3 c4 d3 d4 : Nat} (hk : w.heap[g]? = some (.cells #[.int .i64 x.f0, .int .i64 x.f1, .string x.f2, .slice A3 x.f3.length c3, .slice A4 x.f4.length c4, .int .i64 y.f0, .int .i64 y.f1, .string y.f2, .slice B3 y.f3.length d3, .slice B4 y.f4.length d4] 25 (0, 0))) (h : RT w x A3 c3 A4 c4) (k : RT w y B3 d3 B4 d4) : RL w (some ⟨g, 0, none⟩) 2 [x, y] :=
  ⟨C_lit kTy (xs := [x, y]) (inner := tcells x A3 c3 A4 c4 ++ tcells y B3 d3 B4 d4) hk (reps_two (k25_mk w x h.1 h.2.1 h.2.2.1 h.2.2.2) rfl (k25_mk w y k.1 k.2.1 k.2.2.1 k.2.2.2) rfl) (by simp), Nat.le_refl _⟩
theorem name_row {w : World} {g : Nat} (s u : ByteArray) (hk : w.heap[g]? = some (.cells #[.string s, .string u] 9 (0, 0))) : RN w (some ⟨g, 0, none⟩) 2 [s, u] :=
  ⟨Kd.C_of_reads (d := ByteArray.empty) ⟨rfl, by simp, fun _ => ⟨_, rfl, fun j hj => by
    have : j = 0 ∨ j = 1 := by simp at hj; omega
    rcases this with rfl | rfl
    · exact (blk_cell hk 0).trans rfl
    · exact (blk_cell hk 1).trans rfl⟩⟩, Nat.le_refl _⟩
/-! ### A block g apart from all that is read -/
def RTg (w : World) (g : Nat) (x : Ty) (A3 : Option Addr) (c3 : Nat) (A4 : Option Addr) (c4 : Nat) : Prop := FT w (fun k => k ≠ g) x A3 c3 A4 c4
def RBg (w : World) (g : Nat) (A : Option Addr) (c : Nat) (l : List Bi) : Prop := Kd.F kBi w (fun k => k ≠ g) A l.length l ∧ l.length ≤ c
def RLg (w : World) (g : Nat) (A : Option Addr) (c : Nat) (l : List Ty) : Prop := Kd.F kTy w (fun k => k ≠ g) A l.length l ∧ l.length ≤ c
section
variable {w w1 : World} {g : Nat} {x : Ty} {A A3 A4 : Option Addr} {c c3 c4 : Nat}
theorem RTg.below (h : RTg w g x A3 c3 A4 c4) (hb : Below w.heap.size w w1) : RTg w1 g x A3 c3 A4 c4 := FT.below h hb
theorem RBg.below {l : List Bi} (h : RBg w g A c l) (hb : Below w.heap.size w w1) : RBg w1 g A c l := ⟨Kd.F_below h.1 hb, h.2⟩
theorem RLg.below {l : List Ty} (h : RLg w g A c l) (hb : Below w.heap.size w w1) : RLg w1 g A c l := ⟨Kd.F_below h.1 hb, h.2⟩
theorem RT.ag (h : RT w x A3 c3 A4 c4) : RTg w w.heap.size x A3 c3 A4 c4 := h.ft.mono (fun k hk => Nat.ne_of_lt hk)
theorem RB.ag {l : List Bi} (h : RB w A c l) : RBg w w.heap.size A c l := ⟨Kd.F_mono (Kd.C_F heapBi h.1) (fun k hk => Nat.ne_of_lt hk), h.2⟩
theorem RL.ag {l : List Ty} (h : RL w A c l) : RLg w w.heap.size A c l := ⟨Kd.F_mono (Kd.C_F heapTy h.1) (fun k hk => Nat.ne_of_lt hk), h.2⟩
theorem RT.gg (h : RT w x A3 c3 A4 c4) (hb : Below w.heap.size w w1) (hg : w.heap.size ≤ g) : RTg w1 g x A3 c3 A4 c4 := (h.ft.mono (fun k hk => by omega)).below hb
theorem RB.gg {l : List Bi} (h : RB w A c l) (hb : Below w.heap.size w w1) (hg : w.heap.size ≤ g) : RBg w1 g A c l := ⟨Kd.F_below (Kd.F_mono (Kd.C_F heapBi h.1) (fun k hk => by omega)) hb, h.2⟩
theorem RTg.rt (h : RTg w g x A3 c3 A4 c4) : RT w x A3 c3 A4 c4 := FT.rt h
theorem RLg.rl {l : List Ty} (h : RLg w g A c l) : RL w A c l := ⟨Kd.F_now h.1, h.2⟩
theorem RTg.stored (h : RTg w g x A3 c3 A4 c4) (v0 v1 v2 v3 v4 : Value) : RTg (((((w.setCell ⟨g, 0, none⟩ v0).setCell ⟨g, 1, none⟩ v1).setCell ⟨g, 2, none⟩ v2).setCell ⟨g, 3, none⟩ v3).setCell ⟨g, 4, none⟩ v4) g x A3 c3 A4 c4 := FT.stored h (fun _ hk => hk) v0 v1 v2 v3 v4
theorem RTg.leaf (w : World) (g : Nat) (k n : Int) (s : ByteArray) (A3 A4 : Option Addr) (c3 c4 : Nat) : RTg w g ⟨k, n, s, [], []⟩ A3 c3 A4 c4 :=
  ⟨Nat.zero_le _, fun _ _ => ⟨rfl, by simp, fun h => absurd h (Nat.lt_irrefl 0)⟩, Nat.zero_le _, fun _ _ => ⟨rfl, by simp, fun h => absurd h (Nat.lt_irrefl 0)⟩⟩
end
def TyOutg (w : World) (g : Nat) (u : Ty) (e : Ending) (w' : World) : Prop := ∃ A3 c3 A4 c4, e = .returned (tv u A3 c3 A4 c4) ∧ RTg w' g u A3 c3 A4 c4 ∧ Below w.heap.size w w'
def POutg (w : World) (g : Nat) (o : Option Ty) (e : Ending) (w' : World) : Prop := ∃ A3 c3 A4 c4, e = .returned (.tuple #[tv (o.getD z25) A3 c3 A4 c4, .bool o.isSome]) ∧ RTg w' g (o.getD z25) A3 c3 A4 c4 ∧ Below w.heap.size w w'
theorem TOut.pg {w w' : World} {g : Nat} {o : Option Ty} {e : Ending} (hg : g < w.heap.size) (h : TOut w (fun k => (k ≠ g ∧ k < w.heap.size) ∨ w.heap.size ≤ k) o e w') : POutg w g o e w' := by
  cases o with
  | none => exact ⟨none, 0, none, 0, h.2, RTg.leaf _ _ 0 0 _ _ _ _ _, h.1⟩
  | some u => obtain ⟨hb, A3, c3, A4, c4, he, hf⟩ := h; exact ⟨A3, c3, A4, c4, he, hf.mono (fun k hk => by omega), hb⟩
theorem put_g {m : List Bi} (hm : m.length * 16 ≤ 140737488351232) (hs : ∀ b, b ∈ m → Sm b.f1) {t : Ty} (hsm : Sm t) {M A3 A4 : Option Addr} {cM c3 c4 g : Nat} {w : World} (hg : g < w.heap.size) (hC : RBg w g M cM m) (ht : RTg w g t A3 c3 A4 c4) :
    Calls Try.prog 31 #[tv t A3 c3 A4 c4, .slice M m.length cM] w (POutg w g (putO m t)) :=
  (put_c m hm hs (ok := fun k => k ≠ g ∧ k < w.heap.size) (fun _ h => h.2) (Kd.F_bound hC.1) hC.2 t hsm (FT.bound ht)).mono fun e w' h => h.pg hg
theorem open_g (a : Int) {l : List Ty} (hl : l.length * 80 ≤ 140737488351232) (hs : ∀ y, y ∈ l → Sm y) {t : Ty} (hsn : Sn t) {L A3 A4 : Option Addr} {cL c3 c4 g : Nat} {w : World} (hg : g < w.heap.size) (hC : RLg w g L cL l) (ht : RTg w g t A3 c3 A4 c4) :
    Calls Try.prog 26 #[tv t A3 c3 A4 c4, .int .i64 a, .slice L l.length cL] w (POutg w g (openO a l t)) :=
  (open_c a l hl hs (ok := fun k => k ≠ g ∧ k < w.heap.size) (fun _ h => h.2) (Kd.F_bound hC.1) hC.2 t hsn (FT.bound ht)).mono fun e w' h => h.pg hg
theorem types_g {m : List Bi} (hm : m.length * 80 ≤ 140737488351232) {A : Option Addr} {c g : Nat} {w : World} (hg : g < w.heap.size) (h : RBg w g A c m) :
    Calls Try.prog 27 #[.slice A m.length c] w fun e w' => ∃ B d, e = .returned (.slice B (m.map (·.f1)).length d) ∧ RLg w' g B d (m.map (·.f1)) ∧ Below w.heap.size w w' := by
  obtain ⟨k, hk⟩ := types_told m hm
  refine (limbecklaw07_types.calls k (fun k => k ≠ g) A c m _ w (Kd.V_mk h.2 h.1) hk).mono ?_
  rintro e w' ⟨v, rfl, hN, hb⟩
  obtain ⟨B, d, rfl⟩ := Kd.N_slice hN
  exact ⟨B, d, rfl, ⟨Kd.F_mono (Kd.N_F hN) (fun k hk => by omega), (Kd.N_reads' hN).2.1⟩, hb⟩
theorem fun_g (a b : Ty) {A3 A4 C3 C4 : Option Addr} {a3 a4 b3 b4 g : Nat} {w : World} (hg : g < w.heap.size) (h : RTg w g a A3 a3 A4 a4) (k : RTg w g b C3 b3 C4 b4) : Calls Try.prog 53 #[tv a A3 a3 A4 a4, tv b C3 b3 C4 b4] w (TyOutg w g (funT a b)) := by
  refine (limbeckref04_Fun.calls a.f0 a.f1 a.f2 (fun k => k ≠ g) A3 a3 a.f3 (fun k => k ≠ g) A4 a4 a.f4 b.f0 b.f1 b.f2 (fun k => k ≠ g) C3 b3 b.f3 (fun k => k ≠ g) C4 b4 b.f4 _ _ _ _ _ w (Kd.V_mk h.1 h.2.1) (Kd.V_mk h.2.2.1 h.2.2.2) (Kd.V_mk k.1 k.2.1) (Kd.V_mk k.2.2.1 k.2.2.2) rfl).mono ?_
  rintro e w' ⟨v3, v4, rfl, h3, h4, hb⟩
  obtain ⟨B3, d3, rfl, g3, f3⟩ := Kd.R_reads h3
  obtain ⟨B4, d4, rfl⟩ := Kd.N_slice h4
  exact ⟨B3, d3, B4, d4, rfl, ⟨g3, fun _ _ => ⟨rfl, by simp, fun h => absurd h (Nat.lt_irrefl 0)⟩, (Kd.N_reads' h4).2.1, Kd.F_mono (Kd.N_F h4) (fun k hk => by omega)⟩, hb⟩
theorem F_lit {α : Type} (d : Kd α) {w : World} {ok : Nat → Prop} {g : Nat} {xs : List α} {inner : List Value} {ty : TypeId} (h : w.heap[g]? = some (.cells inner.toArray ty (0, 0))) (hok : ok g) (hr : Reps (Kd.FK d w ok) d.sz xs inner) (hm : xs.length ≤ 9223372036854775807) : Kd.F d w ok (some ⟨g, 0, none⟩) xs.length xs := fun W' hW =>
  C_lit d ((hW g hok (blk_lt h)).trans h) (hr.imp_ (fun p c hp => hp W' hW)) hm
theorem bind_rowg {w : World} {g r : Nat} (s : ByteArray) (x : Ty) {A3 A4 : Option Addr} {c3 c4 : Nat} (hk : w.heap[r]? = some (.cells #[.string s, .int .i64 x.f0, .int .i64 x.f1, .string x.f2, .slice A3 x.f3.length c3, .slice A4 x.f4.length c4] 43 (0, 0))) (hr : r ≠ g) (h : RTg w g x A3 c3 A4 c4) : RBg w g (some ⟨r, 0, none⟩) 1 [⟨s, x⟩] :=
  ⟨F_lit kBi (xs := [⟨s, x⟩]) (inner := [.string s, .int .i64 x.f0, .int .i64 x.f1, .string x.f2, .slice A3 x.f3.length c3, .slice A4 x.f4.length c4]) hk hr (reps_one (k43_mkF w _ ⟨s, x⟩ h.1 h.2.1 h.2.2.1 h.2.2.2) rfl) (by simp), Nat.le_refl _⟩
/-- What awake puts together. -/
theorem awake_put : putO [⟨⟨#[88]⟩, simpT 1⟩] (funT (varT ⟨#[88]⟩) (varT ⟨#[89]⟩)) = some (funT (simpT 1) (varT ⟨#[89]⟩)) := by kernel_rfl
theorem awake_seal : sealO [⟨#[90]⟩, ⟨#[88]⟩] 3 (varT ⟨#[88]⟩) = ⟨9, 4, ⟨#[]⟩, [], []⟩ := by kernel_rfl
theorem awake_open : openO 3 [varT ⟨#[88]⟩, simpT 1] ⟨9, 4, ⟨#[]⟩, [], []⟩ = some (simpT 1) := by kernel_rfl
theorem okt_leaf (k n : Int) (s : ByteArray) : Okt ⟨k, n, s, [], []⟩ := .mk _ (by simp) (by simp) (fun y hy => by cases hy)
theorem sn_leaf (k n : Int) (h : -9223372036854775808 ≤ n ∧ n ≤ 9223372036854775807) (s : ByteArray) : Sn ⟨k, n, s, [], []⟩ := .mk _ (by simp) h (fun y hy => by cases hy)
theorem sm_fun (a b : Ty) (ha : Sm ⟨a.f0, a.f1, a.f2, a.f3, a.f4⟩) (hb : Sm ⟨b.f0, b.f1, b.f2, b.f3, b.f4⟩) : Sm (funT a b) := .mk _ (by simp) (fun y hy => by
  rcases List.mem_cons.1 hy with rfl | hy
  · exact ha
  · obtain rfl := List.mem_singleton.1 hy; exact hb)
/-- The types of awake, by letters. -/
theorem awake_types : ∃ x y ti f t s : Ty, (∀ w, Calls Try.prog 61 #[.string ⟨#[88]⟩] w (TyOut w x)) ∧ (∀ w, Calls Try.prog 61 #[.string ⟨#[89]⟩] w (TyOut w y)) ∧ (∀ w g, Calls Try.prog 61 #[.string ⟨#[89]⟩] w (TyOutg w g y)) ∧ (∀ w, Calls Try.prog 51 #[.int .i64 1] w (TyOut w ti))
    ∧ (∀ {A3 A4 C3 C4 : Option Addr} {a3 a4 b3 b4 : Nat} {w : World}, RT w x A3 a3 A4 a4 → RT w y C3 b3 C4 b4 → Calls Try.prog 53 #[tv x A3 a3 A4 a4, tv y C3 b3 C4 b4] w (TyOut w f))
    ∧ (∀ {A3 A4 C3 C4 : Option Addr} {a3 a4 b3 b4 g : Nat} {w : World}, g < w.heap.size → RTg w g x A3 a3 A4 a4 → RTg w g y C3 b3 C4 b4 → Calls Try.prog 53 #[tv x A3 a3 A4 a4, tv y C3 b3 C4 b4] w (TyOutg w g f))
    ∧ (∀ {M A3 A4 : Option Addr} {cM c3 c4 g : Nat} {w : World}, g < w.heap.size → RBg w g M cM [⟨⟨#[88]⟩, ti⟩] → RTg w g f A3 c3 A4 c4 → Calls Try.prog 31 #[tv f A3 c3 A4 c4, .slice M 1 cM] w (POutg w g (some t)))
    ∧ (∀ {M A3 A4 : Option Addr} {cM c3 c4 : Nat} {w : World}, RB w M cM [⟨⟨#[88]⟩, ti⟩] → RT w f A3 c3 A4 c4 → Calls Try.prog 31 #[tv f A3 c3 A4 c4, .slice M 1 cM] w (POut w (some t)))
    ∧ (∀ {M A3 A4 : Option Addr} {cM c3 c4 : Nat} {w : World}, RN w M cM [⟨#[90]⟩, ⟨#[88]⟩] → RT w x A3 c3 A4 c4 → Calls Try.prog 29 #[tv x A3 c3 A4 c4, .slice M 2 cM, .int .i64 3] w (TyOut w s))
    ∧ (∀ {M A3 A4 : Option Addr} {cM c3 c4 : Nat} {w : World}, RL w M cM [x, ti] → RT w s A3 c3 A4 c4 → Calls Try.prog 26 #[tv s A3 c3 A4 c4, .int .i64 3, .slice M 2 cM] w (POut w (some ti)))
    ∧ (∃ p q : Ty, t.f4 = [p, q] ∧ p.f0 = 1 ∧ q.f0 = 6) ∧ s.f1 = 4 ∧ ti.f0 = 1 := by
  refine ⟨varT ⟨#[88]⟩, varT ⟨#[89]⟩, simpT 1, funT (varT ⟨#[88]⟩) (varT ⟨#[89]⟩), funT (simpT 1) (varT ⟨#[89]⟩), ⟨9, 4, ⟨#[]⟩, [], []⟩, var_c _, var_c _, fun w g => (var_c _ w).mono fun e w' h => (by obtain ⟨A3, c3, A4, c4, he, hr, hb⟩ := h; exact ⟨A3, c3, A4, c4, he, RTg.leaf _ _ _ _ _ _ _ _ _, hb⟩), simple_c _, fun h k => fun_c _ _ h k, fun hg h k => fun_g _ _ hg h k, fun hg hM h => ?_, fun hM h => ?_, fun hM h => ?_, fun hM h => ?_, ⟨_, _, rfl, rfl, rfl⟩, rfl, rfl⟩
  · have := put_g (m := [⟨⟨#[88]⟩, simpT 1⟩]) (by simp) (fun b hb => by obtain rfl := List.mem_singleton.1 hb; exact okt_sm (okt_leaf 1 0 _)) (sm_fun (varT ⟨#[88]⟩) (varT ⟨#[89]⟩) (okt_sm (okt_leaf 6 0 _)) (okt_sm (okt_leaf 6 0 _))) hg hM h
    rw [awake_put] at this
    exact this
  · have := put_t (m := [⟨⟨#[88]⟩, simpT 1⟩]) (by simp) (fun b hb => by obtain rfl := List.mem_singleton.1 hb; exact okt_sm (okt_leaf 1 0 _)) (sm_fun (varT ⟨#[88]⟩) (varT ⟨#[89]⟩) (okt_sm (okt_leaf 6 0 _)) (okt_sm (okt_leaf 6 0 _))) hM h
    rw [awake_put] at this
    exact this
  · have := seal_c [⟨#[90]⟩, ⟨#[88]⟩] 3 (by simp) (okt_leaf 6 0 ⟨#[88]⟩) hM h
    rw [awake_seal] at this
    exact this
  · have := open_t 3 (l := [varT ⟨#[88]⟩, simpT 1]) (by simp) (fun y hy => by
      rcases List.mem_cons.1 hy with rfl | hy
      · exact okt_sm (okt_leaf 6 0 _)
      · obtain rfl := List.mem_singleton.1 hy; exact okt_sm (okt_leaf 1 0 _)) (sn_leaf 9 4 (by decide) ⟨#[]⟩) hM h
    rw [awake_open] at this
    exact this
set_option maxHeartbeats 4000000 in
set_option maxRecDepth 100000 in
theorem awake_c (w : World) : Calls Try.prog 25 #[] w (Yes w) := by
  obtain ⟨x, y, ti, f, t, sl, cX, cY, cYg, cI, cF, cFg, cPg, cP, cS, cO, ⟨p, q, ht4, hp0, hq0⟩, hs1, hi0⟩ := awake_types
  have CX := Aside0.mk cX
  have CY := Aside0.mk cY
  have CI := Aside0.mk cI
  have CYg := Aside0.mk cYg
  have HT := Aside0.mk ht4
  have HP := Aside0.mk hp0
  have HQ := Aside0.mk hq0
  have HS := Aside0.mk hs1
  have HI := Aside0.mk hi0
  clear cX cY cYg cI ht4 hp0 hq0 hs1 hi0
  have b0 := Below.refl w.heap.size w
  go_enter Try.func25, Try.ntmps25
  go_wp2_with fail
  refine (CX.out _).mono ?_
  rintro e_ w1 ⟨X3, x3, X4, x4, rfl, hx, hb⟩
  have b_1 := chain b0 hb
  clear b0
  clear hb
  have kX := blk_new w1 (.cells #[.int .i64 x.f0, .int .i64 x.f1, .string x.f2, .slice X3 x.f3.length x3, .slice X4 x.f4.length x4] 25)
  have hb := below_alloc1 w1 (.cells #[.int .i64 x.f0, .int .i64 x.f1, .string x.f2, .slice X3 x.f3.length x3, .slice X4 x.f4.length x4] 25)
  have b_2 := chain b_1 hb
  replace hx := hx.below hb
  clear b_1
  clear hb
  obtain ⟨⟨Xc0, Xc1, Xc2, Xc3, Xc4⟩, ⟨Xf0, Xf1, Xf2, Xf3, Xf4⟩, Xl⟩ := five kX
  go_wp2_with fail
  refine (CI.out _).mono ?_
  rintro e_ w2 ⟨I3, i3, I4, i4, rfl, hi, hb⟩
  clear Xc0 Xc1 Xc2 Xc3 Xc4 Xf0 Xf1 Xf2 Xf3 Xf4 Xl
  have b_3 := chain b_2 hb
  replace kX := blk_below kX hb
  replace hx := hx.below hb
  clear b_2
  clear hb
  have kI := blk_new w2 (.cells #[.int .i64 ti.f0, .int .i64 ti.f1, .string ti.f2, .slice I3 ti.f3.length i3, .slice I4 ti.f4.length i4] 25)
  have hb := below_alloc1 w2 (.cells #[.int .i64 ti.f0, .int .i64 ti.f1, .string ti.f2, .slice I3 ti.f3.length i3, .slice I4 ti.f4.length i4] 25)
  have b_4 := chain b_3 hb
  replace kX := blk_below kX hb
  replace hx := hx.below hb
  replace hi := hi.below hb
  clear b_3
  clear hb
  obtain ⟨⟨Xc0, Xc1, Xc2, Xc3, Xc4⟩, ⟨Xf0, Xf1, Xf2, Xf3, Xf4⟩, Xl⟩ := five kX
  obtain ⟨⟨Ic0, Ic1, Ic2, Ic3, Ic4⟩, ⟨If0, If1, If2, If3, If4⟩, Il⟩ := five kI
  go_wp2_with fail
  generalize hW3 : w2.alloc (.cells #[.int .i64 ti.f0, .int .i64 ti.f1, .string ti.f2, .slice I3 ti.f3.length i3, .slice I4 ti.f4.length i4] 25) = W3 at Xc0 Xc1 Xc2 Xc3 Xc4 Xf0 Xf1 Xf2 Xf3 Xf4 Xl Ic0 Ic1 Ic2 Ic3 Ic4 If0 If1 If2 If3 If4 Il hx hi kX kI b_4 ⊢
  clear hW3
  refine with_cont (G := ?G1) ?cont1 fun hmain => ?reg1
  case reg1 =>
    refine wp_region_held_drew (S := (fun w' => Below W3.heap.size W3 w' ∧ w'.cell? ⟨w1.heap.size, 0, none⟩ = some (.int .i64 x.f0) ∧ w'.cell? ⟨w1.heap.size, 1, none⟩ = some (.int .i64 x.f1) ∧ w'.cell? ⟨w1.heap.size, 2, none⟩ = some (.string x.f2) ∧ w'.cell? ⟨w1.heap.size, 3, none⟩ = some (.slice X3 x.f3.length x3) ∧ w'.cell? ⟨w1.heap.size, 4, none⟩ = some (.slice X4 x.f4.length x4) ∧ w'.cell? ⟨w2.heap.size, 0, none⟩ = some (.int .i64 ti.f0) ∧ w'.cell? ⟨w2.heap.size, 1, none⟩ = some (.int .i64 ti.f1) ∧ w'.cell? ⟨w2.heap.size, 2, none⟩ = some (.string ti.f2) ∧ w'.cell? ⟨w2.heap.size, 3, none⟩ = some (.slice I3 ti.f3.length i3) ∧ w'.cell? ⟨w2.heap.size, 4, none⟩ = some (.slice I4 ti.f4.length i4))) (by kernel_rfl) ?_ (fun hHeld => ?_)
    · exact (and_of (fun hB_ => ⟨cell_up hB_ Xc0, cell_up hB_ Xc1, cell_up hB_ Xc2, cell_up hB_ Xc3, cell_up hB_ Xc4, cell_up hB_ Ic0, cell_up hB_ Ic1, cell_up hB_ Ic2, cell_up hB_ Ic3, cell_up hB_ Ic4⟩) ((Below.refl _ _).drew))
    generalize W3.drew = V1_0 at hHeld ⊢
    (first | (refine take_held (i := 0) (d := (some 11)) (v := ?_) rfl rfl (by kernel_rfl) (by kernel_rfl) (by kernel_rfl) (fun _ _ _ h => h) (Or.inl ⟨by rfl, ?_⟩) hHeld ?_; rotate_left 1; focus ((intro w hSw; (try dsimp only at hSw); first | (go_simp; done) | (go_simp; with_reducible rfl)); done); (try simp only [Act.put, List.setIfInBounds_toArray, List.set_cons_zero, List.set_cons_succ])))
    (first | (refine take_held (i := 3) (d := (some 14)) (v := ?_) rfl rfl (by kernel_rfl) (by kernel_rfl) (by kernel_rfl) (fun _ _ _ h => h) (Or.inl ⟨by rfl, ?_⟩) hHeld ?_; rotate_left 1; focus ((intro w hSw; (try dsimp only at hSw); first | (go_simp; done) | (go_simp; with_reducible rfl)); done); (try simp only [Act.put, List.setIfInBounds_toArray, List.set_cons_zero, List.set_cons_succ])))
    (first | (refine take_held (i := 4) (d := (some 15)) (v := ?_) rfl rfl (by kernel_rfl) (by kernel_rfl) (by kernel_rfl) (fun _ _ _ h => h) (Or.inl ⟨by rfl, ?_⟩) hHeld ?_; rotate_left 1; focus ((intro w hSw; (try dsimp only at hSw); first | (go_simp; done) | (go_simp; with_reducible rfl)); done); (try simp only [Act.put, List.setIfInBounds_toArray, List.set_cons_zero, List.set_cons_succ])))
    refine wpAnyH_ready (rs := [1, 5, 10]) (by kernel_rfl) (by simp) ?_
    refine AllReadyH.cons (o := _) rfl (fun K hK => ?_) (AllReadyH.cons (o := _) rfl (fun K hK => ?_) (AllReadyH.cons (o := _) rfl (fun K hK => ?_) AllReadyH.nil))
    focus
      go_simp
      go_at_call 61
      refine (CY.out _).mono ?_
      rintro e_ V1_1 ⟨Y3, y3, Y4, y4, rfl, hy, hb⟩
      (try go_wp2_with fail)
      refine hK.out _ _ (and_of (fun hB_ => ⟨cell_up hB_ Xc0, cell_up hB_ Xc1, cell_up hB_ Xc2, cell_up hB_ Xc3, cell_up hB_ Xc4, cell_up hB_ Ic0, cell_up hB_ Ic1, cell_up hB_ Ic2, cell_up hB_ Ic3, cell_up hB_ Ic4⟩) (chain (And.left hHeld) hb)) ?_
      clear hHeld hK K
      intro hHeld
      (try simp only [Act.put, List.setIfInBounds_toArray, List.set_cons_zero, List.set_cons_succ])
      clear hb
      refine wpAnyH_ready (rs := [2, 5, 10]) (by kernel_rfl) (by simp) ?_
      refine AllReadyH.cons (o := _) rfl (fun K hK => ?_) (AllReadyH.cons (o := _) rfl (fun K hK => ?_) (AllReadyH.cons (o := _) rfl (fun K hK => ?_) AllReadyH.nil))
      focus
        go_simp
        go_at_call 53
        refine (cF (hx.below (And.left hHeld)) hy).mono ?_
        rintro e_ V1_2 ⟨F3, f3, F4, f4, rfl, hf, hb⟩
        (try go_wp2_with fail)
        refine hK.out _ _ (and_of (fun hB_ => ⟨cell_up hB_ Xc0, cell_up hB_ Xc1, cell_up hB_ Xc2, cell_up hB_ Xc3, cell_up hB_ Xc4, cell_up hB_ Ic0, cell_up hB_ Ic1, cell_up hB_ Ic2, cell_up hB_ Ic3, cell_up hB_ Ic4⟩) (chain (And.left hHeld) hb)) ?_
        clear hHeld hK K
        intro hHeld
        (try simp only [Act.put, List.setIfInBounds_toArray, List.set_cons_zero, List.set_cons_succ])
        replace hy := hy.below hb
        clear hb
        refine wpAnyH_ready (rs := [5, 10]) (by kernel_rfl) (by simp) ?_
        refine AllReadyH.cons (o := _) rfl (fun K hK => ?_) (AllReadyH.cons (o := _) rfl (fun K hK => ?_) AllReadyH.nil)
        focus
          go_simp
          obtain ⟨gM, hgM⟩ : ∃ g_, g_ = V1_2.heap.size := ⟨_, rfl⟩
          have kM := blk_new V1_2 (.cells #[.string ⟨#[88]⟩, .int .i64 ti.f0, .int .i64 ti.f1, .string ti.f2, .slice I3 ti.f3.length i3, .slice I4 ti.f4.length i4] 43)
          have hb := below_alloc1 V1_2 (.cells #[.string ⟨#[88]⟩, .int .i64 ti.f0, .int .i64 ti.f1, .string ti.f2, .slice I3 ti.f3.length i3, .slice I4 ti.f4.length i4] 43)
          have lgM : W3.heap.size ≤ gM := by have := (And.left hHeld).size; omega
          (try go_wp2_with fail)
          refine hK.out _ _ (and_of (fun hB_ => ⟨cell_up hB_ Xc0, cell_up hB_ Xc1, cell_up hB_ Xc2, cell_up hB_ Xc3, cell_up hB_ Xc4, cell_up hB_ Ic0, cell_up hB_ Ic1, cell_up hB_ Ic2, cell_up hB_ Ic3, cell_up hB_ Ic4⟩) (chain (And.left hHeld) hb)) ?_
          clear hHeld hK K
          intro hHeld
          (try simp only [Act.put, List.setIfInBounds_toArray, List.set_cons_zero, List.set_cons_succ])
          rw [← hgM] at kM ⊢
          clear hgM
          replace hy := hy.below hb
          replace hf := hf.below hb
          generalize V1_2.alloc (.cells #[.string ⟨#[88]⟩, .int .i64 ti.f0, .int .i64 ti.f1, .string ti.f2, .slice I3 ti.f3.length i3, .slice I4 ti.f4.length i4] 43) = V1_3 at *
          clear hb
          refine wpAnyH_ready (rs := [6, 10]) (by kernel_rfl) (by simp) ?_
          refine AllReadyH.cons (o := _) rfl (fun K hK => ?_) (AllReadyH.cons (o := _) rfl (fun K hK => ?_) AllReadyH.nil)
          focus
            go_simp
            go_at_call 31
            refine (cP (bind_row ⟨#[88]⟩ ti kM (hi.below (And.left hHeld))) hf).mono ?_
            rintro e_ V1_4 ⟨T3, t3, T4, t4, rfl, ht, hb⟩
            simp only [Option.getD_some, Option.isSome_some] at ht ⊢
            (try go_wp2_with fail)
            refine hK.out _ _ (and_of (fun hB_ => ⟨cell_up hB_ Xc0, cell_up hB_ Xc1, cell_up hB_ Xc2, cell_up hB_ Xc3, cell_up hB_ Xc4, cell_up hB_ Ic0, cell_up hB_ Ic1, cell_up hB_ Ic2, cell_up hB_ Ic3, cell_up hB_ Ic4⟩) (chain (And.left hHeld) hb)) ?_
            clear hHeld hK K
            intro hHeld
            (try simp only [Act.put, List.setIfInBounds_toArray, List.set_cons_zero, List.set_cons_succ])
            replace hy := hy.below hb
            replace hf := hf.below hb
            replace kM := blk_below kM hb
            clear hb
            (first | (refine take_held (i := 7) (d := (some 10)) (v := ?_) rfl rfl (by kernel_rfl) (by kernel_rfl) (by kernel_rfl) (fun _ _ _ h => h) (Or.inl ⟨by rfl, ?_⟩) hHeld ?_; rotate_left 1; focus ((intro w hSw; (try dsimp only at hSw); first | (go_simp; done) | (go_simp; with_reducible rfl)); done); (try simp only [Act.put, List.setIfInBounds_toArray, List.set_cons_zero, List.set_cons_succ])))
            (first | (refine take_held (i := 8) (d := (some 18)) (v := ?_) rfl rfl (by kernel_rfl) (by kernel_rfl) (by kernel_rfl) (fun _ _ _ h => h) (Or.inl ⟨by rfl, ?_⟩) hHeld ?_; rotate_left 1; focus ((intro w hSw; (try dsimp only at hSw); first | (go_simp; done) | (go_simp; with_reducible rfl)); done); (try simp only [Act.put, List.setIfInBounds_toArray, List.set_cons_zero, List.set_cons_succ])))
            (first | (refine take_held (i := 9) (d := (some 19)) (v := ?_) rfl rfl (by kernel_rfl) (by kernel_rfl) (by kernel_rfl) (fun _ _ _ h => h) (Or.inl ⟨by rfl, ?_⟩) hHeld ?_; rotate_left 1; focus ((intro w hSw; (try dsimp only at hSw); first | (go_simp; done) | (go_simp; with_reducible rfl)); done); (try simp only [Act.put, List.setIfInBounds_toArray, List.set_cons_zero, List.set_cons_succ])))
            refine wpAnyH_ready (rs := [10]) (by kernel_rfl) (by simp) ?_
            refine AllReadyH.cons (o := _) rfl (fun K hK => ?_) AllReadyH.nil
            go_simp
            obtain ⟨gR, hgR⟩ : ∃ g_, g_ = V1_4.heap.size := ⟨_, rfl⟩
            have kR := blk_new V1_4 (.cells #[.int .i64 0, .int .i64 0, .string ⟨#[]⟩, .slice none 0 0, .slice none 0 0] 25)
            have hb := below_alloc1 V1_4 (.cells #[.int .i64 0, .int .i64 0, .string ⟨#[]⟩, .slice none 0 0, .slice none 0 0] 25)
            have lgR : W3.heap.size ≤ gR := by have := (And.left hHeld).size; omega
            (try go_wp2_with fail)
            refine hK.out _ _ (and_of (fun hB_ => ⟨cell_up hB_ Xc0, cell_up hB_ Xc1, cell_up hB_ Xc2, cell_up hB_ Xc3, cell_up hB_ Xc4, cell_up hB_ Ic0, cell_up hB_ Ic1, cell_up hB_ Ic2, cell_up hB_ Ic3, cell_up hB_ Ic4⟩) (chain (And.left hHeld) hb)) ?_
            clear hHeld hK K
            intro hHeld
            (try simp only [Act.put, List.setIfInBounds_toArray, List.set_cons_zero, List.set_cons_succ])
            have neM : gM ≠ gR := by have := blk_lt kM; omega
            replace hy := hy.ag
            replace hf := hf.ag
            replace ht := ht.ag
            rw [← hgR] at kR hy hf ht ⊢
            clear hgR
            replace hy := hy.below hb
            replace hf := hf.below hb
            replace kM := blk_below kM hb
            replace ht := ht.below hb
            generalize V1_4.alloc (.cells #[.int .i64 0, .int .i64 0, .string ⟨#[]⟩, .slice none 0 0, .slice none 0 0] 25) = V1_5 at *
            clear hb
            have fin_ := And.intro hHeld (And.intro hf (And.intro ht (And.intro hy (And.intro kM (And.intro kR (And.intro lgM (And.intro lgR (And.intro neM (True.intro)))))))))
            revert fin_
            generalize V1_5 = v_0, F3 = v_1, F4 = v_2, T3 = v_3, T4 = v_4, Y3 = v_5, Y4 = v_6, f3 = v_7, f4 = v_8, gM = v_9, gR = v_10, t3 = v_11, t4 = v_12, y3 = v_13, y4 = v_14
            revert v_0 v_1 v_2 v_3 v_4 v_5 v_6 v_7 v_8 v_9 v_10 v_11 v_12 v_13 v_14
            exact hmain.out
          focus
            go_simp
            obtain ⟨gR, hgR⟩ : ∃ g_, g_ = V1_3.heap.size := ⟨_, rfl⟩
            have kR := blk_new V1_3 (.cells #[.int .i64 0, .int .i64 0, .string ⟨#[]⟩, .slice none 0 0, .slice none 0 0] 25)
            have hb := below_alloc1 V1_3 (.cells #[.int .i64 0, .int .i64 0, .string ⟨#[]⟩, .slice none 0 0, .slice none 0 0] 25)
            have lgR : W3.heap.size ≤ gR := by have := (And.left hHeld).size; omega
            (try go_wp2_with fail)
            refine hK.out _ _ (and_of (fun hB_ => ⟨cell_up hB_ Xc0, cell_up hB_ Xc1, cell_up hB_ Xc2, cell_up hB_ Xc3, cell_up hB_ Xc4, cell_up hB_ Ic0, cell_up hB_ Ic1, cell_up hB_ Ic2, cell_up hB_ Ic3, cell_up hB_ Ic4⟩) (chain (And.left hHeld) hb)) ?_
            clear hHeld hK K
            intro hHeld
            (try simp only [Act.put, List.setIfInBounds_toArray, List.set_cons_zero, List.set_cons_succ])
            have neM : gM ≠ gR := by have := blk_lt kM; omega
            replace hy := hy.ag
            replace hf := hf.ag
            rw [← hgR] at kR hy hf ⊢
            clear hgR
            replace hy := hy.below hb
            replace hf := hf.below hb
            replace kM := blk_below kM hb
            generalize V1_3.alloc (.cells #[.int .i64 0, .int .i64 0, .string ⟨#[]⟩, .slice none 0 0, .slice none 0 0] 25) = V1_6 at *
            clear hb
            refine wpAnyH_ready (rs := [6]) (by kernel_rfl) (by simp) ?_
            refine AllReadyH.cons (o := _) rfl (fun K hK => ?_) AllReadyH.nil
            go_simp
            go_at_call 31
            refine (cPg (blk_lt kR) (bind_rowg ⟨#[88]⟩ ti kM (by assumption) (hi.gg (And.left hHeld) lgR)) hf).mono ?_
            rintro e_ V1_7 ⟨T3, t3, T4, t4, rfl, ht, hb⟩
            simp only [Option.getD_some, Option.isSome_some] at ht ⊢
            (try go_wp2_with fail)
            refine hK.out _ _ (and_of (fun hB_ => ⟨cell_up hB_ Xc0, cell_up hB_ Xc1, cell_up hB_ Xc2, cell_up hB_ Xc3, cell_up hB_ Xc4, cell_up hB_ Ic0, cell_up hB_ Ic1, cell_up hB_ Ic2, cell_up hB_ Ic3, cell_up hB_ Ic4⟩) (chain (And.left hHeld) hb)) ?_
            clear hHeld hK K
            intro hHeld
            (try simp only [Act.put, List.setIfInBounds_toArray, List.set_cons_zero, List.set_cons_succ])
            replace hy := hy.below hb
            replace hf := hf.below hb
            replace kM := blk_below kM hb
            replace kR := blk_below kR hb
            clear hb
            (first | (refine take_held (i := 7) (d := (some 10)) (v := ?_) rfl rfl (by kernel_rfl) (by kernel_rfl) (by kernel_rfl) (fun _ _ _ h => h) (Or.inl ⟨by rfl, ?_⟩) hHeld ?_; rotate_left 1; focus ((intro w hSw; (try dsimp only at hSw); first | (go_simp; done) | (go_simp; with_reducible rfl)); done); (try simp only [Act.put, List.setIfInBounds_toArray, List.set_cons_zero, List.set_cons_succ])))
            (first | (refine take_held (i := 8) (d := (some 18)) (v := ?_) rfl rfl (by kernel_rfl) (by kernel_rfl) (by kernel_rfl) (fun _ _ _ h => h) (Or.inl ⟨by rfl, ?_⟩) hHeld ?_; rotate_left 1; focus ((intro w hSw; (try dsimp only at hSw); first | (go_simp; done) | (go_simp; with_reducible rfl)); done); (try simp only [Act.put, List.setIfInBounds_toArray, List.set_cons_zero, List.set_cons_succ])))
            (first | (refine take_held (i := 9) (d := (some 19)) (v := ?_) rfl rfl (by kernel_rfl) (by kernel_rfl) (by kernel_rfl) (fun _ _ _ h => h) (Or.inl ⟨by rfl, ?_⟩) hHeld ?_; rotate_left 1; focus ((intro w hSw; (try dsimp only at hSw); first | (go_simp; done) | (go_simp; with_reducible rfl)); done); (try simp only [Act.put, List.setIfInBounds_toArray, List.set_cons_zero, List.set_cons_succ])))
            have fin_ := And.intro hHeld (And.intro hf (And.intro ht (And.intro hy (And.intro kM (And.intro kR (And.intro lgM (And.intro lgR (And.intro neM (True.intro)))))))))
            revert fin_
            generalize V1_7 = v_0, F3 = v_1, F4 = v_2, T3 = v_3, T4 = v_4, Y3 = v_5, Y4 = v_6, f3 = v_7, f4 = v_8, gM = v_9, gR = v_10, t3 = v_11, t4 = v_12, y3 = v_13, y4 = v_14
            revert v_0 v_1 v_2 v_3 v_4 v_5 v_6 v_7 v_8 v_9 v_10 v_11 v_12 v_13 v_14
            exact hmain.out
        focus
          go_simp
          obtain ⟨gR, hgR⟩ : ∃ g_, g_ = V1_2.heap.size := ⟨_, rfl⟩
          have kR := blk_new V1_2 (.cells #[.int .i64 0, .int .i64 0, .string ⟨#[]⟩, .slice none 0 0, .slice none 0 0] 25)
          have hb := below_alloc1 V1_2 (.cells #[.int .i64 0, .int .i64 0, .string ⟨#[]⟩, .slice none 0 0, .slice none 0 0] 25)
          have lgR : W3.heap.size ≤ gR := by have := (And.left hHeld).size; omega
          (try go_wp2_with fail)
          refine hK.out _ _ (and_of (fun hB_ => ⟨cell_up hB_ Xc0, cell_up hB_ Xc1, cell_up hB_ Xc2, cell_up hB_ Xc3, cell_up hB_ Xc4, cell_up hB_ Ic0, cell_up hB_ Ic1, cell_up hB_ Ic2, cell_up hB_ Ic3, cell_up hB_ Ic4⟩) (chain (And.left hHeld) hb)) ?_
          clear hHeld hK K
          intro hHeld
          (try simp only [Act.put, List.setIfInBounds_toArray, List.set_cons_zero, List.set_cons_succ])
          replace hy := hy.ag
          replace hf := hf.ag
          rw [← hgR] at kR hy hf ⊢
          clear hgR
          replace hy := hy.below hb
          replace hf := hf.below hb
          generalize V1_2.alloc (.cells #[.int .i64 0, .int .i64 0, .string ⟨#[]⟩, .slice none 0 0, .slice none 0 0] 25) = V1_8 at *
          clear hb
          refine wpAnyH_ready (rs := [5]) (by kernel_rfl) (by simp) ?_
          refine AllReadyH.cons (o := _) rfl (fun K hK => ?_) AllReadyH.nil
          go_simp
          obtain ⟨gM, hgM⟩ : ∃ g_, g_ = V1_8.heap.size := ⟨_, rfl⟩
          have kM := blk_new V1_8 (.cells #[.string ⟨#[88]⟩, .int .i64 ti.f0, .int .i64 ti.f1, .string ti.f2, .slice I3 ti.f3.length i3, .slice I4 ti.f4.length i4] 43)
          have hb := below_alloc1 V1_8 (.cells #[.string ⟨#[88]⟩, .int .i64 ti.f0, .int .i64 ti.f1, .string ti.f2, .slice I3 ti.f3.length i3, .slice I4 ti.f4.length i4] 43)
          have lgM : W3.heap.size ≤ gM := by have := (And.left hHeld).size; omega
          (try go_wp2_with fail)
          refine hK.out _ _ (and_of (fun hB_ => ⟨cell_up hB_ Xc0, cell_up hB_ Xc1, cell_up hB_ Xc2, cell_up hB_ Xc3, cell_up hB_ Xc4, cell_up hB_ Ic0, cell_up hB_ Ic1, cell_up hB_ Ic2, cell_up hB_ Ic3, cell_up hB_ Ic4⟩) (chain (And.left hHeld) hb)) ?_
          clear hHeld hK K
          intro hHeld
          (try simp only [Act.put, List.setIfInBounds_toArray, List.set_cons_zero, List.set_cons_succ])
          have neM : gM ≠ gR := by have := blk_lt kR; omega
          rw [← hgM] at kM ⊢
          clear hgM
          replace hy := hy.below hb
          replace hf := hf.below hb
          replace kR := blk_below kR hb
          generalize V1_8.alloc (.cells #[.string ⟨#[88]⟩, .int .i64 ti.f0, .int .i64 ti.f1, .string ti.f2, .slice I3 ti.f3.length i3, .slice I4 ti.f4.length i4] 43) = V1_9 at *
          clear hb
          refine wpAnyH_ready (rs := [6]) (by kernel_rfl) (by simp) ?_
          refine AllReadyH.cons (o := _) rfl (fun K hK => ?_) AllReadyH.nil
          go_simp
          go_at_call 31
          refine (cPg (blk_lt kR) (bind_rowg ⟨#[88]⟩ ti kM (by assumption) (hi.gg (And.left hHeld) lgR)) hf).mono ?_
          rintro e_ V1_10 ⟨T3, t3, T4, t4, rfl, ht, hb⟩
          simp only [Option.getD_some, Option.isSome_some] at ht ⊢
          (try go_wp2_with fail)
          refine hK.out _ _ (and_of (fun hB_ => ⟨cell_up hB_ Xc0, cell_up hB_ Xc1, cell_up hB_ Xc2, cell_up hB_ Xc3, cell_up hB_ Xc4, cell_up hB_ Ic0, cell_up hB_ Ic1, cell_up hB_ Ic2, cell_up hB_ Ic3, cell_up hB_ Ic4⟩) (chain (And.left hHeld) hb)) ?_
          clear hHeld hK K
          intro hHeld
          (try simp only [Act.put, List.setIfInBounds_toArray, List.set_cons_zero, List.set_cons_succ])
          replace hy := hy.below hb
          replace hf := hf.below hb
          replace kR := blk_below kR hb
          replace kM := blk_below kM hb
          clear hb
          (first | (refine take_held (i := 7) (d := (some 10)) (v := ?_) rfl rfl (by kernel_rfl) (by kernel_rfl) (by kernel_rfl) (fun _ _ _ h => h) (Or.inl ⟨by rfl, ?_⟩) hHeld ?_; rotate_left 1; focus ((intro w hSw; (try dsimp only at hSw); first | (go_simp; done) | (go_simp; with_reducible rfl)); done); (try simp only [Act.put, List.setIfInBounds_toArray, List.set_cons_zero, List.set_cons_succ])))
          (first | (refine take_held (i := 8) (d := (some 18)) (v := ?_) rfl rfl (by kernel_rfl) (by kernel_rfl) (by kernel_rfl) (fun _ _ _ h => h) (Or.inl ⟨by rfl, ?_⟩) hHeld ?_; rotate_left 1; focus ((intro w hSw; (try dsimp only at hSw); first | (go_simp; done) | (go_simp; with_reducible rfl)); done); (try simp only [Act.put, List.setIfInBounds_toArray, List.set_cons_zero, List.set_cons_succ])))
          (first | (refine take_held (i := 9) (d := (some 19)) (v := ?_) rfl rfl (by kernel_rfl) (by kernel_rfl) (by kernel_rfl) (fun _ _ _ h => h) (Or.inl ⟨by rfl, ?_⟩) hHeld ?_; rotate_left 1; focus ((intro w hSw; (try dsimp only at hSw); first | (go_simp; done) | (go_simp; with_reducible rfl)); done); (try simp only [Act.put, List.setIfInBounds_toArray, List.set_cons_zero, List.set_cons_succ])))
          have fin_ := And.intro hHeld (And.intro hf (And.intro ht (And.intro hy (And.intro kM (And.intro kR (And.intro lgM (And.intro lgR (And.intro neM (True.intro)))))))))
          revert fin_
          generalize V1_10 = v_0, F3 = v_1, F4 = v_2, T3 = v_3, T4 = v_4, Y3 = v_5, Y4 = v_6, f3 = v_7, f4 = v_8, gM = v_9, gR = v_10, t3 = v_11, t4 = v_12, y3 = v_13, y4 = v_14
          revert v_0 v_1 v_2 v_3 v_4 v_5 v_6 v_7 v_8 v_9 v_10 v_11 v_12 v_13 v_14
          exact hmain.out
      focus
        go_simp
        obtain ⟨gM, hgM⟩ : ∃ g_, g_ = V1_1.heap.size := ⟨_, rfl⟩
        have kM := blk_new V1_1 (.cells #[.string ⟨#[88]⟩, .int .i64 ti.f0, .int .i64 ti.f1, .string ti.f2, .slice I3 ti.f3.length i3, .slice I4 ti.f4.length i4] 43)
        have hb := below_alloc1 V1_1 (.cells #[.string ⟨#[88]⟩, .int .i64 ti.f0, .int .i64 ti.f1, .string ti.f2, .slice I3 ti.f3.length i3, .slice I4 ti.f4.length i4] 43)
        have lgM : W3.heap.size ≤ gM := by have := (And.left hHeld).size; omega
        (try go_wp2_with fail)
        refine hK.out _ _ (and_of (fun hB_ => ⟨cell_up hB_ Xc0, cell_up hB_ Xc1, cell_up hB_ Xc2, cell_up hB_ Xc3, cell_up hB_ Xc4, cell_up hB_ Ic0, cell_up hB_ Ic1, cell_up hB_ Ic2, cell_up hB_ Ic3, cell_up hB_ Ic4⟩) (chain (And.left hHeld) hb)) ?_
        clear hHeld hK K
        intro hHeld
        (try simp only [Act.put, List.setIfInBounds_toArray, List.set_cons_zero, List.set_cons_succ])
        rw [← hgM] at kM ⊢
        clear hgM
        replace hy := hy.below hb
        generalize V1_1.alloc (.cells #[.string ⟨#[88]⟩, .int .i64 ti.f0, .int .i64 ti.f1, .string ti.f2, .slice I3 ti.f3.length i3, .slice I4 ti.f4.length i4] 43) = V1_11 at *
        clear hb
        refine wpAnyH_ready (rs := [2, 10]) (by kernel_rfl) (by simp) ?_
        refine AllReadyH.cons (o := _) rfl (fun K hK => ?_) (AllReadyH.cons (o := _) rfl (fun K hK => ?_) AllReadyH.nil)
        focus
          go_simp
          go_at_call 53
          refine (cF (hx.below (And.left hHeld)) hy).mono ?_
          rintro e_ V1_12 ⟨F3, f3, F4, f4, rfl, hf, hb⟩
          (try go_wp2_with fail)
          refine hK.out _ _ (and_of (fun hB_ => ⟨cell_up hB_ Xc0, cell_up hB_ Xc1, cell_up hB_ Xc2, cell_up hB_ Xc3, cell_up hB_ Xc4, cell_up hB_ Ic0, cell_up hB_ Ic1, cell_up hB_ Ic2, cell_up hB_ Ic3, cell_up hB_ Ic4⟩) (chain (And.left hHeld) hb)) ?_
          clear hHeld hK K
          intro hHeld
          (try simp only [Act.put, List.setIfInBounds_toArray, List.set_cons_zero, List.set_cons_succ])
          replace hy := hy.below hb
          replace kM := blk_below kM hb
          clear hb
          refine wpAnyH_ready (rs := [6, 10]) (by kernel_rfl) (by simp) ?_
          refine AllReadyH.cons (o := _) rfl (fun K hK => ?_) (AllReadyH.cons (o := _) rfl (fun K hK => ?_) AllReadyH.nil)
          focus
            go_simp
            go_at_call 31
            refine (cP (bind_row ⟨#[88]⟩ ti kM (hi.below (And.left hHeld))) hf).mono ?_
            rintro e_ V1_13 ⟨T3, t3, T4, t4, rfl, ht, hb⟩
            simp only [Option.getD_some, Option.isSome_some] at ht ⊢
            (try go_wp2_with fail)
            refine hK.out _ _ (and_of (fun hB_ => ⟨cell_up hB_ Xc0, cell_up hB_ Xc1, cell_up hB_ Xc2, cell_up hB_ Xc3, cell_up hB_ Xc4, cell_up hB_ Ic0, cell_up hB_ Ic1, cell_up hB_ Ic2, cell_up hB_ Ic3, cell_up hB_ Ic4⟩) (chain (And.left hHeld) hb)) ?_
            clear hHeld hK K
            intro hHeld
            (try simp only [Act.put, List.setIfInBounds_toArray, List.set_cons_zero, List.set_cons_succ])
            replace hy := hy.below hb
            replace kM := blk_below kM hb
            replace hf := hf.below hb
            clear hb
            (first | (refine take_held (i := 7) (d := (some 10)) (v := ?_) rfl rfl (by kernel_rfl) (by kernel_rfl) (by kernel_rfl) (fun _ _ _ h => h) (Or.inl ⟨by rfl, ?_⟩) hHeld ?_; rotate_left 1; focus ((intro w hSw; (try dsimp only at hSw); first | (go_simp; done) | (go_simp; with_reducible rfl)); done); (try simp only [Act.put, List.setIfInBounds_toArray, List.set_cons_zero, List.set_cons_succ])))
            (first | (refine take_held (i := 8) (d := (some 18)) (v := ?_) rfl rfl (by kernel_rfl) (by kernel_rfl) (by kernel_rfl) (fun _ _ _ h => h) (Or.inl ⟨by rfl, ?_⟩) hHeld ?_; rotate_left 1; focus ((intro w hSw; (try dsimp only at hSw); first | (go_simp; done) | (go_simp; with_reducible rfl)); done); (try simp only [Act.put, List.setIfInBounds_toArray, List.set_cons_zero, List.set_cons_succ])))
            (first | (refine take_held (i := 9) (d := (some 19)) (v := ?_) rfl rfl (by kernel_rfl) (by kernel_rfl) (by kernel_rfl) (fun _ _ _ h => h) (Or.inl ⟨by rfl, ?_⟩) hHeld ?_; rotate_left 1; focus ((intro w hSw; (try dsimp only at hSw); first | (go_simp; done) | (go_simp; with_reducible rfl)); done); (try simp only [Act.put, List.setIfInBounds_toArray, List.set_cons_zero, List.set_cons_succ])))
            refine wpAnyH_ready (rs := [10]) (by kernel_rfl) (by simp) ?_
            refine AllReadyH.cons (o := _) rfl (fun K hK => ?_) AllReadyH.nil
            go_simp
            obtain ⟨gR, hgR⟩ : ∃ g_, g_ = V1_13.heap.size := ⟨_, rfl⟩
            have kR := blk_new V1_13 (.cells #[.int .i64 0, .int .i64 0, .string ⟨#[]⟩, .slice none 0 0, .slice none 0 0] 25)
            have hb := below_alloc1 V1_13 (.cells #[.int .i64 0, .int .i64 0, .string ⟨#[]⟩, .slice none 0 0, .slice none 0 0] 25)
            have lgR : W3.heap.size ≤ gR := by have := (And.left hHeld).size; omega
            (try go_wp2_with fail)
            refine hK.out _ _ (and_of (fun hB_ => ⟨cell_up hB_ Xc0, cell_up hB_ Xc1, cell_up hB_ Xc2, cell_up hB_ Xc3, cell_up hB_ Xc4, cell_up hB_ Ic0, cell_up hB_ Ic1, cell_up hB_ Ic2, cell_up hB_ Ic3, cell_up hB_ Ic4⟩) (chain (And.left hHeld) hb)) ?_
            clear hHeld hK K
            intro hHeld
            (try simp only [Act.put, List.setIfInBounds_toArray, List.set_cons_zero, List.set_cons_succ])
            have neM : gM ≠ gR := by have := blk_lt kM; omega
            replace hy := hy.ag
            replace hf := hf.ag
            replace ht := ht.ag
            rw [← hgR] at kR hy hf ht ⊢
            clear hgR
            replace hy := hy.below hb
            replace kM := blk_below kM hb
            replace hf := hf.below hb
            replace ht := ht.below hb
            generalize V1_13.alloc (.cells #[.int .i64 0, .int .i64 0, .string ⟨#[]⟩, .slice none 0 0, .slice none 0 0] 25) = V1_14 at *
            clear hb
            have fin_ := And.intro hHeld (And.intro hf (And.intro ht (And.intro hy (And.intro kM (And.intro kR (And.intro lgM (And.intro lgR (And.intro neM (True.intro)))))))))
            revert fin_
            generalize V1_14 = v_0, F3 = v_1, F4 = v_2, T3 = v_3, T4 = v_4, Y3 = v_5, Y4 = v_6, f3 = v_7, f4 = v_8, gM = v_9, gR = v_10, t3 = v_11, t4 = v_12, y3 = v_13, y4 = v_14
            revert v_0 v_1 v_2 v_3 v_4 v_5 v_6 v_7 v_8 v_9 v_10 v_11 v_12 v_13 v_14
            exact hmain.out
          focus
            go_simp
            obtain ⟨gR, hgR⟩ : ∃ g_, g_ = V1_12.heap.size := ⟨_, rfl⟩
            have kR := blk_new V1_12 (.cells #[.int .i64 0, .int .i64 0, .string ⟨#[]⟩, .slice none 0 0, .slice none 0 0] 25)
            have hb := below_alloc1 V1_12 (.cells #[.int .i64 0, .int .i64 0, .string ⟨#[]⟩, .slice none 0 0, .slice none 0 0] 25)
            have lgR : W3.heap.size ≤ gR := by have := (And.left hHeld).size; omega
            (try go_wp2_with fail)
            refine hK.out _ _ (and_of (fun hB_ => ⟨cell_up hB_ Xc0, cell_up hB_ Xc1, cell_up hB_ Xc2, cell_up hB_ Xc3, cell_up hB_ Xc4, cell_up hB_ Ic0, cell_up hB_ Ic1, cell_up hB_ Ic2, cell_up hB_ Ic3, cell_up hB_ Ic4⟩) (chain (And.left hHeld) hb)) ?_
            clear hHeld hK K
            intro hHeld
            (try simp only [Act.put, List.setIfInBounds_toArray, List.set_cons_zero, List.set_cons_succ])
            have neM : gM ≠ gR := by have := blk_lt kM; omega
            replace hy := hy.ag
            replace hf := hf.ag
            rw [← hgR] at kR hy hf ⊢
            clear hgR
            replace hy := hy.below hb
            replace kM := blk_below kM hb
            replace hf := hf.below hb
            generalize V1_12.alloc (.cells #[.int .i64 0, .int .i64 0, .string ⟨#[]⟩, .slice none 0 0, .slice none 0 0] 25) = V1_15 at *
            clear hb
            refine wpAnyH_ready (rs := [6]) (by kernel_rfl) (by simp) ?_
            refine AllReadyH.cons (o := _) rfl (fun K hK => ?_) AllReadyH.nil
            go_simp
            go_at_call 31
            refine (cPg (blk_lt kR) (bind_rowg ⟨#[88]⟩ ti kM (by assumption) (hi.gg (And.left hHeld) lgR)) hf).mono ?_
            rintro e_ V1_16 ⟨T3, t3, T4, t4, rfl, ht, hb⟩
            simp only [Option.getD_some, Option.isSome_some] at ht ⊢
            (try go_wp2_with fail)
            refine hK.out _ _ (and_of (fun hB_ => ⟨cell_up hB_ Xc0, cell_up hB_ Xc1, cell_up hB_ Xc2, cell_up hB_ Xc3, cell_up hB_ Xc4, cell_up hB_ Ic0, cell_up hB_ Ic1, cell_up hB_ Ic2, cell_up hB_ Ic3, cell_up hB_ Ic4⟩) (chain (And.left hHeld) hb)) ?_
            clear hHeld hK K
            intro hHeld
            (try simp only [Act.put, List.setIfInBounds_toArray, List.set_cons_zero, List.set_cons_succ])
            replace hy := hy.below hb
            replace kM := blk_below kM hb
            replace hf := hf.below hb
            replace kR := blk_below kR hb
            clear hb
            (first | (refine take_held (i := 7) (d := (some 10)) (v := ?_) rfl rfl (by kernel_rfl) (by kernel_rfl) (by kernel_rfl) (fun _ _ _ h => h) (Or.inl ⟨by rfl, ?_⟩) hHeld ?_; rotate_left 1; focus ((intro w hSw; (try dsimp only at hSw); first | (go_simp; done) | (go_simp; with_reducible rfl)); done); (try simp only [Act.put, List.setIfInBounds_toArray, List.set_cons_zero, List.set_cons_succ])))
            (first | (refine take_held (i := 8) (d := (some 18)) (v := ?_) rfl rfl (by kernel_rfl) (by kernel_rfl) (by kernel_rfl) (fun _ _ _ h => h) (Or.inl ⟨by rfl, ?_⟩) hHeld ?_; rotate_left 1; focus ((intro w hSw; (try dsimp only at hSw); first | (go_simp; done) | (go_simp; with_reducible rfl)); done); (try simp only [Act.put, List.setIfInBounds_toArray, List.set_cons_zero, List.set_cons_succ])))
            (first | (refine take_held (i := 9) (d := (some 19)) (v := ?_) rfl rfl (by kernel_rfl) (by kernel_rfl) (by kernel_rfl) (fun _ _ _ h => h) (Or.inl ⟨by rfl, ?_⟩) hHeld ?_; rotate_left 1; focus ((intro w hSw; (try dsimp only at hSw); first | (go_simp; done) | (go_simp; with_reducible rfl)); done); (try simp only [Act.put, List.setIfInBounds_toArray, List.set_cons_zero, List.set_cons_succ])))
            have fin_ := And.intro hHeld (And.intro hf (And.intro ht (And.intro hy (And.intro kM (And.intro kR (And.intro lgM (And.intro lgR (And.intro neM (True.intro)))))))))
            revert fin_
            generalize V1_16 = v_0, F3 = v_1, F4 = v_2, T3 = v_3, T4 = v_4, Y3 = v_5, Y4 = v_6, f3 = v_7, f4 = v_8, gM = v_9, gR = v_10, t3 = v_11, t4 = v_12, y3 = v_13, y4 = v_14
            revert v_0 v_1 v_2 v_3 v_4 v_5 v_6 v_7 v_8 v_9 v_10 v_11 v_12 v_13 v_14
            exact hmain.out
        focus
          go_simp
          obtain ⟨gR, hgR⟩ : ∃ g_, g_ = V1_11.heap.size := ⟨_, rfl⟩
          have kR := blk_new V1_11 (.cells #[.int .i64 0, .int .i64 0, .string ⟨#[]⟩, .slice none 0 0, .slice none 0 0] 25)
          have hb := below_alloc1 V1_11 (.cells #[.int .i64 0, .int .i64 0, .string ⟨#[]⟩, .slice none 0 0, .slice none 0 0] 25)
          have lgR : W3.heap.size ≤ gR := by have := (And.left hHeld).size; omega
          (try go_wp2_with fail)
          refine hK.out _ _ (and_of (fun hB_ => ⟨cell_up hB_ Xc0, cell_up hB_ Xc1, cell_up hB_ Xc2, cell_up hB_ Xc3, cell_up hB_ Xc4, cell_up hB_ Ic0, cell_up hB_ Ic1, cell_up hB_ Ic2, cell_up hB_ Ic3, cell_up hB_ Ic4⟩) (chain (And.left hHeld) hb)) ?_
          clear hHeld hK K
          intro hHeld
          (try simp only [Act.put, List.setIfInBounds_toArray, List.set_cons_zero, List.set_cons_succ])
          have neM : gM ≠ gR := by have := blk_lt kM; omega
          replace hy := hy.ag
          rw [← hgR] at kR hy ⊢
          clear hgR
          replace hy := hy.below hb
          replace kM := blk_below kM hb
          generalize V1_11.alloc (.cells #[.int .i64 0, .int .i64 0, .string ⟨#[]⟩, .slice none 0 0, .slice none 0 0] 25) = V1_17 at *
          clear hb
          refine wpAnyH_ready (rs := [2]) (by kernel_rfl) (by simp) ?_
          refine AllReadyH.cons (o := _) rfl (fun K hK => ?_) AllReadyH.nil
          go_simp
          go_at_call 53
          refine (cFg (blk_lt kR) (hx.gg (And.left hHeld) lgR) hy).mono ?_
          rintro e_ V1_18 ⟨F3, f3, F4, f4, rfl, hf, hb⟩
          (try go_wp2_with fail)
          refine hK.out _ _ (and_of (fun hB_ => ⟨cell_up hB_ Xc0, cell_up hB_ Xc1, cell_up hB_ Xc2, cell_up hB_ Xc3, cell_up hB_ Xc4, cell_up hB_ Ic0, cell_up hB_ Ic1, cell_up hB_ Ic2, cell_up hB_ Ic3, cell_up hB_ Ic4⟩) (chain (And.left hHeld) hb)) ?_
          clear hHeld hK K
          intro hHeld
          (try simp only [Act.put, List.setIfInBounds_toArray, List.set_cons_zero, List.set_cons_succ])
          replace hy := hy.below hb
          replace kM := blk_below kM hb
          replace kR := blk_below kR hb
          clear hb
          refine wpAnyH_ready (rs := [6]) (by kernel_rfl) (by simp) ?_
          refine AllReadyH.cons (o := _) rfl (fun K hK => ?_) AllReadyH.nil
          go_simp
          go_at_call 31
          refine (cPg (blk_lt kR) (bind_rowg ⟨#[88]⟩ ti kM (by assumption) (hi.gg (And.left hHeld) lgR)) hf).mono ?_
          rintro e_ V1_19 ⟨T3, t3, T4, t4, rfl, ht, hb⟩
          simp only [Option.getD_some, Option.isSome_some] at ht ⊢
          (try go_wp2_with fail)
          refine hK.out _ _ (and_of (fun hB_ => ⟨cell_up hB_ Xc0, cell_up hB_ Xc1, cell_up hB_ Xc2, cell_up hB_ Xc3, cell_up hB_ Xc4, cell_up hB_ Ic0, cell_up hB_ Ic1, cell_up hB_ Ic2, cell_up hB_ Ic3, cell_up hB_ Ic4⟩) (chain (And.left hHeld) hb)) ?_
          clear hHeld hK K
          intro hHeld
          (try simp only [Act.put, List.setIfInBounds_toArray, List.set_cons_zero, List.set_cons_succ])
          replace hy := hy.below hb
          replace kM := blk_below kM hb
          replace kR := blk_below kR hb
          replace hf := hf.below hb
          clear hb
          (first | (refine take_held (i := 7) (d := (some 10)) (v := ?_) rfl rfl (by kernel_rfl) (by kernel_rfl) (by kernel_rfl) (fun _ _ _ h => h) (Or.inl ⟨by rfl, ?_⟩) hHeld ?_; rotate_left 1; focus ((intro w hSw; (try dsimp only at hSw); first | (go_simp; done) | (go_simp; with_reducible rfl)); done); (try simp only [Act.put, List.setIfInBounds_toArray, List.set_cons_zero, List.set_cons_succ])))
          (first | (refine take_held (i := 8) (d := (some 18)) (v := ?_) rfl rfl (by kernel_rfl) (by kernel_rfl) (by kernel_rfl) (fun _ _ _ h => h) (Or.inl ⟨by rfl, ?_⟩) hHeld ?_; rotate_left 1; focus ((intro w hSw; (try dsimp only at hSw); first | (go_simp; done) | (go_simp; with_reducible rfl)); done); (try simp only [Act.put, List.setIfInBounds_toArray, List.set_cons_zero, List.set_cons_succ])))
          (first | (refine take_held (i := 9) (d := (some 19)) (v := ?_) rfl rfl (by kernel_rfl) (by kernel_rfl) (by kernel_rfl) (fun _ _ _ h => h) (Or.inl ⟨by rfl, ?_⟩) hHeld ?_; rotate_left 1; focus ((intro w hSw; (try dsimp only at hSw); first | (go_simp; done) | (go_simp; with_reducible rfl)); done); (try simp only [Act.put, List.setIfInBounds_toArray, List.set_cons_zero, List.set_cons_succ])))
          have fin_ := And.intro hHeld (And.intro hf (And.intro ht (And.intro hy (And.intro kM (And.intro kR (And.intro lgM (And.intro lgR (And.intro neM (True.intro)))))))))
          revert fin_
          generalize V1_19 = v_0, F3 = v_1, F4 = v_2, T3 = v_3, T4 = v_4, Y3 = v_5, Y4 = v_6, f3 = v_7, f4 = v_8, gM = v_9, gR = v_10, t3 = v_11, t4 = v_12, y3 = v_13, y4 = v_14
          revert v_0 v_1 v_2 v_3 v_4 v_5 v_6 v_7 v_8 v_9 v_10 v_11 v_12 v_13 v_14
          exact hmain.out
      focus
        go_simp
        obtain ⟨gR, hgR⟩ : ∃ g_, g_ = V1_1.heap.size := ⟨_, rfl⟩
        have kR := blk_new V1_1 (.cells #[.int .i64 0, .int .i64 0, .string ⟨#[]⟩, .slice none 0 0, .slice none 0 0] 25)
        have hb := below_alloc1 V1_1 (.cells #[.int .i64 0, .int .i64 0, .string ⟨#[]⟩, .slice none 0 0, .slice none 0 0] 25)
        have lgR : W3.heap.size ≤ gR := by have := (And.left hHeld).size; omega
        (try go_wp2_with fail)
        refine hK.out _ _ (and_of (fun hB_ => ⟨cell_up hB_ Xc0, cell_up hB_ Xc1, cell_up hB_ Xc2, cell_up hB_ Xc3, cell_up hB_ Xc4, cell_up hB_ Ic0, cell_up hB_ Ic1, cell_up hB_ Ic2, cell_up hB_ Ic3, cell_up hB_ Ic4⟩) (chain (And.left hHeld) hb)) ?_
        clear hHeld hK K
        intro hHeld
        (try simp only [Act.put, List.setIfInBounds_toArray, List.set_cons_zero, List.set_cons_succ])
        replace hy := hy.ag
        rw [← hgR] at kR hy ⊢
        clear hgR
        replace hy := hy.below hb
        generalize V1_1.alloc (.cells #[.int .i64 0, .int .i64 0, .string ⟨#[]⟩, .slice none 0 0, .slice none 0 0] 25) = V1_20 at *
        clear hb
        refine wpAnyH_ready (rs := [2, 5]) (by kernel_rfl) (by simp) ?_
        refine AllReadyH.cons (o := _) rfl (fun K hK => ?_) (AllReadyH.cons (o := _) rfl (fun K hK => ?_) AllReadyH.nil)
        focus
          go_simp
          go_at_call 53
          refine (cFg (blk_lt kR) (hx.gg (And.left hHeld) lgR) hy).mono ?_
          rintro e_ V1_21 ⟨F3, f3, F4, f4, rfl, hf, hb⟩
          (try go_wp2_with fail)
          refine hK.out _ _ (and_of (fun hB_ => ⟨cell_up hB_ Xc0, cell_up hB_ Xc1, cell_up hB_ Xc2, cell_up hB_ Xc3, cell_up hB_ Xc4, cell_up hB_ Ic0, cell_up hB_ Ic1, cell_up hB_ Ic2, cell_up hB_ Ic3, cell_up hB_ Ic4⟩) (chain (And.left hHeld) hb)) ?_
          clear hHeld hK K
          intro hHeld
          (try simp only [Act.put, List.setIfInBounds_toArray, List.set_cons_zero, List.set_cons_succ])
          replace hy := hy.below hb
          replace kR := blk_below kR hb
          clear hb
          refine wpAnyH_ready (rs := [5]) (by kernel_rfl) (by simp) ?_
          refine AllReadyH.cons (o := _) rfl (fun K hK => ?_) AllReadyH.nil
          go_simp
          obtain ⟨gM, hgM⟩ : ∃ g_, g_ = V1_21.heap.size := ⟨_, rfl⟩
          have kM := blk_new V1_21 (.cells #[.string ⟨#[88]⟩, .int .i64 ti.f0, .int .i64 ti.f1, .string ti.f2, .slice I3 ti.f3.length i3, .slice I4 ti.f4.length i4] 43)
          have hb := below_alloc1 V1_21 (.cells #[.string ⟨#[88]⟩, .int .i64 ti.f0, .int .i64 ti.f1, .string ti.f2, .slice I3 ti.f3.length i3, .slice I4 ti.f4.length i4] 43)
          have lgM : W3.heap.size ≤ gM := by have := (And.left hHeld).size; omega
          (try go_wp2_with fail)
          refine hK.out _ _ (and_of (fun hB_ => ⟨cell_up hB_ Xc0, cell_up hB_ Xc1, cell_up hB_ Xc2, cell_up hB_ Xc3, cell_up hB_ Xc4, cell_up hB_ Ic0, cell_up hB_ Ic1, cell_up hB_ Ic2, cell_up hB_ Ic3, cell_up hB_ Ic4⟩) (chain (And.left hHeld) hb)) ?_
          clear hHeld hK K
          intro hHeld
          (try simp only [Act.put, List.setIfInBounds_toArray, List.set_cons_zero, List.set_cons_succ])
          have neM : gM ≠ gR := by have := blk_lt kR; omega
          rw [← hgM] at kM ⊢
          clear hgM
          replace hy := hy.below hb
          replace kR := blk_below kR hb
          replace hf := hf.below hb
          generalize V1_21.alloc (.cells #[.string ⟨#[88]⟩, .int .i64 ti.f0, .int .i64 ti.f1, .string ti.f2, .slice I3 ti.f3.length i3, .slice I4 ti.f4.length i4] 43) = V1_22 at *
          clear hb
          refine wpAnyH_ready (rs := [6]) (by kernel_rfl) (by simp) ?_
          refine AllReadyH.cons (o := _) rfl (fun K hK => ?_) AllReadyH.nil
          go_simp
          go_at_call 31
          refine (cPg (blk_lt kR) (bind_rowg ⟨#[88]⟩ ti kM (by assumption) (hi.gg (And.left hHeld) lgR)) hf).mono ?_
          rintro e_ V1_23 ⟨T3, t3, T4, t4, rfl, ht, hb⟩
          simp only [Option.getD_some, Option.isSome_some] at ht ⊢
          (try go_wp2_with fail)
          refine hK.out _ _ (and_of (fun hB_ => ⟨cell_up hB_ Xc0, cell_up hB_ Xc1, cell_up hB_ Xc2, cell_up hB_ Xc3, cell_up hB_ Xc4, cell_up hB_ Ic0, cell_up hB_ Ic1, cell_up hB_ Ic2, cell_up hB_ Ic3, cell_up hB_ Ic4⟩) (chain (And.left hHeld) hb)) ?_
          clear hHeld hK K
          intro hHeld
          (try simp only [Act.put, List.setIfInBounds_toArray, List.set_cons_zero, List.set_cons_succ])
          replace hy := hy.below hb
          replace kR := blk_below kR hb
          replace hf := hf.below hb
          replace kM := blk_below kM hb
          clear hb
          (first | (refine take_held (i := 7) (d := (some 10)) (v := ?_) rfl rfl (by kernel_rfl) (by kernel_rfl) (by kernel_rfl) (fun _ _ _ h => h) (Or.inl ⟨by rfl, ?_⟩) hHeld ?_; rotate_left 1; focus ((intro w hSw; (try dsimp only at hSw); first | (go_simp; done) | (go_simp; with_reducible rfl)); done); (try simp only [Act.put, List.setIfInBounds_toArray, List.set_cons_zero, List.set_cons_succ])))
          (first | (refine take_held (i := 8) (d := (some 18)) (v := ?_) rfl rfl (by kernel_rfl) (by kernel_rfl) (by kernel_rfl) (fun _ _ _ h => h) (Or.inl ⟨by rfl, ?_⟩) hHeld ?_; rotate_left 1; focus ((intro w hSw; (try dsimp only at hSw); first | (go_simp; done) | (go_simp; with_reducible rfl)); done); (try simp only [Act.put, List.setIfInBounds_toArray, List.set_cons_zero, List.set_cons_succ])))
          (first | (refine take_held (i := 9) (d := (some 19)) (v := ?_) rfl rfl (by kernel_rfl) (by kernel_rfl) (by kernel_rfl) (fun _ _ _ h => h) (Or.inl ⟨by rfl, ?_⟩) hHeld ?_; rotate_left 1; focus ((intro w hSw; (try dsimp only at hSw); first | (go_simp; done) | (go_simp; with_reducible rfl)); done); (try simp only [Act.put, List.setIfInBounds_toArray, List.set_cons_zero, List.set_cons_succ])))
          have fin_ := And.intro hHeld (And.intro hf (And.intro ht (And.intro hy (And.intro kM (And.intro kR (And.intro lgM (And.intro lgR (And.intro neM (True.intro)))))))))
          revert fin_
          generalize V1_23 = v_0, F3 = v_1, F4 = v_2, T3 = v_3, T4 = v_4, Y3 = v_5, Y4 = v_6, f3 = v_7, f4 = v_8, gM = v_9, gR = v_10, t3 = v_11, t4 = v_12, y3 = v_13, y4 = v_14
          revert v_0 v_1 v_2 v_3 v_4 v_5 v_6 v_7 v_8 v_9 v_10 v_11 v_12 v_13 v_14
          exact hmain.out
        focus
          go_simp
          obtain ⟨gM, hgM⟩ : ∃ g_, g_ = V1_20.heap.size := ⟨_, rfl⟩
          have kM := blk_new V1_20 (.cells #[.string ⟨#[88]⟩, .int .i64 ti.f0, .int .i64 ti.f1, .string ti.f2, .slice I3 ti.f3.length i3, .slice I4 ti.f4.length i4] 43)
          have hb := below_alloc1 V1_20 (.cells #[.string ⟨#[88]⟩, .int .i64 ti.f0, .int .i64 ti.f1, .string ti.f2, .slice I3 ti.f3.length i3, .slice I4 ti.f4.length i4] 43)
          have lgM : W3.heap.size ≤ gM := by have := (And.left hHeld).size; omega
          (try go_wp2_with fail)
          refine hK.out _ _ (and_of (fun hB_ => ⟨cell_up hB_ Xc0, cell_up hB_ Xc1, cell_up hB_ Xc2, cell_up hB_ Xc3, cell_up hB_ Xc4, cell_up hB_ Ic0, cell_up hB_ Ic1, cell_up hB_ Ic2, cell_up hB_ Ic3, cell_up hB_ Ic4⟩) (chain (And.left hHeld) hb)) ?_
          clear hHeld hK K
          intro hHeld
          (try simp only [Act.put, List.setIfInBounds_toArray, List.set_cons_zero, List.set_cons_succ])
          have neM : gM ≠ gR := by have := blk_lt kR; omega
          rw [← hgM] at kM ⊢
          clear hgM
          replace hy := hy.below hb
          replace kR := blk_below kR hb
          generalize V1_20.alloc (.cells #[.string ⟨#[88]⟩, .int .i64 ti.f0, .int .i64 ti.f1, .string ti.f2, .slice I3 ti.f3.length i3, .slice I4 ti.f4.length i4] 43) = V1_24 at *
          clear hb
          refine wpAnyH_ready (rs := [2]) (by kernel_rfl) (by simp) ?_
          refine AllReadyH.cons (o := _) rfl (fun K hK => ?_) AllReadyH.nil
          go_simp
          go_at_call 53
          refine (cFg (blk_lt kR) (hx.gg (And.left hHeld) lgR) hy).mono ?_
          rintro e_ V1_25 ⟨F3, f3, F4, f4, rfl, hf, hb⟩
          (try go_wp2_with fail)
          refine hK.out _ _ (and_of (fun hB_ => ⟨cell_up hB_ Xc0, cell_up hB_ Xc1, cell_up hB_ Xc2, cell_up hB_ Xc3, cell_up hB_ Xc4, cell_up hB_ Ic0, cell_up hB_ Ic1, cell_up hB_ Ic2, cell_up hB_ Ic3, cell_up hB_ Ic4⟩) (chain (And.left hHeld) hb)) ?_
          clear hHeld hK K
          intro hHeld
          (try simp only [Act.put, List.setIfInBounds_toArray, List.set_cons_zero, List.set_cons_succ])
          replace hy := hy.below hb
          replace kR := blk_below kR hb
          replace kM := blk_below kM hb
          clear hb
          refine wpAnyH_ready (rs := [6]) (by kernel_rfl) (by simp) ?_
          refine AllReadyH.cons (o := _) rfl (fun K hK => ?_) AllReadyH.nil
          go_simp
          go_at_call 31
          refine (cPg (blk_lt kR) (bind_rowg ⟨#[88]⟩ ti kM (by assumption) (hi.gg (And.left hHeld) lgR)) hf).mono ?_
          rintro e_ V1_26 ⟨T3, t3, T4, t4, rfl, ht, hb⟩
          simp only [Option.getD_some, Option.isSome_some] at ht ⊢
          (try go_wp2_with fail)
          refine hK.out _ _ (and_of (fun hB_ => ⟨cell_up hB_ Xc0, cell_up hB_ Xc1, cell_up hB_ Xc2, cell_up hB_ Xc3, cell_up hB_ Xc4, cell_up hB_ Ic0, cell_up hB_ Ic1, cell_up hB_ Ic2, cell_up hB_ Ic3, cell_up hB_ Ic4⟩) (chain (And.left hHeld) hb)) ?_
          clear hHeld hK K
          intro hHeld
          (try simp only [Act.put, List.setIfInBounds_toArray, List.set_cons_zero, List.set_cons_succ])
          replace hy := hy.below hb
          replace kR := blk_below kR hb
          replace kM := blk_below kM hb
          replace hf := hf.below hb
          clear hb
          (first | (refine take_held (i := 7) (d := (some 10)) (v := ?_) rfl rfl (by kernel_rfl) (by kernel_rfl) (by kernel_rfl) (fun _ _ _ h => h) (Or.inl ⟨by rfl, ?_⟩) hHeld ?_; rotate_left 1; focus ((intro w hSw; (try dsimp only at hSw); first | (go_simp; done) | (go_simp; with_reducible rfl)); done); (try simp only [Act.put, List.setIfInBounds_toArray, List.set_cons_zero, List.set_cons_succ])))
          (first | (refine take_held (i := 8) (d := (some 18)) (v := ?_) rfl rfl (by kernel_rfl) (by kernel_rfl) (by kernel_rfl) (fun _ _ _ h => h) (Or.inl ⟨by rfl, ?_⟩) hHeld ?_; rotate_left 1; focus ((intro w hSw; (try dsimp only at hSw); first | (go_simp; done) | (go_simp; with_reducible rfl)); done); (try simp only [Act.put, List.setIfInBounds_toArray, List.set_cons_zero, List.set_cons_succ])))
          (first | (refine take_held (i := 9) (d := (some 19)) (v := ?_) rfl rfl (by kernel_rfl) (by kernel_rfl) (by kernel_rfl) (fun _ _ _ h => h) (Or.inl ⟨by rfl, ?_⟩) hHeld ?_; rotate_left 1; focus ((intro w hSw; (try dsimp only at hSw); first | (go_simp; done) | (go_simp; with_reducible rfl)); done); (try simp only [Act.put, List.setIfInBounds_toArray, List.set_cons_zero, List.set_cons_succ])))
          have fin_ := And.intro hHeld (And.intro hf (And.intro ht (And.intro hy (And.intro kM (And.intro kR (And.intro lgM (And.intro lgR (And.intro neM (True.intro)))))))))
          revert fin_
          generalize V1_26 = v_0, F3 = v_1, F4 = v_2, T3 = v_3, T4 = v_4, Y3 = v_5, Y4 = v_6, f3 = v_7, f4 = v_8, gM = v_9, gR = v_10, t3 = v_11, t4 = v_12, y3 = v_13, y4 = v_14
          revert v_0 v_1 v_2 v_3 v_4 v_5 v_6 v_7 v_8 v_9 v_10 v_11 v_12 v_13 v_14
          exact hmain.out
    focus
      go_simp
      obtain ⟨gM, hgM⟩ : ∃ g_, g_ = V1_0.heap.size := ⟨_, rfl⟩
      have kM := blk_new V1_0 (.cells #[.string ⟨#[88]⟩, .int .i64 ti.f0, .int .i64 ti.f1, .string ti.f2, .slice I3 ti.f3.length i3, .slice I4 ti.f4.length i4] 43)
      have hb := below_alloc1 V1_0 (.cells #[.string ⟨#[88]⟩, .int .i64 ti.f0, .int .i64 ti.f1, .string ti.f2, .slice I3 ti.f3.length i3, .slice I4 ti.f4.length i4] 43)
      have lgM : W3.heap.size ≤ gM := by have := (And.left hHeld).size; omega
      (try go_wp2_with fail)
      refine hK.out _ _ (and_of (fun hB_ => ⟨cell_up hB_ Xc0, cell_up hB_ Xc1, cell_up hB_ Xc2, cell_up hB_ Xc3, cell_up hB_ Xc4, cell_up hB_ Ic0, cell_up hB_ Ic1, cell_up hB_ Ic2, cell_up hB_ Ic3, cell_up hB_ Ic4⟩) (chain (And.left hHeld) hb)) ?_
      clear hHeld hK K
      intro hHeld
      (try simp only [Act.put, List.setIfInBounds_toArray, List.set_cons_zero, List.set_cons_succ])
      rw [← hgM] at kM ⊢
      clear hgM
      generalize V1_0.alloc (.cells #[.string ⟨#[88]⟩, .int .i64 ti.f0, .int .i64 ti.f1, .string ti.f2, .slice I3 ti.f3.length i3, .slice I4 ti.f4.length i4] 43) = V1_27 at *
      clear hb
      refine wpAnyH_ready (rs := [1, 10]) (by kernel_rfl) (by simp) ?_
      refine AllReadyH.cons (o := _) rfl (fun K hK => ?_) (AllReadyH.cons (o := _) rfl (fun K hK => ?_) AllReadyH.nil)
      focus
        go_simp
        go_at_call 61
        refine (CY.out _).mono ?_
        rintro e_ V1_28 ⟨Y3, y3, Y4, y4, rfl, hy, hb⟩
        (try go_wp2_with fail)
        refine hK.out _ _ (and_of (fun hB_ => ⟨cell_up hB_ Xc0, cell_up hB_ Xc1, cell_up hB_ Xc2, cell_up hB_ Xc3, cell_up hB_ Xc4, cell_up hB_ Ic0, cell_up hB_ Ic1, cell_up hB_ Ic2, cell_up hB_ Ic3, cell_up hB_ Ic4⟩) (chain (And.left hHeld) hb)) ?_
        clear hHeld hK K
        intro hHeld
        (try simp only [Act.put, List.setIfInBounds_toArray, List.set_cons_zero, List.set_cons_succ])
        replace kM := blk_below kM hb
        clear hb
        refine wpAnyH_ready (rs := [2, 10]) (by kernel_rfl) (by simp) ?_
        refine AllReadyH.cons (o := _) rfl (fun K hK => ?_) (AllReadyH.cons (o := _) rfl (fun K hK => ?_) AllReadyH.nil)
        focus
          go_simp
          go_at_call 53
          refine (cF (hx.below (And.left hHeld)) hy).mono ?_
          rintro e_ V1_29 ⟨F3, f3, F4, f4, rfl, hf, hb⟩
          (try go_wp2_with fail)
          refine hK.out _ _ (and_of (fun hB_ => ⟨cell_up hB_ Xc0, cell_up hB_ Xc1, cell_up hB_ Xc2, cell_up hB_ Xc3, cell_up hB_ Xc4, cell_up hB_ Ic0, cell_up hB_ Ic1, cell_up hB_ Ic2, cell_up hB_ Ic3, cell_up hB_ Ic4⟩) (chain (And.left hHeld) hb)) ?_
          clear hHeld hK K
          intro hHeld
          (try simp only [Act.put, List.setIfInBounds_toArray, List.set_cons_zero, List.set_cons_succ])
          replace kM := blk_below kM hb
          replace hy := hy.below hb
          clear hb
          refine wpAnyH_ready (rs := [6, 10]) (by kernel_rfl) (by simp) ?_
          refine AllReadyH.cons (o := _) rfl (fun K hK => ?_) (AllReadyH.cons (o := _) rfl (fun K hK => ?_) AllReadyH.nil)
          focus
            go_simp
            go_at_call 31
            refine (cP (bind_row ⟨#[88]⟩ ti kM (hi.below (And.left hHeld))) hf).mono ?_
            rintro e_ V1_30 ⟨T3, t3, T4, t4, rfl, ht, hb⟩
            simp only [Option.getD_some, Option.isSome_some] at ht ⊢
            (try go_wp2_with fail)
            refine hK.out _ _ (and_of (fun hB_ => ⟨cell_up hB_ Xc0, cell_up hB_ Xc1, cell_up hB_ Xc2, cell_up hB_ Xc3, cell_up hB_ Xc4, cell_up hB_ Ic0, cell_up hB_ Ic1, cell_up hB_ Ic2, cell_up hB_ Ic3, cell_up hB_ Ic4⟩) (chain (And.left hHeld) hb)) ?_
            clear hHeld hK K
            intro hHeld
            (try simp only [Act.put, List.setIfInBounds_toArray, List.set_cons_zero, List.set_cons_succ])
            replace kM := blk_below kM hb
            replace hy := hy.below hb
            replace hf := hf.below hb
            clear hb
            (first | (refine take_held (i := 7) (d := (some 10)) (v := ?_) rfl rfl (by kernel_rfl) (by kernel_rfl) (by kernel_rfl) (fun _ _ _ h => h) (Or.inl ⟨by rfl, ?_⟩) hHeld ?_; rotate_left 1; focus ((intro w hSw; (try dsimp only at hSw); first | (go_simp; done) | (go_simp; with_reducible rfl)); done); (try simp only [Act.put, List.setIfInBounds_toArray, List.set_cons_zero, List.set_cons_succ])))
            (first | (refine take_held (i := 8) (d := (some 18)) (v := ?_) rfl rfl (by kernel_rfl) (by kernel_rfl) (by kernel_rfl) (fun _ _ _ h => h) (Or.inl ⟨by rfl, ?_⟩) hHeld ?_; rotate_left 1; focus ((intro w hSw; (try dsimp only at hSw); first | (go_simp; done) | (go_simp; with_reducible rfl)); done); (try simp only [Act.put, List.setIfInBounds_toArray, List.set_cons_zero, List.set_cons_succ])))
            (first | (refine take_held (i := 9) (d := (some 19)) (v := ?_) rfl rfl (by kernel_rfl) (by kernel_rfl) (by kernel_rfl) (fun _ _ _ h => h) (Or.inl ⟨by rfl, ?_⟩) hHeld ?_; rotate_left 1; focus ((intro w hSw; (try dsimp only at hSw); first | (go_simp; done) | (go_simp; with_reducible rfl)); done); (try simp only [Act.put, List.setIfInBounds_toArray, List.set_cons_zero, List.set_cons_succ])))
            refine wpAnyH_ready (rs := [10]) (by kernel_rfl) (by simp) ?_
            refine AllReadyH.cons (o := _) rfl (fun K hK => ?_) AllReadyH.nil
            go_simp
            obtain ⟨gR, hgR⟩ : ∃ g_, g_ = V1_30.heap.size := ⟨_, rfl⟩
            have kR := blk_new V1_30 (.cells #[.int .i64 0, .int .i64 0, .string ⟨#[]⟩, .slice none 0 0, .slice none 0 0] 25)
            have hb := below_alloc1 V1_30 (.cells #[.int .i64 0, .int .i64 0, .string ⟨#[]⟩, .slice none 0 0, .slice none 0 0] 25)
            have lgR : W3.heap.size ≤ gR := by have := (And.left hHeld).size; omega
            (try go_wp2_with fail)
            refine hK.out _ _ (and_of (fun hB_ => ⟨cell_up hB_ Xc0, cell_up hB_ Xc1, cell_up hB_ Xc2, cell_up hB_ Xc3, cell_up hB_ Xc4, cell_up hB_ Ic0, cell_up hB_ Ic1, cell_up hB_ Ic2, cell_up hB_ Ic3, cell_up hB_ Ic4⟩) (chain (And.left hHeld) hb)) ?_
            clear hHeld hK K
            intro hHeld
            (try simp only [Act.put, List.setIfInBounds_toArray, List.set_cons_zero, List.set_cons_succ])
            have neM : gM ≠ gR := by have := blk_lt kM; omega
            replace hy := hy.ag
            replace hf := hf.ag
            replace ht := ht.ag
            rw [← hgR] at kR hy hf ht ⊢
            clear hgR
            replace kM := blk_below kM hb
            replace hy := hy.below hb
            replace hf := hf.below hb
            replace ht := ht.below hb
            generalize V1_30.alloc (.cells #[.int .i64 0, .int .i64 0, .string ⟨#[]⟩, .slice none 0 0, .slice none 0 0] 25) = V1_31 at *
            clear hb
            have fin_ := And.intro hHeld (And.intro hf (And.intro ht (And.intro hy (And.intro kM (And.intro kR (And.intro lgM (And.intro lgR (And.intro neM (True.intro)))))))))
            revert fin_
            generalize V1_31 = v_0, F3 = v_1, F4 = v_2, T3 = v_3, T4 = v_4, Y3 = v_5, Y4 = v_6, f3 = v_7, f4 = v_8, gM = v_9, gR = v_10, t3 = v_11, t4 = v_12, y3 = v_13, y4 = v_14
            revert v_0 v_1 v_2 v_3 v_4 v_5 v_6 v_7 v_8 v_9 v_10 v_11 v_12 v_13 v_14
            exact hmain.out
          focus
            go_simp
            obtain ⟨gR, hgR⟩ : ∃ g_, g_ = V1_29.heap.size := ⟨_, rfl⟩
            have kR := blk_new V1_29 (.cells #[.int .i64 0, .int .i64 0, .string ⟨#[]⟩, .slice none 0 0, .slice none 0 0] 25)
            have hb := below_alloc1 V1_29 (.cells #[.int .i64 0, .int .i64 0, .string ⟨#[]⟩, .slice none 0 0, .slice none 0 0] 25)
            have lgR : W3.heap.size ≤ gR := by have := (And.left hHeld).size; omega
            (try go_wp2_with fail)
            refine hK.out _ _ (and_of (fun hB_ => ⟨cell_up hB_ Xc0, cell_up hB_ Xc1, cell_up hB_ Xc2, cell_up hB_ Xc3, cell_up hB_ Xc4, cell_up hB_ Ic0, cell_up hB_ Ic1, cell_up hB_ Ic2, cell_up hB_ Ic3, cell_up hB_ Ic4⟩) (chain (And.left hHeld) hb)) ?_
            clear hHeld hK K
            intro hHeld
            (try simp only [Act.put, List.setIfInBounds_toArray, List.set_cons_zero, List.set_cons_succ])
            have neM : gM ≠ gR := by have := blk_lt kM; omega
            replace hy := hy.ag
            replace hf := hf.ag
            rw [← hgR] at kR hy hf ⊢
            clear hgR
            replace kM := blk_below kM hb
            replace hy := hy.below hb
            replace hf := hf.below hb
            generalize V1_29.alloc (.cells #[.int .i64 0, .int .i64 0, .string ⟨#[]⟩, .slice none 0 0, .slice none 0 0] 25) = V1_32 at *
            clear hb
            refine wpAnyH_ready (rs := [6]) (by kernel_rfl) (by simp) ?_
            refine AllReadyH.cons (o := _) rfl (fun K hK => ?_) AllReadyH.nil
            go_simp
            go_at_call 31
            refine (cPg (blk_lt kR) (bind_rowg ⟨#[88]⟩ ti kM (by assumption) (hi.gg (And.left hHeld) lgR)) hf).mono ?_
            rintro e_ V1_33 ⟨T3, t3, T4, t4, rfl, ht, hb⟩
            simp only [Option.getD_some, Option.isSome_some] at ht ⊢
            (try go_wp2_with fail)
            refine hK.out _ _ (and_of (fun hB_ => ⟨cell_up hB_ Xc0, cell_up hB_ Xc1, cell_up hB_ Xc2, cell_up hB_ Xc3, cell_up hB_ Xc4, cell_up hB_ Ic0, cell_up hB_ Ic1, cell_up hB_ Ic2, cell_up hB_ Ic3, cell_up hB_ Ic4⟩) (chain (And.left hHeld) hb)) ?_
            clear hHeld hK K
            intro hHeld
            (try simp only [Act.put, List.setIfInBounds_toArray, List.set_cons_zero, List.set_cons_succ])
            replace kM := blk_below kM hb
            replace hy := hy.below hb
            replace hf := hf.below hb
            replace kR := blk_below kR hb
            clear hb
            (first | (refine take_held (i := 7) (d := (some 10)) (v := ?_) rfl rfl (by kernel_rfl) (by kernel_rfl) (by kernel_rfl) (fun _ _ _ h => h) (Or.inl ⟨by rfl, ?_⟩) hHeld ?_; rotate_left 1; focus ((intro w hSw; (try dsimp only at hSw); first | (go_simp; done) | (go_simp; with_reducible rfl)); done); (try simp only [Act.put, List.setIfInBounds_toArray, List.set_cons_zero, List.set_cons_succ])))
            (first | (refine take_held (i := 8) (d := (some 18)) (v := ?_) rfl rfl (by kernel_rfl) (by kernel_rfl) (by kernel_rfl) (fun _ _ _ h => h) (Or.inl ⟨by rfl, ?_⟩) hHeld ?_; rotate_left 1; focus ((intro w hSw; (try dsimp only at hSw); first | (go_simp; done) | (go_simp; with_reducible rfl)); done); (try simp only [Act.put, List.setIfInBounds_toArray, List.set_cons_zero, List.set_cons_succ])))
            (first | (refine take_held (i := 9) (d := (some 19)) (v := ?_) rfl rfl (by kernel_rfl) (by kernel_rfl) (by kernel_rfl) (fun _ _ _ h => h) (Or.inl ⟨by rfl, ?_⟩) hHeld ?_; rotate_left 1; focus ((intro w hSw; (try dsimp only at hSw); first | (go_simp; done) | (go_simp; with_reducible rfl)); done); (try simp only [Act.put, List.setIfInBounds_toArray, List.set_cons_zero, List.set_cons_succ])))
            have fin_ := And.intro hHeld (And.intro hf (And.intro ht (And.intro hy (And.intro kM (And.intro kR (And.intro lgM (And.intro lgR (And.intro neM (True.intro)))))))))
            revert fin_
            generalize V1_33 = v_0, F3 = v_1, F4 = v_2, T3 = v_3, T4 = v_4, Y3 = v_5, Y4 = v_6, f3 = v_7, f4 = v_8, gM = v_9, gR = v_10, t3 = v_11, t4 = v_12, y3 = v_13, y4 = v_14
            revert v_0 v_1 v_2 v_3 v_4 v_5 v_6 v_7 v_8 v_9 v_10 v_11 v_12 v_13 v_14
            exact hmain.out
        focus
          go_simp
          obtain ⟨gR, hgR⟩ : ∃ g_, g_ = V1_28.heap.size := ⟨_, rfl⟩
          have kR := blk_new V1_28 (.cells #[.int .i64 0, .int .i64 0, .string ⟨#[]⟩, .slice none 0 0, .slice none 0 0] 25)
          have hb := below_alloc1 V1_28 (.cells #[.int .i64 0, .int .i64 0, .string ⟨#[]⟩, .slice none 0 0, .slice none 0 0] 25)
          have lgR : W3.heap.size ≤ gR := by have := (And.left hHeld).size; omega
          (try go_wp2_with fail)
          refine hK.out _ _ (and_of (fun hB_ => ⟨cell_up hB_ Xc0, cell_up hB_ Xc1, cell_up hB_ Xc2, cell_up hB_ Xc3, cell_up hB_ Xc4, cell_up hB_ Ic0, cell_up hB_ Ic1, cell_up hB_ Ic2, cell_up hB_ Ic3, cell_up hB_ Ic4⟩) (chain (And.left hHeld) hb)) ?_
          clear hHeld hK K
          intro hHeld
          (try simp only [Act.put, List.setIfInBounds_toArray, List.set_cons_zero, List.set_cons_succ])
          have neM : gM ≠ gR := by have := blk_lt kM; omega
          replace hy := hy.ag
          rw [← hgR] at kR hy ⊢
          clear hgR
          replace kM := blk_below kM hb
          replace hy := hy.below hb
          generalize V1_28.alloc (.cells #[.int .i64 0, .int .i64 0, .string ⟨#[]⟩, .slice none 0 0, .slice none 0 0] 25) = V1_34 at *
          clear hb
          refine wpAnyH_ready (rs := [2]) (by kernel_rfl) (by simp) ?_
          refine AllReadyH.cons (o := _) rfl (fun K hK => ?_) AllReadyH.nil
          go_simp
          go_at_call 53
          refine (cFg (blk_lt kR) (hx.gg (And.left hHeld) lgR) hy).mono ?_
          rintro e_ V1_35 ⟨F3, f3, F4, f4, rfl, hf, hb⟩
          (try go_wp2_with fail)
          refine hK.out _ _ (and_of (fun hB_ => ⟨cell_up hB_ Xc0, cell_up hB_ Xc1, cell_up hB_ Xc2, cell_up hB_ Xc3, cell_up hB_ Xc4, cell_up hB_ Ic0, cell_up hB_ Ic1, cell_up hB_ Ic2, cell_up hB_ Ic3, cell_up hB_ Ic4⟩) (chain (And.left hHeld) hb)) ?_
          clear hHeld hK K
          intro hHeld
          (try simp only [Act.put, List.setIfInBounds_toArray, List.set_cons_zero, List.set_cons_succ])
          replace kM := blk_below kM hb
          replace hy := hy.below hb
          replace kR := blk_below kR hb
          clear hb
          refine wpAnyH_ready (rs := [6]) (by kernel_rfl) (by simp) ?_
          refine AllReadyH.cons (o := _) rfl (fun K hK => ?_) AllReadyH.nil
          go_simp
          go_at_call 31
          refine (cPg (blk_lt kR) (bind_rowg ⟨#[88]⟩ ti kM (by assumption) (hi.gg (And.left hHeld) lgR)) hf).mono ?_
          rintro e_ V1_36 ⟨T3, t3, T4, t4, rfl, ht, hb⟩
          simp only [Option.getD_some, Option.isSome_some] at ht ⊢
          (try go_wp2_with fail)
          refine hK.out _ _ (and_of (fun hB_ => ⟨cell_up hB_ Xc0, cell_up hB_ Xc1, cell_up hB_ Xc2, cell_up hB_ Xc3, cell_up hB_ Xc4, cell_up hB_ Ic0, cell_up hB_ Ic1, cell_up hB_ Ic2, cell_up hB_ Ic3, cell_up hB_ Ic4⟩) (chain (And.left hHeld) hb)) ?_
          clear hHeld hK K
          intro hHeld
          (try simp only [Act.put, List.setIfInBounds_toArray, List.set_cons_zero, List.set_cons_succ])
          replace kM := blk_below kM hb
          replace hy := hy.below hb
          replace kR := blk_below kR hb
          replace hf := hf.below hb
          clear hb
          (first | (refine take_held (i := 7) (d := (some 10)) (v := ?_) rfl rfl (by kernel_rfl) (by kernel_rfl) (by kernel_rfl) (fun _ _ _ h => h) (Or.inl ⟨by rfl, ?_⟩) hHeld ?_; rotate_left 1; focus ((intro w hSw; (try dsimp only at hSw); first | (go_simp; done) | (go_simp; with_reducible rfl)); done); (try simp only [Act.put, List.setIfInBounds_toArray, List.set_cons_zero, List.set_cons_succ])))
          (first | (refine take_held (i := 8) (d := (some 18)) (v := ?_) rfl rfl (by kernel_rfl) (by kernel_rfl) (by kernel_rfl) (fun _ _ _ h => h) (Or.inl ⟨by rfl, ?_⟩) hHeld ?_; rotate_left 1; focus ((intro w hSw; (try dsimp only at hSw); first | (go_simp; done) | (go_simp; with_reducible rfl)); done); (try simp only [Act.put, List.setIfInBounds_toArray, List.set_cons_zero, List.set_cons_succ])))
          (first | (refine take_held (i := 9) (d := (some 19)) (v := ?_) rfl rfl (by kernel_rfl) (by kernel_rfl) (by kernel_rfl) (fun _ _ _ h => h) (Or.inl ⟨by rfl, ?_⟩) hHeld ?_; rotate_left 1; focus ((intro w hSw; (try dsimp only at hSw); first | (go_simp; done) | (go_simp; with_reducible rfl)); done); (try simp only [Act.put, List.setIfInBounds_toArray, List.set_cons_zero, List.set_cons_succ])))
          have fin_ := And.intro hHeld (And.intro hf (And.intro ht (And.intro hy (And.intro kM (And.intro kR (And.intro lgM (And.intro lgR (And.intro neM (True.intro)))))))))
          revert fin_
          generalize V1_36 = v_0, F3 = v_1, F4 = v_2, T3 = v_3, T4 = v_4, Y3 = v_5, Y4 = v_6, f3 = v_7, f4 = v_8, gM = v_9, gR = v_10, t3 = v_11, t4 = v_12, y3 = v_13, y4 = v_14
          revert v_0 v_1 v_2 v_3 v_4 v_5 v_6 v_7 v_8 v_9 v_10 v_11 v_12 v_13 v_14
          exact hmain.out
      focus
        go_simp
        obtain ⟨gR, hgR⟩ : ∃ g_, g_ = V1_27.heap.size := ⟨_, rfl⟩
        have kR := blk_new V1_27 (.cells #[.int .i64 0, .int .i64 0, .string ⟨#[]⟩, .slice none 0 0, .slice none 0 0] 25)
        have hb := below_alloc1 V1_27 (.cells #[.int .i64 0, .int .i64 0, .string ⟨#[]⟩, .slice none 0 0, .slice none 0 0] 25)
        have lgR : W3.heap.size ≤ gR := by have := (And.left hHeld).size; omega
        (try go_wp2_with fail)
        refine hK.out _ _ (and_of (fun hB_ => ⟨cell_up hB_ Xc0, cell_up hB_ Xc1, cell_up hB_ Xc2, cell_up hB_ Xc3, cell_up hB_ Xc4, cell_up hB_ Ic0, cell_up hB_ Ic1, cell_up hB_ Ic2, cell_up hB_ Ic3, cell_up hB_ Ic4⟩) (chain (And.left hHeld) hb)) ?_
        clear hHeld hK K
        intro hHeld
        (try simp only [Act.put, List.setIfInBounds_toArray, List.set_cons_zero, List.set_cons_succ])
        have neM : gM ≠ gR := by have := blk_lt kM; omega
        rw [← hgR] at kR ⊢
        clear hgR
        replace kM := blk_below kM hb
        generalize V1_27.alloc (.cells #[.int .i64 0, .int .i64 0, .string ⟨#[]⟩, .slice none 0 0, .slice none 0 0] 25) = V1_37 at *
        clear hb
        refine wpAnyH_ready (rs := [1]) (by kernel_rfl) (by simp) ?_
        refine AllReadyH.cons (o := _) rfl (fun K hK => ?_) AllReadyH.nil
        go_simp
        go_at_call 61
        refine (CYg.out _ gR).mono ?_
        rintro e_ V1_38 ⟨Y3, y3, Y4, y4, rfl, hy, hb⟩
        (try go_wp2_with fail)
        refine hK.out _ _ (and_of (fun hB_ => ⟨cell_up hB_ Xc0, cell_up hB_ Xc1, cell_up hB_ Xc2, cell_up hB_ Xc3, cell_up hB_ Xc4, cell_up hB_ Ic0, cell_up hB_ Ic1, cell_up hB_ Ic2, cell_up hB_ Ic3, cell_up hB_ Ic4⟩) (chain (And.left hHeld) hb)) ?_
        clear hHeld hK K
        intro hHeld
        (try simp only [Act.put, List.setIfInBounds_toArray, List.set_cons_zero, List.set_cons_succ])
        replace kM := blk_below kM hb
        replace kR := blk_below kR hb
        clear hb
        refine wpAnyH_ready (rs := [2]) (by kernel_rfl) (by simp) ?_
        refine AllReadyH.cons (o := _) rfl (fun K hK => ?_) AllReadyH.nil
        go_simp
        go_at_call 53
        refine (cFg (blk_lt kR) (hx.gg (And.left hHeld) lgR) hy).mono ?_
        rintro e_ V1_39 ⟨F3, f3, F4, f4, rfl, hf, hb⟩
        (try go_wp2_with fail)
        refine hK.out _ _ (and_of (fun hB_ => ⟨cell_up hB_ Xc0, cell_up hB_ Xc1, cell_up hB_ Xc2, cell_up hB_ Xc3, cell_up hB_ Xc4, cell_up hB_ Ic0, cell_up hB_ Ic1, cell_up hB_ Ic2, cell_up hB_ Ic3, cell_up hB_ Ic4⟩) (chain (And.left hHeld) hb)) ?_
        clear hHeld hK K
        intro hHeld
        (try simp only [Act.put, List.setIfInBounds_toArray, List.set_cons_zero, List.set_cons_succ])
        replace kM := blk_below kM hb
        replace kR := blk_below kR hb
        replace hy := hy.below hb
        clear hb
        refine wpAnyH_ready (rs := [6]) (by kernel_rfl) (by simp) ?_
        refine AllReadyH.cons (o := _) rfl (fun K hK => ?_) AllReadyH.nil
        go_simp
        go_at_call 31
        refine (cPg (blk_lt kR) (bind_rowg ⟨#[88]⟩ ti kM (by assumption) (hi.gg (And.left hHeld) lgR)) hf).mono ?_
        rintro e_ V1_40 ⟨T3, t3, T4, t4, rfl, ht, hb⟩
        simp only [Option.getD_some, Option.isSome_some] at ht ⊢
        (try go_wp2_with fail)
        refine hK.out _ _ (and_of (fun hB_ => ⟨cell_up hB_ Xc0, cell_up hB_ Xc1, cell_up hB_ Xc2, cell_up hB_ Xc3, cell_up hB_ Xc4, cell_up hB_ Ic0, cell_up hB_ Ic1, cell_up hB_ Ic2, cell_up hB_ Ic3, cell_up hB_ Ic4⟩) (chain (And.left hHeld) hb)) ?_
        clear hHeld hK K
        intro hHeld
        (try simp only [Act.put, List.setIfInBounds_toArray, List.set_cons_zero, List.set_cons_succ])
        replace kM := blk_below kM hb
        replace kR := blk_below kR hb
        replace hy := hy.below hb
        replace hf := hf.below hb
        clear hb
        (first | (refine take_held (i := 7) (d := (some 10)) (v := ?_) rfl rfl (by kernel_rfl) (by kernel_rfl) (by kernel_rfl) (fun _ _ _ h => h) (Or.inl ⟨by rfl, ?_⟩) hHeld ?_; rotate_left 1; focus ((intro w hSw; (try dsimp only at hSw); first | (go_simp; done) | (go_simp; with_reducible rfl)); done); (try simp only [Act.put, List.setIfInBounds_toArray, List.set_cons_zero, List.set_cons_succ])))
        (first | (refine take_held (i := 8) (d := (some 18)) (v := ?_) rfl rfl (by kernel_rfl) (by kernel_rfl) (by kernel_rfl) (fun _ _ _ h => h) (Or.inl ⟨by rfl, ?_⟩) hHeld ?_; rotate_left 1; focus ((intro w hSw; (try dsimp only at hSw); first | (go_simp; done) | (go_simp; with_reducible rfl)); done); (try simp only [Act.put, List.setIfInBounds_toArray, List.set_cons_zero, List.set_cons_succ])))
        (first | (refine take_held (i := 9) (d := (some 19)) (v := ?_) rfl rfl (by kernel_rfl) (by kernel_rfl) (by kernel_rfl) (fun _ _ _ h => h) (Or.inl ⟨by rfl, ?_⟩) hHeld ?_; rotate_left 1; focus ((intro w hSw; (try dsimp only at hSw); first | (go_simp; done) | (go_simp; with_reducible rfl)); done); (try simp only [Act.put, List.setIfInBounds_toArray, List.set_cons_zero, List.set_cons_succ])))
        have fin_ := And.intro hHeld (And.intro hf (And.intro ht (And.intro hy (And.intro kM (And.intro kR (And.intro lgM (And.intro lgR (And.intro neM (True.intro)))))))))
        revert fin_
        generalize V1_40 = v_0, F3 = v_1, F4 = v_2, T3 = v_3, T4 = v_4, Y3 = v_5, Y4 = v_6, f3 = v_7, f4 = v_8, gM = v_9, gR = v_10, t3 = v_11, t4 = v_12, y3 = v_13, y4 = v_14
        revert v_0 v_1 v_2 v_3 v_4 v_5 v_6 v_7 v_8 v_9 v_10 v_11 v_12 v_13 v_14
        exact hmain.out
    focus
      go_simp
      obtain ⟨gR, hgR⟩ : ∃ g_, g_ = V1_0.heap.size := ⟨_, rfl⟩
      have kR := blk_new V1_0 (.cells #[.int .i64 0, .int .i64 0, .string ⟨#[]⟩, .slice none 0 0, .slice none 0 0] 25)
      have hb := below_alloc1 V1_0 (.cells #[.int .i64 0, .int .i64 0, .string ⟨#[]⟩, .slice none 0 0, .slice none 0 0] 25)
      have lgR : W3.heap.size ≤ gR := by have := (And.left hHeld).size; omega
      (try go_wp2_with fail)
      refine hK.out _ _ (and_of (fun hB_ => ⟨cell_up hB_ Xc0, cell_up hB_ Xc1, cell_up hB_ Xc2, cell_up hB_ Xc3, cell_up hB_ Xc4, cell_up hB_ Ic0, cell_up hB_ Ic1, cell_up hB_ Ic2, cell_up hB_ Ic3, cell_up hB_ Ic4⟩) (chain (And.left hHeld) hb)) ?_
      clear hHeld hK K
      intro hHeld
      (try simp only [Act.put, List.setIfInBounds_toArray, List.set_cons_zero, List.set_cons_succ])
      rw [← hgR] at kR ⊢
      clear hgR
      generalize V1_0.alloc (.cells #[.int .i64 0, .int .i64 0, .string ⟨#[]⟩, .slice none 0 0, .slice none 0 0] 25) = V1_41 at *
      clear hb
      refine wpAnyH_ready (rs := [1, 5]) (by kernel_rfl) (by simp) ?_
      refine AllReadyH.cons (o := _) rfl (fun K hK => ?_) (AllReadyH.cons (o := _) rfl (fun K hK => ?_) AllReadyH.nil)
      focus
        go_simp
        go_at_call 61
        refine (CYg.out _ gR).mono ?_
        rintro e_ V1_42 ⟨Y3, y3, Y4, y4, rfl, hy, hb⟩
        (try go_wp2_with fail)
        refine hK.out _ _ (and_of (fun hB_ => ⟨cell_up hB_ Xc0, cell_up hB_ Xc1, cell_up hB_ Xc2, cell_up hB_ Xc3, cell_up hB_ Xc4, cell_up hB_ Ic0, cell_up hB_ Ic1, cell_up hB_ Ic2, cell_up hB_ Ic3, cell_up hB_ Ic4⟩) (chain (And.left hHeld) hb)) ?_
        clear hHeld hK K
        intro hHeld
        (try simp only [Act.put, List.setIfInBounds_toArray, List.set_cons_zero, List.set_cons_succ])
        replace kR := blk_below kR hb
        clear hb
        refine wpAnyH_ready (rs := [2, 5]) (by kernel_rfl) (by simp) ?_
        refine AllReadyH.cons (o := _) rfl (fun K hK => ?_) (AllReadyH.cons (o := _) rfl (fun K hK => ?_) AllReadyH.nil)
        focus
          go_simp
          go_at_call 53
          refine (cFg (blk_lt kR) (hx.gg (And.left hHeld) lgR) hy).mono ?_
          rintro e_ V1_43 ⟨F3, f3, F4, f4, rfl, hf, hb⟩
          (try go_wp2_with fail)
          refine hK.out _ _ (and_of (fun hB_ => ⟨cell_up hB_ Xc0, cell_up hB_ Xc1, cell_up hB_ Xc2, cell_up hB_ Xc3, cell_up hB_ Xc4, cell_up hB_ Ic0, cell_up hB_ Ic1, cell_up hB_ Ic2, cell_up hB_ Ic3, cell_up hB_ Ic4⟩) (chain (And.left hHeld) hb)) ?_
          clear hHeld hK K
          intro hHeld
          (try simp only [Act.put, List.setIfInBounds_toArray, List.set_cons_zero, List.set_cons_succ])
          replace kR := blk_below kR hb
          replace hy := hy.below hb
          clear hb
          refine wpAnyH_ready (rs := [5]) (by kernel_rfl) (by simp) ?_
          refine AllReadyH.cons (o := _) rfl (fun K hK => ?_) AllReadyH.nil
          go_simp
          obtain ⟨gM, hgM⟩ : ∃ g_, g_ = V1_43.heap.size := ⟨_, rfl⟩
          have kM := blk_new V1_43 (.cells #[.string ⟨#[88]⟩, .int .i64 ti.f0, .int .i64 ti.f1, .string ti.f2, .slice I3 ti.f3.length i3, .slice I4 ti.f4.length i4] 43)
          have hb := below_alloc1 V1_43 (.cells #[.string ⟨#[88]⟩, .int .i64 ti.f0, .int .i64 ti.f1, .string ti.f2, .slice I3 ti.f3.length i3, .slice I4 ti.f4.length i4] 43)
          have lgM : W3.heap.size ≤ gM := by have := (And.left hHeld).size; omega
          (try go_wp2_with fail)
          refine hK.out _ _ (and_of (fun hB_ => ⟨cell_up hB_ Xc0, cell_up hB_ Xc1, cell_up hB_ Xc2, cell_up hB_ Xc3, cell_up hB_ Xc4, cell_up hB_ Ic0, cell_up hB_ Ic1, cell_up hB_ Ic2, cell_up hB_ Ic3, cell_up hB_ Ic4⟩) (chain (And.left hHeld) hb)) ?_
          clear hHeld hK K
          intro hHeld
          (try simp only [Act.put, List.setIfInBounds_toArray, List.set_cons_zero, List.set_cons_succ])
          have neM : gM ≠ gR := by have := blk_lt kR; omega
          rw [← hgM] at kM ⊢
          clear hgM
          replace kR := blk_below kR hb
          replace hy := hy.below hb
          replace hf := hf.below hb
          generalize V1_43.alloc (.cells #[.string ⟨#[88]⟩, .int .i64 ti.f0, .int .i64 ti.f1, .string ti.f2, .slice I3 ti.f3.length i3, .slice I4 ti.f4.length i4] 43) = V1_44 at *
          clear hb
          refine wpAnyH_ready (rs := [6]) (by kernel_rfl) (by simp) ?_
          refine AllReadyH.cons (o := _) rfl (fun K hK => ?_) AllReadyH.nil
          go_simp
          go_at_call 31
          refine (cPg (blk_lt kR) (bind_rowg ⟨#[88]⟩ ti kM (by assumption) (hi.gg (And.left hHeld) lgR)) hf).mono ?_
          rintro e_ V1_45 ⟨T3, t3, T4, t4, rfl, ht, hb⟩
          simp only [Option.getD_some, Option.isSome_some] at ht ⊢
          (try go_wp2_with fail)
          refine hK.out _ _ (and_of (fun hB_ => ⟨cell_up hB_ Xc0, cell_up hB_ Xc1, cell_up hB_ Xc2, cell_up hB_ Xc3, cell_up hB_ Xc4, cell_up hB_ Ic0, cell_up hB_ Ic1, cell_up hB_ Ic2, cell_up hB_ Ic3, cell_up hB_ Ic4⟩) (chain (And.left hHeld) hb)) ?_
          clear hHeld hK K
          intro hHeld
          (try simp only [Act.put, List.setIfInBounds_toArray, List.set_cons_zero, List.set_cons_succ])
          replace kR := blk_below kR hb
          replace hy := hy.below hb
          replace hf := hf.below hb
          replace kM := blk_below kM hb
          clear hb
          (first | (refine take_held (i := 7) (d := (some 10)) (v := ?_) rfl rfl (by kernel_rfl) (by kernel_rfl) (by kernel_rfl) (fun _ _ _ h => h) (Or.inl ⟨by rfl, ?_⟩) hHeld ?_; rotate_left 1; focus ((intro w hSw; (try dsimp only at hSw); first | (go_simp; done) | (go_simp; with_reducible rfl)); done); (try simp only [Act.put, List.setIfInBounds_toArray, List.set_cons_zero, List.set_cons_succ])))
          (first | (refine take_held (i := 8) (d := (some 18)) (v := ?_) rfl rfl (by kernel_rfl) (by kernel_rfl) (by kernel_rfl) (fun _ _ _ h => h) (Or.inl ⟨by rfl, ?_⟩) hHeld ?_; rotate_left 1; focus ((intro w hSw; (try dsimp only at hSw); first | (go_simp; done) | (go_simp; with_reducible rfl)); done); (try simp only [Act.put, List.setIfInBounds_toArray, List.set_cons_zero, List.set_cons_succ])))
          (first | (refine take_held (i := 9) (d := (some 19)) (v := ?_) rfl rfl (by kernel_rfl) (by kernel_rfl) (by kernel_rfl) (fun _ _ _ h => h) (Or.inl ⟨by rfl, ?_⟩) hHeld ?_; rotate_left 1; focus ((intro w hSw; (try dsimp only at hSw); first | (go_simp; done) | (go_simp; with_reducible rfl)); done); (try simp only [Act.put, List.setIfInBounds_toArray, List.set_cons_zero, List.set_cons_succ])))
          have fin_ := And.intro hHeld (And.intro hf (And.intro ht (And.intro hy (And.intro kM (And.intro kR (And.intro lgM (And.intro lgR (And.intro neM (True.intro)))))))))
          revert fin_
          generalize V1_45 = v_0, F3 = v_1, F4 = v_2, T3 = v_3, T4 = v_4, Y3 = v_5, Y4 = v_6, f3 = v_7, f4 = v_8, gM = v_9, gR = v_10, t3 = v_11, t4 = v_12, y3 = v_13, y4 = v_14
          revert v_0 v_1 v_2 v_3 v_4 v_5 v_6 v_7 v_8 v_9 v_10 v_11 v_12 v_13 v_14
          exact hmain.out
        focus
          go_simp
          obtain ⟨gM, hgM⟩ : ∃ g_, g_ = V1_42.heap.size := ⟨_, rfl⟩
          have kM := blk_new V1_42 (.cells #[.string ⟨#[88]⟩, .int .i64 ti.f0, .int .i64 ti.f1, .string ti.f2, .slice I3 ti.f3.length i3, .slice I4 ti.f4.length i4] 43)
          have hb := below_alloc1 V1_42 (.cells #[.string ⟨#[88]⟩, .int .i64 ti.f0, .int .i64 ti.f1, .string ti.f2, .slice I3 ti.f3.length i3, .slice I4 ti.f4.length i4] 43)
          have lgM : W3.heap.size ≤ gM := by have := (And.left hHeld).size; omega
          (try go_wp2_with fail)
          refine hK.out _ _ (and_of (fun hB_ => ⟨cell_up hB_ Xc0, cell_up hB_ Xc1, cell_up hB_ Xc2, cell_up hB_ Xc3, cell_up hB_ Xc4, cell_up hB_ Ic0, cell_up hB_ Ic1, cell_up hB_ Ic2, cell_up hB_ Ic3, cell_up hB_ Ic4⟩) (chain (And.left hHeld) hb)) ?_
          clear hHeld hK K
          intro hHeld
          (try simp only [Act.put, List.setIfInBounds_toArray, List.set_cons_zero, List.set_cons_succ])
          have neM : gM ≠ gR := by have := blk_lt kR; omega
          rw [← hgM] at kM ⊢
          clear hgM
          replace kR := blk_below kR hb
          replace hy := hy.below hb
          generalize V1_42.alloc (.cells #[.string ⟨#[88]⟩, .int .i64 ti.f0, .int .i64 ti.f1, .string ti.f2, .slice I3 ti.f3.length i3, .slice I4 ti.f4.length i4] 43) = V1_46 at *
          clear hb
          refine wpAnyH_ready (rs := [2]) (by kernel_rfl) (by simp) ?_
          refine AllReadyH.cons (o := _) rfl (fun K hK => ?_) AllReadyH.nil
          go_simp
          go_at_call 53
          refine (cFg (blk_lt kR) (hx.gg (And.left hHeld) lgR) hy).mono ?_
          rintro e_ V1_47 ⟨F3, f3, F4, f4, rfl, hf, hb⟩
          (try go_wp2_with fail)
          refine hK.out _ _ (and_of (fun hB_ => ⟨cell_up hB_ Xc0, cell_up hB_ Xc1, cell_up hB_ Xc2, cell_up hB_ Xc3, cell_up hB_ Xc4, cell_up hB_ Ic0, cell_up hB_ Ic1, cell_up hB_ Ic2, cell_up hB_ Ic3, cell_up hB_ Ic4⟩) (chain (And.left hHeld) hb)) ?_
          clear hHeld hK K
          intro hHeld
          (try simp only [Act.put, List.setIfInBounds_toArray, List.set_cons_zero, List.set_cons_succ])
          replace kR := blk_below kR hb
          replace hy := hy.below hb
          replace kM := blk_below kM hb
          clear hb
          refine wpAnyH_ready (rs := [6]) (by kernel_rfl) (by simp) ?_
          refine AllReadyH.cons (o := _) rfl (fun K hK => ?_) AllReadyH.nil
          go_simp
          go_at_call 31
          refine (cPg (blk_lt kR) (bind_rowg ⟨#[88]⟩ ti kM (by assumption) (hi.gg (And.left hHeld) lgR)) hf).mono ?_
          rintro e_ V1_48 ⟨T3, t3, T4, t4, rfl, ht, hb⟩
          simp only [Option.getD_some, Option.isSome_some] at ht ⊢
          (try go_wp2_with fail)
          refine hK.out _ _ (and_of (fun hB_ => ⟨cell_up hB_ Xc0, cell_up hB_ Xc1, cell_up hB_ Xc2, cell_up hB_ Xc3, cell_up hB_ Xc4, cell_up hB_ Ic0, cell_up hB_ Ic1, cell_up hB_ Ic2, cell_up hB_ Ic3, cell_up hB_ Ic4⟩) (chain (And.left hHeld) hb)) ?_
          clear hHeld hK K
          intro hHeld
          (try simp only [Act.put, List.setIfInBounds_toArray, List.set_cons_zero, List.set_cons_succ])
          replace kR := blk_below kR hb
          replace hy := hy.below hb
          replace kM := blk_below kM hb
          replace hf := hf.below hb
          clear hb
          (first | (refine take_held (i := 7) (d := (some 10)) (v := ?_) rfl rfl (by kernel_rfl) (by kernel_rfl) (by kernel_rfl) (fun _ _ _ h => h) (Or.inl ⟨by rfl, ?_⟩) hHeld ?_; rotate_left 1; focus ((intro w hSw; (try dsimp only at hSw); first | (go_simp; done) | (go_simp; with_reducible rfl)); done); (try simp only [Act.put, List.setIfInBounds_toArray, List.set_cons_zero, List.set_cons_succ])))
          (first | (refine take_held (i := 8) (d := (some 18)) (v := ?_) rfl rfl (by kernel_rfl) (by kernel_rfl) (by kernel_rfl) (fun _ _ _ h => h) (Or.inl ⟨by rfl, ?_⟩) hHeld ?_; rotate_left 1; focus ((intro w hSw; (try dsimp only at hSw); first | (go_simp; done) | (go_simp; with_reducible rfl)); done); (try simp only [Act.put, List.setIfInBounds_toArray, List.set_cons_zero, List.set_cons_succ])))
          (first | (refine take_held (i := 9) (d := (some 19)) (v := ?_) rfl rfl (by kernel_rfl) (by kernel_rfl) (by kernel_rfl) (fun _ _ _ h => h) (Or.inl ⟨by rfl, ?_⟩) hHeld ?_; rotate_left 1; focus ((intro w hSw; (try dsimp only at hSw); first | (go_simp; done) | (go_simp; with_reducible rfl)); done); (try simp only [Act.put, List.setIfInBounds_toArray, List.set_cons_zero, List.set_cons_succ])))
          have fin_ := And.intro hHeld (And.intro hf (And.intro ht (And.intro hy (And.intro kM (And.intro kR (And.intro lgM (And.intro lgR (And.intro neM (True.intro)))))))))
          revert fin_
          generalize V1_48 = v_0, F3 = v_1, F4 = v_2, T3 = v_3, T4 = v_4, Y3 = v_5, Y4 = v_6, f3 = v_7, f4 = v_8, gM = v_9, gR = v_10, t3 = v_11, t4 = v_12, y3 = v_13, y4 = v_14
          revert v_0 v_1 v_2 v_3 v_4 v_5 v_6 v_7 v_8 v_9 v_10 v_11 v_12 v_13 v_14
          exact hmain.out
      focus
        go_simp
        obtain ⟨gM, hgM⟩ : ∃ g_, g_ = V1_41.heap.size := ⟨_, rfl⟩
        have kM := blk_new V1_41 (.cells #[.string ⟨#[88]⟩, .int .i64 ti.f0, .int .i64 ti.f1, .string ti.f2, .slice I3 ti.f3.length i3, .slice I4 ti.f4.length i4] 43)
        have hb := below_alloc1 V1_41 (.cells #[.string ⟨#[88]⟩, .int .i64 ti.f0, .int .i64 ti.f1, .string ti.f2, .slice I3 ti.f3.length i3, .slice I4 ti.f4.length i4] 43)
        have lgM : W3.heap.size ≤ gM := by have := (And.left hHeld).size; omega
        (try go_wp2_with fail)
        refine hK.out _ _ (and_of (fun hB_ => ⟨cell_up hB_ Xc0, cell_up hB_ Xc1, cell_up hB_ Xc2, cell_up hB_ Xc3, cell_up hB_ Xc4, cell_up hB_ Ic0, cell_up hB_ Ic1, cell_up hB_ Ic2, cell_up hB_ Ic3, cell_up hB_ Ic4⟩) (chain (And.left hHeld) hb)) ?_
        clear hHeld hK K
        intro hHeld
        (try simp only [Act.put, List.setIfInBounds_toArray, List.set_cons_zero, List.set_cons_succ])
        have neM : gM ≠ gR := by have := blk_lt kR; omega
        rw [← hgM] at kM ⊢
        clear hgM
        replace kR := blk_below kR hb
        generalize V1_41.alloc (.cells #[.string ⟨#[88]⟩, .int .i64 ti.f0, .int .i64 ti.f1, .string ti.f2, .slice I3 ti.f3.length i3, .slice I4 ti.f4.length i4] 43) = V1_49 at *
        clear hb
        refine wpAnyH_ready (rs := [1]) (by kernel_rfl) (by simp) ?_
        refine AllReadyH.cons (o := _) rfl (fun K hK => ?_) AllReadyH.nil
        go_simp
        go_at_call 61
        refine (CYg.out _ gR).mono ?_
        rintro e_ V1_50 ⟨Y3, y3, Y4, y4, rfl, hy, hb⟩
        (try go_wp2_with fail)
        refine hK.out _ _ (and_of (fun hB_ => ⟨cell_up hB_ Xc0, cell_up hB_ Xc1, cell_up hB_ Xc2, cell_up hB_ Xc3, cell_up hB_ Xc4, cell_up hB_ Ic0, cell_up hB_ Ic1, cell_up hB_ Ic2, cell_up hB_ Ic3, cell_up hB_ Ic4⟩) (chain (And.left hHeld) hb)) ?_
        clear hHeld hK K
        intro hHeld
        (try simp only [Act.put, List.setIfInBounds_toArray, List.set_cons_zero, List.set_cons_succ])
        replace kR := blk_below kR hb
        replace kM := blk_below kM hb
        clear hb
        refine wpAnyH_ready (rs := [2]) (by kernel_rfl) (by simp) ?_
        refine AllReadyH.cons (o := _) rfl (fun K hK => ?_) AllReadyH.nil
        go_simp
        go_at_call 53
        refine (cFg (blk_lt kR) (hx.gg (And.left hHeld) lgR) hy).mono ?_
        rintro e_ V1_51 ⟨F3, f3, F4, f4, rfl, hf, hb⟩
        (try go_wp2_with fail)
        refine hK.out _ _ (and_of (fun hB_ => ⟨cell_up hB_ Xc0, cell_up hB_ Xc1, cell_up hB_ Xc2, cell_up hB_ Xc3, cell_up hB_ Xc4, cell_up hB_ Ic0, cell_up hB_ Ic1, cell_up hB_ Ic2, cell_up hB_ Ic3, cell_up hB_ Ic4⟩) (chain (And.left hHeld) hb)) ?_
        clear hHeld hK K
        intro hHeld
        (try simp only [Act.put, List.setIfInBounds_toArray, List.set_cons_zero, List.set_cons_succ])
        replace kR := blk_below kR hb
        replace kM := blk_below kM hb
        replace hy := hy.below hb
        clear hb
        refine wpAnyH_ready (rs := [6]) (by kernel_rfl) (by simp) ?_
        refine AllReadyH.cons (o := _) rfl (fun K hK => ?_) AllReadyH.nil
        go_simp
        go_at_call 31
        refine (cPg (blk_lt kR) (bind_rowg ⟨#[88]⟩ ti kM (by assumption) (hi.gg (And.left hHeld) lgR)) hf).mono ?_
        rintro e_ V1_52 ⟨T3, t3, T4, t4, rfl, ht, hb⟩
        simp only [Option.getD_some, Option.isSome_some] at ht ⊢
        (try go_wp2_with fail)
        refine hK.out _ _ (and_of (fun hB_ => ⟨cell_up hB_ Xc0, cell_up hB_ Xc1, cell_up hB_ Xc2, cell_up hB_ Xc3, cell_up hB_ Xc4, cell_up hB_ Ic0, cell_up hB_ Ic1, cell_up hB_ Ic2, cell_up hB_ Ic3, cell_up hB_ Ic4⟩) (chain (And.left hHeld) hb)) ?_
        clear hHeld hK K
        intro hHeld
        (try simp only [Act.put, List.setIfInBounds_toArray, List.set_cons_zero, List.set_cons_succ])
        replace kR := blk_below kR hb
        replace kM := blk_below kM hb
        replace hy := hy.below hb
        replace hf := hf.below hb
        clear hb
        (first | (refine take_held (i := 7) (d := (some 10)) (v := ?_) rfl rfl (by kernel_rfl) (by kernel_rfl) (by kernel_rfl) (fun _ _ _ h => h) (Or.inl ⟨by rfl, ?_⟩) hHeld ?_; rotate_left 1; focus ((intro w hSw; (try dsimp only at hSw); first | (go_simp; done) | (go_simp; with_reducible rfl)); done); (try simp only [Act.put, List.setIfInBounds_toArray, List.set_cons_zero, List.set_cons_succ])))
        (first | (refine take_held (i := 8) (d := (some 18)) (v := ?_) rfl rfl (by kernel_rfl) (by kernel_rfl) (by kernel_rfl) (fun _ _ _ h => h) (Or.inl ⟨by rfl, ?_⟩) hHeld ?_; rotate_left 1; focus ((intro w hSw; (try dsimp only at hSw); first | (go_simp; done) | (go_simp; with_reducible rfl)); done); (try simp only [Act.put, List.setIfInBounds_toArray, List.set_cons_zero, List.set_cons_succ])))
        (first | (refine take_held (i := 9) (d := (some 19)) (v := ?_) rfl rfl (by kernel_rfl) (by kernel_rfl) (by kernel_rfl) (fun _ _ _ h => h) (Or.inl ⟨by rfl, ?_⟩) hHeld ?_; rotate_left 1; focus ((intro w hSw; (try dsimp only at hSw); first | (go_simp; done) | (go_simp; with_reducible rfl)); done); (try simp only [Act.put, List.setIfInBounds_toArray, List.set_cons_zero, List.set_cons_succ])))
        have fin_ := And.intro hHeld (And.intro hf (And.intro ht (And.intro hy (And.intro kM (And.intro kR (And.intro lgM (And.intro lgR (And.intro neM (True.intro)))))))))
        revert fin_
        generalize V1_52 = v_0, F3 = v_1, F4 = v_2, T3 = v_3, T4 = v_4, Y3 = v_5, Y4 = v_6, f3 = v_7, f4 = v_8, gM = v_9, gR = v_10, t3 = v_11, t4 = v_12, y3 = v_13, y4 = v_14
        revert v_0 v_1 v_2 v_3 v_4 v_5 v_6 v_7 v_8 v_9 v_10 v_11 v_12 v_13 v_14
        exact hmain.out
  case cont1 =>
    intro V1 F3 F4 T3 T4 Y3 Y4 f3 f4 gM gR t3 t4 y3 y4 fin_
    obtain ⟨hHeld, hf, ht, hy, kM, kR, lgM, lgR, neM, _⟩ := fin_
    have bx_ := five kR
    obtain ⟨⟨x0_, x1_, x2_, x3_, x4_⟩, ⟨y0_, y1_, y2_, y3_, y4_⟩, z_⟩ := bx_
    refine wpAnyH_ready (rs := [11]) (by kernel_rfl) (by simp) ?_
    refine AllReadyH.cons (o := _) rfl (fun K hK => ?_) AllReadyH.nil
    go_simp
    (try go_wp2_with fail)
    refine hK.out _ _ (and_of (fun hB_ => ⟨cell_up hB_ Xc0, cell_up hB_ Xc1, cell_up hB_ Xc2, cell_up hB_ Xc3, cell_up hB_ Xc4, cell_up hB_ Ic0, cell_up hB_ Ic1, cell_up hB_ Ic2, cell_up hB_ Ic3, cell_up hB_ Ic4⟩) (below_stored (And.left hHeld) lgR _ _ _ _ _)) ?_
    clear hHeld hK K x0_ x1_ x2_ x3_ x4_ y0_ y1_ y2_ y3_ y4_ z_
    intro hHeld
    (try simp only [Act.put, List.setIfInBounds_toArray, List.set_cons_zero, List.set_cons_succ])
    replace kR := stored kR (.int .i64 t.f0) (.int .i64 t.f1) (.string t.f2) (.slice T3 t.f3.length t3) (.slice T4 t.f4.length t4)
    replace hf := hf.stored (.int .i64 t.f0) (.int .i64 t.f1) (.string t.f2) (.slice T3 t.f3.length t3) (.slice T4 t.f4.length t4)
    replace ht := ht.stored (.int .i64 t.f0) (.int .i64 t.f1) (.string t.f2) (.slice T3 t.f3.length t3) (.slice T4 t.f4.length t4)
    replace hy := hy.stored (.int .i64 t.f0) (.int .i64 t.f1) (.string t.f2) (.slice T3 t.f3.length t3) (.slice T4 t.f4.length t4)
    generalize World.setCell (World.setCell (World.setCell (World.setCell (World.setCell V1 _ _) _ _) _ _) _ _) _ _ = V1_53 at hHeld kR hf ht hy ⊢
    (first | (refine take_held (i := 12) (d := (some 4)) (v := ?_) rfl rfl (by kernel_rfl) (by kernel_rfl) (by kernel_rfl) (fun _ _ _ h => h) (Or.inl ⟨by rfl, ?_⟩) hHeld ?_; rotate_left 1; focus ((intro w hSw; (try dsimp only at hSw); first | (go_simp; done) | (go_simp; with_reducible rfl)); done); (try simp only [Act.put, List.setIfInBounds_toArray, List.set_cons_zero, List.set_cons_succ])))
    refine wpAnyH_done (by kernel_rfl) ?_ _
    have bW_ := And.left hHeld
    clear hHeld
    clear Xc0 Xc1 Xc2 Xc3 Xc4 Xf0 Xf1 Xf2 Xf3 Xf4 Xl Ic0 Ic1 Ic2 Ic3 Ic4 If0 If1 If2 If3 If4 Il
    have b_5 := chain b_4 bW_
    replace kX := blk_below kX bW_
    replace kI := blk_below kI bW_
    replace hx := hx.below bW_
    replace hi := hi.below bW_
    clear b_4
    clear bW_
    replace ht := RTg.rt ht
    obtain ⟨⟨Xc0, Xc1, Xc2, Xc3, Xc4⟩, ⟨Xf0, Xf1, Xf2, Xf3, Xf4⟩, Xl⟩ := five kX
    obtain ⟨⟨Ic0, Ic1, Ic2, Ic3, Ic4⟩, ⟨If0, If1, If2, If3, If4⟩, Il⟩ := five kI
    obtain ⟨⟨Rc0, Rc1, Rc2, Rc3, Rc4⟩, ⟨Rf0, Rf1, Rf2, Rf3, Rf4⟩, Rl⟩ := five kR
    go_wp2_with fail
    have kN := blk_new V1_53 (.cells #[.string ⟨#[90]⟩, .string ⟨#[88]⟩] 9)
    have hb := below_alloc1 V1_53 (.cells #[.string ⟨#[90]⟩, .string ⟨#[88]⟩] 9)
    clear Xc0 Xc1 Xc2 Xc3 Xc4 Xf0 Xf1 Xf2 Xf3 Xf4 Xl Ic0 Ic1 Ic2 Ic3 Ic4 If0 If1 If2 If3 If4 Il Rc0 Rc1 Rc2 Rc3 Rc4 Rf0 Rf1 Rf2 Rf3 Rf4 Rl
    have b_6 := chain b_5 hb
    replace kX := blk_below kX hb
    replace kI := blk_below kI hb
    replace kR := blk_below kR hb
    replace hx := hx.below hb
    replace hi := hi.below hb
    replace ht := ht.below hb
    clear b_5
    clear hb
    refine (cS (name_row _ _ kN) hx).mono ?_
    rintro e_ w5 ⟨S3, s3, S4, s4, rfl, hs, hb⟩
    have b_7 := chain b_6 hb
    replace kX := blk_below kX hb
    replace kI := blk_below kI hb
    replace kR := blk_below kR hb
    replace hx := hx.below hb
    replace hi := hi.below hb
    replace ht := ht.below hb
    clear b_6
    clear hb kN
    have kS := blk_new w5 (.cells #[.int .i64 sl.f0, .int .i64 sl.f1, .string sl.f2, .slice S3 sl.f3.length s3, .slice S4 sl.f4.length s4] 25)
    have hb := below_alloc1 w5 (.cells #[.int .i64 sl.f0, .int .i64 sl.f1, .string sl.f2, .slice S3 sl.f3.length s3, .slice S4 sl.f4.length s4] 25)
    have b_8 := chain b_7 hb
    replace kX := blk_below kX hb
    replace kI := blk_below kI hb
    replace kR := blk_below kR hb
    replace hx := hx.below hb
    replace hi := hi.below hb
    replace ht := ht.below hb
    replace hs := hs.below hb
    clear b_7
    clear hb
    obtain ⟨⟨Xc0, Xc1, Xc2, Xc3, Xc4⟩, ⟨Xf0, Xf1, Xf2, Xf3, Xf4⟩, Xl⟩ := five kX
    obtain ⟨⟨Ic0, Ic1, Ic2, Ic3, Ic4⟩, ⟨If0, If1, If2, If3, If4⟩, Il⟩ := five kI
    obtain ⟨⟨Rc0, Rc1, Rc2, Rc3, Rc4⟩, ⟨Rf0, Rf1, Rf2, Rf3, Rf4⟩, Rl⟩ := five kR
    obtain ⟨⟨Sc0, Sc1, Sc2, Sc3, Sc4⟩, ⟨Sf0, Sf1, Sf2, Sf3, Sf4⟩, Sl⟩ := five kS
    go_wp2_with fail
    have kL := blk_new (w5.alloc (.cells #[.int .i64 sl.f0, .int .i64 sl.f1, .string sl.f2, .slice S3 sl.f3.length s3, .slice S4 sl.f4.length s4] 25)) (.cells #[.int .i64 x.f0, .int .i64 x.f1, .string x.f2, .slice X3 x.f3.length x3, .slice X4 x.f4.length x4, .int .i64 ti.f0, .int .i64 ti.f1, .string ti.f2, .slice I3 ti.f3.length i3, .slice I4 ti.f4.length i4] 25)
    rw [World.size_alloc] at kL
    have hb := below_alloc1 (w5.alloc (.cells #[.int .i64 sl.f0, .int .i64 sl.f1, .string sl.f2, .slice S3 sl.f3.length s3, .slice S4 sl.f4.length s4] 25)) (.cells #[.int .i64 x.f0, .int .i64 x.f1, .string x.f2, .slice X3 x.f3.length x3, .slice X4 x.f4.length x4, .int .i64 ti.f0, .int .i64 ti.f1, .string ti.f2, .slice I3 ti.f3.length i3, .slice I4 ti.f4.length i4] 25)
    clear Xc0 Xc1 Xc2 Xc3 Xc4 Xf0 Xf1 Xf2 Xf3 Xf4 Xl Ic0 Ic1 Ic2 Ic3 Ic4 If0 If1 If2 If3 If4 Il Rc0 Rc1 Rc2 Rc3 Rc4 Rf0 Rf1 Rf2 Rf3 Rf4 Rl Sc0 Sc1 Sc2 Sc3 Sc4 Sf0 Sf1 Sf2 Sf3 Sf4 Sl
    have b_9 := chain b_8 hb
    replace kX := blk_below kX hb
    replace kI := blk_below kI hb
    replace kR := blk_below kR hb
    replace kS := blk_below kS hb
    replace hx := hx.below hb
    replace hi := hi.below hb
    replace ht := ht.below hb
    replace hs := hs.below hb
    clear b_8
    clear hb
    refine (cO (ty_row x ti kL hx hi) hs).mono ?_
    rintro e_ w6 ⟨U3, u3, U4, u4, rfl, hu, hb⟩
    simp only [Option.getD_some, Option.isSome_some] at hu ⊢
    have b_10 := chain b_9 hb
    replace kX := blk_below kX hb
    replace kI := blk_below kI hb
    replace kR := blk_below kR hb
    replace kS := blk_below kS hb
    replace hx := hx.below hb
    replace hi := hi.below hb
    replace ht := ht.below hb
    replace hs := hs.below hb
    clear b_9
    clear hb kL
    have kU := blk_new w6 (.cells #[.int .i64 ti.f0, .int .i64 ti.f1, .string ti.f2, .slice U3 ti.f3.length u3, .slice U4 ti.f4.length u4] 25)
    have hb := below_alloc1 w6 (.cells #[.int .i64 ti.f0, .int .i64 ti.f1, .string ti.f2, .slice U3 ti.f3.length u3, .slice U4 ti.f4.length u4] 25)
    have b_11 := chain b_10 hb
    replace kX := blk_below kX hb
    replace kI := blk_below kI hb
    replace kR := blk_below kR hb
    replace kS := blk_below kS hb
    replace hx := hx.below hb
    replace hi := hi.below hb
    replace ht := ht.below hb
    replace hs := hs.below hb
    clear b_10
    clear hb
    have l0 : 0 < t.f4.length := by rw [HT.out]; simp
    have l1 : 1 < t.f4.length := by rw [HT.out]; simp
    have L0 : (0 : Int) < (t.f4.length : Int) := by omega
    have L1 : (1 : Int) < (t.f4.length : Int) := by omega
    obtain ⟨ad, P3, p3, P4, p4, hA, _, e0, _⟩ := telt ht.2.2.2 0 l0
    obtain ⟨ad', Q3, q3, Q4, q4, hA', _, e1, _⟩ := telt ht.2.2.2 1 l1
    subst hA
    obtain rfl := Option.some.inj hA'
    have v0 : t.f4[0].f0 = 1 := by simp only [HT.out, List.getElem_cons_zero]; exact HP.out
    have v1 : t.f4[1].f0 = 6 := by simp only [HT.out, List.getElem_cons_succ, List.getElem_cons_zero]; exact HQ.out
    rw [v0] at e0
    rw [v1] at e1
    rw [show ad.add (0 * 5) = ad from rfl] at e0
    rw [show ad.add (1 * 5) = (⟨ad.block, ad.off + 5, none⟩ : Addr) from rfl] at e1
    clear v0 v1 HT HP HQ hA'
    obtain ⟨⟨Xc0, Xc1, Xc2, Xc3, Xc4⟩, ⟨Xf0, Xf1, Xf2, Xf3, Xf4⟩, Xl⟩ := five kX
    obtain ⟨⟨Ic0, Ic1, Ic2, Ic3, Ic4⟩, ⟨If0, If1, If2, If3, If4⟩, Il⟩ := five kI
    obtain ⟨⟨Rc0, Rc1, Rc2, Rc3, Rc4⟩, ⟨Rf0, Rf1, Rf2, Rf3, Rf4⟩, Rl⟩ := five kR
    obtain ⟨⟨Sc0, Sc1, Sc2, Sc3, Sc4⟩, ⟨Sf0, Sf1, Sf2, Sf3, Sf4⟩, Sl⟩ := five kS
    obtain ⟨⟨Uc0, Uc1, Uc2, Uc3, Uc4⟩, ⟨Uf0, Uf1, Uf2, Uf3, Uf4⟩, Ul⟩ := five kU
    replace Uc0 := Uc0.trans (congrArg (fun z => some (Value.int .i64 z)) HI.out)
    replace Sc1 := Sc1.trans (congrArg (fun z => some (Value.int .i64 z)) HS.out)
    clear HS HI
    go_wp2
    go_ret
    exact ⟨rfl, b_11⟩
end Go.Proofs.Ytnfnhjhnfdkinaa.PSubstPuts
