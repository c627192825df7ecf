/-
  ConvKeeps: texts of this claim, put together by a program of this session. No conditions beyond what each lemma says.
-/
import Derived.Test.YtnfnhjhnfdkinaazConvKeeps48
namespace Go.Proofs.Ytnfnhjhnfdkinaa.PConvBack
open Go.RowKit Go.Proofs.YtnfnhjhnfdkinaaW.Mine Go.Proofs.YtnfnhjhnfdkinaaW.PrintWords Go.Proofs.YtnfnhjhnfdkinaaW.PrintLast Go.Proofs.YtnfnhjhnfdkinaaW.PrintMore
set_option linter.unusedVariables false
set_option linter.unusedSimpArgs false
def RL (w : World) (A : Option Addr) (c : Nat) (l : List Ty) : Prop := kTy.C w A l.length l ∧ l.length ≤ c
theorem RL.below {w w1 : World} {A : Option Addr} {c : Nat} {l : List Ty} (h : RL w A c l) (hb : Below w.heap.size w w1) : RL w1 A c l := ⟨Kd.C_below h.1 hb, h.2⟩
theorem lfew_c {l : List Se} (o : Oks l) : ∃ r : Int, ∀ {A : Option Addr} {c : Nat} {w : World}, RS w A c l →
    Calls Try.prog 37 #[.slice A l.length c] w fun e w' => e = .returned (.int .i64 r) ∧ Below w.heap.size w w' := by
  obtain ⟨r, hr, _⟩ := few_told l o
  obtain ⟨k, hk⟩ := hr.rounds
  exact ⟨r, fun h => (limbecklaw28_Few.calls k _ _ l r _ h.1 h.2 hk).mono fun e w' k => k⟩
theorem lmuchv_c {x : Vl} (o : Okv x) : ∃ r : Int, ∀ {A6 A7 A8 : Option Addr} {c6 c7 c8 : Nat} {w : World}, RV w x A6 c6 A7 c7 A8 c8 →
    Calls Try.prog 38 #[vv x A6 c6 A7 c7 A8 c8] w fun e w' => e = .returned (.int .i64 r) ∧ Below w.heap.size w w' := by
  obtain ⟨k, r, hk⟩ := toldV o
  exact ⟨r, fun h => much_c hk h⟩
theorem lmuch_c {x : Ty} (o : Okt x) : ∃ r : Int, ∀ {A3 A4 : Option Addr} {c3 c4 : Nat} {w : World}, RT w x A3 c3 A4 c4 →
    Calls Try.prog 14 #[tv x A3 c3 A4 c4] w fun e w' => e = .returned (.int .i64 r) ∧ Below w.heap.size w w' := by
  obtain ⟨k, r, hk⟩ := told o
  exact ⟨r, fun h => (limbecklaw04_Much.calls k x.f0 x.f1 x.f2 _ _ x.f3 _ _ x.f4 r _ h.2.1 h.1 h.2.2.2 h.2.2.1 hk).mono fun e w' k => k⟩
theorem lreps_c {l : List Se} (o : Oks l) (a : Nat) (ha : a ≤ l.length) {A : Option Addr} {c : Nat} {w : World} (h : RS w A c l) :
    Calls Try.prog 42 #[.slice A l.length c, .int .i64 a] w fun e w' => ∃ B d, e = .returned (.slice B (repsL l a).length d) ∧ RL w' B d (repsL l a) ∧ Below w.heap.size w w' := by
  obtain ⟨k, hk⟩ := reps_told l o.len a ha
  refine (limbecklaw31_reps.calls k (fun k => k < w.heap.size) A c l a _ w (Kd.V_mk h.2 (Kd.C_F heapSe h.1)) hk).mono ?_
  rintro e w' ⟨v, rfl, hN, hb⟩
  obtain ⟨B, d, rfl⟩ := Kd.N_slice hN
  exact ⟨B, d, rfl, ⟨(Kd.N_reads' hN).2.2, (Kd.N_reads' hN).2.1⟩, hb⟩
/-- A type comes, and a truth. -/
def OpOut (w : World) (u : Ty) (b : Bool) (e : Ending) (w' : World) : Prop := ∃ A3 c3 A4 c4, e = .returned (.tuple #[tv u A3 c3 A4 c4, .bool b]) ∧ RT w' u A3 c3 A4 c4 ∧ Below w.heap.size w w'
theorem repsL_okt {l : List Se} (o : Oks l) (a : Nat) : ∀ y, y ∈ repsL l a → Okt y := fun y hy => by
  unfold repsL at hy
  obtain ⟨s, hs, rfl⟩ := List.mem_map.1 hy
  exact o.rep s (List.mem_of_mem_drop hs)
/-! ### told apart from a block g -/
def RTg (w : World) (g : Nat) (x : Ty) (A3 : Option Addr) (c3 : Nat) (A4 : Option Addr) (c4 : Nat) : Prop := FT w (fun k => k ≠ g) x A3 c3 A4 c4
def RSg (w : World) (g : Nat) (A : Option Addr) (c : Nat) (l : List Se) : Prop := Kd.F kSe w (fun k => k ≠ g) A l.length l ∧ l.length ≤ c
def RLg (w : World) (g : Nat) (A : Option Addr) (c : Nat) (l : List Ty) : Prop := Kd.F kTy w (fun k => k ≠ g) A l.length l ∧ l.length ≤ c
section
variable {w w1 : World} {g : Nat} {A A3 A4 : Option Addr} {c c3 c4 : Nat} {x : Ty}
theorem RTg.below (h : RTg w g x A3 c3 A4 c4) (hb : Below w.heap.size w w1) : RTg w1 g x A3 c3 A4 c4 := FT.below h hb
theorem RSg.below {l : List Se} (h : RSg w g A c l) (hb : Below w.heap.size w w1) : RSg w1 g A c l := ⟨Kd.F_below h.1 hb, h.2⟩
theorem RLg.below {l : List Ty} (h : RLg w g A c l) (hb : Below w.heap.size w w1) : RLg w1 g A c l := ⟨Kd.F_below h.1 hb, h.2⟩
theorem RT.ag (h : RT w x A3 c3 A4 c4) : RTg w w.heap.size x A3 c3 A4 c4 := FT.mono h.ft (fun k hk => Nat.ne_of_lt hk)
theorem RL.ag {l : List Ty} (h : RL w A c l) : RLg w w.heap.size A c l := ⟨Kd.F_mono (Kd.C_F heapTy h.1) (fun k hk => Nat.ne_of_lt hk), h.2⟩
theorem RT.gg (h : RT w x A3 c3 A4 c4) (hb : Below w.heap.size w w1) (hg : w.heap.size ≤ g) : RTg w1 g x A3 c3 A4 c4 := (h.ft.mono (fun k hk => by omega)).below hb
theorem RS.gg {l : List Se} (h : RS w A c l) (hb : Below w.heap.size w w1) (hg : w.heap.size ≤ g) : RSg w1 g A c l := ⟨Kd.F_below (Kd.F_mono (Kd.C_F heapSe h.1) (fun k hk => by omega)) hb, h.2⟩
theorem RTg.rt (h : RTg w g x A3 c3 A4 c4) : RT w x A3 c3 A4 c4 := FT.rt h
theorem RTg.stored (h : RTg w g x A3 c3 A4 c4) (v0 v1 v2 v3 v4 : Value) : RTg (((((w.setCell ⟨g, 0, none⟩ v0).setCell ⟨g, 1, none⟩ v1).setCell ⟨g, 2, none⟩ v2).setCell ⟨g, 3, none⟩ v3).setCell ⟨g, 4, none⟩ v4) g x A3 c3 A4 c4 := FT.stored h (fun _ hk => hk) v0 v1 v2 v3 v4
theorem RLg.stored {l : List Ty} (h : RLg w g A c l) (v0 v1 v2 v3 v4 : Value) : RLg (((((w.setCell ⟨g, 0, none⟩ v0).setCell ⟨g, 1, none⟩ v1).setCell ⟨g, 2, none⟩ v2).setCell ⟨g, 3, none⟩ v3).setCell ⟨g, 4, none⟩ v4) g A c l :=
  ⟨Kd.F_far (Kd.F_far (Kd.F_far (Kd.F_far (Kd.F_far h.1 (p := ⟨g, 0, none⟩) (fun _ hk => hk) v0) (p := ⟨g, 1, none⟩) (fun _ hk => hk) v1) (p := ⟨g, 2, none⟩) (fun _ hk => hk) v2) (p := ⟨g, 3, none⟩) (fun _ hk => hk) v3) (p := ⟨g, 4, none⟩) (fun _ hk => hk) v4, h.2⟩
end
def OpOutg (w : World) (g : Nat) (u : Ty) (b : Bool) (e : Ending) (w' : World) : Prop := ∃ A3 c3 A4 c4, e = .returned (.tuple #[tv u A3 c3 A4 c4, .bool b]) ∧ RTg w' g u A3 c3 A4 c4 ∧ Below w.heap.size w w'
theorem lreps_g {l : List Se} (o : Oks l) (a : Nat) (ha : a ≤ l.length) {A : Option Addr} {c g : Nat} {w : World} (hg : g < w.heap.size) (h : RSg w g A c l) :
    Calls Try.prog 42 #[.slice A l.length c, .int .i64 a] w fun e w' => ∃ B d, e = .returned (.slice B (repsL l a).length d) ∧ RLg w' g B d (repsL l a) ∧ Below w.heap.size w w' := by
  obtain ⟨k, hk⟩ := reps_told l o.len a ha
  refine (limbecklaw31_reps.calls k (fun k => k ≠ g) A c l a _ w (Kd.V_mk h.2 h.1) hk).mono ?_
  rintro e w' ⟨v, rfl, hN, hb⟩
  obtain ⟨B, d, rfl⟩ := Kd.N_slice hN
  exact ⟨B, d, rfl, ⟨Kd.F_mono (Kd.N_F hN) (fun k hk => by omega), (Kd.N_reads' hN).2.1⟩, hb⟩
theorem ropen_c {l : List Se} (o : Oks l) (a : Nat) (ha : a ≤ l.length) (hl : l.length ≤ 1073741824) {t : Ty} (ot : Okt t) (sn : Sn t) : ∃ (b : Bool) (u : Ty), Okt u ∧ (b = true → u = plain (opF l a) t) ∧
    (∀ {L A3 A4 : Option Addr} {cL c3 c4 : Nat} {w : World}, RL w L cL (repsL l a) → RT w t A3 c3 A4 c4 →
      Calls Try.prog 28 #[tv t A3 c3 A4 c4, .int .i64 a, .slice L (repsL l a).length cL] w (OpOut w u b)) ∧
    (∀ {L A3 A4 : Option Addr} {cL c3 c4 g : Nat} {w : World}, g < w.heap.size → RLg w g L cL (repsL l a) → RTg w g t A3 c3 A4 c4 →
      Calls Try.prog 28 #[tv t A3 c3 A4 c4, .int .i64 a, .slice L (repsL l a).length cL] w (OpOutg w g u b)) := by
  obtain ⟨b, k, hk⟩ := open_told (a := (a : Int)) (by omega) (by omega) (l := repsL l a) (by rw [repsL_len]; omega) (repsL_okt o a) ot sn
  obtain ⟨u, hu, hp, ou⟩ : ∃ u : Ty, limbeckref07_Open.f k t.f0 t.f1 t.f2 t.f3 t.f4 a (repsL l a) = some (u.f0, u.f1, u.f2, u.f3, u.f4, b) ∧ (b = true → u = plain (opF l a) t) ∧ Okt u := by
    cases b with
    | true => exact ⟨plain (opF l a) t, hk, fun _ => rfl, plain_okt _ (fun x u h => turnOpen_okt (repsL_okt o a) x u h) t ot⟩
    | false => exact ⟨z25, hk, (fun h => absurd h (by decide)), (Okt.mk _ (Nat.zero_le _) (Nat.zero_le _) (fun y hy => absurd hy (by intro h; cases h)))⟩
  refine ⟨b, u, ou, hp, fun {L A3 A4 cL c3 c4 w} hC ht => ?_, fun {L A3 A4 cL c3 c4 g w} hg hC ht => ?_⟩
  · have hf := ht.ft
    refine (limbeckref07_Open.calls k t.f0 t.f1 t.f2 _ A3 c3 t.f3 _ A4 c4 t.f4 a (fun k => k < w.heap.size) L cL (repsL l a) _ _ _ _ _ _ w (Kd.V_mk hf.1 hf.2.1) (Kd.V_mk hf.2.2.1 hf.2.2.2) (Kd.V_mk hC.2 (Kd.C_F heapTy hC.1)) hu).mono ?_
    rintro e w' ⟨v3, v4, rfl, ⟨B3, d3, rfl, h3, f3⟩, ⟨B4, d4, rfl, h4, f4⟩, hb⟩
    exact ⟨B3, d3, B4, d4, rfl, ⟨h3, Kd.F_now f3, h4, Kd.F_now f4⟩, hb⟩
  · refine (limbeckref07_Open.calls k t.f0 t.f1 t.f2 (fun k => k ≠ g) A3 c3 t.f3 (fun k => k ≠ g) A4 c4 t.f4 a (fun k => k ≠ g) L cL (repsL l a) _ _ _ _ _ _ w (Kd.V_mk ht.1 ht.2.1) (Kd.V_mk ht.2.2.1 ht.2.2.2) (Kd.V_mk hC.2 hC.1) hu).mono ?_
    rintro e w' ⟨v3, v4, rfl, ⟨B3, d3, rfl, h3, f3⟩, ⟨B4, d4, rfl, h4, f4⟩, hb⟩
    exact ⟨B3, d3, B4, d4, rfl, ⟨h3, Kd.F_mono f3 (fun k hk => by omega), h4, Kd.F_mono f4 (fun k hk => by omega)⟩, hb⟩
theorem is_says {l : List Se} (o : Oks l) {v : Vl} (ov : Okv v) {t : Ty} (ot : Okt t) : ∃ b : Bool, (b = true ↔ IsT l v t) ∧ ∀ {AL A6 A7 A8 A3 A4 : Option Addr} {cL c6 c7 c8 c3 c4 : Nat} {w : World}, RS w AL cL l → RV w v A6 c6 A7 c7 A8 c8 → RT w t A3 c3 A4 c4 →
    Calls Try.prog 43 #[.slice AL l.length cL, vv v A6 c6 A7 c7 A8 c8, tv t A3 c3 A4 c4] w (BOut w b) :=
  ⟨isB l (SizeOf.sizeOf v + 1) v t, Iff.rfl, fun hL hv ht => is_c l ⟨by have := o.len; omega, o.rep⟩ _ v (Nat.lt_succ_self _) ov t ot _ _ _ _ _ _ _ _ _ _ _ _ _ hL.1 hv ht⟩
end Go.Proofs.Ytnfnhjhnfdkinaa.PConvBack
