/-
  env: an element of a list of names and values; what Find hands out.
-/
import Derived.Test.YtalmhbiedkjpmaaE11
namespace Go.Proofs.Ytalmhbiedkjpmaa.PEnvPlays
open Go.RowKit Go.Proofs.YtalmhbiedkjpmaaW.Mine Go.Proofs.YtalmhbiedkjpmaaW.PrintWords Go.Proofs.YtalmhbiedkjpmaaW.PrintLast Go.Proofs.YtalmhbiedkjpmaaW.PrintMore
set_option linter.unusedVariables false
set_option linter.unusedSimpArgs false
theorem selt {w : World} {A : Option Addr} {l : List Sl} (h : kSl.C w A l.length l) (i : Nat) (hi : i < l.length) : ∃ ad A6 c6 A7 c7 A8 c8, A = some ad ∧ RV w l[i].f1 A6 c6 A7 c7 A8 c8
    ∧ w.cell? (ad.add (i * 11)) = some (.string l[i].f0)
    ∧ w.cell? ⟨(ad.add (i * 11)).block, (ad.add (i * 11)).off + 1, none⟩ = some (.int .i64 l[i].f1.f0)
    ∧ w.cell? ⟨(ad.add (i * 11)).block, (ad.add (i * 11)).off + 2, none⟩ = some (.int .i64 l[i].f1.f1)
    ∧ w.cell? ⟨(ad.add (i * 11)).block, (ad.add (i * 11)).off + 3, none⟩ = some (.int .i64 l[i].f1.f2)
    ∧ w.cell? ⟨(ad.add (i * 11)).block, (ad.add (i * 11)).off + 4, none⟩ = some (.bool l[i].f1.f3)
    ∧ w.cell? ⟨(ad.add (i * 11)).block, (ad.add (i * 11)).off + 5, none⟩ = some (.string l[i].f1.f4)
    ∧ w.cell? ⟨(ad.add (i * 11)).block, (ad.add (i * 11)).off + 6, none⟩ = some (.string l[i].f1.f5.f0)
    ∧ w.cell? ⟨(ad.add (i * 11)).block, (ad.add (i * 11)).off + 7, none⟩ = some (.int .i64 l[i].f1.f5.f1)
    ∧ w.cell? ⟨(ad.add (i * 11)).block, (ad.add (i * 11)).off + 8, none⟩ = some (.slice A6 l[i].f1.f6.length c6)
    ∧ w.cell? ⟨(ad.add (i * 11)).block, (ad.add (i * 11)).off + 9, none⟩ = some (.slice A7 l[i].f1.f7.length c7)
    ∧ w.cell? ⟨(ad.add (i * 11)).block, (ad.add (i * 11)).off + 10, none⟩ = some (.slice A8 l[i].f1.f8.length c8) := by
  obtain ⟨ad, A6, c6, A7, c7, A8, c8, e, h0, h1, h2, h3, h4, h5, h6, h7, h8, h9, h10, g6, r6, g7, r7, g8, r8⟩ := at_T54 h (i : Int) (by omega) (by omega)
  have q : rd_T54 l (i : Int) = l[i] := getD_at _ l i hi
  rw [q] at h0 h1 h2 h3 h4 h5 h6 h7 h8 h9 h10 g6 r6 g7 r7 g8 r8
  rw [Int.toNat_natCast] at h0 h1 h2 h3 h4 h5 h6 h7 h8 h9 h10
  exact ⟨ad, A6, c6, A7, c7, A8, c8, e, ⟨g6, r6, g7, r7, g8, r8⟩, h0, h1, h2, h3, h4, h5, h6, h7, h8, h9, h10⟩
abbrev zV : Vl := z52
theorem okz : Okv zV := .mk _ (by decide) (fun y hy => by cases hy) (by decide) (by decide) (fun y hy => by cases hy)
/-- What is found under a name. -/
def fv (l : List Sl) (s : ByteArray) : Vl := match l.find? (fun x => eqText x.f0 s) with | some x => x.f1 | none => zV
def fb (l : List Sl) (s : ByteArray) : Bool := (l.find? (fun x => eqText x.f0 s)).isSome
theorem okv_fv {l : List Sl} (h : ∀ y, y ∈ l → Okv y.f1) (s : ByteArray) : Okv (fv l s) := by
  unfold fv
  cases hf : l.find? (fun x => eqText x.f0 s) with
  | none => exact okz
  | some x => exact h x (List.mem_of_find?_eq_some hf)
theorem RV.zero (w : World) : RV w zV none 0 none 0 none 0 := ⟨Nat.le_refl _, Kd.C_nil _ w, Nat.le_refl _, Kd.C_nil _ w, Nat.le_refl _, Kd.C_nil _ w⟩
theorem find_c2 {w : World} {tp p : Option Addr} {l : List Sl} (s : ByteArray) (hl : IsEnv w tp p l) (hn : l.length < 4611686018427387904) :
    Calls Try.prog 26 #[.pointer p, .string s] w fun e w' => ∃ A6 c6 A7 c7 A8 c8, e = .returned (.tuple #[vv (fv l s) A6 c6 A7 c7 A8 c8, .bool (fb l s)]) ∧ RV w' (fv l s) A6 c6 A7 c7 A8 c8 ∧ Below w.heap.size w w' :=
  (find_c s hl hn).mono fun e w' h => by
    obtain ⟨hb, hf⟩ := h
    unfold fv fb
    cases hq : l.find? (fun x => eqText x.f0 s) with
    | none =>
      rw [hq] at hf
      exact ⟨none, 0, none, 0, none, 0, hf, RV.zero w', hb⟩
    | some x =>
      rw [hq] at hf
      obtain ⟨A6, c6, A7, c7, A8, c8, e1, hr⟩ := hf
      exact ⟨A6, c6, A7, c7, A8, c8, e1, hr, hb⟩
theorem fv_head (x : Sl) (l : List Sl) : fv (x :: l) x.f0 = x.f1 := by
  unfold fv
  rw [show (x :: l).find? (fun y => eqText y.f0 x.f0) = some x from List.find?_cons_of_pos (eqText_refl x.f0)]
theorem fb_head (x : Sl) (l : List Sl) : fb (x :: l) x.f0 = true := by
  unfold fb
  rw [show (x :: l).find? (fun y => eqText y.f0 x.f0) = some x from List.find?_cons_of_pos (eqText_refl x.f0)]
  rfl
theorem fv_tail (x : Sl) (l : List Sl) (s : ByteArray) (h : eqText x.f0 s = false) : fv (x :: l) s = fv l s := by
  unfold fv
  rw [List.find?_cons_of_neg (by simp [h])]
theorem fb_tail (x : Sl) (l : List Sl) (s : ByteArray) (h : eqText x.f0 s = false) : fb (x :: l) s = fb l s := by
  unfold fb
  rw [List.find?_cons_of_neg (by simp [h])]
end Go.Proofs.Ytalmhbiedkjpmaa.PEnvPlays
