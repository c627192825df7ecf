/-
  ConvKeeps: texts of this claim, put together by a program of this session. No conditions beyond what each lemma says.
-/
import Derived.Test.YtnfnhjhnfdkinaazConvKeeps39
import Derived.Test.YtnfnhjhnfdkinaazConvKeeps18
namespace Go.Proofs.Ytnfnhjhnfdkinaa.PConvBack
open Go.RowKit Go.Proofs.YtnfnhjhnfdkinaaW.Mine Go.Proofs.YtnfnhjhnfdkinaaW.PrintWords Go.Proofs.YtnfnhjhnfdkinaaW.PrintLast Go.Proofs.YtnfnhjhnfdkinaaW.PrintMore
set_option linter.unusedVariables false
set_option linter.unusedSimpArgs false
abbrev MuchV (k : Nat) (y : Vl) : Option Int := limbecklaw26_MuchVal.f k y.f0 y.f1 y.f2 y.f3 y.f4 y.f5.f0 y.f5.f1 y.f6 y.f7 y.f8
theorem rdV_mem (l : List Vl) (i : Nat) (h : i < l.length) : rd_T55 l (i : Int) ∈ l := by
  unfold rd_T55
  rw [Int.toNat_natCast, List.getD_eq_getElem?_getD, List.getElem?_eq_getElem h]
  exact List.getElem_mem h
theorem mv_l1 (a0 a1 a2 : Int) (a3 : Bool) (a4 a5 : ByteArray) (a6 : Int) (l7 : List Ty) (l8 : List ByteArray) (l9 : List Vl) (hl : l9.length * 144 ≤ 140737488351232) (hs : ∀ y, y ∈ l9 → ∃ r, Ev (fun k => MuchV k y) r) (d i : Nat) (hd : d + i = l9.length) (x3 : Int) :
    ∃ r, Ev (fun k => limbecklaw26_MuchVal.l1 k x3 i a0 a1 a2 a3 a4 a5 a6 l7 l8 l9) r := by
  induction d generalizing i x3 with
  | zero => exact ⟨_, Ev.step (fun _ => rfl) (Ev.neg (by omega) (Ev.rets rfl))⟩
  | succ d ih =>
    by_cases h : x3 < 3000
    · obtain ⟨t, ht⟩ := hs _ (rdV_mem l9 i (by omega))
      obtain ⟨r, hr⟩ := ih (i + 1) (by omega) (wrap64 (x3 + t))
      refine ⟨r, Ev.step (fun _ => rfl) (Ev.pos (by omega) (Ev.pos h (Ev.pos (by omega) (Ev.bind ht ?_))))⟩
      rw [wrap_ok (show -9223372036854775808 ≤ (i : Int) + 1 by omega) (by omega)]
      exact hr
    · exact ⟨_, Ev.step (fun _ => rfl) (Ev.pos (by omega) (Ev.neg h (Ev.rets rfl)))⟩
theorem mv_l0 (a0 a1 a2 : Int) (a3 : Bool) (a4 a5 : ByteArray) (a6 : Int) (l7 : List Ty) (l8 : List ByteArray) (l9 : List Vl) (hl : l9.length * 144 ≤ 140737488351232) (hs : ∀ y, y ∈ l9 → ∃ r, Ev (fun k => MuchV k y) r)
    (h7 : l7.length * 80 ≤ 140737488351232) (ht : ∀ y, y ∈ l7 → Okt y) (d i : Nat) (hd : d + i = l7.length) (x3 : Int) :
    ∃ r, Ev (fun k => limbecklaw26_MuchVal.l0 k x3 i a0 a1 a2 a3 a4 a5 a6 l7 l8 l9) r := by
  have hj : ∀ x, ∃ r, Ev (fun k => limbecklaw26_MuchVal.j1 k x a0 a1 a2 a3 a4 a5 a6 l7 l8 l9) r := fun x => by
    obtain ⟨r, hr⟩ := mv_l1 a0 a1 a2 a3 a4 a5 a6 l7 l8 l9 hl hs l9.length 0 (by omega) x
    exact ⟨r, Ev.step (fun _ => rfl) hr⟩
  induction d generalizing i x3 with
  | zero =>
    obtain ⟨r, hr⟩ := hj x3
    exact ⟨r, Ev.step (fun _ => rfl) (Ev.neg (by omega) hr)⟩
  | succ d ih =>
    by_cases h : x3 < 3000
    · obtain ⟨t, hy⟩ := much_told _ (rd_T25 l7 (i : Int)) (Nat.lt_succ_self _) (ht _ (rdT_mem l7 i (by omega)))
      obtain ⟨r, hr⟩ := ih (i + 1) (by omega) (wrap64 (x3 + t))
      refine ⟨r, Ev.step (fun _ => rfl) (Ev.pos (by omega) (Ev.pos h (Ev.pos (by omega) (Ev.bind hy ?_))))⟩
      rw [wrap_ok (show -9223372036854775808 ≤ (i : Int) + 1 by omega) (by omega)]
      exact hr
    · obtain ⟨r, hr⟩ := hj x3
      exact ⟨r, Ev.step (fun _ => rfl) (Ev.pos (by omega) (Ev.neg h hr))⟩
theorem mv_told : ∀ (n : Nat) (x : Vl), SizeOf.sizeOf x < n → Okv x → ∃ r, Ev (fun k => MuchV k x) r
  | 0, _, h, _ => absurd h (Nat.not_lt_zero _)
  | n + 1, x, h, ho => by
    obtain ⟨o6, ot, o7, o8, os⟩ := ho.parts
    obtain ⟨r, hr⟩ := mv_l0 x.f0 x.f1 x.f2 x.f3 x.f4 x.f5.f0 x.f5.f1 x.f6 x.f7 x.f8 o8 (fun y hy => mv_told n y (by have := size_kids x y hy; omega) (os y hy)) o6 ot x.f6.length 0 (by omega) (wrap64 ((wrap64 ((wrap64 (1 + (wrap64 ((x.f4.size : Int) / 8)))) + (x.f7.length : Int))) + (wrap64 ((x.f5.f0.size : Int) / 8))))
    exact ⟨r, Ev.step (fun _ => rfl) hr⟩
theorem toldV {x : Vl} (o : Okv x) : ∃ k r, MuchV k x = some r := by
  obtain ⟨r, hr⟩ := mv_told _ x (Nat.lt_succ_self _) o
  obtain ⟨k, hk⟩ := hr.rounds
  exact ⟨k, r, hk⟩
theorem much_c {x : Vl} {k : Nat} {r : Int} (h : MuchV k x = some r) {A6 A7 A8 : Option Addr} {c6 c7 c8 : Nat} {w : World} (hr : RV w x A6 c6 A7 c7 A8 c8) :
    Calls Try.prog 38 #[vv x A6 c6 A7 c7 A8 c8] w fun e w' => e = .returned (.int .i64 r) ∧ Below w.heap.size w w' :=
  (limbecklaw26_MuchVal.calls k x.f0 x.f1 x.f2 x.f3 x.f4 x.f5.f0 x.f5.f1 A6 c6 x.f6 A7 c7 x.f7 A8 c8 x.f8 r w hr.2.1 hr.1 hr.2.2.2.1 hr.2.2.1 hr.2.2.2.2.2 hr.2.2.2.2.1 h).mono fun e w' k => k
end Go.Proofs.Ytnfnhjhnfdkinaa.PConvBack
