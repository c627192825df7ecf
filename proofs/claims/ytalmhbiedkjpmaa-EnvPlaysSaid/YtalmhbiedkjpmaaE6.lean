/-
  env: SameVal holds a value the same as itself, wherever both lie.
-/
import Derived.Test.YtalmhbiedkjpmaaE5
import Derived.Test.YtalmhbiedkjpmaaTE
import Derived.Test.YtalmhbiedkjpmaaPEnvPlaysx7
namespace Go.Proofs.Ytalmhbiedkjpmaa.PEnvPlays
open Go.RowKit Go.Proofs.YtalmhbiedkjpmaaW.Mine Go.Proofs.YtalmhbiedkjpmaaW.PrintWords Go.Proofs.YtalmhbiedkjpmaaW.PrintLast Go.Proofs.YtalmhbiedkjpmaaW.PrintMore
attribute [local go_sem] max2_int min2_int max_two min_two max_three min_three max_four min_four
set_option linter.unusedVariables false
set_option linter.unusedSimpArgs false
/-- Lists as long as there may be, at each place of a value. -/
inductive Okv : Vl → Prop
  | mk (x : Vl) (h6 : x.f6.length * 80 ≤ 140737488351232) (ht : ∀ y, y ∈ x.f6 → Okt y) (h7 : x.f7.length ≤ 140737488351232) (h8 : x.f8.length * 144 ≤ 140737488351232) (hs : ∀ y, y ∈ x.f8 → Okv y) : Okv x
theorem Okv.parts {x : Vl} (h : Okv x) : x.f6.length * 80 ≤ 140737488351232 ∧ (∀ y, y ∈ x.f6 → Okt y) ∧ x.f7.length ≤ 140737488351232 ∧ x.f8.length * 144 ≤ 140737488351232 ∧ (∀ y, y ∈ x.f8 → Okv y) := by
  cases h with
  | mk _ a b c d e => exact ⟨a, b, c, d, e⟩
theorem all_l (l : List Ty) (hl : l.length * 80 ≤ 140737488351232) (ho : ∀ y, y ∈ l → Okt y) (d i : Nat) (hd : d + i = l.length) : Ev (fun k => limbeckref04_SameAll.l0 k l l i) true := by
  induction d generalizing i with
  | zero => exact Ev.step (fun _ => rfl) (Ev.neg (by omega) (Ev.step (f := fun _ => some true) (fun _ => rfl) (Ev.rets rfl)))
  | succ d ih =>
    refine Ev.step (fun _ => rfl) (Ev.pos (by omega) ?_)
    rw [decide_eq_true (show (i : Int) < (l.length : Int) by omega)]
    refine Ev.step (fun _ => rfl) (Ev.pos (by omega) (Ev.pos (by omega) ?_))
    rw [rdT_at l i (by omega), wrap_up (by omega)]
    have := types_f _ l[i] (Nat.lt_succ_self _) (ho _ (List.getElem_mem (by omega))) l[i]
    unfold evSame at this
    rw [same_refl] at this
    exact Ev.bind this (Ev.pos rfl (ih (i + 1) (by omega)))
theorem all_c (l : List Ty) (hl : l.length * 80 ≤ 140737488351232) (ho : ∀ y, y ∈ l → Okt y) {A A' : Option Addr} {c c' : Nat} {w : World} (h : kTy.C w A l.length l) (hc : l.length ≤ c) (h' : kTy.C w A' l.length l) (hc' : l.length ≤ c') :
    Calls Try.prog 34 #[.slice A l.length c, .slice A' l.length c'] w fun e w' => e = .returned (.bool true) ∧ Below w.heap.size w w' := by
  obtain ⟨k, hk⟩ := (all_l l hl ho l.length 0 (by omega)).rounds
  refine (limbeckref04_SameAll.calls k A c l A' c' l true w h hc h' hc' ?_).mono fun e w' k => k
  unfold limbeckref04_SameAll.f
  rw [if_pos rfl]
  exact hk
theorem names_c (l : List ByteArray) (hl : l.length ≤ 140737488351232) {A A' : Option Addr} {c c' : Nat} {w : World} (h : Kd.string.C w A l.length l) (hc : l.length ≤ c) (h' : Kd.string.C w A' l.length l) (hc' : l.length ≤ c') :
    Calls Try.prog 39 #[.slice A l.length c, .slice A' l.length c'] w fun e w' => e = .returned (.bool true) ∧ Below w.heap.size w w' := by
  obtain ⟨k, hk⟩ := (labels_f l l hl).rounds
  rw [(texts_iff l l).2 rfl] at hk
  exact (limbeckref01_Same.calls k A c l A' c' l true w h hc h' hc' hk).mono fun e w' k => ⟨k.1, k.2.below⟩
def Yes (w : World) (e : Ending) (w' : World) : Prop := e = .returned (.bool true) ∧ Below w.heap.size w w'
/-- SameVal tells yes of x, wherever it lies twice. -/
def SaysV (x : Vl) : Prop := ∀ (A6 : Option Addr) (c6 : Nat) (A7 : Option Addr) (c7 : Nat) (A8 : Option Addr) (c8 : Nat) (B6 : Option Addr) (d6 : Nat) (B7 : Option Addr) (d7 : Nat) (B8 : Option Addr) (d8 : Nat) (w : World), RV w x A6 c6 A7 c7 A8 c8 → RV w x B6 d6 B7 d7 B8 d8 →
  Calls Try.prog 27 #[vv x A6 c6 A7 c7 A8 c8, vv x B6 d6 B7 d7 B8 d8] w (Yes w)
theorem label_eqA (d : Nat) (w : World) (x0 y0 : ByteArray) (x1 y1 : Int) :
    (Op.equalIn (d + 2) 49 (.agg #[.string x0, .int .i64 x1]) (.agg #[.string y0, .int .i64 y1])).run Try.prog w = .ok ((x0.toList == y0.toList) && (x1 == y1)) w := by
  refine eqA_of Try.underlying49 (by kernel_rfl) ?_
  refine eqf_cons (by rfl) (by go_simp; rfl) (by go_simp; rfl) (by go_simp) ?_
  exact eqf_last (by rfl) (by go_simp; rfl) (by go_simp; rfl) (by go_simp)
theorem label_eq (s : ByteArray) (n : Int) (w : World) : (binOp .neq 49 (.agg #[.string s, .int .i64 n]) (.agg #[.string s, .int .i64 n])).run Try.prog w = .ok (.bool false) w := by
  rw [run_neq_struct, show (10000 : Nat) = 9998 + 2 from rfl, label_eqA]
  simp [Result.andThen]
end Go.Proofs.Ytalmhbiedkjpmaa.PEnvPlays
