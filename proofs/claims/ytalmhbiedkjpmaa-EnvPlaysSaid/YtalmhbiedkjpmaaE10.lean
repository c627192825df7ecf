/-
  env: small tells something; what it lets in is short.
-/
import Derived.Test.YtalmhbiedkjpmaaE9
namespace Go.Proofs.Ytalmhbiedkjpmaa.PEnvPlays
open Go.RowKit Go.Proofs.YtalmhbiedkjpmaaW.Mine Go.Proofs.YtalmhbiedkjpmaaW.PrintWords Go.Proofs.YtalmhbiedkjpmaaW.PrintLast Go.Proofs.YtalmhbiedkjpmaaW.PrintMore
set_option linter.unusedVariables false
set_option linter.unusedSimpArgs false
theorem rdS_mem (l : List Sl) (i : Nat) (h : i < l.length) : rd_T54 l (i : Int) ∈ l := by
  unfold rd_T54
  rw [Int.toNat_natCast, List.getD_eq_getElem?_getD, List.getElem?_eq_getElem h]
  exact List.getElem_mem h
theorem small_j1f (l : List Sl) (x : Int) : Ev (fun k => limbecklaw34_small.j1 k l x false) (decide ((l.length : Int) ≤ 50)) :=
  Ev.step (f := fun _ => some (decide ((l.length : Int) ≤ 50))) (fun _ => rfl) (Ev.rets rfl)
theorem small_j1t (l : List Sl) (i : Nat) (hi : i < l.length) {t : Int} (ht : Ev (fun k => MuchV k (rd_T54 l (i : Int)).f1) t) {r : Bool} (hr : Ev (fun k => if t > 60 then some false else limbecklaw34_small.l0 k l (wrap64 ((i : Int) + 1))) r) :
    Ev (fun k => limbecklaw34_small.j1 k l i true) r := by
  refine Ev.step (f := fun k => if 0 ≤ (i : Int) then (if (i : Int) < (l.length : Int) then ((MuchV k (rd_T54 l (i : Int)).f1).bind fun t => if t > 60 then some false else limbecklaw34_small.l0 k l (wrap64 ((i : Int) + 1))) else none) else none) (fun _ => rfl) ?_
  refine Ev.pos (by omega) (Ev.pos (by omega) (Ev.bind ht ?_))
  exact hr
theorem small_l0 (l : List Sl) (hl : l.length * 152 ≤ 140737488351232) (hs : ∀ y, y ∈ l → Okv y.f1) (d i : Nat) (hd : d + i = l.length) : ∃ r, Ev (fun k => limbecklaw34_small.l0 k l i) r ∧ (r = true → l.length ≤ 50) := by
  induction d generalizing i with
  | zero =>
    exact ⟨decide ((l.length : Int) ≤ 50), Ev.step (fun _ => rfl) (Ev.neg (by omega) (small_j1f l i)), fun h => by have := of_decide_eq_true h; omega⟩
  | succ d ih =>
    by_cases h : (i : Int) < 60
    · obtain ⟨t, ht⟩ := mv_told _ (rd_T54 l (i : Int)).f1 (Nat.lt_succ_self _) (hs _ (rdS_mem l i (by omega)))
      by_cases h6 : t > 60
      · refine ⟨false, Ev.step (fun _ => rfl) (Ev.pos (by omega) ?_), fun h => by cases h⟩
        rw [decide_eq_true h]
        exact small_j1t l i (by omega) ht (Ev.pos h6 (Ev.rets rfl))
      · obtain ⟨r, hr, hr'⟩ := ih (i + 1) (by omega)
        refine ⟨r, Ev.step (fun _ => rfl) (Ev.pos (by omega) ?_), hr'⟩
        rw [decide_eq_true h]
        refine small_j1t l i (by omega) ht (Ev.neg h6 ?_)
        rw [wrap_ok (show -9223372036854775808 ≤ (i : Int) + 1 by omega) (by omega)]
        exact hr
    · refine ⟨decide ((l.length : Int) ≤ 50), Ev.step (fun _ => rfl) (Ev.pos (by omega) ?_), fun h => by have := of_decide_eq_true h; omega⟩
      rw [decide_eq_false h]
      exact small_j1f l i
theorem small_told (l : List Sl) (hl : l.length * 152 ≤ 140737488351232) (hs : ∀ y, y ∈ l → Okv y.f1) : ∃ k r, limbecklaw34_small.f k l = some r ∧ (r = true → l.length ≤ 50) := by
  obtain ⟨r, hr, h⟩ := small_l0 l hl hs l.length 0 (by omega)
  obtain ⟨k, hk⟩ := hr.rounds
  exact ⟨k, r, hk, h⟩
theorem small_c {l : List Sl} {k : Nat} {r : Bool} (h : limbecklaw34_small.f k l = some r) {A : Option Addr} {c : Nat} {w : World} (hr : kSl.C w A l.length l) (hc : l.length ≤ c) :
    Calls Try.prog 22 #[.slice A l.length c] w fun e w' => e = .returned (.bool r) ∧ Below w.heap.size w w' :=
  (limbecklaw34_small.calls k A c l r w hr hc h).mono fun e w' k => k
end Go.Proofs.Ytalmhbiedkjpmaa.PEnvPlays
