/-
  Subst: texts of this claim, put together by a program of this session. No conditions beyond what each lemma says.
-/
import Derived.Test.YtnfnhjhnfdkinaazSubst17
import Derived.Test.YtnfnhjhnfdkinaazSubst12
namespace Go.Proofs.Ytnfnhjhnfdkinaa.PSubstPuts
open Go.RowKit Go.Proofs.YtnfnhjhnfdkinaaW.Mine Go.Proofs.YtnfnhjhnfdkinaaW.PrintWords Go.Proofs.YtnfnhjhnfdkinaaW.PrintLast Go.Proofs.YtnfnhjhnfdkinaaW.PrintMore
set_option linter.unusedVariables false
set_option linter.unusedSimpArgs false
theorem nodes_pos (x : Ty) : 1 ≤ nodes x := by rw [nodes_eq]; omega
def evNodes (x : Ty) : Prop := Ev (fun k => limbeckref04_Nodes.f k x.f0 x.f1 x.f2 x.f3 x.f4) (nodes x : Int)
theorem nodes_l0 (x : Ty) (hl : x.f4.length ≤ 140737488351232) (hb : (nodes x : Int) ≤ 4611686018427387904) (hs : ∀ y, y ∈ x.f4 → (nodes y : Int) ≤ 4611686018427387904 → evNodes y) (d i : Nat) (hd : d + i = x.f4.length) (m : Nat) (hm : m + nodesAll (x.f4.drop i) = nodes x) :
    Ev (fun k => limbeckref04_Nodes.l0 k (m : Int) i x.f0 x.f1 x.f2 x.f3 x.f4) (nodes x : Int) := by
  induction d generalizing i m with
  | zero =>
    rw [List.drop_eq_nil_of_le (by omega), nodesAll_nil] at hm
    exact Ev.step (fun _ => rfl) (Ev.neg (by omega) (Ev.rets (by omega)))
  | succ d ih =>
    have hi : i < x.f4.length := by omega
    rw [nodesAll_drop x.f4 i hi] at hm
    have h1 : (nodes x.f4[i] : Int) ≤ 4611686018427387904 := by omega
    have hn := hs _ (List.getElem_mem hi) h1
    unfold evNodes at hn
    rw [← rdT_at x.f4 i hi] at hn hm h1
    refine Ev.step (fun _ => rfl) (Ev.pos (by omega) (Ev.pos (by omega) (Ev.bind hn ?_)))
    rw [wrap_ok (show -9223372036854775808 ≤ (i : Int) + 1 by omega) (by omega), wrap_ok (show -9223372036854775808 ≤ (m : Int) + (nodes (rd_T25 x.f4 i) : Int) by omega) (by omega)]
    have := ih (i + 1) (by omega) (m + nodes (rd_T25 x.f4 i)) (by omega)
    rw [show ((m + nodes (rd_T25 x.f4 i) : Nat) : Int) = (m : Int) + (nodes (rd_T25 x.f4 i) : Int) by push_cast; rfl] at this
    exact this
theorem nodes_f : ∀ (n : Nat) (x : Ty), SizeOf.sizeOf x < n → Okt x → (nodes x : Int) ≤ 4611686018427387904 → evNodes x
  | 0, _, h, _, _ => absurd h (Nat.not_lt_zero _)
  | n + 1, x, h, o, hb => Ev.step (fun _ => rfl) (nodes_l0 x o.l4 hb (fun y hy hby => nodes_f n y (by have := size_args x y hy; omega) (o.all y hy) hby) x.f4.length 0 (by omega) 1 (by rw [List.drop_zero, nodes_eq]; omega))
theorem fits_f {x : Ty} (o : Okt x) (hb : (nodes x : Int) ≤ 4611686018427387904) : Ev (fun k => limbeckref04_Fits.f k x.f0 x.f1 x.f2 x.f3 x.f4) (decide ((nodes x : Int) ≤ 300)) :=
  Ev.bind (nodes_f _ x (Nat.lt_succ_self _) o hb) (Ev.rets rfl)
/-- What fitting tells. -/
def fitO (x : Ty) : Option Ty := if nodes x ≤ 300 then some x else none
def tup (o : Option Ty) : Int × Int × ByteArray × List ByteArray × List Ty × Bool := ((o.getD z25).f0, (o.getD z25).f1, (o.getD z25).f2, (o.getD z25).f3, (o.getD z25).f4, o.isSome)
theorem fitting_f {x : Ty} (o : Okt x) (hb : (nodes x : Int) ≤ 4611686018427387904) : Ev (fun k => limbeckref07_fitting.f k x.f0 x.f1 x.f2 x.f3 x.f4) (tup (fitO x)) := by
  refine Ev.bind (fits_f o hb) ?_
  unfold fitO
  by_cases h : nodes x ≤ 300
  · rw [if_pos h, decide_eq_true (show (nodes x : Int) ≤ 300 by omega)]
    exact Ev.pos rfl (Ev.rets rfl)
  · rw [if_neg h, decide_eq_false (show ¬ (nodes x : Int) ≤ 300 by omega)]
    exact Ev.neg (by decide) (Ev.rets rfl)
mutual
theorem plain_nodes (f : Ty → Option Ty) (B : Nat) (hB : 1 ≤ B) (hf : ∀ x u, f x = some u → nodes u ≤ B) : ∀ t : Ty, nodes (plain f t) ≤ nodes t * B
  | ⟨a0, a1, a2, a3, a4⟩ => by
    rw [plain_eq]
    cases hq : f ⟨a0, a1, a2, a3, a4⟩ with
    | some u =>
      have h1 := hf _ u hq
      have h2 := nodes_pos ⟨a0, a1, a2, a3, a4⟩
      exact Nat.le_trans h1 (Nat.le_mul_of_pos_left B h2)
    | none =>
      have := plainAll_nodes f B hB hf a4
      rw [nodes_eq, nodes_eq, Nat.add_mul, Nat.one_mul]
      simp only
      omega
theorem plainAll_nodes (f : Ty → Option Ty) (B : Nat) (hB : 1 ≤ B) (hf : ∀ x u, f x = some u → nodes u ≤ B) : ∀ l : List Ty, nodesAll (plainAll f l) ≤ nodesAll l * B
  | [] => by rw [plainAll_nil, nodesAll_nil]; omega
  | a :: l => by
    rw [plainAll_cons, nodesAll_cons, nodesAll_cons, Nat.add_mul]
    have := plain_nodes f B hB hf a
    have := plainAll_nodes f B hB hf l
    omega
end
end Go.Proofs.Ytnfnhjhnfdkinaa.PSubstPuts
