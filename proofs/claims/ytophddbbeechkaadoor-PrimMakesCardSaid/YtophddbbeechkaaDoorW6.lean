/-
  prim: the walk of PrimMakes.
-/
import Derived.Test.YtophddbbeechkaaDoorW4
namespace Go.Proofs.YtophddbbeechkaaDoor.W6
open Go.RowKit Go.Proofs.YtophddbbeechkaaDoorW.PrintWords Go.Proofs.YtophddbbeechkaaDoorW.PrintLast Go.Proofs.YtophddbbeechkaaDoorW.PrintMore Go.Proofs.YtophddbbeechkaaDoorW.Mine Go.Proofs.YtophddbbeechkaaDoor.W1 Go.Proofs.YtophddbbeechkaaDoor.W2 Go.Proofs.YtophddbbeechkaaDoor.W3 Go.Proofs.YtophddbbeechkaaDoor.W4
attribute [local go_sem] max2_int min2_int
set_option linter.unusedVariables false
set_option linter.unusedSimpArgs false
set_option maxHeartbeats 2000000 in
set_option maxRecDepth 100000 in
theorem makes_c (n : Int) (b : Bool) (s : ByteArray) (w : World) (hG : GW w) : Calls Tryd.prog 4 #[.int .i64 n, .bool b, .string s] w fun e w' => e = .returned (.bool true) ∧ Below w.heap.size w w' := by
  by_cases h : 2000 < (s.size : Int)
  · have c0 : decide (2000 < (s.size : Int)) = true := decide_eq_true h
    go_enter Tryd.func4, Tryd.ntmps4
    go_wp2_with fail
    go_call (awake_c w hG) as e w1 ⟨he, hb1⟩
    subst he
    go_wp2
    go_returns
    exact ⟨rfl, hb1⟩
  · have c0 : decide (2000 < (s.size : Int)) = false := decide_eq_false h
    go_enter Tryd.func4, Tryd.ntmps4
    go_wp2_with fail
    go_call (int_c n) as e w1 ⟨he, hb1⟩
    subst he
    go_wp2_with fail
    go_call (rint_c n) as e w2 ⟨he, hb2⟩
    subst he
    go_wp2_with fail
    go_call (same_c 1 n _) as e w3 ⟨he, hb3⟩
    subst he
    go_wp2_with fail
    go_call (bool_c b) as e w4 ⟨he, hb4⟩
    subst he
    go_wp2_with fail
    go_call (rbool_c b) as e w5 ⟨he, hb5⟩
    subst he
    go_wp2_with fail
    go_call (same_c 2 _ _) as e w6 ⟨he, hb6⟩
    subst he
    go_wp2_with fail
    go_call (str_c s) as e w7 ⟨he, hb7⟩
    subst he
    go_wp2_with fail
    go_call (rstr_c s) as e w8 ⟨he, hb8⟩
    subst he
    go_wp2_with fail
    go_call (same_c 3 _ _) as e w9 ⟨he, hb9⟩
    subst he
    have b9 := chain (chain (chain (chain (chain (chain (chain (chain hb1 hb2) hb3) hb4) hb5) hb6) hb7) hb8) hb9
    go_wp2_with fail
    go_call (awake_c w9 (hG.below b9)) as e w10 ⟨he, hb10⟩
    subst he
    go_wp2
    go_returns
    exact ⟨rfl, chain b9 hb10⟩
end Go.Proofs.YtophddbbeechkaaDoor.W6
