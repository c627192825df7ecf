/-
  ConvBack: texts of this claim, put together by a program of this session. No conditions beyond what each lemma says.
-/
import Derived.WalkKit
import Derived.Test.YtnfnhjhnfdkinaazConvBack0
import Derived.Test.YtnfnhjhnfdkinaazConvBack5
namespace Go.Proofs.YtnfnhjhnfdkinaaW.Mine
open Go.RowKit Go.Proofs.YtnfnhjhnfdkinaaW.PrintWords Go.Proofs.YtnfnhjhnfdkinaaW.PrintLast Go.Proofs.YtnfnhjhnfdkinaaW.PrintMore
@[go_sem] theorem string_geq (t : TypeId) (a b : ByteArray) : binOp .geq t (.string a) (.string b) = pure (.bool !(Op.bytesLess a.toList b.toList)) := by simp [binOp, Op.stringOp]
@[go_sem] theorem string_leq (t : TypeId) (a b : ByteArray) : binOp .leq t (.string a) (.string b) = pure (.bool (Op.bytesLess a.toList b.toList || a.toList == b.toList)) := by simp [binOp, Op.stringOp]
@[go_sem] theorem string_gtr (t : TypeId) (a b : ByteArray) : binOp .gtr t (.string a) (.string b) = pure (.bool !(Op.bytesLess a.toList b.toList || a.toList == b.toList)) := by simp [binOp, Op.stringOp]
/-- A function value that enters g, bound arguments ahead and behind. -/
def Enters (P : Program) (g : FuncId) : Prop := ∀ args w, (callFunc g args).run P w = .ok (.enter g args) w
theorem Enters.of {P : Program} {f : FuncId} {fn : Func} (hf : P.funcs[f]? = some fn) (hname : (fn.name == "runtime.NumGoroutine") = false) (hb : fn.body.isSome = true) : Enters P f := fun args w => enters_ hf hname hb args w
section
variable {P : Program} {ops : Array Oper} {Q : Exit → Act → World → Prop}
end
/-! ### Ev: more ways -/
theorem Ev.pos {α : Type} {c : Prop} [Decidable c] {f g : Nat → Option α} {r : α} (h : c) (k : Ev f r) : Ev (fun n => if c then f n else g n) r := by
  obtain ⟨K, hK⟩ := k
  exact ⟨K, fun n hn => (if_pos h).trans (hK n hn)⟩
theorem Ev.neg {α : Type} {c : Prop} [Decidable c] {f g : Nat → Option α} {r : α} (h : ¬ c) (k : Ev g r) : Ev (fun n => if c then f n else g n) r := by
  obtain ⟨K, hK⟩ := k
  exact ⟨K, fun n hn => (if_neg h).trans (hK n hn)⟩
theorem Ev.bindc {α β : Type} {x : Option α} {f : Nat → α → Option β} {a : α} {r : β} (h : x = some a) (k : Ev (fun n => f n a) r) : Ev (fun n => x.bind (f n)) r := by
  subst h; exact k
theorem Ev.ret {α : Type} {x : Option α} {r : α} (h : x = some r) : Ev (fun _ => x) r := ⟨0, fun _ _ => h⟩
theorem Ev.rets {α : Type} {x r : α} (h : x = r) : Ev (fun _ => some x) r := ⟨0, fun _ _ => by rw [h]⟩
theorem Ev.to {α : Type} {g : Nat → Option α} {r r' : α} (h : Ev g r) (e : r = r') : Ev g r' := e ▸ h
theorem wrap_in {i : Int} (h0 : -9223372036854775808 ≤ i) (h1 : i ≤ 9223372036854775807) : wrap64 i = i := by unfold wrap64; omega
/-! ### lists -/
theorem rdOf_at {α : Type} (z : α) (xs : List α) (i : Nat) (h : i < xs.length) : rdOf z xs (i : Int) = xs[i] := by
  unfold rdOf
  rw [Int.toNat_natCast, List.getD_eq_getElem?_getD, List.getElem?_eq_getElem h]; rfl
theorem getD_at {α : Type} (z : α) (xs : List α) (i : Nat) (h : i < xs.length) : xs.getD (i : Int).toNat z = xs[i] := by
  rw [Int.toNat_natCast, List.getD_eq_getElem?_getD, List.getElem?_eq_getElem h]; rfl
/-- Two lists are as long, and p holds of each two. -/
def allTwo {α β : Type} (p : α → β → Bool) : List α → List β → Bool
  | [], [] => true
  | a :: l, b :: m => p a b && allTwo p l m
  | _, _ => false
theorem allTwo_len {α β : Type} {p : α → β → Bool} : ∀ {l : List α} {m : List β}, allTwo p l m = true → l.length = m.length
  | [], [], _ => rfl
  | a :: l, b :: m, h => by
    unfold allTwo at h
    rw [Bool.and_eq_true] at h
    simp [allTwo_len h.2]
  | [], _ :: _, h => by simp [allTwo] at h
  | _ :: _, [], h => by simp [allTwo] at h
theorem allTwo_ne {α β : Type} {p : α → β → Bool} {l : List α} {m : List β} (h : l.length ≠ m.length) : allTwo p l m = false := by
  cases e : allTwo p l m with
  | true => exact absurd (allTwo_len e) h
  | false => rfl
theorem allTwo_congr {α β : Type} {p q : α → β → Bool} : ∀ {l : List α} {m : List β}, (∀ a, a ∈ l → ∀ b, b ∈ m → p a b = q a b) → allTwo p l m = allTwo q l m
  | [], [], _ => rfl
  | a :: l, b :: m, h => by
    unfold allTwo
    rw [h a List.mem_cons_self b List.mem_cons_self, allTwo_congr (l := l) (m := m) (fun x hx y hy => h x (List.mem_cons_of_mem _ hx) y (List.mem_cons_of_mem _ hy))]
  | [], _ :: _, _ => rfl
  | _ :: _, [], _ => rfl
/-- Texts by their bytes. -/
def eqText (a b : ByteArray) : Bool := a.toList == b.toList
def eqTexts (l m : List ByteArray) : Bool := allTwo eqText l m
end Go.Proofs.YtnfnhjhnfdkinaaW.Mine
