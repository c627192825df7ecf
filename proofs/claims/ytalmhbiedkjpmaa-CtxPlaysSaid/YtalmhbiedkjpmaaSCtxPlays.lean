/-
  CtxPlays: what is known of what it is given, and the walk that follows. No conditions but the reach of what is read.
-/
import Derived.Test.YtalmhbiedkjpmaaD3
import Derived.Test.YtalmhbiedkjpmaaWRd
import Derived.KernelRfl
namespace Go.Proofs.Ytalmhbiedkjpmaa.PCtxPlays
open Go.RowKit Go.Proofs.YtalmhbiedkjpmaaW.PrintWords Go.Proofs.YtalmhbiedkjpmaaW.PrintLast Go.Proofs.YtalmhbiedkjpmaaW.PrintMore Go.Proofs.YtalmhbiedkjpmaaW
set_option linter.unusedVariables false
inductive Ok31 : S31 → Prop
  | mk (x : S31) (h0 : (Lit.int .i64 x.f0).wf = true) (h1 : (Lit.int .i64 x.f1).wf = true) (h2 : x.f2.size ≤ 140737488351232) (h3 : (x.f3.length * 16 ≤ 140737488351232 ∧ ∀ y, y ∈ x.f3 → y.size ≤ 140737488351232)) (hl : x.f4.length * 80 ≤ 140737488351232) (hs : ∀ y, y ∈ x.f4 → Ok31 y) : Ok31 x
theorem Ok31.parts {x : S31} (h : Ok31 x) : (Lit.int .i64 x.f0).wf = true ∧ (Lit.int .i64 x.f1).wf = true ∧ x.f2.size ≤ 140737488351232 ∧ (x.f3.length * 16 ≤ 140737488351232 ∧ ∀ y, y ∈ x.f3 → y.size ≤ 140737488351232) ∧ (x.f4.length * 80 ≤ 140737488351232 ∧ ∀ y, y ∈ x.f4 → Ok31 y) := by
  cases h with
  | mk _ h0 h1 h2 h3 hl hs => exact ⟨h0, h1, h2, h3, hl, hs⟩
theorem rd31 : ∀ fuel, Rd.RdU Try.prog k31 31 Ok31 fuel := by
  intro fuel
  induction fuel using Nat.strongRecOn with
  | _ fuel ih =>
  exact Rd.rd_struct (k := k31) (d := fun m_ => (Kd.pair (Kd.int .i64) (Kd.pair (Kd.int .i64) (Kd.pair Kd.string (Kd.pair (Kd.slice 9 Kd.string) (Kd.slice 31 (Kd.upto F31 5 [9, 31] m_))))))) (f := (fun x : S31 => (x.f0, x.f1, x.f2, x.f3, x.f4))) (g := (fun p_ => (⟨p_.1, p_.2.1, p_.2.2.1, p_.2.2.2.1, p_.2.2.2.2⟩ : S31))) Try.underlying31 rfl (by kernel_rfl) (fun m_ _ _ _ h_ => ⟨m_ + 1, h_⟩) (fun _ => rfl) (fun _ h_ => Ok31.mk _ h_.1 h_.2.1 h_.2.2.1 h_.2.2.2.1 h_.2.2.2.2.1 h_.2.2.2.2.2) fuel (fun n_ hn_ => (Rd.rdf_cons rfl (by kernel_rfl) (Rd.rd_int Try.underlying3 n_) (Rd.rdf_cons rfl (by kernel_rfl) (Rd.rd_int Try.underlying3 n_) (Rd.rdf_cons rfl (by kernel_rfl) (Rd.rd_string Try.underlying9 n_) (Rd.rdf_cons rfl (by kernel_rfl) (Rd.rd_slice (B := 16) Try.underlying28 (by kernel_rfl) (by kernel_rfl) n_ (fun m_ _ => (Rd.rd_string Try.underlying9 m_))) (Rd.rdf_self mono31 rfl (by kernel_rfl) (Rd.rd_slice (B := 80) Try.underlying29 (by kernel_rfl) (by kernel_rfl) n_ (fun m_ hm_ => ih m_ (by omega)))))))))
def Ok33 (x : S33) : Prop := x.f0.size ≤ 140737488351232 ∧ Ok31 x.f1
theorem Ok33.mk (x : S33) (h0 : x.f0.size ≤ 140737488351232) (h1 : Ok31 x.f1) : Ok33 x := ⟨h0, h1⟩
theorem rd33 : ∀ fuel, Rd.RdU Try.prog k33 33 Ok33 fuel := by
  intro fuel
  exact Rd.rd_struct (k := k33) (d := fun m_ => (Kd.pair Kd.string k31)) (f := (fun x : S33 => (x.f0, x.f1))) (g := (fun p_ => (⟨p_.1, p_.2⟩ : S33))) Try.underlying33 rfl (by kernel_rfl) (fun _ _ _ _ h_ => h_) (fun _ => rfl) (fun _ h_ => Ok33.mk _ h_.1 h_.2) fuel (fun n_ hn_ => (Rd.rdf_cons rfl (by kernel_rfl) (Rd.rd_string Try.underlying9 n_) (Rd.rdf_one rfl (by kernel_rfl) (rd31 n_))))
open Go.Proofs.YtalmhbiedkjpmaaW.Mine
theorem ok_okt : ∀ (n : Nat) (x : S31), SizeOf.sizeOf x < n → Ok31 x → Okt x
  | 0, _, h, _ => absurd h (Nat.not_lt_zero _)
  | n + 1, x, h, o => .mk x (by have := o.parts.2.2.2.1.1; omega) o.parts.2.2.2.2.1 (fun y hy => ok_okt n y (by have := size_args x y hy; omega) (o.parts.2.2.2.2.2 y hy))
theorem okt {x : S31} (o : Ok31 x) : Okt x := ok_okt _ x (Nat.lt_succ_self _) o
theorem limbecklaw20_CtxPlays_walk (x0 : List (S33)) (A0 : Option Addr) (c0 : Nat) (x1 : List (S33)) (A1 : Option Addr) (c1 : Nat) (x2 : ByteArray) (w : World) (hr0 : Kd.C k33 w A0 x0.length x0) (hc0 : x0.length ≤ c0) (hr1 : Kd.C k33 w A1 x1.length x1) (hc1 : x1.length ≤ c1) (o0 : (x0.length * 96 ≤ 140737488351232 ∧ ∀ y, y ∈ x0 → Ok33 y)) (o1 : (x1.length * 96 ≤ 140737488351232 ∧ ∀ y, y ∈ x1 → Ok33 y)) (o2 : x2.size ≤ 140737488351232) :
    Calls Try.prog 3 #[.slice A0 x0.length c0, .slice A1 x1.length c1, .string x2] w fun e w' => e = .returned (.bool true) ∧ Below w.heap.size w w' := by
  exact plays_c x0 x1 x2 o0.1 o1.1 (fun y hy => okt (o0.2 y hy).2) (fun y hy => okt (o1.2 y hy).2) hr0 hc0 hr1 hc1
end Go.Proofs.Ytalmhbiedkjpmaa.PCtxPlays
