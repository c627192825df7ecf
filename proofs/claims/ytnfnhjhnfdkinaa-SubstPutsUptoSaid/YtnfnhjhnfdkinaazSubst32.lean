/-
  Subst: texts of this claim, put together by a program of this session. No conditions beyond what each lemma says.
-/
import Derived.Test.YtnfnhjhnfdkinaazSubst30
import Derived.Test.YtnfnhjhnfdkinaazSubst31
import Derived.Test.YtnfnhjhnfdkinaazSubst20
import Derived.KernelRfl
namespace Go.Proofs.Ytnfnhjhnfdkinaa.PSubstPuts
open Go.RowKit Go.Proofs.YtnfnhjhnfdkinaaW.PrintWords Go.Proofs.YtnfnhjhnfdkinaaW.PrintLast Go.Proofs.YtnfnhjhnfdkinaaW.PrintMore Go.Proofs.YtnfnhjhnfdkinaaW
set_option linter.unusedVariables false
inductive Ok25 : S25 → Prop
  | mk (x : S25) (h0 : (Lit.int .i64 x.f0).wf = true) (h1 : (Lit.int .i64 x.f1).wf = true) (h2 : x.f2.size ≤ 140737488351232) (h3 : (x.f3.length * 16 ≤ 140737488351232 ∧ ∀ y, y ∈ x.f3 → y.size ≤ 140737488351232)) (hl : x.f4.length * 80 ≤ 140737488351232) (hs : ∀ y, y ∈ x.f4 → Ok25 y) : Ok25 x
theorem Ok25.parts {x : S25} (h : Ok25 x) : (Lit.int .i64 x.f0).wf = true ∧ (Lit.int .i64 x.f1).wf = true ∧ x.f2.size ≤ 140737488351232 ∧ (x.f3.length * 16 ≤ 140737488351232 ∧ ∀ y, y ∈ x.f3 → y.size ≤ 140737488351232) ∧ (x.f4.length * 80 ≤ 140737488351232 ∧ ∀ y, y ∈ x.f4 → Ok25 y) := by
  cases h with
  | mk _ h0 h1 h2 h3 hl hs => exact ⟨h0, h1, h2, h3, hl, hs⟩
theorem rd25 : ∀ fuel, Rd.RdU Try.prog k25 25 Ok25 fuel := by
  intro fuel
  induction fuel using Nat.strongRecOn with
  | _ fuel ih =>
  exact Rd.rd_struct (k := k25) (d := fun m_ => (Kd.pair (Kd.int .i64) (Kd.pair (Kd.int .i64) (Kd.pair Kd.string (Kd.pair (Kd.slice 9 Kd.string) (Kd.slice 25 (Kd.upto F25 5 [9, 25] m_))))))) (f := (fun x : S25 => (x.f0, x.f1, x.f2, x.f3, x.f4))) (g := (fun p_ => (⟨p_.1, p_.2.1, p_.2.2.1, p_.2.2.2.1, p_.2.2.2.2⟩ : S25))) Try.underlying25 rfl (by kernel_rfl) (fun m_ _ _ _ h_ => ⟨m_ + 1, h_⟩) (fun _ => rfl) (fun _ h_ => Ok25.mk _ h_.1 h_.2.1 h_.2.2.1 h_.2.2.2.1 h_.2.2.2.2.1 h_.2.2.2.2.2) fuel (fun n_ hn_ => (Rd.rdf_cons rfl (by kernel_rfl) (Rd.rd_int Try.underlying3 n_) (Rd.rdf_cons rfl (by kernel_rfl) (Rd.rd_int Try.underlying3 n_) (Rd.rdf_cons rfl (by kernel_rfl) (Rd.rd_string Try.underlying9 n_) (Rd.rdf_cons rfl (by kernel_rfl) (Rd.rd_slice (B := 16) Try.underlying22 (by kernel_rfl) (by kernel_rfl) n_ (fun m_ _ => (Rd.rd_string Try.underlying9 m_))) (Rd.rdf_self mono25 rfl (by kernel_rfl) (Rd.rd_slice (B := 80) Try.underlying23 (by kernel_rfl) (by kernel_rfl) n_ (fun m_ hm_ => ih m_ (by omega)))))))))
def Ok43 (x : S43) : Prop := x.f0.size ≤ 140737488351232 ∧ Ok25 x.f1
theorem Ok43.mk (x : S43) (h0 : x.f0.size ≤ 140737488351232) (h1 : Ok25 x.f1) : Ok43 x := ⟨h0, h1⟩
theorem rd43 : ∀ fuel, Rd.RdU Try.prog k43 43 Ok43 fuel := by
  intro fuel
  exact Rd.rd_struct (k := k43) (d := fun m_ => (Kd.pair Kd.string k25)) (f := (fun x : S43 => (x.f0, x.f1))) (g := (fun p_ => (⟨p_.1, p_.2⟩ : S43))) Try.underlying43 rfl (by kernel_rfl) (fun _ _ _ _ h_ => h_) (fun _ => rfl) (fun _ h_ => Ok43.mk _ h_.1 h_.2) fuel (fun n_ hn_ => (Rd.rdf_cons rfl (by kernel_rfl) (Rd.rd_string Try.underlying9 n_) (Rd.rdf_one rfl (by kernel_rfl) (rd25 n_))))
open Go.Proofs.YtnfnhjhnfdkinaaW.Mine
theorem ok_okt : ∀ (n : Nat) (x : S25), SizeOf.sizeOf x < n → Ok25 x → Okt x
  | 0, _, h, _ => absurd h (Nat.not_lt_zero _)
  | n + 1, x, h, o => .mk x (by have := o.parts.2.2.2.1.1; omega) o.parts.2.2.2.2.1 (fun y hy => ok_okt n y (by have := size_args x y hy; omega) (o.parts.2.2.2.2.2 y hy))
theorem okt {x : S25} (o : Ok25 x) : Okt x := ok_okt _ x (Nat.lt_succ_self _) o
theorem i64_rng {n : Int} (h : (Lit.int .i64 n).wf = true) : -9223372036854775808 ≤ n ∧ n ≤ 9223372036854775807 := by
  simp only [Lit.wf, Bool.and_eq_true, decide_eq_true_eq] at h
  have e : IntKind.max .i64 = 9223372036854775807 := by decide
  have e' : IntKind.min .i64 = -9223372036854775808 := by decide
  omega
theorem u16_rng {n : Int} (h : (Lit.int .u16 n).wf = true) : 0 ≤ n ∧ n < 65536 := by
  simp only [Lit.wf, Bool.and_eq_true, decide_eq_true_eq] at h
  have e : IntKind.max .u16 = 65535 := by decide
  have e' : IntKind.min .u16 = 0 := by decide
  omega
theorem ok_okn : ∀ (n : Nat) (x : S25), SizeOf.sizeOf x < n → Ok25 x → Sn x
  | 0, _, h, _ => absurd h (Nat.not_lt_zero _)
  | n + 1, x, h, o => .mk x o.parts.2.2.2.2.1 (i64_rng o.parts.2.1) (fun y hy => ok_okn n y (by have := size_args x y hy; omega) (o.parts.2.2.2.2.2 y hy))
theorem okn {x : S25} (o : Ok25 x) : Sn x := ok_okn _ x (Nat.lt_succ_self _) o
theorem rdB25 : ∀ fuel, RdB Try.prog k25 25 Ok25 nodes fuel := by
  intro fuel
  induction fuel using Nat.strongRecOn with
  | _ fuel ih =>
  exact rb_struct (k := k25) (d := fun m_ => (Kd.pair (Kd.int .i64) (Kd.pair (Kd.int .i64) (Kd.pair Kd.string (Kd.pair (Kd.slice 9 Kd.string) (Kd.slice 25 (Kd.upto F25 5 [9, 25] m_))))))) (f := (fun x : S25 => (x.f0, x.f1, x.f2, x.f3, x.f4))) (g := (fun p_ => (⟨p_.1, p_.2.1, p_.2.2.1, p_.2.2.2.1, p_.2.2.2.2⟩ : S25))) Try.underlying25 rfl (by kernel_rfl) (fun m_ _ _ _ h_ => ⟨m_ + 1, h_⟩) (fun _ => rfl) (fun _ h_ => Ok25.mk _ h_.1 h_.2.1 h_.2.2.1 h_.2.2.2.1 h_.2.2.2.2.1 h_.2.2.2.2.2) (fun a_ => by rw [nodes_eq]; exact Nat.le_of_eq (congrArg (· + 1) (nodes_sum _).symm)) fuel (fun n_ hn_ => (fb_cons rfl (by kernel_rfl) (Rd.rd_int Try.underlying3 n_) (fb_cons rfl (by kernel_rfl) (Rd.rd_int Try.underlying3 n_) (fb_cons rfl (by kernel_rfl) (Rd.rd_string Try.underlying9 n_) (fb_cons rfl (by kernel_rfl) (Rd.rd_slice (B := 16) Try.underlying22 (by kernel_rfl) (by kernel_rfl) n_ (fun m_ _ => (Rd.rd_string Try.underlying9 m_))) (fb_self mono25 rfl (by kernel_rfl) (rb_slice (B := 80) Try.underlying23 (by kernel_rfl) (by kernel_rfl) n_ (fun m_ hm_ => ih m_ (by omega)))))))))
theorem rdB43 : ∀ fuel, RdB Try.prog k43 43 Ok43 (fun b => nodes b.f1) fuel := by
  intro fuel
  exact rb_struct (k := k43) (d := fun m_ => (Kd.pair Kd.string k25)) (f := (fun x : S43 => (x.f0, x.f1))) (g := (fun p_ => (⟨p_.1, p_.2⟩ : S43))) Try.underlying43 rfl (by kernel_rfl) (fun _ _ _ _ h_ => h_) (fun _ => rfl) (fun _ h_ => Ok43.mk _ h_.1 h_.2) (fun a_ => Nat.le_succ _) fuel (fun n_ hn_ => (fb_cons rfl (by kernel_rfl) (Rd.rd_string Try.underlying9 n_) (fb_one rfl (by kernel_rfl) (rdB25 n_))))
theorem limbecklaw07_SubstPuts_walk (x0 : S25) (A0_3 : Option Addr) (c0_3 : Nat) (A0_4 : Option Addr) (c0_4 : Nat) (x1 : List (S43)) (A1 : Option Addr) (c1 : Nat) (x2 : List (S43)) (A2 : Option Addr) (c2 : Nat) (w : World) (hr0_3 : Kd.C Kd.string w A0_3 x0.f3.length x0.f3) (hc0_3 : x0.f3.length ≤ c0_3) (hr0_4 : Kd.C k25 w A0_4 x0.f4.length x0.f4) (hc0_4 : x0.f4.length ≤ c0_4) (hr1 : Kd.C k43 w A1 x1.length x1) (hc1 : x1.length ≤ c1) (hr2 : Kd.C k43 w A2 x2.length x2) (hc2 : x2.length ≤ c2) (o0 : Ok25 x0) (o1 : (x1.length * 96 ≤ 140737488351232 ∧ ∀ y, y ∈ x1 → Ok43 y)) (o2 : (x2.length * 96 ≤ 140737488351232 ∧ ∀ y, y ∈ x2 → Ok43 y)) (b0 : nodes x0 ≤ 1048576) (b1 : (x1.map (fun b => nodes b.f1)).sum ≤ 1048576) (b2 : (x2.map (fun b => nodes b.f1)).sum ≤ 1048576) :
    Calls Try.prog 13 #[.agg #[.int .i64 x0.f0, .int .i64 x0.f1, .string x0.f2, .slice A0_3 x0.f3.length c0_3, .slice A0_4 x0.f4.length c0_4], .slice A1 x1.length c1, .slice A2 x2.length c2] w fun e w' => e = .returned (.bool true) ∧ Below w.heap.size w w' := by
  exact puts_c x0 x1 x2 (okt o0) (fun y hy => okt (o1.2 y hy).2) (fun y hy => okt (o2.2 y hy).2) o1.1 o2.1 b0 (mem_sum b1) (mem_sum b2) ⟨hc0_3, hr0_3, hc0_4, hr0_4⟩ ⟨hr1, hc1⟩ ⟨hr2, hc2⟩
end Go.Proofs.Ytnfnhjhnfdkinaa.PSubstPuts
