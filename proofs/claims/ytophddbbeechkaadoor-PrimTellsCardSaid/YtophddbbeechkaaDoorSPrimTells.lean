/-
  PrimTells: the pure statement that is left of the law, what is known of what it is given, and the walk that follows. No conditions but the reach of what is read.
-/
import Derived.Test.YtophddbbeechkaaDoorW10
import Derived.Test.YtophddbbeechkaaDoorWRd
import Derived.KernelRfl
namespace Go.Proofs.YtophddbbeechkaaDoor.PPrimTells
open Go.RowKit Go.Proofs.YtophddbbeechkaaDoorW.PrintWords Go.Proofs.YtophddbbeechkaaDoorW.PrintLast Go.Proofs.YtophddbbeechkaaDoorW.PrintMore Go.Proofs.YtophddbbeechkaaDoorW
set_option linter.unusedVariables false
def Ok23 (x : S23) : Prop := x.f0.size ≤ 140737488351232 ∧ (Lit.int .i64 x.f1).wf = true
theorem Ok23.mk (x : S23) (h0 : x.f0.size ≤ 140737488351232) (h1 : (Lit.int .i64 x.f1).wf = true) : Ok23 x := ⟨h0, h1⟩
theorem rd23 : ∀ fuel, Rd.RdU Tryd.prog k23 23 Ok23 fuel := by
  intro fuel
  exact Rd.rd_struct (k := k23) (d := fun m_ => (Kd.pair Kd.string (Kd.int .i64))) (f := (fun x : S23 => (x.f0, x.f1))) (g := (fun p_ => (⟨p_.1, p_.2⟩ : S23))) Tryd.underlying23 rfl (by kernel_rfl) (fun _ _ _ _ h_ => h_) (fun _ => rfl) (fun _ h_ => Ok23.mk _ h_.1 h_.2) fuel (fun n_ hn_ => (Rd.rdf_cons rfl (by kernel_rfl) (Rd.rd_string Tryd.underlying9 n_) (Rd.rdf_one rfl (by kernel_rfl) (Rd.rd_int Tryd.underlying3 n_))))
inductive Ok47 : S47 → Prop
  | mk (x : S47) (h0 : (Lit.int .i64 x.f0).wf = true) (h1 : (Lit.int .i64 x.f1).wf = true) (h2 : x.f2.size ≤ 140737488351232) (h3 : (x.f3.length * 16 ≤ 140737488351232 ∧ ∀ y, y ∈ x.f3 → y.size ≤ 140737488351232)) (hl : x.f4.length * 80 ≤ 140737488351232) (hs : ∀ y, y ∈ x.f4 → Ok47 y) : Ok47 x
theorem Ok47.parts {x : S47} (h : Ok47 x) : (Lit.int .i64 x.f0).wf = true ∧ (Lit.int .i64 x.f1).wf = true ∧ x.f2.size ≤ 140737488351232 ∧ (x.f3.length * 16 ≤ 140737488351232 ∧ ∀ y, y ∈ x.f3 → y.size ≤ 140737488351232) ∧ (x.f4.length * 80 ≤ 140737488351232 ∧ ∀ y, y ∈ x.f4 → Ok47 y) := by
  cases h with
  | mk _ h0 h1 h2 h3 hl hs => exact ⟨h0, h1, h2, h3, hl, hs⟩
theorem rd47 : ∀ fuel, Rd.RdU Tryd.prog k47 47 Ok47 fuel := by
  intro fuel
  induction fuel using Nat.strongRecOn with
  | _ fuel ih =>
  exact Rd.rd_struct (k := k47) (d := fun m_ => (Kd.pair (Kd.int .i64) (Kd.pair (Kd.int .i64) (Kd.pair Kd.string (Kd.pair (Kd.slice 9 Kd.string) (Kd.slice 47 (Kd.upto F47 5 [9, 47] m_))))))) (f := (fun x : S47 => (x.f0, x.f1, x.f2, x.f3, x.f4))) (g := (fun p_ => (⟨p_.1, p_.2.1, p_.2.2.1, p_.2.2.2.1, p_.2.2.2.2⟩ : S47))) Tryd.underlying47 rfl (by kernel_rfl) (fun m_ _ _ _ h_ => ⟨m_ + 1, h_⟩) (fun _ => rfl) (fun _ h_ => Ok47.mk _ h_.1 h_.2.1 h_.2.2.1 h_.2.2.2.1 h_.2.2.2.2.1 h_.2.2.2.2.2) fuel (fun n_ hn_ => (Rd.rdf_cons rfl (by kernel_rfl) (Rd.rd_int Tryd.underlying3 n_) (Rd.rdf_cons rfl (by kernel_rfl) (Rd.rd_int Tryd.underlying3 n_) (Rd.rdf_cons rfl (by kernel_rfl) (Rd.rd_string Tryd.underlying9 n_) (Rd.rdf_cons rfl (by kernel_rfl) (Rd.rd_slice (B := 16) Tryd.underlying25 (by kernel_rfl) (by kernel_rfl) n_ (fun m_ _ => (Rd.rd_string Tryd.underlying9 m_))) (Rd.rdf_self mono47 rfl (by kernel_rfl) (Rd.rd_slice (B := 80) Tryd.underlying24 (by kernel_rfl) (by kernel_rfl) n_ (fun m_ hm_ => ih m_ (by omega)))))))))
inductive Ok28 : S28 → Prop
  | mk (x : S28) (h0 : (Lit.int .i64 x.f0).wf = true) (h1 : (Lit.int .i64 x.f1).wf = true) (h2 : (Lit.int .i64 x.f2).wf = true) (h3 : True) (h4 : x.f4.size ≤ 140737488351232) (h5 : Ok23 x.f5) (h6 : (x.f6.length * 80 ≤ 140737488351232 ∧ ∀ y, y ∈ x.f6 → Ok47 y)) (h7 : (x.f7.length * 16 ≤ 140737488351232 ∧ ∀ y, y ∈ x.f7 → y.size ≤ 140737488351232)) (hl : x.f8.length * 144 ≤ 140737488351232) (hs : ∀ y, y ∈ x.f8 → Ok28 y) : Ok28 x
theorem Ok28.parts {x : S28} (h : Ok28 x) : (Lit.int .i64 x.f0).wf = true ∧ (Lit.int .i64 x.f1).wf = true ∧ (Lit.int .i64 x.f2).wf = true ∧ True ∧ x.f4.size ≤ 140737488351232 ∧ Ok23 x.f5 ∧ (x.f6.length * 80 ≤ 140737488351232 ∧ ∀ y, y ∈ x.f6 → Ok47 y) ∧ (x.f7.length * 16 ≤ 140737488351232 ∧ ∀ y, y ∈ x.f7 → y.size ≤ 140737488351232) ∧ (x.f8.length * 144 ≤ 140737488351232 ∧ ∀ y, y ∈ x.f8 → Ok28 y) := by
  cases h with
  | mk _ h0 h1 h2 h3 h4 h5 h6 h7 hl hs => exact ⟨h0, h1, h2, h3, h4, h5, h6, h7, hl, hs⟩
theorem rd28 : ∀ fuel, Rd.RdU Tryd.prog k28 28 Ok28 fuel := by
  intro fuel
  induction fuel using Nat.strongRecOn with
  | _ fuel ih =>
  exact Rd.rd_struct (k := k28) (d := fun m_ => (Kd.pair (Kd.int .i64) (Kd.pair (Kd.int .i64) (Kd.pair (Kd.int .i64) (Kd.pair Kd.bool (Kd.pair Kd.string (Kd.pair k23 (Kd.pair (Kd.slice 47 k47) (Kd.pair (Kd.slice 9 Kd.string) (Kd.slice 28 (Kd.upto F28 10 [9, 28, 47] m_))))))))))) (f := (fun x : S28 => (x.f0, x.f1, x.f2, x.f3, x.f4, x.f5, x.f6, x.f7, x.f8))) (g := (fun p_ => (⟨p_.1, p_.2.1, p_.2.2.1, p_.2.2.2.1, p_.2.2.2.2.1, p_.2.2.2.2.2.1, p_.2.2.2.2.2.2.1, p_.2.2.2.2.2.2.2.1, p_.2.2.2.2.2.2.2.2⟩ : S28))) Tryd.underlying28 rfl (by kernel_rfl) (fun m_ _ _ _ h_ => ⟨m_ + 1, h_⟩) (fun _ => rfl) (fun _ h_ => Ok28.mk _ h_.1 h_.2.1 h_.2.2.1 h_.2.2.2.1 h_.2.2.2.2.1 h_.2.2.2.2.2.1 h_.2.2.2.2.2.2.1 h_.2.2.2.2.2.2.2.1 h_.2.2.2.2.2.2.2.2.1 h_.2.2.2.2.2.2.2.2.2) fuel (fun n_ hn_ => (Rd.rdf_cons rfl (by kernel_rfl) (Rd.rd_int Tryd.underlying3 n_) (Rd.rdf_cons rfl (by kernel_rfl) (Rd.rd_int Tryd.underlying3 n_) (Rd.rdf_cons rfl (by kernel_rfl) (Rd.rd_int Tryd.underlying3 n_) (Rd.rdf_cons rfl (by kernel_rfl) (Rd.rd_bool Tryd.underlying4 n_) (Rd.rdf_cons rfl (by kernel_rfl) (Rd.rd_string Tryd.underlying9 n_) (Rd.rdf_cons rfl (by kernel_rfl) (rd23 n_) (Rd.rdf_cons rfl (by kernel_rfl) (Rd.rd_slice (B := 80) Tryd.underlying24 (by kernel_rfl) (by kernel_rfl) n_ (fun m_ _ => (rd47 m_))) (Rd.rdf_cons rfl (by kernel_rfl) (Rd.rd_slice (B := 16) Tryd.underlying25 (by kernel_rfl) (by kernel_rfl) n_ (fun m_ _ => (Rd.rd_string Tryd.underlying9 m_))) (Rd.rdf_self mono28 rfl (by kernel_rfl) (Rd.rd_slice (B := 144) Tryd.underlying26 (by kernel_rfl) (by kernel_rfl) n_ (fun m_ hm_ => ih m_ (by omega)))))))))))))
/-- The one pure statement. -/
def limbecklaw32_PrimTells.Pure : Prop := ∀ (x0 : Int) (x1 : S28) (x2 : S28), (Lit.int .i64 x0).wf = true → Ok28 x1 → Ok28 x2 → ∃ k, limbecklaw32_PrimTells.f k x0 x1.f0 x1.f1 x1.f2 x1.f3 x1.f4 x1.f5.f0 x1.f5.f1 x1.f6 x1.f7 x1.f8 x2.f0 x2.f1 x2.f2 x2.f3 x2.f4 x2.f5.f0 x2.f5.f1 x2.f6 x2.f7 x2.f8 = some true
theorem limbecklaw32_PrimTells.walk (P : limbecklaw32_PrimTells.Pure) (x0 : Int) (x1 : S28) (A1_7 : Option Addr) (c1_7 : Nat) (A1_8 : Option Addr) (c1_8 : Nat) (A1_9 : Option Addr) (c1_9 : Nat) (x2 : S28) (A2_7 : Option Addr) (c2_7 : Nat) (A2_8 : Option Addr) (c2_8 : Nat) (A2_9 : Option Addr) (c2_9 : Nat) (w : World) (hr1_7 : Kd.C k47 w A1_7 x1.f6.length x1.f6) (hc1_7 : x1.f6.length ≤ c1_7) (hr1_8 : Kd.C Kd.string w A1_8 x1.f7.length x1.f7) (hc1_8 : x1.f7.length ≤ c1_8) (hr1_9 : Kd.C k28 w A1_9 x1.f8.length x1.f8) (hc1_9 : x1.f8.length ≤ c1_9) (hr2_7 : Kd.C k47 w A2_7 x2.f6.length x2.f6) (hc2_7 : x2.f6.length ≤ c2_7) (hr2_8 : Kd.C Kd.string w A2_8 x2.f7.length x2.f7) (hc2_8 : x2.f7.length ≤ c2_8) (hr2_9 : Kd.C k28 w A2_9 x2.f8.length x2.f8) (hc2_9 : x2.f8.length ≤ c2_9) (o0 : (Lit.int .i64 x0).wf = true) (o1 : Ok28 x1) (o2 : Ok28 x2) (hG : Go.Proofs.YtophddbbeechkaaDoor.W1.GW w) :
    Calls Tryd.prog 3 #[.int .i64 x0, .agg #[.int .i64 x1.f0, .int .i64 x1.f1, .int .i64 x1.f2, .bool x1.f3, .string x1.f4, .string x1.f5.f0, .int .i64 x1.f5.f1, .slice A1_7 x1.f6.length c1_7, .slice A1_8 x1.f7.length c1_8, .slice A1_9 x1.f8.length c1_9], .agg #[.int .i64 x2.f0, .int .i64 x2.f1, .int .i64 x2.f2, .bool x2.f3, .string x2.f4, .string x2.f5.f0, .int .i64 x2.f5.f1, .slice A2_7 x2.f6.length c2_7, .slice A2_8 x2.f7.length c2_8, .slice A2_9 x2.f8.length c2_9]] w fun e w' => e = .returned (.bool true) ∧ Below w.heap.size w w' := by
  obtain ⟨k, h⟩ := P x0 x1 x2 o0 o1 o2
  refine (tells_c k x0 x1.f0 x1.f1 x1.f2 x1.f3 x1.f4 x1.f5.f0 x1.f5.f1 A1_7 c1_7 x1.f6 A1_8 c1_8 x1.f7 A1_9 c1_9 x1.f8 x2.f0 x2.f1 x2.f2 x2.f3 x2.f4 x2.f5.f0 x2.f5.f1 A2_7 c2_7 x2.f6 A2_8 c2_8 x2.f7 A2_9 c2_9 x2.f8 true w hr1_7 hc1_7 hr1_8 hc1_8 hr1_9 hc1_9 hr2_7 hc2_7 hr2_8 hc2_8 hr2_9 hc2_9 hG h).mono ?_
  rintro e w' ⟨rfl, hd⟩
  exact ⟨rfl, hd⟩
end Go.Proofs.YtophddbbeechkaaDoor.PPrimTells
