/-
  EnvPlays: what is known of what it is given, and the walk that follows. No conditions but the reach of what is read.
-/
import Derived.Test.YtalmhbiedkjpmaaF3
import Derived.Test.YtalmhbiedkjpmaaWRd
import Derived.KernelRfl
namespace Go.Proofs.Ytalmhbiedkjpmaa.PEnvPlays
open Go.RowKit Go.Proofs.YtalmhbiedkjpmaaW.PrintWords Go.Proofs.YtalmhbiedkjpmaaW.PrintLast Go.Proofs.YtalmhbiedkjpmaaW.PrintMore Go.Proofs.YtalmhbiedkjpmaaW
set_option linter.unusedVariables false
def Ok49 (x : S49) : Prop := x.f0.size ≤ 140737488351232 ∧ (Lit.int .i64 x.f1).wf = true
theorem Ok49.mk (x : S49) (h0 : x.f0.size ≤ 140737488351232) (h1 : (Lit.int .i64 x.f1).wf = true) : Ok49 x := ⟨h0, h1⟩
theorem rd49 : ∀ fuel, Rd.RdU Try.prog k49 49 Ok49 fuel := by
  intro fuel
  exact Rd.rd_struct (k := k49) (d := fun m_ => (Kd.pair Kd.string (Kd.int .i64))) (f := (fun x : S49 => (x.f0, x.f1))) (g := (fun p_ => (⟨p_.1, p_.2⟩ : S49))) Try.underlying49 rfl (by kernel_rfl) (fun _ _ _ _ h_ => h_) (fun _ => rfl) (fun _ h_ => Ok49.mk _ h_.1 h_.2) fuel (fun n_ hn_ => (Rd.rdf_cons rfl (by kernel_rfl) (Rd.rd_string Try.underlying9 n_) (Rd.rdf_one rfl (by kernel_rfl) (Rd.rd_int Try.underlying3 n_))))
inductive Ok31 : S31 → Prop
  | mk (x : S31) (h0 : (Lit.int .i64 x.f0).wf = true) (h1 : (Lit.int .i64 x.f1).wf = true) (h2 : x.f2.size ≤ 140737488351232) (h3 : (x.f3.length * 16 ≤ 140737488351232 ∧ ∀ y, y ∈ x.f3 → y.size ≤ 140737488351232)) (hl : x.f4.length * 80 ≤ 140737488351232) (hs : ∀ y, y ∈ x.f4 → Ok31 y) : Ok31 x
theorem Ok31.parts {x : S31} (h : Ok31 x) : (Lit.int .i64 x.f0).wf = true ∧ (Lit.int .i64 x.f1).wf = true ∧ x.f2.size ≤ 140737488351232 ∧ (x.f3.length * 16 ≤ 140737488351232 ∧ ∀ y, y ∈ x.f3 → y.size ≤ 140737488351232) ∧ (x.f4.length * 80 ≤ 140737488351232 ∧ ∀ y, y ∈ x.f4 → Ok31 y) := by
  cases h with
  | mk _ h0 h1 h2 h3 hl hs => exact ⟨h0, h1, h2, h3, hl, hs⟩
theorem rd31 : ∀ fuel, Rd.RdU Try.prog k31 31 Ok31 fuel := by
  intro fuel
  induction fuel using Nat.strongRecOn with
  | _ fuel ih =>
  exact Rd.rd_struct (k := k31) (d := fun m_ => (Kd.pair (Kd.int .i64) (Kd.pair (Kd.int .i64) (Kd.pair Kd.string (Kd.pair (Kd.slice 9 Kd.string) (Kd.slice 31 (Kd.upto F31 5 [9, 31] m_))))))) (f := (fun x : S31 => (x.f0, x.f1, x.f2, x.f3, x.f4))) (g := (fun p_ => (⟨p_.1, p_.2.1, p_.2.2.1, p_.2.2.2.1, p_.2.2.2.2⟩ : S31))) Try.underlying31 rfl (by kernel_rfl) (fun m_ _ _ _ h_ => ⟨m_ + 1, h_⟩) (fun _ => rfl) (fun _ h_ => Ok31.mk _ h_.1 h_.2.1 h_.2.2.1 h_.2.2.2.1 h_.2.2.2.2.1 h_.2.2.2.2.2) fuel (fun n_ hn_ => (Rd.rdf_cons rfl (by kernel_rfl) (Rd.rd_int Try.underlying3 n_) (Rd.rdf_cons rfl (by kernel_rfl) (Rd.rd_int Try.underlying3 n_) (Rd.rdf_cons rfl (by kernel_rfl) (Rd.rd_string Try.underlying9 n_) (Rd.rdf_cons rfl (by kernel_rfl) (Rd.rd_slice (B := 16) Try.underlying28 (by kernel_rfl) (by kernel_rfl) n_ (fun m_ _ => (Rd.rd_string Try.underlying9 m_))) (Rd.rdf_self mono31 rfl (by kernel_rfl) (Rd.rd_slice (B := 80) Try.underlying29 (by kernel_rfl) (by kernel_rfl) n_ (fun m_ hm_ => ih m_ (by omega)))))))))
inductive Ok52 : S52 → Prop
  | mk (x : S52) (h0 : (Lit.int .i64 x.f0).wf = true) (h1 : (Lit.int .i64 x.f1).wf = true) (h2 : (Lit.int .i64 x.f2).wf = true) (h3 : True) (h4 : x.f4.size ≤ 140737488351232) (h5 : Ok49 x.f5) (h6 : (x.f6.length * 80 ≤ 140737488351232 ∧ ∀ y, y ∈ x.f6 → Ok31 y)) (h7 : (x.f7.length * 16 ≤ 140737488351232 ∧ ∀ y, y ∈ x.f7 → y.size ≤ 140737488351232)) (hl : x.f8.length * 144 ≤ 140737488351232) (hs : ∀ y, y ∈ x.f8 → Ok52 y) : Ok52 x
theorem Ok52.parts {x : S52} (h : Ok52 x) : (Lit.int .i64 x.f0).wf = true ∧ (Lit.int .i64 x.f1).wf = true ∧ (Lit.int .i64 x.f2).wf = true ∧ True ∧ x.f4.size ≤ 140737488351232 ∧ Ok49 x.f5 ∧ (x.f6.length * 80 ≤ 140737488351232 ∧ ∀ y, y ∈ x.f6 → Ok31 y) ∧ (x.f7.length * 16 ≤ 140737488351232 ∧ ∀ y, y ∈ x.f7 → y.size ≤ 140737488351232) ∧ (x.f8.length * 144 ≤ 140737488351232 ∧ ∀ y, y ∈ x.f8 → Ok52 y) := by
  cases h with
  | mk _ h0 h1 h2 h3 h4 h5 h6 h7 hl hs => exact ⟨h0, h1, h2, h3, h4, h5, h6, h7, hl, hs⟩
theorem rd52 : ∀ fuel, Rd.RdU Try.prog k52 52 Ok52 fuel := by
  intro fuel
  induction fuel using Nat.strongRecOn with
  | _ fuel ih =>
  exact Rd.rd_struct (k := k52) (d := fun m_ => (Kd.pair (Kd.int .i64) (Kd.pair (Kd.int .i64) (Kd.pair (Kd.int .i64) (Kd.pair Kd.bool (Kd.pair Kd.string (Kd.pair k49 (Kd.pair (Kd.slice 31 k31) (Kd.pair (Kd.slice 9 Kd.string) (Kd.slice 52 (Kd.upto F52 10 [9, 31, 52] m_))))))))))) (f := (fun x : S52 => (x.f0, x.f1, x.f2, x.f3, x.f4, x.f5, x.f6, x.f7, x.f8))) (g := (fun p_ => (⟨p_.1, p_.2.1, p_.2.2.1, p_.2.2.2.1, p_.2.2.2.2.1, p_.2.2.2.2.2.1, p_.2.2.2.2.2.2.1, p_.2.2.2.2.2.2.2.1, p_.2.2.2.2.2.2.2.2⟩ : S52))) Try.underlying52 rfl (by kernel_rfl) (fun m_ _ _ _ h_ => ⟨m_ + 1, h_⟩) (fun _ => rfl) (fun _ h_ => Ok52.mk _ h_.1 h_.2.1 h_.2.2.1 h_.2.2.2.1 h_.2.2.2.2.1 h_.2.2.2.2.2.1 h_.2.2.2.2.2.2.1 h_.2.2.2.2.2.2.2.1 h_.2.2.2.2.2.2.2.2.1 h_.2.2.2.2.2.2.2.2.2) fuel (fun n_ hn_ => (Rd.rdf_cons rfl (by kernel_rfl) (Rd.rd_int Try.underlying3 n_) (Rd.rdf_cons rfl (by kernel_rfl) (Rd.rd_int Try.underlying3 n_) (Rd.rdf_cons rfl (by kernel_rfl) (Rd.rd_int Try.underlying3 n_) (Rd.rdf_cons rfl (by kernel_rfl) (Rd.rd_bool Try.underlying4 n_) (Rd.rdf_cons rfl (by kernel_rfl) (Rd.rd_string Try.underlying9 n_) (Rd.rdf_cons rfl (by kernel_rfl) (rd49 n_) (Rd.rdf_cons rfl (by kernel_rfl) (Rd.rd_slice (B := 80) Try.underlying29 (by kernel_rfl) (by kernel_rfl) n_ (fun m_ _ => (rd31 m_))) (Rd.rdf_cons rfl (by kernel_rfl) (Rd.rd_slice (B := 16) Try.underlying28 (by kernel_rfl) (by kernel_rfl) n_ (fun m_ _ => (Rd.rd_string Try.underlying9 m_))) (Rd.rdf_self mono52 rfl (by kernel_rfl) (Rd.rd_slice (B := 144) Try.underlying50 (by kernel_rfl) (by kernel_rfl) n_ (fun m_ hm_ => ih m_ (by omega)))))))))))))
def Ok54 (x : S54) : Prop := x.f0.size ≤ 140737488351232 ∧ Ok52 x.f1
theorem Ok54.mk (x : S54) (h0 : x.f0.size ≤ 140737488351232) (h1 : Ok52 x.f1) : Ok54 x := ⟨h0, h1⟩
theorem rd54 : ∀ fuel, Rd.RdU Try.prog k54 54 Ok54 fuel := by
  intro fuel
  exact Rd.rd_struct (k := k54) (d := fun m_ => (Kd.pair Kd.string k52)) (f := (fun x : S54 => (x.f0, x.f1))) (g := (fun p_ => (⟨p_.1, p_.2⟩ : S54))) Try.underlying54 rfl (by kernel_rfl) (fun _ _ _ _ h_ => h_) (fun _ => rfl) (fun _ h_ => Ok54.mk _ h_.1 h_.2) fuel (fun n_ hn_ => (Rd.rdf_cons rfl (by kernel_rfl) (Rd.rd_string Try.underlying9 n_) (Rd.rdf_one rfl (by kernel_rfl) (rd52 n_))))
def Ok33 (x : S33) : Prop := x.f0.size ≤ 140737488351232 ∧ Ok31 x.f1
theorem Ok33.mk (x : S33) (h0 : x.f0.size ≤ 140737488351232) (h1 : Ok31 x.f1) : Ok33 x := ⟨h0, h1⟩
theorem rd33 : ∀ fuel, Rd.RdU Try.prog k33 33 Ok33 fuel := by
  intro fuel
  exact Rd.rd_struct (k := k33) (d := fun m_ => (Kd.pair Kd.string k31)) (f := (fun x : S33 => (x.f0, x.f1))) (g := (fun p_ => (⟨p_.1, p_.2⟩ : S33))) Try.underlying33 rfl (by kernel_rfl) (fun _ _ _ _ h_ => h_) (fun _ => rfl) (fun _ h_ => Ok33.mk _ h_.1 h_.2) fuel (fun n_ hn_ => (Rd.rdf_cons rfl (by kernel_rfl) (Rd.rd_string Try.underlying9 n_) (Rd.rdf_one rfl (by kernel_rfl) (rd31 n_))))
open Go.Proofs.YtalmhbiedkjpmaaW.Mine
theorem ok_okt : ∀ (n : Nat) (x : S31), SizeOf.sizeOf x < n → Ok31 x → Okt x
  | 0, _, h, _ => absurd h (Nat.not_lt_zero _)
  | n + 1, x, h, o => .mk x (by have := o.parts.2.2.2.1.1; omega) o.parts.2.2.2.2.1 (fun y hy => ok_okt n y (by have := size_args x y hy; omega) (o.parts.2.2.2.2.2 y hy))
theorem okt {x : S31} (o : Ok31 x) : Okt x := ok_okt _ x (Nat.lt_succ_self _) o
theorem ok_okv : ∀ (n : Nat) (x : S52), SizeOf.sizeOf x < n → Ok52 x → Okv x
  | 0, _, h, _ => absurd h (Nat.not_lt_zero _)
  | n + 1, x, h, o => by
    obtain ⟨_, _, _, _, _, _, h6, h7, h8⟩ := o.parts
    exact .mk x h6.1 (fun y hy => okt (h6.2 y hy)) (by have := h7.1; omega) h8.1 (fun y hy => ok_okv n y (by have := size_kids x y hy; omega) (h8.2 y hy))
theorem okv {x : S52} (o : Ok52 x) : Okv x := ok_okv _ x (Nat.lt_succ_self _) o
theorem limbecklaw34_EnvPlays_walk (x0 : List ByteArray) (A0 : Option Addr) (c0 : Nat) (x1 : Int) (x2 : List (S54)) (A2 : Option Addr) (c2 : Nat) (x3 : ByteArray) (x4 : List (S33)) (A4 : Option Addr) (c4 : Nat) (w : World) (hr0 : Kd.C Kd.string w A0 x0.length x0) (hc0 : x0.length ≤ c0) (hr2 : Kd.C k54 w A2 x2.length x2) (hc2 : x2.length ≤ c2) (hr4 : Kd.C k33 w A4 x4.length x4) (hc4 : x4.length ≤ c4) (o0 : (x0.length * 16 ≤ 140737488351232 ∧ ∀ y, y ∈ x0 → y.size ≤ 140737488351232)) (o1 : (Lit.int .i64 x1).wf = true) (o2 : (x2.length * 160 ≤ 140737488351232 ∧ ∀ y, y ∈ x2 → Ok54 y)) (o3 : x3.size ≤ 140737488351232) (o4 : (x4.length * 96 ≤ 140737488351232 ∧ ∀ y, y ∈ x4 → Ok33 y)) :
    Calls Try.prog 8 #[.slice A0 x0.length c0, .int .i64 x1, .slice A2 x2.length c2, .string x3, .slice A4 x4.length c4] w fun e w' => e = .returned (.bool true) ∧ Below w.heap.size w w' := by
  exact plays_c x0 x1 x2 x3 x4 o0.1 o2.1 o4.1 (fun y hy => okv (o2.2 y hy).2) (fun y hy => okt (o4.2 y hy).2) ⟨hr0, hc0⟩ ⟨hr2, hc2⟩ ⟨hr4, hc4⟩
end Go.Proofs.Ytalmhbiedkjpmaa.PEnvPlays
