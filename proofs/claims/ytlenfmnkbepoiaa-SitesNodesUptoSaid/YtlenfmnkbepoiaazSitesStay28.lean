/-
  SitesStay: texts of this claim, put together by a program of this session. No conditions beyond what each lemma says.
-/
import Derived.Test.YtlenfmnkbepoiaazSitesStay27
import Derived.Test.YtlenfmnkbepoiaazSitesStay24
import Derived.Test.YtlenfmnkbepoiaazSitesStay23
import Derived.KernelRfl
namespace Go.Proofs.Ytlenfmnkbepoiaa.PSitesTell
open Go.RowKit Go.Proofs.YtlenfmnkbepoiaaW.PrintWords Go.Proofs.YtlenfmnkbepoiaaW.PrintLast Go.Proofs.YtlenfmnkbepoiaaW.PrintMore Go.Proofs.YtlenfmnkbepoiaaW
set_option linter.unusedVariables false
inductive Ok26 : S26 → Prop
  | mk (x : S26) (h0 : (Lit.int .i64 x.f0).wf = true) (h1 : (Lit.int .i64 x.f1).wf = true) (h2 : x.f2.size ≤ 140737488351232) (h3 : (x.f3.length * 16 ≤ 140737488351232 ∧ ∀ y, y ∈ x.f3 → y.size ≤ 140737488351232)) (hl : x.f4.length * 80 ≤ 140737488351232) (hs : ∀ y, y ∈ x.f4 → Ok26 y) : Ok26 x
theorem Ok26.parts {x : S26} (h : Ok26 x) : (Lit.int .i64 x.f0).wf = true ∧ (Lit.int .i64 x.f1).wf = true ∧ x.f2.size ≤ 140737488351232 ∧ (x.f3.length * 16 ≤ 140737488351232 ∧ ∀ y, y ∈ x.f3 → y.size ≤ 140737488351232) ∧ (x.f4.length * 80 ≤ 140737488351232 ∧ ∀ y, y ∈ x.f4 → Ok26 y) := by
  cases h with
  | mk _ h0 h1 h2 h3 hl hs => exact ⟨h0, h1, h2, h3, hl, hs⟩
theorem rd26 : ∀ fuel, Rd.RdU Try.prog k26 26 Ok26 fuel := by
  intro fuel
  induction fuel using Nat.strongRecOn with
  | _ fuel ih =>
  exact Rd.rd_struct (k := k26) (d := fun m_ => (Kd.pair (Kd.int .i64) (Kd.pair (Kd.int .i64) (Kd.pair Kd.string (Kd.pair (Kd.slice 9 Kd.string) (Kd.slice 26 (Kd.upto F26 5 [9, 26] m_))))))) (f := (fun x : S26 => (x.f0, x.f1, x.f2, x.f3, x.f4))) (g := (fun p_ => (⟨p_.1, p_.2.1, p_.2.2.1, p_.2.2.2.1, p_.2.2.2.2⟩ : S26))) Try.underlying26 rfl (by kernel_rfl) (fun m_ _ _ _ h_ => ⟨m_ + 1, h_⟩) (fun _ => rfl) (fun _ h_ => Ok26.mk _ h_.1 h_.2.1 h_.2.2.1 h_.2.2.2.1 h_.2.2.2.2.1 h_.2.2.2.2.2) fuel (fun n_ hn_ => (Rd.rdf_cons rfl (by kernel_rfl) (Rd.rd_int Try.underlying3 n_) (Rd.rdf_cons rfl (by kernel_rfl) (Rd.rd_int Try.underlying3 n_) (Rd.rdf_cons rfl (by kernel_rfl) (Rd.rd_string Try.underlying9 n_) (Rd.rdf_cons rfl (by kernel_rfl) (Rd.rd_slice (B := 16) Try.underlying23 (by kernel_rfl) (by kernel_rfl) n_ (fun m_ _ => (Rd.rd_string Try.underlying9 m_))) (Rd.rdf_self mono26 rfl (by kernel_rfl) (Rd.rd_slice (B := 80) Try.underlying24 (by kernel_rfl) (by kernel_rfl) n_ (fun m_ hm_ => ih m_ (by omega)))))))))
def Ok68 (x : S68) : Prop := x.f0.size ≤ 140737488351232 ∧ Ok26 x.f1
theorem Ok68.mk (x : S68) (h0 : x.f0.size ≤ 140737488351232) (h1 : Ok26 x.f1) : Ok68 x := ⟨h0, h1⟩
theorem rd68 : ∀ fuel, Rd.RdU Try.prog k68 68 Ok68 fuel := by
  intro fuel
  exact Rd.rd_struct (k := k68) (d := fun m_ => (Kd.pair Kd.string k26)) (f := (fun x : S68 => (x.f0, x.f1))) (g := (fun p_ => (⟨p_.1, p_.2⟩ : S68))) Try.underlying68 rfl (by kernel_rfl) (fun _ _ _ _ h_ => h_) (fun _ => rfl) (fun _ h_ => Ok68.mk _ h_.1 h_.2) fuel (fun n_ hn_ => (Rd.rdf_cons rfl (by kernel_rfl) (Rd.rd_string Try.underlying9 n_) (Rd.rdf_one rfl (by kernel_rfl) (rd26 n_))))
def Ok28 (x : S28) : Prop := x.f0.size ≤ 140737488351232 ∧ (x.f1.length * 96 ≤ 140737488351232 ∧ ∀ y, y ∈ x.f1 → Ok68 y) ∧ (x.f2.length * 96 ≤ 140737488351232 ∧ ∀ y, y ∈ x.f2 → Ok68 y) ∧ Ok26 x.f3
theorem Ok28.mk (x : S28) (h0 : x.f0.size ≤ 140737488351232) (h1 : (x.f1.length * 96 ≤ 140737488351232 ∧ ∀ y, y ∈ x.f1 → Ok68 y)) (h2 : (x.f2.length * 96 ≤ 140737488351232 ∧ ∀ y, y ∈ x.f2 → Ok68 y)) (h3 : Ok26 x.f3) : Ok28 x := ⟨h0, h1, h2, h3⟩
theorem rd28 : ∀ fuel, Rd.RdU Try.prog k28 28 Ok28 fuel := by
  intro fuel
  exact Rd.rd_struct (k := k28) (d := fun m_ => (Kd.pair Kd.string (Kd.pair (Kd.slice 68 k68) (Kd.pair (Kd.slice 68 k68) k26)))) (f := (fun x : S28 => (x.f0, x.f1, x.f2, x.f3))) (g := (fun p_ => (⟨p_.1, p_.2.1, p_.2.2.1, p_.2.2.2⟩ : S28))) Try.underlying28 rfl (by kernel_rfl) (fun _ _ _ _ h_ => h_) (fun _ => rfl) (fun _ h_ => Ok28.mk _ h_.1 h_.2.1 h_.2.2.1 h_.2.2.2) fuel (fun n_ hn_ => (Rd.rdf_cons rfl (by kernel_rfl) (Rd.rd_string Try.underlying9 n_) (Rd.rdf_cons rfl (by kernel_rfl) (Rd.rd_slice (B := 96) Try.underlying22 (by kernel_rfl) (by kernel_rfl) n_ (fun m_ _ => (rd68 m_))) (Rd.rdf_cons rfl (by kernel_rfl) (Rd.rd_slice (B := 96) Try.underlying22 (by kernel_rfl) (by kernel_rfl) n_ (fun m_ _ => (rd68 m_))) (Rd.rdf_one rfl (by kernel_rfl) (rd26 n_))))))
inductive Ok31 : S31 → Prop
  | mk (x : S31) (h0 : (Lit.int .i64 x.f0).wf = true) (h1 : (Lit.int .i64 x.f1).wf = true) (h2 : x.f2.size ≤ 140737488351232) (h3 : True) (h4 : (x.f4.length * 80 ≤ 140737488351232 ∧ ∀ y, y ∈ x.f4 → Ok26 y)) (h5 : (x.f5.length * 16 ≤ 140737488351232 ∧ ∀ y, y ∈ x.f5 → y.size ≤ 140737488351232)) (hl : x.f6.length * 112 ≤ 140737488351232) (hs : ∀ y, y ∈ x.f6 → Ok31 y) : Ok31 x
theorem Ok31.parts {x : S31} (h : Ok31 x) : (Lit.int .i64 x.f0).wf = true ∧ (Lit.int .i64 x.f1).wf = true ∧ x.f2.size ≤ 140737488351232 ∧ True ∧ (x.f4.length * 80 ≤ 140737488351232 ∧ ∀ y, y ∈ x.f4 → Ok26 y) ∧ (x.f5.length * 16 ≤ 140737488351232 ∧ ∀ y, y ∈ x.f5 → y.size ≤ 140737488351232) ∧ (x.f6.length * 112 ≤ 140737488351232 ∧ ∀ y, y ∈ x.f6 → Ok31 y) := by
  cases h with
  | mk _ h0 h1 h2 h3 h4 h5 hl hs => exact ⟨h0, h1, h2, h3, h4, h5, hl, hs⟩
theorem rd31 : ∀ fuel, Rd.RdU Try.prog k31 31 Ok31 fuel := by
  intro fuel
  induction fuel using Nat.strongRecOn with
  | _ fuel ih =>
  exact Rd.rd_struct (k := k31) (d := fun m_ => (Kd.pair (Kd.int .i64) (Kd.pair (Kd.int .i64) (Kd.pair Kd.string (Kd.pair Kd.bool (Kd.pair (Kd.slice 26 k26) (Kd.pair (Kd.slice 9 Kd.string) (Kd.slice 31 (Kd.upto F31 7 [9, 26, 31] m_))))))))) (f := (fun x : S31 => (x.f0, x.f1, x.f2, x.f3, x.f4, x.f5, x.f6))) (g := (fun p_ => (⟨p_.1, p_.2.1, p_.2.2.1, p_.2.2.2.1, p_.2.2.2.2.1, p_.2.2.2.2.2.1, p_.2.2.2.2.2.2⟩ : S31))) Try.underlying31 rfl (by kernel_rfl) (fun m_ _ _ _ h_ => ⟨m_ + 1, h_⟩) (fun _ => rfl) (fun _ h_ => Ok31.mk _ h_.1 h_.2.1 h_.2.2.1 h_.2.2.2.1 h_.2.2.2.2.1 h_.2.2.2.2.2.1 h_.2.2.2.2.2.2.1 h_.2.2.2.2.2.2.2) fuel (fun n_ hn_ => (Rd.rdf_cons rfl (by kernel_rfl) (Rd.rd_int Try.underlying3 n_) (Rd.rdf_cons rfl (by kernel_rfl) (Rd.rd_int Try.underlying3 n_) (Rd.rdf_cons rfl (by kernel_rfl) (Rd.rd_string Try.underlying9 n_) (Rd.rdf_cons rfl (by kernel_rfl) (Rd.rd_bool Try.underlying4 n_) (Rd.rdf_cons rfl (by kernel_rfl) (Rd.rd_slice (B := 80) Try.underlying24 (by kernel_rfl) (by kernel_rfl) n_ (fun m_ _ => (rd26 m_))) (Rd.rdf_cons rfl (by kernel_rfl) (Rd.rd_slice (B := 16) Try.underlying23 (by kernel_rfl) (by kernel_rfl) n_ (fun m_ _ => (Rd.rd_string Try.underlying9 m_))) (Rd.rdf_self mono31 rfl (by kernel_rfl) (Rd.rd_slice (B := 112) Try.underlying29 (by kernel_rfl) (by kernel_rfl) n_ (fun m_ hm_ => ih m_ (by omega)))))))))))
def Ok33 (x : S33) : Prop := Ok28 x.f0 ∧ Ok31 x.f1
theorem Ok33.mk (x : S33) (h0 : Ok28 x.f0) (h1 : Ok31 x.f1) : Ok33 x := ⟨h0, h1⟩
theorem rd33 : ∀ fuel, Rd.RdU Try.prog k33 33 Ok33 fuel := by
  intro fuel
  exact Rd.rd_struct (k := k33) (d := fun m_ => (Kd.pair k28 k31)) (f := (fun x : S33 => (x.f0, x.f1))) (g := (fun p_ => (⟨p_.1, p_.2⟩ : S33))) Try.underlying33 rfl (by kernel_rfl) (fun _ _ _ _ h_ => h_) (fun _ => rfl) (fun _ h_ => Ok33.mk _ h_.1 h_.2) fuel (fun n_ hn_ => (Rd.rdf_cons rfl (by kernel_rfl) (rd28 n_) (Rd.rdf_one rfl (by kernel_rfl) (rd31 n_))))
open Go.Proofs.YtlenfmnkbepoiaaW.Mine
theorem ok_okt : ∀ (n : Nat) (x : S26), SizeOf.sizeOf x < n → Ok26 x → Okt x
  | 0, _, h, _ => absurd h (Nat.not_lt_zero _)
  | n + 1, x, h, o => .mk x (by have := o.parts.2.2.2.1.1; omega) o.parts.2.2.2.2.1 (fun y hy => ok_okt n y (by have := size_args x y hy; omega) (o.parts.2.2.2.2.2 y hy))
theorem okt {x : S26} (o : Ok26 x) : Okt x := ok_okt _ x (Nat.lt_succ_self _) o
theorem ok_oke : ∀ (n : Nat) (x : S31), SizeOf.sizeOf x < n → Ok31 x → Oke x
  | 0, _, h, _ => absurd h (Nat.not_lt_zero _)
  | n + 1, x, h, o => .mk x o.parts.2.2.2.2.1.1 (fun y hy => okt (o.parts.2.2.2.2.1.2 y hy)) (by have := o.parts.2.2.2.2.2.1.1; omega) o.parts.2.2.2.2.2.2.1 (fun y hy => ok_oke n y (by have := size_kidsE x y hy; omega) (o.parts.2.2.2.2.2.2.2 y hy))
theorem oke {x : S31} (o : Ok31 x) : Oke x := ok_oke _ x (Nat.lt_succ_self _) o
theorem oks {x : S28} (o : Ok28 x) : OkS x := ⟨⟨o.2.1.1, fun y hy => okt (o.2.1.2 y hy).2⟩, ⟨o.2.2.1.1, fun y hy => okt (o.2.2.1.2 y hy).2⟩, okt o.2.2.2⟩
theorem okd {x : S33} (o : Ok33 x) : OkD x := ⟨oks o.1, oke o.2⟩
theorem rdB31 : ∀ fuel, RdB Try.prog k31 31 Ok31 muE fuel := by
  intro fuel
  induction fuel using Nat.strongRecOn with
  | _ fuel ih =>
  exact rb_struct (k := k31) (d := fun m_ => (Kd.pair (Kd.int .i64) (Kd.pair (Kd.int .i64) (Kd.pair Kd.string (Kd.pair Kd.bool (Kd.pair (Kd.slice 26 k26) (Kd.pair (Kd.slice 9 Kd.string) (Kd.slice 31 (Kd.upto F31 7 [9, 26, 31] m_))))))))) (f := (fun x : S31 => (x.f0, x.f1, x.f2, x.f3, x.f4, x.f5, x.f6))) (g := (fun p_ => (⟨p_.1, p_.2.1, p_.2.2.1, p_.2.2.2.1, p_.2.2.2.2.1, p_.2.2.2.2.2.1, p_.2.2.2.2.2.2⟩ : S31))) Try.underlying31 rfl (by kernel_rfl) (fun m_ _ _ _ h_ => ⟨m_ + 1, h_⟩) (fun _ => rfl) (fun _ h_ => Ok31.mk _ h_.1 h_.2.1 h_.2.2.1 h_.2.2.2.1 h_.2.2.2.2.1 h_.2.2.2.2.2.1 h_.2.2.2.2.2.2.1 h_.2.2.2.2.2.2.2) (fun a_ => by (try dsimp only); rw [muE_eq, muK_sum, sum_ones]; exact Nat.le_refl _) fuel (fun n_ hn_ => (fb_cons rfl (by kernel_rfl) (Rd.rd_int Try.underlying3 n_) (fb_cons rfl (by kernel_rfl) (Rd.rd_int Try.underlying3 n_) (fb_cons rfl (by kernel_rfl) (Rd.rd_string Try.underlying9 n_) (fb_cons rfl (by kernel_rfl) (Rd.rd_bool Try.underlying4 n_) (fb_both rfl (by kernel_rfl) (rb_slice (B := 80) Try.underlying24 (by kernel_rfl) (by kernel_rfl) n_ (fun m_ _ => rb_one Try.underlying26 (rd26 m_))) (fb_cons rfl (by kernel_rfl) (Rd.rd_slice (B := 16) Try.underlying23 (by kernel_rfl) (by kernel_rfl) n_ (fun m_ _ => (Rd.rd_string Try.underlying9 m_))) (fb_self mono31 rfl (by kernel_rfl) (rb_slice (B := 112) Try.underlying29 (by kernel_rfl) (by kernel_rfl) n_ (fun m_ hm_ => ih m_ (by omega)))))))))))
theorem rdB28 : ∀ fuel, RdB Try.prog k28 28 Ok28 (fun s => s.f1.length + s.f2.length) fuel := by
  intro fuel
  exact rb_struct (k := k28) (d := fun m_ => (Kd.pair Kd.string (Kd.pair (Kd.slice 68 k68) (Kd.pair (Kd.slice 68 k68) k26)))) (f := (fun x : S28 => (x.f0, x.f1, x.f2, x.f3))) (g := (fun p_ => (⟨p_.1, p_.2.1, p_.2.2.1, p_.2.2.2⟩ : S28))) Try.underlying28 rfl (by kernel_rfl) (fun _ _ _ _ h_ => h_) (fun _ => rfl) (fun _ h_ => Ok28.mk _ h_.1 h_.2.1 h_.2.2.1 h_.2.2.2) (fun a_ => by (try dsimp only); rw [sum_ones, sum_ones]; exact Nat.le_succ _) fuel (fun n_ hn_ => (fb_cons rfl (by kernel_rfl) (Rd.rd_string Try.underlying9 n_) (fb_both rfl (by kernel_rfl) (rb_slice (B := 96) Try.underlying22 (by kernel_rfl) (by kernel_rfl) n_ (fun m_ _ => rb_one Try.underlying68 (rd68 m_))) (fb_both rfl (by kernel_rfl) (rb_slice (B := 96) Try.underlying22 (by kernel_rfl) (by kernel_rfl) n_ (fun m_ _ => rb_one Try.underlying68 (rd68 m_))) (fb_one rfl (by kernel_rfl) (rb_any (rd26 n_)))))))
theorem rdB33 : ∀ fuel, RdB Try.prog k33 33 Ok33 muD fuel := by
  intro fuel
  exact rb_struct (k := k33) (d := fun m_ => (Kd.pair k28 k31)) (f := (fun x : S33 => (x.f0, x.f1))) (g := (fun p_ => (⟨p_.1, p_.2⟩ : S33))) Try.underlying33 rfl (by kernel_rfl) (fun _ _ _ _ h_ => h_) (fun _ => rfl) (fun _ h_ => Ok33.mk _ h_.1 h_.2) (fun a_ => by (try dsimp only); exact Nat.le_succ _) fuel (fun n_ hn_ => (fb_both rfl (by kernel_rfl) (rdB28 n_) (fb_one rfl (by kernel_rfl) (rdB31 n_))))
theorem limbecklaw17_SitesNodes_walk (x0 : S33) (A0_1 : Option Addr) (c0_1 : Nat) (A0_2 : Option Addr) (c0_2 : Nat) (A0_6 : Option Addr) (c0_6 : Nat) (A0_7 : Option Addr) (c0_7 : Nat) (A0_12 : Option Addr) (c0_12 : Nat) (A0_13 : Option Addr) (c0_13 : Nat) (A0_14 : Option Addr) (c0_14 : Nat) (w : World) (hr0_1 : Kd.C k68 w A0_1 x0.f0.f1.length x0.f0.f1) (hc0_1 : x0.f0.f1.length ≤ c0_1) (hr0_2 : Kd.C k68 w A0_2 x0.f0.f2.length x0.f0.f2) (hc0_2 : x0.f0.f2.length ≤ c0_2) (hr0_6 : Kd.C Kd.string w A0_6 x0.f0.f3.f3.length x0.f0.f3.f3) (hc0_6 : x0.f0.f3.f3.length ≤ c0_6) (hr0_7 : Kd.C k26 w A0_7 x0.f0.f3.f4.length x0.f0.f3.f4) (hc0_7 : x0.f0.f3.f4.length ≤ c0_7) (hr0_12 : Kd.C k26 w A0_12 x0.f1.f4.length x0.f1.f4) (hc0_12 : x0.f1.f4.length ≤ c0_12) (hr0_13 : Kd.C Kd.string w A0_13 x0.f1.f5.length x0.f1.f5) (hc0_13 : x0.f1.f5.length ≤ c0_13) (hr0_14 : Kd.C k31 w A0_14 x0.f1.f6.length x0.f1.f6) (hc0_14 : x0.f1.f6.length ≤ c0_14) (o0 : Ok33 x0) (b0 : muD x0 ≤ 1048576) :
    Calls Try.prog 5 #[.agg #[.string x0.f0.f0, .slice A0_1 x0.f0.f1.length c0_1, .slice A0_2 x0.f0.f2.length c0_2, .int .i64 x0.f0.f3.f0, .int .i64 x0.f0.f3.f1, .string x0.f0.f3.f2, .slice A0_6 x0.f0.f3.f3.length c0_6, .slice A0_7 x0.f0.f3.f4.length c0_7, .int .i64 x0.f1.f0, .int .i64 x0.f1.f1, .string x0.f1.f2, .bool x0.f1.f3, .slice A0_12 x0.f1.f4.length c0_12, .slice A0_13 x0.f1.f5.length c0_13, .slice A0_14 x0.f1.f6.length c0_14]] w fun e w' => e = .returned (.bool true) ∧ Below w.heap.size w w' := by
  exact nodes_c x0 (okd o0) (muD_small b0) ⟨⟨⟨hc0_1, hr0_1⟩, ⟨hc0_2, hr0_2⟩, hc0_6, hr0_6, hc0_7, hr0_7⟩, hc0_12, hr0_12, hc0_13, hr0_13, hc0_14, hr0_14⟩
end Go.Proofs.Ytlenfmnkbepoiaa.PSitesTell
