/-
  ConvBack: texts of this claim, put together by a program of this session. No conditions beyond what each lemma says.
-/
import Derived.Test.YtnfnhjhnfdkinaazConvBack32
import Derived.Test.YtnfnhjhnfdkinaazConvBack33
import Derived.KernelRfl
namespace Go.Proofs.Ytnfnhjhnfdkinaa.PConvBack
open Go.RowKit Go.Proofs.YtnfnhjhnfdkinaaW.PrintWords Go.Proofs.YtnfnhjhnfdkinaaW.PrintLast Go.Proofs.YtnfnhjhnfdkinaaW.PrintMore Go.Proofs.YtnfnhjhnfdkinaaW
set_option linter.unusedVariables false
inductive Ok25 : S25 → Prop
  | mk (x : S25) (h0 : (Lit.int .i64 x.f0).wf = true) (h1 : (Lit.int .i64 x.f1).wf = true) (h2 : x.f2.size ≤ 140737488351232) (h3 : (x.f3.length * 16 ≤ 140737488351232 ∧ ∀ y, y ∈ x.f3 → y.size ≤ 140737488351232)) (hl : x.f4.length * 80 ≤ 140737488351232) (hs : ∀ y, y ∈ x.f4 → Ok25 y) : Ok25 x
theorem Ok25.parts {x : S25} (h : Ok25 x) : (Lit.int .i64 x.f0).wf = true ∧ (Lit.int .i64 x.f1).wf = true ∧ x.f2.size ≤ 140737488351232 ∧ (x.f3.length * 16 ≤ 140737488351232 ∧ ∀ y, y ∈ x.f3 → y.size ≤ 140737488351232) ∧ (x.f4.length * 80 ≤ 140737488351232 ∧ ∀ y, y ∈ x.f4 → Ok25 y) := by
  cases h with
  | mk _ h0 h1 h2 h3 hl hs => exact ⟨h0, h1, h2, h3, hl, hs⟩
theorem rd25 : ∀ fuel, Rd.RdU Try.prog k25 25 Ok25 fuel := by
  intro fuel
  induction fuel using Nat.strongRecOn with
  | _ fuel ih =>
  exact Rd.rd_struct (k := k25) (d := fun m_ => (Kd.pair (Kd.int .i64) (Kd.pair (Kd.int .i64) (Kd.pair Kd.string (Kd.pair (Kd.slice 9 Kd.string) (Kd.slice 25 (Kd.upto F25 5 [9, 25] m_))))))) (f := (fun x : S25 => (x.f0, x.f1, x.f2, x.f3, x.f4))) (g := (fun p_ => (⟨p_.1, p_.2.1, p_.2.2.1, p_.2.2.2.1, p_.2.2.2.2⟩ : S25))) Try.underlying25 rfl (by kernel_rfl) (fun m_ _ _ _ h_ => ⟨m_ + 1, h_⟩) (fun _ => rfl) (fun _ h_ => Ok25.mk _ h_.1 h_.2.1 h_.2.2.1 h_.2.2.2.1 h_.2.2.2.2.1 h_.2.2.2.2.2) fuel (fun n_ hn_ => (Rd.rdf_cons rfl (by kernel_rfl) (Rd.rd_int Try.underlying3 n_) (Rd.rdf_cons rfl (by kernel_rfl) (Rd.rd_int Try.underlying3 n_) (Rd.rdf_cons rfl (by kernel_rfl) (Rd.rd_string Try.underlying9 n_) (Rd.rdf_cons rfl (by kernel_rfl) (Rd.rd_slice (B := 16) Try.underlying22 (by kernel_rfl) (by kernel_rfl) n_ (fun m_ _ => (Rd.rd_string Try.underlying9 m_))) (Rd.rdf_self mono25 rfl (by kernel_rfl) (Rd.rd_slice (B := 80) Try.underlying23 (by kernel_rfl) (by kernel_rfl) n_ (fun m_ hm_ => ih m_ (by omega)))))))))
def Ok52 (x : S52) : Prop := x.f0.size ≤ 140737488351232 ∧ (Lit.int .i64 x.f1).wf = true
theorem Ok52.mk (x : S52) (h0 : x.f0.size ≤ 140737488351232) (h1 : (Lit.int .i64 x.f1).wf = true) : Ok52 x := ⟨h0, h1⟩
theorem rd52 : ∀ fuel, Rd.RdU Try.prog k52 52 Ok52 fuel := by
  intro fuel
  exact Rd.rd_struct (k := k52) (d := fun m_ => (Kd.pair Kd.string (Kd.int .i64))) (f := (fun x : S52 => (x.f0, x.f1))) (g := (fun p_ => (⟨p_.1, p_.2⟩ : S52))) Try.underlying52 rfl (by kernel_rfl) (fun _ _ _ _ h_ => h_) (fun _ => rfl) (fun _ h_ => Ok52.mk _ h_.1 h_.2) fuel (fun n_ hn_ => (Rd.rdf_cons rfl (by kernel_rfl) (Rd.rd_string Try.underlying9 n_) (Rd.rdf_one rfl (by kernel_rfl) (Rd.rd_int Try.underlying3 n_))))
def Ok86 (x : S86) : Prop := Ok25 x.f0 ∧ Ok25 x.f1 ∧ Ok52 x.f2
theorem Ok86.mk (x : S86) (h0 : Ok25 x.f0) (h1 : Ok25 x.f1) (h2 : Ok52 x.f2) : Ok86 x := ⟨h0, h1, h2⟩
theorem rd86 : ∀ fuel, Rd.RdU Try.prog k86 86 Ok86 fuel := by
  intro fuel
  exact Rd.rd_struct (k := k86) (d := fun m_ => (Kd.pair k25 (Kd.pair k25 k52))) (f := (fun x : S86 => (x.f0, x.f1, x.f2))) (g := (fun p_ => (⟨p_.1, p_.2.1, p_.2.2⟩ : S86))) Try.underlying86 rfl (by kernel_rfl) (fun _ _ _ _ h_ => h_) (fun _ => rfl) (fun _ h_ => Ok86.mk _ h_.1 h_.2.1 h_.2.2) fuel (fun n_ hn_ => (Rd.rdf_cons rfl (by kernel_rfl) (rd25 n_) (Rd.rdf_cons rfl (by kernel_rfl) (rd25 n_) (Rd.rdf_one rfl (by kernel_rfl) (rd52 n_)))))
inductive Ok55 : S55 → Prop
  | mk (x : S55) (h0 : (Lit.int .i64 x.f0).wf = true) (h1 : (Lit.int .i64 x.f1).wf = true) (h2 : (Lit.int .i64 x.f2).wf = true) (h3 : True) (h4 : x.f4.size ≤ 140737488351232) (h5 : Ok52 x.f5) (h6 : (x.f6.length * 80 ≤ 140737488351232 ∧ ∀ y, y ∈ x.f6 → Ok25 y)) (h7 : (x.f7.length * 16 ≤ 140737488351232 ∧ ∀ y, y ∈ x.f7 → y.size ≤ 140737488351232)) (hl : x.f8.length * 144 ≤ 140737488351232) (hs : ∀ y, y ∈ x.f8 → Ok55 y) : Ok55 x
theorem Ok55.parts {x : S55} (h : Ok55 x) : (Lit.int .i64 x.f0).wf = true ∧ (Lit.int .i64 x.f1).wf = true ∧ (Lit.int .i64 x.f2).wf = true ∧ True ∧ x.f4.size ≤ 140737488351232 ∧ Ok52 x.f5 ∧ (x.f6.length * 80 ≤ 140737488351232 ∧ ∀ y, y ∈ x.f6 → Ok25 y) ∧ (x.f7.length * 16 ≤ 140737488351232 ∧ ∀ y, y ∈ x.f7 → y.size ≤ 140737488351232) ∧ (x.f8.length * 144 ≤ 140737488351232 ∧ ∀ y, y ∈ x.f8 → Ok55 y) := by
  cases h with
  | mk _ h0 h1 h2 h3 h4 h5 h6 h7 hl hs => exact ⟨h0, h1, h2, h3, h4, h5, h6, h7, hl, hs⟩
theorem rd55 : ∀ fuel, Rd.RdU Try.prog k55 55 Ok55 fuel := by
  intro fuel
  induction fuel using Nat.strongRecOn with
  | _ fuel ih =>
  exact Rd.rd_struct (k := k55) (d := fun m_ => (Kd.pair (Kd.int .i64) (Kd.pair (Kd.int .i64) (Kd.pair (Kd.int .i64) (Kd.pair Kd.bool (Kd.pair Kd.string (Kd.pair k52 (Kd.pair (Kd.slice 25 k25) (Kd.pair (Kd.slice 9 Kd.string) (Kd.slice 55 (Kd.upto F55 10 [9, 25, 55] m_))))))))))) (f := (fun x : S55 => (x.f0, x.f1, x.f2, x.f3, x.f4, x.f5, x.f6, x.f7, x.f8))) (g := (fun p_ => (⟨p_.1, p_.2.1, p_.2.2.1, p_.2.2.2.1, p_.2.2.2.2.1, p_.2.2.2.2.2.1, p_.2.2.2.2.2.2.1, p_.2.2.2.2.2.2.2.1, p_.2.2.2.2.2.2.2.2⟩ : S55))) Try.underlying55 rfl (by kernel_rfl) (fun m_ _ _ _ h_ => ⟨m_ + 1, h_⟩) (fun _ => rfl) (fun _ h_ => Ok55.mk _ h_.1 h_.2.1 h_.2.2.1 h_.2.2.2.1 h_.2.2.2.2.1 h_.2.2.2.2.2.1 h_.2.2.2.2.2.2.1 h_.2.2.2.2.2.2.2.1 h_.2.2.2.2.2.2.2.2.1 h_.2.2.2.2.2.2.2.2.2) fuel (fun n_ hn_ => (Rd.rdf_cons rfl (by kernel_rfl) (Rd.rd_int Try.underlying3 n_) (Rd.rdf_cons rfl (by kernel_rfl) (Rd.rd_int Try.underlying3 n_) (Rd.rdf_cons rfl (by kernel_rfl) (Rd.rd_int Try.underlying3 n_) (Rd.rdf_cons rfl (by kernel_rfl) (Rd.rd_bool Try.underlying4 n_) (Rd.rdf_cons rfl (by kernel_rfl) (Rd.rd_string Try.underlying9 n_) (Rd.rdf_cons rfl (by kernel_rfl) (rd52 n_) (Rd.rdf_cons rfl (by kernel_rfl) (Rd.rd_slice (B := 80) Try.underlying23 (by kernel_rfl) (by kernel_rfl) n_ (fun m_ _ => (rd25 m_))) (Rd.rdf_cons rfl (by kernel_rfl) (Rd.rd_slice (B := 16) Try.underlying22 (by kernel_rfl) (by kernel_rfl) n_ (fun m_ _ => (Rd.rd_string Try.underlying9 m_))) (Rd.rdf_self mono55 rfl (by kernel_rfl) (Rd.rd_slice (B := 144) Try.underlying53 (by kernel_rfl) (by kernel_rfl) n_ (fun m_ hm_ => ih m_ (by omega)))))))))))))
open Go.Proofs.YtnfnhjhnfdkinaaW.Mine
theorem ok_okt : ∀ (n : Nat) (x : S25), SizeOf.sizeOf x < n → Ok25 x → Okt x
  | 0, _, h, _ => absurd h (Nat.not_lt_zero _)
  | n + 1, x, h, o => .mk x (by have := o.parts.2.2.2.1.1; omega) o.parts.2.2.2.2.1 (fun y hy => ok_okt n y (by have := size_args x y hy; omega) (o.parts.2.2.2.2.2 y hy))
theorem okt {x : S25} (o : Ok25 x) : Okt x := ok_okt _ x (Nat.lt_succ_self _) o
theorem ok_okv : ∀ (n : Nat) (x : S55), SizeOf.sizeOf x < n → Ok55 x → Okv x
  | 0, _, h, _ => absurd h (Nat.not_lt_zero _)
  | n + 1, x, h, o => by
    obtain ⟨_, _, _, _, _, _, h6, h7, h8⟩ := o.parts
    exact .mk x h6.1 (fun y hy => okt (h6.2 y hy)) (by have := h7.1; omega) h8.1 (fun y hy => ok_okv n y (by have := size_kids x y hy; omega) (h8.2 y hy))
theorem okv {x : S55} (o : Ok55 x) : Okv x := ok_okv _ x (Nat.lt_succ_self _) o
theorem u8_lo {n : Int} (h : (Lit.int .u8 n).wf = true) : 0 ≤ n := by
  simp only [Lit.wf, Bool.and_eq_true, decide_eq_true_eq] at h
  exact h.1
theorem u8_hi {n : Int} (h : (Lit.int .u8 n).wf = true) : n < 256 := by
  simp only [Lit.wf, Bool.and_eq_true, decide_eq_true_eq] at h
  have := h.2
  have e : IntKind.max .u8 = 255 := by decide
  omega
theorem i64_rng {n : Int} (h : (Lit.int .i64 n).wf = true) : -9223372036854775808 ≤ n ∧ n ≤ 9223372036854775807 := by
  simp only [Lit.wf, Bool.and_eq_true, decide_eq_true_eq] at h
  have e : IntKind.max .i64 = 9223372036854775807 := by decide
  have e' : IntKind.min .i64 = -9223372036854775808 := by decide
  omega
theorem ok_okn : ∀ (n : Nat) (x : S25), SizeOf.sizeOf x < n → Ok25 x → Sn x
  | 0, _, h, _ => absurd h (Nat.not_lt_zero _)
  | n + 1, x, h, o => .mk x o.parts.2.2.2.2.1 (i64_rng o.parts.2.1) (fun y hy => ok_okn n y (by have := size_args x y hy; omega) (o.parts.2.2.2.2.2 y hy))
theorem okn {x : S25} (o : Ok25 x) : Sn x := ok_okn _ x (Nat.lt_succ_self _) o
theorem ok_okw : ∀ (n : Nat) (x : S25), SizeOf.sizeOf x < n → Ok25 x → Okw x
  | 0, _, h, _ => absurd h (Nat.not_lt_zero _)
  | n + 1, x, h, o => .mk x o.parts.2.2.1 o.parts.2.2.2.1.2 (fun y hy => ok_okw n y (by have := size_args x y hy; omega) (o.parts.2.2.2.2.2 y hy))
theorem okw {x : S25} (o : Ok25 x) : Okw x := ok_okw _ x (Nat.lt_succ_self _) o
theorem oks {l : List S86} (o : l.length * 184 ≤ 140737488351232 ∧ ∀ y, y ∈ l → Ok86 y) : Oks l := ⟨o.1, fun s h => okt (o.2 s h).1, fun s h => okw (o.2 s h).1, fun s h => okt (o.2 s h).2.1, fun s h => okw (o.2 s h).2.1⟩
theorem ok_okx : ∀ (n : Nat) (x : S55), SizeOf.sizeOf x < n → Ok55 x → Okx x
  | 0, _, h, _ => absurd h (Nat.not_lt_zero _)
  | n + 1, x, h, o => by
    obtain ⟨_, _, _, _, _, _, h6, h7, h8⟩ := o.parts
    exact .mk x (fun y hy => okw (h6.2 y hy)) h7.2 (fun y hy => ok_okx n y (by have := size_kids x y hy; omega) (h8.2 y hy))
theorem okx {x : S55} (o : Ok55 x) : Okx x := ok_okx _ x (Nat.lt_succ_self _) o
theorem limbecklaw31_ConvBack_walk (x0 : List (S86)) (A0 : Option Addr) (c0 : Nat) (x1 : S55) (A1_7 : Option Addr) (c1_7 : Nat) (A1_8 : Option Addr) (c1_8 : Nat) (A1_9 : Option Addr) (c1_9 : Nat) (x2 : S55) (A2_7 : Option Addr) (c2_7 : Nat) (A2_8 : Option Addr) (c2_8 : Nat) (A2_9 : Option Addr) (c2_9 : Nat) (x3 : S25) (A3_3 : Option Addr) (c3_3 : Nat) (A3_4 : Option Addr) (c3_4 : Nat) (x4 : Int) (w : World) (hr0 : Kd.C k86 w A0 x0.length x0) (hc0 : x0.length ≤ c0) (hr1_7 : Kd.C k25 w A1_7 x1.f6.length x1.f6) (hc1_7 : x1.f6.length ≤ c1_7) (hr1_8 : Kd.C Kd.string w A1_8 x1.f7.length x1.f7) (hc1_8 : x1.f7.length ≤ c1_8) (hr1_9 : Kd.C k55 w A1_9 x1.f8.length x1.f8) (hc1_9 : x1.f8.length ≤ c1_9) (hr2_7 : Kd.C k25 w A2_7 x2.f6.length x2.f6) (hc2_7 : x2.f6.length ≤ c2_7) (hr2_8 : Kd.C Kd.string w A2_8 x2.f7.length x2.f7) (hc2_8 : x2.f7.length ≤ c2_8) (hr2_9 : Kd.C k55 w A2_9 x2.f8.length x2.f8) (hc2_9 : x2.f8.length ≤ c2_9) (hr3_3 : Kd.C Kd.string w A3_3 x3.f3.length x3.f3) (hc3_3 : x3.f3.length ≤ c3_3) (hr3_4 : Kd.C k25 w A3_4 x3.f4.length x3.f4) (hc3_4 : x3.f4.length ≤ c3_4) (o0 : (x0.length * 184 ≤ 140737488351232 ∧ ∀ y, y ∈ x0 → Ok86 y)) (o1 : Ok55 x1) (o2 : Ok55 x2) (o3 : Ok25 x3) (o4 : (Lit.int .u8 x4).wf = true) :
    Calls Try.prog 12 #[.slice A0 x0.length c0, .agg #[.int .i64 x1.f0, .int .i64 x1.f1, .int .i64 x1.f2, .bool x1.f3, .string x1.f4, .string x1.f5.f0, .int .i64 x1.f5.f1, .slice A1_7 x1.f6.length c1_7, .slice A1_8 x1.f7.length c1_8, .slice A1_9 x1.f8.length c1_9], .agg #[.int .i64 x2.f0, .int .i64 x2.f1, .int .i64 x2.f2, .bool x2.f3, .string x2.f4, .string x2.f5.f0, .int .i64 x2.f5.f1, .slice A2_7 x2.f6.length c2_7, .slice A2_8 x2.f7.length c2_8, .slice A2_9 x2.f8.length c2_9], .agg #[.int .i64 x3.f0, .int .i64 x3.f1, .string x3.f2, .slice A3_3 x3.f3.length c3_3, .slice A3_4 x3.f4.length c3_4], .int .u8 x4] w fun e w' => e = .returned (.bool true) ∧ Below w.heap.size w w' := by
  exact back_c x0 x1 x2 x3 x4 (oks o0) (okv o1) (okv o2) (okt o3) (okw o3) (okn o3) (okx o1) (okx o2) (u8_lo o4) (u8_hi o4) ⟨hr0, hc0⟩ ⟨hc1_7, hr1_7, hc1_8, hr1_8, hc1_9, hr1_9⟩ ⟨hc2_7, hr2_7, hc2_8, hr2_8, hc2_9, hr2_9⟩ ⟨hc3_3, hr3_3, hc3_4, hr3_4⟩
end Go.Proofs.Ytnfnhjhnfdkinaa.PConvBack
