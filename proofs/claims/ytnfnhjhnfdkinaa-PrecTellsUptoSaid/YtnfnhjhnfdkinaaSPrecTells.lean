/-
  PrecTells: the pure statement that is left of the law, what is known of what it is given, and the walk that follows. No conditions but the reach of what is read.
-/
import Derived.Test.YtnfnhjhnfdkinaaF10
import Derived.Test.YtnfnhjhnfdkinaaR3
import Derived.Test.YtnfnhjhnfdkinaaWRd
import Derived.KernelRfl
namespace Go.Proofs.Ytnfnhjhnfdkinaa.PPrecTells
open Go.RowKit Go.Proofs.YtnfnhjhnfdkinaaW.PrintWords Go.Proofs.YtnfnhjhnfdkinaaW.PrintLast Go.Proofs.YtnfnhjhnfdkinaaW.PrintMore Go.Proofs.YtnfnhjhnfdkinaaW
set_option linter.unusedVariables false
inductive Ok25 : S25 → Prop
  | mk (x : S25) (h0 : (Lit.int .i64 x.f0).wf = true) (h1 : (Lit.int .i64 x.f1).wf = true) (h2 : x.f2.size ≤ 140737488351232) (h3 : (x.f3.length * 16 ≤ 140737488351232 ∧ ∀ y, y ∈ x.f3 → y.size ≤ 140737488351232)) (hl : x.f4.length * 80 ≤ 140737488351232) (hs : ∀ y, y ∈ x.f4 → Ok25 y) : Ok25 x
theorem Ok25.parts {x : S25} (h : Ok25 x) : (Lit.int .i64 x.f0).wf = true ∧ (Lit.int .i64 x.f1).wf = true ∧ x.f2.size ≤ 140737488351232 ∧ (x.f3.length * 16 ≤ 140737488351232 ∧ ∀ y, y ∈ x.f3 → y.size ≤ 140737488351232) ∧ (x.f4.length * 80 ≤ 140737488351232 ∧ ∀ y, y ∈ x.f4 → Ok25 y) := by
  cases h with
  | mk _ h0 h1 h2 h3 hl hs => exact ⟨h0, h1, h2, h3, hl, hs⟩
theorem rd25 : ∀ fuel, Rd.RdU Try.prog k25 25 Ok25 fuel := by
  intro fuel
  induction fuel using Nat.strongRecOn with
  | _ fuel ih =>
  exact Rd.rd_struct (k := k25) (d := fun m_ => (Kd.pair (Kd.int .i64) (Kd.pair (Kd.int .i64) (Kd.pair Kd.string (Kd.pair (Kd.slice 9 Kd.string) (Kd.slice 25 (Kd.upto F25 5 [9, 25] m_))))))) (f := (fun x : S25 => (x.f0, x.f1, x.f2, x.f3, x.f4))) (g := (fun p_ => (⟨p_.1, p_.2.1, p_.2.2.1, p_.2.2.2.1, p_.2.2.2.2⟩ : S25))) Try.underlying25 rfl (by kernel_rfl) (fun m_ _ _ _ h_ => ⟨m_ + 1, h_⟩) (fun _ => rfl) (fun _ h_ => Ok25.mk _ h_.1 h_.2.1 h_.2.2.1 h_.2.2.2.1 h_.2.2.2.2.1 h_.2.2.2.2.2) fuel (fun n_ hn_ => (Rd.rdf_cons rfl (by kernel_rfl) (Rd.rd_int Try.underlying3 n_) (Rd.rdf_cons rfl (by kernel_rfl) (Rd.rd_int Try.underlying3 n_) (Rd.rdf_cons rfl (by kernel_rfl) (Rd.rd_string Try.underlying9 n_) (Rd.rdf_cons rfl (by kernel_rfl) (Rd.rd_slice (B := 16) Try.underlying22 (by kernel_rfl) (by kernel_rfl) n_ (fun m_ _ => (Rd.rd_string Try.underlying9 m_))) (Rd.rdf_self mono25 rfl (by kernel_rfl) (Rd.rd_slice (B := 80) Try.underlying23 (by kernel_rfl) (by kernel_rfl) n_ (fun m_ hm_ => ih m_ (by omega)))))))))
open Go.Proofs.YtnfnhjhnfdkinaaW.Mine
theorem ok_sm : ∀ (n : Nat) (x : S25), SizeOf.sizeOf x < n → Ok25 x → Sm x
  | 0, _, h, _ => absurd h (Nat.not_lt_zero _)
  | n + 1, x, h, o => .mk x o.parts.2.2.2.2.1 (fun y hy => ok_sm n y (by have := size_args x y hy; omega) (o.parts.2.2.2.2.2 y hy))
theorem wrap_ok {i : Int} (h0 : -9223372036854775808 ≤ i) (h1 : i ≤ 9223372036854775807) : wrap64 i = i := by unfold wrap64; omega
theorem rdT_mem (l : List S25) (i : Nat) (h : i < l.length) : rd_T25 l (i : Int) ∈ l := by
  unfold rd_T25
  rw [Int.toNat_natCast, List.getD_eq_getElem?_getD, List.getElem?_eq_getElem h]
  exact List.getElem_mem h
theorem much_l1 (a0 a1 : Int) (a2 : ByteArray) (l3 : List ByteArray) (l4 : List S25) (hl : l4.length * 80 ≤ 140737488351232) (hs : ∀ y, y ∈ l4 → ∃ r, Ev (fun k => limbecklaw04_Much.f k y.f0 y.f1 y.f2 y.f3 y.f4) r) (d i : Nat) (hd : d + i = l4.length) (x3 : Int) :
    ∃ r, Ev (fun k => limbecklaw04_Much.l1 k x3 i a0 a1 a2 l3 l4) r := by
  induction d generalizing i x3 with
  | zero => exact ⟨_, Ev.step (fun _ => rfl) (Ev.neg (by omega) (Ev.rets rfl))⟩
  | succ d ih =>
    by_cases h : x3 < 3000
    · obtain ⟨t, ht⟩ := hs _ (rdT_mem l4 i (by omega))
      obtain ⟨r, hr⟩ := ih (i + 1) (by omega) (wrap64 (x3 + t))
      refine ⟨r, Ev.step (fun _ => rfl) (Ev.pos (by omega) (Ev.pos h (Ev.pos (by omega) (Ev.bind ht ?_))))⟩
      rw [wrap_ok (show -9223372036854775808 ≤ (i : Int) + 1 by omega) (by omega)]
      exact hr
    · exact ⟨_, Ev.step (fun _ => rfl) (Ev.pos (by omega) (Ev.neg h (Ev.rets rfl)))⟩
theorem much_l0 (a0 a1 : Int) (a2 : ByteArray) (l3 : List ByteArray) (l4 : List S25) (hl : l4.length * 80 ≤ 140737488351232) (hs : ∀ y, y ∈ l4 → ∃ r, Ev (fun k => limbecklaw04_Much.f k y.f0 y.f1 y.f2 y.f3 y.f4) r) (d i : Nat) (hd : d + i = l3.length) (x3 : Int) :
    ∃ r, Ev (fun k => limbecklaw04_Much.l0 k x3 i a0 a1 a2 l3 l4) r := by
  have hj : ∀ x, ∃ r, Ev (fun k => limbecklaw04_Much.j1 k x a0 a1 a2 l3 l4) r := fun x => by
    obtain ⟨r, hr⟩ := much_l1 a0 a1 a2 l3 l4 hl hs l4.length 0 (by omega) x
    exact ⟨r, Ev.step (fun _ => rfl) hr⟩
  induction d generalizing i x3 with
  | zero =>
    obtain ⟨r, hr⟩ := hj x3
    exact ⟨r, Ev.step (fun _ => rfl) (Ev.neg (by omega) hr)⟩
  | succ d ih =>
    by_cases h : (i : Int) < 1000
    · obtain ⟨r, hr⟩ := ih (i + 1) (by omega) (wrap64 (x3 + (wrap64 (((rdOf ByteArray.empty l3 i).size : Int) / 8))))
      refine ⟨r, Ev.step (fun _ => rfl) (Ev.pos (by omega) (Ev.pos h (Ev.pos (by omega) ?_)))⟩
      rw [wrap_ok (show -9223372036854775808 ≤ (i : Int) + 1 by omega) (by omega)]
      exact hr
    · obtain ⟨r, hr⟩ := hj x3
      exact ⟨r, Ev.step (fun _ => rfl) (Ev.pos (by omega) (Ev.neg h hr))⟩
theorem much_told : ∀ (n : Nat) (x : S25), SizeOf.sizeOf x < n → Ok25 x → ∃ r, Ev (fun k => limbecklaw04_Much.f k x.f0 x.f1 x.f2 x.f3 x.f4) r
  | 0, _, h, _ => absurd h (Nat.not_lt_zero _)
  | n + 1, x, h, ho => by
    obtain ⟨_, _, _, _, h4, hs⟩ := ho.parts
    obtain ⟨r, hr⟩ := much_l0 x.f0 x.f1 x.f2 x.f3 x.f4 h4 (fun y hy => much_told n y (by have := size_args x y hy; omega) (hs y hy)) x.f3.length 0 (by omega) (wrap64 ((wrap64 (1 + (wrap64 ((x.f2.size : Int) / 8)))) + (x.f3.length : Int)))
    exact ⟨r, Ev.step (fun _ => rfl) hr⟩
theorem ok_told {x : S25} (o : Ok25 x) : Told x := by
  obtain ⟨r, hr⟩ := much_told _ x (Nat.lt_succ_self _) o
  obtain ⟨k, hk⟩ := hr.rounds
  exact ⟨k, r, hk⟩
theorem i64_lo {n : Int} (h : (Lit.int .i64 n).wf = true) : -9223372036854775808 ≤ n := by
  simp only [Lit.wf, Bool.and_eq_true, decide_eq_true_eq] at h
  have e : IntKind.min .i64 = -9223372036854775808 := by decide
  omega
theorem i64_hi {n : Int} (h : (Lit.int .i64 n).wf = true) : n ≤ 9223372036854775807 := by
  simp only [Lit.wf, Bool.and_eq_true, decide_eq_true_eq] at h
  have e : IntKind.max .i64 = 9223372036854775807 := by decide
  omega
theorem ok_bd : ∀ (n : Nat) (x : S25), SizeOf.sizeOf x < n → Ok25 x → Bd x
  | 0, _, h, _ => absurd h (Nat.not_lt_zero _)
  | n + 1, x, h, o => .mk x (by have := o.parts.2.2.2.1.1; omega) (by have := o.parts.2.2.2.2.1; omega) (fun y hy => ok_bd n y (by have := size_args x y hy; omega) (o.parts.2.2.2.2.2 y hy))
theorem rdB25 : ∀ fuel, RdB Try.prog k25 25 Ok25 nodes fuel := by
  intro fuel
  induction fuel using Nat.strongRecOn with
  | _ fuel ih =>
  exact rb_struct (k := k25) (d := fun m_ => (Kd.pair (Kd.int .i64) (Kd.pair (Kd.int .i64) (Kd.pair Kd.string (Kd.pair (Kd.slice 9 Kd.string) (Kd.slice 25 (Kd.upto F25 5 [9, 25] m_))))))) (f := (fun x : S25 => (x.f0, x.f1, x.f2, x.f3, x.f4))) (g := (fun p_ => (⟨p_.1, p_.2.1, p_.2.2.1, p_.2.2.2.1, p_.2.2.2.2⟩ : S25))) Try.underlying25 rfl (by kernel_rfl) (fun m_ _ _ _ h_ => ⟨m_ + 1, h_⟩) (fun _ => rfl) (fun _ h_ => Ok25.mk _ h_.1 h_.2.1 h_.2.2.1 h_.2.2.2.1 h_.2.2.2.2.1 h_.2.2.2.2.2) (fun a_ => by rw [nodes_eq]; exact Nat.le_of_eq (congrArg (· + 1) (nodes_sum _).symm)) fuel (fun n_ hn_ => (fb_cons rfl (by kernel_rfl) (Rd.rd_int Try.underlying3 n_) (fb_cons rfl (by kernel_rfl) (Rd.rd_int Try.underlying3 n_) (fb_cons rfl (by kernel_rfl) (Rd.rd_string Try.underlying9 n_) (fb_cons rfl (by kernel_rfl) (Rd.rd_slice (B := 16) Try.underlying22 (by kernel_rfl) (by kernel_rfl) n_ (fun m_ _ => (Rd.rd_string Try.underlying9 m_))) (fb_self mono25 rfl (by kernel_rfl) (rb_slice (B := 80) Try.underlying23 (by kernel_rfl) (by kernel_rfl) n_ (fun m_ hm_ => ih m_ (by omega)))))))))
theorem limbecklaw08_PrecTells_walk (x0 : S25) (A0_3 : Option Addr) (c0_3 : Nat) (A0_4 : Option Addr) (c0_4 : Nat) (x1 : S25) (A1_3 : Option Addr) (c1_3 : Nat) (A1_4 : Option Addr) (c1_4 : Nat) (x2 : Int) (w : World) (hr0_3 : Kd.C Kd.string w A0_3 x0.f3.length x0.f3) (hc0_3 : x0.f3.length ≤ c0_3) (hr0_4 : Kd.C k25 w A0_4 x0.f4.length x0.f4) (hc0_4 : x0.f4.length ≤ c0_4) (hr1_3 : Kd.C Kd.string w A1_3 x1.f3.length x1.f3) (hc1_3 : x1.f3.length ≤ c1_3) (hr1_4 : Kd.C k25 w A1_4 x1.f4.length x1.f4) (hc1_4 : x1.f4.length ≤ c1_4) (o0 : Ok25 x0) (o1 : Ok25 x1) (o2 : (Lit.int .i64 x2).wf = true) (b0 : nodes x0 ≤ 1048576) (b1 : nodes x1 ≤ 1048576) :
    Calls Try.prog 3 #[.agg #[.int .i64 x0.f0, .int .i64 x0.f1, .string x0.f2, .slice A0_3 x0.f3.length c0_3, .slice A0_4 x0.f4.length c0_4], .agg #[.int .i64 x1.f0, .int .i64 x1.f1, .string x1.f2, .slice A1_3 x1.f3.length c1_3, .slice A1_4 x1.f4.length c1_4], .int .i64 x2] w fun e w' => e = .returned (.bool true) ∧ Below w.heap.size w w' := by
  exact tells_c x0 x1 x2 (ok_told o0) (ok_told o1) (ok_bd _ x0 (Nat.lt_succ_self _) o0) (ok_bd _ x1 (Nat.lt_succ_self _) o1) (ok_sm _ x0 (Nat.lt_succ_self _) o0) (by omega) (i64_lo o2) (i64_hi o2) A0_3 c0_3 A0_4 c0_4 A1_3 c1_3 A1_4 c1_4 w (FT.start hc0_3 hr0_3 hc0_4 hr0_4) (FT.start hc1_3 hr1_3 hc1_4 hr1_4)
end Go.Proofs.Ytnfnhjhnfdkinaa.PPrecTells
