/-
  env: contracts of the reference's Find, Seal and All, of Few, and the walk of All.
-/
import Derived.Test.YtalmhbiedkjpmaaE15
namespace Go.Proofs.Ytalmhbiedkjpmaa.PEnvPlays
open Go.RowKit Go.Proofs.YtalmhbiedkjpmaaW.Mine Go.Proofs.YtalmhbiedkjpmaaW.PrintWords Go.Proofs.YtalmhbiedkjpmaaW.PrintLast Go.Proofs.YtalmhbiedkjpmaaW.PrintMore
attribute [local go_sem] max2_int min2_int max_two min_two max_three min_three max_four min_four
set_option linter.unusedVariables false
set_option linter.unusedSimpArgs false
theorem telt {w : World} {A : Option Addr} {l : List Ty} (h : kTy.C w A l.length l) (i : Nat) (hi : i < l.length) : ∃ ad A3 c3 A4 c4, A = some ad ∧ RT w l[i] A3 c3 A4 c4
    ∧ w.cell? (ad.add (i * 5)) = some (.int .i64 l[i].f0)
    ∧ w.cell? ⟨(ad.add (i * 5)).block, (ad.add (i * 5)).off + 1, none⟩ = some (.int .i64 l[i].f1)
    ∧ w.cell? ⟨(ad.add (i * 5)).block, (ad.add (i * 5)).off + 2, none⟩ = some (.string l[i].f2)
    ∧ w.cell? ⟨(ad.add (i * 5)).block, (ad.add (i * 5)).off + 3, none⟩ = some (.slice A3 l[i].f3.length c3)
    ∧ w.cell? ⟨(ad.add (i * 5)).block, (ad.add (i * 5)).off + 4, none⟩ = some (.slice A4 l[i].f4.length c4) := by
  obtain ⟨ad, A3, c3, A4, c4, e, h0, h1, h2, h3, h4, g3, r3, g4, r4⟩ := at_T31 h (i : Int) (by omega) (by omega)
  have q : rd_T31 l (i : Int) = l[i] := getD_at _ l i hi
  rw [q] at h0 h1 h2 h3 h4 g3 r3 g4 r4
  rw [Int.toNat_natCast] at h0 h1 h2 h3 h4
  exact ⟨ad, A3, c3, A4, c4, e, ⟨g3, r3, g4, r4⟩, h0, h1, h2, h3, h4⟩
/-- An element of a list of names and types: its type's cells. -/
theorem belt {w : World} {A : Option Addr} {l : List S33} (h : k33.C w A l.length l) (i : Nat) (hi : i < l.length) : ∃ ad A3 c3 A4 c4, A = some ad ∧ RT w l[i].f1 A3 c3 A4 c4
    ∧ w.cell? ⟨(ad.add (i * 6)).block, (ad.add (i * 6)).off + 1, none⟩ = some (.int .i64 l[i].f1.f0)
    ∧ w.cell? ⟨(ad.add (i * 6)).block, (ad.add (i * 6)).off + 2, none⟩ = some (.int .i64 l[i].f1.f1)
    ∧ w.cell? ⟨(ad.add (i * 6)).block, (ad.add (i * 6)).off + 3, none⟩ = some (.string l[i].f1.f2)
    ∧ w.cell? ⟨(ad.add (i * 6)).block, (ad.add (i * 6)).off + 4, none⟩ = some (.slice A3 l[i].f1.f3.length c3)
    ∧ w.cell? ⟨(ad.add (i * 6)).block, (ad.add (i * 6)).off + 5, none⟩ = some (.slice A4 l[i].f1.f4.length c4) := by
  obtain ⟨ad, A3, c3, A4, c4, e, h0, h1, h2, h3, h4, h5, g3, r3, g4, r4⟩ := at_T33 h (i : Int) (by omega) (by omega)
  have q : rd_T33 l (i : Int) = l[i] := getD_at _ l i hi
  rw [q] at h0 h1 h2 h3 h4 h5 g3 r3 g4 r4
  rw [Int.toNat_natCast] at h0 h1 h2 h3 h4 h5
  exact ⟨ad, A3, c3, A4, c4, e, ⟨g3, r3, g4, r4⟩, h1, h2, h3, h4, h5⟩
theorem FT.fk {w : World} {ok : Nat → Prop} {x : Ty} {A3 A4 : Option Addr} {c3 c4 : Nat} (h : FT w ok x A3 c3 A4 c4) : Kd.FK kTy w ok x [.int .i64 x.f0, .int .i64 x.f1, .string x.f2, .slice A3 x.f3.length c3, .slice A4 x.f4.length c4] := k31_mkF w ok x h.1 h.2.1 h.2.2.1 h.2.2.2
theorem heapSl : Kd.Heap kSl := k54_heap
theorem rfind_c {l : List Sl} (s : ByteArray) (hl : l.length < 4611686018427387904) {A : Option Addr} {c : Nat} {w : World} (h : RS w A c l) :
    Calls Try.prog 32 #[.slice A l.length c, .string s] w fun e w' => ∃ A6 c6 A7 c7 A8 c8, e = .returned (.tuple #[vv (fv l.reverse s) A6 c6 A7 c7 A8 c8, .bool (fb l.reverse s)]) ∧ RV w' (fv l.reverse s) A6 c6 A7 c7 A8 c8 ∧ Below w.heap.size w w' := by
  obtain ⟨k, hk⟩ := rfind_told l s hl
  refine (limbeckref34_Find.calls k (fun k => k < w.heap.size) A c l s _ _ _ _ _ _ _ _ _ _ _ w (Kd.V_mk h.2 (Kd.C_F heapSl h.1)) hk).mono ?_
  rintro e w' ⟨v7, v8, v9, rfl, ⟨A6, c6, rfl, g6, f6⟩, ⟨A7, c7, rfl, g7, f7⟩, ⟨A8, c8, rfl, g8, f8⟩, hb⟩
  exact ⟨A6, c6, A7, c7, A8, c8, rfl, ⟨g6, Kd.F_now f6, g7, Kd.F_now f7, g8, Kd.F_now f8⟩, hb⟩
theorem rseal_c (names : List ByteArray) (b : Int) (hn : names.length ≤ 20) {t : Ty} (o : Okt t) {A A3 A4 : Option Addr} {c c3 c4 : Nat} {w : World} (hN : RN w A c names) (h : RT w t A3 c3 A4 c4) :
    Calls Try.prog 33 #[tv t A3 c3 A4 c4, .slice A names.length c, .int .i64 b] w (CloseOut w (sealT names b t)) := by
  obtain ⟨k, hk⟩ := sealT_ref names b hn o
  have hf := h.ft
  refine (limbeckref07_Seal.calls k t.f0 t.f1 t.f2 _ A3 c3 t.f3 _ A4 c4 t.f4 A c names b _ _ _ _ _ w (Kd.V_mk hf.1 hf.2.1) (Kd.V_mk hf.2.2.1 hf.2.2.2) hN.1 hN.2 hk).mono ?_
  rintro e w' ⟨v3, v4, rfl, ⟨B3, d3, rfl, h3, f3⟩, ⟨B4, d4, rfl, h4, f4⟩, hb⟩
  exact ⟨B3, d3, B4, d4, rfl, ⟨h3, Kd.F_now f3, h4, Kd.F_now f4⟩, hb⟩
theorem ty_eta (u : Ty) : (⟨u.f0, u.f1, u.f2, u.f3, u.f4⟩ : Ty) = u := by cases u; rfl
/-- A list of types, read off a world. -/
def RL (w : World) (A : Option Addr) (c : Nat) (l : List Ty) : Prop := kTy.C w A l.length l ∧ l.length ≤ c
theorem RL.below {w w1 : World} {A : Option Addr} {c : Nat} {l : List Ty} (h : RL w A c l) (hb : Below w.heap.size w w1) : RL w1 A c l := ⟨Kd.C_below h.1 hb, h.2⟩
def AllOut (w : World) (us : List Ty) (e : Ending) (w' : World) : Prop := ∃ A c, e = .returned (.slice A us.length c) ∧ RL w' A c us ∧ Below w.heap.size w w'
theorem rall_c (names : List ByteArray) (b : Int) (hn : names.length ≤ 20) {m : List Ty} (hm : m.length * 80 ≤ 140737488351232) (ho : ∀ y, y ∈ m → Okt y) {A M : Option Addr} {c cM : Nat} {w : World} (hN : RN w A c names) (h : RL w M cM m) :
    Calls Try.prog 36 #[.slice M m.length cM, .slice A names.length c, .int .i64 b] w (AllOut w (m.map (sealT names b))) := by
  obtain ⟨k, hk⟩ := all_told names b hn m hm ho
  refine (limbeckref34_All.calls k (fun k => k < w.heap.size) M cM m A c names b _ w (Kd.V_mk h.2 (Kd.C_F heapTy h.1)) hN.1 hN.2 hk).mono ?_
  rintro e w' ⟨v, rfl, hv, hb⟩
  obtain ⟨B, d, rfl, hle, hC⟩ := Kd.N_reads hv
  exact ⟨B, d, rfl, ⟨hC, hle⟩, hb⟩
theorem few_c {l : List S33} {k : Nat} {r : Int} (h : limbecklaw07_Few.f k l = some r) {A : Option Addr} {c : Nat} {w : World} (hr : k33.C w A l.length l) (hc : l.length ≤ c) :
    Calls Try.prog 31 #[.slice A l.length c] w fun e w' => e = .returned (.int .i64 r) ∧ Below w.heap.size w w' :=
  (limbecklaw07_Few.calls k A c l r w hr hc h).mono fun e w' k => k
theorem sall_c {us : List Ty} (hl : us.length * 80 ≤ 140737488351232) (ho : ∀ y, y ∈ us → Okt y) {A A' : Option Addr} {c c' : Nat} {w : World} (h : RL w A c us) (h' : RL w A' c' us) :
    Calls Try.prog 34 #[.slice A us.length c, .slice A' us.length c'] w fun e w' => e = .returned (.bool true) ∧ Below w.heap.size w w' :=
  (all_c us hl ho h.1 h.2 h'.1 h'.2).mono fun e w' k => k
set_option maxHeartbeats 4000000 in
set_option maxRecDepth 100000 in
theorem eall_c (names : List ByteArray) (b : Int) (hn : names.length ≤ 20) {m : List Ty} (hm : m.length * 80 ≤ 140737488351232) (ho : ∀ y, y ∈ m → Okt y) {tp p : Option Addr} {l : List Sl} {M : Option Addr} {cM : Nat} {w : World} (hl : IsEnv w tp p l) (hT : IsTys w tp names b) (h : RL w M cM m) :
    Calls Try.prog 35 #[.pointer p, .slice M m.length cM] w (AllOut w (m.map (sealT names b))) := by
  go_enter Try.func35, Try.ntmps35
  go_wp2_with fail
  go_loopg [5, 10] m.length (fun kq vv vi w' => ∃ (i : Nat) (v : Value), vv = v ∧ vi = .int .i64 i ∧ kq + i = m.length ∧ Kd.N kTy 31 w' w.heap.size (fun _ => True) v ((m.take i).map (sealT names b)) ∧ Below w.heap.size w w')
  case atStart => exact ⟨0, .slice none 0 0, rfl, rfl, rfl, Kd.N_nil _ _ _ _ _, Below.refl _ _⟩
  case round =>
    obtain ⟨i, v, rfl, rfl, hk, HO, br⟩ := hrel
    obtain ⟨Av, cv, rfl⟩ := Kd.N_slice HO
    have hle : i ≤ m.length := by omega
    have HLN : Aside0 (((m.take i).map (sealT names b)).length = i) := ⟨by rw [List.length_map, List.length_take]; omega⟩
    generalize hL : (m.take i).map (sealT names b) = La at HO HLN ⊢
    by_cases hi : i < m.length
    · obtain ⟨k1, rfl⟩ : ∃ k1, gk = k1 + 1 := ⟨gk - 1, by omega⟩
      have ci : decide ((i : Int) < (m.length : Int)) = true := decide_eq_true (by omega)
      obtain ⟨ad, X3, e3, X4, e4, hA, hr, x1, x2, x3, x4, x5⟩ := telt h.1 i hi
      subst hA
      have hf := hr.ft.below br
      replace x1 := cell_up br x1
      replace x2 := cell_up br x2
      replace x3 := cell_up br x3
      replace x4 := cell_up br x4
      replace x5 := cell_up br x5
      have bT := below_alloc1 wr (.cells #[.int .i64 m[i].f0, .int .i64 m[i].f1, .string m[i].f2, .slice X3 m[i].f3.length e3, .slice X4 m[i].f4.length e4] 31)
      have kT := blk_new wr (.cells #[.int .i64 m[i].f0, .int .i64 m[i].f1, .string m[i].f2, .slice X3 m[i].f3.length e3, .slice X4 m[i].f4.length e4] 31)
      obtain ⟨⟨p0, p1, p2, p3, p4⟩, _, lp⟩ := five kT
      obtain ⟨ks, es⟩ := sealT_prog names b hn (ho _ (List.getElem_mem hi))
      have BT := Aside0.mk bT
      clear kT
      go_wp2_with fail
      refine (close_f m[i] names b es (ok := fun k => k < w.heap.size) (fun k hk => by have := br.size; have := bT.size; omega) ((hl.below br).below bT) ((hT.below br).below bT) (hf.below bT)).mono ?_
      rintro e_ w5 ⟨B3, d3, B4, d4, rfl, hf5, hb5⟩
      clear p0 p1 p2 p3 p4 lp x1 x2 x3 x4 x5 hf hr
      have hbs := Kd.N_base HO
      have hlt := Kd.N_lt HO
      have szT : wr.heap.size < (wr.alloc (.cells #[.int .i64 m[i].f0, .int .i64 m[i].f1, .string m[i].f2, .slice X3 m[i].f3.length e3, .slice X4 m[i].f4.length e4] 31)).heap.size := by rw [World.size_alloc]; omega
      have br5 := chain (chain br bT) hb5
      replace HO := Kd.N_below (Kd.N_below HO bT) hb5
      have fk := hf5.fk
      have hokp : ∀ k, (fun k => k < w.heap.size ∨ (wr.alloc (.cells #[.int .i64 m[i].f0, .int .i64 m[i].f1, .string m[i].f2, .slice X3 m[i].f3.length e3, .slice X4 m[i].f4.length e4] 31)).heap.size ≤ k) k → (fun _ : Nat => True) k ∧ some k ≠ (Value.slice Av La.length cv).ownBlock := fun k hk => ⟨trivial, fun he => by have h1 := hbs k he.symm; have h2 := hlt k he.symm; rcases hk with hk | hk <;> omega⟩
      have hfre : ∀ k, w5.heap.size ≤ k → (fun _ : Nat => True) k := fun _ _ => trivial
      have hln : (La.length + 1) * 80 ≤ 140737488355328 := by have := HLN.out; omega
      have hlen : (La ++ [(⟨(sealT names b m[i]).f0, (sealT names b m[i]).f1, (sealT names b m[i]).f2, (sealT names b m[i]).f3, (sealT names b m[i]).f4⟩ : Ty)]).length = i + 1 := by rw [List.length_append, HLN.out]; rfl
      clear bT hf5 szT hbs hlt
      generalize wr.alloc (.cells #[.int .i64 m[i].f0, .int .i64 m[i].f1, .string m[i].f2, .slice X3 m[i].f3.length e3, .slice X4 m[i].f4.length e4] 31) = wT at fk hokp hb5 ⊢
      go_wp2_with (first | (at_builtin; refine Kd.N_append kTy (w0 := w) w.heap.size rfl (.tmp 14) (.tmp 18) 29 31 (.agg #[(.int .i64 0), (.int .i64 0), (.string ⟨#[]⟩), (.slice none 0 0), (.slice none 0 0)]) 80 rfl Try.underlying29 info31 rfl (by decide) (by omega) (.slice Av La.length cv) La _ _ (fun _ : Nat => True) (fun k => k < w.heap.size ∨ wT.heap.size ≤ k) rfl rfl fk hokp hfre HO br5 br5.size hln ?_; intro v1 w1 hN1 hB1 hg1 hat1; obtain ⟨A1, c1, rfl⟩ := Kd.N_slice hN1; rw [hlen] at hN1 ⊢))
      go_roundg k1
      case measure => omega
      case rel => exact ⟨i + 1, .slice A1 (i + 1) c1, rfl, (by first | rfl | (simp; done) | (push_cast; rfl)), by omega, (by rw [List.take_succ_eq_append_getElem hi, List.map_append, hL, List.map_cons, List.map_nil]; rw [ty_eta] at hN1; exact hN1), hB1⟩
    · have cn : decide ((i : Int) < (m.length : Int)) = false := decide_eq_false (by omega)
      rw [List.take_of_length_le (by omega)] at hL
      have rl := Kd.N_reads' HO
      have HLa := Aside0.mk hL
      clear hL hle HO
      go_wp2
      go_ret
      have e := HLa.out
      subst e
      exact ⟨Av, cv, rfl, ⟨rl.2.2, rl.2.1⟩, br⟩
end Go.Proofs.Ytalmhbiedkjpmaa.PEnvPlays
