/-
  prec: the walk of the law PrecLists.
-/
import Derived.Test.YtnfnhjhnfdkinaaPPrecListsx
import Derived.Test.YtnfnhjhnfdkinaaPU2
import Derived.Test.YtnfnhjhnfdkinaaG6
namespace Go.Proofs.Ytnfnhjhnfdkinaa.PPrecLists
open Go.RowKit Go.Proofs.YtnfnhjhnfdkinaaW.Mine Go.Proofs.YtnfnhjhnfdkinaaW.PrintWords Go.Proofs.YtnfnhjhnfdkinaaW.PrintLast Go.Proofs.YtnfnhjhnfdkinaaW.PrintMore
attribute [local go_sem] max2_int min2_int max_two min_two max_three min_three max_four min_four
set_option linter.unusedVariables false
set_option linter.unusedSimpArgs false
abbrev Bi := S43
def Told (x : S25) : Prop := ∃ k r, limbecklaw04_Much.f k x.f0 x.f1 x.f2 x.f3 x.f4 = some r
theorem heapT : Kd.Heap k25 := Kd.heap_fix (fun _ hd => Kd.heap_iso _ (Kd.heap_pair (Kd.heap_int .i64) (Kd.heap_pair (Kd.heap_int .i64) (Kd.heap_pair Kd.heap_string (Kd.heap_pair (Kd.heap_slice _ Kd.heap_string) (Kd.heap_slice _ hd))))))
/-- A binding among others. -/
theorem bind_at {w : World} {A : Option Addr} {l : List Bi} (h : Kd.C k43 w A l.length l) (i : Nat) (hi : i < l.length) : ∃ ad X3 e3 X4 e4, A = some ad ∧
    (w.cell? ⟨(ad.add (i * 6)).block, (ad.add (i * 6)).off + 1, none⟩ = some (.int .i64 l[i].f1.f0) ∧ w.cell? ⟨(ad.add (i * 6)).block, (ad.add (i * 6)).off + 2, none⟩ = some (.int .i64 l[i].f1.f1) ∧ w.cell? ⟨(ad.add (i * 6)).block, (ad.add (i * 6)).off + 3, none⟩ = some (.string l[i].f1.f2) ∧
    w.cell? ⟨(ad.add (i * 6)).block, (ad.add (i * 6)).off + 4, none⟩ = some (.slice X3 l[i].f1.f3.length e3) ∧ w.cell? ⟨(ad.add (i * 6)).block, (ad.add (i * 6)).off + 5, none⟩ = some (.slice X4 l[i].f1.f4.length e4)) ∧
    l[i].f1.f3.length ≤ e3 ∧ Kd.string.C w X3 l[i].f1.f3.length l[i].f1.f3 ∧ l[i].f1.f4.length ≤ e4 ∧ k25.C w X4 l[i].f1.f4.length l[i].f1.f4 := by
  obtain ⟨ad, X3, e3, X4, e4, hA, _, h1, h2, h3, h4, h5, r⟩ := at_T43 h (i : Int) (by omega) (by omega)
  rw [rdB_at l i hi] at h1 h2 h3 h4 h5 r
  exact ⟨ad, X3, e3, X4, e4, hA, ⟨h1, h2, h3, h4, h5⟩, r⟩
set_option maxHeartbeats 40000000 in
set_option maxRecDepth 100000 in
theorem lists_c (a b : List Bi) (hla : a.length * 96 ≤ 140737488351232) (hlb : b.length * 96 ≤ 140737488351232) (ta : ∀ x, x ∈ a → Told x.f1) (tb : ∀ x, x ∈ b → Told x.f1) (ba : ∀ x, x ∈ a → Bd x.f1) (bb : ∀ x, x ∈ b → Bd x.f1) (A : Option Addr) (ca : Nat) (B : Option Addr) (cb : Nat) (w : World)
    (ha : Kd.C k43 w A a.length a) (hca : a.length ≤ ca) (hb : Kd.C k43 w B b.length b) (hcb : b.length ≤ cb) :
    Calls Try.prog 10 #[.slice A a.length ca, .slice B b.length cb] w fun e w' => e = .returned (.bool true) ∧ Below w.heap.size w w' := by
  by_cases h1 : 20 < (a.length : Int)
  · have c1 : decide (20 < (a.length : Int)) = true := decide_eq_true h1
    go_enter Try.func10, Try.ntmps10
    go_wp2_with fail
    go_call (awake_c _) as e wz ⟨he, hbz⟩
    subst he
    go_wp2
    go_ret
    exact ⟨rfl, hbz⟩
  have c1 : decide (20 < (a.length : Int)) = false := decide_eq_false h1
  by_cases h2 : 20 < (b.length : Int)
  · have c2 : decide (20 < (b.length : Int)) = true := decide_eq_true h2
    go_enter Try.func10, Try.ntmps10
    go_wp2_with fail
    go_call (awake_c _) as e wz ⟨he, hbz⟩
    subst he
    go_wp2
    go_ret
    exact ⟨rfl, hbz⟩
  have c2 : decide (20 < (b.length : Int)) = false := decide_eq_false h2
  go_enter Try.func10, Try.ntmps10
  go_wp2_with fail
  clear h1 h2 c1 c2
  go_loopg [5, 7] a.length (fun kq vv vi w' => ∃ (i : Nat) (v : Value), vv = v ∧ vi = .int .i64 i ∧ kq + i = a.length ∧ Kd.N k25 25 w' w.heap.size (fun _ => True) v ((a.take i).map (fun x => x.f1)) ∧ Below w.heap.size w w')
  case atStart => exact ⟨0, .slice none 0 0, rfl, rfl, rfl, Kd.N_nil _ _ _ _ _, Below.refl _ _⟩
  case round =>
    obtain ⟨i, v, rfl, rfl, hk, HO, br⟩ := hrel
    obtain ⟨Av, cv, rfl⟩ := Kd.N_slice HO
    have hle : i ≤ a.length := by omega
    have HLN : Aside0 (((a.take i).map (fun x => x.f1)).length = i) := ⟨by rw [List.length_map, List.length_take]; omega⟩
    generalize hL : (a.take i).map (fun x => x.f1) = La at HO HLN ⊢
    by_cases hi : i < a.length
    · obtain ⟨k1, rfl⟩ : ∃ k1, gk = k1 + 1 := ⟨gk - 1, by omega⟩
      have ci : decide ((i : Int) < (a.length : Int)) = true := decide_eq_true (by omega)
      have bw := br
      obtain ⟨ad, X3, e3, X4, e4, hA, ⟨x1, x2, x3, x4, x5⟩, l3, g3, l4, g4⟩ := bind_at ha i hi
      subst hA
      replace x1 := cell_up bw x1
      replace x2 := cell_up bw x2
      replace x3 := cell_up bw x3
      replace x4 := cell_up bw x4
      replace x5 := cell_up bw x5
      obtain ⟨km, rm, em⟩ := ta _ (List.getElem_mem hi)
      go_wp2_with fail
      go_call (limbecklaw04_Much.calls km a[i].f1.f0 a[i].f1.f1 a[i].f1.f2 X3 e3 a[i].f1.f3 X4 e4 a[i].f1.f4 rm _ (Kd.C_below g3 bw) l3 (Kd.C_below g4 bw) l4 em) as e w5 ⟨he, hb5⟩
      subst he
      have br5 := chain br hb5
      have bw5 := chain bw hb5
      replace HO := Kd.N_below HO hb5
      replace x1 := cell_up hb5 x1
      replace x2 := cell_up hb5 x2
      replace x3 := cell_up hb5 x3
      replace x4 := cell_up hb5 x4
      replace x5 := cell_up hb5 x5
      by_cases hm : 100 < rm
      · have cm : decide (100 < rm) = true := decide_eq_true hm
        go_wp2_with fail
        go_call (awake_c _) as e wz ⟨he, hbz⟩
        subst he
        go_wp2
        go_ret
        exact ⟨rfl, chain bw5 hbz⟩
      have cm : decide (100 < rm) = false := decide_eq_false hm
      have fk : Kd.FK k25 w5 (fun k => k < w.heap.size) a[i].f1 [.int .i64 a[i].f1.f0, .int .i64 a[i].f1.f1, .string a[i].f1.f2, .slice X3 a[i].f1.f3.length e3, .slice X4 a[i].f1.f4.length e4] := Kd.FK_below (k25_mkF w _ a[i].f1 l3 (Kd.C_F Kd.heap_string g3) l4 (Kd.C_F heapT g4)) bw5
      have hbs := Kd.N_base HO
      have hlt := Kd.N_lt HO
      have hws : w.heap.size ≤ w.heap.size := Nat.le_refl _
      have hokp : ∀ k, (fun k => k < w.heap.size) k → (fun _ : Nat => True) k ∧ some k ≠ (Value.slice Av La.length cv).ownBlock := fun k hk => ⟨trivial, fun he => by have h1 := hbs k he.symm; have h2 : k < w.heap.size := hk; omega⟩
      have hfre : ∀ k, w5.heap.size ≤ k → (fun _ : Nat => True) k := fun _ _ => trivial
      have hln : (La.length + 1) * 80 ≤ 140737488355328 := by have := HLN.out; omega
      have hlen : (La ++ [a[i].f1]).length = i + 1 := by rw [List.length_append, HLN.out]; rfl
      go_wp2_with (first | (at_builtin; refine Kd.N_append k25 (w0 := w) w.heap.size rfl (.tmp 32) (.tmp 38) 23 25 (.agg #[(.int .i64 0), (.int .i64 0), (.string ⟨#[]⟩), (.slice none 0 0), (.slice none 0 0)]) 80 rfl Try.underlying23 info25 rfl (by decide) (by omega) (.slice Av La.length cv) La a[i].f1 _ (fun _ : Nat => True) (fun k => k < w.heap.size) rfl rfl fk hokp hfre HO br5 br5.size hln ?_; intro v1 w1 hN1 hB1 hg1 hat1; obtain ⟨A1, c1, rfl⟩ := Kd.N_slice hN1; rw [hlen] at hN1 ⊢))
      go_roundg k1
      case measure => omega
      case rel => exact ⟨i + 1, .slice A1 (i + 1) c1, rfl, (by first | rfl | (simp; done) | (push_cast; rfl)), by omega, (by rw [List.take_succ_eq_append_getElem hi, List.map_append, hL]; exact hN1), hB1⟩
    · have cn : decide ((i : Int) < (a.length : Int)) = false := decide_eq_false (by omega)
      rw [List.take_of_length_le (by omega)] at hL
      have HLa := Aside0.mk hL
      clear hL
      clear hle
      go_wp2_with fail
      have b0 := br
      have HL0 := Kd.N_bound HO
      obtain ⟨Al, hAl⟩ : ∃ Al, Al = Av := ⟨_, rfl⟩
      obtain ⟨cl, hcl⟩ : ∃ cl, cl = cv := ⟨_, rfl⟩
      subst hAl
      subst hcl
      clear HO hi cn hk br
      generalize wr = wq at b0 HL0 ⊢
      go_loopg [6, 8] b.length (fun kq vv vi w' => ∃ (i : Nat) (v : Value), vv = v ∧ vi = .int .i64 i ∧ kq + i = b.length ∧ Kd.N k25 25 w' wq.heap.size (fun _ => True) v ((b.take i).map (fun x => x.f1)) ∧ Below wq.heap.size wq w' ∧ Kd.N k25 25 w' w.heap.size (fun k => True ∧ k < wq.heap.size) (.slice Al La.length cl) La)
      case atStart => exact ⟨0, .slice none 0 0, rfl, rfl, rfl, Kd.N_nil _ _ _ _ _, Below.refl _ _, HL0⟩
      case round =>
        obtain ⟨i, v, rfl, rfl, hk, HO, br, HK⟩ := hrel
        obtain ⟨Av, cv, rfl⟩ := Kd.N_slice HO
        have hle : i ≤ b.length := by omega
        have HLN : Aside0 (((b.take i).map (fun x => x.f1)).length = i) := ⟨by rw [List.length_map, List.length_take]; omega⟩
        generalize hL : (b.take i).map (fun x => x.f1) = Lb at HO HLN ⊢
        by_cases hi : i < b.length
        · obtain ⟨k1, rfl⟩ : ∃ k1, gk = k1 + 1 := ⟨gk - 1, by omega⟩
          have ci : decide ((i : Int) < (b.length : Int)) = true := decide_eq_true (by omega)
          have bw := chain b0 br
          obtain ⟨ad, X3, e3, X4, e4, hA, ⟨x1, x2, x3, x4, x5⟩, l3, g3, l4, g4⟩ := bind_at hb i hi
          subst hA
          replace x1 := cell_up bw x1
          replace x2 := cell_up bw x2
          replace x3 := cell_up bw x3
          replace x4 := cell_up bw x4
          replace x5 := cell_up bw x5
          obtain ⟨km, rm, em⟩ := tb _ (List.getElem_mem hi)
          go_wp2_with fail
          go_call (limbecklaw04_Much.calls km b[i].f1.f0 b[i].f1.f1 b[i].f1.f2 X3 e3 b[i].f1.f3 X4 e4 b[i].f1.f4 rm _ (Kd.C_below g3 bw) l3 (Kd.C_below g4 bw) l4 em) as e w5 ⟨he, hb5⟩
          subst he
          have br5 := chain br hb5
          have bw5 := chain bw hb5
          replace HO := Kd.N_below HO hb5
          replace HK := Kd.N_below HK hb5
          replace x1 := cell_up hb5 x1
          replace x2 := cell_up hb5 x2
          replace x3 := cell_up hb5 x3
          replace x4 := cell_up hb5 x4
          replace x5 := cell_up hb5 x5
          by_cases hm : 100 < rm
          · have cm : decide (100 < rm) = true := decide_eq_true hm
            go_wp2_with fail
            go_call (awake_c _) as e wz ⟨he, hbz⟩
            subst he
            go_wp2
            go_ret
            exact ⟨rfl, chain bw5 hbz⟩
          have cm : decide (100 < rm) = false := decide_eq_false hm
          have fk : Kd.FK k25 w5 (fun k => k < w.heap.size) b[i].f1 [.int .i64 b[i].f1.f0, .int .i64 b[i].f1.f1, .string b[i].f1.f2, .slice X3 b[i].f1.f3.length e3, .slice X4 b[i].f1.f4.length e4] := Kd.FK_below (k25_mkF w _ b[i].f1 l3 (Kd.C_F Kd.heap_string g3) l4 (Kd.C_F heapT g4)) bw5
          have hbs := Kd.N_base HO
          have hlt := Kd.N_lt HO
          have hws : w.heap.size ≤ wq.heap.size := b0.size
          have hokp : ∀ k, (fun k => k < w.heap.size) k → (fun _ : Nat => True) k ∧ some k ≠ (Value.slice Av Lb.length cv).ownBlock := fun k hk => ⟨trivial, fun he => by have h1 := hbs k he.symm; have h2 : k < w.heap.size := hk; omega⟩
          have hfre : ∀ k, w5.heap.size ≤ k → (fun _ : Nat => True) k := fun _ _ => trivial
          have hln : (Lb.length + 1) * 80 ≤ 140737488355328 := by have := HLN.out; omega
          have hlen : (Lb ++ [b[i].f1]).length = i + 1 := by rw [List.length_append, HLN.out]; rfl
          go_wp2_with (first | (at_builtin; refine Kd.N_append k25 (w0 := wq) wq.heap.size rfl (.tmp 54) (.tmp 60) 23 25 (.agg #[(.int .i64 0), (.int .i64 0), (.string ⟨#[]⟩), (.slice none 0 0), (.slice none 0 0)]) 80 rfl Try.underlying23 info25 rfl (by decide) (by omega) (.slice Av Lb.length cv) Lb b[i].f1 _ (fun _ : Nat => True) (fun k => k < w.heap.size) rfl rfl fk hokp hfre HO br5 br5.size hln ?_; intro v1 w1 hN1 hB1 hg1 hat1; obtain ⟨A1, c1, rfl⟩ := Kd.N_slice hN1; rw [hlen] at hN1 ⊢))
          go_roundg k1
          case measure => omega
          case rel => exact ⟨i + 1, .slice A1 (i + 1) c1, rfl, (by first | rfl | (simp; done) | (push_cast; rfl)), by omega, (by rw [List.take_succ_eq_append_getElem hi, List.map_append, hL]; exact hN1), hB1, Kd.N_grown HK hg1 (fun k hk he => by have := hbs k he.symm; have := hk.2; omega)⟩
        · have cn : decide ((i : Int) < (b.length : Int)) = false := decide_eq_false (by omega)
          rw [List.take_of_length_le (by omega)] at hL
          have HLb := Aside0.mk hL
          clear hL
          clear hle
          have bw := chain b0 br
          have rl := Kd.N_reads' HK
          have rm := Kd.N_reads' HO
          have hbl : ∀ u, u ∈ La → Bd u := by rw [← HLa.out]; intro u hu; obtain ⟨x, hx, rfl⟩ := List.mem_map.1 hu; exact ba x hx
          have hbm : ∀ u, u ∈ Lb → Bd u := by rw [← HLb.out]; intro u hu; obtain ⟨x, hx, rfl⟩ := List.mem_map.1 hu; exact bb x hx
          have hll : La.length ≤ 140737488351232 := by rw [← HLa.out, List.length_map]; omega
          obtain ⟨kA, eA⟩ := (rall_f La Lb hll hbl hbm).rounds
          obtain ⟨kB, eB⟩ := (rbinds_f a b (by omega) ba bb).rounds
          generalize hr1 : allTwo less La Lb = r1 at eA
          generalize hr2 : allTwo lessBind a b = r2 at eB
          clear hll hbl hbm HK HO
          go_wp2_with fail
          go_call (prec_All.calls Al cl La Av cv Lb r1 wr rl.2.2 rl.2.1 rm.2.2 rm.2.1 (congrArg some hr1)) as e w6 ⟨he, hb6⟩
          subst he
          go_wp2_with fail
          go_call (limbeckref08_All.calls kA Al cl La Av cv Lb r1 w6 (Kd.C_below rl.2.2 hb6) rl.2.1 (Kd.C_below rm.2.2 hb6) rm.2.1 eA) as e w7 ⟨he, hb7⟩
          subst he
          have b7 := chain (chain bw hb6) hb7
          go_wp2_with fail
          go_call (prec_Binds.calls A ca a B cb b r2 w7 (Kd.C_below ha b7) hca (Kd.C_below hb b7) hcb (congrArg some hr2)) as e w8 ⟨he, hb8⟩
          subst he
          have b8 := chain b7 hb8
          go_wp2_with fail
          go_call (limbeckref08_Binds.calls kB A ca a B cb b r2 w8 (Kd.C_below ha b8) hca (Kd.C_below hb b8) hcb eB) as e w9 ⟨he, hb9⟩
          subst he
          have b9 := chain b8 hb9
          go_wp2_with fail
          go_call (awake_c _) as e wz ⟨he, hbz⟩
          subst he
          go_wp2
          go_ret
          exact ⟨rfl, chain b9 hbz⟩
end Go.Proofs.Ytnfnhjhnfdkinaa.PPrecLists
