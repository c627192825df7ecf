/-
  SitesStay: texts of this claim, put together by a program of this session. No conditions beyond what each lemma says.
-/
import Derived.Test.YtlenfmnkbepoiaazSitesStay16
import Derived.Lib.Strings
namespace Go.Proofs.Ytlenfmnkbepoiaa.PSitesTell
open Go.RowKit Go.Proofs.YtlenfmnkbepoiaaW.Mine Go.Proofs.YtlenfmnkbepoiaaW.PrintWords Go.Proofs.YtlenfmnkbepoiaaW.PrintLast Go.Proofs.YtlenfmnkbepoiaaW.PrintMore
attribute [local go_sem] max2_int min2_int max_two min_two max_three min_three max_four min_four
set_option linter.unusedVariables false
set_option linter.unusedSimpArgs false
/-- A truth comes, and it is yes just if P. -/
def SmOut (P : Prop) (w : World) (e : Ending) (w' : World) : Prop := ∃ b : Bool, e = .returned (.bool b) ∧ (b = true ↔ P) ∧ Below w.heap.size w w'
theorem SmOut.yes {P : Prop} {w w' : World} (hp : P) (hb : Below w.heap.size w w') : SmOut P w (.returned (.bool true)) w' := ⟨true, rfl, ⟨fun _ => hp, fun _ => rfl⟩, hb⟩
theorem SmOut.no {P : Prop} {w w' : World} (hp : ¬ P) (hb : Below w.heap.size w w') : SmOut P w (.returned (.bool false)) w' := ⟨false, rfl, ⟨fun h => (by cases h), fun h => absurd h hp⟩, hb⟩
theorem SmOut.imp {P Q : Prop} {w : World} {e : Ending} {w' : World} (h : SmOut P w e w') (k : P ↔ Q) : SmOut Q w e w' := by
  obtain ⟨b, he, hb, hw⟩ := h
  exact ⟨b, he, hb.trans k, hw⟩
theorem selt {w : World} {A : Option Addr} {l : List ByteArray} (h : Kd.string.C w A l.length l) (i : Nat) (hi : i < l.length) : ∃ ad, A = some ad ∧ w.cell? (ad.add i) = some (.string l[i]) := by
  obtain ⟨ad, c, e, hl, hfk, hc0, _⟩ := Kd.F_get (Kd.C_F Kd.heap_string h) ⟨#[]⟩ i (by omega) (by omega)
  rw [getD_at ⟨#[]⟩ l i hi] at hfk
  have hk : c = [.string l[i]] := Kd.FK_now hfk
  subst hk
  have := hc0 0 _ rfl
  rw [Int.toNat_natCast] at this
  exact ⟨ad, e, by simpa [show Kd.string.sz = 1 from rfl] using this⟩
theorem telt {w : World} {A : Option Addr} {l : List Ty} (h : kTy.C w A l.length l) (i : Nat) (hi : i < l.length) : ∃ ad X3 e3 X4 e4, A = some ad ∧ RT w l[i] X3 e3 X4 e4 ∧
    w.cell? (ad.add (i * 5)) = some (.int .i64 l[i].f0) ∧ w.cell? ⟨(ad.add (i * 5)).block, (ad.add (i * 5)).off + 1, none⟩ = some (.int .i64 l[i].f1) ∧ w.cell? ⟨(ad.add (i * 5)).block, (ad.add (i * 5)).off + 2, none⟩ = some (.string l[i].f2) ∧
    w.cell? ⟨(ad.add (i * 5)).block, (ad.add (i * 5)).off + 3, none⟩ = some (.slice X3 l[i].f3.length e3) ∧ w.cell? ⟨(ad.add (i * 5)).block, (ad.add (i * 5)).off + 4, none⟩ = some (.slice X4 l[i].f4.length e4) := by
  obtain ⟨ad, X3, e3, X4, e4, e, hf, h0⟩ := elt (Kd.C_F heapTy h) i hi
  exact ⟨ad, X3, e3, X4, e4, e, hf.rt, h0⟩
theorem text_ne {a b : ByteArray} (h : ¬ a = b) : (a.toList == b.toList) = false := beq_eq_false_iff_ne.2 (fun e => h (by
  apply ByteArray.ext
  apply Array.toList_inj.1
  rw [Lib.toList_data, Lib.toList_data] at e
  exact e))
theorem text_eq {a b : ByteArray} (h : a = b) : (a.toList == b.toList) = true := by subst h; exact beq_self_eq_true _
theorem wrap_up {i : Nat} (h : i < 9223372036854775807) : wrap64 ((i : Int) + 1) = ((i + 1 : Nat) : Int) := by unfold wrap64; omega
theorem take_two {α : Type} {l m : List α} {i : Nat} (hi : i < l.length) (hj : i < m.length) (h : l.take i = m.take i) (he : l[i] = m[i]) : l.take (i + 1) = m.take (i + 1) := by
  rw [List.take_add_one, List.take_add_one, h, List.getElem?_eq_getElem hi, List.getElem?_eq_getElem hj, he]
theorem take_all {α : Type} {l m : List α} {i : Nat} (hl : l.length = m.length) (hi : ¬ i < l.length) (h : l.take i = m.take i) : l = m := by
  rwa [List.take_of_length_le (by omega), List.take_of_length_le (by omega)] at h
theorem take_held {P : Program} {ops : Array Oper} {Q : Exit → Act → World → Prop} {md : Region.Mode} {S : World → Prop} {i : Nat} {oi : Oper} {d : Option Tmp} {v : Value} {fuel : Nat} {listed : Array Bool} {a : Act} {w : World} (hi : ops[i]? = some oi) (hd : oi.dst = d)
    (hs : Region.noSelect ops = true) (hf : Region.free md ops listed i = true) (hr : (Region.ready md ops listed).contains i = true)
    (hQ : ∀ c a w, Q (.panic c) (a.put oi.dst v) w → Q (.panic c) a w) (hy : YieldsIf P ops S oi v a) (hS : S w)
    (h : wpAnyH P md ops Q S fuel (listed.setIfInBounds i true) (a.put d v) w) : wpAnyH P md ops Q S (fuel + 1) listed a w := by
  subst hd; exact wpAnyH_take hi hs hf hr hQ hy hS h
set_option maxHeartbeats 4000000 in
set_option maxRecDepth 100000 in
theorem texts_c (l m : List ByteArray) (hl : l.length ≤ 140737488351232) {A A' : Option Addr} {c c' : Nat} {w : World} (h : Kd.string.C w A l.length l) (h' : Kd.string.C w A' m.length m) :
    Calls Try.prog 50 #[.slice A l.length c, .slice A' m.length c'] w (SmOut (l = m) w) := by
  have h1 := Aside0.mk h
  have h2 := Aside0.mk h'
  have HL := Aside0.mk hl
  clear h h' hl
  by_cases hlm : l.length = m.length
  · have c0 : ((l.length : Int) == (m.length : Int)) = true := beq_iff_eq.2 (by omega)
    have HLM := Aside0.mk hlm
    clear hlm
    go_enter Try.func50, Try.ntmps50
    go_wp2_with fail
    go_loopg [5] l.length (fun kq v5 w' => ∃ (i : Nat), v5 = .int .i64 i ∧ kq + i = l.length ∧ l.take i = m.take i ∧ Below w.heap.size w w')
    case atStart => exact ⟨0, rfl, rfl, rfl, Below.refl _ _⟩
    case round =>
      obtain ⟨i, rfl, hk, ht, br⟩ := hrel
      by_cases hi : i < l.length
      · obtain ⟨k1, rfl⟩ : ∃ k1, gk = k1 + 1 := ⟨gk - 1, by omega⟩
        have hj : i < m.length := by have := HLM.out; omega
        have ci : decide ((i : Int) < (l.length : Int)) = true := decide_eq_true (by omega)
        have cj : decide ((i : Int) < (m.length : Int)) = true := decide_eq_true (by omega)
        have i0 : (0 : Int) ≤ (i : Int) := by omega
        have i1 : (i : Int) < (l.length : Int) := by omega
        have j1 : (i : Int) < (m.length : Int) := by omega
        obtain ⟨ad, eA, x0⟩ := selt h1.out i hi
        obtain ⟨bd, eB, y0⟩ := selt h2.out i hj
        subst eA eB
        replace x0 := cell_up br x0
        replace y0 := cell_up br y0
        have HK := Aside0.mk hk
        have HT := Aside0.mk ht
        clear hk ht
        by_cases he : l[i] = m[i]
        · have ce := text_eq he
          have HE := Aside0.mk he
          clear he
          go_wp2_with fail
          refine wp_region_held_drew (S := (fun w' => Below wr.heap.size wr w' ∧ w'.cell? (ad.add i) = some (.string l[i]) ∧ w'.cell? (bd.add i) = some (.string m[i]))) (by kernel_rfl) ?_ (fun hHeld => ?_)
          · (try dsimp only)
            (refine and_of (fun hB_ => ⟨cell_up hB_ x0, cell_up hB_ y0⟩) ?_; first | (with_reducible exact (Below.refl _ _).drew) | (with_reducible exact below_call' (And.left (by assumption)) (by assumption)) | (with_reducible exact And.left (by assumption)))
          (first | (refine take_held (i := 0) (d := (some 23)) (v := ?_) rfl rfl (by kernel_rfl) (by kernel_rfl) (by kernel_rfl) (fun _ _ _ h => h) (Or.inl ⟨by rfl, ?_⟩) (by assumption) ?_; rotate_left 1; focus ((intro w hSw; (try dsimp only at hSw); first | (go_simp; done) | (go_simp; with_reducible rfl)); done); (try simp only [Act.put, List.setIfInBounds_toArray, List.set_cons_zero, List.set_cons_succ])))
          (try simp only [Act.put, List.setIfInBounds_toArray, List.set_cons_zero, List.set_cons_succ])
          (first | (refine take_held (i := 1) (d := (some 24)) (v := ?_) rfl rfl (by kernel_rfl) (by kernel_rfl) (by kernel_rfl) (fun _ _ _ h => h) (Or.inl ⟨by rfl, ?_⟩) (by assumption) ?_; rotate_left 1; focus ((intro w hSw; (try dsimp only at hSw); first | (go_simp; done) | (go_simp; with_reducible rfl)); done); (try simp only [Act.put, List.setIfInBounds_toArray, List.set_cons_zero, List.set_cons_succ])))
          (try simp only [Act.put, List.setIfInBounds_toArray, List.set_cons_zero, List.set_cons_succ])
          (first | (refine take_held (i := 2) (d := (some 25)) (v := ?_) rfl rfl (by kernel_rfl) (by kernel_rfl) (by kernel_rfl) (fun _ _ _ h => h) (Or.inl ⟨by rfl, ?_⟩) (by assumption) ?_; rotate_left 1; focus ((intro w hSw; (try dsimp only at hSw); first | (go_simp; done) | (go_simp; with_reducible rfl)); done); (try simp only [Act.put, List.setIfInBounds_toArray, List.set_cons_zero, List.set_cons_succ])))
          (try simp only [Act.put, List.setIfInBounds_toArray, List.set_cons_zero, List.set_cons_succ])
          (first | (refine take_held (i := 3) (d := (some 26)) (v := ?_) rfl rfl (by kernel_rfl) (by kernel_rfl) (by kernel_rfl) (fun _ _ _ h => h) (Or.inl ⟨by rfl, ?_⟩) (by assumption) ?_; rotate_left 1; focus ((intro w hSw; (try dsimp only at hSw); first | (go_simp; done) | (go_simp; with_reducible rfl)); done); (try simp only [Act.put, List.setIfInBounds_toArray, List.set_cons_zero, List.set_cons_succ])))
          (try simp only [Act.put, List.setIfInBounds_toArray, List.set_cons_zero, List.set_cons_succ])
          (first | (refine take_held (i := 4) (d := (some 27)) (v := ?_) rfl rfl (by kernel_rfl) (by kernel_rfl) (by kernel_rfl) (fun _ _ _ h => h) (Or.inl ⟨by rfl, ?_⟩) (by assumption) ?_; rotate_left 1; focus ((intro w hSw; (try dsimp only at hSw); first | (go_simp; done) | (go_simp; with_reducible rfl)); done); (try simp only [Act.put, List.setIfInBounds_toArray, List.set_cons_zero, List.set_cons_succ])))
          (try simp only [Act.put, List.setIfInBounds_toArray, List.set_cons_zero, List.set_cons_succ])
          (first | (refine take_held (i := 5) (d := (some 28)) (v := ?_) rfl rfl (by kernel_rfl) (by kernel_rfl) (by kernel_rfl) (fun _ _ _ h => h) (Or.inl ⟨by rfl, ?_⟩) (by assumption) ?_; rotate_left 1; focus ((intro w hSw; (try dsimp only at hSw); first | (go_simp; done) | (go_simp; with_reducible rfl)); done); (try simp only [Act.put, List.setIfInBounds_toArray, List.set_cons_zero, List.set_cons_succ])))
          (try simp only [Act.put, List.setIfInBounds_toArray, List.set_cons_zero, List.set_cons_succ])
          (first | (refine take_held (i := 6) (d := (some 29)) (v := ?_) rfl rfl (by kernel_rfl) (by kernel_rfl) (by kernel_rfl) (fun _ _ _ h => h) (Or.inl ⟨by rfl, ?_⟩) (by assumption) ?_; rotate_left 1; focus ((intro w hSw; (try dsimp only at hSw); first | (go_simp; done) | (go_simp; with_reducible rfl)); done); (try simp only [Act.put, List.setIfInBounds_toArray, List.set_cons_zero, List.set_cons_succ])))
          (try simp only [Act.put, List.setIfInBounds_toArray, List.set_cons_zero, List.set_cons_succ])
          (first | (refine take_held (i := 7) (d := (some 30)) (v := ?_) rfl rfl (by kernel_rfl) (by kernel_rfl) (by kernel_rfl) (fun _ _ _ h => h) (Or.inl ⟨by rfl, ?_⟩) (by assumption) ?_; rotate_left 1; focus ((intro w hSw; (try dsimp only at hSw); first | (go_simp; done) | (go_simp; with_reducible rfl)); done); (try simp only [Act.put, List.setIfInBounds_toArray, List.set_cons_zero, List.set_cons_succ])))
          (try simp only [Act.put, List.setIfInBounds_toArray, List.set_cons_zero, List.set_cons_succ])
          (first | (refine take_held (i := 8) (d := (some 31)) (v := ?_) rfl rfl (by kernel_rfl) (by kernel_rfl) (by kernel_rfl) (fun _ _ _ h => h) (Or.inl ⟨by rfl, ?_⟩) (by assumption) ?_; rotate_left 1; focus ((intro w hSw; (try dsimp only at hSw); first | (go_simp; done) | (go_simp; with_reducible rfl)); done); (try simp only [Act.put, List.setIfInBounds_toArray, List.set_cons_zero, List.set_cons_succ])))
          (try simp only [Act.put, List.setIfInBounds_toArray, List.set_cons_zero, List.set_cons_succ])
          (try simp only [Act.put, List.setIfInBounds_toArray, List.set_cons_zero, List.set_cons_succ])
          refine wpAnyH_done (by kernel_rfl) ?_ _
          have hbR := And.left hHeld
          clear hHeld
          have br2 := chain br hbR
          clear x0 y0 br hbR
          go_wp2
          go_roundg k1
          case measure => omega
          case rel => exact ⟨i + 1, (by rw [wrap_up (by have := HL.out; omega)]), by have := HK.out; omega, take_two hi hj HT.out HE.out, br2⟩
        · have ce := text_ne he
          have HE := Aside0.mk he
          clear he
          go_wp2_with fail
          refine wp_region_held_drew (S := (fun w' => Below wr.heap.size wr w' ∧ w'.cell? (ad.add i) = some (.string l[i]) ∧ w'.cell? (bd.add i) = some (.string m[i]))) (by kernel_rfl) ?_ (fun hHeld => ?_)
          · (try dsimp only)
            (refine and_of (fun hB_ => ⟨cell_up hB_ x0, cell_up hB_ y0⟩) ?_; first | (with_reducible exact (Below.refl _ _).drew) | (with_reducible exact below_call' (And.left (by assumption)) (by assumption)) | (with_reducible exact And.left (by assumption)))
          (first | (refine take_held (i := 0) (d := (some 23)) (v := ?_) rfl rfl (by kernel_rfl) (by kernel_rfl) (by kernel_rfl) (fun _ _ _ h => h) (Or.inl ⟨by rfl, ?_⟩) (by assumption) ?_; rotate_left 1; focus ((intro w hSw; (try dsimp only at hSw); first | (go_simp; done) | (go_simp; with_reducible rfl)); done); (try simp only [Act.put, List.setIfInBounds_toArray, List.set_cons_zero, List.set_cons_succ])))
          (try simp only [Act.put, List.setIfInBounds_toArray, List.set_cons_zero, List.set_cons_succ])
          (first | (refine take_held (i := 1) (d := (some 24)) (v := ?_) rfl rfl (by kernel_rfl) (by kernel_rfl) (by kernel_rfl) (fun _ _ _ h => h) (Or.inl ⟨by rfl, ?_⟩) (by assumption) ?_; rotate_left 1; focus ((intro w hSw; (try dsimp only at hSw); first | (go_simp; done) | (go_simp; with_reducible rfl)); done); (try simp only [Act.put, List.setIfInBounds_toArray, List.set_cons_zero, List.set_cons_succ])))
          (try simp only [Act.put, List.setIfInBounds_toArray, List.set_cons_zero, List.set_cons_succ])
          (first | (refine take_held (i := 2) (d := (some 25)) (v := ?_) rfl rfl (by kernel_rfl) (by kernel_rfl) (by kernel_rfl) (fun _ _ _ h => h) (Or.inl ⟨by rfl, ?_⟩) (by assumption) ?_; rotate_left 1; focus ((intro w hSw; (try dsimp only at hSw); first | (go_simp; done) | (go_simp; with_reducible rfl)); done); (try simp only [Act.put, List.setIfInBounds_toArray, List.set_cons_zero, List.set_cons_succ])))
          (try simp only [Act.put, List.setIfInBounds_toArray, List.set_cons_zero, List.set_cons_succ])
          (first | (refine take_held (i := 3) (d := (some 26)) (v := ?_) rfl rfl (by kernel_rfl) (by kernel_rfl) (by kernel_rfl) (fun _ _ _ h => h) (Or.inl ⟨by rfl, ?_⟩) (by assumption) ?_; rotate_left 1; focus ((intro w hSw; (try dsimp only at hSw); first | (go_simp; done) | (go_simp; with_reducible rfl)); done); (try simp only [Act.put, List.setIfInBounds_toArray, List.set_cons_zero, List.set_cons_succ])))
          (try simp only [Act.put, List.setIfInBounds_toArray, List.set_cons_zero, List.set_cons_succ])
          (first | (refine take_held (i := 4) (d := (some 27)) (v := ?_) rfl rfl (by kernel_rfl) (by kernel_rfl) (by kernel_rfl) (fun _ _ _ h => h) (Or.inl ⟨by rfl, ?_⟩) (by assumption) ?_; rotate_left 1; focus ((intro w hSw; (try dsimp only at hSw); first | (go_simp; done) | (go_simp; with_reducible rfl)); done); (try simp only [Act.put, List.setIfInBounds_toArray, List.set_cons_zero, List.set_cons_succ])))
          (try simp only [Act.put, List.setIfInBounds_toArray, List.set_cons_zero, List.set_cons_succ])
          (first | (refine take_held (i := 5) (d := (some 28)) (v := ?_) rfl rfl (by kernel_rfl) (by kernel_rfl) (by kernel_rfl) (fun _ _ _ h => h) (Or.inl ⟨by rfl, ?_⟩) (by assumption) ?_; rotate_left 1; focus ((intro w hSw; (try dsimp only at hSw); first | (go_simp; done) | (go_simp; with_reducible rfl)); done); (try simp only [Act.put, List.setIfInBounds_toArray, List.set_cons_zero, List.set_cons_succ])))
          (try simp only [Act.put, List.setIfInBounds_toArray, List.set_cons_zero, List.set_cons_succ])
          (first | (refine take_held (i := 6) (d := (some 29)) (v := ?_) rfl rfl (by kernel_rfl) (by kernel_rfl) (by kernel_rfl) (fun _ _ _ h => h) (Or.inl ⟨by rfl, ?_⟩) (by assumption) ?_; rotate_left 1; focus ((intro w hSw; (try dsimp only at hSw); first | (go_simp; done) | (go_simp; with_reducible rfl)); done); (try simp only [Act.put, List.setIfInBounds_toArray, List.set_cons_zero, List.set_cons_succ])))
          (try simp only [Act.put, List.setIfInBounds_toArray, List.set_cons_zero, List.set_cons_succ])
          (first | (refine take_held (i := 7) (d := (some 30)) (v := ?_) rfl rfl (by kernel_rfl) (by kernel_rfl) (by kernel_rfl) (fun _ _ _ h => h) (Or.inl ⟨by rfl, ?_⟩) (by assumption) ?_; rotate_left 1; focus ((intro w hSw; (try dsimp only at hSw); first | (go_simp; done) | (go_simp; with_reducible rfl)); done); (try simp only [Act.put, List.setIfInBounds_toArray, List.set_cons_zero, List.set_cons_succ])))
          (try simp only [Act.put, List.setIfInBounds_toArray, List.set_cons_zero, List.set_cons_succ])
          (first | (refine take_held (i := 8) (d := (some 31)) (v := ?_) rfl rfl (by kernel_rfl) (by kernel_rfl) (by kernel_rfl) (fun _ _ _ h => h) (Or.inl ⟨by rfl, ?_⟩) (by assumption) ?_; rotate_left 1; focus ((intro w hSw; (try dsimp only at hSw); first | (go_simp; done) | (go_simp; with_reducible rfl)); done); (try simp only [Act.put, List.setIfInBounds_toArray, List.set_cons_zero, List.set_cons_succ])))
          (try simp only [Act.put, List.setIfInBounds_toArray, List.set_cons_zero, List.set_cons_succ])
          (try simp only [Act.put, List.setIfInBounds_toArray, List.set_cons_zero, List.set_cons_succ])
          refine wpAnyH_done (by kernel_rfl) ?_ _
          have hbR := And.left hHeld
          clear hHeld
          have br2 := chain br hbR
          clear x0 y0 br hbR
          go_wp2
          go_ret
          exact SmOut.no (fun h => HE.out (by subst h; rfl)) br2
      · have cn : decide ((i : Int) < (l.length : Int)) = false := decide_eq_false (by omega)
        have HT := Aside0.mk ht
        have HI := Aside0.mk hi
        clear ht
        go_wp2
        go_ret
        exact SmOut.yes (take_all HLM.out HI.out HT.out) br
  · have c0 : ((l.length : Int) == (m.length : Int)) = false := beq_eq_false_iff_ne.2 (by omega)
    have HLM := Aside0.mk hlm
    clear hlm
    go_enter Try.func50, Try.ntmps50
    go_wp2
    go_ret
    exact SmOut.no (fun h => HLM.out (by rw [h])) (Below.refl _ _)
end Go.Proofs.Ytlenfmnkbepoiaa.PSitesTell
namespace Go.Proofs.Ytlenfmnkbepoiaa.PSitesTell
open Go.RowKit Go.Proofs.YtlenfmnkbepoiaaW.Mine Go.Proofs.YtlenfmnkbepoiaaW.PrintWords Go.Proofs.YtlenfmnkbepoiaaW.PrintLast Go.Proofs.YtlenfmnkbepoiaaW.PrintMore
attribute [local go_sem] max2_int min2_int max_two min_two max_three min_three max_four min_four
set_option linter.unusedVariables false
set_option linter.unusedSimpArgs false
theorem ne_no {α : Type} [BEq α] [LawfulBEq α] {a b : α} (h : a = b) : (a != b) = false := by subst h; simp
theorem ne_yes {α : Type} [BEq α] [LawfulBEq α] {a b : α} (h : ¬ a = b) : (a != b) = true := by simp [h]
def SaysT (x : Ty) : Prop := ∀ (y : Ty) (A3 : Option Addr) (c3 : Nat) (A4 : Option Addr) (c4 : Nat) (B3 : Option Addr) (d3 : Nat) (B4 : Option Addr) (d4 : Nat) (w : World), RT w x A3 c3 A4 c4 → RT w y B3 d3 B4 d4 →
  Calls Try.prog 17 #[tv x A3 c3 A4 c4, tv y B3 d3 B4 d4] w (SmOut (x = y) w)
def SaysE (x : Ex) : Prop := ∀ (y : Ex) (A4 : Option Addr) (c4 : Nat) (A5 : Option Addr) (c5 : Nat) (A6 : Option Addr) (c6 : Nat) (B4 : Option Addr) (d4 : Nat) (B5 : Option Addr) (d5 : Nat) (B6 : Option Addr) (d6 : Nat) (w : World), RE w x A4 c4 A5 c5 A6 c6 → RE w y B4 d4 B5 d5 B6 d6 →
  Calls Try.prog 52 #[ev x A4 c4 A5 c5 A6 c6, ev y B4 d4 B5 d5 B6 d6] w (SmOut (x = y) w)
/-- Types whose lists fit into a machine's memory. -/
inductive Okt : Ty → Prop
  | mk (x : Ty) (h3 : x.f3.length ≤ 140737488351232) (h4 : x.f4.length * 80 ≤ 140737488351232) (ha : ∀ y, y ∈ x.f4 → Okt y) : Okt x
theorem Okt.l3 {x : Ty} (h : Okt x) : x.f3.length ≤ 140737488351232 := by cases h; assumption
theorem Okt.l80 {x : Ty} (h : Okt x) : x.f4.length * 80 ≤ 140737488351232 := by cases h; assumption
theorem Okt.all {x : Ty} (h : Okt x) : ∀ y, y ∈ x.f4 → Okt y := by cases h; assumption
inductive Oke : Ex → Prop
  | mk (x : Ex) (h4 : x.f4.length * 80 ≤ 140737488351232) (ht : ∀ y, y ∈ x.f4 → Okt y) (h5 : x.f5.length ≤ 140737488351232) (h6 : x.f6.length * 112 ≤ 140737488351232) (ha : ∀ y, y ∈ x.f6 → Oke y) : Oke x
theorem Oke.l80 {x : Ex} (h : Oke x) : x.f4.length * 80 ≤ 140737488351232 := by cases h; assumption
theorem Oke.types {x : Ex} (h : Oke x) : ∀ y, y ∈ x.f4 → Okt y := by cases h; assumption
theorem Oke.l5 {x : Ex} (h : Oke x) : x.f5.length ≤ 140737488351232 := by cases h; assumption
theorem Oke.l112 {x : Ex} (h : Oke x) : x.f6.length * 112 ≤ 140737488351232 := by cases h; assumption
theorem Oke.kids {x : Ex} (h : Oke x) : ∀ y, y ∈ x.f6 → Oke y := by cases h; assumption
theorem size_args : ∀ (x y : Ty), y ∈ x.f4 → SizeOf.sizeOf y < SizeOf.sizeOf x
  | ⟨a0, a1, a2, a3, a4⟩, y, h => by
    have h2 : y ∈ a4 := h
    have h3 := List.sizeOf_lt_of_mem h2
    rw [S26.mk.sizeOf_spec]
    omega
theorem size_kids : ∀ (x y : Ex), y ∈ x.f6 → SizeOf.sizeOf y < SizeOf.sizeOf x
  | ⟨a0, a1, a2, a3, a4, a5, a6⟩, y, h => by
    have h2 : y ∈ a6 := h
    have h3 := List.sizeOf_lt_of_mem h2
    rw [S31.mk.sizeOf_spec]
    omega
theorem eeltc {w : World} {A : Option Addr} {l : List Ex} (h : kEx.C w A l.length l) (i : Nat) (hi : i < l.length) : ∃ ad A4 c4 A5 c5 A6 c6, A = some ad ∧ RE w l[i] A4 c4 A5 c5 A6 c6 ∧
    w.cell? (ad.add (i * 7)) = some (.int .i64 l[i].f0) ∧ w.cell? ⟨(ad.add (i * 7)).block, (ad.add (i * 7)).off + 1, none⟩ = some (.int .i64 l[i].f1) ∧ w.cell? ⟨(ad.add (i * 7)).block, (ad.add (i * 7)).off + 2, none⟩ = some (.string l[i].f2) ∧
    w.cell? ⟨(ad.add (i * 7)).block, (ad.add (i * 7)).off + 3, none⟩ = some (.bool l[i].f3) ∧ w.cell? ⟨(ad.add (i * 7)).block, (ad.add (i * 7)).off + 4, none⟩ = some (.slice A4 l[i].f4.length c4) ∧ w.cell? ⟨(ad.add (i * 7)).block, (ad.add (i * 7)).off + 5, none⟩ = some (.slice A5 l[i].f5.length c5) ∧
    w.cell? ⟨(ad.add (i * 7)).block, (ad.add (i * 7)).off + 6, none⟩ = some (.slice A6 l[i].f6.length c6) := by
  obtain ⟨ad, A4, c4, A5, c5, A6, c6, e, hf, h0⟩ := eelt (Kd.C_F heapEx h) i hi
  exact ⟨ad, A4, c4, A5, c5, A6, c6, e, hf.re, h0⟩
set_option maxHeartbeats 4000000 in
set_option maxRecDepth 100000 in
theorem alls_c (l m : List Ty) (hs : ∀ y, y ∈ l → SaysT y) (hl : l.length ≤ 140737488351232) {A A' : Option Addr} {c c' : Nat} {w : World} (h : kTy.C w A l.length l) (h' : kTy.C w A' m.length m) :
    Calls Try.prog 21 #[.slice A l.length c, .slice A' m.length c'] w (SmOut (l = m) w) := by
  have h1 := Aside0.mk h
  have h2 := Aside0.mk h'
  have HL := Aside0.mk hl
  have HS := Aside0.mk hs
  clear h h' hl hs
  by_cases hlm : l.length = m.length
  · have c0 : ((l.length : Int) != (m.length : Int)) = false := ne_no (by omega)
    have HLM := Aside0.mk hlm
    clear hlm
    go_enter Try.func21, Try.ntmps21
    go_wp2_with fail
    go_loopg [5] l.length (fun kq v5 w' => ∃ (i : Nat), v5 = .int .i64 i ∧ kq + i = l.length ∧ l.take i = m.take i ∧ Below w.heap.size w w')
    case atStart => exact ⟨0, rfl, rfl, rfl, Below.refl _ _⟩
    case round =>
      obtain ⟨i, rfl, hk, ht, br⟩ := hrel
      by_cases hi : i < l.length
      · obtain ⟨k1, rfl⟩ : ∃ k1, gk = k1 + 1 := ⟨gk - 1, by omega⟩
        have hj : i < m.length := by have := HLM.out; omega
        have ci : decide ((i : Int) < (l.length : Int)) = true := decide_eq_true (by omega)
        have cj : decide ((i : Int) < (m.length : Int)) = true := decide_eq_true (by omega)
        have i0 : (0 : Int) ≤ (i : Int) := by omega
        have i1 : (i : Int) < (l.length : Int) := by omega
        have j1 : (i : Int) < (m.length : Int) := by omega
        obtain ⟨ad, X0, e1, X2, e3, eA, fx, x0, x1, x2, x3, x4⟩ := telt h1.out i hi
        obtain ⟨bd, Y0, j1, Y2, j3, eB, fy, y0, y1, y2, y3, y4⟩ := telt h2.out i hj
        subst eA eB
        replace x0 := cell_up br x0
        replace x1 := cell_up br x1
        replace x2 := cell_up br x2
        replace x3 := cell_up br x3
        replace x4 := cell_up br x4
        replace y0 := cell_up br y0
        replace y1 := cell_up br y1
        replace y2 := cell_up br y2
        replace y3 := cell_up br y3
        replace y4 := cell_up br y4
        replace fx := fx.below br
        replace fy := fy.below br
        have HK := Aside0.mk hk
        have HT := Aside0.mk ht
        clear hk ht 
        go_wp2_with fail
        refine wp_region_held_drew (S := (fun w' => Below wr.heap.size wr w' ∧ w'.cell? (ad.add (i * 5)) = some (.int .i64 l[i].f0) ∧ w'.cell? ⟨(ad.add (i * 5)).block, (ad.add (i * 5)).off + 1, none⟩ = some (.int .i64 l[i].f1) ∧ w'.cell? ⟨(ad.add (i * 5)).block, (ad.add (i * 5)).off + 2, none⟩ = some (.string l[i].f2) ∧ w'.cell? ⟨(ad.add (i * 5)).block, (ad.add (i * 5)).off + 3, none⟩ = some (.slice X0 l[i].f3.length e1) ∧ w'.cell? ⟨(ad.add (i * 5)).block, (ad.add (i * 5)).off + 4, none⟩ = some (.slice X2 l[i].f4.length e3) ∧ w'.cell? (bd.add (i * 5)) = some (.int .i64 m[i].f0) ∧ w'.cell? ⟨(bd.add (i * 5)).block, (bd.add (i * 5)).off + 1, none⟩ = some (.int .i64 m[i].f1) ∧ w'.cell? ⟨(bd.add (i * 5)).block, (bd.add (i * 5)).off + 2, none⟩ = some (.string m[i].f2) ∧ w'.cell? ⟨(bd.add (i * 5)).block, (bd.add (i * 5)).off + 3, none⟩ = some (.slice Y0 m[i].f3.length j1) ∧ w'.cell? ⟨(bd.add (i * 5)).block, (bd.add (i * 5)).off + 4, none⟩ = some (.slice Y2 m[i].f4.length j3))) (by kernel_rfl) ?_ (fun hHeld => ?_)
        · (try dsimp only)
          (refine and_of (fun hB_ => ⟨cell_up hB_ x0, cell_up hB_ x1, cell_up hB_ x2, cell_up hB_ x3, cell_up hB_ x4, cell_up hB_ y0, cell_up hB_ y1, cell_up hB_ y2, cell_up hB_ y3, cell_up hB_ y4⟩) ?_; first | (with_reducible exact (Below.refl _ _).drew) | (with_reducible exact below_call' (And.left (by assumption)) (by assumption)) | (with_reducible exact And.left (by assumption)))
        (first | (refine take_held (i := 0) (d := (some 23)) (v := ?_) rfl rfl (by kernel_rfl) (by kernel_rfl) (by kernel_rfl) (fun _ _ _ h => h) (Or.inl ⟨by rfl, ?_⟩) (by assumption) ?_; rotate_left 1; focus ((intro w hSw; (try dsimp only at hSw); first | (go_simp; done) | (go_simp; with_reducible rfl)); done); (try simp only [Act.put, List.setIfInBounds_toArray, List.set_cons_zero, List.set_cons_succ])))
        (try simp only [Act.put, List.setIfInBounds_toArray, List.set_cons_zero, List.set_cons_succ])
        (first | (refine take_held (i := 1) (d := (some 24)) (v := ?_) rfl rfl (by kernel_rfl) (by kernel_rfl) (by kernel_rfl) (fun _ _ _ h => h) (Or.inl ⟨by rfl, ?_⟩) (by assumption) ?_; rotate_left 1; focus ((intro w hSw; (try dsimp only at hSw); first | (go_simp; done) | (go_simp; with_reducible rfl)); done); (try simp only [Act.put, List.setIfInBounds_toArray, List.set_cons_zero, List.set_cons_succ])))
        (try simp only [Act.put, List.setIfInBounds_toArray, List.set_cons_zero, List.set_cons_succ])
        (first | (refine take_held (i := 2) (d := (some 25)) (v := ?_) rfl rfl (by kernel_rfl) (by kernel_rfl) (by kernel_rfl) (fun _ _ _ h => h) (Or.inl ⟨by rfl, ?_⟩) (by assumption) ?_; rotate_left 1; focus ((intro w hSw; (try dsimp only at hSw); first | (go_simp; done) | (go_simp; with_reducible rfl)); done); (try simp only [Act.put, List.setIfInBounds_toArray, List.set_cons_zero, List.set_cons_succ])))
        (try simp only [Act.put, List.setIfInBounds_toArray, List.set_cons_zero, List.set_cons_succ])
        (first | (refine take_held (i := 3) (d := (some 26)) (v := ?_) rfl rfl (by kernel_rfl) (by kernel_rfl) (by kernel_rfl) (fun _ _ _ h => h) (Or.inl ⟨by rfl, ?_⟩) (by assumption) ?_; rotate_left 1; focus ((intro w hSw; (try dsimp only at hSw); first | (go_simp; done) | (go_simp; with_reducible rfl)); done); (try simp only [Act.put, List.setIfInBounds_toArray, List.set_cons_zero, List.set_cons_succ])))
        (try simp only [Act.put, List.setIfInBounds_toArray, List.set_cons_zero, List.set_cons_succ])
        (first | (refine take_held (i := 4) (d := (some 27)) (v := ?_) rfl rfl (by kernel_rfl) (by kernel_rfl) (by kernel_rfl) (fun _ _ _ h => h) (Or.inl ⟨by rfl, ?_⟩) (by assumption) ?_; rotate_left 1; focus ((intro w hSw; (try dsimp only at hSw); first | (go_simp; done) | (go_simp; with_reducible rfl)); done); (try simp only [Act.put, List.setIfInBounds_toArray, List.set_cons_zero, List.set_cons_succ])))
        (try simp only [Act.put, List.setIfInBounds_toArray, List.set_cons_zero, List.set_cons_succ])
        (first | (refine take_held (i := 5) (d := (some 28)) (v := ?_) rfl rfl (by kernel_rfl) (by kernel_rfl) (by kernel_rfl) (fun _ _ _ h => h) (Or.inl ⟨by rfl, ?_⟩) (by assumption) ?_; rotate_left 1; focus ((intro w hSw; (try dsimp only at hSw); first | (go_simp; done) | (go_simp; with_reducible rfl)); done); (try simp only [Act.put, List.setIfInBounds_toArray, List.set_cons_zero, List.set_cons_succ])))
        (try simp only [Act.put, List.setIfInBounds_toArray, List.set_cons_zero, List.set_cons_succ])
        (first | (refine take_held (i := 6) (d := (some 29)) (v := ?_) rfl rfl (by kernel_rfl) (by kernel_rfl) (by kernel_rfl) (fun _ _ _ h => h) (Or.inl ⟨by rfl, ?_⟩) (by assumption) ?_; rotate_left 1; focus ((intro w hSw; (try dsimp only at hSw); first | (go_simp; done) | (go_simp; with_reducible rfl)); done); (try simp only [Act.put, List.setIfInBounds_toArray, List.set_cons_zero, List.set_cons_succ])))
        (try simp only [Act.put, List.setIfInBounds_toArray, List.set_cons_zero, List.set_cons_succ])
        (first | (refine take_held (i := 7) (d := (some 30)) (v := ?_) rfl rfl (by kernel_rfl) (by kernel_rfl) (by kernel_rfl) (fun _ _ _ h => h) (Or.inl ⟨by rfl, ?_⟩) (by assumption) ?_; rotate_left 1; focus ((intro w hSw; (try dsimp only at hSw); first | (go_simp; done) | (go_simp; with_reducible rfl)); done); (try simp only [Act.put, List.setIfInBounds_toArray, List.set_cons_zero, List.set_cons_succ])))
        (try simp only [Act.put, List.setIfInBounds_toArray, List.set_cons_zero, List.set_cons_succ])
        (first
          | (refine wpAnyH_ready (rs := [8]) (by kernel_rfl) (by simp) ?_; refine AllReadyH.cons (o := _) rfl (fun K hK => ?_) AllReadyH.nil; go_simp; (go_at_call 17; refine (HS.out _ (List.getElem_mem hi) _ _ _ _ _ _ _ _ _ wr.drew (fx.below (Below.refl _ _).drew) (fy.below (Below.refl _ _).drew)).mono ?_; rintro e_ wA ⟨b, rfl, hbi, hbA⟩; have hbW := hbA); (try go_wp2_with fail); refine hK.out _ _ (by (try dsimp only); (refine and_of (fun hB_ => ⟨cell_up hB_ x0, cell_up hB_ x1, cell_up hB_ x2, cell_up hB_ x3, cell_up hB_ x4, cell_up hB_ y0, cell_up hB_ y1, cell_up hB_ y2, cell_up hB_ y3, cell_up hB_ y4⟩) ?_; first | (with_reducible exact (Below.refl _ _).drew) | (with_reducible exact below_call' (And.left (by assumption)) (by assumption)) | (with_reducible exact And.left (by assumption)))) ?_; clear hHeld hK K; intro hHeld; (try simp only [Act.put, List.setIfInBounds_toArray, List.set_cons_zero, List.set_cons_succ])))
        (first | (refine take_held (i := 9) (d := (some 32)) (v := ?_) rfl rfl (by kernel_rfl) (by kernel_rfl) (by kernel_rfl) (fun _ _ _ h => h) (Or.inl ⟨by rfl, ?_⟩) (by assumption) ?_; rotate_left 1; focus ((intro w hSw; (try dsimp only at hSw); first | (go_simp; done) | (go_simp; with_reducible rfl)); done); (try simp only [Act.put, List.setIfInBounds_toArray, List.set_cons_zero, List.set_cons_succ])))
        (try simp only [Act.put, List.setIfInBounds_toArray, List.set_cons_zero, List.set_cons_succ])
        (try simp only [Act.put, List.setIfInBounds_toArray, List.set_cons_zero, List.set_cons_succ])
        refine wpAnyH_done (by kernel_rfl) ?_ _
        have hbR := And.left hHeld
        clear hHeld
        have br2 := chain br hbR
        clear x0 x1 x2 x3 x4 y0 y1 y2 y3 y4 fx fy br hbR hbW
        cases b with
        | false =>
          have HE : Aside0 (¬ (l[i] = m[i])) := ⟨fun h => by simp [h] at hbi⟩
          clear hbi
          go_wp2
          go_ret
          exact SmOut.no (fun h => HE.out (by subst h; rfl)) br2
        | true =>
          have HE := Aside0.mk (hbi.1 rfl)
          clear hbi
          go_wp2
          go_roundg k1
          case measure => omega
          case rel => exact ⟨i + 1, (by rw [wrap_up (by have := HL.out; omega)]), by have := HK.out; omega, take_two hi hj HT.out HE.out, br2⟩
      · have cn : decide ((i : Int) < (l.length : Int)) = false := decide_eq_false (by omega)
        have HT := Aside0.mk ht
        have HI := Aside0.mk hi
        have br2 := br
        clear ht br
        go_wp2
        go_ret
        exact SmOut.yes (take_all HLM.out HI.out HT.out) br2
  · have c0 : ((l.length : Int) != (m.length : Int)) = true := ne_yes (by omega)
    have HLM := Aside0.mk hlm
    clear hlm
    go_enter Try.func21, Try.ntmps21
    go_wp2
    go_ret
    exact SmOut.no (fun h => HLM.out (by rw [h])) (Below.refl _ _)
theorem same_of5 {x y : Ty} (h0 : x.f0 = y.f0) (h1 : x.f1 = y.f1) (h2 : x.f2 = y.f2) (h3 : x.f3 = y.f3) (h4 : x.f4 = y.f4) : x = y := by
  cases x; cases y; simp_all
theorem same_of7 {x y : Ex} (h0 : x.f0 = y.f0) (h1 : x.f1 = y.f1) (h2 : x.f2 = y.f2) (h3 : x.f3 = y.f3) (h4 : x.f4 = y.f4) (h5 : x.f5 = y.f5) (h6 : x.f6 = y.f6) : x = y := by
  cases x; cases y; simp_all
set_option maxHeartbeats 4000000 in
set_option maxRecDepth 100000 in
theorem typ_c (x : Ty) (ho : Okt x) (hs : ∀ y, y ∈ x.f4 → SaysT y) : SaysT x := by
  intro y A3 c3 A4 c4 B3 d3 B4 d4 w hA hB
  obtain ⟨kP, kQ, b0, z0⟩ := twoA w (tarr x A3 c3 A4 c4) (tarr y B3 d3 B4 d4) 26 26
  obtain ⟨⟨p0, p1, p2, p3, p4⟩, -, lp⟩ := five kP
  obtain ⟨⟨q0, q1, q2, q3, q4⟩, -, lq⟩ := five kQ
  replace hA := hA.below b0
  replace hB := hB.below b0
  have HO := Aside0.mk ho
  have HS := Aside0.mk hs
  have HA := Aside0.mk hA
  have HB := Aside0.mk hB
  have b1 := Aside0.mk b0
  clear kP kQ ho hs b0 z0 hA hB
  by_cases df0 : x.f0 = y.f0
  case neg =>
    have ef0 : (x.f0 != y.f0) = true := ne_yes df0
    have Df0 := Aside0.mk df0
    clear df0
    go_enter Try.func17, Try.ntmps17
    go_wp2
    go_ret
    exact SmOut.no (fun h => Df0.out (by rw [h])) b1.out
  have ef0 : (x.f0 != y.f0) = false := ne_no df0
  have Df0 := Aside0.mk df0
  clear df0
  by_cases df1 : x.f1 = y.f1
  case neg =>
    have ef1 : (x.f1 != y.f1) = true := ne_yes df1
    have Df1 := Aside0.mk df1
    clear df1
    go_enter Try.func17, Try.ntmps17
    go_wp2
    go_ret
    exact SmOut.no (fun h => Df1.out (by rw [h])) b1.out
  have ef1 : (x.f1 != y.f1) = false := ne_no df1
  have Df1 := Aside0.mk df1
  clear df1
  by_cases df2 : x.f2 = y.f2
  case neg =>
    have ef2 := text_ne df2
    have Df2 := Aside0.mk df2
    clear df2
    go_enter Try.func17, Try.ntmps17
    go_wp2
    go_ret
    exact SmOut.no (fun h => Df2.out (by rw [h])) b1.out
  have ef2 := text_eq df2
  have Df2 := Aside0.mk df2
  clear df2
  go_enter Try.func17, Try.ntmps17
  go_wp2_with fail
  refine (texts_c x.f3 y.f3 HO.out.l3 HA.out.2.1 HB.out.2.1).mono ?_
  rintro e_ w1 ⟨b, rfl, hbi, hb⟩
  replace p0 := cell_up hb p0
  replace p1 := cell_up hb p1
  replace p2 := cell_up hb p2
  replace p3 := cell_up hb p3
  replace p4 := cell_up hb p4
  replace q0 := cell_up hb q0
  replace q1 := cell_up hb q1
  replace q2 := cell_up hb q2
  replace q3 := cell_up hb q3
  replace q4 := cell_up hb q4
  have HA1 := Aside0.mk (HA.out.below hb)
  have HB1 := Aside0.mk (HB.out.below hb)
  have b2 := Aside0.mk (chain b1.out hb)
  replace lp := Nat.lt_of_lt_of_le lp hb.size
  replace lq := Nat.lt_of_lt_of_le lq hb.size
  cases b
  case false =>
    have Df3 : Aside0 (¬ (x.f3 = y.f3)) := ⟨fun h => by simp [h] at hbi⟩
    clear hbi hb
    go_wp2
    go_ret
    exact SmOut.no (fun h => Df3.out (by rw [h])) b2.out
  have Df3 := Aside0.mk (hbi.1 rfl)
  clear hbi hb
  by_cases hlm : x.f4.length = y.f4.length
  case neg =>
    have c0 : ((x.f4.length : Int) != (y.f4.length : Int)) = true := ne_yes (by omega)
    have HLM := Aside0.mk hlm
    clear hlm
    go_wp2
    go_ret
    exact SmOut.no (fun h => HLM.out (by rw [h])) b2.out
  have c0 : ((x.f4.length : Int) != (y.f4.length : Int)) = false := ne_no (by omega)
  have HLM := Aside0.mk hlm
  clear hlm
  go_wp2_with fail
  go_loopg [5] x.f4.length (fun kq v5 w' => ∃ (i : Nat), v5 = .int .i64 i ∧ kq + i = x.f4.length ∧ x.f4.take i = y.f4.take i ∧ Below w1.heap.size w1 w')
  case atStart => exact ⟨0, rfl, rfl, rfl, Below.refl _ _⟩
  case round =>
    obtain ⟨i, rfl, hk, ht, br⟩ := hrel
    have z0 := cell_up br p4
    have z1 := cell_up br q4
    by_cases hi : i < x.f4.length
    · obtain ⟨k1, rfl⟩ : ∃ k1, gk = k1 + 1 := ⟨gk - 1, by omega⟩
      have hj : i < y.f4.length := by have := HLM.out; omega
      have ci : decide ((i : Int) < (x.f4.length : Int)) = true := decide_eq_true (by omega)
      have cj : decide ((i : Int) < (y.f4.length : Int)) = true := decide_eq_true (by omega)
      have i0 : (0 : Int) ≤ (i : Int) := by omega
      have i1 : (i : Int) < (x.f4.length : Int) := by omega
      have j1 : (i : Int) < (y.f4.length : Int) := by omega
      obtain ⟨ad, X0, e1, X2, e3, eA, fx, x0, x1, x2, x3, x4⟩ := telt HA1.out.2.2.2 i hi
      obtain ⟨bd, Y0, j1, Y2, j3, eB, fy, y0, y1, y2, y3, y4⟩ := telt HB1.out.2.2.2 i hj
      subst eA eB
      replace x0 := cell_up br x0
      replace x1 := cell_up br x1
      replace x2 := cell_up br x2
      replace x3 := cell_up br x3
      replace x4 := cell_up br x4
      replace y0 := cell_up br y0
      replace y1 := cell_up br y1
      replace y2 := cell_up br y2
      replace y3 := cell_up br y3
      replace y4 := cell_up br y4
      replace fx := fx.below br
      replace fy := fy.below br
      have HK := Aside0.mk hk
      have HT := Aside0.mk ht
      clear hk ht p0 p1 p2 p3 p4 q0 q1 q2 q3 q4
      go_wp2_with fail
      refine wp_region_held_drew (S := (fun w' => Below wr.heap.size wr w' ∧ w'.cell? ⟨w.heap.size, 4, none⟩ = some (.slice (some ad) x.f4.length c4) ∧ w'.cell? ⟨w.heap.size + 1, 4, none⟩ = some (.slice (some bd) y.f4.length d4) ∧ w'.cell? (ad.add (i * 5)) = some (.int .i64 x.f4[i].f0) ∧ w'.cell? ⟨(ad.add (i * 5)).block, (ad.add (i * 5)).off + 1, none⟩ = some (.int .i64 x.f4[i].f1) ∧ w'.cell? ⟨(ad.add (i * 5)).block, (ad.add (i * 5)).off + 2, none⟩ = some (.string x.f4[i].f2) ∧ w'.cell? ⟨(ad.add (i * 5)).block, (ad.add (i * 5)).off + 3, none⟩ = some (.slice X0 x.f4[i].f3.length e1) ∧ w'.cell? ⟨(ad.add (i * 5)).block, (ad.add (i * 5)).off + 4, none⟩ = some (.slice X2 x.f4[i].f4.length e3) ∧ w'.cell? (bd.add (i * 5)) = some (.int .i64 y.f4[i].f0) ∧ w'.cell? ⟨(bd.add (i * 5)).block, (bd.add (i * 5)).off + 1, none⟩ = some (.int .i64 y.f4[i].f1) ∧ w'.cell? ⟨(bd.add (i * 5)).block, (bd.add (i * 5)).off + 2, none⟩ = some (.string y.f4[i].f2) ∧ w'.cell? ⟨(bd.add (i * 5)).block, (bd.add (i * 5)).off + 3, none⟩ = some (.slice Y0 y.f4[i].f3.length j1) ∧ w'.cell? ⟨(bd.add (i * 5)).block, (bd.add (i * 5)).off + 4, none⟩ = some (.slice Y2 y.f4[i].f4.length j3))) (by kernel_rfl) ?_ (fun hHeld => ?_)
      · (try dsimp only)
        (refine and_of (fun hB_ => ⟨cell_up hB_ z0, cell_up hB_ z1, cell_up hB_ x0, cell_up hB_ x1, cell_up hB_ x2, cell_up hB_ x3, cell_up hB_ x4, cell_up hB_ y0, cell_up hB_ y1, cell_up hB_ y2, cell_up hB_ y3, cell_up hB_ y4⟩) ?_; first | (with_reducible exact (Below.refl _ _).drew) | (with_reducible exact below_call' (And.left (by assumption)) (by assumption)) | (with_reducible exact And.left (by assumption)))
      (first | (refine take_held (i := 0) (d := (some 56)) (v := ?_) rfl rfl (by kernel_rfl) (by kernel_rfl) (by kernel_rfl) (fun _ _ _ h => h) (Or.inl ⟨by rfl, ?_⟩) (by assumption) ?_; rotate_left 1; focus ((intro w hSw; (try dsimp only at hSw); first | (go_simp; done) | (go_simp; with_reducible rfl)); done); (try simp only [Act.put, List.setIfInBounds_toArray, List.set_cons_zero, List.set_cons_succ])))
      (try simp only [Act.put, List.setIfInBounds_toArray, List.set_cons_zero, List.set_cons_succ])
      (first | (refine take_held (i := 1) (d := (some 57)) (v := ?_) rfl rfl (by kernel_rfl) (by kernel_rfl) (by kernel_rfl) (fun _ _ _ h => h) (Or.inl ⟨by rfl, ?_⟩) (by assumption) ?_; rotate_left 1; focus ((intro w hSw; (try dsimp only at hSw); first | (go_simp; done) | (go_simp; with_reducible rfl)); done); (try simp only [Act.put, List.setIfInBounds_toArray, List.set_cons_zero, List.set_cons_succ])))
      (try simp only [Act.put, List.setIfInBounds_toArray, List.set_cons_zero, List.set_cons_succ])
      (first | (refine take_held (i := 2) (d := (some 58)) (v := ?_) rfl rfl (by kernel_rfl) (by kernel_rfl) (by kernel_rfl) (fun _ _ _ h => h) (Or.inl ⟨by rfl, ?_⟩) (by assumption) ?_; rotate_left 1; focus ((intro w hSw; (try dsimp only at hSw); first | (go_simp; done) | (go_simp; with_reducible rfl)); done); (try simp only [Act.put, List.setIfInBounds_toArray, List.set_cons_zero, List.set_cons_succ])))
      (try simp only [Act.put, List.setIfInBounds_toArray, List.set_cons_zero, List.set_cons_succ])
      (first | (refine take_held (i := 3) (d := (some 59)) (v := ?_) rfl rfl (by kernel_rfl) (by kernel_rfl) (by kernel_rfl) (fun _ _ _ h => h) (Or.inl ⟨by rfl, ?_⟩) (by assumption) ?_; rotate_left 1; focus ((intro w hSw; (try dsimp only at hSw); first | (go_simp; done) | (go_simp; with_reducible rfl)); done); (try simp only [Act.put, List.setIfInBounds_toArray, List.set_cons_zero, List.set_cons_succ])))
      (try simp only [Act.put, List.setIfInBounds_toArray, List.set_cons_zero, List.set_cons_succ])
      (first | (refine take_held (i := 4) (d := (some 60)) (v := ?_) rfl rfl (by kernel_rfl) (by kernel_rfl) (by kernel_rfl) (fun _ _ _ h => h) (Or.inl ⟨by rfl, ?_⟩) (by assumption) ?_; rotate_left 1; focus ((intro w hSw; (try dsimp only at hSw); first | (go_simp; done) | (go_simp; with_reducible rfl)); done); (try simp only [Act.put, List.setIfInBounds_toArray, List.set_cons_zero, List.set_cons_succ])))
      (try simp only [Act.put, List.setIfInBounds_toArray, List.set_cons_zero, List.set_cons_succ])
      (first | (refine take_held (i := 5) (d := (some 61)) (v := ?_) rfl rfl (by kernel_rfl) (by kernel_rfl) (by kernel_rfl) (fun _ _ _ h => h) (Or.inl ⟨by rfl, ?_⟩) (by assumption) ?_; rotate_left 1; focus ((intro w hSw; (try dsimp only at hSw); first | (go_simp; done) | (go_simp; with_reducible rfl)); done); (try simp only [Act.put, List.setIfInBounds_toArray, List.set_cons_zero, List.set_cons_succ])))
      (try simp only [Act.put, List.setIfInBounds_toArray, List.set_cons_zero, List.set_cons_succ])
      (first | (refine take_held (i := 6) (d := (some 62)) (v := ?_) rfl rfl (by kernel_rfl) (by kernel_rfl) (by kernel_rfl) (fun _ _ _ h => h) (Or.inl ⟨by rfl, ?_⟩) (by assumption) ?_; rotate_left 1; focus ((intro w hSw; (try dsimp only at hSw); first | (go_simp; done) | (go_simp; with_reducible rfl)); done); (try simp only [Act.put, List.setIfInBounds_toArray, List.set_cons_zero, List.set_cons_succ])))
      (try simp only [Act.put, List.setIfInBounds_toArray, List.set_cons_zero, List.set_cons_succ])
      (first | (refine take_held (i := 7) (d := (some 63)) (v := ?_) rfl rfl (by kernel_rfl) (by kernel_rfl) (by kernel_rfl) (fun _ _ _ h => h) (Or.inl ⟨by rfl, ?_⟩) (by assumption) ?_; rotate_left 1; focus ((intro w hSw; (try dsimp only at hSw); first | (go_simp; done) | (go_simp; with_reducible rfl)); done); (try simp only [Act.put, List.setIfInBounds_toArray, List.set_cons_zero, List.set_cons_succ])))
      (try simp only [Act.put, List.setIfInBounds_toArray, List.set_cons_zero, List.set_cons_succ])
      (first | (refine take_held (i := 8) (d := (some 64)) (v := ?_) rfl rfl (by kernel_rfl) (by kernel_rfl) (by kernel_rfl) (fun _ _ _ h => h) (Or.inl ⟨by rfl, ?_⟩) (by assumption) ?_; rotate_left 1; focus ((intro w hSw; (try dsimp only at hSw); first | (go_simp; done) | (go_simp; with_reducible rfl)); done); (try simp only [Act.put, List.setIfInBounds_toArray, List.set_cons_zero, List.set_cons_succ])))
      (try simp only [Act.put, List.setIfInBounds_toArray, List.set_cons_zero, List.set_cons_succ])
      (first | (refine take_held (i := 9) (d := (some 65)) (v := ?_) rfl rfl (by kernel_rfl) (by kernel_rfl) (by kernel_rfl) (fun _ _ _ h => h) (Or.inl ⟨by rfl, ?_⟩) (by assumption) ?_; rotate_left 1; focus ((intro w hSw; (try dsimp only at hSw); first | (go_simp; done) | (go_simp; with_reducible rfl)); done); (try simp only [Act.put, List.setIfInBounds_toArray, List.set_cons_zero, List.set_cons_succ])))
      (try simp only [Act.put, List.setIfInBounds_toArray, List.set_cons_zero, List.set_cons_succ])
      (first
        | (refine wpAnyH_ready (rs := [10]) (by kernel_rfl) (by simp) ?_; refine AllReadyH.cons (o := _) rfl (fun K hK => ?_) AllReadyH.nil; go_simp; (go_at_call 17; refine (HS.out _ (List.getElem_mem hi) _ _ _ _ _ _ _ _ _ wr.drew (fx.below (Below.refl _ _).drew) (fy.below (Below.refl _ _).drew)).mono ?_; rintro e_ wA ⟨b, rfl, hbi, hbA⟩; have hbW := hbA); (try go_wp2_with fail); refine hK.out _ _ (by (try dsimp only); (refine and_of (fun hB_ => ⟨cell_up hB_ z0, cell_up hB_ z1, cell_up hB_ x0, cell_up hB_ x1, cell_up hB_ x2, cell_up hB_ x3, cell_up hB_ x4, cell_up hB_ y0, cell_up hB_ y1, cell_up hB_ y2, cell_up hB_ y3, cell_up hB_ y4⟩) ?_; first | (with_reducible exact (Below.refl _ _).drew) | (with_reducible exact below_call' (And.left (by assumption)) (by assumption)) | (with_reducible exact And.left (by assumption)))) ?_; clear hHeld hK K; intro hHeld; (try simp only [Act.put, List.setIfInBounds_toArray, List.set_cons_zero, List.set_cons_succ])))
      (first | (refine take_held (i := 11) (d := (some 67)) (v := ?_) rfl rfl (by kernel_rfl) (by kernel_rfl) (by kernel_rfl) (fun _ _ _ h => h) (Or.inl ⟨by rfl, ?_⟩) (by assumption) ?_; rotate_left 1; focus ((intro w hSw; (try dsimp only at hSw); first | (go_simp; done) | (go_simp; with_reducible rfl)); done); (try simp only [Act.put, List.setIfInBounds_toArray, List.set_cons_zero, List.set_cons_succ])))
      (try simp only [Act.put, List.setIfInBounds_toArray, List.set_cons_zero, List.set_cons_succ])
      (try simp only [Act.put, List.setIfInBounds_toArray, List.set_cons_zero, List.set_cons_succ])
      refine wpAnyH_done (by kernel_rfl) ?_ _
      have hbR := And.left hHeld
      clear hHeld
      have br2 := chain br hbR
      clear z0 z1 x0 x1 x2 x3 x4 y0 y1 y2 y3 y4 fx fy br hbR hbW
      cases b with
      | false =>
        have HE : Aside0 (¬ (x.f4[i] = y.f4[i])) := ⟨fun h => by simp [h] at hbi⟩
        clear hbi
        go_wp2
        go_ret
        exact SmOut.no (fun h => HE.out (by subst h; rfl)) (chain b2.out br2)
      | true =>
        have HE := Aside0.mk (hbi.1 rfl)
        clear hbi
        go_wp2
        go_roundg k1
        case measure => omega
        case rel => exact ⟨i + 1, (by rw [wrap_up (by have := HO.out.l80; omega)]), by have := HK.out; omega, take_two hi hj HT.out HE.out, br2⟩
    · have cn : decide ((i : Int) < (x.f4.length : Int)) = false := decide_eq_false (by omega)
      have HT := Aside0.mk ht
      have HI := Aside0.mk hi
      have br2 := br
      clear ht br
      go_wp2
      go_ret
      exact SmOut.yes (same_of5 Df0.out Df1.out Df2.out Df3.out (take_all HLM.out HI.out HT.out)) (chain b2.out br2)
theorem says_typ : ∀ (n : Nat) (x : Ty), SizeOf.sizeOf x < n → Okt x → SaysT x
  | 0, x, h, _ => absurd h (by omega)
  | n + 1, x, h, ho => typ_c x ho fun y hy => says_typ n y (by have := size_args x y hy; omega) (ho.all y hy)
theorem saysT (x : Ty) (h : Okt x) : SaysT x := says_typ _ x (Nat.lt_succ_self _) h
end Go.Proofs.Ytlenfmnkbepoiaa.PSitesTell
