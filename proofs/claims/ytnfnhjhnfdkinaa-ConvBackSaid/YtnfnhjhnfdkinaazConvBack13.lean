/-
  ConvBack: texts of this claim, put together by a program of this session. No conditions beyond what each lemma says.
-/
import Derived.Test.YtnfnhjhnfdkinaazConvBack11
import Derived.Test.YtnfnhjhnfdkinaazConvBack12
import Derived.Lib.Strings
namespace Go.Proofs.Ytnfnhjhnfdkinaa.PConvBack
open Go.RowKit Go.Proofs.YtnfnhjhnfdkinaaW.Mine Go.Proofs.YtnfnhjhnfdkinaaW.PrintWords Go.Proofs.YtnfnhjhnfdkinaaW.PrintLast Go.Proofs.YtnfnhjhnfdkinaaW.PrintMore
set_option linter.unusedVariables false
set_option linter.unusedSimpArgs false
mutual
def same : S25 → S25 → Bool
  | ⟨a0, a1, a2, a3, a4⟩, ⟨b0, b1, b2, b3, b4⟩ => decide (a0 = b0) && (decide (a1 = b1) && (eqText a2 b2 && (eqTexts a3 b3 && sameAll a4 b4)))
def sameAll : List S25 → List S25 → Bool
  | [], [] => true
  | a :: l, b :: m => same a b && sameAll l m
  | _, _ => false
end
theorem size_args : ∀ (x y : S25), y ∈ x.f4 → SizeOf.sizeOf y < SizeOf.sizeOf x
  | ⟨a0, a1, a2, a3, a4⟩, y, h => by
    have h2 : y ∈ a4 := h
    have h3 := List.sizeOf_lt_of_mem h2
    rw [S25.mk.sizeOf_spec]
    omega
theorem text_iff (a b : ByteArray) : eqText a b = true ↔ a = b := by
  unfold eqText
  constructor
  · intro h
    have h := eq_of_beq h
    apply ByteArray.ext
    apply Array.toList_inj.1
    rw [Lib.toList_data, Lib.toList_data] at h
    exact h
  · rintro rfl; simp
theorem texts_iff : ∀ (l m : List ByteArray), eqTexts l m = true ↔ l = m
  | [], [] => by simp [eqTexts, allTwo]
  | a :: l, b :: m => by
    have := texts_iff l m
    unfold eqTexts at this ⊢
    simp only [allTwo, Bool.and_eq_true, text_iff, this, List.cons.injEq]
  | [], _ :: _ => by simp [eqTexts, allTwo]
  | _ :: _, [] => by simp [eqTexts, allTwo]
theorem two_step {α β : Type} (p : α → β → Bool) (l : List α) (m : List β) (i : Nat) (h : i < l.length) (h' : i < m.length) : allTwo p (l.drop i) (m.drop i) = (p l[i] m[i] && allTwo p (l.drop (i + 1)) (m.drop (i + 1))) := by
  rw [List.drop_eq_getElem_cons h, List.drop_eq_getElem_cons h']; rfl
theorem two_end {α β : Type} (p : α → β → Bool) (l : List α) (m : List β) (i : Nat) (h : l.length ≤ i) (h' : m.length ≤ i) : allTwo p (l.drop i) (m.drop i) = true := by
  rw [List.drop_eq_nil_of_le h, List.drop_eq_nil_of_le h']; rfl
theorem wrap_up {i : Nat} (h : i < 9223372036854775807) : wrap64 ((i : Int) + 1) = ((i + 1 : Nat) : Int) := by unfold wrap64; omega
theorem rdT_at (l : List S25) (i : Nat) (h : i < l.length) : rd_T25 l (i : Int) = l[i] := getD_at _ l i h
/-! labels -/
theorem labels_l (xs ys : List ByteArray) (hn : xs.length = ys.length) (hb : xs.length ≤ 140737488351232) (d i : Nat) (hd : d + i = xs.length) :
    Ev (fun k => limbeckref01_Same.l0 k xs ys i) (eqTexts (xs.drop i) (ys.drop i)) := by
  unfold eqTexts
  induction d generalizing i with
  | zero =>
    rw [two_end _ _ _ _ (by omega) (by omega)]
    exact Ev.step (fun _ => rfl) (Ev.neg (by omega) (Ev.step (f := fun _ => some true) (fun _ => rfl) (Ev.rets rfl)))
  | succ d ih =>
    rw [two_step _ _ _ i (by omega) (by omega)]
    refine Ev.step (fun _ => rfl) (Ev.pos (by omega) ?_)
    rw [decide_eq_true (show (i : Int) < (ys.length : Int) by omega)]
    refine Ev.step (fun _ => rfl) (Ev.pos (by omega) (Ev.pos (by omega) ?_))
    rw [rdOf_at _ xs i (by omega), rdOf_at _ ys i (by omega), wrap_up (by omega)]
    by_cases e : xs[i].toList = ys[i].toList
    · rw [show eqText xs[i] ys[i] = true by unfold eqText; rw [e]; simp, Bool.true_and]
      exact Ev.pos e (ih (i + 1) (by omega))
    · rw [show eqText xs[i] ys[i] = false by unfold eqText; exact beq_eq_false_iff_ne.mpr e, Bool.false_and]
      exact Ev.neg e (Ev.rets rfl)
theorem labels_f (xs ys : List ByteArray) (hb : xs.length ≤ 140737488351232) : Ev (fun k => limbeckref01_Same.f k xs ys) (eqTexts xs ys) := by
  unfold limbeckref01_Same.f
  by_cases h : xs.length = ys.length
  · exact Ev.pos (by omega) (labels_l xs ys h hb xs.length 0 (by omega))
  · rw [show eqTexts xs ys = false from allTwo_ne h]
    exact Ev.neg (by omega) (Ev.rets rfl)
/-- Lists as long as there may be, at each place. -/
inductive Okt : S25 → Prop
  | mk (x : S25) (h3 : x.f3.length ≤ 140737488351232) (h4 : x.f4.length * 80 ≤ 140737488351232) (hs : ∀ y, y ∈ x.f4 → Okt y) : Okt x
theorem Okt.l3 {x : S25} (h : Okt x) : x.f3.length ≤ 140737488351232 := by cases h; assumption
theorem Okt.l80 {x : S25} (h : Okt x) : x.f4.length * 80 ≤ 140737488351232 := by cases h; assumption
theorem Okt.l4 {x : S25} (h : Okt x) : x.f4.length ≤ 140737488351232 := by have := h.l80; omega
theorem Okt.all {x : S25} (h : Okt x) : ∀ y, y ∈ x.f4 → Okt y := by cases h; assumption
/-! types -/
theorem wrap_ok {i : Int} (h0 : -9223372036854775808 ≤ i) (h1 : i ≤ 9223372036854775807) : wrap64 i = i := by unfold wrap64; omega
theorem rdT_mem (l : List S25) (i : Nat) (h : i < l.length) : rd_T25 l (i : Int) ∈ l := by
  unfold rd_T25
  rw [Int.toNat_natCast, List.getD_eq_getElem?_getD, List.getElem?_eq_getElem h]
  exact List.getElem_mem h
theorem much_l1 (a0 a1 : Int) (a2 : ByteArray) (l3 : List ByteArray) (l4 : List S25) (hl : l4.length * 80 ≤ 140737488351232) (hs : ∀ y, y ∈ l4 → ∃ r, Ev (fun k => limbecklaw04_Much.f k y.f0 y.f1 y.f2 y.f3 y.f4) r) (d i : Nat) (hd : d + i = l4.length) (x3 : Int) :
    ∃ r, Ev (fun k => limbecklaw04_Much.l1 k x3 i a0 a1 a2 l3 l4) r := by
  induction d generalizing i x3 with
  | zero => exact ⟨_, Ev.step (fun _ => rfl) (Ev.neg (by omega) (Ev.rets rfl))⟩
  | succ d ih =>
    by_cases h : x3 < 3000
    · obtain ⟨t, ht⟩ := hs _ (rdT_mem l4 i (by omega))
      obtain ⟨r, hr⟩ := ih (i + 1) (by omega) (wrap64 (x3 + t))
      refine ⟨r, Ev.step (fun _ => rfl) (Ev.pos (by omega) (Ev.pos h (Ev.pos (by omega) (Ev.bind ht ?_))))⟩
      rw [wrap_ok (show -9223372036854775808 ≤ (i : Int) + 1 by omega) (by omega)]
      exact hr
    · exact ⟨_, Ev.step (fun _ => rfl) (Ev.pos (by omega) (Ev.neg h (Ev.rets rfl)))⟩
theorem much_l0 (a0 a1 : Int) (a2 : ByteArray) (l3 : List ByteArray) (l4 : List S25) (hl : l4.length * 80 ≤ 140737488351232) (hs : ∀ y, y ∈ l4 → ∃ r, Ev (fun k => limbecklaw04_Much.f k y.f0 y.f1 y.f2 y.f3 y.f4) r) (d i : Nat) (hd : d + i = l3.length) (x3 : Int) :
    ∃ r, Ev (fun k => limbecklaw04_Much.l0 k x3 i a0 a1 a2 l3 l4) r := by
  have hj : ∀ x, ∃ r, Ev (fun k => limbecklaw04_Much.j1 k x a0 a1 a2 l3 l4) r := fun x => by
    obtain ⟨r, hr⟩ := much_l1 a0 a1 a2 l3 l4 hl hs l4.length 0 (by omega) x
    exact ⟨r, Ev.step (fun _ => rfl) hr⟩
  induction d generalizing i x3 with
  | zero =>
    obtain ⟨r, hr⟩ := hj x3
    exact ⟨r, Ev.step (fun _ => rfl) (Ev.neg (by omega) hr)⟩
  | succ d ih =>
    by_cases h : (i : Int) < 1000
    · obtain ⟨r, hr⟩ := ih (i + 1) (by omega) (wrap64 (x3 + (wrap64 (((rdOf ByteArray.empty l3 i).size : Int) / 8))))
      refine ⟨r, Ev.step (fun _ => rfl) (Ev.pos (by omega) (Ev.pos h (Ev.pos (by omega) ?_)))⟩
      rw [wrap_ok (show -9223372036854775808 ≤ (i : Int) + 1 by omega) (by omega)]
      exact hr
    · obtain ⟨r, hr⟩ := hj x3
      exact ⟨r, Ev.step (fun _ => rfl) (Ev.pos (by omega) (Ev.neg h hr))⟩
theorem much_told : ∀ (n : Nat) (x : S25), SizeOf.sizeOf x < n → Okt x → ∃ r, Ev (fun k => limbecklaw04_Much.f k x.f0 x.f1 x.f2 x.f3 x.f4) r
  | 0, _, h, _ => absurd h (Nat.not_lt_zero _)
  | n + 1, x, h, ho => by
    obtain ⟨r, hr⟩ := much_l0 x.f0 x.f1 x.f2 x.f3 x.f4 ho.l80 (fun y hy => much_told n y (by have := size_args x y hy; omega) (ho.all y hy)) x.f3.length 0 (by omega) (wrap64 ((wrap64 (1 + (wrap64 ((x.f2.size : Int) / 8)))) + (x.f3.length : Int)))
    exact ⟨r, Ev.step (fun _ => rfl) hr⟩
theorem told {x : S25} (o : Okt x) : ∃ k r, limbecklaw04_Much.f k x.f0 x.f1 x.f2 x.f3 x.f4 = some r := by
  obtain ⟨r, hr⟩ := much_told _ x (Nat.lt_succ_self _) o
  obtain ⟨k, hk⟩ := hr.rounds
  exact ⟨k, r, hk⟩
end Go.Proofs.Ytnfnhjhnfdkinaa.PConvBack
namespace Go.Proofs.Ytnfnhjhnfdkinaa.PConvBack
open Go.RowKit Go.Proofs.YtnfnhjhnfdkinaaW.Mine Go.Proofs.YtnfnhjhnfdkinaaW.PrintWords Go.Proofs.YtnfnhjhnfdkinaaW.PrintLast Go.Proofs.YtnfnhjhnfdkinaaW.PrintMore
attribute [local go_sem] max2_int min2_int max_two min_two max_three min_three max_four min_four
set_option linter.unusedVariables false
set_option linter.unusedSimpArgs false
abbrev tarr (t : Ty) (A3 : Option Addr) (c3 : Nat) (A4 : Option Addr) (c4 : Nat) : Array Value := #[.int .i64 t.f0, .int .i64 t.f1, .string t.f2, .slice A3 t.f3.length c3, .slice A4 t.f4.length c4]
abbrev wy (lo up : Int) (b : Bool) : Value := .agg #[.int .i64 lo, .int .i64 up, .bool b]
abbrev wcells (lo up : Int) (b : Bool) : Array Value := #[.int .i64 lo, .int .i64 up, .bool b]
def freshB (lo up : Int) (p : Ty) : Bool := decide (p.f0 = 9) && (decide (lo ≤ p.f1) && decide (p.f1 < up))
mutual
def hasB (lo up : Int) : Ty → Bool
  | ⟨a0, a1, a2, a3, a4⟩ => freshB lo up ⟨a0, a1, a2, a3, a4⟩ || anyB lo up a4
def anyB (lo up : Int) : List Ty → Bool
  | [] => false
  | a :: l => hasB lo up a || anyB lo up l
end
theorem hasB_eq (lo up : Int) (x : Ty) : hasB lo up x = (freshB lo up x || anyB lo up x.f4) := by cases x; simp only [hasB]
theorem anyB_cons (lo up : Int) (a : Ty) (l : List Ty) : anyB lo up (a :: l) = (hasB lo up a || anyB lo up l) := by simp only [anyB]
theorem anyB_nil (lo up : Int) : anyB lo up [] = false := by simp only [anyB]
theorem anyB_any (lo up : Int) : ∀ l, anyB lo up l = l.any (hasB lo up)
  | [] => by rw [anyB_nil]; rfl
  | a :: l => by rw [anyB_cons, anyB_any lo up l]; rfl
/-- What a call tells: a truth; nothing that was there has changed. -/
def BOut (w : World) (b : Bool) (e : Ending) (w' : World) : Prop := e = .returned (.bool b) ∧ Below w.heap.size w w'
set_option maxHeartbeats 4000000 in
set_option maxRecDepth 100000 in
theorem fresh_c (lo up : Int) (b : Bool) (p : Ty) {A3 A4 : Option Addr} {c3 c4 : Nat} {w : World} :
    Calls Try.prog 107 #[wy lo up b, tv p A3 c3 A4 c4] w (BOut w (freshB lo up p)) := by
  have kW := blk_new w (.cells (wcells lo up b) 92)
  have kP := blk_new (w.alloc (.cells (wcells lo up b) 92)) (.cells (tarr p A3 c3 A4 c4) 25)
  rw [World.size_alloc] at kP
  replace kW := blk_alloc kW (.cells (tarr p A3 c3 A4 c4) 25)
  have b0 := chain (below_alloc1 w (.cells (wcells lo up b) 92)) (below_alloc1 (w.alloc (.cells (wcells lo up b) 92)) (.cells (tarr p A3 c3 A4 c4) 25))
  obtain ⟨⟨y0, y1, y2⟩, _, lw⟩ := three kW
  obtain ⟨⟨p0, p1, p2, p3, p4⟩, _, lp⟩ := five kP
  have B0 := Aside0.mk b0
  clear kW kP b0
  have hq : freshB lo up p = (decide (p.f0 = 9) && (decide (lo ≤ p.f1) && decide (p.f1 < up))) := rfl
  generalize freshB lo up p = o at hq ⊢
  have HQ := Aside0.mk hq
  clear hq
  by_cases h9 : p.f0 = 9
  · have c9 : decide (p.f0 = 9) = true := decide_eq_true h9
    have c9' : (p.f0 == 9) = true := by simpa using h9
    have H9 := Aside0.mk h9
    clear h9
    by_cases hl : lo ≤ p.f1
    · have cl : decide (lo ≤ p.f1) = true := decide_eq_true hl
      by_cases hh : p.f1 < up
      · have ch : decide (p.f1 < up) = true := decide_eq_true hh
        have HN : Aside0 (o = true) := ⟨by rw [HQ.out, c9, cl, ch]; rfl⟩
        go_enter Try.func107, Try.ntmps107
        go_wp2
        go_ret
        exact ⟨by rw [HN.out]; rfl, B0.out⟩
      · have ch : decide (p.f1 < up) = false := decide_eq_false hh
        have HN : Aside0 (o = false) := ⟨by rw [HQ.out, c9, cl, ch]; rfl⟩
        go_enter Try.func107, Try.ntmps107
        go_wp2
        go_ret
        exact ⟨by rw [HN.out]; rfl, B0.out⟩
    · have cl : decide (lo ≤ p.f1) = false := decide_eq_false hl
      have HN : Aside0 (o = false) := ⟨by rw [HQ.out, c9, cl]; rfl⟩
      go_enter Try.func107, Try.ntmps107
      go_wp2
      go_ret
      exact ⟨by rw [HN.out]; rfl, B0.out⟩
  · have c9 : decide (p.f0 = 9) = false := decide_eq_false h9
    have c9' : (p.f0 == 9) = false := by simpa using h9
    have HN : Aside0 (o = false) := ⟨by rw [HQ.out, c9]; rfl⟩
    go_enter Try.func107, Try.ntmps107
    go_wp2
    go_ret
    exact ⟨by rw [HN.out]; rfl, B0.out⟩
/-- has tells of p. -/
def HasC (lo up : Int) (b : Bool) (p : Ty) : Prop := ∀ (A3 : Option Addr) (c3 : Nat) (A4 : Option Addr) (c4 : Nat) (w : World), RT w p A3 c3 A4 c4 → Calls Try.prog 96 #[wy lo up b, tv p A3 c3 A4 c4] w (BOut w (hasB lo up p))
def pos (l : List Ty) (f : Ty → Bool) : Int := if l.findIdx f < l.length then ((l.findIdx f : Nat) : Int) else -1
theorem pos_at {m : List Ty} {f : Ty → Bool} {i : Nat} (hi : i < m.length) (h : f m[i] = true) (hj : ∀ j (hj : j < m.length), j < i → f m[j] = false) : pos m f = (i : Int) := by
  have e : m.findIdx f = i := (List.findIdx_eq hi).2 ⟨h, fun j hji => hj j (by omega) hji⟩
  unfold pos
  rw [e, if_pos hi]
theorem pos_none {m : List Ty} {f : Ty → Bool} (h : ∀ j (hj : j < m.length), f m[j] = false) : pos m f = -1 := by
  have e : m.findIdx f = m.length := List.findIdx_eq_length.2 (fun x hx => by obtain ⟨j, hj, rfl⟩ := List.mem_iff_getElem.1 hx; exact h j hj)
  unfold pos
  rw [e, if_neg (Nat.lt_irrefl _)]
theorem pos_any (m : List Ty) (f : Ty → Bool) : decide (0 ≤ pos m f) = m.any f := by
  unfold pos
  by_cases h : m.findIdx f < m.length
  · rw [if_pos h, decide_eq_true (by omega)]
    have := List.findIdx_lt_length.1 h
    obtain ⟨x, hx, hf⟩ := this
    exact (List.any_eq_true.2 ⟨x, hx, hf⟩).symm
  · rw [if_neg h, decide_eq_false (by omega)]
    cases ha : m.any f with
    | false => rfl
    | true =>
      obtain ⟨x, hx, hf⟩ := List.any_eq_true.1 ha
      exact absurd (List.findIdx_lt_length.2 ⟨x, hx, hf⟩) h
theorem telt {w : World} {A : Option Addr} {l : List Ty} (h : kTy.C w A l.length l) (i : Nat) (hi : i < l.length) : ∃ ad A3 c3 A4 c4, A = some ad ∧ RT w l[i] A3 c3 A4 c4
    ∧ w.cell? (ad.add (i * 5)) = some (.int .i64 l[i].f0)
    ∧ w.cell? ⟨(ad.add (i * 5)).block, (ad.add (i * 5)).off + 1, none⟩ = some (.int .i64 l[i].f1)
    ∧ w.cell? ⟨(ad.add (i * 5)).block, (ad.add (i * 5)).off + 2, none⟩ = some (.string l[i].f2)
    ∧ w.cell? ⟨(ad.add (i * 5)).block, (ad.add (i * 5)).off + 3, none⟩ = some (.slice A3 l[i].f3.length c3)
    ∧ w.cell? ⟨(ad.add (i * 5)).block, (ad.add (i * 5)).off + 4, none⟩ = some (.slice A4 l[i].f4.length c4) := by
  obtain ⟨ad, A3, c3, A4, c4, e, h0, h1, h2, h3, h4, g3, r3, g4, r4⟩ := at_T25 h (i : Int) (by omega) (by omega)
  have q : rd_T25 l (i : Int) = l[i] := getD_at _ l i hi
  rw [q] at h0 h1 h2 h3 h4 g3 r3 g4 r4
  rw [Int.toNat_natCast] at h0 h1 h2 h3 h4
  exact ⟨ad, A3, c3, A4, c4, e, ⟨g3, r3, g4, r4⟩, h0, h1, h2, h3, h4⟩
set_option maxHeartbeats 4000000 in
set_option maxRecDepth 100000 in
theorem ixf_c (lo up : Int) (b : Bool) (l : List Ty) (hl : l.length * 80 ≤ 140737488351232) (hs : ∀ y, y ∈ l → HasC lo up b y) {A : Option Addr} {c : Nat} {w : World} (hC : kTy.C w A l.length l) :
    Calls Try.prog 114 #[.slice A l.length c, .func (.func 96) #[wy lo up b] #[]] w fun e w' => e = .returned (.int .i64 (pos l (hasB lo up))) ∧ Below w.heap.size w w' := by
  have HS := Aside0.mk hs
  clear hs
  go_enter Try.func114, Try.ntmps114
  go_wp2_with fail
  go_loopg [8] l.length (fun kq v8 w' => ∃ (i : Nat), v8 = .int .i64 i ∧ kq + i = l.length ∧ Aside0 (∀ j (hj : j < l.length), j < i → hasB lo up l[j] = false) ∧ Below w.heap.size w w')
  case atStart => exact ⟨0, rfl, rfl, ⟨fun j _ h => absurd h (Nat.not_lt_zero _)⟩, Below.refl _ _⟩
  case round =>
    obtain ⟨i, rfl, hk, HN, br⟩ := hrel
    by_cases hi : i < l.length
    · obtain ⟨k1, rfl⟩ : ∃ k1, gk = k1 + 1 := ⟨gk - 1, by omega⟩
      have ci : decide ((i : Int) < (l.length : Int)) = true := decide_eq_true (by omega)
      have i0 : (0 : Int) ≤ (i : Int) := by omega
      have i1 : (i : Int) < (l.length : Int) := by omega
      obtain ⟨ad, X3, e3, X4, e4, hA, hx, x0, x1, x2, x3, x4⟩ := telt hC i hi
      subst hA
      replace x0 := cell_up br x0
      replace x1 := cell_up br x1
      replace x2 := cell_up br x2
      replace x3 := cell_up br x3
      replace x4 := cell_up br x4
      have HX := Aside0.mk (hx.below br)
      have HK := Aside0.mk hk
      clear hk hx
      go_wp2_with fail
      refine (HS.out l[i] (List.getElem_mem hi) X3 e3 X4 e4 _ HX.out).mono ?_
      rintro e w5 ⟨rfl, hb5⟩
      have b5 := chain br hb5
      clear x0 x1 x2 x3 x4 hb5 br HX
      cases hq : hasB lo up l[i] with
      | true =>
        have HQ := Aside0.mk (pos_at (f := hasB lo up) hi hq HN.out)
        go_wp2
        go_ret
        exact ⟨by rw [HQ.out]; rfl, b5⟩
      | false =>
        have HN' : Aside0 (∀ j (hj : j < l.length), j < i + 1 → hasB lo up l[j] = false) := ⟨fun j hj hji => by rcases Nat.lt_succ_iff_lt_or_eq.1 hji with h | rfl; exact HN.out j hj h; exact hq⟩
        clear hq
        go_wp2
        go_roundg k1
        case measure => omega
        case rel => exact ⟨i + 1, (by first | rfl | (simp; done) | (push_cast; rfl)), by have := HK.out; omega, HN', b5⟩
    · have cn : decide ((i : Int) < (l.length : Int)) = false := decide_eq_false (by omega)
      have HQ := Aside0.mk (pos_none (m := l) (f := hasB lo up) (fun j hj => HN.out j hj (by omega)))
      go_wp2
      go_ret
      exact ⟨by rw [HQ.out]; rfl, br⟩
set_option maxRecDepth 100000 in
theorem cf_c (lo up : Int) (b : Bool) (l : List Ty) (hl : l.length * 80 ≤ 140737488351232) (hs : ∀ y, y ∈ l → HasC lo up b y) {A : Option Addr} {c : Nat} {w : World} (hC : kTy.C w A l.length l) :
    Calls Try.prog 108 #[.slice A l.length c, .func (.func 96) #[wy lo up b] #[]] w (BOut w (anyB lo up l)) := by
  have hp := pos_any l (hasB lo up)
  rw [← anyB_any] at hp
  have HP := Aside0.mk hp
  clear hp
  go_enter Try.func108, Try.ntmps108
  go_wp2_with fail
  refine (ixf_c lo up b l hl hs hC).mono ?_
  rintro e w1 ⟨rfl, hb⟩
  go_wp2
  go_ret
  exact ⟨by rw [← HP.out]; rfl, hb⟩
set_option maxHeartbeats 4000000 in
set_option maxRecDepth 100000 in
theorem has_c (lo up : Int) (b : Bool) : ∀ (n : Nat) (p : Ty), SizeOf.sizeOf p < n → Sm p → HasC lo up b p
  | 0, _, h, _ => absurd h (Nat.not_lt_zero _)
  | n + 1, p, h, hsm => fun A3 c3 A4 c4 w ht => by
    have hs : ∀ y, y ∈ p.f4 → HasC lo up b y := fun y hy => has_c lo up b n y (by have := size_args p y hy; omega) (hsm.all y hy)
    have hq := hasB_eq lo up p
    generalize hasB lo up p = o at hq ⊢
    have HQ := Aside0.mk hq
    have HS := Aside0.mk hs
    clear hq hs
    have kW := blk_new w (.cells (wcells lo up b) 92)
    have kP := blk_new (w.alloc (.cells (wcells lo up b) 92)) (.cells (tarr p A3 c3 A4 c4) 25)
    rw [World.size_alloc] at kP
    replace kW := blk_alloc kW (.cells (tarr p A3 c3 A4 c4) 25)
    have b0 := chain (below_alloc1 w (.cells (wcells lo up b) 92)) (below_alloc1 (w.alloc (.cells (wcells lo up b) 92)) (.cells (tarr p A3 c3 A4 c4) 25))
    obtain ⟨⟨y0, y1, y2⟩, _, lw⟩ := three kW
    obtain ⟨⟨p0, p1, p2, p3, p4⟩, _, lp⟩ := five kP
    go_enter Try.func96, Try.ntmps96
    go_wp2_with fail
    refine (fresh_c lo up b p).mono ?_
    rintro e w1 ⟨rfl, hb1⟩
    have b1 := chain b0 hb1
    replace kW := blk_up hb1 kW
    replace kP := blk_up hb1 kP
    clear y0 y1 y2 p0 p1 p2 p3 p4 lw lp b0 hb1
    obtain ⟨⟨y0, y1, y2⟩, _, lw⟩ := three kW
    obtain ⟨⟨p0, p1, p2, p3, p4⟩, _, lp⟩ := five kP
    cases hf : freshB lo up p with
    | true =>
      have HN : Aside0 (o = true) := ⟨by rw [HQ.out, hf]; rfl⟩
      clear hf
      go_wp2
      go_ret
      exact ⟨by rw [HN.out]; rfl, b1⟩
    | false =>
      have HN : Aside0 (o = anyB lo up p.f4) := ⟨by rw [HQ.out, hf]; rfl⟩
      clear hf
      go_wp2_with fail
      refine (cf_c lo up b p.f4 hsm.len HS.out (Kd.C_below ht.2.2.2 b1)).mono ?_
      rintro e w2 ⟨rfl, hb2⟩
      have b2 := chain b1 hb2
      clear y0 y1 y2 p0 p1 p2 p3 p4 lw lp b1 hb2
      go_wp2
      go_ret
      exact ⟨by rw [HN.out]; rfl, b2⟩
end Go.Proofs.Ytnfnhjhnfdkinaa.PConvBack
namespace Go.Proofs.Ytnfnhjhnfdkinaa.PConvBack
open Go.RowKit Go.Proofs.YtnfnhjhnfdkinaaW.Mine Go.Proofs.YtnfnhjhnfdkinaaW.PrintWords Go.Proofs.YtnfnhjhnfdkinaaW.PrintLast Go.Proofs.YtnfnhjhnfdkinaaW.PrintMore
attribute [local go_sem] max2_int min2_int max_two min_two max_three min_three max_four min_four
set_option linter.unusedVariables false
set_option linter.unusedSimpArgs false
theorem threeb (w : World) (c d e : Array Value) (t1 t2 t3 : TypeId) : let W := ((w.alloc (.cells c t1)).alloc (.cells d t2)).alloc (.cells e t3)
    (W.heap[w.heap.size]? = some (.cells c t1 (0, 0)) ∧ W.heap[w.heap.size + 1]? = some (.cells d t2 (0, 0)) ∧ W.heap[w.heap.size + 1 + 1]? = some (.cells e t3 (0, 0))) ∧ Below w.heap.size w W ∧ W.heap.size = w.heap.size + 1 + 1 + 1 := by
  have k1 := blk_new (w.alloc (.cells c t1)) (.cells d t2)
  have k2 := blk_new ((w.alloc (.cells c t1)).alloc (.cells d t2)) (.cells e t3)
  simp only [World.size_alloc] at k1 k2
  exact ⟨⟨blk_alloc (blk_alloc (blk_new w _) _) _, blk_alloc k1 _, k2⟩, chain (chain (below_alloc1 _ _) (below_alloc1 _ _)) (below_alloc1 _ _), by simp only [World.size_alloc]⟩
theorem fourb (w : World) (c1 c2 c3 c4 : Array Value) (t1 t2 t3 t4 : TypeId) : let W := (((w.alloc (.cells c1 t1)).alloc (.cells c2 t2)).alloc (.cells c3 t3)).alloc (.cells c4 t4)
    (W.heap[w.heap.size]? = some (.cells c1 t1 (0, 0)) ∧ W.heap[w.heap.size + 1]? = some (.cells c2 t2 (0, 0)) ∧ W.heap[w.heap.size + 1 + 1]? = some (.cells c3 t3 (0, 0)) ∧ W.heap[w.heap.size + 1 + 1 + 1]? = some (.cells c4 t4 (0, 0))) ∧ Below w.heap.size w W ∧ W.heap.size = w.heap.size + 1 + 1 + 1 + 1 := by
  have k1 := blk_new (w.alloc (.cells c1 t1)) (.cells c2 t2)
  have k2 := blk_new ((w.alloc (.cells c1 t1)).alloc (.cells c2 t2)) (.cells c3 t3)
  have k3 := blk_new (((w.alloc (.cells c1 t1)).alloc (.cells c2 t2)).alloc (.cells c3 t3)) (.cells c4 t4)
  simp only [World.size_alloc] at k1 k2 k3
  exact ⟨⟨blk_alloc (blk_alloc (blk_alloc (blk_new w _) _) _) _, blk_alloc (blk_alloc k1 _) _, blk_alloc k2 _, k3⟩, chain (chain (chain (below_alloc1 _ _) (below_alloc1 _ _)) (below_alloc1 _ _)) (below_alloc1 _ _), by simp only [World.size_alloc]⟩
theorem C_lit {α : Type} (d : Kd α) {w : World} {g : Nat} {xs : List α} {inner : List Value} {ty : TypeId} (h : w.heap[g]? = some (.cells inner.toArray ty (0, 0))) (hr : Reps (d.K w) d.sz xs inner) (hm : xs.length ≤ 9223372036854775807) : d.C w (some ⟨g, 0, none⟩) xs.length xs := by
  refine ⟨rfl, hm, fun _ => ⟨_, rfl, fun j p hj => ?_⟩⟩
  have hlt : j < xs.length := (List.getElem?_eq_some_iff.1 hj).1
  have h1 : j * d.sz + d.sz ≤ inner.length := by rw [hr.1, ← Nat.succ_mul]; exact Nat.mul_le_mul_right _ hlt
  refine ⟨(inner.drop (j * d.sz)).take d.sz, by rw [List.length_take, List.length_drop]; omega, hr.2 j p hj, fun i u hu => ?_⟩
  have e : (Addr.add ⟨g, 0, none⟩ (j * d.sz + i) : Addr) = ⟨g, j * d.sz + i, none⟩ := by rw [Addr.add_lit, Nat.zero_add]
  rw [e, blk_cell h]
  have hi : i < d.sz := by
    have := (List.getElem?_eq_some_iff.1 hu).1
    rw [List.length_take] at this; omega
  rw [List.getElem?_take_of_lt hi, List.getElem?_drop] at hu
  simpa using hu
theorem reps_one {α : Type} {R : α → List Value → Prop} {sz : Nat} {p : α} {c : List Value} (h : R p c) (hc : c.length = sz) : Reps R sz [p] c := by
  have := (Reps.none R sz).snoc h hc
  simpa using this
theorem F_lit {α : Type} (d : Kd α) {w : World} {ok : Nat → Prop} {g : Nat} {xs : List α} {inner : List Value} {ty : TypeId} (h : w.heap[g]? = some (.cells inner.toArray ty (0, 0))) (hok : ok g) (hr : Reps (Kd.FK d w ok) d.sz xs inner) (hm : xs.length ≤ 9223372036854775807) : Kd.F d w ok (some ⟨g, 0, none⟩) xs.length xs := fun W' hW =>
  C_lit d ((hW g hok (blk_lt h)).trans h) (hr.imp_ (fun p c hp => hp W' hW)) hm
theorem V_one {w : World} {ok : Nat → Prop} {g : Nat} {x : Vl} {A6 A7 A8 : Option Addr} {c6 c7 c8 : Nat} (hk : w.heap[g]? = some (.cells (vcells x A6 c6 A7 c7 A8 c8) 55 (0, 0))) (hg : ok g) (h : FV w ok x A6 c6 A7 c7 A8 c8) : Kd.F kVl w ok (some ⟨g, 0, none⟩) 1 [x] :=
  F_lit kVl (xs := [x]) (inner := vlist x A6 c6 A7 c7 A8 c8) hk hg (reps_one h.fk rfl) (by simp)
def sealV (inn : Bool) (v : Vl) (n : Int) : Option Vl := if inn = true then some ⟨8, n, 0, false, ⟨#[]⟩, z52, [], [], [v]⟩ else if v.f0 = 8 ∧ v.f1 = n ∧ v.f8.length = 1 then some (v.f8.getD 0 zV) else none
theorem sealV_in (v : Vl) (n : Int) : sealV true v n = some ⟨8, n, 0, false, ⟨#[]⟩, z52, [], [], [v]⟩ := rfl
theorem sealV_no {v : Vl} {n : Int} (h : ¬ (v.f0 = 8 ∧ v.f1 = n ∧ v.f8.length = 1)) : sealV false v n = none := by unfold sealV; rw [if_neg (by decide), if_neg h]
theorem sealV_yes {v : Vl} {n : Int} (h0 : v.f0 = 8) (h1 : v.f1 = n) (h2 : v.f8.length = 1) : sealV false v n = some (v.f8[0]'(by omega)) := by
  unfold sealV; rw [if_neg (by decide), if_pos ⟨h0, h1, h2⟩, List.getD_eq_getElem?_getD, List.getElem?_eq_getElem (by omega)]; rfl
set_option maxHeartbeats 4000000 in
set_option maxRecDepth 100000 in
theorem seal_c (lo up : Int) (inn : Bool) (v : Vl) (n : Int) {ok : Nat → Prop} {A6 A7 A8 : Option Addr} {c6 c7 c8 : Nat} {w : World} (hok : ∀ k, ok k → k < w.heap.size) (hv : FV w ok v A6 c6 A7 c7 A8 c8) :
    Calls Try.prog 98 #[wy lo up inn, vv v A6 c6 A7 c7 A8 c8, .int .i64 n] w (VOut w (fun k => ok k ∨ w.heap.size ≤ k) (sealV inn v n)) := by
  obtain ⟨⟨kW, kV, kR⟩, b0, sz0⟩ := threeb w (wcells lo up inn) (vcells v A6 c6 A7 c7 A8 c8) zcells 92 55 55
  obtain ⟨⟨y0, y1, y2⟩, _, lw⟩ := three kW
  obtain ⟨⟨v0, v1, v2, v3, v4, v5, v6, v7, v8, v9⟩, _, lv⟩ := ten kV
  have SZ := Aside0.mk sz0
  clear sz0
  cases inn with
  | true =>
    rw [sealV_in]
    obtain ⟨⟨_, _, kN, kL⟩, bN, szN⟩ := fourb w (wcells lo up true) (vcells v A6 c6 A7 c7 A8 c8) #[.int .i64 8, .int .i64 n, .int .i64 0, .bool false, .string ⟨#[]⟩, .string ⟨#[]⟩, .int .i64 0, .slice none 0 0, .slice none 0 0, .slice (some ⟨w.heap.size + 1 + 1 + 1, 0, none⟩) 1 1] (vcells v A6 c6 A7 c7 A8 c8) 92 55 55 55
    have KN := Aside0.mk kN
    have KL := Aside0.mk kL
    have BN := Aside0.mk bN
    clear kN kL bN szN
    go_enter Try.func98, Try.ntmps98
    go_wp2
    (try simp only [Exit.inBlock, Exit.then]); refine bodyPost_ret (results_ct rfl _ _ _ 55 _ (0, 0) _ rfl KN.out Try.underlying55 rfl (by kernel_rfl)) rfl ?_
    refine VOut.yes (u := ⟨8, n, 0, false, ⟨#[]⟩, z52, [], [], [v]⟩) (A6 := none) (c6 := 0) (A7 := none) (c7 := 0) (A8 := some ⟨w.heap.size + 1 + 1 + 1, 0, none⟩) (c8 := 1) BN.out rfl ?_
    exact ⟨Nat.le_refl _, Kd.F_nil _ _ _, Nat.le_refl _, Kd.F_nil _ _ _, Nat.le_refl _, V_one KL.out (.inr (by omega)) ((hv.below BN.out).mono (fun k hk => .inl hk))⟩
  | false =>
    by_cases h8 : v.f0 = 8
    · by_cases hn : v.f1 = n
      · by_cases hl : v.f8.length = 1
        · have HQ := Aside0.mk (sealV_yes h8 hn hl)
          have a1 : decide (v.f0 = 8) = true := decide_eq_true h8
          have a2 : (v.f0 == 8) = true := by simpa using h8
          have a3 : (v.f0 != 8) = false := by simpa using h8
          have b1 : decide (v.f1 = n) = true := decide_eq_true hn
          have b2 : (v.f1 == n) = true := by simpa using hn
          have b3 : (v.f1 != n) = false := by simpa using hn
          have d1 : decide ((v.f8.length : Int) = 1) = true := decide_eq_true (by omega)
          have d2 : ((v.f8.length : Int) == 1) = true := by simp; omega
          have d3 : ((v.f8.length : Int) != 1) = false := by simp; omega
          have d4 : decide (v.f8.length = 1) = true := decide_eq_true hl
          have HL := Aside0.mk hl
          have i0 : (0 : Int) < (v.f8.length : Int) := by omega
          have i1 : 0 < v.f8.length := by omega
          obtain ⟨ad, X6, e6, X7, e7, X8, e8, hA, fx, x0, x1, x2, x3, x4, x5, x6, x7, x8, x9⟩ := velt hv.2.2.2.2.2 0 i1
          rw [show ad.add (0 * 10) = ad from rfl] at x0 x1 x2 x3 x4 x5 x6 x7 x8 x9
          subst hA
          rw [HQ.out]
          generalize v.f8[0] = y at *
          replace x0 := cell_up b0 x0
          replace x1 := cell_up b0 x1
          replace x2 := cell_up b0 x2
          replace x3 := cell_up b0 x3
          replace x4 := cell_up b0 x4
          replace x5 := cell_up b0 x5
          replace x6 := cell_up b0 x6
          replace x7 := cell_up b0 x7
          replace x8 := cell_up b0 x8
          replace x9 := cell_up b0 x9
          obtain ⟨⟨_, _, kN⟩, bN, _⟩ := threeb w (wcells lo up false) (vcells v A6 c6 A7 c7 (some ad) c8) (vcells y X6 e6 X7 e7 X8 e8) 92 55 55
          have KN := Aside0.mk kN
          have BN := Aside0.mk bN
          clear kN bN h8 hn hl HQ
          go_enter Try.func98, Try.ntmps98
          go_wp2
          (try simp only [Exit.inBlock, Exit.then]); refine bodyPost_ret (results_ct rfl _ _ _ 55 _ (0, 0) _ rfl KN.out Try.underlying55 rfl (by kernel_rfl)) rfl ?_
          exact VOut.yes BN.out rfl ((fx.below BN.out).mono (fun k hk => .inl hk))
        · rw [sealV_no (fun h => hl h.2.2)]
          have a1 : decide (v.f0 = 8) = true := decide_eq_true h8
          have a2 : (v.f0 == 8) = true := by simpa using h8
          have a3 : (v.f0 != 8) = false := by simpa using h8
          clear h8
          have b1 : decide (v.f1 = n) = true := decide_eq_true hn
          have b2 : (v.f1 == n) = true := by simpa using hn
          have b3 : (v.f1 != n) = false := by simpa using hn
          clear hn
          have d1 : decide ((v.f8.length : Int) = 1) = false := decide_eq_false (by omega)
          have d2 : ((v.f8.length : Int) == 1) = false := by simp; omega
          have d3 : ((v.f8.length : Int) != 1) = true := by simp; omega
          have d4 : decide (v.f8.length = 1) = false := decide_eq_false hl
          go_enter Try.func98, Try.ntmps98
          go_wp2
          (try simp only [Exit.inBlock, Exit.then]); refine bodyPost_ret (results_ct rfl _ _ _ 55 _ (0, 0) _ rfl kR Try.underlying55 rfl (by kernel_rfl)) rfl ?_
          exact VOut.no b0 rfl
      · rw [sealV_no (fun h => hn h.2.1)]
        have a1 : decide (v.f0 = 8) = true := decide_eq_true h8
        have a2 : (v.f0 == 8) = true := by simpa using h8
        have a3 : (v.f0 != 8) = false := by simpa using h8
        clear h8
        have b1 : decide (v.f1 = n) = false := decide_eq_false hn
        have b2 : (v.f1 == n) = false := by simpa using hn
        have b3 : (v.f1 != n) = true := by simpa using hn
        go_enter Try.func98, Try.ntmps98
        go_wp2
        (try simp only [Exit.inBlock, Exit.then]); refine bodyPost_ret (results_ct rfl _ _ _ 55 _ (0, 0) _ rfl kR Try.underlying55 rfl (by kernel_rfl)) rfl ?_
        exact VOut.no b0 rfl
    · rw [sealV_no (fun h => h8 h.1)]
      have a1 : decide (v.f0 = 8) = false := decide_eq_false h8
      have a2 : (v.f0 == 8) = false := by simpa using h8
      have a3 : (v.f0 != 8) = true := by simpa using h8
      go_enter Try.func98, Try.ntmps98
      go_wp2
      (try simp only [Exit.inBlock, Exit.then]); refine bodyPost_ret (results_ct rfl _ _ _ 55 _ (0, 0) _ rfl kR Try.underlying55 rfl (by kernel_rfl)) rfl ?_
      exact VOut.no b0 rfl
end Go.Proofs.Ytnfnhjhnfdkinaa.PConvBack
