/-
  ConvKeeps: texts of this claim, put together by a program of this session. No conditions beyond what each lemma says.
-/
import Derived.Test.YtnfnhjhnfdkinaazConvKeeps12
import Derived.Test.YtnfnhjhnfdkinaazConvKeeps15
namespace Go.Proofs.Ytnfnhjhnfdkinaa.PConvBack
open Go.RowKit Go.Proofs.YtnfnhjhnfdkinaaW.Mine Go.Proofs.YtnfnhjhnfdkinaaW.PrintWords Go.Proofs.YtnfnhjhnfdkinaaW.PrintLast Go.Proofs.YtnfnhjhnfdkinaaW.PrintMore
attribute [local go_sem] max2_int min2_int max_two min_two max_three min_three max_four min_four
set_option linter.unusedVariables false
set_option linter.unusedSimpArgs false
abbrev tarr (t : Ty) (A3 : Option Addr) (c3 : Nat) (A4 : Option Addr) (c4 : Nat) : Array Value := #[.int .i64 t.f0, .int .i64 t.f1, .string t.f2, .slice A3 t.f3.length c3, .slice A4 t.f4.length c4]
abbrev wy (lo up : Int) (b : Bool) : Value := .agg #[.int .i64 lo, .int .i64 up, .bool b]
abbrev wcells (lo up : Int) (b : Bool) : Array Value := #[.int .i64 lo, .int .i64 up, .bool b]
def freshB (lo up : Int) (p : Ty) : Bool := decide (p.f0 = 9) && (decide (lo ≤ p.f1) && decide (p.f1 < up))
mutual
def hasB (lo up : Int) : Ty → Bool
  | ⟨a0, a1, a2, a3, a4⟩ => freshB lo up ⟨a0, a1, a2, a3, a4⟩ || anyB lo up a4
def anyB (lo up : Int) : List Ty → Bool
  | [] => false
  | a :: l => hasB lo up a || anyB lo up l
end
theorem hasB_eq (lo up : Int) (x : Ty) : hasB lo up x = (freshB lo up x || anyB lo up x.f4) := by cases x; simp only [hasB]
theorem anyB_cons (lo up : Int) (a : Ty) (l : List Ty) : anyB lo up (a :: l) = (hasB lo up a || anyB lo up l) := by simp only [anyB]
theorem anyB_nil (lo up : Int) : anyB lo up [] = false := by simp only [anyB]
theorem anyB_any (lo up : Int) : ∀ l, anyB lo up l = l.any (hasB lo up)
  | [] => by rw [anyB_nil]; rfl
  | a :: l => by rw [anyB_cons, anyB_any lo up l]; rfl
/-- What a call tells: a truth; nothing that was there has changed. -/
def BOut (w : World) (b : Bool) (e : Ending) (w' : World) : Prop := e = .returned (.bool b) ∧ Below w.heap.size w w'
set_option maxHeartbeats 4000000 in
set_option maxRecDepth 100000 in
theorem fresh_c (lo up : Int) (b : Bool) (p : Ty) {A3 A4 : Option Addr} {c3 c4 : Nat} {w : World} :
    Calls Try.prog 107 #[wy lo up b, tv p A3 c3 A4 c4] w (BOut w (freshB lo up p)) := by
  have kW := blk_new w (.cells (wcells lo up b) 92)
  have kP := blk_new (w.alloc (.cells (wcells lo up b) 92)) (.cells (tarr p A3 c3 A4 c4) 25)
  rw [World.size_alloc] at kP
  replace kW := blk_alloc kW (.cells (tarr p A3 c3 A4 c4) 25)
  have b0 := chain (below_alloc1 w (.cells (wcells lo up b) 92)) (below_alloc1 (w.alloc (.cells (wcells lo up b) 92)) (.cells (tarr p A3 c3 A4 c4) 25))
  obtain ⟨⟨y0, y1, y2⟩, _, lw⟩ := three kW
  obtain ⟨⟨p0, p1, p2, p3, p4⟩, _, lp⟩ := five kP
  have B0 := Aside0.mk b0
  clear kW kP b0
  have hq : freshB lo up p = (decide (p.f0 = 9) && (decide (lo ≤ p.f1) && decide (p.f1 < up))) := rfl
  generalize freshB lo up p = o at hq ⊢
  have HQ := Aside0.mk hq
  clear hq
  by_cases h9 : p.f0 = 9
  · have c9 : decide (p.f0 = 9) = true := decide_eq_true h9
    have c9' : (p.f0 == 9) = true := by simpa using h9
    have H9 := Aside0.mk h9
    clear h9
    by_cases hl : lo ≤ p.f1
    · have cl : decide (lo ≤ p.f1) = true := decide_eq_true hl
      by_cases hh : p.f1 < up
      · have ch : decide (p.f1 < up) = true := decide_eq_true hh
        have HN : Aside0 (o = true) := ⟨by rw [HQ.out, c9, cl, ch]; rfl⟩
        go_enter Try.func107, Try.ntmps107
        go_wp2
        go_ret
        exact ⟨by rw [HN.out]; rfl, B0.out⟩
      · have ch : decide (p.f1 < up) = false := decide_eq_false hh
        have HN : Aside0 (o = false) := ⟨by rw [HQ.out, c9, cl, ch]; rfl⟩
        go_enter Try.func107, Try.ntmps107
        go_wp2
        go_ret
        exact ⟨by rw [HN.out]; rfl, B0.out⟩
    · have cl : decide (lo ≤ p.f1) = false := decide_eq_false hl
      have HN : Aside0 (o = false) := ⟨by rw [HQ.out, c9, cl]; rfl⟩
      go_enter Try.func107, Try.ntmps107
      go_wp2
      go_ret
      exact ⟨by rw [HN.out]; rfl, B0.out⟩
  · have c9 : decide (p.f0 = 9) = false := decide_eq_false h9
    have c9' : (p.f0 == 9) = false := by simpa using h9
    have HN : Aside0 (o = false) := ⟨by rw [HQ.out, c9]; rfl⟩
    go_enter Try.func107, Try.ntmps107
    go_wp2
    go_ret
    exact ⟨by rw [HN.out]; rfl, B0.out⟩
/-- has tells of p. -/
def HasC (lo up : Int) (b : Bool) (p : Ty) : Prop := ∀ (A3 : Option Addr) (c3 : Nat) (A4 : Option Addr) (c4 : Nat) (w : World), RT w p A3 c3 A4 c4 → Calls Try.prog 96 #[wy lo up b, tv p A3 c3 A4 c4] w (BOut w (hasB lo up p))
def pos (l : List Ty) (f : Ty → Bool) : Int := if l.findIdx f < l.length then ((l.findIdx f : Nat) : Int) else -1
theorem pos_at {m : List Ty} {f : Ty → Bool} {i : Nat} (hi : i < m.length) (h : f m[i] = true) (hj : ∀ j (hj : j < m.length), j < i → f m[j] = false) : pos m f = (i : Int) := by
  have e : m.findIdx f = i := (List.findIdx_eq hi).2 ⟨h, fun j hji => hj j (by omega) hji⟩
  unfold pos
  rw [e, if_pos hi]
theorem pos_none {m : List Ty} {f : Ty → Bool} (h : ∀ j (hj : j < m.length), f m[j] = false) : pos m f = -1 := by
  have e : m.findIdx f = m.length := List.findIdx_eq_length.2 (fun x hx => by obtain ⟨j, hj, rfl⟩ := List.mem_iff_getElem.1 hx; exact h j hj)
  unfold pos
  rw [e, if_neg (Nat.lt_irrefl _)]
theorem pos_any (m : List Ty) (f : Ty → Bool) : decide (0 ≤ pos m f) = m.any f := by
  unfold pos
  by_cases h : m.findIdx f < m.length
  · rw [if_pos h, decide_eq_true (by omega)]
    have := List.findIdx_lt_length.1 h
    obtain ⟨x, hx, hf⟩ := this
    exact (List.any_eq_true.2 ⟨x, hx, hf⟩).symm
  · rw [if_neg h, decide_eq_false (by omega)]
    cases ha : m.any f with
    | false => rfl
    | true =>
      obtain ⟨x, hx, hf⟩ := List.any_eq_true.1 ha
      exact absurd (List.findIdx_lt_length.2 ⟨x, hx, hf⟩) h
theorem telt {w : World} {A : Option Addr} {l : List Ty} (h : kTy.C w A l.length l) (i : Nat) (hi : i < l.length) : ∃ ad A3 c3 A4 c4, A = some ad ∧ RT w l[i] A3 c3 A4 c4
    ∧ w.cell? (ad.add (i * 5)) = some (.int .i64 l[i].f0)
    ∧ w.cell? ⟨(ad.add (i * 5)).block, (ad.add (i * 5)).off + 1, none⟩ = some (.int .i64 l[i].f1)
    ∧ w.cell? ⟨(ad.add (i * 5)).block, (ad.add (i * 5)).off + 2, none⟩ = some (.string l[i].f2)
    ∧ w.cell? ⟨(ad.add (i * 5)).block, (ad.add (i * 5)).off + 3, none⟩ = some (.slice A3 l[i].f3.length c3)
    ∧ w.cell? ⟨(ad.add (i * 5)).block, (ad.add (i * 5)).off + 4, none⟩ = some (.slice A4 l[i].f4.length c4) := by
  obtain ⟨ad, A3, c3, A4, c4, e, h0, h1, h2, h3, h4, g3, r3, g4, r4⟩ := at_T25 h (i : Int) (by omega) (by omega)
  have q : rd_T25 l (i : Int) = l[i] := getD_at _ l i hi
  rw [q] at h0 h1 h2 h3 h4 g3 r3 g4 r4
  rw [Int.toNat_natCast] at h0 h1 h2 h3 h4
  exact ⟨ad, A3, c3, A4, c4, e, ⟨g3, r3, g4, r4⟩, h0, h1, h2, h3, h4⟩
set_option maxHeartbeats 4000000 in
set_option maxRecDepth 100000 in
theorem ixf_c (lo up : Int) (b : Bool) (l : List Ty) (hl : l.length * 80 ≤ 140737488351232) (hs : ∀ y, y ∈ l → HasC lo up b y) {A : Option Addr} {c : Nat} {w : World} (hC : kTy.C w A l.length l) :
    Calls Try.prog 114 #[.slice A l.length c, .func (.func 96) #[wy lo up b] #[]] w fun e w' => e = .returned (.int .i64 (pos l (hasB lo up))) ∧ Below w.heap.size w w' := by
  have HS := Aside0.mk hs
  clear hs
  go_enter Try.func114, Try.ntmps114
  go_wp2_with fail
  go_loopg [8] l.length (fun kq v8 w' => ∃ (i : Nat), v8 = .int .i64 i ∧ kq + i = l.length ∧ Aside0 (∀ j (hj : j < l.length), j < i → hasB lo up l[j] = false) ∧ Below w.heap.size w w')
  case atStart => exact ⟨0, rfl, rfl, ⟨fun j _ h => absurd h (Nat.not_lt_zero _)⟩, Below.refl _ _⟩
  case round =>
    obtain ⟨i, rfl, hk, HN, br⟩ := hrel
    by_cases hi : i < l.length
    · obtain ⟨k1, rfl⟩ : ∃ k1, gk = k1 + 1 := ⟨gk - 1, by omega⟩
      have ci : decide ((i : Int) < (l.length : Int)) = true := decide_eq_true (by omega)
      have i0 : (0 : Int) ≤ (i : Int) := by omega
      have i1 : (i : Int) < (l.length : Int) := by omega
      obtain ⟨ad, X3, e3, X4, e4, hA, hx, x0, x1, x2, x3, x4⟩ := telt hC i hi
      subst hA
      replace x0 := cell_up br x0
      replace x1 := cell_up br x1
      replace x2 := cell_up br x2
      replace x3 := cell_up br x3
      replace x4 := cell_up br x4
      have HX := Aside0.mk (hx.below br)
      have HK := Aside0.mk hk
      clear hk hx
      go_wp2_with fail
      refine (HS.out l[i] (List.getElem_mem hi) X3 e3 X4 e4 _ HX.out).mono ?_
      rintro e w5 ⟨rfl, hb5⟩
      have b5 := chain br hb5
      clear x0 x1 x2 x3 x4 hb5 br HX
      cases hq : hasB lo up l[i] with
      | true =>
        have HQ := Aside0.mk (pos_at (f := hasB lo up) hi hq HN.out)
        go_wp2
        go_ret
        exact ⟨by rw [HQ.out]; rfl, b5⟩
      | false =>
        have HN' : Aside0 (∀ j (hj : j < l.length), j < i + 1 → hasB lo up l[j] = false) := ⟨fun j hj hji => by rcases Nat.lt_succ_iff_lt_or_eq.1 hji with h | rfl; exact HN.out j hj h; exact hq⟩
        clear hq
        go_wp2
        go_roundg k1
        case measure => omega
        case rel => exact ⟨i + 1, (by first | rfl | (simp; done) | (push_cast; rfl)), by have := HK.out; omega, HN', b5⟩
    · have cn : decide ((i : Int) < (l.length : Int)) = false := decide_eq_false (by omega)
      have HQ := Aside0.mk (pos_none (m := l) (f := hasB lo up) (fun j hj => HN.out j hj (by omega)))
      go_wp2
      go_ret
      exact ⟨by rw [HQ.out]; rfl, br⟩
set_option maxRecDepth 100000 in
theorem cf_c (lo up : Int) (b : Bool) (l : List Ty) (hl : l.length * 80 ≤ 140737488351232) (hs : ∀ y, y ∈ l → HasC lo up b y) {A : Option Addr} {c : Nat} {w : World} (hC : kTy.C w A l.length l) :
    Calls Try.prog 108 #[.slice A l.length c, .func (.func 96) #[wy lo up b] #[]] w (BOut w (anyB lo up l)) := by
  have hp := pos_any l (hasB lo up)
  rw [← anyB_any] at hp
  have HP := Aside0.mk hp
  clear hp
  go_enter Try.func108, Try.ntmps108
  go_wp2_with fail
  refine (ixf_c lo up b l hl hs hC).mono ?_
  rintro e w1 ⟨rfl, hb⟩
  go_wp2
  go_ret
  exact ⟨by rw [← HP.out]; rfl, hb⟩
set_option maxHeartbeats 4000000 in
set_option maxRecDepth 100000 in
theorem has_c (lo up : Int) (b : Bool) : ∀ (n : Nat) (p : Ty), SizeOf.sizeOf p < n → Sm p → HasC lo up b p
  | 0, _, h, _ => absurd h (Nat.not_lt_zero _)
  | n + 1, p, h, hsm => fun A3 c3 A4 c4 w ht => by
    have hs : ∀ y, y ∈ p.f4 → HasC lo up b y := fun y hy => has_c lo up b n y (by have := size_args p y hy; omega) (hsm.all y hy)
    have hq := hasB_eq lo up p
    generalize hasB lo up p = o at hq ⊢
    have HQ := Aside0.mk hq
    have HS := Aside0.mk hs
    clear hq hs
    have kW := blk_new w (.cells (wcells lo up b) 92)
    have kP := blk_new (w.alloc (.cells (wcells lo up b) 92)) (.cells (tarr p A3 c3 A4 c4) 25)
    rw [World.size_alloc] at kP
    replace kW := blk_alloc kW (.cells (tarr p A3 c3 A4 c4) 25)
    have b0 := chain (below_alloc1 w (.cells (wcells lo up b) 92)) (below_alloc1 (w.alloc (.cells (wcells lo up b) 92)) (.cells (tarr p A3 c3 A4 c4) 25))
    obtain ⟨⟨y0, y1, y2⟩, _, lw⟩ := three kW
    obtain ⟨⟨p0, p1, p2, p3, p4⟩, _, lp⟩ := five kP
    go_enter Try.func96, Try.ntmps96
    go_wp2_with fail
    refine (fresh_c lo up b p).mono ?_
    rintro e w1 ⟨rfl, hb1⟩
    have b1 := chain b0 hb1
    replace kW := blk_up hb1 kW
    replace kP := blk_up hb1 kP
    clear y0 y1 y2 p0 p1 p2 p3 p4 lw lp b0 hb1
    obtain ⟨⟨y0, y1, y2⟩, _, lw⟩ := three kW
    obtain ⟨⟨p0, p1, p2, p3, p4⟩, _, lp⟩ := five kP
    cases hf : freshB lo up p with
    | true =>
      have HN : Aside0 (o = true) := ⟨by rw [HQ.out, hf]; rfl⟩
      clear hf
      go_wp2
      go_ret
      exact ⟨by rw [HN.out]; rfl, b1⟩
    | false =>
      have HN : Aside0 (o = anyB lo up p.f4) := ⟨by rw [HQ.out, hf]; rfl⟩
      clear hf
      go_wp2_with fail
      refine (cf_c lo up b p.f4 hsm.len HS.out (Kd.C_below ht.2.2.2 b1)).mono ?_
      rintro e w2 ⟨rfl, hb2⟩
      have b2 := chain b1 hb2
      clear y0 y1 y2 p0 p1 p2 p3 p4 lw lp b1 hb2
      go_wp2
      go_ret
      exact ⟨by rw [HN.out]; rfl, b2⟩
end Go.Proofs.Ytnfnhjhnfdkinaa.PConvBack
