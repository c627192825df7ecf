/-
  ctx: the walk of the law CtxStays.
-/
import Derived.Test.YtalmhbiedkjpmaaD1
namespace Go.Proofs.Ytalmhbiedkjpmaa.PCtxPlays
open Go.RowKit Go.Proofs.YtalmhbiedkjpmaaW.Mine Go.Proofs.YtalmhbiedkjpmaaW.PrintWords Go.Proofs.YtalmhbiedkjpmaaW.PrintLast Go.Proofs.YtalmhbiedkjpmaaW.PrintMore
attribute [local go_sem] max2_int min2_int max_two min_two max_three min_three max_four min_four
set_option linter.unusedVariables false
set_option linter.unusedSimpArgs false
theorem rdT33_at (l : List Bd) (i : Nat) (h : i < l.length) : rd_T33 l (i : Int) = l[i] := getD_at _ l i h
/-- Whether there are few is told; if so, there are. -/
theorem small_told (l : List Bd) (hl : l.length * 96 ≤ 140737488351232) (ho : ∀ y, y ∈ l → Okt y.f1) (d i : Nat) (hd : d + i = l.length) : ∃ r, Ev (fun k => limbecklaw20_small.l0 k l i) r ∧ (r = true → l.length ≤ 50) := by
  have fin : ∀ x, ∃ r, Ev (fun k => limbecklaw20_small.j1 k l x false) r ∧ (r = true → l.length ≤ 50) := fun x =>
    ⟨decide ((l.length : Int) ≤ 50), Ev.step (f := fun _ => some (decide ((l.length : Int) ≤ 50))) (fun _ => rfl) (Ev.rets rfl), fun h => by have := of_decide_eq_true h; omega⟩
  induction d generalizing i with
  | zero =>
    obtain ⟨r, hr, h⟩ := fin i
    exact ⟨r, Ev.step (fun _ => rfl) (Ev.neg (by omega) hr), h⟩
  | succ d ih =>
    by_cases h60 : (i : Int) < 60
    · have e := rdT33_at l i (by omega)
      obtain ⟨m, hm⟩ := much_told _ l[i].f1 (Nat.lt_succ_self _) (ho _ (List.getElem_mem (by omega)))
      by_cases h : m > 60
      · refine ⟨false, Ev.step (fun _ => rfl) (Ev.pos (by omega) ?_), fun h => by cases h⟩
        rw [decide_eq_true h60]
        refine Ev.step (fun _ => rfl) (Ev.pos (by omega) ?_)
        rw [e]
        exact Ev.bind hm (Ev.pos h (Ev.rets rfl))
      · obtain ⟨r, hr, h5⟩ := ih (i + 1) (by omega)
        refine ⟨r, Ev.step (fun _ => rfl) (Ev.pos (by omega) ?_), h5⟩
        rw [decide_eq_true h60]
        refine Ev.step (fun _ => rfl) (Ev.pos (by omega) ?_)
        rw [e]
        refine Ev.bind hm (Ev.neg h ?_)
        rw [wrap_up (by omega)]
        exact hr
    · obtain ⟨r, hr, h⟩ := fin i
      refine ⟨r, Ev.step (fun _ => rfl) (Ev.pos (by omega) ?_), h⟩
      rw [decide_eq_false h60]
      exact hr
theorem small_says (l : List Bd) (hl : l.length * 96 ≤ 140737488351232) (ho : ∀ y, y ∈ l → Okt y.f1) : ∃ k r, limbecklaw20_small.f k l = some r ∧ (r = true → l.length ≤ 50) := by
  obtain ⟨r, hr, h⟩ := small_told l hl ho l.length 0 (by omega)
  obtain ⟨k, hk⟩ := hr.rounds
  exact ⟨k, r, hk, h⟩
theorem small_c (l : List Bd) {k : Nat} {r : Bool} (hr : limbecklaw20_small.f k l = some r) {A : Option Addr} {c : Nat} {w : World} (h : kBd.C w A l.length l) (hc : l.length ≤ c) :
    Calls Try.prog 9 #[.slice A l.length c] w fun e w' => e = .returned (.bool r) ∧ Below w.heap.size w w' :=
  (limbecklaw20_small.calls k A c l r w h hc hr).mono fun e w' k => k
/-- What is found. -/
def ft (l : List Bd) (s : ByteArray) : Ty := match l.find? (fun x => eqText x.f0 s) with
  | some x => x.f1
  | none => z31
def fb (l : List Bd) (s : ByteArray) : Bool := (l.find? (fun x => eqText x.f0 s)).isSome
theorem okt_z : Okt z31 := .mk _ (by decide) (by decide) (fun y hy => by cases hy)
theorem okt_ft {l : List Bd} (ho : ∀ y, y ∈ l → Okt y.f1) (s : ByteArray) : Okt (ft l s) := by
  unfold ft
  split
  · next x h => exact ho x (List.mem_of_find?_eq_some h)
  · exact okt_z
theorem find_c2 {w : World} {p : Option Addr} {l : List Bd} (s : ByteArray) (hl : IsCtx w p l) (hn : l.length < 4611686018427387904) :
    Calls Try.prog 14 #[.pointer p, .string s] w fun e w' => ∃ A3 c3 A4 c4, e = .returned (.tuple #[tv (ft l s) A3 c3 A4 c4, .bool (fb l s)]) ∧ RT w' (ft l s) A3 c3 A4 c4 ∧ Below w.heap.size w w' := by
  refine (find_c s hl hn).mono ?_
  rintro e w' ⟨hb, hf⟩
  unfold ft fb
  revert hf
  cases l.find? (fun x => eqText x.f0 s) with
  | none => intro hf; exact ⟨none, 0, none, 0, hf, ⟨Nat.le_refl _, ⟨rfl, by decide, fun h => absurd h (by decide)⟩, Nat.le_refl _, ⟨rfl, by decide, fun h => absurd h (by decide)⟩⟩, hb⟩
  | some x => rintro ⟨A3, c3, A4, c4, e, hr⟩; exact ⟨A3, c3, A4, c4, e, hr, hb⟩
theorem ft_head (s : ByteArray) (t : Ty) (l : List Bd) : ft (⟨s, t⟩ :: l) s = t := by unfold ft; rw [find_head]
theorem fb_head (s : ByteArray) (t : Ty) (l : List Bd) : fb (⟨s, t⟩ :: l) s = true := by unfold fb; rw [find_head]; rfl
theorem ft_other {n s : ByteArray} (h : eqText n s = false) (t : Ty) (l : List Bd) : ft (⟨n, t⟩ :: l) s = ft l s := by unfold ft; rw [List.find?_cons_of_neg (by simp [h])]
theorem fb_other {n s : ByteArray} (h : eqText n s = false) (t : Ty) (l : List Bd) : fb (⟨n, t⟩ :: l) s = fb l s := by unfold fb; rw [List.find?_cons_of_neg (by simp [h])]
theorem CtxC_below {w w1 : World} {A : Option Addr} {l : List Bd} (h : kBd.C w A l.length l) (hb : Below w.heap.size w w1) : kBd.C w1 A l.length l := Kd.C_below h hb
/-- A row that is read. -/
structure RC (w : World) (A : Option Addr) (l : List Bd) : Prop where
  c : kBd.C w A l.length l
theorem RC.below {w w1 : World} {A : Option Addr} {l : List Bd} (h : RC w A l) (hb : Below w.heap.size w w1) : RC w1 A l := ⟨Kd.C_below h.c hb⟩

theorem eqText_flip (a b : ByteArray) : (a.toList == b.toList) = eqText b a := by unfold eqText; rw [Bool.eq_iff_iff]; simp only [beq_iff_eq]; exact eq_comm
set_option maxHeartbeats 8000000 in
set_option maxRecDepth 100000 in
theorem stays_c (l : List Bd) (b : Bd) (s : ByteArray) (hl96 : l.length * 96 ≤ 140737488351232) (ho : ∀ y, y ∈ l → Okt y.f1) (ob : Okt b.f1) {A : Option Addr} {c : Nat} {A3 A4 : Option Addr} {c3 c4 : Nat} {w : World} (hl : kBd.C w A l.length l) (hc : l.length ≤ c) (h : RT w b.f1 A3 c3 A4 c4) :
    Calls Try.prog 4 #[.slice A l.length c, bv b A3 c3 A4 c4, .string s] w (Yes w) := by
  obtain ⟨kn, rn, en, hrn⟩ := small_says l hl96 ho
  obtain ⟨km, m, em⟩ := told ob
  obtain ⟨kb, eb⟩ := same_told ob b.f1
  rw [same_refl] at eb
  obtain ⟨kw, ew⟩ := same_told (okt_ft (l := l.reverse) (fun y hy => ho y (List.mem_reverse.1 hy)) s) (ft l.reverse s)
  rw [same_refl] at ew
  have hlr : l.reverse.length = l.length := List.length_reverse
  have kB := blk_new w (.cells #[.string b.f0, .int .i64 b.f1.f0, .int .i64 b.f1.f1, .string b.f1.f2, .slice A3 b.f1.f3.length c3, .slice A4 b.f1.f4.length c4] 33)
  have b0 := below_alloc1 w (.cells #[.string b.f0, .int .i64 b.f1.f0, .int .i64 b.f1.f1, .string b.f1.f2, .slice A3 b.f1.f3.length c3, .slice A4 b.f1.f4.length c4] 33)
  have h0 := h.below b0
  have hR := (RC.mk hl).below b0
  have hlt : l.length < 4611686018427387904 := by omega
  have HLR := Aside0.mk hlr
  clear h hl hrn hlr
  go_enter Try.func4, Try.ntmps4
  obtain ⟨⟨Bc0, Bc1, Bc2, Bc3, Bc4, Bc5⟩, Bl⟩ := six kB
  go_wp2_with fail
  refine (small_c l en hR.c hc).mono ?_
  rintro e_ w_ ⟨rfl, hb⟩
  clear Bc0 Bc1 Bc2 Bc3 Bc4 Bc5 Bl
  have b_1 := chain b0 hb
  replace kB := blk_below kB hb
  replace h0 := h0.below hb
  replace hR := hR.below hb
  clear b0
  clear hb
  cases rn with
  | false =>
    obtain ⟨⟨Bc0, Bc1, Bc2, Bc3, Bc4, Bc5⟩, Bl⟩ := six kB
    go_wp2_with fail
    refine (awake_c _).mono ?_
    rintro e_ w_ ⟨rfl, hb⟩
    clear Bc0 Bc1 Bc2 Bc3 Bc4 Bc5 Bl
    have b_2 := chain b_1 hb
    replace kB := blk_below kB hb
    replace h0 := h0.below hb
    replace hR := hR.below hb
    clear b_1
    clear hb
    obtain ⟨⟨Bc0, Bc1, Bc2, Bc3, Bc4, Bc5⟩, Bl⟩ := six kB
    go_wp2
    go_ret
    exact ⟨rfl, b_2⟩
  | true =>
    obtain ⟨⟨Bc0, Bc1, Bc2, Bc3, Bc4, Bc5⟩, Bl⟩ := six kB
    go_wp2_with fail
    refine (much_c b.f1 em h0).mono ?_
    rintro e_ w_ ⟨rfl, hb⟩
    clear Bc0 Bc1 Bc2 Bc3 Bc4 Bc5 Bl
    have b_3 := chain b_1 hb
    replace kB := blk_below kB hb
    replace h0 := h0.below hb
    replace hR := hR.below hb
    clear b_1
    clear hb
    by_cases hm : 60 < m
    · have cm : decide (60 < m) = true := decide_eq_true hm
      obtain ⟨⟨Bc0, Bc1, Bc2, Bc3, Bc4, Bc5⟩, Bl⟩ := six kB
      go_wp2_with fail
      refine (awake_c _).mono ?_
      rintro e_ w_ ⟨rfl, hb⟩
      clear Bc0 Bc1 Bc2 Bc3 Bc4 Bc5 Bl
      have b_4 := chain b_3 hb
      replace kB := blk_below kB hb
      replace h0 := h0.below hb
      replace hR := hR.below hb
      clear b_3
      clear hb
      obtain ⟨⟨Bc0, Bc1, Bc2, Bc3, Bc4, Bc5⟩, Bl⟩ := six kB
      go_wp2
      go_ret
      exact ⟨rfl, b_4⟩
    have cm : decide (60 < m) = false := decide_eq_false hm
    clear hm
    obtain ⟨⟨Bc0, Bc1, Bc2, Bc3, Bc4, Bc5⟩, Bl⟩ := six kB
    go_wp2_with fail
    refine (of_c l hR.c hlt).mono ?_
    rintro e_ w_ ⟨q, rfl, hq, hb⟩
    clear Bc0 Bc1 Bc2 Bc3 Bc4 Bc5 Bl
    have b_5 := chain b_3 hb
    replace kB := blk_below kB hb
    replace h0 := h0.below hb
    replace hR := hR.below hb
    clear b_3
    clear hb
    cases hfb : fb l.reverse s with
    | true =>
      obtain ⟨⟨Bc0, Bc1, Bc2, Bc3, Bc4, Bc5⟩, Bl⟩ := six kB
      go_wp2_with fail
      refine (find_c2 s hq (by rw [HLR.out]; exact hlt)).mono ?_
      rintro e_ w2 ⟨U3, d3, U4, d4, rfl, hu, hb⟩
      rw [hfb]
      clear Bc0 Bc1 Bc2 Bc3 Bc4 Bc5 Bl
      have b_6 := chain b_5 hb
      replace kB := blk_below kB hb
      replace h0 := h0.below hb
      replace hq := hq.below hb
      clear b_5
      clear hb
      have kU := blk_new w2 (.cells #[.int .i64 (ft l.reverse s).f0, .int .i64 (ft l.reverse s).f1, .string (ft l.reverse s).f2, .slice U3 (ft l.reverse s).f3.length d3, .slice U4 (ft l.reverse s).f4.length d4] 31)
      have hb := below_alloc1 w2 (.cells #[.int .i64 (ft l.reverse s).f0, .int .i64 (ft l.reverse s).f1, .string (ft l.reverse s).f2, .slice U3 (ft l.reverse s).f3.length d3, .slice U4 (ft l.reverse s).f4.length d4] 31)
      have b_7 := chain b_6 hb
      replace kB := blk_below kB hb
      replace h0 := h0.below hb
      replace hq := hq.below hb
      replace hu := hu.below hb
      clear b_6
      clear hb
      obtain ⟨⟨Bc0, Bc1, Bc2, Bc3, Bc4, Bc5⟩, Bl⟩ := six kB
      obtain ⟨⟨Uc0, Uc1, Uc2, Uc3, Uc4⟩, ⟨Uf0, Uf1, Uf2, Uf3, Uf4⟩, Ul⟩ := five kU
      go_wp2_with fail
      refine (with_c b.f0 b.f1 hq h0 (by rw [HLR.out]; exact hlt)).mono ?_
      rintro e_ w_ ⟨qd, rfl, hd, hb⟩
      clear Bc0 Bc1 Bc2 Bc3 Bc4 Bc5 Bl Uc0 Uc1 Uc2 Uc3 Uc4 Uf0 Uf1 Uf2 Uf3 Uf4 Ul
      have b_8 := chain b_7 hb
      replace kB := blk_below kB hb
      replace kU := blk_below kU hb
      replace h0 := h0.below hb
      replace hq := hq.below hb
      replace hu := hu.below hb
      clear b_7
      clear hb
      obtain ⟨⟨Bc0, Bc1, Bc2, Bc3, Bc4, Bc5⟩, Bl⟩ := six kB
      obtain ⟨⟨Uc0, Uc1, Uc2, Uc3, Uc4⟩, ⟨Uf0, Uf1, Uf2, Uf3, Uf4⟩, Ul⟩ := five kU
      go_wp2_with fail
      refine (dyn_c _).mono ?_
      rintro e_ w_ ⟨rfl, hb⟩
      clear Bc0 Bc1 Bc2 Bc3 Bc4 Bc5 Bl Uc0 Uc1 Uc2 Uc3 Uc4 Uf0 Uf1 Uf2 Uf3 Uf4 Ul
      have b_9 := chain b_8 hb
      replace kB := blk_below kB hb
      replace kU := blk_below kU hb
      replace h0 := h0.below hb
      replace hq := hq.below hb
      replace hu := hu.below hb
      replace hd := hd.below hb
      clear b_8
      clear hb
      obtain ⟨⟨Bc0, Bc1, Bc2, Bc3, Bc4, Bc5⟩, Bl⟩ := six kB
      obtain ⟨⟨Uc0, Uc1, Uc2, Uc3, Uc4⟩, ⟨Uf0, Uf1, Uf2, Uf3, Uf4⟩, Ul⟩ := five kU
      go_wp2_with fail
      refine (with_c s (simpleTy 5) hq (RT.nil _ 5) (by rw [HLR.out]; exact hlt)).mono ?_
      rintro e_ w_ ⟨qe, rfl, he, hb⟩
      clear Bc0 Bc1 Bc2 Bc3 Bc4 Bc5 Bl Uc0 Uc1 Uc2 Uc3 Uc4 Uf0 Uf1 Uf2 Uf3 Uf4 Ul
      have b_10 := chain b_9 hb
      replace kB := blk_below kB hb
      replace kU := blk_below kU hb
      replace h0 := h0.below hb
      replace hq := hq.below hb
      replace hu := hu.below hb
      replace hd := hd.below hb
      clear b_9
      clear hb
      obtain ⟨⟨Bc0, Bc1, Bc2, Bc3, Bc4, Bc5⟩, Bl⟩ := six kB
      obtain ⟨⟨Uc0, Uc1, Uc2, Uc3, Uc4⟩, ⟨Uf0, Uf1, Uf2, Uf3, Uf4⟩, Ul⟩ := five kU
      go_wp2_with fail
      refine (find_c2 b.f0 hd (by simp only [List.length_cons]; rw [HLR.out]; omega)).mono ?_
      rintro e_ w3 ⟨V3, g3, V4, g4, rfl, hv, hb⟩
      rw [ft_head] at hv
      rw [ft_head, fb_head]
      clear Bc0 Bc1 Bc2 Bc3 Bc4 Bc5 Bl Uc0 Uc1 Uc2 Uc3 Uc4 Uf0 Uf1 Uf2 Uf3 Uf4 Ul
      have b_11 := chain b_10 hb
      replace kB := blk_below kB hb
      replace kU := blk_below kU hb
      replace h0 := h0.below hb
      replace hq := hq.below hb
      replace hu := hu.below hb
      replace hd := hd.below hb
      replace he := he.below hb
      clear b_10
      clear hb
      have kV := blk_new w3 (.cells #[.int .i64 b.f1.f0, .int .i64 b.f1.f1, .string b.f1.f2, .slice V3 b.f1.f3.length g3, .slice V4 b.f1.f4.length g4] 31)
      have hb := below_alloc1 w3 (.cells #[.int .i64 b.f1.f0, .int .i64 b.f1.f1, .string b.f1.f2, .slice V3 b.f1.f3.length g3, .slice V4 b.f1.f4.length g4] 31)
      have b_12 := chain b_11 hb
      replace kB := blk_below kB hb
      replace kU := blk_below kU hb
      replace h0 := h0.below hb
      replace hq := hq.below hb
      replace hu := hu.below hb
      replace hd := hd.below hb
      replace he := he.below hb
      replace hv := hv.below hb
      clear b_11
      clear hb
      obtain ⟨⟨Bc0, Bc1, Bc2, Bc3, Bc4, Bc5⟩, Bl⟩ := six kB
      obtain ⟨⟨Uc0, Uc1, Uc2, Uc3, Uc4⟩, ⟨Uf0, Uf1, Uf2, Uf3, Uf4⟩, Ul⟩ := five kU
      obtain ⟨⟨Vc0, Vc1, Vc2, Vc3, Vc4⟩, ⟨Vf0, Vf1, Vf2, Vf3, Vf4⟩, Vl⟩ := five kV
      go_wp2_with fail
      refine (find_c2 s hd (by simp only [List.length_cons]; rw [HLR.out]; omega)).mono ?_
      rintro e_ w4 ⟨X3, j3, X4, j4, rfl, hx, hb⟩
      clear Bc0 Bc1 Bc2 Bc3 Bc4 Bc5 Bl Uc0 Uc1 Uc2 Uc3 Uc4 Uf0 Uf1 Uf2 Uf3 Uf4 Ul Vc0 Vc1 Vc2 Vc3 Vc4 Vf0 Vf1 Vf2 Vf3 Vf4 Vl
      have b_13 := chain b_12 hb
      replace kB := blk_below kB hb
      replace kU := blk_below kU hb
      replace kV := blk_below kV hb
      replace h0 := h0.below hb
      replace hq := hq.below hb
      replace hu := hu.below hb
      replace hd := hd.below hb
      replace he := he.below hb
      replace hv := hv.below hb
      clear b_12
      clear hb
      cases hsb : eqText b.f0 s with
      | true =>
        have hsb' : (s.toList == b.f0.toList) = true := by rw [eqText_flip]; exact hsb
        have HSB := Aside0.mk hsb
        clear hsb
        generalize ft (⟨b.f0, b.f1⟩ :: l.reverse) s = tx at hx ⊢
        generalize fb (⟨b.f0, b.f1⟩ :: l.reverse) s = bx
        have kX := blk_new w4 (.cells #[.int .i64 tx.f0, .int .i64 tx.f1, .string tx.f2, .slice X3 tx.f3.length j3, .slice X4 tx.f4.length j4] 31)
        have hb := below_alloc1 w4 (.cells #[.int .i64 tx.f0, .int .i64 tx.f1, .string tx.f2, .slice X3 tx.f3.length j3, .slice X4 tx.f4.length j4] 31)
        have b_14 := chain b_13 hb
        replace kB := blk_below kB hb
        replace kU := blk_below kU hb
        replace kV := blk_below kV hb
        replace h0 := h0.below hb
        replace hq := hq.below hb
        replace hu := hu.below hb
        replace hd := hd.below hb
        replace he := he.below hb
        replace hv := hv.below hb
        replace hx := hx.below hb
        clear b_13
        clear hb
        obtain ⟨⟨Bc0, Bc1, Bc2, Bc3, Bc4, Bc5⟩, Bl⟩ := six kB
        obtain ⟨⟨Uc0, Uc1, Uc2, Uc3, Uc4⟩, ⟨Uf0, Uf1, Uf2, Uf3, Uf4⟩, Ul⟩ := five kU
        obtain ⟨⟨Vc0, Vc1, Vc2, Vc3, Vc4⟩, ⟨Vf0, Vf1, Vf2, Vf3, Vf4⟩, Vl⟩ := five kV
        obtain ⟨⟨Xc0, Xc1, Xc2, Xc3, Xc4⟩, ⟨Xf0, Xf1, Xf2, Xf3, Xf4⟩, Xl⟩ := five kX
        go_wp2_with fail
        refine (find_c2 s hq (by rw [HLR.out]; exact hlt)).mono ?_
        rintro e_ w5 ⟨Y3, i3, Y4, i4, rfl, hy, hb⟩
        rw [hfb]
        clear Bc0 Bc1 Bc2 Bc3 Bc4 Bc5 Bl Uc0 Uc1 Uc2 Uc3 Uc4 Uf0 Uf1 Uf2 Uf3 Uf4 Ul Vc0 Vc1 Vc2 Vc3 Vc4 Vf0 Vf1 Vf2 Vf3 Vf4 Vl Xc0 Xc1 Xc2 Xc3 Xc4 Xf0 Xf1 Xf2 Xf3 Xf4 Xl
        have b_15 := chain b_14 hb
        replace kB := blk_below kB hb
        replace kU := blk_below kU hb
        replace kV := blk_below kV hb
        replace kX := blk_below kX hb
        replace h0 := h0.below hb
        replace hq := hq.below hb
        replace hu := hu.below hb
        replace hd := hd.below hb
        replace he := he.below hb
        replace hv := hv.below hb
        replace hx := hx.below hb
        clear b_14
        clear hb
        have kY := blk_new w5 (.cells #[.int .i64 (ft l.reverse s).f0, .int .i64 (ft l.reverse s).f1, .string (ft l.reverse s).f2, .slice Y3 (ft l.reverse s).f3.length i3, .slice Y4 (ft l.reverse s).f4.length i4] 31)
        have hb := below_alloc1 w5 (.cells #[.int .i64 (ft l.reverse s).f0, .int .i64 (ft l.reverse s).f1, .string (ft l.reverse s).f2, .slice Y3 (ft l.reverse s).f3.length i3, .slice Y4 (ft l.reverse s).f4.length i4] 31)
        have b_16 := chain b_15 hb
        replace kB := blk_below kB hb
        replace kU := blk_below kU hb
        replace kV := blk_below kV hb
        replace kX := blk_below kX hb
        replace h0 := h0.below hb
        replace hq := hq.below hb
        replace hu := hu.below hb
        replace hd := hd.below hb
        replace he := he.below hb
        replace hv := hv.below hb
        replace hx := hx.below hb
        replace hy := hy.below hb
        clear b_15
        clear hb
        have HFB := Aside0.mk hfb
        clear hfb
        obtain ⟨⟨Bc0, Bc1, Bc2, Bc3, Bc4, Bc5⟩, Bl⟩ := six kB
        obtain ⟨⟨Uc0, Uc1, Uc2, Uc3, Uc4⟩, ⟨Uf0, Uf1, Uf2, Uf3, Uf4⟩, Ul⟩ := five kU
        obtain ⟨⟨Vc0, Vc1, Vc2, Vc3, Vc4⟩, ⟨Vf0, Vf1, Vf2, Vf3, Vf4⟩, Vl⟩ := five kV
        obtain ⟨⟨Xc0, Xc1, Xc2, Xc3, Xc4⟩, ⟨Xf0, Xf1, Xf2, Xf3, Xf4⟩, Xl⟩ := five kX
        obtain ⟨⟨Yc0, Yc1, Yc2, Yc3, Yc4⟩, ⟨Yf0, Yf1, Yf2, Yf3, Yf4⟩, Yl⟩ := five kY
        go_wp2_with fail
        refine (rsame_c b.f1 b.f1 kb true eb hv h0).mono ?_
        rintro e_ w_ ⟨rfl, hb⟩
        clear Bc0 Bc1 Bc2 Bc3 Bc4 Bc5 Bl Uc0 Uc1 Uc2 Uc3 Uc4 Uf0 Uf1 Uf2 Uf3 Uf4 Ul Vc0 Vc1 Vc2 Vc3 Vc4 Vf0 Vf1 Vf2 Vf3 Vf4 Vl Xc0 Xc1 Xc2 Xc3 Xc4 Xf0 Xf1 Xf2 Xf3 Xf4 Xl Yc0 Yc1 Yc2 Yc3 Yc4 Yf0 Yf1 Yf2 Yf3 Yf4 Yl
        have b_17 := chain b_16 hb
        replace kB := blk_below kB hb
        replace kU := blk_below kU hb
        replace kV := blk_below kV hb
        replace kX := blk_below kX hb
        replace kY := blk_below kY hb
        replace h0 := h0.below hb
        replace hq := hq.below hb
        replace hu := hu.below hb
        replace hd := hd.below hb
        replace he := he.below hb
        replace hv := hv.below hb
        replace hx := hx.below hb
        replace hy := hy.below hb
        clear b_16
        clear hb
        obtain ⟨⟨Bc0, Bc1, Bc2, Bc3, Bc4, Bc5⟩, Bl⟩ := six kB
        obtain ⟨⟨Uc0, Uc1, Uc2, Uc3, Uc4⟩, ⟨Uf0, Uf1, Uf2, Uf3, Uf4⟩, Ul⟩ := five kU
        obtain ⟨⟨Vc0, Vc1, Vc2, Vc3, Vc4⟩, ⟨Vf0, Vf1, Vf2, Vf3, Vf4⟩, Vl⟩ := five kV
        obtain ⟨⟨Xc0, Xc1, Xc2, Xc3, Xc4⟩, ⟨Xf0, Xf1, Xf2, Xf3, Xf4⟩, Xl⟩ := five kX
        obtain ⟨⟨Yc0, Yc1, Yc2, Yc3, Yc4⟩, ⟨Yf0, Yf1, Yf2, Yf3, Yf4⟩, Yl⟩ := five kY
        go_wp2_with fail
        refine (rsame_c (ft l.reverse s) (ft l.reverse s) kw true ew hy hu).mono ?_
        rintro e_ w_ ⟨rfl, hb⟩
        clear Bc0 Bc1 Bc2 Bc3 Bc4 Bc5 Bl Uc0 Uc1 Uc2 Uc3 Uc4 Uf0 Uf1 Uf2 Uf3 Uf4 Ul Vc0 Vc1 Vc2 Vc3 Vc4 Vf0 Vf1 Vf2 Vf3 Vf4 Vl Xc0 Xc1 Xc2 Xc3 Xc4 Xf0 Xf1 Xf2 Xf3 Xf4 Xl Yc0 Yc1 Yc2 Yc3 Yc4 Yf0 Yf1 Yf2 Yf3 Yf4 Yl
        have b_18 := chain b_17 hb
        replace kB := blk_below kB hb
        replace kU := blk_below kU hb
        replace kV := blk_below kV hb
        replace kX := blk_below kX hb
        replace kY := blk_below kY hb
        replace h0 := h0.below hb
        replace hq := hq.below hb
        replace hu := hu.below hb
        replace hd := hd.below hb
        replace he := he.below hb
        replace hv := hv.below hb
        replace hx := hx.below hb
        replace hy := hy.below hb
        clear b_17
        clear hb
        obtain ⟨⟨Bc0, Bc1, Bc2, Bc3, Bc4, Bc5⟩, Bl⟩ := six kB
        obtain ⟨⟨Uc0, Uc1, Uc2, Uc3, Uc4⟩, ⟨Uf0, Uf1, Uf2, Uf3, Uf4⟩, Ul⟩ := five kU
        obtain ⟨⟨Vc0, Vc1, Vc2, Vc3, Vc4⟩, ⟨Vf0, Vf1, Vf2, Vf3, Vf4⟩, Vl⟩ := five kV
        obtain ⟨⟨Xc0, Xc1, Xc2, Xc3, Xc4⟩, ⟨Xf0, Xf1, Xf2, Xf3, Xf4⟩, Xl⟩ := five kX
        obtain ⟨⟨Yc0, Yc1, Yc2, Yc3, Yc4⟩, ⟨Yf0, Yf1, Yf2, Yf3, Yf4⟩, Yl⟩ := five kY
        go_wp2_with fail
        refine (len_c he).mono ?_
        rintro e_ w_ ⟨rfl, rfl⟩
        go_wp2_with fail
        refine (len_c hd).mono ?_
        rintro e_ w_ ⟨rfl, rfl⟩
        go_wp2_with fail
        refine (awake_c _).mono ?_
        rintro e_ w_ ⟨rfl, hb⟩
        clear Bc0 Bc1 Bc2 Bc3 Bc4 Bc5 Bl Uc0 Uc1 Uc2 Uc3 Uc4 Uf0 Uf1 Uf2 Uf3 Uf4 Ul Vc0 Vc1 Vc2 Vc3 Vc4 Vf0 Vf1 Vf2 Vf3 Vf4 Vl Xc0 Xc1 Xc2 Xc3 Xc4 Xf0 Xf1 Xf2 Xf3 Xf4 Xl Yc0 Yc1 Yc2 Yc3 Yc4 Yf0 Yf1 Yf2 Yf3 Yf4 Yl
        have b_19 := chain b_18 hb
        replace kB := blk_below kB hb
        replace kU := blk_below kU hb
        replace kV := blk_below kV hb
        replace kX := blk_below kX hb
        replace kY := blk_below kY hb
        replace h0 := h0.below hb
        replace hq := hq.below hb
        replace hu := hu.below hb
        replace hd := hd.below hb
        replace he := he.below hb
        replace hv := hv.below hb
        replace hx := hx.below hb
        replace hy := hy.below hb
        clear b_18
        clear hb
        obtain ⟨⟨Bc0, Bc1, Bc2, Bc3, Bc4, Bc5⟩, Bl⟩ := six kB
        obtain ⟨⟨Uc0, Uc1, Uc2, Uc3, Uc4⟩, ⟨Uf0, Uf1, Uf2, Uf3, Uf4⟩, Ul⟩ := five kU
        obtain ⟨⟨Vc0, Vc1, Vc2, Vc3, Vc4⟩, ⟨Vf0, Vf1, Vf2, Vf3, Vf4⟩, Vl⟩ := five kV
        obtain ⟨⟨Xc0, Xc1, Xc2, Xc3, Xc4⟩, ⟨Xf0, Xf1, Xf2, Xf3, Xf4⟩, Xl⟩ := five kX
        obtain ⟨⟨Yc0, Yc1, Yc2, Yc3, Yc4⟩, ⟨Yf0, Yf1, Yf2, Yf3, Yf4⟩, Yl⟩ := five kY
        go_wp2
        go_ret
        exact ⟨rfl, b_19⟩
      | false =>
        have hsb' : (s.toList == b.f0.toList) = false := by rw [eqText_flip]; exact hsb
        rw [ft_other hsb] at hx
        rw [ft_other hsb, fb_other hsb, hfb]
        have HSB := Aside0.mk hsb
        clear hsb
        have kX := blk_new w4 (.cells #[.int .i64 (ft l.reverse s).f0, .int .i64 (ft l.reverse s).f1, .string (ft l.reverse s).f2, .slice X3 (ft l.reverse s).f3.length j3, .slice X4 (ft l.reverse s).f4.length j4] 31)
        have hb := below_alloc1 w4 (.cells #[.int .i64 (ft l.reverse s).f0, .int .i64 (ft l.reverse s).f1, .string (ft l.reverse s).f2, .slice X3 (ft l.reverse s).f3.length j3, .slice X4 (ft l.reverse s).f4.length j4] 31)
        have b_20 := chain b_13 hb
        replace kB := blk_below kB hb
        replace kU := blk_below kU hb
        replace kV := blk_below kV hb
        replace h0 := h0.below hb
        replace hq := hq.below hb
        replace hu := hu.below hb
        replace hd := hd.below hb
        replace he := he.below hb
        replace hv := hv.below hb
        replace hx := hx.below hb
        clear b_13
        clear hb
        obtain ⟨⟨Bc0, Bc1, Bc2, Bc3, Bc4, Bc5⟩, Bl⟩ := six kB
        obtain ⟨⟨Uc0, Uc1, Uc2, Uc3, Uc4⟩, ⟨Uf0, Uf1, Uf2, Uf3, Uf4⟩, Ul⟩ := five kU
        obtain ⟨⟨Vc0, Vc1, Vc2, Vc3, Vc4⟩, ⟨Vf0, Vf1, Vf2, Vf3, Vf4⟩, Vl⟩ := five kV
        obtain ⟨⟨Xc0, Xc1, Xc2, Xc3, Xc4⟩, ⟨Xf0, Xf1, Xf2, Xf3, Xf4⟩, Xl⟩ := five kX
        go_wp2_with fail
        refine (find_c2 s hq (by rw [HLR.out]; exact hlt)).mono ?_
        rintro e_ w5 ⟨Y3, i3, Y4, i4, rfl, hy, hb⟩
        rw [hfb]
        clear Bc0 Bc1 Bc2 Bc3 Bc4 Bc5 Bl Uc0 Uc1 Uc2 Uc3 Uc4 Uf0 Uf1 Uf2 Uf3 Uf4 Ul Vc0 Vc1 Vc2 Vc3 Vc4 Vf0 Vf1 Vf2 Vf3 Vf4 Vl Xc0 Xc1 Xc2 Xc3 Xc4 Xf0 Xf1 Xf2 Xf3 Xf4 Xl
        have b_21 := chain b_20 hb
        replace kB := blk_below kB hb
        replace kU := blk_below kU hb
        replace kV := blk_below kV hb
        replace kX := blk_below kX hb
        replace h0 := h0.below hb
        replace hq := hq.below hb
        replace hu := hu.below hb
        replace hd := hd.below hb
        replace he := he.below hb
        replace hv := hv.below hb
        replace hx := hx.below hb
        clear b_20
        clear hb
        have kY := blk_new w5 (.cells #[.int .i64 (ft l.reverse s).f0, .int .i64 (ft l.reverse s).f1, .string (ft l.reverse s).f2, .slice Y3 (ft l.reverse s).f3.length i3, .slice Y4 (ft l.reverse s).f4.length i4] 31)
        have hb := below_alloc1 w5 (.cells #[.int .i64 (ft l.reverse s).f0, .int .i64 (ft l.reverse s).f1, .string (ft l.reverse s).f2, .slice Y3 (ft l.reverse s).f3.length i3, .slice Y4 (ft l.reverse s).f4.length i4] 31)
        have b_22 := chain b_21 hb
        replace kB := blk_below kB hb
        replace kU := blk_below kU hb
        replace kV := blk_below kV hb
        replace kX := blk_below kX hb
        replace h0 := h0.below hb
        replace hq := hq.below hb
        replace hu := hu.below hb
        replace hd := hd.below hb
        replace he := he.below hb
        replace hv := hv.below hb
        replace hx := hx.below hb
        replace hy := hy.below hb
        clear b_21
        clear hb
        have HFB := Aside0.mk hfb
        clear hfb
        obtain ⟨⟨Bc0, Bc1, Bc2, Bc3, Bc4, Bc5⟩, Bl⟩ := six kB
        obtain ⟨⟨Uc0, Uc1, Uc2, Uc3, Uc4⟩, ⟨Uf0, Uf1, Uf2, Uf3, Uf4⟩, Ul⟩ := five kU
        obtain ⟨⟨Vc0, Vc1, Vc2, Vc3, Vc4⟩, ⟨Vf0, Vf1, Vf2, Vf3, Vf4⟩, Vl⟩ := five kV
        obtain ⟨⟨Xc0, Xc1, Xc2, Xc3, Xc4⟩, ⟨Xf0, Xf1, Xf2, Xf3, Xf4⟩, Xl⟩ := five kX
        obtain ⟨⟨Yc0, Yc1, Yc2, Yc3, Yc4⟩, ⟨Yf0, Yf1, Yf2, Yf3, Yf4⟩, Yl⟩ := five kY
        go_wp2_with fail
        refine (rsame_c b.f1 b.f1 kb true eb hv h0).mono ?_
        rintro e_ w_ ⟨rfl, hb⟩
        clear Bc0 Bc1 Bc2 Bc3 Bc4 Bc5 Bl Uc0 Uc1 Uc2 Uc3 Uc4 Uf0 Uf1 Uf2 Uf3 Uf4 Ul Vc0 Vc1 Vc2 Vc3 Vc4 Vf0 Vf1 Vf2 Vf3 Vf4 Vl Xc0 Xc1 Xc2 Xc3 Xc4 Xf0 Xf1 Xf2 Xf3 Xf4 Xl Yc0 Yc1 Yc2 Yc3 Yc4 Yf0 Yf1 Yf2 Yf3 Yf4 Yl
        have b_23 := chain b_22 hb
        replace kB := blk_below kB hb
        replace kU := blk_below kU hb
        replace kV := blk_below kV hb
        replace kX := blk_below kX hb
        replace kY := blk_below kY hb
        replace h0 := h0.below hb
        replace hq := hq.below hb
        replace hu := hu.below hb
        replace hd := hd.below hb
        replace he := he.below hb
        replace hv := hv.below hb
        replace hx := hx.below hb
        replace hy := hy.below hb
        clear b_22
        clear hb
        obtain ⟨⟨Bc0, Bc1, Bc2, Bc3, Bc4, Bc5⟩, Bl⟩ := six kB
        obtain ⟨⟨Uc0, Uc1, Uc2, Uc3, Uc4⟩, ⟨Uf0, Uf1, Uf2, Uf3, Uf4⟩, Ul⟩ := five kU
        obtain ⟨⟨Vc0, Vc1, Vc2, Vc3, Vc4⟩, ⟨Vf0, Vf1, Vf2, Vf3, Vf4⟩, Vl⟩ := five kV
        obtain ⟨⟨Xc0, Xc1, Xc2, Xc3, Xc4⟩, ⟨Xf0, Xf1, Xf2, Xf3, Xf4⟩, Xl⟩ := five kX
        obtain ⟨⟨Yc0, Yc1, Yc2, Yc3, Yc4⟩, ⟨Yf0, Yf1, Yf2, Yf3, Yf4⟩, Yl⟩ := five kY
        go_wp2_with fail
        refine (rsame_c (ft l.reverse s) (ft l.reverse s) kw true ew hy hu).mono ?_
        rintro e_ w_ ⟨rfl, hb⟩
        clear Bc0 Bc1 Bc2 Bc3 Bc4 Bc5 Bl Uc0 Uc1 Uc2 Uc3 Uc4 Uf0 Uf1 Uf2 Uf3 Uf4 Ul Vc0 Vc1 Vc2 Vc3 Vc4 Vf0 Vf1 Vf2 Vf3 Vf4 Vl Xc0 Xc1 Xc2 Xc3 Xc4 Xf0 Xf1 Xf2 Xf3 Xf4 Xl Yc0 Yc1 Yc2 Yc3 Yc4 Yf0 Yf1 Yf2 Yf3 Yf4 Yl
        have b_24 := chain b_23 hb
        replace kB := blk_below kB hb
        replace kU := blk_below kU hb
        replace kV := blk_below kV hb
        replace kX := blk_below kX hb
        replace kY := blk_below kY hb
        replace h0 := h0.below hb
        replace hq := hq.below hb
        replace hu := hu.below hb
        replace hd := hd.below hb
        replace he := he.below hb
        replace hv := hv.below hb
        replace hx := hx.below hb
        replace hy := hy.below hb
        clear b_23
        clear hb
        obtain ⟨⟨Bc0, Bc1, Bc2, Bc3, Bc4, Bc5⟩, Bl⟩ := six kB
        obtain ⟨⟨Uc0, Uc1, Uc2, Uc3, Uc4⟩, ⟨Uf0, Uf1, Uf2, Uf3, Uf4⟩, Ul⟩ := five kU
        obtain ⟨⟨Vc0, Vc1, Vc2, Vc3, Vc4⟩, ⟨Vf0, Vf1, Vf2, Vf3, Vf4⟩, Vl⟩ := five kV
        obtain ⟨⟨Xc0, Xc1, Xc2, Xc3, Xc4⟩, ⟨Xf0, Xf1, Xf2, Xf3, Xf4⟩, Xl⟩ := five kX
        obtain ⟨⟨Yc0, Yc1, Yc2, Yc3, Yc4⟩, ⟨Yf0, Yf1, Yf2, Yf3, Yf4⟩, Yl⟩ := five kY
        go_wp2_with fail
        refine (len_c he).mono ?_
        rintro e_ w_ ⟨rfl, rfl⟩
        go_wp2_with fail
        refine (len_c hd).mono ?_
        rintro e_ w_ ⟨rfl, rfl⟩
        go_wp2_with fail
        refine (rsame_c (ft l.reverse s) (ft l.reverse s) kw true ew hx hu).mono ?_
        rintro e_ w_ ⟨rfl, hb⟩
        clear Bc0 Bc1 Bc2 Bc3 Bc4 Bc5 Bl Uc0 Uc1 Uc2 Uc3 Uc4 Uf0 Uf1 Uf2 Uf3 Uf4 Ul Vc0 Vc1 Vc2 Vc3 Vc4 Vf0 Vf1 Vf2 Vf3 Vf4 Vl Xc0 Xc1 Xc2 Xc3 Xc4 Xf0 Xf1 Xf2 Xf3 Xf4 Xl Yc0 Yc1 Yc2 Yc3 Yc4 Yf0 Yf1 Yf2 Yf3 Yf4 Yl
        have b_25 := chain b_24 hb
        replace kB := blk_below kB hb
        replace kU := blk_below kU hb
        replace kV := blk_below kV hb
        replace kX := blk_below kX hb
        replace kY := blk_below kY hb
        replace h0 := h0.below hb
        replace hq := hq.below hb
        replace hu := hu.below hb
        replace hd := hd.below hb
        replace he := he.below hb
        replace hv := hv.below hb
        replace hx := hx.below hb
        replace hy := hy.below hb
        clear b_24
        clear hb
        obtain ⟨⟨Bc0, Bc1, Bc2, Bc3, Bc4, Bc5⟩, Bl⟩ := six kB
        obtain ⟨⟨Uc0, Uc1, Uc2, Uc3, Uc4⟩, ⟨Uf0, Uf1, Uf2, Uf3, Uf4⟩, Ul⟩ := five kU
        obtain ⟨⟨Vc0, Vc1, Vc2, Vc3, Vc4⟩, ⟨Vf0, Vf1, Vf2, Vf3, Vf4⟩, Vl⟩ := five kV
        obtain ⟨⟨Xc0, Xc1, Xc2, Xc3, Xc4⟩, ⟨Xf0, Xf1, Xf2, Xf3, Xf4⟩, Xl⟩ := five kX
        obtain ⟨⟨Yc0, Yc1, Yc2, Yc3, Yc4⟩, ⟨Yf0, Yf1, Yf2, Yf3, Yf4⟩, Yl⟩ := five kY
        go_wp2_with fail
        refine (awake_c _).mono ?_
        rintro e_ w_ ⟨rfl, hb⟩
        clear Bc0 Bc1 Bc2 Bc3 Bc4 Bc5 Bl Uc0 Uc1 Uc2 Uc3 Uc4 Uf0 Uf1 Uf2 Uf3 Uf4 Ul Vc0 Vc1 Vc2 Vc3 Vc4 Vf0 Vf1 Vf2 Vf3 Vf4 Vl Xc0 Xc1 Xc2 Xc3 Xc4 Xf0 Xf1 Xf2 Xf3 Xf4 Xl Yc0 Yc1 Yc2 Yc3 Yc4 Yf0 Yf1 Yf2 Yf3 Yf4 Yl
        have b_26 := chain b_25 hb
        replace kB := blk_below kB hb
        replace kU := blk_below kU hb
        replace kV := blk_below kV hb
        replace kX := blk_below kX hb
        replace kY := blk_below kY hb
        replace h0 := h0.below hb
        replace hq := hq.below hb
        replace hu := hu.below hb
        replace hd := hd.below hb
        replace he := he.below hb
        replace hv := hv.below hb
        replace hx := hx.below hb
        replace hy := hy.below hb
        clear b_25
        clear hb
        obtain ⟨⟨Bc0, Bc1, Bc2, Bc3, Bc4, Bc5⟩, Bl⟩ := six kB
        obtain ⟨⟨Uc0, Uc1, Uc2, Uc3, Uc4⟩, ⟨Uf0, Uf1, Uf2, Uf3, Uf4⟩, Ul⟩ := five kU
        obtain ⟨⟨Vc0, Vc1, Vc2, Vc3, Vc4⟩, ⟨Vf0, Vf1, Vf2, Vf3, Vf4⟩, Vl⟩ := five kV
        obtain ⟨⟨Xc0, Xc1, Xc2, Xc3, Xc4⟩, ⟨Xf0, Xf1, Xf2, Xf3, Xf4⟩, Xl⟩ := five kX
        obtain ⟨⟨Yc0, Yc1, Yc2, Yc3, Yc4⟩, ⟨Yf0, Yf1, Yf2, Yf3, Yf4⟩, Yl⟩ := five kY
        go_wp2
        go_ret
        exact ⟨rfl, b_26⟩
    | false =>
      obtain ⟨⟨Bc0, Bc1, Bc2, Bc3, Bc4, Bc5⟩, Bl⟩ := six kB
      go_wp2_with fail
      refine (find_c2 s hq (by rw [HLR.out]; exact hlt)).mono ?_
      rintro e_ w2 ⟨U3, d3, U4, d4, rfl, hu, hb⟩
      rw [hfb]
      clear Bc0 Bc1 Bc2 Bc3 Bc4 Bc5 Bl
      have b_27 := chain b_5 hb
      replace kB := blk_below kB hb
      replace h0 := h0.below hb
      replace hq := hq.below hb
      clear b_5
      clear hb
      have kU := blk_new w2 (.cells #[.int .i64 (ft l.reverse s).f0, .int .i64 (ft l.reverse s).f1, .string (ft l.reverse s).f2, .slice U3 (ft l.reverse s).f3.length d3, .slice U4 (ft l.reverse s).f4.length d4] 31)
      have hb := below_alloc1 w2 (.cells #[.int .i64 (ft l.reverse s).f0, .int .i64 (ft l.reverse s).f1, .string (ft l.reverse s).f2, .slice U3 (ft l.reverse s).f3.length d3, .slice U4 (ft l.reverse s).f4.length d4] 31)
      have b_28 := chain b_27 hb
      replace kB := blk_below kB hb
      replace h0 := h0.below hb
      replace hq := hq.below hb
      replace hu := hu.below hb
      clear b_27
      clear hb
      obtain ⟨⟨Bc0, Bc1, Bc2, Bc3, Bc4, Bc5⟩, Bl⟩ := six kB
      obtain ⟨⟨Uc0, Uc1, Uc2, Uc3, Uc4⟩, ⟨Uf0, Uf1, Uf2, Uf3, Uf4⟩, Ul⟩ := five kU
      go_wp2_with fail
      refine (with_c b.f0 b.f1 hq h0 (by rw [HLR.out]; exact hlt)).mono ?_
      rintro e_ w_ ⟨qd, rfl, hd, hb⟩
      clear Bc0 Bc1 Bc2 Bc3 Bc4 Bc5 Bl Uc0 Uc1 Uc2 Uc3 Uc4 Uf0 Uf1 Uf2 Uf3 Uf4 Ul
      have b_29 := chain b_28 hb
      replace kB := blk_below kB hb
      replace kU := blk_below kU hb
      replace h0 := h0.below hb
      replace hq := hq.below hb
      replace hu := hu.below hb
      clear b_28
      clear hb
      obtain ⟨⟨Bc0, Bc1, Bc2, Bc3, Bc4, Bc5⟩, Bl⟩ := six kB
      obtain ⟨⟨Uc0, Uc1, Uc2, Uc3, Uc4⟩, ⟨Uf0, Uf1, Uf2, Uf3, Uf4⟩, Ul⟩ := five kU
      go_wp2_with fail
      refine (dyn_c _).mono ?_
      rintro e_ w_ ⟨rfl, hb⟩
      clear Bc0 Bc1 Bc2 Bc3 Bc4 Bc5 Bl Uc0 Uc1 Uc2 Uc3 Uc4 Uf0 Uf1 Uf2 Uf3 Uf4 Ul
      have b_30 := chain b_29 hb
      replace kB := blk_below kB hb
      replace kU := blk_below kU hb
      replace h0 := h0.below hb
      replace hq := hq.below hb
      replace hu := hu.below hb
      replace hd := hd.below hb
      clear b_29
      clear hb
      obtain ⟨⟨Bc0, Bc1, Bc2, Bc3, Bc4, Bc5⟩, Bl⟩ := six kB
      obtain ⟨⟨Uc0, Uc1, Uc2, Uc3, Uc4⟩, ⟨Uf0, Uf1, Uf2, Uf3, Uf4⟩, Ul⟩ := five kU
      go_wp2_with fail
      refine (with_c s (simpleTy 5) hq (RT.nil _ 5) (by rw [HLR.out]; exact hlt)).mono ?_
      rintro e_ w_ ⟨qe, rfl, he, hb⟩
      clear Bc0 Bc1 Bc2 Bc3 Bc4 Bc5 Bl Uc0 Uc1 Uc2 Uc3 Uc4 Uf0 Uf1 Uf2 Uf3 Uf4 Ul
      have b_31 := chain b_30 hb
      replace kB := blk_below kB hb
      replace kU := blk_below kU hb
      replace h0 := h0.below hb
      replace hq := hq.below hb
      replace hu := hu.below hb
      replace hd := hd.below hb
      clear b_30
      clear hb
      obtain ⟨⟨Bc0, Bc1, Bc2, Bc3, Bc4, Bc5⟩, Bl⟩ := six kB
      obtain ⟨⟨Uc0, Uc1, Uc2, Uc3, Uc4⟩, ⟨Uf0, Uf1, Uf2, Uf3, Uf4⟩, Ul⟩ := five kU
      go_wp2_with fail
      refine (find_c2 b.f0 hd (by simp only [List.length_cons]; rw [HLR.out]; omega)).mono ?_
      rintro e_ w3 ⟨V3, g3, V4, g4, rfl, hv, hb⟩
      rw [ft_head] at hv
      rw [ft_head, fb_head]
      clear Bc0 Bc1 Bc2 Bc3 Bc4 Bc5 Bl Uc0 Uc1 Uc2 Uc3 Uc4 Uf0 Uf1 Uf2 Uf3 Uf4 Ul
      have b_32 := chain b_31 hb
      replace kB := blk_below kB hb
      replace kU := blk_below kU hb
      replace h0 := h0.below hb
      replace hq := hq.below hb
      replace hu := hu.below hb
      replace hd := hd.below hb
      replace he := he.below hb
      clear b_31
      clear hb
      have kV := blk_new w3 (.cells #[.int .i64 b.f1.f0, .int .i64 b.f1.f1, .string b.f1.f2, .slice V3 b.f1.f3.length g3, .slice V4 b.f1.f4.length g4] 31)
      have hb := below_alloc1 w3 (.cells #[.int .i64 b.f1.f0, .int .i64 b.f1.f1, .string b.f1.f2, .slice V3 b.f1.f3.length g3, .slice V4 b.f1.f4.length g4] 31)
      have b_33 := chain b_32 hb
      replace kB := blk_below kB hb
      replace kU := blk_below kU hb
      replace h0 := h0.below hb
      replace hq := hq.below hb
      replace hu := hu.below hb
      replace hd := hd.below hb
      replace he := he.below hb
      replace hv := hv.below hb
      clear b_32
      clear hb
      obtain ⟨⟨Bc0, Bc1, Bc2, Bc3, Bc4, Bc5⟩, Bl⟩ := six kB
      obtain ⟨⟨Uc0, Uc1, Uc2, Uc3, Uc4⟩, ⟨Uf0, Uf1, Uf2, Uf3, Uf4⟩, Ul⟩ := five kU
      obtain ⟨⟨Vc0, Vc1, Vc2, Vc3, Vc4⟩, ⟨Vf0, Vf1, Vf2, Vf3, Vf4⟩, Vl⟩ := five kV
      go_wp2_with fail
      refine (find_c2 s hd (by simp only [List.length_cons]; rw [HLR.out]; omega)).mono ?_
      rintro e_ w4 ⟨X3, j3, X4, j4, rfl, hx, hb⟩
      clear Bc0 Bc1 Bc2 Bc3 Bc4 Bc5 Bl Uc0 Uc1 Uc2 Uc3 Uc4 Uf0 Uf1 Uf2 Uf3 Uf4 Ul Vc0 Vc1 Vc2 Vc3 Vc4 Vf0 Vf1 Vf2 Vf3 Vf4 Vl
      have b_34 := chain b_33 hb
      replace kB := blk_below kB hb
      replace kU := blk_below kU hb
      replace kV := blk_below kV hb
      replace h0 := h0.below hb
      replace hq := hq.below hb
      replace hu := hu.below hb
      replace hd := hd.below hb
      replace he := he.below hb
      replace hv := hv.below hb
      clear b_33
      clear hb
      cases hsb : eqText b.f0 s with
      | true =>
        have hsb' : (s.toList == b.f0.toList) = true := by rw [eqText_flip]; exact hsb
        have HSB := Aside0.mk hsb
        clear hsb
        generalize ft (⟨b.f0, b.f1⟩ :: l.reverse) s = tx at hx ⊢
        generalize fb (⟨b.f0, b.f1⟩ :: l.reverse) s = bx
        have kX := blk_new w4 (.cells #[.int .i64 tx.f0, .int .i64 tx.f1, .string tx.f2, .slice X3 tx.f3.length j3, .slice X4 tx.f4.length j4] 31)
        have hb := below_alloc1 w4 (.cells #[.int .i64 tx.f0, .int .i64 tx.f1, .string tx.f2, .slice X3 tx.f3.length j3, .slice X4 tx.f4.length j4] 31)
        have b_35 := chain b_34 hb
        replace kB := blk_below kB hb
        replace kU := blk_below kU hb
        replace kV := blk_below kV hb
        replace h0 := h0.below hb
        replace hq := hq.below hb
        replace hu := hu.below hb
        replace hd := hd.below hb
        replace he := he.below hb
        replace hv := hv.below hb
        replace hx := hx.below hb
        clear b_34
        clear hb
        obtain ⟨⟨Bc0, Bc1, Bc2, Bc3, Bc4, Bc5⟩, Bl⟩ := six kB
        obtain ⟨⟨Uc0, Uc1, Uc2, Uc3, Uc4⟩, ⟨Uf0, Uf1, Uf2, Uf3, Uf4⟩, Ul⟩ := five kU
        obtain ⟨⟨Vc0, Vc1, Vc2, Vc3, Vc4⟩, ⟨Vf0, Vf1, Vf2, Vf3, Vf4⟩, Vl⟩ := five kV
        obtain ⟨⟨Xc0, Xc1, Xc2, Xc3, Xc4⟩, ⟨Xf0, Xf1, Xf2, Xf3, Xf4⟩, Xl⟩ := five kX
        go_wp2_with fail
        refine (find_c2 s hq (by rw [HLR.out]; exact hlt)).mono ?_
        rintro e_ w5 ⟨Y3, i3, Y4, i4, rfl, hy, hb⟩
        rw [hfb]
        clear Bc0 Bc1 Bc2 Bc3 Bc4 Bc5 Bl Uc0 Uc1 Uc2 Uc3 Uc4 Uf0 Uf1 Uf2 Uf3 Uf4 Ul Vc0 Vc1 Vc2 Vc3 Vc4 Vf0 Vf1 Vf2 Vf3 Vf4 Vl Xc0 Xc1 Xc2 Xc3 Xc4 Xf0 Xf1 Xf2 Xf3 Xf4 Xl
        have b_36 := chain b_35 hb
        replace kB := blk_below kB hb
        replace kU := blk_below kU hb
        replace kV := blk_below kV hb
        replace kX := blk_below kX hb
        replace h0 := h0.below hb
        replace hq := hq.below hb
        replace hu := hu.below hb
        replace hd := hd.below hb
        replace he := he.below hb
        replace hv := hv.below hb
        replace hx := hx.below hb
        clear b_35
        clear hb
        have kY := blk_new w5 (.cells #[.int .i64 (ft l.reverse s).f0, .int .i64 (ft l.reverse s).f1, .string (ft l.reverse s).f2, .slice Y3 (ft l.reverse s).f3.length i3, .slice Y4 (ft l.reverse s).f4.length i4] 31)
        have hb := below_alloc1 w5 (.cells #[.int .i64 (ft l.reverse s).f0, .int .i64 (ft l.reverse s).f1, .string (ft l.reverse s).f2, .slice Y3 (ft l.reverse s).f3.length i3, .slice Y4 (ft l.reverse s).f4.length i4] 31)
        have b_37 := chain b_36 hb
        replace kB := blk_below kB hb
        replace kU := blk_below kU hb
        replace kV := blk_below kV hb
        replace kX := blk_below kX hb
        replace h0 := h0.below hb
        replace hq := hq.below hb
        replace hu := hu.below hb
        replace hd := hd.below hb
        replace he := he.below hb
        replace hv := hv.below hb
        replace hx := hx.below hb
        replace hy := hy.below hb
        clear b_36
        clear hb
        have HFB := Aside0.mk hfb
        clear hfb
        obtain ⟨⟨Bc0, Bc1, Bc2, Bc3, Bc4, Bc5⟩, Bl⟩ := six kB
        obtain ⟨⟨Uc0, Uc1, Uc2, Uc3, Uc4⟩, ⟨Uf0, Uf1, Uf2, Uf3, Uf4⟩, Ul⟩ := five kU
        obtain ⟨⟨Vc0, Vc1, Vc2, Vc3, Vc4⟩, ⟨Vf0, Vf1, Vf2, Vf3, Vf4⟩, Vl⟩ := five kV
        obtain ⟨⟨Xc0, Xc1, Xc2, Xc3, Xc4⟩, ⟨Xf0, Xf1, Xf2, Xf3, Xf4⟩, Xl⟩ := five kX
        obtain ⟨⟨Yc0, Yc1, Yc2, Yc3, Yc4⟩, ⟨Yf0, Yf1, Yf2, Yf3, Yf4⟩, Yl⟩ := five kY
        go_wp2_with fail
        refine (rsame_c b.f1 b.f1 kb true eb hv h0).mono ?_
        rintro e_ w_ ⟨rfl, hb⟩
        clear Bc0 Bc1 Bc2 Bc3 Bc4 Bc5 Bl Uc0 Uc1 Uc2 Uc3 Uc4 Uf0 Uf1 Uf2 Uf3 Uf4 Ul Vc0 Vc1 Vc2 Vc3 Vc4 Vf0 Vf1 Vf2 Vf3 Vf4 Vl Xc0 Xc1 Xc2 Xc3 Xc4 Xf0 Xf1 Xf2 Xf3 Xf4 Xl Yc0 Yc1 Yc2 Yc3 Yc4 Yf0 Yf1 Yf2 Yf3 Yf4 Yl
        have b_38 := chain b_37 hb
        replace kB := blk_below kB hb
        replace kU := blk_below kU hb
        replace kV := blk_below kV hb
        replace kX := blk_below kX hb
        replace kY := blk_below kY hb
        replace h0 := h0.below hb
        replace hq := hq.below hb
        replace hu := hu.below hb
        replace hd := hd.below hb
        replace he := he.below hb
        replace hv := hv.below hb
        replace hx := hx.below hb
        replace hy := hy.below hb
        clear b_37
        clear hb
        obtain ⟨⟨Bc0, Bc1, Bc2, Bc3, Bc4, Bc5⟩, Bl⟩ := six kB
        obtain ⟨⟨Uc0, Uc1, Uc2, Uc3, Uc4⟩, ⟨Uf0, Uf1, Uf2, Uf3, Uf4⟩, Ul⟩ := five kU
        obtain ⟨⟨Vc0, Vc1, Vc2, Vc3, Vc4⟩, ⟨Vf0, Vf1, Vf2, Vf3, Vf4⟩, Vl⟩ := five kV
        obtain ⟨⟨Xc0, Xc1, Xc2, Xc3, Xc4⟩, ⟨Xf0, Xf1, Xf2, Xf3, Xf4⟩, Xl⟩ := five kX
        obtain ⟨⟨Yc0, Yc1, Yc2, Yc3, Yc4⟩, ⟨Yf0, Yf1, Yf2, Yf3, Yf4⟩, Yl⟩ := five kY
        go_wp2_with fail
        refine (rsame_c (ft l.reverse s) (ft l.reverse s) kw true ew hy hu).mono ?_
        rintro e_ w_ ⟨rfl, hb⟩
        clear Bc0 Bc1 Bc2 Bc3 Bc4 Bc5 Bl Uc0 Uc1 Uc2 Uc3 Uc4 Uf0 Uf1 Uf2 Uf3 Uf4 Ul Vc0 Vc1 Vc2 Vc3 Vc4 Vf0 Vf1 Vf2 Vf3 Vf4 Vl Xc0 Xc1 Xc2 Xc3 Xc4 Xf0 Xf1 Xf2 Xf3 Xf4 Xl Yc0 Yc1 Yc2 Yc3 Yc4 Yf0 Yf1 Yf2 Yf3 Yf4 Yl
        have b_39 := chain b_38 hb
        replace kB := blk_below kB hb
        replace kU := blk_below kU hb
        replace kV := blk_below kV hb
        replace kX := blk_below kX hb
        replace kY := blk_below kY hb
        replace h0 := h0.below hb
        replace hq := hq.below hb
        replace hu := hu.below hb
        replace hd := hd.below hb
        replace he := he.below hb
        replace hv := hv.below hb
        replace hx := hx.below hb
        replace hy := hy.below hb
        clear b_38
        clear hb
        obtain ⟨⟨Bc0, Bc1, Bc2, Bc3, Bc4, Bc5⟩, Bl⟩ := six kB
        obtain ⟨⟨Uc0, Uc1, Uc2, Uc3, Uc4⟩, ⟨Uf0, Uf1, Uf2, Uf3, Uf4⟩, Ul⟩ := five kU
        obtain ⟨⟨Vc0, Vc1, Vc2, Vc3, Vc4⟩, ⟨Vf0, Vf1, Vf2, Vf3, Vf4⟩, Vl⟩ := five kV
        obtain ⟨⟨Xc0, Xc1, Xc2, Xc3, Xc4⟩, ⟨Xf0, Xf1, Xf2, Xf3, Xf4⟩, Xl⟩ := five kX
        obtain ⟨⟨Yc0, Yc1, Yc2, Yc3, Yc4⟩, ⟨Yf0, Yf1, Yf2, Yf3, Yf4⟩, Yl⟩ := five kY
        go_wp2_with fail
        refine (len_c he).mono ?_
        rintro e_ w_ ⟨rfl, rfl⟩
        go_wp2_with fail
        refine (len_c hd).mono ?_
        rintro e_ w_ ⟨rfl, rfl⟩
        go_wp2_with fail
        refine (awake_c _).mono ?_
        rintro e_ w_ ⟨rfl, hb⟩
        clear Bc0 Bc1 Bc2 Bc3 Bc4 Bc5 Bl Uc0 Uc1 Uc2 Uc3 Uc4 Uf0 Uf1 Uf2 Uf3 Uf4 Ul Vc0 Vc1 Vc2 Vc3 Vc4 Vf0 Vf1 Vf2 Vf3 Vf4 Vl Xc0 Xc1 Xc2 Xc3 Xc4 Xf0 Xf1 Xf2 Xf3 Xf4 Xl Yc0 Yc1 Yc2 Yc3 Yc4 Yf0 Yf1 Yf2 Yf3 Yf4 Yl
        have b_40 := chain b_39 hb
        replace kB := blk_below kB hb
        replace kU := blk_below kU hb
        replace kV := blk_below kV hb
        replace kX := blk_below kX hb
        replace kY := blk_below kY hb
        replace h0 := h0.below hb
        replace hq := hq.below hb
        replace hu := hu.below hb
        replace hd := hd.below hb
        replace he := he.below hb
        replace hv := hv.below hb
        replace hx := hx.below hb
        replace hy := hy.below hb
        clear b_39
        clear hb
        obtain ⟨⟨Bc0, Bc1, Bc2, Bc3, Bc4, Bc5⟩, Bl⟩ := six kB
        obtain ⟨⟨Uc0, Uc1, Uc2, Uc3, Uc4⟩, ⟨Uf0, Uf1, Uf2, Uf3, Uf4⟩, Ul⟩ := five kU
        obtain ⟨⟨Vc0, Vc1, Vc2, Vc3, Vc4⟩, ⟨Vf0, Vf1, Vf2, Vf3, Vf4⟩, Vl⟩ := five kV
        obtain ⟨⟨Xc0, Xc1, Xc2, Xc3, Xc4⟩, ⟨Xf0, Xf1, Xf2, Xf3, Xf4⟩, Xl⟩ := five kX
        obtain ⟨⟨Yc0, Yc1, Yc2, Yc3, Yc4⟩, ⟨Yf0, Yf1, Yf2, Yf3, Yf4⟩, Yl⟩ := five kY
        go_wp2
        go_ret
        exact ⟨rfl, b_40⟩
      | false =>
        have hsb' : (s.toList == b.f0.toList) = false := by rw [eqText_flip]; exact hsb
        rw [ft_other hsb] at hx
        rw [ft_other hsb, fb_other hsb, hfb]
        have HSB := Aside0.mk hsb
        clear hsb
        have kX := blk_new w4 (.cells #[.int .i64 (ft l.reverse s).f0, .int .i64 (ft l.reverse s).f1, .string (ft l.reverse s).f2, .slice X3 (ft l.reverse s).f3.length j3, .slice X4 (ft l.reverse s).f4.length j4] 31)
        have hb := below_alloc1 w4 (.cells #[.int .i64 (ft l.reverse s).f0, .int .i64 (ft l.reverse s).f1, .string (ft l.reverse s).f2, .slice X3 (ft l.reverse s).f3.length j3, .slice X4 (ft l.reverse s).f4.length j4] 31)
        have b_41 := chain b_34 hb
        replace kB := blk_below kB hb
        replace kU := blk_below kU hb
        replace kV := blk_below kV hb
        replace h0 := h0.below hb
        replace hq := hq.below hb
        replace hu := hu.below hb
        replace hd := hd.below hb
        replace he := he.below hb
        replace hv := hv.below hb
        replace hx := hx.below hb
        clear b_34
        clear hb
        obtain ⟨⟨Bc0, Bc1, Bc2, Bc3, Bc4, Bc5⟩, Bl⟩ := six kB
        obtain ⟨⟨Uc0, Uc1, Uc2, Uc3, Uc4⟩, ⟨Uf0, Uf1, Uf2, Uf3, Uf4⟩, Ul⟩ := five kU
        obtain ⟨⟨Vc0, Vc1, Vc2, Vc3, Vc4⟩, ⟨Vf0, Vf1, Vf2, Vf3, Vf4⟩, Vl⟩ := five kV
        obtain ⟨⟨Xc0, Xc1, Xc2, Xc3, Xc4⟩, ⟨Xf0, Xf1, Xf2, Xf3, Xf4⟩, Xl⟩ := five kX
        go_wp2_with fail
        refine (find_c2 s hq (by rw [HLR.out]; exact hlt)).mono ?_
        rintro e_ w5 ⟨Y3, i3, Y4, i4, rfl, hy, hb⟩
        rw [hfb]
        clear Bc0 Bc1 Bc2 Bc3 Bc4 Bc5 Bl Uc0 Uc1 Uc2 Uc3 Uc4 Uf0 Uf1 Uf2 Uf3 Uf4 Ul Vc0 Vc1 Vc2 Vc3 Vc4 Vf0 Vf1 Vf2 Vf3 Vf4 Vl Xc0 Xc1 Xc2 Xc3 Xc4 Xf0 Xf1 Xf2 Xf3 Xf4 Xl
        have b_42 := chain b_41 hb
        replace kB := blk_below kB hb
        replace kU := blk_below kU hb
        replace kV := blk_below kV hb
        replace kX := blk_below kX hb
        replace h0 := h0.below hb
        replace hq := hq.below hb
        replace hu := hu.below hb
        replace hd := hd.below hb
        replace he := he.below hb
        replace hv := hv.below hb
        replace hx := hx.below hb
        clear b_41
        clear hb
        have kY := blk_new w5 (.cells #[.int .i64 (ft l.reverse s).f0, .int .i64 (ft l.reverse s).f1, .string (ft l.reverse s).f2, .slice Y3 (ft l.reverse s).f3.length i3, .slice Y4 (ft l.reverse s).f4.length i4] 31)
        have hb := below_alloc1 w5 (.cells #[.int .i64 (ft l.reverse s).f0, .int .i64 (ft l.reverse s).f1, .string (ft l.reverse s).f2, .slice Y3 (ft l.reverse s).f3.length i3, .slice Y4 (ft l.reverse s).f4.length i4] 31)
        have b_43 := chain b_42 hb
        replace kB := blk_below kB hb
        replace kU := blk_below kU hb
        replace kV := blk_below kV hb
        replace kX := blk_below kX hb
        replace h0 := h0.below hb
        replace hq := hq.below hb
        replace hu := hu.below hb
        replace hd := hd.below hb
        replace he := he.below hb
        replace hv := hv.below hb
        replace hx := hx.below hb
        replace hy := hy.below hb
        clear b_42
        clear hb
        have HFB := Aside0.mk hfb
        clear hfb
        obtain ⟨⟨Bc0, Bc1, Bc2, Bc3, Bc4, Bc5⟩, Bl⟩ := six kB
        obtain ⟨⟨Uc0, Uc1, Uc2, Uc3, Uc4⟩, ⟨Uf0, Uf1, Uf2, Uf3, Uf4⟩, Ul⟩ := five kU
        obtain ⟨⟨Vc0, Vc1, Vc2, Vc3, Vc4⟩, ⟨Vf0, Vf1, Vf2, Vf3, Vf4⟩, Vl⟩ := five kV
        obtain ⟨⟨Xc0, Xc1, Xc2, Xc3, Xc4⟩, ⟨Xf0, Xf1, Xf2, Xf3, Xf4⟩, Xl⟩ := five kX
        obtain ⟨⟨Yc0, Yc1, Yc2, Yc3, Yc4⟩, ⟨Yf0, Yf1, Yf2, Yf3, Yf4⟩, Yl⟩ := five kY
        go_wp2_with fail
        refine (rsame_c b.f1 b.f1 kb true eb hv h0).mono ?_
        rintro e_ w_ ⟨rfl, hb⟩
        clear Bc0 Bc1 Bc2 Bc3 Bc4 Bc5 Bl Uc0 Uc1 Uc2 Uc3 Uc4 Uf0 Uf1 Uf2 Uf3 Uf4 Ul Vc0 Vc1 Vc2 Vc3 Vc4 Vf0 Vf1 Vf2 Vf3 Vf4 Vl Xc0 Xc1 Xc2 Xc3 Xc4 Xf0 Xf1 Xf2 Xf3 Xf4 Xl Yc0 Yc1 Yc2 Yc3 Yc4 Yf0 Yf1 Yf2 Yf3 Yf4 Yl
        have b_44 := chain b_43 hb
        replace kB := blk_below kB hb
        replace kU := blk_below kU hb
        replace kV := blk_below kV hb
        replace kX := blk_below kX hb
        replace kY := blk_below kY hb
        replace h0 := h0.below hb
        replace hq := hq.below hb
        replace hu := hu.below hb
        replace hd := hd.below hb
        replace he := he.below hb
        replace hv := hv.below hb
        replace hx := hx.below hb
        replace hy := hy.below hb
        clear b_43
        clear hb
        obtain ⟨⟨Bc0, Bc1, Bc2, Bc3, Bc4, Bc5⟩, Bl⟩ := six kB
        obtain ⟨⟨Uc0, Uc1, Uc2, Uc3, Uc4⟩, ⟨Uf0, Uf1, Uf2, Uf3, Uf4⟩, Ul⟩ := five kU
        obtain ⟨⟨Vc0, Vc1, Vc2, Vc3, Vc4⟩, ⟨Vf0, Vf1, Vf2, Vf3, Vf4⟩, Vl⟩ := five kV
        obtain ⟨⟨Xc0, Xc1, Xc2, Xc3, Xc4⟩, ⟨Xf0, Xf1, Xf2, Xf3, Xf4⟩, Xl⟩ := five kX
        obtain ⟨⟨Yc0, Yc1, Yc2, Yc3, Yc4⟩, ⟨Yf0, Yf1, Yf2, Yf3, Yf4⟩, Yl⟩ := five kY
        go_wp2_with fail
        refine (rsame_c (ft l.reverse s) (ft l.reverse s) kw true ew hy hu).mono ?_
        rintro e_ w_ ⟨rfl, hb⟩
        clear Bc0 Bc1 Bc2 Bc3 Bc4 Bc5 Bl Uc0 Uc1 Uc2 Uc3 Uc4 Uf0 Uf1 Uf2 Uf3 Uf4 Ul Vc0 Vc1 Vc2 Vc3 Vc4 Vf0 Vf1 Vf2 Vf3 Vf4 Vl Xc0 Xc1 Xc2 Xc3 Xc4 Xf0 Xf1 Xf2 Xf3 Xf4 Xl Yc0 Yc1 Yc2 Yc3 Yc4 Yf0 Yf1 Yf2 Yf3 Yf4 Yl
        have b_45 := chain b_44 hb
        replace kB := blk_below kB hb
        replace kU := blk_below kU hb
        replace kV := blk_below kV hb
        replace kX := blk_below kX hb
        replace kY := blk_below kY hb
        replace h0 := h0.below hb
        replace hq := hq.below hb
        replace hu := hu.below hb
        replace hd := hd.below hb
        replace he := he.below hb
        replace hv := hv.below hb
        replace hx := hx.below hb
        replace hy := hy.below hb
        clear b_44
        clear hb
        obtain ⟨⟨Bc0, Bc1, Bc2, Bc3, Bc4, Bc5⟩, Bl⟩ := six kB
        obtain ⟨⟨Uc0, Uc1, Uc2, Uc3, Uc4⟩, ⟨Uf0, Uf1, Uf2, Uf3, Uf4⟩, Ul⟩ := five kU
        obtain ⟨⟨Vc0, Vc1, Vc2, Vc3, Vc4⟩, ⟨Vf0, Vf1, Vf2, Vf3, Vf4⟩, Vl⟩ := five kV
        obtain ⟨⟨Xc0, Xc1, Xc2, Xc3, Xc4⟩, ⟨Xf0, Xf1, Xf2, Xf3, Xf4⟩, Xl⟩ := five kX
        obtain ⟨⟨Yc0, Yc1, Yc2, Yc3, Yc4⟩, ⟨Yf0, Yf1, Yf2, Yf3, Yf4⟩, Yl⟩ := five kY
        go_wp2_with fail
        refine (len_c he).mono ?_
        rintro e_ w_ ⟨rfl, rfl⟩
        go_wp2_with fail
        refine (len_c hd).mono ?_
        rintro e_ w_ ⟨rfl, rfl⟩
        go_wp2_with fail
        refine (rsame_c (ft l.reverse s) (ft l.reverse s) kw true ew hx hu).mono ?_
        rintro e_ w_ ⟨rfl, hb⟩
        clear Bc0 Bc1 Bc2 Bc3 Bc4 Bc5 Bl Uc0 Uc1 Uc2 Uc3 Uc4 Uf0 Uf1 Uf2 Uf3 Uf4 Ul Vc0 Vc1 Vc2 Vc3 Vc4 Vf0 Vf1 Vf2 Vf3 Vf4 Vl Xc0 Xc1 Xc2 Xc3 Xc4 Xf0 Xf1 Xf2 Xf3 Xf4 Xl Yc0 Yc1 Yc2 Yc3 Yc4 Yf0 Yf1 Yf2 Yf3 Yf4 Yl
        have b_46 := chain b_45 hb
        replace kB := blk_below kB hb
        replace kU := blk_below kU hb
        replace kV := blk_below kV hb
        replace kX := blk_below kX hb
        replace kY := blk_below kY hb
        replace h0 := h0.below hb
        replace hq := hq.below hb
        replace hu := hu.below hb
        replace hd := hd.below hb
        replace he := he.below hb
        replace hv := hv.below hb
        replace hx := hx.below hb
        replace hy := hy.below hb
        clear b_45
        clear hb
        obtain ⟨⟨Bc0, Bc1, Bc2, Bc3, Bc4, Bc5⟩, Bl⟩ := six kB
        obtain ⟨⟨Uc0, Uc1, Uc2, Uc3, Uc4⟩, ⟨Uf0, Uf1, Uf2, Uf3, Uf4⟩, Ul⟩ := five kU
        obtain ⟨⟨Vc0, Vc1, Vc2, Vc3, Vc4⟩, ⟨Vf0, Vf1, Vf2, Vf3, Vf4⟩, Vl⟩ := five kV
        obtain ⟨⟨Xc0, Xc1, Xc2, Xc3, Xc4⟩, ⟨Xf0, Xf1, Xf2, Xf3, Xf4⟩, Xl⟩ := five kX
        obtain ⟨⟨Yc0, Yc1, Yc2, Yc3, Yc4⟩, ⟨Yf0, Yf1, Yf2, Yf3, Yf4⟩, Yl⟩ := five kY
        go_wp2_with fail
        refine (awake_c _).mono ?_
        rintro e_ w_ ⟨rfl, hb⟩
        clear Bc0 Bc1 Bc2 Bc3 Bc4 Bc5 Bl Uc0 Uc1 Uc2 Uc3 Uc4 Uf0 Uf1 Uf2 Uf3 Uf4 Ul Vc0 Vc1 Vc2 Vc3 Vc4 Vf0 Vf1 Vf2 Vf3 Vf4 Vl Xc0 Xc1 Xc2 Xc3 Xc4 Xf0 Xf1 Xf2 Xf3 Xf4 Xl Yc0 Yc1 Yc2 Yc3 Yc4 Yf0 Yf1 Yf2 Yf3 Yf4 Yl
        have b_47 := chain b_46 hb
        replace kB := blk_below kB hb
        replace kU := blk_below kU hb
        replace kV := blk_below kV hb
        replace kX := blk_below kX hb
        replace kY := blk_below kY hb
        replace h0 := h0.below hb
        replace hq := hq.below hb
        replace hu := hu.below hb
        replace hd := hd.below hb
        replace he := he.below hb
        replace hv := hv.below hb
        replace hx := hx.below hb
        replace hy := hy.below hb
        clear b_46
        clear hb
        obtain ⟨⟨Bc0, Bc1, Bc2, Bc3, Bc4, Bc5⟩, Bl⟩ := six kB
        obtain ⟨⟨Uc0, Uc1, Uc2, Uc3, Uc4⟩, ⟨Uf0, Uf1, Uf2, Uf3, Uf4⟩, Ul⟩ := five kU
        obtain ⟨⟨Vc0, Vc1, Vc2, Vc3, Vc4⟩, ⟨Vf0, Vf1, Vf2, Vf3, Vf4⟩, Vl⟩ := five kV
        obtain ⟨⟨Xc0, Xc1, Xc2, Xc3, Xc4⟩, ⟨Xf0, Xf1, Xf2, Xf3, Xf4⟩, Xl⟩ := five kX
        obtain ⟨⟨Yc0, Yc1, Yc2, Yc3, Yc4⟩, ⟨Yf0, Yf1, Yf2, Yf3, Yf4⟩, Yl⟩ := five kY
        go_wp2
        go_ret
        exact ⟨rfl, b_47⟩
end Go.Proofs.Ytalmhbiedkjpmaa.PCtxPlays
