/-
  ctx: the walk of the law CtxPlays.
-/
import Derived.Test.YtalmhbiedkjpmaaD2
namespace Go.Proofs.Ytalmhbiedkjpmaa.PCtxPlays
open Go.RowKit Go.Proofs.YtalmhbiedkjpmaaW.Mine Go.Proofs.YtalmhbiedkjpmaaW.PrintWords Go.Proofs.YtalmhbiedkjpmaaW.PrintLast Go.Proofs.YtalmhbiedkjpmaaW.PrintMore
attribute [local go_sem] max2_int min2_int max_two min_two max_three min_three max_four min_four
set_option linter.unusedVariables false
set_option linter.unusedSimpArgs false
theorem heapTy : Kd.Heap kTy := Kd.heap_fix (fun _ hd => Kd.heap_iso _ (Kd.heap_pair (Kd.heap_int .i64) (Kd.heap_pair (Kd.heap_int .i64) (Kd.heap_pair Kd.heap_string (Kd.heap_pair (Kd.heap_slice _ Kd.heap_string) (Kd.heap_slice _ hd))))))
theorem heapBd : Kd.Heap kBd := Kd.heap_iso _ (Kd.heap_pair Kd.heap_string heapTy)
/-- A list of names and types that is read, and whence. -/
structure RX (w : World) (A : Option Addr) (c : Nat) (l : List Bd) : Prop where
  le : l.length ≤ c
  f : Kd.F kBd w (fun _ => True) A l.length l
theorem RX.below {w w1 : World} {A : Option Addr} {c : Nat} {l : List Bd} (h : RX w A c l) (hb : Below w.heap.size w w1) : RX w1 A c l := ⟨h.le, Kd.F_below h.f hb⟩
theorem RX.of {w : World} {A : Option Addr} {c : Nat} {l : List Bd} (hc : kBd.C w A l.length l) (h : l.length ≤ c) : RX w A c l := ⟨h, Kd.F_mono (Kd.C_F heapBd hc) (fun _ _ => trivial)⟩
theorem RX.c {w : World} {A : Option Addr} {c : Nat} {l : List Bd} (h : RX w A c l) : kBd.C w A l.length l := Kd.F_now h.f
theorem rwith_c {w : World} {A : Option Addr} {c : Nat} {l : List Bd} (s : ByteArray) (t : Ty) {A3 A4 : Option Addr} {c3 c4 : Nat} (h : RX w A c l) (hr : RT w t A3 c3 A4 c4) (hn : l.length ≤ 1000000) :
    Calls Try.prog 13 #[.slice A l.length c, .string s, tv t A3 c3 A4 c4] w fun e w' => ∃ A' c', e = .returned (.slice A' (l ++ [(⟨s, t⟩ : Bd)]).length c') ∧ RX w' A' c' (l ++ [(⟨s, t⟩ : Bd)]) ∧ Below w.heap.size w w' := by
  refine (limbeckref20_With.calls (fun _ => True) A c l s t.f0 t.f1 t.f2 (fun _ => True) A3 c3 t.f3 (fun _ => True) A4 c4 t.f4 (l ++ [(⟨s, t⟩ : Bd)]) w (Kd.V_mk h.le h.f) (Kd.V_mk hr.1 (Kd.F_mono (Kd.C_F Kd.heap_string hr.2.1) (fun _ _ => trivial))) (Kd.V_mk hr.2.2.1 (Kd.F_mono (Kd.C_F heapTy hr.2.2.2) (fun _ _ => trivial))) ?_).mono ?_
  · unfold limbeckref20_With.f
    simp only [Option.bind_some, List.nil_append, List.length_nil, List.length_cons, Nat.zero_add]
    rw [if_pos (by omega), if_pos (by omega)]
    cases t; rfl
  · rintro e w' ⟨v, rfl, hN, hb⟩
    obtain ⟨A', c', rfl, hle, hF⟩ := Kd.N_V (base' := 0) hN
    exact ⟨A', c', rfl, ⟨hle, Kd.F_mono hF (fun _ _ => trivial)⟩, hb⟩
theorem find_l (l : List Bd) (s : ByteArray) (hn : l.length ≤ 1000000) : ∀ n, n ≤ l.length → Ev (fun k => limbeckref20_Find.l0 k l s ((n : Int) - 1)) ((ft (l.take n).reverse s).f0, (ft (l.take n).reverse s).f1, (ft (l.take n).reverse s).f2, (ft (l.take n).reverse s).f3, (ft (l.take n).reverse s).f4, fb (l.take n).reverse s)
  | 0, _ => Ev.step (f := fun _ => some (0, 0, (⟨#[]⟩ : ByteArray), ([] : List ByteArray), ([] : List Ty), false)) (fun _ => rfl) (Ev.rets rfl)
  | n + 1, h => by
    rw [show ((n + 1 : Nat) : Int) - 1 = (n : Int) by omega]
    have e := rdT33_at l n (by omega)
    have et : (l.take (n + 1)).reverse = l[n] :: (l.take n).reverse := by rw [List.take_succ_eq_append_getElem (by omega), List.reverse_append]; rfl
    rw [et]
    refine Ev.step (fun _ => rfl) (Ev.pos (by omega) (Ev.pos (by omega) (Ev.pos (by omega) ?_)))
    rw [e]
    by_cases hx : l[n].f0.toList = s.toList
    · have hq : eqText l[n].f0 s = true := by unfold eqText; rw [hx]; simp
      refine Ev.pos hx (Ev.rets ?_)
      unfold ft fb
      rw [List.find?_cons_of_pos (p := fun (x : Bd) => eqText x.f0 s) hq]
      rfl
    · have hq : eqText l[n].f0 s = false := by unfold eqText; exact beq_eq_false_iff_ne.mpr hx
      refine Ev.neg hx ?_
      rw [show wrap64 ((n : Int) - 1) = (n : Int) - 1 from wrap_in (by omega) (by omega), show l[n] = ⟨l[n].f0, l[n].f1⟩ from rfl, ft_other hq, fb_other hq]
      exact find_l l s hn n (by omega)
theorem rfind_c {w : World} {A : Option Addr} {c : Nat} {l : List Bd} (s : ByteArray) (h : RX w A c l) (hn : l.length ≤ 1000000) :
    Calls Try.prog 15 #[.slice A l.length c, .string s] w fun e w' => ∃ A3 c3 A4 c4, e = .returned (.tuple #[tv (ft l.reverse s) A3 c3 A4 c4, .bool (fb l.reverse s)]) ∧ RT w' (ft l.reverse s) A3 c3 A4 c4 ∧ Below w.heap.size w w' := by
  obtain ⟨k, hk⟩ := (find_l l s hn l.length (Nat.le_refl _)).rounds
  rw [List.take_of_length_le (Nat.le_refl _)] at hk
  refine (limbeckref20_Find.calls k (fun _ => True) A c l s (ft l.reverse s).f0 (ft l.reverse s).f1 (ft l.reverse s).f2 (ft l.reverse s).f3 (ft l.reverse s).f4 (fb l.reverse s) w (Kd.V_mk h.le h.f) ?_).mono ?_
  · unfold limbeckref20_Find.f
    rw [show wrap64 ((l.length : Int) - 1) = (l.length : Int) - 1 from wrap_in (by omega) (by omega)]
    exact hk
  · rintro e w' ⟨v3, v4, rfl, ⟨A3, c3, rfl, h3, f3⟩, ⟨A4, c4, rfl, h4, f4⟩, hb⟩
    exact ⟨A3, c3, A4, c4, rfl, ⟨h3, Kd.F_now f3, h4, Kd.F_now f4⟩, hb⟩
theorem same9_l (l : List Bd) (hn : l.length ≤ 1000000) (ho : ∀ y, y ∈ l → Okt y.f1) (d i : Nat) (hd : d + i = l.length) : Ev (fun k => limbeckref09_Same.l0 k l l i) true := by
  induction d generalizing i with
  | zero => exact Ev.step (fun _ => rfl) (Ev.neg (by omega) (Ev.step (f := fun _ => some true) (fun _ => rfl) (Ev.rets rfl)))
  | succ d ih =>
    refine Ev.step (fun _ => rfl) (Ev.pos (by omega) ?_)
    rw [decide_eq_true (show (i : Int) < (l.length : Int) by omega)]
    refine Ev.step (fun _ => rfl) (Ev.pos (by omega) (Ev.pos (by omega) (Ev.pos rfl ?_)))
    rw [rdT33_at l i (by omega), wrap_up (by omega)]
    have := types_f _ l[i].f1 (Nat.lt_succ_self _) (ho _ (List.getElem_mem (by omega))) l[i].f1
    unfold evSame at this
    rw [same_refl] at this
    exact Ev.bind this (Ev.pos rfl (ih (i + 1) (by omega)))
theorem same9_c (l : List Bd) (hn : l.length ≤ 1000000) (ho : ∀ y, y ∈ l → Okt y.f1) {A A' : Option Addr} {c c' : Nat} {w : World} (h : kBd.C w A l.length l) (hc : l.length ≤ c) (h' : kBd.C w A' l.length l) (hc' : l.length ≤ c') :
    Calls Try.prog 18 #[.slice A l.length c, .slice A' l.length c'] w fun e w' => e = .returned (.bool true) ∧ Below w.heap.size w w' := by
  obtain ⟨k, hk⟩ := (same9_l l hn ho l.length 0 (by omega)).rounds
  refine (limbeckref09_Same.calls k A c l A' c' l true w h hc h' hc' ?_).mono fun e w' k => k
  unfold limbeckref09_Same.f
  rw [if_pos rfl]
  exact hk
theorem with_cont {G A : Prop} (g : G) (f : Aside0 G → A) : A := f ⟨g⟩
theorem take_held {P : Program} {ops : Array Oper} {Q : Exit → Act → World → Prop} {md : Region.Mode} {S : World → Prop} {i : Nat} {oi : Oper} {d : Option Tmp} {v : Value} {fuel : Nat} {listed : Array Bool} {a : Act} {w : World} (hi : ops[i]? = some oi) (hd : oi.dst = d)
    (hs : Region.noSelect ops = true) (hf : Region.free md ops listed i = true) (hr : (Region.ready md ops listed).contains i = true)
    (hQ : ∀ c a w, Q (.panic c) (a.put oi.dst v) w → Q (.panic c) a w) (hy : YieldsIf P ops S oi v a) (hS : S w)
    (h : wpAnyH P md ops Q S fuel (listed.setIfInBounds i true) (a.put d v) w) : wpAnyH P md ops Q S (fuel + 1) listed a w := by
  subst hd; exact wpAnyH_take hi hs hf hr hQ hy hS h
theorem below_call' {X u v : World} (h : Below X.heap.size X u) (hb : Below u.heap.size u v) : Below X.heap.size X v := chain h hb
set_option maxHeartbeats 8000000 in
set_option maxRecDepth 100000 in
theorem plays_c (l more : List Bd) (s : ByteArray) (hl96 : l.length * 96 ≤ 140737488351232) (hm96 : more.length * 96 ≤ 140737488351232) (ho : ∀ y, y ∈ l → Okt y.f1) (hmo : ∀ y, y ∈ more → Okt y.f1) {A B : Option Addr} {c d : Nat} {w : World} (hl : kBd.C w A l.length l) (hc : l.length ≤ c) (hm : kBd.C w B more.length more) (hd : more.length ≤ d) :
    Calls Try.prog 3 #[.slice A l.length c, .slice B more.length d, .string s] w (Yes w) := by
  obtain ⟨kn, rn, en, hrn⟩ := small_says l hl96 ho
  obtain ⟨kp, rp, ep, hrp⟩ := small_says more hm96 hmo
  have hL := RX.of hl hc
  have hM := RC.mk hm
  have hok : ∀ n s', Okt (ft (l ++ more.take n).reverse s') := fun n s' => okt_ft (fun y hy => by rcases List.mem_append.1 (List.mem_reverse.1 hy) with h | h; exact ho y h; exact hmo y (List.mem_of_mem_take h)) s'
  have hsame : ∀ n, ∃ k, limbeckref04_Same.f k (ft (l ++ more.take n).reverse s).f0 (ft (l ++ more.take n).reverse s).f1 (ft (l ++ more.take n).reverse s).f2 (ft (l ++ more.take n).reverse s).f3 (ft (l ++ more.take n).reverse s).f4 (ft (l ++ more.take n).reverse s).f0 (ft (l ++ more.take n).reverse s).f1 (ft (l ++ more.take n).reverse s).f2 (ft (l ++ more.take n).reverse s).f3 (ft (l ++ more.take n).reverse s).f4 = some true := fun n => by
    obtain ⟨k, e⟩ := same_told (hok n s) (ft (l ++ more.take n).reverse s)
    rw [same_refl] at e
    exact ⟨k, e⟩
  have HS := Aside0.mk hsame
  have HRN := Aside0.mk hrn
  have HRP := Aside0.mk hrp
  have b0 := Below.refl w.heap.size w
  clear hl hm hsame hok hrn hrp
  go_enter Try.func3, Try.ntmps3
  go_wp2_with fail
  refine (small_c l en hL.c hc).mono ?_
  rintro e_ w_ ⟨rfl, hb⟩
  have b_1 := chain b0 hb
  replace hL := hL.below hb
  replace hM := hM.below hb
  clear b0
  clear hb
  cases rn with
  | false =>
    go_wp2_with fail
    refine (awake_c _).mono ?_
    rintro e_ w_ ⟨rfl, hb⟩
    have b_2 := chain b_1 hb
    replace hL := hL.below hb
    replace hM := hM.below hb
    clear b_1
    clear hb
    go_wp2
    go_ret
    exact ⟨rfl, b_2⟩
  | true =>
    go_wp2_with fail
    refine (small_c more ep hM.c hd).mono ?_
    rintro e_ w_ ⟨rfl, hb⟩
    have b_3 := chain b_1 hb
    replace hL := hL.below hb
    replace hM := hM.below hb
    clear b_1
    clear hb
    cases rp with
    | false =>
      go_wp2_with fail
      refine (awake_c _).mono ?_
      rintro e_ w_ ⟨rfl, hb⟩
      have b_4 := chain b_3 hb
      replace hL := hL.below hb
      replace hM := hM.below hb
      clear b_3
      clear hb
      go_wp2
      go_ret
      exact ⟨rfl, b_4⟩
    | true =>
      have hl50 : l.length ≤ 50 := HRN.out (by first | rfl | trivial)
      have hm50 : more.length ≤ 50 := HRP.out (by first | rfl | trivial)
      clear HRN HRP
      go_wp2_with fail
      refine (of_c l hL.c (by omega)).mono ?_
      rintro e_ w_ ⟨q, rfl, hq, hb⟩
      have b_5 := chain b_3 hb
      replace hL := hL.below hb
      replace hM := hM.below hb
      clear b_3
      clear hb
      go_wp2_with fail
      go_loopg [7, 8, 9] more.length (fun kq v7 v8 v9 w' => ∃ (i : Nat) (q : Option Addr) (X : Option Addr) (e : Nat), v7 = .pointer q ∧ v8 = .slice X (l ++ more.take i).length e ∧ v9 = .int .i64 i ∧ kq + i = more.length ∧ IsCtx w' q (l ++ more.take i).reverse ∧ RX w' X e (l ++ more.take i) ∧ RC w' B more ∧ Below w.heap.size w w')
      case atStart => exact ⟨0, q, A, c, rfl, by simp, rfl, rfl, by simpa using hq, by simpa using hL, hM, b_5⟩
      case round =>
        clear hq hL hM b_5
        obtain ⟨i, q, X, e, rfl, rfl, rfl, hk, hq, hX, hM, b0⟩ := hrel
        generalize hL1 : l ++ more.take i = L1 at hq hX ⊢
        have hlen : L1.length ≤ 100 := by rw [← hL1]; have := List.length_take_le i more; simp; omega
        have HL1 := Aside0.mk hL1
        clear hL1
        have HLEN := Aside0.mk hlen
        clear hlen
        by_cases hi : i < more.length
        · obtain ⟨k1, rfl⟩ : ∃ k1, gk = k1 + 1 := ⟨gk - 1, by omega⟩
          have ci : decide ((i : Int) < (more.length : Int)) = true := decide_eq_true (by omega)
          have i0 : (0 : Int) ≤ (i : Int) := by omega
          have i1 : (i : Int) < (more.length : Int) := by omega
          have hnext : (l ++ more.take (i + 1)) = L1 ++ [more[i]] := by rw [← HL1.out, List.take_succ_eq_append_getElem hi, List.append_assoc]
          have hrev : (l ++ more.take (i + 1)).reverse = more[i] :: L1.reverse := by rw [hnext, List.reverse_append]; rfl
          obtain ⟨ks, es⟩ := HS.out (i + 1)
          have HN := Aside0.mk hnext
          have HR := Aside0.mk hrev
          have HK := Aside0.mk hk
          clear hnext hrev hk
          obtain ⟨ad, X3, e3, X4, e4, hA, fx, x0, x1, x2, x3, x4, x5⟩ := elt hM.c i hi
          subst hA
          go_wp2_with fail
          refine with_cont (G := ∀ W q2, Below wr.heap.size wr W → IsCtx W q2 (more[i] :: L1.reverse) → (?P1 : Option Addr → World → Prop) q2 W) ?cont1 fun hmain => ?reg1
          case reg1 =>
            refine wp_region_held_drew (S := (fun w' => Below wr.heap.size wr w' ∧ w'.cell? (ad.add (i * 6)) = some (.string more[i].f0) ∧ w'.cell? ⟨(ad.add (i * 6)).block, (ad.add (i * 6)).off + 1, none⟩ = some (.int .i64 more[i].f1.f0) ∧ w'.cell? ⟨(ad.add (i * 6)).block, (ad.add (i * 6)).off + 2, none⟩ = some (.int .i64 more[i].f1.f1) ∧ w'.cell? ⟨(ad.add (i * 6)).block, (ad.add (i * 6)).off + 3, none⟩ = some (.string more[i].f1.f2) ∧ w'.cell? ⟨(ad.add (i * 6)).block, (ad.add (i * 6)).off + 4, none⟩ = some (.slice X3 more[i].f1.f3.length e3) ∧ w'.cell? ⟨(ad.add (i * 6)).block, (ad.add (i * 6)).off + 5, none⟩ = some (.slice X4 more[i].f1.f4.length e4))) (by kernel_rfl) ?_ (fun hHeld => ?_)
            · (try dsimp only)
              ((refine and_of (fun hB_ => ⟨cell_up hB_ x0, cell_up hB_ x1, cell_up hB_ x2, cell_up hB_ x3, cell_up hB_ x4, cell_up hB_ x5⟩) ?_; first | (with_reducible exact (Below.refl _ _).drew) | (with_reducible exact below_call' (And.left (by assumption)) (by assumption)) | (with_reducible exact And.left (by assumption))))
            (first | (refine take_held (i := 0) (d := (some 36)) (v := ?_) rfl rfl (by kernel_rfl) (by kernel_rfl) (by kernel_rfl) (fun _ _ _ h => h) (Or.inl ⟨by rfl, ?_⟩) (by assumption) ?_; rotate_left 1; focus ((intro w hSw; (try dsimp only at hSw); first | (go_simp; done) | (go_simp; with_reducible rfl)); done); (try simp only [Act.put, List.setIfInBounds_toArray, List.set_cons_zero, List.set_cons_succ])))
            (try simp only [Act.put, List.setIfInBounds_toArray, List.set_cons_zero, List.set_cons_succ])
            (first | (refine take_held (i := 1) (d := (some 37)) (v := ?_) rfl rfl (by kernel_rfl) (by kernel_rfl) (by kernel_rfl) (fun _ _ _ h => h) (Or.inl ⟨by rfl, ?_⟩) (by assumption) ?_; rotate_left 1; focus ((intro w hSw; (try dsimp only at hSw); first | (go_simp; done) | (go_simp; with_reducible rfl)); done); (try simp only [Act.put, List.setIfInBounds_toArray, List.set_cons_zero, List.set_cons_succ])))
            (try simp only [Act.put, List.setIfInBounds_toArray, List.set_cons_zero, List.set_cons_succ])
            (first | (refine take_held (i := 2) (d := (some 38)) (v := ?_) rfl rfl (by kernel_rfl) (by kernel_rfl) (by kernel_rfl) (fun _ _ _ h => h) (Or.inl ⟨by rfl, ?_⟩) (by assumption) ?_; rotate_left 1; focus ((intro w hSw; (try dsimp only at hSw); first | (go_simp; done) | (go_simp; with_reducible rfl)); done); (try simp only [Act.put, List.setIfInBounds_toArray, List.set_cons_zero, List.set_cons_succ])))
            (try simp only [Act.put, List.setIfInBounds_toArray, List.set_cons_zero, List.set_cons_succ])
            (first | (refine take_held (i := 3) (d := (some 39)) (v := ?_) rfl rfl (by kernel_rfl) (by kernel_rfl) (by kernel_rfl) (fun _ _ _ h => h) (Or.inl ⟨by rfl, ?_⟩) (by assumption) ?_; rotate_left 1; focus ((intro w hSw; (try dsimp only at hSw); first | (go_simp; done) | (go_simp; with_reducible rfl)); done); (try simp only [Act.put, List.setIfInBounds_toArray, List.set_cons_zero, List.set_cons_succ])))
            (try simp only [Act.put, List.setIfInBounds_toArray, List.set_cons_zero, List.set_cons_succ])
            (first | (refine take_held (i := 4) (d := (some 40)) (v := ?_) rfl rfl (by kernel_rfl) (by kernel_rfl) (by kernel_rfl) (fun _ _ _ h => h) (Or.inl ⟨by rfl, ?_⟩) (by assumption) ?_; rotate_left 1; focus ((intro w hSw; (try dsimp only at hSw); first | (go_simp; done) | (go_simp; with_reducible rfl)); done); (try simp only [Act.put, List.setIfInBounds_toArray, List.set_cons_zero, List.set_cons_succ])))
            (try simp only [Act.put, List.setIfInBounds_toArray, List.set_cons_zero, List.set_cons_succ])
            (first | (refine take_held (i := 5) (d := (some 41)) (v := ?_) rfl rfl (by kernel_rfl) (by kernel_rfl) (by kernel_rfl) (fun _ _ _ h => h) (Or.inl ⟨by rfl, ?_⟩) (by assumption) ?_; rotate_left 1; focus ((intro w hSw; (try dsimp only at hSw); first | (go_simp; done) | (go_simp; with_reducible rfl)); done); (try simp only [Act.put, List.setIfInBounds_toArray, List.set_cons_zero, List.set_cons_succ])))
            (try simp only [Act.put, List.setIfInBounds_toArray, List.set_cons_zero, List.set_cons_succ])
            (first | (refine take_held (i := 6) (d := (some 42)) (v := ?_) rfl rfl (by kernel_rfl) (by kernel_rfl) (by kernel_rfl) (fun _ _ _ h => h) (Or.inl ⟨by rfl, ?_⟩) (by assumption) ?_; rotate_left 1; focus ((intro w hSw; (try dsimp only at hSw); first | (go_simp; done) | (go_simp; with_reducible rfl)); done); (try simp only [Act.put, List.setIfInBounds_toArray, List.set_cons_zero, List.set_cons_succ])))
            (try simp only [Act.put, List.setIfInBounds_toArray, List.set_cons_zero, List.set_cons_succ])
            (first | (refine take_held (i := 7) (d := (some 43)) (v := ?_) rfl rfl (by kernel_rfl) (by kernel_rfl) (by kernel_rfl) (fun _ _ _ h => h) (Or.inl ⟨by rfl, ?_⟩) (by assumption) ?_; rotate_left 1; focus ((intro w hSw; (try dsimp only at hSw); first | (go_simp; done) | (go_simp; with_reducible rfl)); done); (try simp only [Act.put, List.setIfInBounds_toArray, List.set_cons_zero, List.set_cons_succ])))
            (try simp only [Act.put, List.setIfInBounds_toArray, List.set_cons_zero, List.set_cons_succ])
            (first | (refine take_held (i := 8) (d := (some 44)) (v := ?_) rfl rfl (by kernel_rfl) (by kernel_rfl) (by kernel_rfl) (fun _ _ _ h => h) (Or.inl ⟨by rfl, ?_⟩) (by assumption) ?_; rotate_left 1; focus ((intro w hSw; (try dsimp only at hSw); first | (go_simp; done) | (go_simp; with_reducible rfl)); done); (try simp only [Act.put, List.setIfInBounds_toArray, List.set_cons_zero, List.set_cons_succ])))
            (try simp only [Act.put, List.setIfInBounds_toArray, List.set_cons_zero, List.set_cons_succ])
            (first | (refine take_held (i := 9) (d := (some 45)) (v := ?_) rfl rfl (by kernel_rfl) (by kernel_rfl) (by kernel_rfl) (fun _ _ _ h => h) (Or.inl ⟨by rfl, ?_⟩) (by assumption) ?_; rotate_left 1; focus ((intro w hSw; (try dsimp only at hSw); first | (go_simp; done) | (go_simp; with_reducible rfl)); done); (try simp only [Act.put, List.setIfInBounds_toArray, List.set_cons_zero, List.set_cons_succ])))
            (try simp only [Act.put, List.setIfInBounds_toArray, List.set_cons_zero, List.set_cons_succ])
            (first | (refine take_held (i := 10) (d := (some 46)) (v := ?_) rfl rfl (by kernel_rfl) (by kernel_rfl) (by kernel_rfl) (fun _ _ _ h => h) (Or.inl ⟨by rfl, ?_⟩) (by assumption) ?_; rotate_left 1; focus ((intro w hSw; (try dsimp only at hSw); first | (go_simp; done) | (go_simp; with_reducible rfl)); done); (try simp only [Act.put, List.setIfInBounds_toArray, List.set_cons_zero, List.set_cons_succ])))
            (try simp only [Act.put, List.setIfInBounds_toArray, List.set_cons_zero, List.set_cons_succ])
            (first
              | (refine wpAnyH_ready (rs := [11]) (by kernel_rfl) (by simp) ?_; refine AllReadyH.cons (o := _) rfl (fun K hK => ?_) AllReadyH.nil; go_simp; (go_at_call 12; refine (with_c more[i].f0 more[i].f1 (hq.below (And.left (by assumption))) (fx.below (And.left (by assumption))) (by have := HLEN.out; simp only [List.length_reverse]; omega)).mono ?_; rintro e_ wA ⟨q2, rfl, hq2, hbA⟩); (try go_wp2_with fail); refine hK.out _ _ (by (try dsimp only); ((refine and_of (fun hB_ => ⟨cell_up hB_ x0, cell_up hB_ x1, cell_up hB_ x2, cell_up hB_ x3, cell_up hB_ x4, cell_up hB_ x5⟩) ?_; first | (with_reducible exact (Below.refl _ _).drew) | (with_reducible exact below_call' (And.left (by assumption)) (by assumption)) | (with_reducible exact And.left (by assumption))))) ?_; clear hHeld hK K; intro hHeld; (try simp only [Act.put, List.setIfInBounds_toArray, List.set_cons_zero, List.set_cons_succ])))
            (first | (refine take_held (i := 12) (d := (some 7)) (v := ?_) rfl rfl (by kernel_rfl) (by kernel_rfl) (by kernel_rfl) (fun _ _ _ h => h) (Or.inl ⟨by rfl, ?_⟩) (by assumption) ?_; rotate_left 1; focus ((intro w hSw; (try dsimp only at hSw); first | (go_simp; done) | (go_simp; with_reducible rfl)); done); (try simp only [Act.put, List.setIfInBounds_toArray, List.set_cons_zero, List.set_cons_succ])))
            (try simp only [Act.put, List.setIfInBounds_toArray, List.set_cons_zero, List.set_cons_succ])
            (try simp only [Act.put, List.setIfInBounds_toArray, List.set_cons_zero, List.set_cons_succ])
            refine wpAnyH_done (by kernel_rfl) ?_ _
            have hbR := below_call' (And.left hHeld) (Below.refl _ _)
            exact hmain.out _ _ hbR hq2
          intro w1 q2 hb1 hq2
          replace x0 := cell_up hb1 x0
          replace x1 := cell_up hb1 x1
          replace x2 := cell_up hb1 x2
          replace x3 := cell_up hb1 x3
          replace x4 := cell_up hb1 x4
          replace x5 := cell_up hb1 x5
          have b_6 := chain b0 hb1
          replace hq := hq.below hb1
          replace hX := hX.below hb1
          replace hM := hM.below hb1
          replace fx := fx.below hb1
          clear b0
          clear hb1 hq
          go_wp2_with fail
          refine with_cont (G := ∀ W X2 e2, Below w1.heap.size w1 W → RX W X2 e2 (L1 ++ [more[i]]) → (?P2 : Option Addr → Nat → World → Prop) X2 e2 W) ?cont2 fun hmain => ?reg2
          case reg2 =>
            refine wp_region_held_drew (S := (fun w' => Below w1.heap.size w1 w' ∧ w'.cell? (ad.add (i * 6)) = some (.string more[i].f0) ∧ w'.cell? ⟨(ad.add (i * 6)).block, (ad.add (i * 6)).off + 1, none⟩ = some (.int .i64 more[i].f1.f0) ∧ w'.cell? ⟨(ad.add (i * 6)).block, (ad.add (i * 6)).off + 2, none⟩ = some (.int .i64 more[i].f1.f1) ∧ w'.cell? ⟨(ad.add (i * 6)).block, (ad.add (i * 6)).off + 3, none⟩ = some (.string more[i].f1.f2) ∧ w'.cell? ⟨(ad.add (i * 6)).block, (ad.add (i * 6)).off + 4, none⟩ = some (.slice X3 more[i].f1.f3.length e3) ∧ w'.cell? ⟨(ad.add (i * 6)).block, (ad.add (i * 6)).off + 5, none⟩ = some (.slice X4 more[i].f1.f4.length e4))) (by kernel_rfl) ?_ (fun hHeld => ?_)
            · (try dsimp only)
              ((refine and_of (fun hB_ => ⟨cell_up hB_ x0, cell_up hB_ x1, cell_up hB_ x2, cell_up hB_ x3, cell_up hB_ x4, cell_up hB_ x5⟩) ?_; first | (with_reducible exact (Below.refl _ _).drew) | (with_reducible exact below_call' (And.left (by assumption)) (by assumption)) | (with_reducible exact And.left (by assumption))))
            (first | (refine take_held (i := 0) (d := (some 48)) (v := ?_) rfl rfl (by kernel_rfl) (by kernel_rfl) (by kernel_rfl) (fun _ _ _ h => h) (Or.inl ⟨by rfl, ?_⟩) (by assumption) ?_; rotate_left 1; focus ((intro w hSw; (try dsimp only at hSw); first | (go_simp; done) | (go_simp; with_reducible rfl)); done); (try simp only [Act.put, List.setIfInBounds_toArray, List.set_cons_zero, List.set_cons_succ])))
            (try simp only [Act.put, List.setIfInBounds_toArray, List.set_cons_zero, List.set_cons_succ])
            (first | (refine take_held (i := 1) (d := (some 49)) (v := ?_) rfl rfl (by kernel_rfl) (by kernel_rfl) (by kernel_rfl) (fun _ _ _ h => h) (Or.inl ⟨by rfl, ?_⟩) (by assumption) ?_; rotate_left 1; focus ((intro w hSw; (try dsimp only at hSw); first | (go_simp; done) | (go_simp; with_reducible rfl)); done); (try simp only [Act.put, List.setIfInBounds_toArray, List.set_cons_zero, List.set_cons_succ])))
            (try simp only [Act.put, List.setIfInBounds_toArray, List.set_cons_zero, List.set_cons_succ])
            (first | (refine take_held (i := 2) (d := (some 50)) (v := ?_) rfl rfl (by kernel_rfl) (by kernel_rfl) (by kernel_rfl) (fun _ _ _ h => h) (Or.inl ⟨by rfl, ?_⟩) (by assumption) ?_; rotate_left 1; focus ((intro w hSw; (try dsimp only at hSw); first | (go_simp; done) | (go_simp; with_reducible rfl)); done); (try simp only [Act.put, List.setIfInBounds_toArray, List.set_cons_zero, List.set_cons_succ])))
            (try simp only [Act.put, List.setIfInBounds_toArray, List.set_cons_zero, List.set_cons_succ])
            (first | (refine take_held (i := 3) (d := (some 51)) (v := ?_) rfl rfl (by kernel_rfl) (by kernel_rfl) (by kernel_rfl) (fun _ _ _ h => h) (Or.inl ⟨by rfl, ?_⟩) (by assumption) ?_; rotate_left 1; focus ((intro w hSw; (try dsimp only at hSw); first | (go_simp; done) | (go_simp; with_reducible rfl)); done); (try simp only [Act.put, List.setIfInBounds_toArray, List.set_cons_zero, List.set_cons_succ])))
            (try simp only [Act.put, List.setIfInBounds_toArray, List.set_cons_zero, List.set_cons_succ])
            (first | (refine take_held (i := 4) (d := (some 52)) (v := ?_) rfl rfl (by kernel_rfl) (by kernel_rfl) (by kernel_rfl) (fun _ _ _ h => h) (Or.inl ⟨by rfl, ?_⟩) (by assumption) ?_; rotate_left 1; focus ((intro w hSw; (try dsimp only at hSw); first | (go_simp; done) | (go_simp; with_reducible rfl)); done); (try simp only [Act.put, List.setIfInBounds_toArray, List.set_cons_zero, List.set_cons_succ])))
            (try simp only [Act.put, List.setIfInBounds_toArray, List.set_cons_zero, List.set_cons_succ])
            (first | (refine take_held (i := 5) (d := (some 53)) (v := ?_) rfl rfl (by kernel_rfl) (by kernel_rfl) (by kernel_rfl) (fun _ _ _ h => h) (Or.inl ⟨by rfl, ?_⟩) (by assumption) ?_; rotate_left 1; focus ((intro w hSw; (try dsimp only at hSw); first | (go_simp; done) | (go_simp; with_reducible rfl)); done); (try simp only [Act.put, List.setIfInBounds_toArray, List.set_cons_zero, List.set_cons_succ])))
            (try simp only [Act.put, List.setIfInBounds_toArray, List.set_cons_zero, List.set_cons_succ])
            (first | (refine take_held (i := 6) (d := (some 54)) (v := ?_) rfl rfl (by kernel_rfl) (by kernel_rfl) (by kernel_rfl) (fun _ _ _ h => h) (Or.inl ⟨by rfl, ?_⟩) (by assumption) ?_; rotate_left 1; focus ((intro w hSw; (try dsimp only at hSw); first | (go_simp; done) | (go_simp; with_reducible rfl)); done); (try simp only [Act.put, List.setIfInBounds_toArray, List.set_cons_zero, List.set_cons_succ])))
            (try simp only [Act.put, List.setIfInBounds_toArray, List.set_cons_zero, List.set_cons_succ])
            (first | (refine take_held (i := 7) (d := (some 55)) (v := ?_) rfl rfl (by kernel_rfl) (by kernel_rfl) (by kernel_rfl) (fun _ _ _ h => h) (Or.inl ⟨by rfl, ?_⟩) (by assumption) ?_; rotate_left 1; focus ((intro w hSw; (try dsimp only at hSw); first | (go_simp; done) | (go_simp; with_reducible rfl)); done); (try simp only [Act.put, List.setIfInBounds_toArray, List.set_cons_zero, List.set_cons_succ])))
            (try simp only [Act.put, List.setIfInBounds_toArray, List.set_cons_zero, List.set_cons_succ])
            (first | (refine take_held (i := 8) (d := (some 56)) (v := ?_) rfl rfl (by kernel_rfl) (by kernel_rfl) (by kernel_rfl) (fun _ _ _ h => h) (Or.inl ⟨by rfl, ?_⟩) (by assumption) ?_; rotate_left 1; focus ((intro w hSw; (try dsimp only at hSw); first | (go_simp; done) | (go_simp; with_reducible rfl)); done); (try simp only [Act.put, List.setIfInBounds_toArray, List.set_cons_zero, List.set_cons_succ])))
            (try simp only [Act.put, List.setIfInBounds_toArray, List.set_cons_zero, List.set_cons_succ])
            (first | (refine take_held (i := 9) (d := (some 57)) (v := ?_) rfl rfl (by kernel_rfl) (by kernel_rfl) (by kernel_rfl) (fun _ _ _ h => h) (Or.inl ⟨by rfl, ?_⟩) (by assumption) ?_; rotate_left 1; focus ((intro w hSw; (try dsimp only at hSw); first | (go_simp; done) | (go_simp; with_reducible rfl)); done); (try simp only [Act.put, List.setIfInBounds_toArray, List.set_cons_zero, List.set_cons_succ])))
            (try simp only [Act.put, List.setIfInBounds_toArray, List.set_cons_zero, List.set_cons_succ])
            (first | (refine take_held (i := 10) (d := (some 58)) (v := ?_) rfl rfl (by kernel_rfl) (by kernel_rfl) (by kernel_rfl) (fun _ _ _ h => h) (Or.inl ⟨by rfl, ?_⟩) (by assumption) ?_; rotate_left 1; focus ((intro w hSw; (try dsimp only at hSw); first | (go_simp; done) | (go_simp; with_reducible rfl)); done); (try simp only [Act.put, List.setIfInBounds_toArray, List.set_cons_zero, List.set_cons_succ])))
            (try simp only [Act.put, List.setIfInBounds_toArray, List.set_cons_zero, List.set_cons_succ])
            (first
              | (refine wpAnyH_ready (rs := [11]) (by kernel_rfl) (by simp) ?_; refine AllReadyH.cons (o := _) rfl (fun K hK => ?_) AllReadyH.nil; go_simp; (go_at_call 13; refine (rwith_c more[i].f0 more[i].f1 (hX.below (And.left (by assumption))) (fx.below (And.left (by assumption))) (by have := HLEN.out; omega)).mono ?_; rintro e_ wA ⟨X2, e2, rfl, hX2, hbA⟩); (try go_wp2_with fail); refine hK.out _ _ (by (try dsimp only); ((refine and_of (fun hB_ => ⟨cell_up hB_ x0, cell_up hB_ x1, cell_up hB_ x2, cell_up hB_ x3, cell_up hB_ x4, cell_up hB_ x5⟩) ?_; first | (with_reducible exact (Below.refl _ _).drew) | (with_reducible exact below_call' (And.left (by assumption)) (by assumption)) | (with_reducible exact And.left (by assumption))))) ?_; clear hHeld hK K; intro hHeld; (try simp only [Act.put, List.setIfInBounds_toArray, List.set_cons_zero, List.set_cons_succ])))
            (first | (refine take_held (i := 12) (d := (some 8)) (v := ?_) rfl rfl (by kernel_rfl) (by kernel_rfl) (by kernel_rfl) (fun _ _ _ h => h) (Or.inl ⟨by rfl, ?_⟩) (by assumption) ?_; rotate_left 1; focus ((intro w hSw; (try dsimp only at hSw); first | (go_simp; done) | (go_simp; with_reducible rfl)); done); (try simp only [Act.put, List.setIfInBounds_toArray, List.set_cons_zero, List.set_cons_succ])))
            (try simp only [Act.put, List.setIfInBounds_toArray, List.set_cons_zero, List.set_cons_succ])
            (try simp only [Act.put, List.setIfInBounds_toArray, List.set_cons_zero, List.set_cons_succ])
            refine wpAnyH_done (by kernel_rfl) ?_ _
            have hbR := below_call' (And.left hHeld) (Below.refl _ _)
            exact hmain.out _ _ _ hbR hX2
          intro w2 X2 e2 hb2 hX2
          have b_7 := chain b_6 hb2
          replace hX := hX.below hb2
          replace hM := hM.below hb2
          replace fx := fx.below hb2
          replace hq2 := hq2.below hb2
          clear b_6
          clear hb2 hX x0 x1 x2 x3 x4 x5 fx
          rw [← HN.out] at hX2
          rw [← HR.out] at hq2
          have HLEN2 : Aside0 ((l ++ more.take (i + 1)).length ≤ 101) := ⟨by rw [HN.out]; have := HLEN.out; simp only [List.length_append, List.length_cons, List.length_nil] at this ⊢; omega⟩
          have hn2 : L1.length + 1 = (l ++ more.take (i + 1)).length := by rw [HN.out]; simp
          rw [hn2]
          clear hn2
          have hrl : (l ++ more.take (i + 1)).reverse.length = (l ++ more.take (i + 1)).length := List.length_reverse
          have HRL := Aside0.mk hrl
          clear hrl
          generalize hL2 : l ++ more.take (i + 1) = L2 at hX2 hq2 es HLEN2 HRL HN HR ⊢
          have HL2 := Aside0.mk hL2
          clear hL2
          go_wp2_with fail
          refine (find_c2 s hq2 (by rw [HRL.out]; have := HLEN2.out; omega)).mono ?_
          rintro e_ w3 ⟨U3, d3, U4, d4, rfl, hu, hb⟩
          have b_8 := chain b_7 hb
          replace hM := hM.below hb
          replace hq2 := hq2.below hb
          replace hX2 := hX2.below hb
          clear b_7
          clear hb
          cases hfb : fb L2.reverse s with
          | true =>
            have kU := blk_new w3 (.cells #[.int .i64 (ft L2.reverse s).f0, .int .i64 (ft L2.reverse s).f1, .string (ft L2.reverse s).f2, .slice U3 (ft L2.reverse s).f3.length d3, .slice U4 (ft L2.reverse s).f4.length d4] 31)
            have hb := below_alloc1 w3 (.cells #[.int .i64 (ft L2.reverse s).f0, .int .i64 (ft L2.reverse s).f1, .string (ft L2.reverse s).f2, .slice U3 (ft L2.reverse s).f3.length d3, .slice U4 (ft L2.reverse s).f4.length d4] 31)
            have b_9 := chain b_8 hb
            replace hM := hM.below hb
            replace hq2 := hq2.below hb
            replace hX2 := hX2.below hb
            replace hu := hu.below hb
            clear b_8
            clear hb
            obtain ⟨⟨Uc0, Uc1, Uc2, Uc3, Uc4⟩, ⟨Uf0, Uf1, Uf2, Uf3, Uf4⟩, Ul⟩ := five kU
            go_wp2_with fail
            refine (rfind_c s hX2 (by have := HLEN2.out; omega)).mono ?_
            rintro e_ w4 ⟨V3, g3, V4, g4, rfl, hv, hb⟩
            rw [hfb]
            clear Uc0 Uc1 Uc2 Uc3 Uc4 Uf0 Uf1 Uf2 Uf3 Uf4 Ul
            have b_10 := chain b_9 hb
            replace kU := blk_below kU hb
            replace hM := hM.below hb
            replace hq2 := hq2.below hb
            replace hX2 := hX2.below hb
            replace hu := hu.below hb
            clear b_9
            clear hb
            have kV := blk_new w4 (.cells #[.int .i64 (ft L2.reverse s).f0, .int .i64 (ft L2.reverse s).f1, .string (ft L2.reverse s).f2, .slice V3 (ft L2.reverse s).f3.length g3, .slice V4 (ft L2.reverse s).f4.length g4] 31)
            have hb := below_alloc1 w4 (.cells #[.int .i64 (ft L2.reverse s).f0, .int .i64 (ft L2.reverse s).f1, .string (ft L2.reverse s).f2, .slice V3 (ft L2.reverse s).f3.length g3, .slice V4 (ft L2.reverse s).f4.length g4] 31)
            have b_11 := chain b_10 hb
            replace kU := blk_below kU hb
            replace hM := hM.below hb
            replace hq2 := hq2.below hb
            replace hX2 := hX2.below hb
            replace hu := hu.below hb
            replace hv := hv.below hb
            clear b_10
            clear hb
            have HFB := Aside0.mk hfb
            clear hfb
            obtain ⟨⟨Uc0, Uc1, Uc2, Uc3, Uc4⟩, ⟨Uf0, Uf1, Uf2, Uf3, Uf4⟩, Ul⟩ := five kU
            obtain ⟨⟨Vc0, Vc1, Vc2, Vc3, Vc4⟩, ⟨Vf0, Vf1, Vf2, Vf3, Vf4⟩, Vl⟩ := five kV
            go_wp2_with fail
            refine (rsame_c (ft L2.reverse s) (ft L2.reverse s) ks true es hu hv).mono ?_
            rintro e_ w_ ⟨rfl, hb⟩
            clear Uc0 Uc1 Uc2 Uc3 Uc4 Uf0 Uf1 Uf2 Uf3 Uf4 Ul Vc0 Vc1 Vc2 Vc3 Vc4 Vf0 Vf1 Vf2 Vf3 Vf4 Vl
            have b_12 := chain b_11 hb
            replace kU := blk_below kU hb
            replace kV := blk_below kV hb
            replace hM := hM.below hb
            replace hq2 := hq2.below hb
            replace hX2 := hX2.below hb
            replace hu := hu.below hb
            replace hv := hv.below hb
            clear b_11
            clear hb
            obtain ⟨⟨Uc0, Uc1, Uc2, Uc3, Uc4⟩, ⟨Uf0, Uf1, Uf2, Uf3, Uf4⟩, Ul⟩ := five kU
            obtain ⟨⟨Vc0, Vc1, Vc2, Vc3, Vc4⟩, ⟨Vf0, Vf1, Vf2, Vf3, Vf4⟩, Vl⟩ := five kV
            go_wp2_with fail
            refine (len_c hq2).mono ?_
            rintro e_ w_ ⟨rfl, rfl⟩
            rw [HRL.out]
            go_wp2
            go_roundg k1
            case measure => omega
            case rel => exact ⟨i + 1, q2, X2, e2, rfl, by rw [HL2.out], (by first | rfl | (simp; done) | (push_cast; rfl)), by have := HK.out; omega, by rw [HL2.out]; exact hq2, by rw [HL2.out]; exact hX2, hM, b_12⟩
          | false =>
            have kU := blk_new w3 (.cells #[.int .i64 (ft L2.reverse s).f0, .int .i64 (ft L2.reverse s).f1, .string (ft L2.reverse s).f2, .slice U3 (ft L2.reverse s).f3.length d3, .slice U4 (ft L2.reverse s).f4.length d4] 31)
            have hb := below_alloc1 w3 (.cells #[.int .i64 (ft L2.reverse s).f0, .int .i64 (ft L2.reverse s).f1, .string (ft L2.reverse s).f2, .slice U3 (ft L2.reverse s).f3.length d3, .slice U4 (ft L2.reverse s).f4.length d4] 31)
            have b_13 := chain b_8 hb
            replace hM := hM.below hb
            replace hq2 := hq2.below hb
            replace hX2 := hX2.below hb
            replace hu := hu.below hb
            clear b_8
            clear hb
            obtain ⟨⟨Uc0, Uc1, Uc2, Uc3, Uc4⟩, ⟨Uf0, Uf1, Uf2, Uf3, Uf4⟩, Ul⟩ := five kU
            go_wp2_with fail
            refine (rfind_c s hX2 (by have := HLEN2.out; omega)).mono ?_
            rintro e_ w4 ⟨V3, g3, V4, g4, rfl, hv, hb⟩
            rw [hfb]
            clear Uc0 Uc1 Uc2 Uc3 Uc4 Uf0 Uf1 Uf2 Uf3 Uf4 Ul
            have b_14 := chain b_13 hb
            replace kU := blk_below kU hb
            replace hM := hM.below hb
            replace hq2 := hq2.below hb
            replace hX2 := hX2.below hb
            replace hu := hu.below hb
            clear b_13
            clear hb
            have kV := blk_new w4 (.cells #[.int .i64 (ft L2.reverse s).f0, .int .i64 (ft L2.reverse s).f1, .string (ft L2.reverse s).f2, .slice V3 (ft L2.reverse s).f3.length g3, .slice V4 (ft L2.reverse s).f4.length g4] 31)
            have hb := below_alloc1 w4 (.cells #[.int .i64 (ft L2.reverse s).f0, .int .i64 (ft L2.reverse s).f1, .string (ft L2.reverse s).f2, .slice V3 (ft L2.reverse s).f3.length g3, .slice V4 (ft L2.reverse s).f4.length g4] 31)
            have b_15 := chain b_14 hb
            replace kU := blk_below kU hb
            replace hM := hM.below hb
            replace hq2 := hq2.below hb
            replace hX2 := hX2.below hb
            replace hu := hu.below hb
            replace hv := hv.below hb
            clear b_14
            clear hb
            have HFB := Aside0.mk hfb
            clear hfb
            obtain ⟨⟨Uc0, Uc1, Uc2, Uc3, Uc4⟩, ⟨Uf0, Uf1, Uf2, Uf3, Uf4⟩, Ul⟩ := five kU
            obtain ⟨⟨Vc0, Vc1, Vc2, Vc3, Vc4⟩, ⟨Vf0, Vf1, Vf2, Vf3, Vf4⟩, Vl⟩ := five kV
            go_wp2_with fail
            refine (rsame_c (ft L2.reverse s) (ft L2.reverse s) ks true es hu hv).mono ?_
            rintro e_ w_ ⟨rfl, hb⟩
            clear Uc0 Uc1 Uc2 Uc3 Uc4 Uf0 Uf1 Uf2 Uf3 Uf4 Ul Vc0 Vc1 Vc2 Vc3 Vc4 Vf0 Vf1 Vf2 Vf3 Vf4 Vl
            have b_16 := chain b_15 hb
            replace kU := blk_below kU hb
            replace kV := blk_below kV hb
            replace hM := hM.below hb
            replace hq2 := hq2.below hb
            replace hX2 := hX2.below hb
            replace hu := hu.below hb
            replace hv := hv.below hb
            clear b_15
            clear hb
            obtain ⟨⟨Uc0, Uc1, Uc2, Uc3, Uc4⟩, ⟨Uf0, Uf1, Uf2, Uf3, Uf4⟩, Ul⟩ := five kU
            obtain ⟨⟨Vc0, Vc1, Vc2, Vc3, Vc4⟩, ⟨Vf0, Vf1, Vf2, Vf3, Vf4⟩, Vl⟩ := five kV
            go_wp2_with fail
            refine (len_c hq2).mono ?_
            rintro e_ w_ ⟨rfl, rfl⟩
            rw [HRL.out]
            go_wp2
            go_roundg k1
            case measure => omega
            case rel => exact ⟨i + 1, q2, X2, e2, rfl, by rw [HL2.out], (by first | rfl | (simp; done) | (push_cast; rfl)), by have := HK.out; omega, by rw [HL2.out]; exact hq2, by rw [HL2.out]; exact hX2, hM, b_16⟩
        · have cn : decide ((i : Int) < (more.length : Int)) = false := decide_eq_false (by omega)
          obtain ⟨ks, es⟩ := HS.out i
          rw [HL1.out] at es
          have hol : ∀ y, y ∈ L1 → Okt y.f1 := fun y hy => by rw [← HL1.out] at hy; rcases List.mem_append.1 hy with h | h; exact ho y h; exact hmo y (List.mem_of_mem_take h)
          have HOL := Aside0.mk hol
          have hrl : L1.reverse.length = L1.length := List.length_reverse
          have HRL := Aside0.mk hrl
          clear hrl hol ho hmo hk HS
          go_wp2_with fail
          refine (find_c2 s hq (by rw [HRL.out]; have := HLEN.out; omega)).mono ?_
          rintro e_ w3 ⟨U3, d3, U4, d4, rfl, hu, hb⟩
          have b_17 := chain b0 hb
          replace hq := hq.below hb
          replace hX := hX.below hb
          clear b0
          clear hb
          cases hfb : fb L1.reverse s with
          | true =>
            have kU := blk_new w3 (.cells #[.int .i64 (ft L1.reverse s).f0, .int .i64 (ft L1.reverse s).f1, .string (ft L1.reverse s).f2, .slice U3 (ft L1.reverse s).f3.length d3, .slice U4 (ft L1.reverse s).f4.length d4] 31)
            have hb := below_alloc1 w3 (.cells #[.int .i64 (ft L1.reverse s).f0, .int .i64 (ft L1.reverse s).f1, .string (ft L1.reverse s).f2, .slice U3 (ft L1.reverse s).f3.length d3, .slice U4 (ft L1.reverse s).f4.length d4] 31)
            have b_18 := chain b_17 hb
            replace hq := hq.below hb
            replace hX := hX.below hb
            replace hu := hu.below hb
            clear b_17
            clear hb
            obtain ⟨⟨Uc0, Uc1, Uc2, Uc3, Uc4⟩, ⟨Uf0, Uf1, Uf2, Uf3, Uf4⟩, Ul⟩ := five kU
            go_wp2_with fail
            refine (rfind_c s hX (by have := HLEN.out; omega)).mono ?_
            rintro e_ w4 ⟨V3, g3, V4, g4, rfl, hv, hb⟩
            rw [hfb]
            clear Uc0 Uc1 Uc2 Uc3 Uc4 Uf0 Uf1 Uf2 Uf3 Uf4 Ul
            have b_19 := chain b_18 hb
            replace kU := blk_below kU hb
            replace hq := hq.below hb
            replace hX := hX.below hb
            replace hu := hu.below hb
            clear b_18
            clear hb
            have kV := blk_new w4 (.cells #[.int .i64 (ft L1.reverse s).f0, .int .i64 (ft L1.reverse s).f1, .string (ft L1.reverse s).f2, .slice V3 (ft L1.reverse s).f3.length g3, .slice V4 (ft L1.reverse s).f4.length g4] 31)
            have hb := below_alloc1 w4 (.cells #[.int .i64 (ft L1.reverse s).f0, .int .i64 (ft L1.reverse s).f1, .string (ft L1.reverse s).f2, .slice V3 (ft L1.reverse s).f3.length g3, .slice V4 (ft L1.reverse s).f4.length g4] 31)
            have b_20 := chain b_19 hb
            replace kU := blk_below kU hb
            replace hq := hq.below hb
            replace hX := hX.below hb
            replace hu := hu.below hb
            replace hv := hv.below hb
            clear b_19
            clear hb
            have HFB := Aside0.mk hfb
            clear hfb
            obtain ⟨⟨Uc0, Uc1, Uc2, Uc3, Uc4⟩, ⟨Uf0, Uf1, Uf2, Uf3, Uf4⟩, Ul⟩ := five kU
            obtain ⟨⟨Vc0, Vc1, Vc2, Vc3, Vc4⟩, ⟨Vf0, Vf1, Vf2, Vf3, Vf4⟩, Vl⟩ := five kV
            go_wp2_with fail
            refine (rsame_c (ft L1.reverse s) (ft L1.reverse s) ks true es hu hv).mono ?_
            rintro e_ w_ ⟨rfl, hb⟩
            clear Uc0 Uc1 Uc2 Uc3 Uc4 Uf0 Uf1 Uf2 Uf3 Uf4 Ul Vc0 Vc1 Vc2 Vc3 Vc4 Vf0 Vf1 Vf2 Vf3 Vf4 Vl
            have b_21 := chain b_20 hb
            replace kU := blk_below kU hb
            replace kV := blk_below kV hb
            replace hq := hq.below hb
            replace hX := hX.below hb
            replace hu := hu.below hb
            replace hv := hv.below hb
            clear b_20
            clear hb
            obtain ⟨⟨Uc0, Uc1, Uc2, Uc3, Uc4⟩, ⟨Uf0, Uf1, Uf2, Uf3, Uf4⟩, Ul⟩ := five kU
            obtain ⟨⟨Vc0, Vc1, Vc2, Vc3, Vc4⟩, ⟨Vf0, Vf1, Vf2, Vf3, Vf4⟩, Vl⟩ := five kV
            go_wp2_with fail
            refine (all_c hq (by rw [HRL.out]; have := HLEN.out; omega)).mono ?_
            rintro e_ w_ ⟨A5, c5, rfl, hc5, hr5, hb⟩
            rw [List.reverse_reverse] at hr5
            rw [HRL.out] at hr5 hc5 ⊢
            have hR5 := RX.of hr5 hc5
            clear hr5 hc5
            clear Uc0 Uc1 Uc2 Uc3 Uc4 Uf0 Uf1 Uf2 Uf3 Uf4 Ul Vc0 Vc1 Vc2 Vc3 Vc4 Vf0 Vf1 Vf2 Vf3 Vf4 Vl
            have b_22 := chain b_21 hb
            replace kU := blk_below kU hb
            replace kV := blk_below kV hb
            replace hq := hq.below hb
            replace hX := hX.below hb
            replace hu := hu.below hb
            replace hv := hv.below hb
            clear b_21
            clear hb
            obtain ⟨⟨Uc0, Uc1, Uc2, Uc3, Uc4⟩, ⟨Uf0, Uf1, Uf2, Uf3, Uf4⟩, Ul⟩ := five kU
            obtain ⟨⟨Vc0, Vc1, Vc2, Vc3, Vc4⟩, ⟨Vf0, Vf1, Vf2, Vf3, Vf4⟩, Vl⟩ := five kV
            go_wp2_with fail
            refine (same9_c L1 (by have := HLEN.out; omega) HOL.out hR5.c hR5.le hX.c hX.le).mono ?_
            rintro e_ w_ ⟨rfl, hb⟩
            clear Uc0 Uc1 Uc2 Uc3 Uc4 Uf0 Uf1 Uf2 Uf3 Uf4 Ul Vc0 Vc1 Vc2 Vc3 Vc4 Vf0 Vf1 Vf2 Vf3 Vf4 Vl
            have b_23 := chain b_22 hb
            replace kU := blk_below kU hb
            replace kV := blk_below kV hb
            replace hq := hq.below hb
            replace hX := hX.below hb
            replace hu := hu.below hb
            replace hv := hv.below hb
            replace hR5 := hR5.below hb
            clear b_22
            clear hb
            obtain ⟨⟨Uc0, Uc1, Uc2, Uc3, Uc4⟩, ⟨Uf0, Uf1, Uf2, Uf3, Uf4⟩, Ul⟩ := five kU
            obtain ⟨⟨Vc0, Vc1, Vc2, Vc3, Vc4⟩, ⟨Vf0, Vf1, Vf2, Vf3, Vf4⟩, Vl⟩ := five kV
            go_wp2_with fail
            refine (awake_c _).mono ?_
            rintro e_ w_ ⟨rfl, hb⟩
            clear Uc0 Uc1 Uc2 Uc3 Uc4 Uf0 Uf1 Uf2 Uf3 Uf4 Ul Vc0 Vc1 Vc2 Vc3 Vc4 Vf0 Vf1 Vf2 Vf3 Vf4 Vl
            have b_24 := chain b_23 hb
            replace kU := blk_below kU hb
            replace kV := blk_below kV hb
            replace hq := hq.below hb
            replace hX := hX.below hb
            replace hu := hu.below hb
            replace hv := hv.below hb
            replace hR5 := hR5.below hb
            clear b_23
            clear hb
            obtain ⟨⟨Uc0, Uc1, Uc2, Uc3, Uc4⟩, ⟨Uf0, Uf1, Uf2, Uf3, Uf4⟩, Ul⟩ := five kU
            obtain ⟨⟨Vc0, Vc1, Vc2, Vc3, Vc4⟩, ⟨Vf0, Vf1, Vf2, Vf3, Vf4⟩, Vl⟩ := five kV
            go_wp2
            go_ret
            exact ⟨rfl, b_24⟩
          | false =>
            have kU := blk_new w3 (.cells #[.int .i64 (ft L1.reverse s).f0, .int .i64 (ft L1.reverse s).f1, .string (ft L1.reverse s).f2, .slice U3 (ft L1.reverse s).f3.length d3, .slice U4 (ft L1.reverse s).f4.length d4] 31)
            have hb := below_alloc1 w3 (.cells #[.int .i64 (ft L1.reverse s).f0, .int .i64 (ft L1.reverse s).f1, .string (ft L1.reverse s).f2, .slice U3 (ft L1.reverse s).f3.length d3, .slice U4 (ft L1.reverse s).f4.length d4] 31)
            have b_25 := chain b_17 hb
            replace hq := hq.below hb
            replace hX := hX.below hb
            replace hu := hu.below hb
            clear b_17
            clear hb
            obtain ⟨⟨Uc0, Uc1, Uc2, Uc3, Uc4⟩, ⟨Uf0, Uf1, Uf2, Uf3, Uf4⟩, Ul⟩ := five kU
            go_wp2_with fail
            refine (rfind_c s hX (by have := HLEN.out; omega)).mono ?_
            rintro e_ w4 ⟨V3, g3, V4, g4, rfl, hv, hb⟩
            rw [hfb]
            clear Uc0 Uc1 Uc2 Uc3 Uc4 Uf0 Uf1 Uf2 Uf3 Uf4 Ul
            have b_26 := chain b_25 hb
            replace kU := blk_below kU hb
            replace hq := hq.below hb
            replace hX := hX.below hb
            replace hu := hu.below hb
            clear b_25
            clear hb
            have kV := blk_new w4 (.cells #[.int .i64 (ft L1.reverse s).f0, .int .i64 (ft L1.reverse s).f1, .string (ft L1.reverse s).f2, .slice V3 (ft L1.reverse s).f3.length g3, .slice V4 (ft L1.reverse s).f4.length g4] 31)
            have hb := below_alloc1 w4 (.cells #[.int .i64 (ft L1.reverse s).f0, .int .i64 (ft L1.reverse s).f1, .string (ft L1.reverse s).f2, .slice V3 (ft L1.reverse s).f3.length g3, .slice V4 (ft L1.reverse s).f4.length g4] 31)
            have b_27 := chain b_26 hb
            replace kU := blk_below kU hb
            replace hq := hq.below hb
            replace hX := hX.below hb
            replace hu := hu.below hb
            replace hv := hv.below hb
            clear b_26
            clear hb
            have HFB := Aside0.mk hfb
            clear hfb
            obtain ⟨⟨Uc0, Uc1, Uc2, Uc3, Uc4⟩, ⟨Uf0, Uf1, Uf2, Uf3, Uf4⟩, Ul⟩ := five kU
            obtain ⟨⟨Vc0, Vc1, Vc2, Vc3, Vc4⟩, ⟨Vf0, Vf1, Vf2, Vf3, Vf4⟩, Vl⟩ := five kV
            go_wp2_with fail
            refine (rsame_c (ft L1.reverse s) (ft L1.reverse s) ks true es hu hv).mono ?_
            rintro e_ w_ ⟨rfl, hb⟩
            clear Uc0 Uc1 Uc2 Uc3 Uc4 Uf0 Uf1 Uf2 Uf3 Uf4 Ul Vc0 Vc1 Vc2 Vc3 Vc4 Vf0 Vf1 Vf2 Vf3 Vf4 Vl
            have b_28 := chain b_27 hb
            replace kU := blk_below kU hb
            replace kV := blk_below kV hb
            replace hq := hq.below hb
            replace hX := hX.below hb
            replace hu := hu.below hb
            replace hv := hv.below hb
            clear b_27
            clear hb
            obtain ⟨⟨Uc0, Uc1, Uc2, Uc3, Uc4⟩, ⟨Uf0, Uf1, Uf2, Uf3, Uf4⟩, Ul⟩ := five kU
            obtain ⟨⟨Vc0, Vc1, Vc2, Vc3, Vc4⟩, ⟨Vf0, Vf1, Vf2, Vf3, Vf4⟩, Vl⟩ := five kV
            go_wp2_with fail
            refine (all_c hq (by rw [HRL.out]; have := HLEN.out; omega)).mono ?_
            rintro e_ w_ ⟨A5, c5, rfl, hc5, hr5, hb⟩
            rw [List.reverse_reverse] at hr5
            rw [HRL.out] at hr5 hc5 ⊢
            have hR5 := RX.of hr5 hc5
            clear hr5 hc5
            clear Uc0 Uc1 Uc2 Uc3 Uc4 Uf0 Uf1 Uf2 Uf3 Uf4 Ul Vc0 Vc1 Vc2 Vc3 Vc4 Vf0 Vf1 Vf2 Vf3 Vf4 Vl
            have b_29 := chain b_28 hb
            replace kU := blk_below kU hb
            replace kV := blk_below kV hb
            replace hq := hq.below hb
            replace hX := hX.below hb
            replace hu := hu.below hb
            replace hv := hv.below hb
            clear b_28
            clear hb
            obtain ⟨⟨Uc0, Uc1, Uc2, Uc3, Uc4⟩, ⟨Uf0, Uf1, Uf2, Uf3, Uf4⟩, Ul⟩ := five kU
            obtain ⟨⟨Vc0, Vc1, Vc2, Vc3, Vc4⟩, ⟨Vf0, Vf1, Vf2, Vf3, Vf4⟩, Vl⟩ := five kV
            go_wp2_with fail
            refine (same9_c L1 (by have := HLEN.out; omega) HOL.out hR5.c hR5.le hX.c hX.le).mono ?_
            rintro e_ w_ ⟨rfl, hb⟩
            clear Uc0 Uc1 Uc2 Uc3 Uc4 Uf0 Uf1 Uf2 Uf3 Uf4 Ul Vc0 Vc1 Vc2 Vc3 Vc4 Vf0 Vf1 Vf2 Vf3 Vf4 Vl
            have b_30 := chain b_29 hb
            replace kU := blk_below kU hb
            replace kV := blk_below kV hb
            replace hq := hq.below hb
            replace hX := hX.below hb
            replace hu := hu.below hb
            replace hv := hv.below hb
            replace hR5 := hR5.below hb
            clear b_29
            clear hb
            obtain ⟨⟨Uc0, Uc1, Uc2, Uc3, Uc4⟩, ⟨Uf0, Uf1, Uf2, Uf3, Uf4⟩, Ul⟩ := five kU
            obtain ⟨⟨Vc0, Vc1, Vc2, Vc3, Vc4⟩, ⟨Vf0, Vf1, Vf2, Vf3, Vf4⟩, Vl⟩ := five kV
            go_wp2_with fail
            refine (awake_c _).mono ?_
            rintro e_ w_ ⟨rfl, hb⟩
            clear Uc0 Uc1 Uc2 Uc3 Uc4 Uf0 Uf1 Uf2 Uf3 Uf4 Ul Vc0 Vc1 Vc2 Vc3 Vc4 Vf0 Vf1 Vf2 Vf3 Vf4 Vl
            have b_31 := chain b_30 hb
            replace kU := blk_below kU hb
            replace kV := blk_below kV hb
            replace hq := hq.below hb
            replace hX := hX.below hb
            replace hu := hu.below hb
            replace hv := hv.below hb
            replace hR5 := hR5.below hb
            clear b_30
            clear hb
            obtain ⟨⟨Uc0, Uc1, Uc2, Uc3, Uc4⟩, ⟨Uf0, Uf1, Uf2, Uf3, Uf4⟩, Ul⟩ := five kU
            obtain ⟨⟨Vc0, Vc1, Vc2, Vc3, Vc4⟩, ⟨Vf0, Vf1, Vf2, Vf3, Vf4⟩, Vl⟩ := five kV
            go_wp2
            go_ret
            exact ⟨rfl, b_31⟩
end Go.Proofs.Ytalmhbiedkjpmaa.PCtxPlays
