/-
  SitesStay: texts of this claim, put together by a program of this session. No conditions beyond what each lemma says.
-/
import Derived.Test.YtlenfmnkbepoiaazSitesStay19
namespace Go.Proofs.Ytlenfmnkbepoiaa.PSitesTell
open Go.RowKit Go.Proofs.YtlenfmnkbepoiaaW.Mine Go.Proofs.YtlenfmnkbepoiaaW.PrintWords Go.Proofs.YtlenfmnkbepoiaaW.PrintLast Go.Proofs.YtlenfmnkbepoiaaW.PrintMore
attribute [local go_sem] max2_int min2_int max_two min_two max_three min_three max_four min_four
set_option linter.unusedVariables false
set_option linter.unusedSimpArgs false
/-- A number comes. -/
def NOut (w : World) (e : Ending) (w' : World) : Prop := ∃ r : Int, e = .returned (.int .i64 r) ∧ Below w.heap.size w w'
theorem wrap_ok {i : Int} (h0 : -9223372036854775808 ≤ i) (h1 : i ≤ 9223372036854775807) : wrap64 i = i := by unfold wrap64; omega
theorem blk_up {w w' : World} {g : Nat} {o : Obj} (hb : Below w.heap.size w w') (h : w.heap[g]? = some o) : w'.heap[g]? = some o := (hb.block g (Array.getElem?_eq_some_iff.1 h).1).trans h
def MuchT (x : Ty) : Prop := ∀ (A3 : Option Addr) (c3 : Nat) (A4 : Option Addr) (c4 : Nat) (w : World), RT w x A3 c3 A4 c4 → Calls Try.prog 11 #[tv x A3 c3 A4 c4] w (NOut w)
def MuchE (x : Ex) : Prop := ∀ (A4 : Option Addr) (c4 : Nat) (A5 : Option Addr) (c5 : Nat) (A6 : Option Addr) (c6 : Nat) (w : World), RE w x A4 c4 A5 c5 A6 c6 → Calls Try.prog 39 #[ev x A4 c4 A5 c5 A6 c6] w (NOut w)
set_option maxHeartbeats 8000000 in
set_option maxRecDepth 100000 in
theorem mucht_one (x : Ty) (o : Okt x) (hs : ∀ y, y ∈ x.f4 → MuchT y) : MuchT x := by
  intro A3 c3 A4 c4 w hA
  have l3 := o.l3
  have l4 := o.l80
  have HS := Aside0.mk hs
  have kP := blk_new w (.cells (tarr x A3 c3 A4 c4) 26)
  have b0 := below_alloc1 w (.cells (tarr x A3 c3 A4 c4) 26)
  replace hA := hA.below b0
  obtain ⟨⟨p0, p1, p2, p3, p4⟩, -, lp⟩ := five kP
  clear o hs
  go_enter Try.func11, Try.ntmps11
  go_wp2_with fail
  go_loopg [3, 4] x.f3.length (fun kq vn vi w' => ∃ (i : Nat) (n : Int), vn = .int .i64 n ∧ vi = .int .i64 i ∧ kq + i = x.f3.length ∧ Below (w.alloc (.cells (tarr x A3 c3 A4 c4) 26)).heap.size (w.alloc (.cells (tarr x A3 c3 A4 c4) 26)) w')
  case atStart => exact ⟨0, _, rfl, rfl, rfl, Below.refl _ _⟩
  case round =>
    obtain ⟨i, n, rfl, rfl, hk, br⟩ := hrel
    have BR := Aside0.mk br
    replace kP := blk_up br kP
    replace hA := hA.below br
    have b0xxxx := chain b0 br
    clear p0 p1 p2 p3 p4 lp b0 br
    obtain ⟨⟨p0, p1, p2, p3, p4⟩, -, lp⟩ := five kP
    by_cases hi : i < x.f3.length ∧ (i : Int) < 1000
    · obtain ⟨hi, hn⟩ := hi
      obtain ⟨k1, rfl⟩ : ∃ k1, gk = k1 + 1 := ⟨gk - 1, by omega⟩
      have ci : decide ((i : Int) < (x.f3.length : Int)) = true := decide_eq_true (by omega)
      have ci2 : decide (i < x.f3.length) = true := decide_eq_true hi
      have cn : decide ((i : Int) < 1000) = true := decide_eq_true hn
      have cn2 : decide (i < 1000) = true := decide_eq_true (by omega)
      have i0 : (0 : Int) ≤ (i : Int) := by omega
      have i1 : (i : Int) < (x.f3.length : Int) := by omega
      obtain ⟨ad, hE, y0⟩ := selt hA.2.1 i hi
      subst hE
      have HK := Aside0.mk hk
      have BE := BR.out
      clear hk
      have hw2 : wrap64 ((i : Int) + 1) = (i : Int) + 1 := wrap_ok (by omega) (by have := i1; have := i1; omega)
      go_wp2
      go_roundg k1
      case measure => omega
      case rel => exact ⟨i + 1, _, rfl, (by first | rfl | (simp; done) | (push_cast; rfl)), by have := HK.out; omega, BE⟩
    · have hx : (decide ((i : Int) < (x.f3.length : Int)) = false ∧ decide (i < x.f3.length) = false) ∨ (decide ((i : Int) < (x.f3.length : Int)) = true ∧ decide (i < x.f3.length) = true ∧ decide ((i : Int) < 1000) = false ∧ decide (i < 1000) = false) := by
        by_cases h1 : i < x.f3.length
        · have h2 : ¬ (i : Int) < 1000 := fun h => hi ⟨h1, h⟩
          exact .inr ⟨decide_eq_true (by omega), decide_eq_true h1, decide_eq_false h2, decide_eq_false (by omega)⟩
        · exact .inl ⟨decide_eq_false (by omega), decide_eq_false h1⟩
      clear hi hk BR
      rcases hx with ⟨x1, x2⟩ | ⟨x1, x2, x3, x4⟩
      all_goals (
        go_wp2_with fail
        generalize wr = w4_ at *
        go_loopg [3, 5] x.f4.length (fun kq vn vi w' => ∃ (i : Nat) (n : Int), vn = .int .i64 n ∧ vi = .int .i64 i ∧ kq + i = x.f4.length ∧ Below w4_.heap.size w4_ w')
        case atStart => exact ⟨0, _, rfl, rfl, rfl, Below.refl _ _⟩
        case round =>
          obtain ⟨i, n, rfl, rfl, hk, br⟩ := hrel
          have BR := Aside0.mk br
          replace kP := blk_up br kP
          replace hA := hA.below br
          have b0xxxxx := chain b0xxxx br
          clear p0 p1 p2 p3 p4 lp b0xxxx br
          obtain ⟨⟨p0, p1, p2, p3, p4⟩, -, lp⟩ := five kP
          by_cases hi : i < x.f4.length ∧ n < 3000
          · obtain ⟨hi, hn⟩ := hi
            obtain ⟨k1, rfl⟩ : ∃ k1, gk = k1 + 1 := ⟨gk - 1, by omega⟩
            have ci : decide ((i : Int) < (x.f4.length : Int)) = true := decide_eq_true (by omega)
            have ci2 : decide (i < x.f4.length) = true := decide_eq_true hi
            have cn : decide (n < 3000) = true := decide_eq_true hn
            have i0 : (0 : Int) ≤ (i : Int) := by omega
            have i1 : (i : Int) < (x.f4.length : Int) := by omega
            have hm := List.getElem_mem hi
            obtain ⟨ad, X3, e3, X4, e4, hE, fx, y0, y1, y2, y3, y4⟩ := telt hA.2.2.2 i hi
            subst hE
            have HC := Aside0.mk (HS.out _ hm _ _ _ _ _ fx)
            have HK := Aside0.mk hk
            clear hk hm fx
            generalize x.f4[i] = z at *
            go_wp2_with fail
            refine HC.out.mono ?_
            rintro e_ w3 ⟨r, rfl, hb⟩
            have BE := chain BR.out hb
            replace kP := blk_up hb kP
            clear p0 p1 p2 p3 p4 lp y0 y1 y2 y3 y4 b0xxxxx
            obtain ⟨⟨p0, p1, p2, p3, p4⟩, -, lp⟩ := five kP
            have hw2 : wrap64 ((i : Int) + 1) = (i : Int) + 1 := wrap_ok (by omega) (by have := i1; have := i1; omega)
            go_wp2
            go_roundg k1
            case measure => omega
            case rel => exact ⟨i + 1, _, rfl, (by first | rfl | (simp; done) | (push_cast; rfl)), by have := HK.out; omega, BE⟩
          · have hx : (decide ((i : Int) < (x.f4.length : Int)) = false ∧ decide (i < x.f4.length) = false) ∨ (decide ((i : Int) < (x.f4.length : Int)) = true ∧ decide (i < x.f4.length) = true ∧ decide (n < 3000) = false) := by
              by_cases h1 : i < x.f4.length
              · have h2 : ¬ n < 3000 := fun h => hi ⟨h1, h⟩
                exact .inr ⟨decide_eq_true (by omega), decide_eq_true h1, decide_eq_false h2⟩
              · exact .inl ⟨decide_eq_false (by omega), decide_eq_false h1⟩
            clear hi hk BR
            rcases hx with ⟨x1, x2⟩ | ⟨x1, x2, x3⟩
            all_goals (
              go_wp2
              go_ret
              exact ⟨_, rfl, b0xxxxx⟩))
theorem mucht_n : ∀ (n : Nat) (x : Ty), SizeOf.sizeOf x < n → Okt x → MuchT x
  | 0, x, h, _ => absurd h (Nat.not_lt_zero _)
  | n + 1, x, h, ho => mucht_one x ho fun y hy => mucht_n n y (by have := size_args x y hy; omega) (ho.all y hy)
theorem mucht (x : Ty) (h : Okt x) : MuchT x := mucht_n _ x (Nat.lt_succ_self _) h
set_option maxHeartbeats 8000000 in
set_option maxRecDepth 100000 in
theorem muche_one (x : Ex) (o : Oke x) (hs : ∀ y, y ∈ x.f6 → MuchE y) : MuchE x := by
  intro A4 c4 A5 c5 A6 c6 w hA
  have l4 := o.l80
  have l5 := o.l5
  have l6 := o.l112
  have HS := Aside0.mk hs
  have ht : ∀ y, y ∈ x.f4 → MuchT y := fun y hy => mucht y (o.types y hy)
  have HT := Aside0.mk ht
  have kP := blk_new w (.cells (ecells x A4 c4 A5 c5 A6 c6) 31)
  have b0 := below_alloc1 w (.cells (ecells x A4 c4 A5 c5 A6 c6) 31)
  replace hA := hA.below b0
  obtain ⟨⟨p0, p1, p2, p3, p4, p5, p6⟩, -, lp⟩ := seven kP
  clear o hs ht
  go_enter Try.func39, Try.ntmps39
  go_wp2_with fail
  go_loopg [3, 4] x.f5.length (fun kq vn vi w' => ∃ (i : Nat) (n : Int), vn = .int .i64 n ∧ vi = .int .i64 i ∧ kq + i = x.f5.length ∧ Below (w.alloc (.cells (ecells x A4 c4 A5 c5 A6 c6) 31)).heap.size (w.alloc (.cells (ecells x A4 c4 A5 c5 A6 c6) 31)) w')
  case atStart => exact ⟨0, _, rfl, rfl, rfl, Below.refl _ _⟩
  case round =>
    obtain ⟨i, n, rfl, rfl, hk, br⟩ := hrel
    have BR := Aside0.mk br
    replace kP := blk_up br kP
    replace hA := hA.below br
    have b0xxxx := chain b0 br
    clear p0 p1 p2 p3 p4 p5 p6 lp b0 br
    obtain ⟨⟨p0, p1, p2, p3, p4, p5, p6⟩, -, lp⟩ := seven kP
    by_cases hi : i < x.f5.length ∧ (i : Int) < 1000
    · obtain ⟨hi, hn⟩ := hi
      obtain ⟨k1, rfl⟩ : ∃ k1, gk = k1 + 1 := ⟨gk - 1, by omega⟩
      have ci : decide ((i : Int) < (x.f5.length : Int)) = true := decide_eq_true (by omega)
      have ci2 : decide (i < x.f5.length) = true := decide_eq_true hi
      have cn : decide ((i : Int) < 1000) = true := decide_eq_true hn
      have cn2 : decide (i < 1000) = true := decide_eq_true (by omega)
      have i0 : (0 : Int) ≤ (i : Int) := by omega
      have i1 : (i : Int) < (x.f5.length : Int) := by omega
      obtain ⟨ad, hE, y0⟩ := selt hA.2.2.2.1 i hi
      subst hE
      have HK := Aside0.mk hk
      have BE := BR.out
      clear hk
      have hw2 : wrap64 ((i : Int) + 1) = (i : Int) + 1 := wrap_ok (by omega) (by have := i1; have := i1; omega)
      go_wp2
      go_roundg k1
      case measure => omega
      case rel => exact ⟨i + 1, _, rfl, (by first | rfl | (simp; done) | (push_cast; rfl)), by have := HK.out; omega, BE⟩
    · have hx : (decide ((i : Int) < (x.f5.length : Int)) = false ∧ decide (i < x.f5.length) = false) ∨ (decide ((i : Int) < (x.f5.length : Int)) = true ∧ decide (i < x.f5.length) = true ∧ decide ((i : Int) < 1000) = false ∧ decide (i < 1000) = false) := by
        by_cases h1 : i < x.f5.length
        · have h2 : ¬ (i : Int) < 1000 := fun h => hi ⟨h1, h⟩
          exact .inr ⟨decide_eq_true (by omega), decide_eq_true h1, decide_eq_false h2, decide_eq_false (by omega)⟩
        · exact .inl ⟨decide_eq_false (by omega), decide_eq_false h1⟩
      clear hi hk BR
      rcases hx with ⟨x1, x2⟩ | ⟨x1, x2, x3, x4⟩
      all_goals (
        go_wp2_with fail
        generalize wr = w4_ at *
        go_loopg [3, 5] x.f4.length (fun kq vn vi w' => ∃ (i : Nat) (n : Int), vn = .int .i64 n ∧ vi = .int .i64 i ∧ kq + i = x.f4.length ∧ Below w4_.heap.size w4_ w')
        case atStart => exact ⟨0, _, rfl, rfl, rfl, Below.refl _ _⟩
        case round =>
          obtain ⟨i, n, rfl, rfl, hk, br⟩ := hrel
          have BR := Aside0.mk br
          replace kP := blk_up br kP
          replace hA := hA.below br
          have b0xxxxx := chain b0xxxx br
          clear p0 p1 p2 p3 p4 p5 p6 lp b0xxxx br
          obtain ⟨⟨p0, p1, p2, p3, p4, p5, p6⟩, -, lp⟩ := seven kP
          by_cases hi : i < x.f4.length ∧ n < 3000
          · obtain ⟨hi, hn⟩ := hi
            obtain ⟨k1, rfl⟩ : ∃ k1, gk = k1 + 1 := ⟨gk - 1, by omega⟩
            have ci : decide ((i : Int) < (x.f4.length : Int)) = true := decide_eq_true (by omega)
            have ci2 : decide (i < x.f4.length) = true := decide_eq_true hi
            have cn : decide (n < 3000) = true := decide_eq_true hn
            have i0 : (0 : Int) ≤ (i : Int) := by omega
            have i1 : (i : Int) < (x.f4.length : Int) := by omega
            have hm := List.getElem_mem hi
            obtain ⟨ad, X3, e3, X4, e4, hE, fx, y0, y1, y2, y3, y4⟩ := telt hA.2.1 i hi
            subst hE
            have HC := Aside0.mk (HT.out _ hm _ _ _ _ _ fx)
            have HK := Aside0.mk hk
            clear hk hm fx
            generalize x.f4[i] = z at *
            go_wp2_with fail
            refine HC.out.mono ?_
            rintro e_ w3 ⟨r, rfl, hb⟩
            have BE := chain BR.out hb
            replace kP := blk_up hb kP
            clear p0 p1 p2 p3 p4 p5 p6 lp y0 y1 y2 y3 y4 b0xxxxx
            obtain ⟨⟨p0, p1, p2, p3, p4, p5, p6⟩, -, lp⟩ := seven kP
            have hw2 : wrap64 ((i : Int) + 1) = (i : Int) + 1 := wrap_ok (by omega) (by have := i1; have := i1; omega)
            go_wp2
            go_roundg k1
            case measure => omega
            case rel => exact ⟨i + 1, _, rfl, (by first | rfl | (simp; done) | (push_cast; rfl)), by have := HK.out; omega, BE⟩
          · have hx : (decide ((i : Int) < (x.f4.length : Int)) = false ∧ decide (i < x.f4.length) = false) ∨ (decide ((i : Int) < (x.f4.length : Int)) = true ∧ decide (i < x.f4.length) = true ∧ decide (n < 3000) = false) := by
              by_cases h1 : i < x.f4.length
              · have h2 : ¬ n < 3000 := fun h => hi ⟨h1, h⟩
                exact .inr ⟨decide_eq_true (by omega), decide_eq_true h1, decide_eq_false h2⟩
              · exact .inl ⟨decide_eq_false (by omega), decide_eq_false h1⟩
            clear hi hk BR
            rcases hx with ⟨x1, x2⟩ | ⟨x1, x2, x3⟩
            all_goals (
              go_wp2_with fail
              generalize wr = w5_ at *
              go_loopg [3, 6] x.f6.length (fun kq vn vi w' => ∃ (i : Nat) (n : Int), vn = .int .i64 n ∧ vi = .int .i64 i ∧ kq + i = x.f6.length ∧ Below w5_.heap.size w5_ w')
              case atStart => exact ⟨0, _, rfl, rfl, rfl, Below.refl _ _⟩
              case round =>
                obtain ⟨i, n, rfl, rfl, hk, br⟩ := hrel
                have BR := Aside0.mk br
                replace kP := blk_up br kP
                replace hA := hA.below br
                have b0xxxxxx := chain b0xxxxx br
                clear p0 p1 p2 p3 p4 p5 p6 lp b0xxxxx br
                obtain ⟨⟨p0, p1, p2, p3, p4, p5, p6⟩, -, lp⟩ := seven kP
                by_cases hi : i < x.f6.length ∧ n < 3000
                · obtain ⟨hi, hn⟩ := hi
                  obtain ⟨k1, rfl⟩ : ∃ k1, gk = k1 + 1 := ⟨gk - 1, by omega⟩
                  have ci : decide ((i : Int) < (x.f6.length : Int)) = true := decide_eq_true (by omega)
                  have ci2 : decide (i < x.f6.length) = true := decide_eq_true hi
                  have cn : decide (n < 3000) = true := decide_eq_true hn
                  have i0 : (0 : Int) ≤ (i : Int) := by omega
                  have i1 : (i : Int) < (x.f6.length : Int) := by omega
                  have hm := List.getElem_mem hi
                  obtain ⟨ad, X4, e4, X5, e5, X6, e6, hE, fx, y0, y1, y2, y3, y4, y5, y6⟩ := eeltc hA.2.2.2.2.2 i hi
                  subst hE
                  have HC := Aside0.mk (HS.out _ hm _ _ _ _ _ _ _ fx)
                  have HK := Aside0.mk hk
                  clear hk hm fx
                  generalize x.f6[i] = z at *
                  go_wp2_with fail
                  refine HC.out.mono ?_
                  rintro e_ w3 ⟨r, rfl, hb⟩
                  have BE := chain BR.out hb
                  replace kP := blk_up hb kP
                  clear p0 p1 p2 p3 p4 p5 p6 lp y0 y1 y2 y3 y4 y5 y6 b0xxxxxx
                  obtain ⟨⟨p0, p1, p2, p3, p4, p5, p6⟩, -, lp⟩ := seven kP
                  have hw2 : wrap64 ((i : Int) + 1) = (i : Int) + 1 := wrap_ok (by omega) (by have := i1; have := i1; omega)
                  go_wp2
                  go_roundg k1
                  case measure => omega
                  case rel => exact ⟨i + 1, _, rfl, (by first | rfl | (simp; done) | (push_cast; rfl)), by have := HK.out; omega, BE⟩
                · have hx : (decide ((i : Int) < (x.f6.length : Int)) = false ∧ decide (i < x.f6.length) = false) ∨ (decide ((i : Int) < (x.f6.length : Int)) = true ∧ decide (i < x.f6.length) = true ∧ decide (n < 3000) = false) := by
                    by_cases h1 : i < x.f6.length
                    · have h2 : ¬ n < 3000 := fun h => hi ⟨h1, h⟩
                      exact .inr ⟨decide_eq_true (by omega), decide_eq_true h1, decide_eq_false h2⟩
                    · exact .inl ⟨decide_eq_false (by omega), decide_eq_false h1⟩
                  clear hi hk BR
                  rcases hx with ⟨x1, x2⟩ | ⟨x1, x2, x3⟩
                  all_goals (
                    go_wp2
                    go_ret
                    exact ⟨_, rfl, b0xxxxxx⟩)))
theorem muche_n : ∀ (n : Nat) (x : Ex), SizeOf.sizeOf x < n → Oke x → MuchE x
  | 0, x, h, _ => absurd h (Nat.not_lt_zero _)
  | n + 1, x, h, ho => muche_one x ho fun y hy => muche_n n y (by have := size_kids x y hy; omega) (ho.kids y hy)
theorem muche (x : Ex) (h : Oke x) : MuchE x := muche_n _ x (Nat.lt_succ_self _) h
set_option maxHeartbeats 4000000 in
set_option maxRecDepth 100000 in
theorem muchb (l : List Bi) (hs : ∀ y, y ∈ l → Okt y.f1) (hl : l.length ≤ 140737488351232) {A : Option Addr} {c : Nat} {w : World} (h : kBi.C w A l.length l) :
    Calls Try.prog 40 #[.slice A l.length c] w (NOut w) := by
  have ht : ∀ y, y ∈ l → MuchT y.f1 := fun y hy => mucht _ (hs y hy)
  have HT := Aside0.mk ht
  have hA := h
  have b0 := Below.refl w.heap.size w
  clear hs ht h
  go_enter Try.func40, Try.ntmps40
  go_wp2_with fail
  go_loopg [3, 4] l.length (fun kq vn vi w' => ∃ (i : Nat) (n : Int), vn = .int .i64 n ∧ vi = .int .i64 i ∧ kq + i = l.length ∧ Below w.heap.size w w')
  case atStart => exact ⟨0, _, rfl, rfl, rfl, Below.refl _ _⟩
  case round =>
    obtain ⟨i, n, rfl, rfl, hk, br⟩ := hrel
    have BR := Aside0.mk br
    replace hA := Kd.C_below hA br
    have b0xxxx := chain b0 br
    clear  b0 br
    by_cases hi : i < l.length ∧ n < 3000
    · obtain ⟨hi, hn⟩ := hi
      obtain ⟨k1, rfl⟩ : ∃ k1, gk = k1 + 1 := ⟨gk - 1, by omega⟩
      have ci : decide ((i : Int) < (l.length : Int)) = true := decide_eq_true (by omega)
      have ci2 : decide (i < l.length) = true := decide_eq_true hi
      have cn : decide (n < 3000) = true := decide_eq_true hn
      have i0 : (0 : Int) ≤ (i : Int) := by omega
      have i1 : (i : Int) < (l.length : Int) := by omega
      have hm := List.getElem_mem hi
      obtain ⟨ad, X3, e3, X4, e4, hE, fx, y0, y1, y2, y3, y4, y5⟩ := belt hA i hi
      subst hE
      have HC := Aside0.mk (HT.out _ hm _ _ _ _ wr.drew (fx.below (Below.refl _ _).drew))
      have HK := Aside0.mk hk
      clear hk hm fx
      go_wp2_with fail
      refine wp_region_held_drew (S := (fun w' => Below wr.heap.size wr w' ∧ w'.cell? (ad.add (i * 6)) = some (.string l[i].f0) ∧ w'.cell? ⟨(ad.add (i * 6)).block, (ad.add (i * 6)).off + 1, none⟩ = some (.int .i64 l[i].f1.f0) ∧ w'.cell? ⟨(ad.add (i * 6)).block, (ad.add (i * 6)).off + 2, none⟩ = some (.int .i64 l[i].f1.f1) ∧ w'.cell? ⟨(ad.add (i * 6)).block, (ad.add (i * 6)).off + 3, none⟩ = some (.string l[i].f1.f2) ∧ w'.cell? ⟨(ad.add (i * 6)).block, (ad.add (i * 6)).off + 4, none⟩ = some (.slice X3 l[i].f1.f3.length e3) ∧ w'.cell? ⟨(ad.add (i * 6)).block, (ad.add (i * 6)).off + 5, none⟩ = some (.slice X4 l[i].f1.f4.length e4))) (by kernel_rfl) ?_ (fun hHeld => ?_)
      · (try dsimp only)
        (refine and_of (fun hB_ => ⟨cell_up hB_ y0, cell_up hB_ y1, cell_up hB_ y2, cell_up hB_ y3, cell_up hB_ y4, cell_up hB_ y5⟩) ?_; first | (with_reducible exact (Below.refl _ _).drew) | (with_reducible exact below_call' (And.left (by assumption)) (by assumption)) | (with_reducible exact And.left (by assumption)))
      (first | (refine take_held (i := 0) (d := (some 17)) (v := ?_) rfl rfl (by kernel_rfl) (by kernel_rfl) (by kernel_rfl) (fun _ _ _ h => h) (Or.inl ⟨by rfl, ?_⟩) (by assumption) ?_; rotate_left 1; focus ((intro w hSw; (try dsimp only at hSw); first | (go_simp; done) | (go_simp; with_reducible rfl)); done); (try simp only [Act.put, List.setIfInBounds_toArray, List.set_cons_zero, List.set_cons_succ])))
      (try simp only [Act.put, List.setIfInBounds_toArray, List.set_cons_zero, List.set_cons_succ])
      (first | (refine take_held (i := 1) (d := (some 18)) (v := ?_) rfl rfl (by kernel_rfl) (by kernel_rfl) (by kernel_rfl) (fun _ _ _ h => h) (Or.inl ⟨by rfl, ?_⟩) (by assumption) ?_; rotate_left 1; focus ((intro w hSw; (try dsimp only at hSw); first | (go_simp; done) | (go_simp; with_reducible rfl)); done); (try simp only [Act.put, List.setIfInBounds_toArray, List.set_cons_zero, List.set_cons_succ])))
      (try simp only [Act.put, List.setIfInBounds_toArray, List.set_cons_zero, List.set_cons_succ])
      (first | (refine take_held (i := 2) (d := (some 19)) (v := ?_) rfl rfl (by kernel_rfl) (by kernel_rfl) (by kernel_rfl) (fun _ _ _ h => h) (Or.inl ⟨by rfl, ?_⟩) (by assumption) ?_; rotate_left 1; focus ((intro w hSw; (try dsimp only at hSw); first | (go_simp; done) | (go_simp; with_reducible rfl)); done); (try simp only [Act.put, List.setIfInBounds_toArray, List.set_cons_zero, List.set_cons_succ])))
      (try simp only [Act.put, List.setIfInBounds_toArray, List.set_cons_zero, List.set_cons_succ])
      (first | (refine take_held (i := 3) (d := (some 20)) (v := ?_) rfl rfl (by kernel_rfl) (by kernel_rfl) (by kernel_rfl) (fun _ _ _ h => h) (Or.inl ⟨by rfl, ?_⟩) (by assumption) ?_; rotate_left 1; focus ((intro w hSw; (try dsimp only at hSw); first | (go_simp; done) | (go_simp; with_reducible rfl)); done); (try simp only [Act.put, List.setIfInBounds_toArray, List.set_cons_zero, List.set_cons_succ])))
      (try simp only [Act.put, List.setIfInBounds_toArray, List.set_cons_zero, List.set_cons_succ])
      (first | (refine take_held (i := 4) (d := (some 21)) (v := ?_) rfl rfl (by kernel_rfl) (by kernel_rfl) (by kernel_rfl) (fun _ _ _ h => h) (Or.inl ⟨by rfl, ?_⟩) (by assumption) ?_; rotate_left 1; focus ((intro w hSw; (try dsimp only at hSw); first | (go_simp; done) | (go_simp; with_reducible rfl)); done); (try simp only [Act.put, List.setIfInBounds_toArray, List.set_cons_zero, List.set_cons_succ])))
      (try simp only [Act.put, List.setIfInBounds_toArray, List.set_cons_zero, List.set_cons_succ])
      (first | (refine take_held (i := 5) (d := (some 22)) (v := ?_) rfl rfl (by kernel_rfl) (by kernel_rfl) (by kernel_rfl) (fun _ _ _ h => h) (Or.inl ⟨by rfl, ?_⟩) (by assumption) ?_; rotate_left 1; focus ((intro w hSw; (try dsimp only at hSw); first | (go_simp; done) | (go_simp; with_reducible rfl)); done); (try simp only [Act.put, List.setIfInBounds_toArray, List.set_cons_zero, List.set_cons_succ])))
      (try simp only [Act.put, List.setIfInBounds_toArray, List.set_cons_zero, List.set_cons_succ])
      (first | (refine take_held (i := 8) (d := (some 25)) (v := ?_) rfl rfl (by kernel_rfl) (by kernel_rfl) (by kernel_rfl) (fun _ _ _ h => h) (Or.inl ⟨by rfl, ?_⟩) (by assumption) ?_; rotate_left 1; focus ((intro w hSw; (try dsimp only at hSw); first | (go_simp; done) | (go_simp; with_reducible rfl)); done); (try simp only [Act.put, List.setIfInBounds_toArray, List.set_cons_zero, List.set_cons_succ])))
      (try simp only [Act.put, List.setIfInBounds_toArray, List.set_cons_zero, List.set_cons_succ])
      (first | (refine take_held (i := 9) (d := (some 26)) (v := ?_) rfl rfl (by kernel_rfl) (by kernel_rfl) (by kernel_rfl) (fun _ _ _ h => h) (Or.inl ⟨by rfl, ?_⟩) (by assumption) ?_; rotate_left 1; focus ((intro w hSw; (try dsimp only at hSw); first | (go_simp; done) | (go_simp; with_reducible rfl)); done); (try simp only [Act.put, List.setIfInBounds_toArray, List.set_cons_zero, List.set_cons_succ])))
      (try simp only [Act.put, List.setIfInBounds_toArray, List.set_cons_zero, List.set_cons_succ])
      (first | (refine take_held (i := 10) (d := (some 27)) (v := ?_) rfl rfl (by kernel_rfl) (by kernel_rfl) (by kernel_rfl) (fun _ _ _ h => h) (Or.inl ⟨by rfl, ?_⟩) (by assumption) ?_; rotate_left 1; focus ((intro w hSw; (try dsimp only at hSw); first | (go_simp; done) | (go_simp; with_reducible rfl)); done); (try simp only [Act.put, List.setIfInBounds_toArray, List.set_cons_zero, List.set_cons_succ])))
      (try simp only [Act.put, List.setIfInBounds_toArray, List.set_cons_zero, List.set_cons_succ])
      (first | (refine take_held (i := 11) (d := (some 28)) (v := ?_) rfl rfl (by kernel_rfl) (by kernel_rfl) (by kernel_rfl) (fun _ _ _ h => h) (Or.inl ⟨by rfl, ?_⟩) (by assumption) ?_; rotate_left 1; focus ((intro w hSw; (try dsimp only at hSw); first | (go_simp; done) | (go_simp; with_reducible rfl)); done); (try simp only [Act.put, List.setIfInBounds_toArray, List.set_cons_zero, List.set_cons_succ])))
      (try simp only [Act.put, List.setIfInBounds_toArray, List.set_cons_zero, List.set_cons_succ])
      (first | (refine take_held (i := 12) (d := (some 29)) (v := ?_) rfl rfl (by kernel_rfl) (by kernel_rfl) (by kernel_rfl) (fun _ _ _ h => h) (Or.inl ⟨by rfl, ?_⟩) (by assumption) ?_; rotate_left 1; focus ((intro w hSw; (try dsimp only at hSw); first | (go_simp; done) | (go_simp; with_reducible rfl)); done); (try simp only [Act.put, List.setIfInBounds_toArray, List.set_cons_zero, List.set_cons_succ])))
      (try simp only [Act.put, List.setIfInBounds_toArray, List.set_cons_zero, List.set_cons_succ])
      (first | (refine take_held (i := 13) (d := (some 30)) (v := ?_) rfl rfl (by kernel_rfl) (by kernel_rfl) (by kernel_rfl) (fun _ _ _ h => h) (Or.inl ⟨by rfl, ?_⟩) (by assumption) ?_; rotate_left 1; focus ((intro w hSw; (try dsimp only at hSw); first | (go_simp; done) | (go_simp; with_reducible rfl)); done); (try simp only [Act.put, List.setIfInBounds_toArray, List.set_cons_zero, List.set_cons_succ])))
      (try simp only [Act.put, List.setIfInBounds_toArray, List.set_cons_zero, List.set_cons_succ])
      (first | (refine take_held (i := 14) (d := (some 31)) (v := ?_) rfl rfl (by kernel_rfl) (by kernel_rfl) (by kernel_rfl) (fun _ _ _ h => h) (Or.inl ⟨by rfl, ?_⟩) (by assumption) ?_; rotate_left 1; focus ((intro w hSw; (try dsimp only at hSw); first | (go_simp; done) | (go_simp; with_reducible rfl)); done); (try simp only [Act.put, List.setIfInBounds_toArray, List.set_cons_zero, List.set_cons_succ])))
      (try simp only [Act.put, List.setIfInBounds_toArray, List.set_cons_zero, List.set_cons_succ])
      (first
        | (refine wpAnyH_ready (rs := [6]) (by kernel_rfl) (by simp) ?_; refine AllReadyH.cons (o := _) rfl (fun K hK => ?_) AllReadyH.nil; go_simp; (refine HC.out.mono ?_; rintro e_ w3 ⟨r, rfl, hbA⟩); (try go_wp2_with fail); refine hK.out _ _ (by (try dsimp only); (refine and_of (fun hB_ => ⟨cell_up hB_ y0, cell_up hB_ y1, cell_up hB_ y2, cell_up hB_ y3, cell_up hB_ y4, cell_up hB_ y5⟩) ?_; first | (with_reducible exact (Below.refl _ _).drew) | (with_reducible exact below_call' (And.left (by assumption)) (by assumption)) | (with_reducible exact And.left (by assumption)))) ?_; clear hHeld hK K; intro hHeld; (try simp only [Act.put, List.setIfInBounds_toArray, List.set_cons_zero, List.set_cons_succ])))
      (first | (refine take_held (i := 7) (d := (some 24)) (v := ?_) rfl rfl (by kernel_rfl) (by kernel_rfl) (by kernel_rfl) (fun _ _ _ h => h) (Or.inl ⟨by rfl, ?_⟩) (by assumption) ?_; rotate_left 1; focus ((intro w hSw; (try dsimp only at hSw); first | (go_simp; done) | (go_simp; with_reducible rfl)); done); (try simp only [Act.put, List.setIfInBounds_toArray, List.set_cons_zero, List.set_cons_succ])))
      (try simp only [Act.put, List.setIfInBounds_toArray, List.set_cons_zero, List.set_cons_succ])
      (first | (refine take_held (i := 15) (d := (some 32)) (v := ?_) rfl rfl (by kernel_rfl) (by kernel_rfl) (by kernel_rfl) (fun _ _ _ h => h) (Or.inl ⟨by rfl, ?_⟩) (by assumption) ?_; rotate_left 1; focus ((intro w hSw; (try dsimp only at hSw); first | (go_simp; done) | (go_simp; with_reducible rfl)); done); (try simp only [Act.put, List.setIfInBounds_toArray, List.set_cons_zero, List.set_cons_succ])))
      (try simp only [Act.put, List.setIfInBounds_toArray, List.set_cons_zero, List.set_cons_succ])
      (first | (refine take_held (i := 16) (d := (some 3)) (v := ?_) rfl rfl (by kernel_rfl) (by kernel_rfl) (by kernel_rfl) (fun _ _ _ h => h) (Or.inl ⟨by rfl, ?_⟩) (by assumption) ?_; rotate_left 1; focus ((intro w hSw; (try dsimp only at hSw); first | (go_simp; done) | (go_simp; with_reducible rfl)); done); (try simp only [Act.put, List.setIfInBounds_toArray, List.set_cons_zero, List.set_cons_succ])))
      (try simp only [Act.put, List.setIfInBounds_toArray, List.set_cons_zero, List.set_cons_succ])
      (try simp only [Act.put, List.setIfInBounds_toArray, List.set_cons_zero, List.set_cons_succ])
      refine wpAnyH_done (by kernel_rfl) ?_ _
      have hbR := And.left hHeld
      clear hHeld
      have BE := chain BR.out hbR
      clear y0 y1 y2 y3 y4 y5 hbR b0xxxx
      have hw2 : wrap64 ((i : Int) + 1) = (i : Int) + 1 := wrap_ok (by omega) (by have := i1; have := i1; omega)
      go_wp2
      go_roundg k1
      case measure => omega
      case rel => exact ⟨i + 1, _, rfl, (by first | rfl | (simp; done) | (push_cast; rfl)), by have := HK.out; omega, BE⟩
    · have hx : (decide ((i : Int) < (l.length : Int)) = false ∧ decide (i < l.length) = false) ∨ (decide ((i : Int) < (l.length : Int)) = true ∧ decide (i < l.length) = true ∧ decide (n < 3000) = false) := by
        by_cases h1 : i < l.length
        · have h2 : ¬ n < 3000 := fun h => hi ⟨h1, h⟩
          exact .inr ⟨decide_eq_true (by omega), decide_eq_true h1, decide_eq_false h2⟩
        · exact .inl ⟨decide_eq_false (by omega), decide_eq_false h1⟩
      clear hi hk BR
      rcases hx with ⟨x1, x2⟩ | ⟨x1, x2, x3⟩
      all_goals (
        go_wp2
        go_ret
        exact ⟨_, rfl, b0xxxx⟩)
set_option maxHeartbeats 4000000 in
set_option maxRecDepth 100000 in
theorem muchd (d : De) (ho : OkD d) {A1 A2 A3 A4 K4 K5 K6 : Option Addr} {c1 c2 c3 c4 k4 k5 k6 : Nat} {w : World} (h : RD w d A1 c1 A2 c2 A3 c3 A4 c4 K4 k4 K5 k5 K6 k6) :
    Calls Try.prog 10 #[dv d A1 c1 A2 c2 A3 c3 A4 c4 K4 k4 K5 k5 K6 k6] w (NOut w) := by
  have kP := blk_new w (.cells (dcells d A1 c1 A2 c2 A3 c3 A4 c4 K4 k4 K5 k5 K6 k6) 33)
  have b0 := below_alloc1 w (.cells (dcells d A1 c1 A2 c2 A3 c3 A4 c4 K4 k4 K5 k5 K6 k6) 33)
  obtain ⟨⟨p0, p1, p2, p3, p4, p5, p6, p7, p8, p9, p10, p11, p12, p13, p14⟩, -, lp⟩ := fifteen kP
  replace h := h.below b0
  have HO := Aside0.mk ho
  have HA := Aside0.mk h
  have B0 := Aside0.mk b0
  clear kP ho h b0
  go_enter Try.func10, Try.ntmps10
  go_wp2_with fail
  generalize hW1 : w.alloc _ = W1 at p0 p1 p2 p3 p4 p5 p6 p7 p8 p9 p10 p11 p12 p13 p14 lp HA B0 ⊢
  clear hW1
  refine wp_region_held_drew (S := (fun w' => Below W1.heap.size W1 w' ∧ w'.cell? ⟨w.heap.size, 0, none⟩ = some (.string d.f0.f0) ∧ w'.cell? ⟨w.heap.size, 1, none⟩ = some (.slice A1 d.f0.f1.length c1) ∧ w'.cell? ⟨w.heap.size, 2, none⟩ = some (.slice A2 d.f0.f2.length c2) ∧ w'.cell? ⟨w.heap.size, 3, none⟩ = some (.int .i64 d.f0.f3.f0) ∧ w'.cell? ⟨w.heap.size, 4, none⟩ = some (.int .i64 d.f0.f3.f1) ∧ w'.cell? ⟨w.heap.size, 5, none⟩ = some (.string d.f0.f3.f2) ∧ w'.cell? ⟨w.heap.size, 6, none⟩ = some (.slice A3 d.f0.f3.f3.length c3) ∧ w'.cell? ⟨w.heap.size, 7, none⟩ = some (.slice A4 d.f0.f3.f4.length c4) ∧ w'.cell? ⟨w.heap.size, 8, none⟩ = some (.int .i64 d.f1.f0) ∧ w'.cell? ⟨w.heap.size, 9, none⟩ = some (.int .i64 d.f1.f1) ∧ w'.cell? ⟨w.heap.size, 10, none⟩ = some (.string d.f1.f2) ∧ w'.cell? ⟨w.heap.size, 11, none⟩ = some (.bool d.f1.f3) ∧ w'.cell? ⟨w.heap.size, 12, none⟩ = some (.slice K4 d.f1.f4.length k4) ∧ w'.cell? ⟨w.heap.size, 13, none⟩ = some (.slice K5 d.f1.f5.length k5) ∧ w'.cell? ⟨w.heap.size, 14, none⟩ = some (.slice K6 d.f1.f6.length k6))) (by kernel_rfl) ?_ (fun hHeld => ?_)
  · (try dsimp only)
    (refine and_of (fun hB_ => ⟨cell_up hB_ p0, cell_up hB_ p1, cell_up hB_ p2, cell_up hB_ p3, cell_up hB_ p4, cell_up hB_ p5, cell_up hB_ p6, cell_up hB_ p7, cell_up hB_ p8, cell_up hB_ p9, cell_up hB_ p10, cell_up hB_ p11, cell_up hB_ p12, cell_up hB_ p13, cell_up hB_ p14⟩) ?_; first | (with_reducible exact (Below.refl _ _).drew) | (with_reducible exact below_call' (And.left (by assumption)) (by assumption)) | (with_reducible exact And.left (by assumption)))
  (first | (refine take_held (i := 0) (d := (some 3)) (v := ?_) rfl rfl (by kernel_rfl) (by kernel_rfl) (by kernel_rfl) (fun _ _ _ h => h) (Or.inl ⟨by rfl, ?_⟩) (by assumption) ?_; rotate_left 1; focus ((intro w hSw; (try dsimp only at hSw); first | (go_simp; done) | (go_simp; with_reducible rfl)); done); (try simp only [Act.put, List.setIfInBounds_toArray, List.set_cons_zero, List.set_cons_succ])))
  (try simp only [Act.put, List.setIfInBounds_toArray, List.set_cons_zero, List.set_cons_succ])
  (first | (refine take_held (i := 1) (d := (some 4)) (v := ?_) rfl rfl (by kernel_rfl) (by kernel_rfl) (by kernel_rfl) (fun _ _ _ h => h) (Or.inl ⟨by rfl, ?_⟩) (by assumption) ?_; rotate_left 1; focus ((intro w hSw; (try dsimp only at hSw); first | (go_simp; done) | (go_simp; with_reducible rfl)); done); (try simp only [Act.put, List.setIfInBounds_toArray, List.set_cons_zero, List.set_cons_succ])))
  (try simp only [Act.put, List.setIfInBounds_toArray, List.set_cons_zero, List.set_cons_succ])
  (first | (refine take_held (i := 3) (d := (some 6)) (v := ?_) rfl rfl (by kernel_rfl) (by kernel_rfl) (by kernel_rfl) (fun _ _ _ h => h) (Or.inl ⟨by rfl, ?_⟩) (by assumption) ?_; rotate_left 1; focus ((intro w hSw; (try dsimp only at hSw); first | (go_simp; done) | (go_simp; with_reducible rfl)); done); (try simp only [Act.put, List.setIfInBounds_toArray, List.set_cons_zero, List.set_cons_succ])))
  (try simp only [Act.put, List.setIfInBounds_toArray, List.set_cons_zero, List.set_cons_succ])
  (first | (refine take_held (i := 4) (d := (some 7)) (v := ?_) rfl rfl (by kernel_rfl) (by kernel_rfl) (by kernel_rfl) (fun _ _ _ h => h) (Or.inl ⟨by rfl, ?_⟩) (by assumption) ?_; rotate_left 1; focus ((intro w hSw; (try dsimp only at hSw); first | (go_simp; done) | (go_simp; with_reducible rfl)); done); (try simp only [Act.put, List.setIfInBounds_toArray, List.set_cons_zero, List.set_cons_succ])))
  (try simp only [Act.put, List.setIfInBounds_toArray, List.set_cons_zero, List.set_cons_succ])
  (first | (refine take_held (i := 5) (d := (some 8)) (v := ?_) rfl rfl (by kernel_rfl) (by kernel_rfl) (by kernel_rfl) (fun _ _ _ h => h) (Or.inl ⟨by rfl, ?_⟩) (by assumption) ?_; rotate_left 1; focus ((intro w hSw; (try dsimp only at hSw); first | (go_simp; done) | (go_simp; with_reducible rfl)); done); (try simp only [Act.put, List.setIfInBounds_toArray, List.set_cons_zero, List.set_cons_succ])))
  (try simp only [Act.put, List.setIfInBounds_toArray, List.set_cons_zero, List.set_cons_succ])
  (first | (refine take_held (i := 8) (d := (some 11)) (v := ?_) rfl rfl (by kernel_rfl) (by kernel_rfl) (by kernel_rfl) (fun _ _ _ h => h) (Or.inl ⟨by rfl, ?_⟩) (by assumption) ?_; rotate_left 1; focus ((intro w hSw; (try dsimp only at hSw); first | (go_simp; done) | (go_simp; with_reducible rfl)); done); (try simp only [Act.put, List.setIfInBounds_toArray, List.set_cons_zero, List.set_cons_succ])))
  (try simp only [Act.put, List.setIfInBounds_toArray, List.set_cons_zero, List.set_cons_succ])
  (first | (refine take_held (i := 9) (d := (some 12)) (v := ?_) rfl rfl (by kernel_rfl) (by kernel_rfl) (by kernel_rfl) (fun _ _ _ h => h) (Or.inl ⟨by rfl, ?_⟩) (by assumption) ?_; rotate_left 1; focus ((intro w hSw; (try dsimp only at hSw); first | (go_simp; done) | (go_simp; with_reducible rfl)); done); (try simp only [Act.put, List.setIfInBounds_toArray, List.set_cons_zero, List.set_cons_succ])))
  (try simp only [Act.put, List.setIfInBounds_toArray, List.set_cons_zero, List.set_cons_succ])
  (first | (refine take_held (i := 10) (d := (some 13)) (v := ?_) rfl rfl (by kernel_rfl) (by kernel_rfl) (by kernel_rfl) (fun _ _ _ h => h) (Or.inl ⟨by rfl, ?_⟩) (by assumption) ?_; rotate_left 1; focus ((intro w hSw; (try dsimp only at hSw); first | (go_simp; done) | (go_simp; with_reducible rfl)); done); (try simp only [Act.put, List.setIfInBounds_toArray, List.set_cons_zero, List.set_cons_succ])))
  (try simp only [Act.put, List.setIfInBounds_toArray, List.set_cons_zero, List.set_cons_succ])
  (first | (refine take_held (i := 13) (d := (some 16)) (v := ?_) rfl rfl (by kernel_rfl) (by kernel_rfl) (by kernel_rfl) (fun _ _ _ h => h) (Or.inl ⟨by rfl, ?_⟩) (by assumption) ?_; rotate_left 1; focus ((intro w hSw; (try dsimp only at hSw); first | (go_simp; done) | (go_simp; with_reducible rfl)); done); (try simp only [Act.put, List.setIfInBounds_toArray, List.set_cons_zero, List.set_cons_succ])))
  (try simp only [Act.put, List.setIfInBounds_toArray, List.set_cons_zero, List.set_cons_succ])
  (first | (refine take_held (i := 14) (d := (some 17)) (v := ?_) rfl rfl (by kernel_rfl) (by kernel_rfl) (by kernel_rfl) (fun _ _ _ h => h) (Or.inl ⟨by rfl, ?_⟩) (by assumption) ?_; rotate_left 1; focus ((intro w hSw; (try dsimp only at hSw); first | (go_simp; done) | (go_simp; with_reducible rfl)); done); (try simp only [Act.put, List.setIfInBounds_toArray, List.set_cons_zero, List.set_cons_succ])))
  (try simp only [Act.put, List.setIfInBounds_toArray, List.set_cons_zero, List.set_cons_succ])
  (first | (refine take_held (i := 15) (d := (some 18)) (v := ?_) rfl rfl (by kernel_rfl) (by kernel_rfl) (by kernel_rfl) (fun _ _ _ h => h) (Or.inl ⟨by rfl, ?_⟩) (by assumption) ?_; rotate_left 1; focus ((intro w hSw; (try dsimp only at hSw); first | (go_simp; done) | (go_simp; with_reducible rfl)); done); (try simp only [Act.put, List.setIfInBounds_toArray, List.set_cons_zero, List.set_cons_succ])))
  (try simp only [Act.put, List.setIfInBounds_toArray, List.set_cons_zero, List.set_cons_succ])
  (first | (refine take_held (i := 18) (d := (some 21)) (v := ?_) rfl rfl (by kernel_rfl) (by kernel_rfl) (by kernel_rfl) (fun _ _ _ h => h) (Or.inl ⟨by rfl, ?_⟩) (by assumption) ?_; rotate_left 1; focus ((intro w hSw; (try dsimp only at hSw); first | (go_simp; done) | (go_simp; with_reducible rfl)); done); (try simp only [Act.put, List.setIfInBounds_toArray, List.set_cons_zero, List.set_cons_succ])))
  (try simp only [Act.put, List.setIfInBounds_toArray, List.set_cons_zero, List.set_cons_succ])
  (first | (refine take_held (i := 19) (d := (some 22)) (v := ?_) rfl rfl (by kernel_rfl) (by kernel_rfl) (by kernel_rfl) (fun _ _ _ h => h) (Or.inl ⟨by rfl, ?_⟩) (by assumption) ?_; rotate_left 1; focus ((intro w hSw; (try dsimp only at hSw); first | (go_simp; done) | (go_simp; with_reducible rfl)); done); (try simp only [Act.put, List.setIfInBounds_toArray, List.set_cons_zero, List.set_cons_succ])))
  (try simp only [Act.put, List.setIfInBounds_toArray, List.set_cons_zero, List.set_cons_succ])
  (first | (refine take_held (i := 20) (d := (some 23)) (v := ?_) rfl rfl (by kernel_rfl) (by kernel_rfl) (by kernel_rfl) (fun _ _ _ h => h) (Or.inl ⟨by rfl, ?_⟩) (by assumption) ?_; rotate_left 1; focus ((intro w hSw; (try dsimp only at hSw); first | (go_simp; done) | (go_simp; with_reducible rfl)); done); (try simp only [Act.put, List.setIfInBounds_toArray, List.set_cons_zero, List.set_cons_succ])))
  (try simp only [Act.put, List.setIfInBounds_toArray, List.set_cons_zero, List.set_cons_succ])
  (first | (refine take_held (i := 21) (d := (some 24)) (v := ?_) rfl rfl (by kernel_rfl) (by kernel_rfl) (by kernel_rfl) (fun _ _ _ h => h) (Or.inl ⟨by rfl, ?_⟩) (by assumption) ?_; rotate_left 1; focus ((intro w hSw; (try dsimp only at hSw); first | (go_simp; done) | (go_simp; with_reducible rfl)); done); (try simp only [Act.put, List.setIfInBounds_toArray, List.set_cons_zero, List.set_cons_succ])))
  (try simp only [Act.put, List.setIfInBounds_toArray, List.set_cons_zero, List.set_cons_succ])
  (first | (refine take_held (i := 22) (d := (some 25)) (v := ?_) rfl rfl (by kernel_rfl) (by kernel_rfl) (by kernel_rfl) (fun _ _ _ h => h) (Or.inl ⟨by rfl, ?_⟩) (by assumption) ?_; rotate_left 1; focus ((intro w hSw; (try dsimp only at hSw); first | (go_simp; done) | (go_simp; with_reducible rfl)); done); (try simp only [Act.put, List.setIfInBounds_toArray, List.set_cons_zero, List.set_cons_succ])))
  (try simp only [Act.put, List.setIfInBounds_toArray, List.set_cons_zero, List.set_cons_succ])
  (first
    | (refine wpAnyH_ready (rs := [2]) (by kernel_rfl) (by simp) ?_; refine AllReadyH.cons (o := _) rfl (fun K hK => ?_) AllReadyH.nil; go_simp; (refine (muche d.f1 HO.out.2 _ _ _ _ _ _ _ (HA.out.2.below (And.left hHeld))).mono ?_; rintro e_ wA ⟨r1, rfl, hbA⟩); (try go_wp2_with fail); refine hK.out _ _ (by (try dsimp only); (refine and_of (fun hB_ => ⟨cell_up hB_ p0, cell_up hB_ p1, cell_up hB_ p2, cell_up hB_ p3, cell_up hB_ p4, cell_up hB_ p5, cell_up hB_ p6, cell_up hB_ p7, cell_up hB_ p8, cell_up hB_ p9, cell_up hB_ p10, cell_up hB_ p11, cell_up hB_ p12, cell_up hB_ p13, cell_up hB_ p14⟩) ?_; first | (with_reducible exact (Below.refl _ _).drew) | (with_reducible exact below_call' (And.left (by assumption)) (by assumption)) | (with_reducible exact And.left (by assumption)))) ?_; clear hHeld hK K; intro hHeld; (try simp only [Act.put, List.setIfInBounds_toArray, List.set_cons_zero, List.set_cons_succ])))
  (first
    | (refine wpAnyH_ready (rs := [6]) (by kernel_rfl) (by simp) ?_; refine AllReadyH.cons (o := _) rfl (fun K hK => ?_) AllReadyH.nil; go_simp; (refine (muchb d.f0.f1 HO.out.1.1.2 (by have := HO.out.1.1.1; omega) (Kd.C_below HA.out.1.1.2 (And.left hHeld))).mono ?_; rintro e_ wA ⟨r2, rfl, hbA⟩); (try go_wp2_with fail); refine hK.out _ _ (by (try dsimp only); (refine and_of (fun hB_ => ⟨cell_up hB_ p0, cell_up hB_ p1, cell_up hB_ p2, cell_up hB_ p3, cell_up hB_ p4, cell_up hB_ p5, cell_up hB_ p6, cell_up hB_ p7, cell_up hB_ p8, cell_up hB_ p9, cell_up hB_ p10, cell_up hB_ p11, cell_up hB_ p12, cell_up hB_ p13, cell_up hB_ p14⟩) ?_; first | (with_reducible exact (Below.refl _ _).drew) | (with_reducible exact below_call' (And.left (by assumption)) (by assumption)) | (with_reducible exact And.left (by assumption)))) ?_; clear hHeld hK K; intro hHeld; (try simp only [Act.put, List.setIfInBounds_toArray, List.set_cons_zero, List.set_cons_succ])))
  (first | (refine take_held (i := 7) (d := (some 10)) (v := ?_) rfl rfl (by kernel_rfl) (by kernel_rfl) (by kernel_rfl) (fun _ _ _ h => h) (Or.inl ⟨by rfl, ?_⟩) (by assumption) ?_; rotate_left 1; focus ((intro w hSw; (try dsimp only at hSw); first | (go_simp; done) | (go_simp; with_reducible rfl)); done); (try simp only [Act.put, List.setIfInBounds_toArray, List.set_cons_zero, List.set_cons_succ])))
  (try simp only [Act.put, List.setIfInBounds_toArray, List.set_cons_zero, List.set_cons_succ])
  (first
    | (refine wpAnyH_ready (rs := [11]) (by kernel_rfl) (by simp) ?_; refine AllReadyH.cons (o := _) rfl (fun K hK => ?_) AllReadyH.nil; go_simp; (refine (muchb d.f0.f2 HO.out.1.2.1.2 (by have := HO.out.1.2.1.1; omega) (Kd.C_below HA.out.1.2.1.2 (And.left hHeld))).mono ?_; rintro e_ wA ⟨r3, rfl, hbA⟩); (try go_wp2_with fail); refine hK.out _ _ (by (try dsimp only); (refine and_of (fun hB_ => ⟨cell_up hB_ p0, cell_up hB_ p1, cell_up hB_ p2, cell_up hB_ p3, cell_up hB_ p4, cell_up hB_ p5, cell_up hB_ p6, cell_up hB_ p7, cell_up hB_ p8, cell_up hB_ p9, cell_up hB_ p10, cell_up hB_ p11, cell_up hB_ p12, cell_up hB_ p13, cell_up hB_ p14⟩) ?_; first | (with_reducible exact (Below.refl _ _).drew) | (with_reducible exact below_call' (And.left (by assumption)) (by assumption)) | (with_reducible exact And.left (by assumption)))) ?_; clear hHeld hK K; intro hHeld; (try simp only [Act.put, List.setIfInBounds_toArray, List.set_cons_zero, List.set_cons_succ])))
  (first | (refine take_held (i := 12) (d := (some 15)) (v := ?_) rfl rfl (by kernel_rfl) (by kernel_rfl) (by kernel_rfl) (fun _ _ _ h => h) (Or.inl ⟨by rfl, ?_⟩) (by assumption) ?_; rotate_left 1; focus ((intro w hSw; (try dsimp only at hSw); first | (go_simp; done) | (go_simp; with_reducible rfl)); done); (try simp only [Act.put, List.setIfInBounds_toArray, List.set_cons_zero, List.set_cons_succ])))
  (try simp only [Act.put, List.setIfInBounds_toArray, List.set_cons_zero, List.set_cons_succ])
  (first
    | (refine wpAnyH_ready (rs := [16]) (by kernel_rfl) (by simp) ?_; refine AllReadyH.cons (o := _) rfl (fun K hK => ?_) AllReadyH.nil; go_simp; (refine (mucht d.f0.f3 HO.out.1.2.2 _ _ _ _ _ (HA.out.1.2.2.below (And.left hHeld))).mono ?_; rintro e_ wA ⟨r4, rfl, hbA⟩); (try go_wp2_with fail); refine hK.out _ _ (by (try dsimp only); (refine and_of (fun hB_ => ⟨cell_up hB_ p0, cell_up hB_ p1, cell_up hB_ p2, cell_up hB_ p3, cell_up hB_ p4, cell_up hB_ p5, cell_up hB_ p6, cell_up hB_ p7, cell_up hB_ p8, cell_up hB_ p9, cell_up hB_ p10, cell_up hB_ p11, cell_up hB_ p12, cell_up hB_ p13, cell_up hB_ p14⟩) ?_; first | (with_reducible exact (Below.refl _ _).drew) | (with_reducible exact below_call' (And.left (by assumption)) (by assumption)) | (with_reducible exact And.left (by assumption)))) ?_; clear hHeld hK K; intro hHeld; (try simp only [Act.put, List.setIfInBounds_toArray, List.set_cons_zero, List.set_cons_succ])))
  (first | (refine take_held (i := 17) (d := (some 20)) (v := ?_) rfl rfl (by kernel_rfl) (by kernel_rfl) (by kernel_rfl) (fun _ _ _ h => h) (Or.inl ⟨by rfl, ?_⟩) (by assumption) ?_; rotate_left 1; focus ((intro w hSw; (try dsimp only at hSw); first | (go_simp; done) | (go_simp; with_reducible rfl)); done); (try simp only [Act.put, List.setIfInBounds_toArray, List.set_cons_zero, List.set_cons_succ])))
  (try simp only [Act.put, List.setIfInBounds_toArray, List.set_cons_zero, List.set_cons_succ])
  (first | (refine take_held (i := 23) (d := (some 26)) (v := ?_) rfl rfl (by kernel_rfl) (by kernel_rfl) (by kernel_rfl) (fun _ _ _ h => h) (Or.inl ⟨by rfl, ?_⟩) (by assumption) ?_; rotate_left 1; focus ((intro w hSw; (try dsimp only at hSw); first | (go_simp; done) | (go_simp; with_reducible rfl)); done); (try simp only [Act.put, List.setIfInBounds_toArray, List.set_cons_zero, List.set_cons_succ])))
  (try simp only [Act.put, List.setIfInBounds_toArray, List.set_cons_zero, List.set_cons_succ])
  (first | (refine take_held (i := 24) (d := (some 2)) (v := ?_) rfl rfl (by kernel_rfl) (by kernel_rfl) (by kernel_rfl) (fun _ _ _ h => h) (Or.inl ⟨by rfl, ?_⟩) (by assumption) ?_; rotate_left 1; focus ((intro w hSw; (try dsimp only at hSw); first | (go_simp; done) | (go_simp; with_reducible rfl)); done); (try simp only [Act.put, List.setIfInBounds_toArray, List.set_cons_zero, List.set_cons_succ])))
  (try simp only [Act.put, List.setIfInBounds_toArray, List.set_cons_zero, List.set_cons_succ])
  (try simp only [Act.put, List.setIfInBounds_toArray, List.set_cons_zero, List.set_cons_succ])
  refine wpAnyH_done (by kernel_rfl) ?_ _
  have hbR := And.left hHeld
  clear hHeld
  have b1 := chain B0.out hbR
  clear p0 p1 p2 p3 p4 p5 p6 p7 p8 p9 p10 p11 p12 p13 p14 lp hbR
  go_wp2
  go_ret
  exact ⟨_, rfl, b1⟩
end Go.Proofs.Ytlenfmnkbepoiaa.PSitesTell
namespace Go.Proofs.Ytlenfmnkbepoiaa.PSitesTell
open Go.RowKit Go.Proofs.YtlenfmnkbepoiaaW.Mine Go.Proofs.YtlenfmnkbepoiaaW.PrintWords Go.Proofs.YtlenfmnkbepoiaaW.PrintLast Go.Proofs.YtlenfmnkbepoiaaW.PrintMore
attribute [local go_sem] max2_int min2_int max_two min_two max_three min_three max_four min_four
set_option linter.unusedVariables false
set_option linter.unusedSimpArgs false
mutual
/-- The types of an expression, and of those in it. -/
def bodyE : Ex → List Ty
  | ⟨_, _, _, _, ts, _, ks⟩ => ts ++ bodyK ks
def bodyK : List Ex → List Ty
  | [] => []
  | a :: l => bodyE a ++ bodyK l
end
theorem bodyE_eq (x : Ex) : bodyE x = x.f4 ++ bodyK x.f6 := by cases x; simp only [bodyE]
mutual
theorem sitesE_fst : ∀ (x : Ex) (n : Int), (sitesE n x).map Prod.fst = bodyE x
  | ⟨_, _, _, _, ts, _, ks⟩, n => by
    rw [sitesE_eq, bodyE_eq, List.map_append, sitesK_fst ks, List.map_map]
    congr 1
    exact (List.map_congr_left (fun _ _ => rfl)).trans (List.map_id ts)
theorem sitesK_fst : ∀ (l : List Ex) (n : Int), (sitesK n l).map Prod.fst = bodyK l
  | [], n => by rw [sitesK_nil]; simp [bodyK]
  | a :: l, n => by
    rw [sitesK_cons, List.map_append, sitesE_fst a, sitesK_fst l]
    simp only [bodyK]
end
end Go.Proofs.Ytlenfmnkbepoiaa.PSitesTell
namespace Go.Proofs.Ytlenfmnkbepoiaa.PSitesTell
open Go.RowKit Go.Proofs.YtlenfmnkbepoiaaW.Mine Go.Proofs.YtlenfmnkbepoiaaW.PrintWords Go.Proofs.YtlenfmnkbepoiaaW.PrintLast Go.Proofs.YtlenfmnkbepoiaaW.PrintMore
attribute [local go_sem] max2_int min2_int max_two min_two max_three min_three max_four min_four
set_option linter.unusedVariables false
set_option linter.unusedSimpArgs false
def FS (w : World) (ok : Nat → Prop) (x : Sg) (A1 : Option Addr) (c1 : Nat) (A2 : Option Addr) (c2 : Nat) (A3 : Option Addr) (c3 : Nat) (A4 : Option Addr) (c4 : Nat) : Prop := (x.f1.length ≤ c1 ∧ Kd.F kBi w ok A1 x.f1.length x.f1) ∧ (x.f2.length ≤ c2 ∧ Kd.F kBi w ok A2 x.f2.length x.f2) ∧ FT w ok x.f3 A3 c3 A4 c4
theorem FS.below {w w1 : World} {ok : Nat → Prop} {x : Sg} {A1 A2 A3 A4 : Option Addr} {c1 c2 c3 c4 : Nat} (h : FS w ok x A1 c1 A2 c2 A3 c3 A4 c4) (hb : Below w.heap.size w w1) : FS w1 ok x A1 c1 A2 c2 A3 c3 A4 c4 := ⟨⟨h.1.1, Kd.F_below h.1.2 hb⟩, ⟨h.2.1.1, Kd.F_below h.2.1.2 hb⟩, h.2.2.below hb⟩
/-- The types of what a definition promises, in order. -/
def sigT (x : Sg) : List Ty := x.f1.map (fun b => b.f1) ++ x.f2.map (fun b => b.f1) ++ [x.f3]
theorem allD_eq (d : De) : allD d = sigT d.f0 ++ bodyE d.f1 := by
  unfold allD sitesD sigT
  rw [List.map_append, List.map_append, List.map_append, List.map_map, List.map_map, sitesE_fst]
  rfl
end Go.Proofs.Ytlenfmnkbepoiaa.PSitesTell
namespace Go.Proofs.Ytlenfmnkbepoiaa.PSitesTell
open Go.RowKit Go.Proofs.YtlenfmnkbepoiaaW.Mine Go.Proofs.YtlenfmnkbepoiaaW.PrintWords Go.Proofs.YtlenfmnkbepoiaaW.PrintLast Go.Proofs.YtlenfmnkbepoiaaW.PrintMore
attribute [local go_sem] max2_int min2_int max_two min_two max_three min_three max_four min_four
set_option linter.unusedVariables false
set_option linter.unusedSimpArgs false
end Go.Proofs.Ytlenfmnkbepoiaa.PSitesTell
namespace Go.Proofs.Ytlenfmnkbepoiaa.PSitesTell
open Go.RowKit Go.Proofs.YtlenfmnkbepoiaaW.Mine Go.Proofs.YtlenfmnkbepoiaaW.PrintWords Go.Proofs.YtlenfmnkbepoiaaW.PrintLast Go.Proofs.YtlenfmnkbepoiaaW.PrintMore
attribute [local go_sem] max2_int min2_int max_two min_two max_three min_three max_four min_four
set_option linter.unusedVariables false
set_option linter.unusedSimpArgs false
theorem nodesK_nil : nodesK [] = 0 := by simp only [nodesK]
theorem nodesK_cons (a : Ex) (l : List Ex) : nodesK (a :: l) = nodesE a + nodesK l := by simp only [nodesK]
theorem nodesK_mem : ∀ (l : List Ex) (i : Nat) (hi : i < l.length), nodesK (l.take i) + nodesE l[i] ≤ nodesK l
  | a :: l, 0, _ => by simp only [List.take_zero, nodesK_nil, nodesK_cons, List.getElem_cons_zero]; omega
  | a :: l, i + 1, h => by
    have := nodesK_mem l i (by simpa using h)
    simp only [List.take_succ_cons, nodesK_cons, List.getElem_cons_succ]
    omega
theorem nodesK_take1 : ∀ (l : List Ex) (i : Nat) (hi : i < l.length), nodesK (l.take (i + 1)) = nodesK (l.take i) + nodesE l[i]
  | a :: l, 0, _ => by simp [nodesK_nil, nodesK_cons]
  | a :: l, i + 1, h => by
    have := nodesK_take1 l i (by simpa using h)
    simp only [List.take_succ_cons, nodesK_cons, List.getElem_cons_succ]
    omega
theorem wrap_lo {i : Int} (h0 : 0 ≤ i) (h1 : i ≤ 1000000000000000) : wrap64 i = i := by unfold wrap64; omega
theorem wrap_add (a b : Nat) (h : a + b ≤ 1000000000000000) : wrap64 ((a : Int) + (b : Int)) = ((a + b : Nat) : Int) := by unfold wrap64; omega
theorem wrap_i {i : Nat} (h : i < 9223372036854775807) : wrap64 ((i : Int) + 1) = (i : Int) + 1 := by unfold wrap64; omega
mutual
/-- Where the numbers lie. -/
theorem sitesE_rng : ∀ (x : Ex) (n : Nat), n + nodesE x ≤ 100000000000000 → ∀ p, p ∈ sitesE (n : Int) x → (n : Int) ≤ p.2 ∧ p.2 < ((n + nodesE x : Nat) : Int)
  | ⟨a, b, c, d, ts, ls, ks⟩, n, h, p, hp => by
    rw [nodesE_eq] at h ⊢
    dsimp only at h ⊢
    rw [sitesE_eq, List.mem_append] at hp
    dsimp only at hp
    rcases hp with hp | hp
    · obtain ⟨t, _, rfl⟩ := List.mem_map.1 hp
      exact ⟨Int.le_refl _, by omega⟩
    · rw [wrap_lo (by omega) (by omega), show ((n : Int) + 1) = ((n + 1 : Nat) : Int) by omega] at hp
      have := sitesK_rng ks (n + 1) (by omega) p hp
      exact ⟨by omega, by omega⟩
theorem sitesK_rng : ∀ (l : List Ex) (n : Nat), n + nodesK l ≤ 100000000000000 → ∀ p, p ∈ sitesK (n : Int) l → (n : Int) ≤ p.2 ∧ p.2 < ((n + nodesK l : Nat) : Int)
  | [], n, h, p, hp => by rw [sitesK_nil] at hp; cases hp
  | a :: l, n, h, p, hp => by
    rw [nodesK_cons] at h ⊢
    have hc : cntE a = (nodesE a : Int) := wrap_lo (by omega) (by omega)
    rw [sitesK_cons, List.mem_append, hc, wrap_lo (by omega) (by omega), show ((n : Int) + (nodesE a : Int)) = ((n + nodesE a : Nat) : Int) by omega] at hp
    rcases hp with hp | hp
    · have := sitesE_rng a n (by omega) p hp
      exact ⟨by omega, by omega⟩
    · have := sitesK_rng l (n + nodesE a) (by omega) p hp
      exact ⟨by omega, by omega⟩
end
end Go.Proofs.Ytlenfmnkbepoiaa.PSitesTell
namespace Go.Proofs.Ytlenfmnkbepoiaa.PSitesTell
open Go.RowKit Go.Proofs.YtlenfmnkbepoiaaW.Mine Go.Proofs.YtlenfmnkbepoiaaW.PrintWords Go.Proofs.YtlenfmnkbepoiaaW.PrintLast Go.Proofs.YtlenfmnkbepoiaaW.PrintMore
attribute [local go_sem] max2_int min2_int max_two min_two max_three min_three max_four min_four
set_option linter.unusedVariables false
set_option linter.unusedSimpArgs false
def CntR (x : Ex) : Prop := ∀ (A4 : Option Addr) (c4 : Nat) (A5 : Option Addr) (c5 : Nat) (A6 : Option Addr) (c6 : Nat) (w : World), RE w x A4 c4 A5 c5 A6 c6 → Calls Try.prog 24 #[ev x A4 c4 A5 c5 A6 c6] w fun e w' => e = .returned (.int .i64 (nodesE x : Int)) ∧ Below w.heap.size w w'
set_option maxHeartbeats 4000000 in
set_option maxRecDepth 100000 in
theorem count14_one (x : Ex) (o : Oke x) (hn : nodesE x ≤ 1000000000000) (hs : ∀ y, y ∈ x.f6 → CntR y) : CntR x := by
  intro A4 c4 A5 c5 A6 c6 w hA
  have HS := Aside0.mk hs
  have l6 := o.l112
  have kP := blk_new w (.cells (ecells x A4 c4 A5 c5 A6 c6) 31)
  have b0 := below_alloc1 w (.cells (ecells x A4 c4 A5 c5 A6 c6) 31)
  replace hA := hA.below b0
  obtain ⟨⟨p0, p1, p2, p3, p4, p5, p6⟩, -, lp⟩ := seven kP
  have hx1 := nodesE_eq x
  clear o hs p0 p1 p2 p3 p5
  go_enter Try.func24, Try.ntmps24
  go_wp2_with fail
  generalize hW1 : w.alloc _ = W1 at p4 p6 lp hA b0 ⊢
  clear hW1 kP
  go_loopg [3, 4] x.f6.length (fun kq v3 v4 w' => ∃ (i n : Nat), v3 = .int .i64 n ∧ n = 1 + nodesK (x.f6.take i) ∧ v4 = .int .i64 i ∧ kq + i = x.f6.length ∧ Below W1.heap.size W1 w')
  case atStart => exact ⟨0, 1, rfl, by simp [nodesK_nil], rfl, rfl, Below.refl _ _⟩
  case round =>
    obtain ⟨i, n, rfl, hna, rfl, hk, br⟩ := hrel
    have p6r := cell_up br p6
    by_cases hi : i < x.f6.length
    · obtain ⟨k1, rfl⟩ : ∃ k1, gk = k1 + 1 := ⟨gk - 1, by omega⟩
      have ci : decide ((i : Int) < (x.f6.length : Int)) = true := decide_eq_true (by omega)
      have ci2 : decide (i < x.f6.length) = true := decide_eq_true hi
      have i0 : (0 : Int) ≤ (i : Int) := by omega
      have i1 : (i : Int) < (x.f6.length : Int) := by omega
      have hm := List.getElem_mem hi
      have hkm := nodesK_mem x.f6 i hi
      have hkt := nodesK_take1 x.f6 i hi
      obtain ⟨ad, X4, e4, X5, e5, X6, e6, hE, fx, y0, y1, y2, y3, y4, y5, y6⟩ := eeltc (Kd.C_below hA.2.2.2.2.2 br) i hi
      subst hE
      have HC := Aside0.mk (HS.out _ hm _ _ _ _ _ _ wr fx)
      obtain ⟨c, hc⟩ : ∃ c, nodesE x.f6[i] = c := ⟨_, rfl⟩
      rw [hc] at hkm hkt
      have hl : n + c ≤ 1000000000000 := by omega
      have hk2 : k1 + (i + 1) = x.f6.length := by omega
      have hn2 : n + c = 1 + nodesK (x.f6.take (i + 1)) := by omega
      have HC2 : Aside0 (nodesE x.f6[i] = c) := ⟨hc⟩
      clear hm hkm hkt fx hx1 hn hna hk hc
      go_wp2_with fail
      refine HC.out.mono ?_
      rintro e_ w3 ⟨rfl, hb⟩
      rw [HC2.out]
      have br2 := br.trans (hb.mono br.size)
      have hl9 : n + c ≤ 1000000000000000 := by omega
      have hi9 : i < 9223372036854775807 := by omega
      have h1 := wrap_add n c hl9
      have H2 := Aside0.mk (And.intro hk2 hn2)
      have hw2 := wrap_i hi9
      clear HC hk2 hn2 y0 y1 y2 y3 y4 y5 y6
      go_wp2
      go_roundg k1
      case measure => omega
      case rel => exact ⟨i + 1, n + c, (by first | rfl | (rw [h1]; rfl) | (rw [h1])), H2.out.2, (by first | rfl | (simp; done) | (push_cast; rfl)), H2.out.1, br2⟩
    · have cn : decide ((i : Int) < (x.f6.length : Int)) = false := decide_eq_false (by omega)
      have cn2 : decide (i < x.f6.length) = false := decide_eq_false hi
      rw [List.take_of_length_le (by omega)] at hna
      have he : (n : Int) = (nodesE x : Int) := by omega
      have hb := b0.trans (br.mono b0.size)
      have HE := Aside0.mk he
      clear hna hk hx1 he
      go_wp2
      go_ret
      exact ⟨by rw [← HE.out]; rfl, hb⟩
theorem count14_n : ∀ (n : Nat) (x : Ex), SizeOf.sizeOf x < n → Oke x → nodesE x ≤ 1000000000000 → CntR x
  | 0, x, h, _, _ => absurd h (Nat.not_lt_zero _)
  | n + 1, x, h, ho, hn => count14_one x ho hn fun y hy => count14_n n y (by have := size_kids x y hy; omega) (ho.kids y hy) (by
      obtain ⟨i, hi, rfl⟩ := List.getElem_of_mem hy
      have := nodesK_mem x.f6 i hi
      rw [nodesE_eq] at hn
      omega)
theorem count14 (x : Ex) (h : Oke x) (hn : nodesE x ≤ 1000000000000) : CntR x := count14_n _ x (Nat.lt_succ_self _) h hn
end Go.Proofs.Ytlenfmnkbepoiaa.PSitesTell
namespace Go.Proofs.Ytlenfmnkbepoiaa.PSitesTell
open Go.RowKit Go.Proofs.YtlenfmnkbepoiaaW.Mine Go.Proofs.YtlenfmnkbepoiaaW.PrintWords Go.Proofs.YtlenfmnkbepoiaaW.PrintLast Go.Proofs.YtlenfmnkbepoiaaW.PrintMore
attribute [local go_sem] max2_int min2_int max_two min_two max_three min_three max_four min_four
set_option linter.unusedVariables false
set_option linter.unusedSimpArgs false
abbrev headN (d : De) : Nat := d.f0.f1.length + d.f0.f2.length + 1
def RtOut (r : Ty × Int × Bool) (w : World) (e : Ending) (w' : World) : Prop :=
  ∃ (A3 : Option Addr) (c3 : Nat) (A4 : Option Addr) (c4 : Nat), e = .returned (.tuple #[tv r.1 A3 c3 A4 c4, .int .i64 r.2.1, .bool r.2.2]) ∧ RT w' r.1 A3 c3 A4 c4 ∧ Below w.heap.size w w'
/-- What bounds a definition: its sites, and its expressions. -/
abbrev Small (d : De) : Prop := (sitesD d).length ≤ 1000000000000 ∧ nodesE d.f1 ≤ 1000000000000
theorem Small.n {d : De} (h : Small d) : d.f0.f1.length + d.f0.f2.length + 1 + numE d.f1 ≤ 1000000000000 := by have := h.1; rw [sitesD_len] at this; exact this
end Go.Proofs.Ytlenfmnkbepoiaa.PSitesTell
