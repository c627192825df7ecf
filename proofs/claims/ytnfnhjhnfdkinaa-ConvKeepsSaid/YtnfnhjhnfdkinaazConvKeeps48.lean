/-
  ConvKeeps: texts of this claim, put together by a program of this session. No conditions beyond what each lemma says.
-/
import Derived.Test.YtnfnhjhnfdkinaazConvKeeps47
namespace Go.Proofs.Ytnfnhjhnfdkinaa.PConvBack
open Go.RowKit Go.Proofs.YtnfnhjhnfdkinaaW.Mine Go.Proofs.YtnfnhjhnfdkinaaW.PrintWords Go.Proofs.YtnfnhjhnfdkinaaW.PrintLast Go.Proofs.YtnfnhjhnfdkinaaW.PrintMore
attribute [local go_sem] max2_int min2_int max_two min_two max_three min_three max_four min_four
set_option linter.unusedVariables false
set_option linter.unusedSimpArgs false
theorem dozen {w : World} {g : Nat} {v0 v1 v2 v3 v4 v5 v6 v7 v8 v9 v10 v11 : Value} {t : TypeId} (h : w.heap[g]? = some (.cells #[v0, v1, v2, v3, v4, v5, v6, v7, v8, v9, v10, v11] t (0, 0))) : (w.cell? ⟨g, 0, none⟩ = some v0 ∧ w.cell? ⟨g, 1, none⟩ = some v1 ∧ w.cell? ⟨g, 2, none⟩ = some v2 ∧ w.cell? ⟨g, 3, none⟩ = some v3 ∧ w.cell? ⟨g, 4, none⟩ = some v4 ∧ w.cell? ⟨g, 5, none⟩ = some v5 ∧ w.cell? ⟨g, 6, none⟩ = some v6 ∧ w.cell? ⟨g, 7, none⟩ = some v7 ∧ w.cell? ⟨g, 8, none⟩ = some v8 ∧ w.cell? ⟨g, 9, none⟩ = some v9 ∧ w.cell? ⟨g, 10, none⟩ = some v10 ∧ w.cell? ⟨g, 11, none⟩ = some v11) ∧ (w.frozen? ⟨g, 0, none⟩ = false ∧ w.frozen? ⟨g, 1, none⟩ = false ∧ w.frozen? ⟨g, 2, none⟩ = false ∧ w.frozen? ⟨g, 3, none⟩ = false ∧ w.frozen? ⟨g, 4, none⟩ = false ∧ w.frozen? ⟨g, 5, none⟩ = false ∧ w.frozen? ⟨g, 6, none⟩ = false ∧ w.frozen? ⟨g, 7, none⟩ = false ∧ w.frozen? ⟨g, 8, none⟩ = false ∧ w.frozen? ⟨g, 9, none⟩ = false ∧ w.frozen? ⟨g, 10, none⟩ = false ∧ w.frozen? ⟨g, 11, none⟩ = false) ∧ g < w.heap.size :=
  ⟨⟨(blk_cell h 0).trans rfl, (blk_cell h 1).trans rfl, (blk_cell h 2).trans rfl, (blk_cell h 3).trans rfl, (blk_cell h 4).trans rfl, (blk_cell h 5).trans rfl, (blk_cell h 6).trans rfl, (blk_cell h 7).trans rfl, (blk_cell h 8).trans rfl, (blk_cell h 9).trans rfl, (blk_cell h 10).trans rfl, (blk_cell h 11).trans rfl⟩, ⟨blk_frozen h 0, blk_frozen h 1, blk_frozen h 2, blk_frozen h 3, blk_frozen h 4, blk_frozen h 5, blk_frozen h 6, blk_frozen h 7, blk_frozen h 8, blk_frozen h 9, blk_frozen h 10, blk_frozen h 11⟩, blk_lt h⟩
/-- Seals, read. -/
def RS (w : World) (A : Option Addr) (c : Nat) (l : List Se) : Prop := kSe.C w A l.length l ∧ l.length ≤ c
theorem RS.below {w w1 : World} {A : Option Addr} {c : Nat} {l : List Se} (h : RS w A c l) (hb : Below w.heap.size w w1) : RS w1 A c l := ⟨Kd.C_below h.1 hb, h.2⟩
theorem selem2 {w : World} {A : Option Addr} {l : List Se} (h : kSe.C w A l.length l) (i : Nat) (hi : i < l.length) : ∃ ad A3 c3 A4 c4 A8 c8 A9 c9, A = some ad ∧ RT w l[i].f0 A3 c3 A4 c4 ∧ RT w l[i].f1 A8 c8 A9 c9
    ∧ w.cell? (ad.add (i * 12)) = some (.int .i64 l[i].f0.f0)
    ∧ w.cell? ⟨(ad.add (i * 12)).block, (ad.add (i * 12)).off + 1, none⟩ = some (.int .i64 l[i].f0.f1)
    ∧ w.cell? ⟨(ad.add (i * 12)).block, (ad.add (i * 12)).off + 2, none⟩ = some (.string l[i].f0.f2)
    ∧ w.cell? ⟨(ad.add (i * 12)).block, (ad.add (i * 12)).off + 3, none⟩ = some (.slice A3 l[i].f0.f3.length c3)
    ∧ w.cell? ⟨(ad.add (i * 12)).block, (ad.add (i * 12)).off + 4, none⟩ = some (.slice A4 l[i].f0.f4.length c4)
    ∧ w.cell? ⟨(ad.add (i * 12)).block, (ad.add (i * 12)).off + 5, none⟩ = some (.int .i64 l[i].f1.f0)
    ∧ w.cell? ⟨(ad.add (i * 12)).block, (ad.add (i * 12)).off + 6, none⟩ = some (.int .i64 l[i].f1.f1)
    ∧ w.cell? ⟨(ad.add (i * 12)).block, (ad.add (i * 12)).off + 7, none⟩ = some (.string l[i].f1.f2)
    ∧ w.cell? ⟨(ad.add (i * 12)).block, (ad.add (i * 12)).off + 8, none⟩ = some (.slice A8 l[i].f1.f3.length c8)
    ∧ w.cell? ⟨(ad.add (i * 12)).block, (ad.add (i * 12)).off + 9, none⟩ = some (.slice A9 l[i].f1.f4.length c9)
    ∧ w.cell? ⟨(ad.add (i * 12)).block, (ad.add (i * 12)).off + 10, none⟩ = some (.string l[i].f2.f0)
    ∧ w.cell? ⟨(ad.add (i * 12)).block, (ad.add (i * 12)).off + 11, none⟩ = some (.int .i64 l[i].f2.f1)
    := by
  obtain ⟨ad, A3, c3, A4, c4, A8, c8, A9, c9, e, h0, h1, h2, h3, h4, h5, h6, h7, h8, h9, h10, h11, g3, r3, g4, r4, g8, r8, g9, r9⟩ := at_T86 h (i : Int) (by omega) (by omega)
  have q : rd_T86 l (i : Int) = l[i] := getD_at _ l i hi
  rw [q] at h0 h1 h2 h3 h4 h5 h6 h7 h8 h9 h10 h11 g3 r3 g4 r4 g8 r8 g9 r9
  rw [Int.toNat_natCast] at h0 h1 h2 h3 h4 h5 h6 h7 h8 h9 h10 h11
  exact ⟨ad, A3, c3, A4, c4, A8, c8, A9, c9, e, ⟨g3, r3, g4, r4⟩, ⟨g8, r8, g9, r9⟩, h0, h1, h2, h3, h4, h5, h6, h7, h8, h9, h10, h11⟩
theorem lright_c {x : Ty} (o : Okt x) (ow : Okw x) : ∃ b : Bool, (b = true → Rp x) ∧ ∀ {A3 A4 : Option Addr} {c3 c4 : Nat} {w : World}, RT w x A3 c3 A4 c4 →
    Calls Try.prog 40 #[tv x A3 c3 A4 c4] w fun e w' => e = .returned (.bool b) ∧ Below w.heap.size w w' := by
  obtain ⟨r, hr, hp⟩ := okt_right o ow
  obtain ⟨k, hk⟩ := hr.rounds
  exact ⟨r, hp, fun h => (limbeckref04_Right.calls k x.f0 x.f1 x.f2 _ _ x.f3 _ _ x.f4 r _ h.2.1 h.1 h.2.2.2 h.2.2.1 hk).mono fun e w' k => k⟩
theorem lclosed_c {x : Ty} (o : Okt x) : ∃ b : Bool, ∀ {A3 A4 : Option Addr} {c3 c4 : Nat} {w : World}, RT w x A3 c3 A4 c4 →
    Calls Try.prog 73 #[tv x A3 c3 A4 c4] w fun e w' => e = .returned (.bool b) ∧ Below w.heap.size w w' := by
  obtain ⟨r, hr, _⟩ := closed_told o
  obtain ⟨k, hk⟩ := hr.rounds
  exact ⟨r, fun h => (limbeckref04_Closed.calls k x.f0 x.f1 x.f2 _ _ x.f3 _ _ x.f4 r _ h.2.1 h.1 h.2.2.2 h.2.2.1 hk).mono fun e w' k => k⟩
theorem lahead_c (n : Int) {x : Ty} (o : Okt x) : ∃ b : Bool, ∀ {A3 A4 : Option Addr} {c3 c4 : Nat} {w : World}, RT w x A3 c3 A4 c4 →
    Calls Try.prog 74 #[tv x A3 c3 A4 c4, .int .i64 n] w fun e w' => e = .returned (.bool b) ∧ Below w.heap.size w w' := by
  obtain ⟨r, hr, _⟩ := okt_ahead o n
  obtain ⟨k, hk⟩ := hr.rounds
  exact ⟨r, fun h => (limbeckref28_ahead.calls k x.f0 x.f1 x.f2 _ _ x.f3 _ _ x.f4 n r _ h.2.1 h.1 h.2.2.2 h.2.2.1 hk).mono fun e w' k => k⟩
/-- A truth; if it is so, the seals are as few as there may be. -/
def SOut (l : List Se) (w : World) (e : Ending) (w' : World) : Prop := ∃ b : Bool, e = .returned (.bool b) ∧ (b = true → l.length ≤ 1073741824) ∧ Below w.heap.size w w'
set_option maxHeartbeats 8000000 in
set_option maxRecDepth 100000 in
theorem rseals_c {l : List Se} (ol : Oks l) {A : Option Addr} {c : Nat} {w : World} (hL : RS w A c l) : Calls Try.prog 39 #[.slice A l.length c] w (SOut l w) := by
  have hl := ol.len
  have OL := Aside0.mk ol
  have b0 := Below.refl w.heap.size w
  clear ol
  go_enter Try.func39, Try.ntmps39
  go_wp2_with fail
  go_loopg [3] l.length (fun kq v3 w' => ∃ i : Nat, v3 = .int .i64 i ∧ kq + i = l.length ∧ Below w.heap.size w w')
  case atStart => exact ⟨0, rfl, rfl, Below.refl _ _⟩
  case round =>
    clear b0
    obtain ⟨i, rfl, hk, b1⟩ := hrel
    replace hL := hL.below b1
    by_cases hi : i < l.length
    · obtain ⟨k1, rfl⟩ : ∃ k1, gk = k1 + 1 := ⟨gk - 1, by omega⟩
      have ci : decide ((i : Int) < (l.length : Int)) = true := decide_eq_true (by omega)
      have ci2 : decide (i < l.length) = true := decide_eq_true hi
      have i0 : (0 : Int) ≤ (i : Int) := by omega
      have i1 : (i : Int) < (l.length : Int) := by omega
      have hm := List.getElem_mem hi
      obtain ⟨ad, X3, e3, X4, e4, X8, e8, X9, e9, hA, hr, hu, x0, x1, x2, x3, x4, x5, x6, x7, x8, x9, x10, x11⟩ := selem2 hL.1 i hi
      subst hA
      obtain ⟨r1, _, c1⟩ := lright_c (OL.out.rep _ hm) (OL.out.repw _ hm)
      obtain ⟨r2, c2⟩ := lclosed_c (OL.out.rep _ hm)
      obtain ⟨r3, c3⟩ := lahead_c (i : Int) (OL.out.rep _ hm)
      obtain ⟨r4, _, c4⟩ := lright_c (OL.out.up _ hm) (OL.out.upw _ hm)
      obtain ⟨r5, c5⟩ := lclosed_c (OL.out.up _ hm)
      obtain ⟨r6, c6⟩ := lahead_c 0 (OL.out.up _ hm)
      have C1 := Aside0.mk @c1
      have C2 := Aside0.mk @c2
      have C3 := Aside0.mk @c3
      have C4 := Aside0.mk @c4
      have C5 := Aside0.mk @c5
      have C6 := Aside0.mk @c6
      have HK := Aside0.mk hk
      clear c1 c2 c3 c4 c5 c6 hk hm
      generalize l[i] = z at *
      have kS := blk_new wr (.cells #[.int .i64 z.f0.f0, .int .i64 z.f0.f1, .string z.f0.f2, .slice X3 z.f0.f3.length e3, .slice X4 z.f0.f4.length e4, .int .i64 z.f1.f0, .int .i64 z.f1.f1, .string z.f1.f2, .slice X8 z.f1.f3.length e8, .slice X9 z.f1.f4.length e9, .string z.f2.f0, .int .i64 z.f2.f1] 86)
      have hb := below_alloc1 wr (.cells #[.int .i64 z.f0.f0, .int .i64 z.f0.f1, .string z.f0.f2, .slice X3 z.f0.f3.length e3, .slice X4 z.f0.f4.length e4, .int .i64 z.f1.f0, .int .i64 z.f1.f1, .string z.f1.f2, .slice X8 z.f1.f3.length e8, .slice X9 z.f1.f4.length e9, .string z.f2.f0, .int .i64 z.f2.f1] 86)
      have b_1 := chain b1 hb
      replace hL := hL.below hb
      replace hr := hr.below hb
      replace hu := hu.below hb
      clear b1
      clear hb
      obtain ⟨⟨Sc0, Sc1, Sc2, Sc3, Sc4, Sc5, Sc6, Sc7, Sc8, Sc9, Sc10, Sc11⟩, ⟨Sf0, Sf1, Sf2, Sf3, Sf4, Sf5, Sf6, Sf7, Sf8, Sf9, Sf10, Sf11⟩, Sl⟩ := dozen kS
      go_wp2_with fail
      refine (C1.out hr).mono ?_
      rintro e_ w_ ⟨rfl, hb⟩
      clear Sc0 Sc1 Sc2 Sc3 Sc4 Sc5 Sc6 Sc7 Sc8 Sc9 Sc10 Sc11 Sf0 Sf1 Sf2 Sf3 Sf4 Sf5 Sf6 Sf7 Sf8 Sf9 Sf10 Sf11 Sl
      have b_2 := chain b_1 hb
      replace kS := blk_below kS hb
      replace hL := hL.below hb
      replace hr := hr.below hb
      replace hu := hu.below hb
      clear b_1
      clear hb
      clear x0 x1 x2 x3 x4 x5 x6 x7 x8 x9 x10 x11
      cases r1 with
      | false =>
        obtain ⟨⟨Sc0, Sc1, Sc2, Sc3, Sc4, Sc5, Sc6, Sc7, Sc8, Sc9, Sc10, Sc11⟩, ⟨Sf0, Sf1, Sf2, Sf3, Sf4, Sf5, Sf6, Sf7, Sf8, Sf9, Sf10, Sf11⟩, Sl⟩ := dozen kS
        go_wp2
        go_ret
        exact ⟨false, rfl, (fun h => absurd h (by decide)), b_2⟩
      | true =>
        obtain ⟨⟨Sc0, Sc1, Sc2, Sc3, Sc4, Sc5, Sc6, Sc7, Sc8, Sc9, Sc10, Sc11⟩, ⟨Sf0, Sf1, Sf2, Sf3, Sf4, Sf5, Sf6, Sf7, Sf8, Sf9, Sf10, Sf11⟩, Sl⟩ := dozen kS
        go_wp2_with fail
        refine (C2.out hr).mono ?_
        rintro e_ w_ ⟨rfl, hb⟩
        clear Sc0 Sc1 Sc2 Sc3 Sc4 Sc5 Sc6 Sc7 Sc8 Sc9 Sc10 Sc11 Sf0 Sf1 Sf2 Sf3 Sf4 Sf5 Sf6 Sf7 Sf8 Sf9 Sf10 Sf11 Sl
        have b_3 := chain b_2 hb
        replace kS := blk_below kS hb
        replace hL := hL.below hb
        replace hr := hr.below hb
        replace hu := hu.below hb
        clear b_2
        clear hb
        cases r2 with
        | false =>
          obtain ⟨⟨Sc0, Sc1, Sc2, Sc3, Sc4, Sc5, Sc6, Sc7, Sc8, Sc9, Sc10, Sc11⟩, ⟨Sf0, Sf1, Sf2, Sf3, Sf4, Sf5, Sf6, Sf7, Sf8, Sf9, Sf10, Sf11⟩, Sl⟩ := dozen kS
          go_wp2
          go_ret
          exact ⟨false, rfl, (fun h => absurd h (by decide)), b_3⟩
        | true =>
          obtain ⟨⟨Sc0, Sc1, Sc2, Sc3, Sc4, Sc5, Sc6, Sc7, Sc8, Sc9, Sc10, Sc11⟩, ⟨Sf0, Sf1, Sf2, Sf3, Sf4, Sf5, Sf6, Sf7, Sf8, Sf9, Sf10, Sf11⟩, Sl⟩ := dozen kS
          go_wp2_with fail
          refine (C3.out hr).mono ?_
          rintro e_ w_ ⟨rfl, hb⟩
          clear Sc0 Sc1 Sc2 Sc3 Sc4 Sc5 Sc6 Sc7 Sc8 Sc9 Sc10 Sc11 Sf0 Sf1 Sf2 Sf3 Sf4 Sf5 Sf6 Sf7 Sf8 Sf9 Sf10 Sf11 Sl
          have b_4 := chain b_3 hb
          replace kS := blk_below kS hb
          replace hL := hL.below hb
          replace hr := hr.below hb
          replace hu := hu.below hb
          clear b_3
          clear hb
          cases r3 with
          | false =>
            obtain ⟨⟨Sc0, Sc1, Sc2, Sc3, Sc4, Sc5, Sc6, Sc7, Sc8, Sc9, Sc10, Sc11⟩, ⟨Sf0, Sf1, Sf2, Sf3, Sf4, Sf5, Sf6, Sf7, Sf8, Sf9, Sf10, Sf11⟩, Sl⟩ := dozen kS
            go_wp2
            go_ret
            exact ⟨false, rfl, (fun h => absurd h (by decide)), b_4⟩
          | true =>
            obtain ⟨⟨Sc0, Sc1, Sc2, Sc3, Sc4, Sc5, Sc6, Sc7, Sc8, Sc9, Sc10, Sc11⟩, ⟨Sf0, Sf1, Sf2, Sf3, Sf4, Sf5, Sf6, Sf7, Sf8, Sf9, Sf10, Sf11⟩, Sl⟩ := dozen kS
            go_wp2_with fail
            refine (C4.out hu).mono ?_
            rintro e_ w_ ⟨rfl, hb⟩
            clear Sc0 Sc1 Sc2 Sc3 Sc4 Sc5 Sc6 Sc7 Sc8 Sc9 Sc10 Sc11 Sf0 Sf1 Sf2 Sf3 Sf4 Sf5 Sf6 Sf7 Sf8 Sf9 Sf10 Sf11 Sl
            have b_5 := chain b_4 hb
            replace kS := blk_below kS hb
            replace hL := hL.below hb
            replace hr := hr.below hb
            replace hu := hu.below hb
            clear b_4
            clear hb
            cases r4 with
            | false =>
              obtain ⟨⟨Sc0, Sc1, Sc2, Sc3, Sc4, Sc5, Sc6, Sc7, Sc8, Sc9, Sc10, Sc11⟩, ⟨Sf0, Sf1, Sf2, Sf3, Sf4, Sf5, Sf6, Sf7, Sf8, Sf9, Sf10, Sf11⟩, Sl⟩ := dozen kS
              go_wp2
              go_ret
              exact ⟨false, rfl, (fun h => absurd h (by decide)), b_5⟩
            | true =>
              obtain ⟨⟨Sc0, Sc1, Sc2, Sc3, Sc4, Sc5, Sc6, Sc7, Sc8, Sc9, Sc10, Sc11⟩, ⟨Sf0, Sf1, Sf2, Sf3, Sf4, Sf5, Sf6, Sf7, Sf8, Sf9, Sf10, Sf11⟩, Sl⟩ := dozen kS
              go_wp2_with fail
              refine (C5.out hu).mono ?_
              rintro e_ w_ ⟨rfl, hb⟩
              clear Sc0 Sc1 Sc2 Sc3 Sc4 Sc5 Sc6 Sc7 Sc8 Sc9 Sc10 Sc11 Sf0 Sf1 Sf2 Sf3 Sf4 Sf5 Sf6 Sf7 Sf8 Sf9 Sf10 Sf11 Sl
              have b_6 := chain b_5 hb
              replace kS := blk_below kS hb
              replace hL := hL.below hb
              replace hr := hr.below hb
              replace hu := hu.below hb
              clear b_5
              clear hb
              cases r5 with
              | false =>
                obtain ⟨⟨Sc0, Sc1, Sc2, Sc3, Sc4, Sc5, Sc6, Sc7, Sc8, Sc9, Sc10, Sc11⟩, ⟨Sf0, Sf1, Sf2, Sf3, Sf4, Sf5, Sf6, Sf7, Sf8, Sf9, Sf10, Sf11⟩, Sl⟩ := dozen kS
                go_wp2
                go_ret
                exact ⟨false, rfl, (fun h => absurd h (by decide)), b_6⟩
              | true =>
                obtain ⟨⟨Sc0, Sc1, Sc2, Sc3, Sc4, Sc5, Sc6, Sc7, Sc8, Sc9, Sc10, Sc11⟩, ⟨Sf0, Sf1, Sf2, Sf3, Sf4, Sf5, Sf6, Sf7, Sf8, Sf9, Sf10, Sf11⟩, Sl⟩ := dozen kS
                go_wp2_with fail
                refine (C6.out hu).mono ?_
                rintro e_ w_ ⟨rfl, hb⟩
                clear Sc0 Sc1 Sc2 Sc3 Sc4 Sc5 Sc6 Sc7 Sc8 Sc9 Sc10 Sc11 Sf0 Sf1 Sf2 Sf3 Sf4 Sf5 Sf6 Sf7 Sf8 Sf9 Sf10 Sf11 Sl
                have b_7 := chain b_6 hb
                replace kS := blk_below kS hb
                replace hL := hL.below hb
                replace hr := hr.below hb
                replace hu := hu.below hb
                clear b_6
                clear hb
                cases r6 with
                | false =>
                  obtain ⟨⟨Sc0, Sc1, Sc2, Sc3, Sc4, Sc5, Sc6, Sc7, Sc8, Sc9, Sc10, Sc11⟩, ⟨Sf0, Sf1, Sf2, Sf3, Sf4, Sf5, Sf6, Sf7, Sf8, Sf9, Sf10, Sf11⟩, Sl⟩ := dozen kS
                  go_wp2
                  go_ret
                  exact ⟨false, rfl, (fun h => absurd h (by decide)), b_7⟩
                | true =>
                  obtain ⟨⟨Sc0, Sc1, Sc2, Sc3, Sc4, Sc5, Sc6, Sc7, Sc8, Sc9, Sc10, Sc11⟩, ⟨Sf0, Sf1, Sf2, Sf3, Sf4, Sf5, Sf6, Sf7, Sf8, Sf9, Sf10, Sf11⟩, Sl⟩ := dozen kS
                  have hw2 : wrap64 ((i : Int) + 1) = (i : Int) + 1 := wrap_ok (by omega) (by omega)
                  go_wp2
                  go_roundg k1
                  case measure => omega
                  case rel => exact ⟨i + 1, (by first | rfl | (simp; done) | (push_cast; rfl)), by have := HK.out; omega, b_7⟩
    · have cn : decide ((i : Int) < (l.length : Int)) = false := decide_eq_false (by omega)
      have cn2 : decide (i < l.length) = false := decide_eq_false hi
      clear hi
      go_wp2_with fail
      go_ret
      exact ⟨_, rfl, fun h => by have := of_decide_eq_true h; omega, b1⟩
end Go.Proofs.Ytnfnhjhnfdkinaa.PConvBack
