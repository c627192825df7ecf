/-
  SitesStay: texts of this claim, put together by a program of this session. No conditions beyond what each lemma says.
-/
import Derived.Test.YtlenfmnkbepoiaazSitesStay13
namespace Go.Proofs.Ytlenfmnkbepoiaa.PSitesTell
open Go.RowKit Go.Proofs.YtlenfmnkbepoiaaW.Mine Go.Proofs.YtlenfmnkbepoiaaW.PrintWords Go.Proofs.YtlenfmnkbepoiaaW.PrintLast Go.Proofs.YtlenfmnkbepoiaaW.PrintMore
attribute [local go_sem] max2_int min2_int max_two min_two max_three min_three max_four min_four
set_option linter.unusedVariables false
set_option linter.unusedSimpArgs false
def At (st : List (Ty × Int)) (k : Nat) (l : List (Ty × Int)) : Prop := ∀ j s, l[j]? = some s → st[k + j]? = some s
theorem At.left {st : List (Ty × Int)} {k : Nat} {a b : List (Ty × Int)} (h : At st k (a ++ b)) : At st k a := fun j s hj => h j s (by rw [List.getElem?_append_left (List.getElem?_eq_some_iff.1 hj).1]; exact hj)
theorem At.right {st : List (Ty × Int)} {k : Nat} {a b : List (Ty × Int)} (h : At st k (a ++ b)) : At st (k + a.length) b := fun j s hj => by
  rw [Nat.add_assoc]
  exact h _ s (by rw [List.getElem?_append_right (Nat.le_add_right _ _), Nat.add_sub_cancel_left]; exact hj)
def BoOut (Base : Nat → Prop) (J : Nat → (Nat → Prop) → World → Prop) (kn : Nat) (u : Ex) (O : Nat → Prop) (w : World) (e : Ending) (w' : World) : Prop :=
  ∃ (A4 : Option Addr) (c4 : Nat) (A5 : Option Addr) (c5 : Nat) (A6 : Option Addr) (c6 : Nat) (O' Pr : Nat → Prop), e = .returned (ev u A4 c4 A5 c5 A6 c6) ∧ FE w' (fun b => Base b ∨ Pr b) u A4 c4 A5 c5 A6 c6 ∧ (∀ b, Pr b → w.heap.size ≤ b ∧ b < w'.heap.size ∧ ¬ O' b) ∧ J kn O' w' ∧ (∀ b, O' b → O b ∨ w.heap.size ≤ b) ∧ Kq O w w'
theorem three (w : World) (a b c : Array Value) (t : TypeId) : (((w.alloc (.cells a t)).alloc (.cells b t)).alloc (.cells c t)).heap[w.heap.size]? = some (.cells a t (0, 0)) ∧ (((w.alloc (.cells a t)).alloc (.cells b t)).alloc (.cells c t)).heap[w.heap.size + 1]? = some (.cells b t (0, 0)) ∧ (((w.alloc (.cells a t)).alloc (.cells b t)).alloc (.cells c t)).heap[w.heap.size + 1 + 1]? = some (.cells c t (0, 0)) ∧ Below w.heap.size w (((w.alloc (.cells a t)).alloc (.cells b t)).alloc (.cells c t)) ∧ (((w.alloc (.cells a t)).alloc (.cells b t)).alloc (.cells c t)).heap.size = w.heap.size + 1 + 1 + 1 := by
  have h1 := blk_new w (.cells a t)
  have h2 := blk_new (w.alloc (.cells a t)) (.cells b t)
  have h3 := blk_new ((w.alloc (.cells a t)).alloc (.cells b t)) (.cells c t)
  have s1 := World.size_alloc w (.cells a t)
  have s2 := World.size_alloc (w.alloc (.cells a t)) (.cells b t)
  rw [s1] at h2
  rw [s2, s1] at h3
  refine ⟨blk_alloc (blk_alloc h1 _) _, blk_alloc h2 _, h3, ?_, by rw [World.size_alloc, s2, s1]⟩
  exact (((Below.refl _ w).alloc (Nat.le_refl _) _).alloc (by rw [s1]; omega) _).alloc (by rw [s2, s1]; omega) _
theorem numK_take : ∀ (l : List Ex) (i : Nat) (hi : i < l.length), numK (l.take (i + 1)) = numK (l.take i) + numE l[i]
  | a :: l, 0, _ => by simp [numK_cons, numK_nil]
  | a :: l, i + 1, h => by
    simp only [List.take_succ_cons, numK_cons, List.getElem_cons_succ]
    rw [numK_take l i (by simpa using h), Nat.add_assoc]
theorem turnK_take (F : Nat → Ty → Ty) : ∀ (l : List Ex) (k i : Nat) (hi : i < l.length), turnK F k (l.take (i + 1)) = turnK F k (l.take i) ++ [turnE F (k + numK (l.take i)) l[i]]
  | a :: l, k, 0, _ => by simp [turnK_cons, turnK_nil, numK_nil]
  | a :: l, k, i + 1, h => by
    simp only [List.take_succ_cons, turnK_cons, List.getElem_cons_succ, List.cons_append, numK_cons]
    rw [turnK_take F l (k + numE a) i (by simpa using h), Nat.add_assoc]
theorem FE.kq {w w1 : World} {ok S : Nat → Prop} {x : Ex} {A4 A5 A6 : Option Addr} {c4 c5 c6 : Nat} (h : FE w ok x A4 c4 A5 c5 A6 c6) (k : Kq S w w1) (hk : ∀ i, ok i → ¬ S i) : FE w1 ok x A4 c4 A5 c5 A6 c6 :=
  ⟨h.1, Kd.F_step h.2.1 (fun i ho hl => k.block i hl (hk i ho)), h.2.2.1, Kd.F_step h.2.2.2.1 (fun i ho hl => k.block i hl (hk i ho)), h.2.2.2.2.1, Kd.F_step h.2.2.2.2.2 (fun i ho hl => k.block i hl (hk i ho))⟩
theorem Kq.setrow7 {S : Nat → Prop} {w a : World} {g o : Nat} (h : Kq S w a) (hp : S g ∨ w.heap.size ≤ g) (v0 v1 v2 v3 v4 v5 v6 : Value) : Kq S w (((((((a.setCell ⟨g, o, none⟩ v0).setCell ⟨g, o + 1, none⟩ v1).setCell ⟨g, o + 2, none⟩ v2).setCell ⟨g, o + 3, none⟩ v3).setCell ⟨g, o + 4, none⟩ v4).setCell ⟨g, o + 5, none⟩ v5).setCell ⟨g, o + 6, none⟩ v6) := by
  have h0 := Kq.set (p := ⟨g, o, none⟩) h hp v0
  have h1 := Kq.set (p := ⟨g, o + 1, none⟩) h0 hp v1
  have h2 := Kq.set (p := ⟨g, o + 2, none⟩) h1 hp v2
  have h3 := Kq.set (p := ⟨g, o + 3, none⟩) h2 hp v3
  have h4 := Kq.set (p := ⟨g, o + 4, none⟩) h3 hp v4
  have h5 := Kq.set (p := ⟨g, o + 5, none⟩) h4 hp v5
  have h6 := Kq.set (p := ⟨g, o + 6, none⟩) h5 hp v6
  exact h6
theorem Kq.setrow5 {S : Nat → Prop} {w a : World} {g o : Nat} (h : Kq S w a) (hp : S g ∨ w.heap.size ≤ g) (v0 v1 v2 v3 v4 : Value) : Kq S w (((((a.setCell ⟨g, o, none⟩ v0).setCell ⟨g, o + 1, none⟩ v1).setCell ⟨g, o + 2, none⟩ v2).setCell ⟨g, o + 3, none⟩ v3).setCell ⟨g, o + 4, none⟩ v4) := by
  have h0 := Kq.set (p := ⟨g, o, none⟩) h hp v0
  have h1 := Kq.set (p := ⟨g, o + 1, none⟩) h0 hp v1
  have h2 := Kq.set (p := ⟨g, o + 2, none⟩) h1 hp v2
  have h3 := Kq.set (p := ⟨g, o + 3, none⟩) h2 hp v3
  have h4 := Kq.set (p := ⟨g, o + 4, none⟩) h3 hp v4
  exact h4
theorem ev_turn (F : Nat → Ty → Ty) (k : Nat) (x : Ex) (A4 : Option Addr) (c4 : Nat) (A5 : Option Addr) (c5 : Nat) (A6 : Option Addr) (c6 : Nat) : ev (turnE F k x) A4 c4 A5 c5 A6 c6 = .agg #[.int .i64 x.f0, .int .i64 x.f1, .string x.f2, .bool x.f3, .slice A4 x.f4.length c4, .slice A5 x.f5.length c5, .slice A6 x.f6.length c6] := by
  rw [turnE_eq]
  show Value.agg #[.int .i64 x.f0, .int .i64 x.f1, .string x.f2, .bool x.f3, .slice A4 (turnT F k x.f4).length c4, .slice A5 x.f5.length c5, .slice A6 (turnK F (k + x.f4.length) x.f6).length c6] = _
  rw [turnT_len, turnK_len]
set_option maxHeartbeats 8000000 in
set_option maxRecDepth 100000 in
theorem body_c {g : FuncId} {lb : Array Value} {F : Nat → Ty → Ty} {st : List (Ty × Int)} {Base : Nat → Prop} {J : Nat → (Nat → Prop) → World → Prop} (T : TurnC g lb F st Base J) : ∀ (m : Nat) (x : Ex), SizeOf.sizeOf x < m → So x → ∀ (k0 : Nat) (n0 : Int), At st k0 (sitesE n0 x) →
    ∀ (A4 : Option Addr) (c4 : Nat) (A5 : Option Addr) (c5 : Nat) (A6 : Option Addr) (c6 : Nat) (O : Nat → Prop) (w : World), (∀ b, Base b → b < w.heap.size) → FE w Base x A4 c4 A5 c5 A6 c6 → J k0 O w →
    Calls Try.prog 71 #[ev x A4 c4 A5 c5 A6 c6, .int .i64 n0, .func (.func g) #[] lb] w (BoOut Base J (k0 + numE x) (turnE F k0 x) O w)
  | 0, _, h, _ => absurd h (Nat.not_lt_zero _)
  | m + 1, x, hm, hso => by
    intro k0 n0 hst A4 c4 A5 c5 A6 c6 O w hB hf hJ
    obtain ⟨U, hU⟩ : ∃ U, turnE F k0 x = U := ⟨_, rfl⟩
    obtain ⟨kn, hkn⟩ : ∃ kn, k0 + numE x = kn := ⟨_, rfl⟩
    rw [hU, hkn]
    have HU0 := Aside0.mk hU
    have HKN := Aside0.mk hkn
    clear hU hkn
    have eg := T.enters
    have hO := T.own _ _ _ hJ
    have h4 := hso.types
    have h6 := hso.len
    have hlen : x.f4.length ≤ 9223372036854775807 := by omega
    obtain ⟨kE, kR, kX, b0, z0⟩ := three w (ecells x A4 c4 A5 c5 A6 c6) zecells (ecells x A4 c4 A5 c5 A6 c6) 31
    have hmk := made (P := Try.prog) Try.underlying24 info26 x.f4.length (by omega) hlen (((w.alloc (.cells (ecells x A4 c4 A5 c5 A6 c6) 31)).alloc (.cells zecells 31)).alloc (.cells (ecells x A4 c4 A5 c5 A6 c6) 31))
    rw [z0] at hmk
    obtain ⟨cur, hmk, hcs⟩ := hmk
    obtain ⟨kE', kR', kX', b0', z0'⟩ := three w (ecells x A4 c4 A5 c5 A6 c6) zecells (#[.int .i64 x.f0, .int .i64 x.f1, .string x.f2, .bool x.f3, .slice (some ⟨w.heap.size + 1 + 1 + 1, 0, none⟩) x.f4.length x.f4.length, .slice A5 x.f5.length c5, .slice A6 x.f6.length c6]) 31
    have bA := below_alloc1 (((w.alloc (.cells (ecells x A4 c4 A5 c5 A6 c6) 31)).alloc (.cells zecells 31)).alloc (.cells (#[.int .i64 x.f0, .int .i64 x.f1, .string x.f2, .bool x.f3, .slice (some ⟨w.heap.size + 1 + 1 + 1, 0, none⟩) x.f4.length x.f4.length, .slice A5 x.f5.length c5, .slice A6 x.f6.length c6]) 31)) (.cells cur 26)
    have kN := blk_new (((w.alloc (.cells (ecells x A4 c4 A5 c5 A6 c6) 31)).alloc (.cells zecells 31)).alloc (.cells (#[.int .i64 x.f0, .int .i64 x.f1, .string x.f2, .bool x.f3, .slice (some ⟨w.heap.size + 1 + 1 + 1, 0, none⟩) x.f4.length x.f4.length, .slice A5 x.f5.length c5, .slice A6 x.f6.length c6]) 31)) (.cells cur 26)
    rw [z0'] at kN
    have bw := b0'.trans (bA.mono (by rw [z0']; omega))
    have hF1 := Kd.F_below hf.2.1 bw
    obtain ⟨w2, hcp, hA, hq⟩ := copied (P := Try.prog) (c := c4) (cap := x.f4.length) (dT := 24) (sT := 24) (ty := 3) z26 hF1 hlen Try.underlying24 (info_sz info26) kN hcs rfl (fun k hk => by have := hB k hk; omega)
    obtain ⟨⟨p0, p1, p2, p3, p4, p5, p6⟩, _, lp⟩ := seven kE
    obtain ⟨⟨u0, u1, u2, u3, u4, u5, u6⟩, ⟨t0, t1, t2, t3, t4, t5, t6⟩, lu⟩ := seven kX
    obtain ⟨⟨p0', p1', p2', p3', p4', p5', p6'⟩, _, lp'⟩ := seven (hq.blk (blk_below kE' bA) (by omega))
    obtain ⟨⟨u0', u1', u2', u3', u4', u5', u6'⟩, _, lu'⟩ := seven (hq.blk (blk_below kX' bA) (by omega))
    replace kE := hq.blk (blk_below kE' bA) (by omega)
    replace kX := hq.blk (blk_below kX' bA) (by omega)
    replace kR := hq.blk (blk_below kR' bA) (by omega)
    have hq0 : Kq (fun b => b = w.heap.size + 1 + 1 + 1) w w2 := (Kq.of_below bw).trans hq
    have hJ2 := T.keep _ _ _ _ hJ (hq0.mono (fun b hb h => by subst hb; rcases h with h | h; (have := hB _ h; omega); (have := (hO _ h).1; omega)))
    have hqw : Kq O w w2 := hq0.less (fun b hb h => by omega)
    have sz2 : w.heap.size + 1 + 1 + 1 < w2.heap.size := hA.lt
    have HST := Aside0.mk hst
    have HB := Aside0.mk hB
    have HO0 := Aside0.mk hO
    have HF := Aside0.mk hf
    have HSO := Aside0.mk hso
    clear hst hF1 hJ hcs hq hq0 bA hB hO bw b0 b0' kE' kX' kR' kN z0' hf hso
    go_enter Try.func71, Try.ntmps71
    go_wp2_with fail
    clear hmk hcp p0 p1 p2 p3 p4 p5 p6 lp u0 u1 u2 u3 u4 u5 u6 t0 t1 t2 t3 t4 t5 t6 lu p0' p1' p2' p3' p4' p5' p6' lp' u0' u1' u2' u3' u4' u5' u6' lu'
    have hlt4 : AR kTy w2 Base 26 (w.heap.size + 1 + 1 + 1) (turnT F k0 (x.f4.take 0) ++ x.f4.drop 0) := by simpa [turnT] using hA
    clear hA
    go_loopg [26] x.f4.length (fun kq v26 w' => ∃ (i : Nat) (Ow : Nat → Prop), v26 = .int .i64 i ∧ kq + i = x.f4.length ∧ AR kTy w' Base 26 (w.heap.size + 1 + 1 + 1) (turnT F k0 (x.f4.take i) ++ x.f4.drop i) ∧ J (k0 + i) Ow w' ∧ (∀ b, Ow b → O b ∨ w.heap.size + 1 + 1 + 1 < b) ∧ Kq O w w' ∧
      w'.heap[w.heap.size]? = some (.cells (ecells x A4 c4 A5 c5 A6 c6) 31 (0, 0)) ∧ w'.heap[w.heap.size + 1]? = some (.cells zecells 31 (0, 0)) ∧ w'.heap[w.heap.size + 1 + 1]? = some (.cells (#[.int .i64 x.f0, .int .i64 x.f1, .string x.f2, .bool x.f3, .slice (some ⟨w.heap.size + 1 + 1 + 1, 0, none⟩) x.f4.length x.f4.length, .slice A5 x.f5.length c5, .slice A6 x.f6.length c6]) 31 (0, 0)))
    case atStart => exact ⟨0, O, rfl, rfl, hlt4, hJ2, fun b hb => .inl hb, hqw, kE, kR, kX⟩
    case round =>
      clear hlt4 hJ2 hqw sz2 kE kR kX
      obtain ⟨i, Ow, rfl, hk, hA, hJ, hOw, hqr, kE, kR, kX⟩ := hrel
      by_cases hi : i < x.f4.length
      · obtain ⟨k1, rfl⟩ : ∃ k1, gk = k1 + 1 := ⟨gk - 1, by omega⟩
        have ci : decide ((i : Int) < (x.f4.length : Int)) = true := decide_eq_true (by omega)
        have i0 : (0 : Int) ≤ (i : Int) := by omega
        have i1 : (i : Int) < (x.f4.length : Int) := by omega
        have hd : (turnT F k0 (x.f4.take i)).length = i := by rw [turnT_len, List.length_take]; omega
        have hi2 : i < (turnT F k0 (x.f4.take i) ++ x.f4.drop i).length := by rw [List.length_append, hd, List.length_drop]; omega
        obtain ⟨X3, e3, X4, e4, hft, ⟨x0, x1, x2, x3, x4⟩, -⟩ := hA.ty i hi2
        rw [tget_mid _ x.f4 i hi hd hi2] at hft x0 x1 x2 x3 x4
        obtain ⟨⟨u0, u1, u2, u3, u4, u5, u6⟩, _, lu⟩ := seven kX
        have hOb : ∀ b, O b → b < w.heap.size := fun b h => (HO0.out b h).1
        have hg : ¬ Ow (w.heap.size + 1 + 1 + 1) := fun h => by rcases hOw _ h with h | h; (have := hOb _ h; omega); omega
        have hgX : ¬ Ow (w.heap.size + 1 + 1) := fun h => by rcases hOw _ h with h | h; (have := hOb _ h; omega); omega
        have hgR : ¬ Ow (w.heap.size + 1) := fun h => by rcases hOw _ h with h | h; (have := hOb _ h; omega); omega
        have hgE : ¬ Ow (w.heap.size) := fun h => by rcases hOw _ h with h | h; (have := hOb _ h; omega); omega
        have hown := T.own _ _ _ hJ
        have hsl := hA.lt
        have HD := Aside0.mk hd
        have HI2 := Aside0.mk hi2
        have HA := Aside0.mk hA
        have HJ := Aside0.mk hJ
        have HFT := Aside0.mk hft
        have HOB := Aside0.mk hOb
        have HG := Aside0.mk (And.intro hg (And.intro hgX (And.intro hgR hgE)))
        have HW := Aside0.mk hown
        have HOW := Aside0.mk hOw
        clear hd hi2 hA hJ hft hOb hg hgX hgR hgE hown hOw
        go_wp2_with fail
        have kT := blk_new wr (.cells #[.int .i64 x.f4[i].f0, .int .i64 x.f4[i].f1, .string x.f4[i].f2, .slice X3 x.f4[i].f3.length e3, .slice X4 x.f4[i].f4.length e4] 26)
        have bX := below_alloc1 wr (.cells #[.int .i64 x.f4[i].f0, .int .i64 x.f4[i].f1, .string x.f4[i].f2, .slice X3 x.f4[i].f3.length e3, .slice X4 x.f4[i].f4.length e4] 26)
        have zX := World.size_alloc wr (.cells #[.int .i64 x.f4[i].f0, .int .i64 x.f4[i].f1, .string x.f4[i].f2, .slice X3 x.f4[i].f3.length e3, .slice X4 x.f4[i].f4.length e4] 26)
        replace kE := blk_below kE bX
        replace kR := blk_below kR bX
        replace kX := blk_below kX bX
        have hqX := hqr.trans (Kq.of_below bX)
        have HAX := Aside0.mk (HA.out.below bX)
        have HJX := Aside0.mk (T.keep _ _ _ _ HJ.out (Kq.of_below bX))
        have HFX := Aside0.mk (HFT.out.kq (Kq.of_below (S := fun _ => False) bX) (fun _ _ h => h))
        have hs : st[k0 + i]? = some (x.f4[i], n0) := HST.out i _ (by rw [sitesE_eq, List.getElem?_append_left (by rw [List.length_map]; exact hi), List.getElem?_map, List.getElem?_eq_getElem hi]; rfl)
        have HS := Aside0.mk hs
        have HOWX : Aside0 (∀ b, Ow b → b < wr.heap.size ∧ ¬ Base b) := HW
        clear hs x0 x1 x2 x3 x4 u0 u1 u2 u3 u4 u5 u6 lu hqr HA HJ HFT ci
        generalize hWX : wr.alloc _ = WX at kT kE kR kX hqX HAX HJX HFX zX ⊢
        generalize hgX : wr.heap.size = gX at kT hsl zX HOWX HW ⊢
        clear hWX bX
        obtain ⟨⟨p0, p1, p2, p3, p4⟩, _, lx⟩ := five kT
        obtain ⟨⟨_, _, _, _, u4, _, _⟩, _, lu'⟩ := seven kX
        have nX : ¬ (Ow gX ∨ gX = w.heap.size + 1 + 1 + 1) := fun h => by rcases h with h | h; (have := (HW.out _ h).1; omega); omega
        have nU : ¬ (Ow (w.heap.size + 1 + 1) ∨ w.heap.size + 1 + 1 = w.heap.size + 1 + 1 + 1) := fun h => by rcases h with h | h; exact HG.out.2.1 h; omega
        go_region_held3 (fun w' => Kq (fun b => Ow b ∨ b = w.heap.size + 1 + 1 + 1) WX w' ∧ w'.cell? ⟨gX, 0, none⟩ = some (.int .i64 x.f4[i].f0) ∧ w'.cell? ⟨gX, 1, none⟩ = some (.int .i64 x.f4[i].f1) ∧ w'.cell? ⟨gX, 2, none⟩ = some (.string x.f4[i].f2) ∧ w'.cell? ⟨gX, 3, none⟩ = some (.slice X3 x.f4[i].f3.length e3) ∧ w'.cell? ⟨gX, 4, none⟩ = some (.slice X4 x.f4[i].f4.length e4) ∧ w'.cell? ⟨w.heap.size + 1 + 1, 4, none⟩ = some (.slice (some ⟨w.heap.size + 1 + 1 + 1, 0, none⟩) x.f4.length x.f4.length))
          ((refine and_of' (fun hK_ => ⟨hK_.cell p0 nX, hK_.cell p1 nX, hK_.cell p2 nX, hK_.cell p3 nX, hK_.cell p4 nX, hK_.cell u4 nU⟩) ?_; first | (with_reducible exact Kq.setrow5 (And.left (by assumption)) (.inl (.inr rfl)) _ _ _ _ _) | (with_reducible exact Kq.of_below (Below.refl _ _).drew) | (with_reducible exact Kq.trans (And.left (by assumption)) (Kq.mono (by assumption) (fun k hk => .inl hk)))))
          (first
            | (rw [eg, Oper.upon_enter]; refine (T.at HS.out (T.keep _ _ _ _ HJX.out (Kq.of_below (Below.refl _ _).drew)) (HFX.out.kq (Kq.of_below (S := fun _ => False) (Below.refl _ _).drew) (fun _ _ h => h))).mono ?_; rintro e w5 ⟨C3, d3, C4, d4, O', rfl, hu, hJ', hO', hq'⟩; obtain ⟨Y3, j3, Y4, j4, -, ⟨y0, y1, y2, y3, y4⟩, ⟨s0, s1, s2, s3, s4⟩⟩ := ((HAX.out.kq (S := fun _ => False) (Kq.of_below (Below.refl _ _).drew) (fun h => h) (fun _ _ h => h)).kq hq' HG.out.1 (fun b hb h => (HW.out b h).2 hb)).ty i HI2.out))
        rename_i hH
        have hA5 := (HAX.out.kq (S := fun _ => False) (Kq.of_below (Below.refl _ _).drew) (fun h => h) (fun _ _ h => h)).kq hq' HG.out.1 (fun b hb h => (HW.out b h).2 hb)
        have hp := hA5.put_ty i HI2.out hu (fun b hb => by have := HB.out b hb; omega)
        have hH1 := hH.1
        have hz : WX.drew.heap.size = WX.heap.size := rfl
        have hgo : ¬ O' (w.heap.size + 1 + 1 + 1) := fun h => by rcases hO' _ h with h | h; exact HG.out.1 h; omega
        have hk5 : Kq (fun b => b = w.heap.size + 1 + 1 + 1) w5 (((((w5.setCell ⟨w.heap.size + 1 + 1 + 1, i * 5, none⟩ (.int .i64 (F (k0 + i) x.f4[i]).f0)).setCell ⟨w.heap.size + 1 + 1 + 1, i * 5 + 1, none⟩ (.int .i64 (F (k0 + i) x.f4[i]).f1)).setCell ⟨w.heap.size + 1 + 1 + 1, i * 5 + 2, none⟩ (.string (F (k0 + i) x.f4[i]).f2)).setCell ⟨w.heap.size + 1 + 1 + 1, i * 5 + 3, none⟩ (.slice C3 (F (k0 + i) x.f4[i]).f3.length d3)).setCell ⟨w.heap.size + 1 + 1 + 1, i * 5 + 4, none⟩ (.slice C4 (F (k0 + i) x.f4[i]).f4.length d4)) := ((((((((((Kq.refl (fun b => b = w.heap.size + 1 + 1 + 1) w5).set (p := ⟨w.heap.size + 1 + 1 + 1, i * 5, none⟩) (Or.inl (Eq.refl (w.heap.size + 1 + 1 + 1))) _)).set (p := ⟨w.heap.size + 1 + 1 + 1, i * 5 + 1, none⟩) (Or.inl (Eq.refl (w.heap.size + 1 + 1 + 1))) _)).set (p := ⟨w.heap.size + 1 + 1 + 1, i * 5 + 2, none⟩) (Or.inl (Eq.refl (w.heap.size + 1 + 1 + 1))) _)).set (p := ⟨w.heap.size + 1 + 1 + 1, i * 5 + 3, none⟩) (Or.inl (Eq.refl (w.heap.size + 1 + 1 + 1))) _)).set (p := ⟨w.heap.size + 1 + 1 + 1, i * 5 + 4, none⟩) (Or.inl (Eq.refl (w.heap.size + 1 + 1 + 1))) _)
        have hJ2 := T.keep _ _ _ _ hJ' (hk5.mono (fun b hb h => by subst hb; rcases h with h | h; (have := HB.out _ h; omega); exact hgo h))
        rw [tset_mid _ x.f4 i hi HD.out, ← turnT_take F x.f4 k0 i hi] at hp
        have hqn := hqX.then hH1 (fun b hb h => by rcases h with h | h; (rcases HOW.out b h with h | h; exact h; omega); omega)
        have hOn : ∀ b, O' b → O b ∨ w.heap.size + 1 + 1 + 1 < b := fun b hb => by rcases hO' b hb with h | h; exact HOW.out b h; exact .inr (by omega)
        replace kE := hH1.blk kE (fun h => by rcases h with h | h; exact HG.out.2.2.2 h; omega)
        replace kR := hH1.blk kR (fun h => by rcases h with h | h; exact HG.out.2.2.1 h; omega)
        replace kX := hH1.blk kX nU
        clear hH hA5 hH1 hk5 hu hJ' hq' hqX p0 p1 p2 p3 p4 lx u4 lu' kT y0 y1 y2 y3 y4 s0 s1 s2 s3 s4 nX nU HAX HJX HFX HS zX hz hgo hO'
        generalize hX1 : World.setCell (World.setCell _ _ _) ⟨_, i * 5 + 4, none⟩ _ = X1 at hp hJ2 hqn kE kR kX ⊢
        have HP := Aside0.mk hp
        have HJ2 := Aside0.mk hJ2
        have HQN := Aside0.mk hqn
        have HON := Aside0.mk hOn
        have hw2 : wrap64 ((i : Int) + 1) = (i : Int) + 1 := wrap_in (by omega) (by omega)
        clear hp hJ2 hqn hOn hX1
        go_wp2
        go_roundg k1
        case measure => omega
        case rel => exact ⟨i + 1, O', (by first | rfl | (rw [hw2]; rfl) | (rw [hw2]; push_cast; rfl)), by omega, HP.out, HJ2.out, HON.out, HQN.out, kE, kR, kX⟩
      · have cn : decide ((i : Int) < (x.f4.length : Int)) = false := decide_eq_false (by omega)
        have cn2 : decide (i < x.f4.length) = false := decide_eq_false (by omega)
        have e1 : x.f4.take i = x.f4 := List.take_of_length_le (by omega)
        have e2 : x.f4.drop i = [] := List.drop_eq_nil_of_le (by omega)
        rw [e1, e2, List.append_nil] at hA
        have ei : i = x.f4.length := by omega
        rw [ei] at hJ
        have hsl := hA.lt
        have hBr : ∀ b, Base b → b < wr.heap.size := fun b hb => Nat.lt_of_lt_of_le (HB.out b hb) hqr.size
        have hF6 := Kd.F_step HF.out.2.2.2.2.2 (fun b hb hl => hqr.block b hl (fun ho => (HO0.out b ho).2 hb))
        have hc6 := HF.out.2.2.2.2.1
        have hOb : ∀ b, O b → b < w.heap.size := fun b h => (HO0.out b h).1
        obtain ⟨⟨p0, p1, p2, p3, p4, p5, p6⟩, _, lp⟩ := seven kE
        obtain ⟨⟨u0, u1, u2, u3, u4, u5, u6⟩, ⟨t0, t1, t2, t3, t4, t5, t6⟩, lu⟩ := seven kX
        have HA := Aside0.mk hA
        have HJ := Aside0.mk hJ
        have HOW := Aside0.mk hOw
        clear hA hJ hOw e1 e2 ei hk hi
        go_wp2_with fail
        go_call (kclone_c x.f6 A6 c6 Base _ hF6 hBr hc6 h6) as e w3 ⟨v, he, hK, hb3⟩
        subst he
        obtain ⟨Av, cv, rfl, hcv⟩ := hK.slice
        have kE3 := blk_below kE hb3
        have kR3 := blk_below kR hb3
        have kX3 := blk_below kX hb3
        have kE4 := blk_far kE3 (p := ⟨w.heap.size + 1 + 1, 6, none⟩) (by dsimp only; omega) (.slice Av x.f6.length cv)
        have kR4 := blk_far kR3 (p := ⟨w.heap.size + 1 + 1, 6, none⟩) (by dsimp only; omega) (.slice Av x.f6.length cv)
        have kX4 : (w3.setCell ⟨w.heap.size + 1 + 1, 6, none⟩ (.slice Av x.f6.length cv)).heap[w.heap.size + 1 + 1]? = some (.cells (#[.int .i64 x.f0, .int .i64 x.f1, .string x.f2, .bool x.f3, .slice (some ⟨w.heap.size + 1 + 1 + 1, 0, none⟩) x.f4.length x.f4.length, .slice A5 x.f5.length c5, .slice Av x.f6.length cv]) 31 (0, 0)) := blk_set kX3 6 (.slice Av x.f6.length cv)
        have hk4 : Kq (fun b => b = w.heap.size + 1 + 1) wr (w3.setCell ⟨w.heap.size + 1 + 1, 6, none⟩ (.slice Av x.f6.length cv)) := (Kq.of_below (S := fun b => b = w.heap.size + 1 + 1) hb3).set (p := ⟨w.heap.size + 1 + 1, 6, none⟩) (Or.inl (Eq.refl (w.heap.size + 1 + 1))) _
        have hnO : ¬ Ow (w.heap.size + 1 + 1) := fun h => by rcases HOW.out _ h with h | h; (have := hOb _ h; omega); omega
        have hA4 := HA.out.kq hk4 (by omega) (fun b hb => by have := HB.out b hb; omega)
        have hJ4 := T.keep _ _ _ _ HJ.out (hk4.mono (fun b hb h => by subst hb; rcases h with h | h; (have := HB.out _ h; omega); exact hnO h))
        have hlow := hK.low
        have hq4 : Kq O w (w3.setCell ⟨w.heap.size + 1 + 1, 6, none⟩ (.slice Av x.f6.length cv)) := hqr.then hk4 (fun b hb h => by omega)
        have hs34 : Kq (fun b => b = w.heap.size + 1 + 1) w3 (w3.setCell ⟨w.heap.size + 1 + 1, 6, none⟩ (.slice Av x.f6.length cv)) := (Kq.refl (fun b => b = w.heap.size + 1 + 1) _).set (p := ⟨w.heap.size + 1 + 1, 6, none⟩) (Or.inl (Eq.refl (w.heap.size + 1 + 1))) _
        have hK4 := hK.kq hs34 (fun b hb h => by have := hlow b hb; omega) (fun b hb => by have := HB.out b hb; omega) (fun b hb => hb.elim)
        have hlo4 := hK4.lt
        have hown4 := T.own _ _ _ hJ4
        have hnK : ∀ k, Value.ownBlock (.slice Av x.f6.length cv) = some k → ¬ Ow k := fun k hk ho => by have h1 := hlow k hk; have h2 := (T.own _ _ _ HJ.out k ho).1; omega
        have hlow2 : ∀ k, Value.ownBlock (.slice Av x.f6.length cv) = some k → w.heap.size + 1 + 1 + 1 < k := fun k hk => by have h1 := hlow k hk; omega
        have hr4 : w.heap.size + 1 + 1 + 1 < (w3.setCell ⟨w.heap.size + 1 + 1, 6, none⟩ (.slice Av x.f6.length cv)).heap.size := hA4.lt
        have hOw4 : ∀ b, Ow b → O b ∨ w.heap.size + 1 + 1 + 1 < b := HOW.out
        clear p0 p1 p2 p3 p4 p5 p6 lp u0 u1 u2 u3 u4 u5 u6 t0 t1 t2 t3 t4 t5 t6 lu kE kR kX kE3 kR3 HA HJ HOW hK hs34
        obtain ⟨⟨u0, u1, u2, u3, u4, u5, u6⟩, ⟨t0, t1, t2, t3, t4, t5, t6⟩, lu⟩ := seven kX3
        obtain ⟨⟨v0, v1, v2, v3, v4, v5, v6⟩, _, lv⟩ := seven kX4
        have H4 := Aside0.mk (And.intro hA4 (And.intro hJ4 (And.intro hq4 (And.intro hK4 (And.intro hlo4 hown4)))))
        clear hA4 hJ4 hq4 hK4 hlo4 hown4 hk4
        go_wp2_with fail
        clear u0 u1 u2 u3 u4 u5 u6 t0 t1 t2 t3 t4 t5 t6 lu v0 v1 v2 v3 v4 v5 v6 lv kX3 hb3 hF6 hqr cn cn2 hlow
        have hz0 := h6
        generalize hX0 : World.setCell _ _ _ = W4 at kE4 kR4 kX4 H4 hr4 ⊢
        clear hX0
        have hatK : At st (k0 + x.f4.length + numK (x.f6.take 0)) (sitesK (wrap64 (n0 + 1)) (x.f6.drop 0)) := by
          have h := HST.out
          rw [sitesE_eq] at h
          have h2 := h.right
          rw [List.length_map] at h2
          rw [List.take_zero, numK_nil, List.drop_zero, Nat.add_zero]
          exact h2
        have HAT := Aside0.mk hatK
        have hK0 : KR W4 Base (fun _ => False) (.slice Av x.f6.length cv) 0 (turnK F (k0 + x.f4.length) (x.f6.take 0) ++ x.f6.drop 0) wr.heap.size := by rw [List.take_zero, turnK_nil, List.drop_zero, List.nil_append]; exact H4.out.2.2.2.1
        have HK0 := Aside0.mk hK0
        have hJ0 : J (k0 + x.f4.length + numK (x.f6.take 0)) Ow W4 := by rw [List.take_zero, numK_nil, Nat.add_zero]; exact H4.out.2.1
        have HJ0 := Aside0.mk hJ0
        have HNK := Aside0.mk hnK
        have HOW4 := Aside0.mk hOw4
        have HOB := Aside0.mk hOb
        have HBR := Aside0.mk hBr
        have HLOW := Aside0.mk hlow2
        clear hatK hK0 hJ0 hnK hOw4 hOb hBr hlow2 hr4
        go_loopg [1, 49] x.f6.length (fun kq v1 v49 w' => ∃ (i : Nat) (O2 Pr : Nat → Prop) (nn : Int), v49 = .int .i64 i ∧ v1 = .int .i64 nn ∧ kq + i = x.f6.length ∧ Aside0 (At st (k0 + x.f4.length + numK (x.f6.take i)) (sitesK nn (x.f6.drop i))) ∧
          Aside0 (KR w' Base Pr (.slice Av x.f6.length cv) i (turnK F (k0 + x.f4.length) (x.f6.take i) ++ x.f6.drop i) wr.heap.size) ∧
          Aside0 (∀ b, Pr b → w.heap.size + 1 + 1 + 1 < b ∧ b < w'.heap.size ∧ ¬ O2 b ∧ some b ≠ Value.ownBlock (.slice Av x.f6.length cv)) ∧ Aside0 (∀ k, Value.ownBlock (.slice Av x.f6.length cv) = some k → ¬ O2 k) ∧
          Aside0 (AR kTy w' Base 26 (w.heap.size + 1 + 1 + 1) (turnT F k0 x.f4)) ∧ Aside0 (J (k0 + x.f4.length + numK (x.f6.take i)) O2 w') ∧ Aside0 (∀ b, O2 b → O b ∨ w.heap.size + 1 + 1 + 1 < b) ∧ Kq O w w' ∧
          w'.heap[w.heap.size]? = some (.cells (ecells x A4 c4 A5 c5 A6 c6) 31 (0, 0)) ∧ w'.heap[w.heap.size + 1]? = some (.cells zecells 31 (0, 0)) ∧ w'.heap[w.heap.size + 1 + 1]? = some (.cells (#[.int .i64 x.f0, .int .i64 x.f1, .string x.f2, .bool x.f3, .slice (some ⟨w.heap.size + 1 + 1 + 1, 0, none⟩) x.f4.length x.f4.length, .slice A5 x.f5.length c5, .slice Av x.f6.length cv]) 31 (0, 0)))
        case atStart => exact ⟨0, Ow, fun _ => False, wrap64 (n0 + 1), rfl, rfl, rfl, HAT, HK0, ⟨fun b hb => hb.elim⟩, HNK, ⟨H4.out.1⟩, HJ0, HOW4, H4.out.2.2.1, kE4, kR4, kX4⟩
        case round =>
          clear kE4 kR4 kX4 H4 HAT HK0 HJ0 HNK HOW4
          obtain ⟨i, O2, Pr, nn, rfl, rfl, hk, HAT, HK, HPR, HNK, HA, HJ, HO2, hqr, kE, kR, kX⟩ := hrel
          by_cases hi : i < x.f6.length
          · obtain ⟨k1, rfl⟩ : ∃ k1, gk = k1 + 1 := ⟨gk - 1, by omega⟩
            have ci : decide ((i : Int) < (x.f6.length : Int)) = true := decide_eq_true (by omega)
            have i0 : (0 : Int) ≤ (i : Int) := by omega
            have i1 : (i : Int) < (x.f6.length : Int) := by omega
            have hd : (turnK F (k0 + x.f4.length) (x.f6.take i)).length = i := by rw [turnK_len, List.length_take]; omega
            have hi2 : i < (turnK F (k0 + x.f4.length) (x.f6.take i) ++ x.f6.drop i).length := by rw [List.length_append, hd, List.length_drop]; omega
            obtain ⟨gv, cap, hv, hgv1, hgv2⟩ := HK.out.form (by omega)
            injection hv with hAv hln hcp
            clear hln hcp
            subst hAv
            obtain ⟨X4, e4, X5, e5, X6, e6, hfe, ⟨x0, x1, x2, x3, x4, x5, x6⟩, -⟩ := HK.out.ex i (Nat.le_refl _) hi2
            rw [eget_mid _ x.f6 i hi hd hi2] at hfe x0 x1 x2 x3 x4 x5 x6
            have hgl : w.heap.size + 1 + 1 + 1 < gv := HLOW.out gv (by simp [Value.ownBlock])
            have hgO : ¬ O2 gv := HNK.out gv (by simp [Value.ownBlock])
            have hob : ∀ b, O b → b < w.heap.size := HOB.out
            have hgX : ¬ O2 (w.heap.size + 1 + 1) := fun h => by rcases HO2.out _ h with h | h; (have := hob _ h; omega); omega
            have hgR : ¬ O2 (w.heap.size + 1) := fun h => by rcases HO2.out _ h with h | h; (have := hob _ h; omega); omega
            have hgE : ¬ O2 (w.heap.size) := fun h => by rcases HO2.out _ h with h | h; (have := hob _ h; omega); omega
            have hgT : ¬ O2 (w.heap.size + 1 + 1 + 1) := fun h => by rcases HO2.out _ h with h | h; (have := hob _ h; omega); omega
            have hown := T.own _ _ _ HJ.out
            have hsl := HA.out.lt
            have HFE := Aside0.mk hfe
            have HD := Aside0.mk hd
            have HI2 := Aside0.mk hi2
            have HW := Aside0.mk hown
            have HG := Aside0.mk (And.intro hgO (And.intro hgX (And.intro hgR (And.intro hgE hgT))))
            clear hd hi2 hfe hown hob hgO hgX hgR hgE hgT
            go_wp2_with fail
            have kT := blk_new wr (.cells #[.int .i64 x.f6[i].f0, .int .i64 x.f6[i].f1, .string x.f6[i].f2, .bool x.f6[i].f3, .slice X4 x.f6[i].f4.length e4, .slice X5 x.f6[i].f5.length e5, .slice X6 x.f6[i].f6.length e6] 31)
            have bX := below_alloc1 wr (.cells #[.int .i64 x.f6[i].f0, .int .i64 x.f6[i].f1, .string x.f6[i].f2, .bool x.f6[i].f3, .slice X4 x.f6[i].f4.length e4, .slice X5 x.f6[i].f5.length e5, .slice X6 x.f6[i].f6.length e6] 31)
            have zX := World.size_alloc wr (.cells #[.int .i64 x.f6[i].f0, .int .i64 x.f6[i].f1, .string x.f6[i].f2, .bool x.f6[i].f3, .slice X4 x.f6[i].f4.length e4, .slice X5 x.f6[i].f5.length e5, .slice X6 x.f6[i].f6.length e6] 31)
            replace kE := blk_below kE bX
            replace kR := blk_below kR bX
            replace kX := blk_below kX bX
            have hqX := hqr.trans (Kq.of_below bX)
            have HAX := Aside0.mk (HA.out.below bX)
            have HKX := Aside0.mk (HK.out.below bX)
            have HJX := Aside0.mk (T.keep _ _ _ _ HJ.out (Kq.of_below bX))
            have HFX := Aside0.mk (HFE.out.below bX)
            have hat := HAT.out
            rw [List.drop_eq_getElem_cons hi, sitesK_cons] at hat
            have HAL := Aside0.mk hat.left
            have HAR := Aside0.mk hat.right
            have hsz : SizeOf.sizeOf x.f6[i] < m := by have := size_kidsE x x.f6[i] (List.getElem_mem hi); omega
            have hsok := HSO.out.all _ (List.getElem_mem hi)
            clear hat x0 x1 x2 x3 x4 x5 x6 hqr HA HK HJ HFE ci HAT
            have hzW : w.heap.size ≤ wr.heap.size := by omega
            generalize hWX : wr.alloc _ = WX at kT kE kR kX hqX HAX HKX HJX HFX zX ⊢
            generalize hgX : wr.heap.size = gX at kT hsl zX HW hgv2 hzW HPR ⊢
            clear hWX bX
            obtain ⟨⟨p0, p1, p2, p3, p4, p5, p6⟩, _, lx⟩ := seven kT
            obtain ⟨⟨_, _, _, _, _, _, u6⟩, _, lu'⟩ := seven kX
            have nX : ¬ (O2 gX ∨ gX = gv) := fun h => by rcases h with h | h; (have := (HW.out _ h).1; omega); omega
            have nU : ¬ (O2 (w.heap.size + 1 + 1) ∨ w.heap.size + 1 + 1 = gv) := fun h => by rcases h with h | h; exact HG.out.2.1 h; omega
            have hBX : ∀ b, Base b → b < WX.heap.size := fun b hb => by have := HB.out b hb; omega
            have hc := body_c T m x.f6[i] hsz hsok _ nn HAL.out X4 e4 X5 e5 X6 e6 O2 WX.drew hBX (HFX.out.below (Below.refl _ _).drew) (T.keep _ _ _ _ HJX.out (Kq.of_below (Below.refl _ _).drew))
            obtain ⟨V, hV⟩ : ∃ V, turnE F (k0 + x.f4.length + numK (x.f6.take i)) x.f6[i] = V := ⟨_, rfl⟩
            obtain ⟨kv, hkv⟩ : ∃ kv, k0 + x.f4.length + numK (x.f6.take i) + numE x.f6[i] = kv := ⟨_, rfl⟩
            rw [hV, hkv] at hc
            have HV := Aside0.mk hV
            have HKV := Aside0.mk hkv
            have HC := Aside0.mk hc
            clear hV hkv hc
            go_region_held3 (fun w' => Kq (fun b => O2 b ∨ b = gv) WX w' ∧ w'.cell? ⟨gX, 0, none⟩ = some (.int .i64 x.f6[i].f0) ∧ w'.cell? ⟨gX, 1, none⟩ = some (.int .i64 x.f6[i].f1) ∧ w'.cell? ⟨gX, 2, none⟩ = some (.string x.f6[i].f2) ∧ w'.cell? ⟨gX, 3, none⟩ = some (.bool x.f6[i].f3) ∧ w'.cell? ⟨gX, 4, none⟩ = some (.slice X4 x.f6[i].f4.length e4) ∧ w'.cell? ⟨gX, 5, none⟩ = some (.slice X5 x.f6[i].f5.length e5) ∧ w'.cell? ⟨gX, 6, none⟩ = some (.slice X6 x.f6[i].f6.length e6) ∧ w'.cell? ⟨w.heap.size + 1 + 1, 6, none⟩ = some (.slice (some ⟨gv, 0, none⟩) x.f6.length cv))
              ((refine and_of' (fun hK_ => ⟨hK_.cell p0 nX, hK_.cell p1 nX, hK_.cell p2 nX, hK_.cell p3 nX, hK_.cell p4 nX, hK_.cell p5 nX, hK_.cell p6 nX, hK_.cell u6 nU⟩) ?_; first | (with_reducible exact Kq.setrow7 (And.left (by assumption)) (.inl (.inr rfl)) _ _ _ _ _ _ _) | (with_reducible exact Kq.of_below (Below.refl _ _).drew) | (with_reducible exact Kq.trans (And.left (by assumption)) (Kq.mono (by assumption) (fun k hk => .inl hk)))))
              (first
                | (go_at_call 71; refine HC.out.mono ?_; rintro e w5 ⟨C4, d4, C5, d5, C6, d6, O', Pr', rfl, hu, hpr', hJ', hO', hq'⟩; obtain ⟨Y4, j4, Y5, j5, Y6, j6, -, ⟨y0, y1, y2, y3, y4, y5, y6⟩, ⟨s0, s1, s2, s3, s4, s5, s6⟩⟩ := ((HKX.out.below (Below.refl _ _).drew).kq hq' HNK.out (fun b hb h => (HW.out b h).2 hb) (fun b hb => (HPR.out b hb).2.2.1)).ex i (Nat.le_refl _) HI2.out; have HPN := Aside0.mk hpr'; have HU := Aside0.mk hu; have HJN := Aside0.mk hJ'; have HON := Aside0.mk hO'; clear hpr' hu hJ' hO'))
            rename_i hH
            have hz : WX.drew.heap.size = WX.heap.size := rfl
            have hKM := ((HKX.out.below (Below.refl _ _).drew).kq hq' HNK.out (fun b hb h => (HW.out b h).2 hb) (fun b hb => (HPR.out b hb).2.2.1)).mono (Pr' := fun b => Pr b ∨ Pr' b) (fun b hb => .inl hb)
            have hPg : ∀ b, Pr b → b ≠ gv := fun b hb he => (HPR.out b hb).2.2.2 (by rw [he]; simp [Value.ownBlock])
            have hp := (hKM.put HI2.out (u := V) (HU.out.mono (fun b hb => by rcases hb with hb | hb; exact .inl hb; exact .inr (.inr hb))) (fun b hb => by have := HB.out b hb; omega) (fun b hb => by rcases hb with hb | hb; exact hPg b hb; (have := (HPN.out b hb).1; omega))).1
            rw [setCells7, eset_mid _ x.f6 i hi HD.out, ← HV.out, ← turnK_take F x.f6 _ i hi, HV.out] at hp
            have hH1 := hH.1
            have hgo : ¬ O' gv := fun h => by rcases HON.out _ h with h | h; exact HG.out.1 h; omega
            have hk5 : Kq (fun b => b = gv) w5 (((((((w5.setCell ⟨gv, i * 7, none⟩ (.int .i64 V.f0)).setCell ⟨gv, i * 7 + 1, none⟩ (.int .i64 V.f1)).setCell ⟨gv, i * 7 + 2, none⟩ (.string V.f2)).setCell ⟨gv, i * 7 + 3, none⟩ (.bool V.f3)).setCell ⟨gv, i * 7 + 4, none⟩ (.slice C4 V.f4.length d4)).setCell ⟨gv, i * 7 + 5, none⟩ (.slice C5 V.f5.length d5)).setCell ⟨gv, i * 7 + 6, none⟩ (.slice C6 V.f6.length d6)) := Kq.setrow7 (Kq.refl (fun b => b = gv) w5) (.inl (Eq.refl gv)) _ _ _ _ _ _ _
            have hJ2 := T.keep _ _ _ _ HJN.out (hk5.mono (fun b hb h => by subst hb; rcases h with h | h; (have := HB.out _ h; omega); exact hgo h))
            have hqn := hqX.then hH1 (fun b hb h => by rcases h with h | h; (rcases HO2.out b h with h | h; exact h; omega); omega)
            have hOn : ∀ b, O' b → O b ∨ w.heap.size + 1 + 1 + 1 < b := fun b hb => by rcases HON.out b hb with h | h; exact HO2.out b h; exact .inr (by omega)
            have hPn : ∀ b, (Pr b ∨ Pr' b) → w.heap.size + 1 + 1 + 1 < b ∧ b < (((((((w5.setCell ⟨gv, i * 7, none⟩ (.int .i64 V.f0)).setCell ⟨gv, i * 7 + 1, none⟩ (.int .i64 V.f1)).setCell ⟨gv, i * 7 + 2, none⟩ (.string V.f2)).setCell ⟨gv, i * 7 + 3, none⟩ (.bool V.f3)).setCell ⟨gv, i * 7 + 4, none⟩ (.slice C4 V.f4.length d4)).setCell ⟨gv, i * 7 + 5, none⟩ (.slice C5 V.f5.length d5)).setCell ⟨gv, i * 7 + 6, none⟩ (.slice C6 V.f6.length d6)).heap.size ∧ ¬ O' b ∧ some b ≠ Value.ownBlock (.slice (some ⟨gv, 0, none⟩) x.f6.length cv) := fun b hb => by
              have h1 := hH1.size
              have h2 := hk5.size
              rcases hb with hb | hb
              · have h := HPR.out b hb
                exact ⟨h.1, by omega, fun ho => by rcases HON.out b ho with h' | h'; exact h.2.2.1 h'; omega, h.2.2.2⟩
              · have h := HPN.out b hb
                exact ⟨by omega, by omega, h.2.2, fun he => by simp [Value.ownBlock] at he; omega⟩
            have hNn : ∀ k, Value.ownBlock (.slice (some ⟨gv, 0, none⟩) x.f6.length cv) = some k → ¬ O' k := fun k hk => by simp [Value.ownBlock] at hk; subst hk; exact hgo
            have hAn := HAX.out.kq hH1 (fun h => by rcases h with h | h; exact HG.out.2.2.2.2 h; omega) (fun b hb h => by rcases h with h | h; exact (HW.out b h).2 hb; (have := HB.out b hb; omega))
            have hFn := (HFX.out.kq hH1 (fun b hb h => by rcases h with h | h; exact (HW.out b h).2 hb; (have := HB.out b hb; omega)))
            replace kE := hH1.blk kE (fun h => by rcases h with h | h; exact HG.out.2.2.2.1 h; omega)
            replace kR := hH1.blk kR (fun h => by rcases h with h | h; exact HG.out.2.2.1 h; omega)
            replace kX := hH1.blk kX nU
            replace kT := hH1.blk kT nX
            have hBn : ∀ b, Base b → b < (((((((w5.setCell ⟨gv, i * 7, none⟩ (.int .i64 V.f0)).setCell ⟨gv, i * 7 + 1, none⟩ (.int .i64 V.f1)).setCell ⟨gv, i * 7 + 2, none⟩ (.string V.f2)).setCell ⟨gv, i * 7 + 3, none⟩ (.bool V.f3)).setCell ⟨gv, i * 7 + 4, none⟩ (.slice C4 V.f4.length d4)).setCell ⟨gv, i * 7 + 5, none⟩ (.slice C5 V.f5.length d5)).setCell ⟨gv, i * 7 + 6, none⟩ (.slice C6 V.f6.length d6)).heap.size := fun b hb => Nat.lt_of_lt_of_le (hBX b hb) hH1.size
            clear hH hKM hH1 hk5 hq' hqX p0 p1 p2 p3 p4 p5 p6 lx u6 lu' y0 y1 y2 y3 y4 y5 y6 s0 s1 s2 s3 s4 s5 s6 nX nU HAX HKX HJX HFX zX hz hgo HU HPN HJN HON HC HPR HNK HO2 hPg hBX
            generalize hX1 : World.setCell (World.setCell _ _ _) ⟨_, i * 7 + 6, none⟩ _ = X1 at hp hJ2 hqn hPn hAn hFn hBn kE kR kX kT ⊢
            have HP := Aside0.mk hp
            have HJ2 := Aside0.mk hJ2
            have HQN := Aside0.mk hqn
            have HON := Aside0.mk hOn
            have HPN := Aside0.mk hPn
            have HNN := Aside0.mk hNn
            have HAN := Aside0.mk hAn
            have HFN := Aside0.mk (hFn.mono hBn)
            have hw2 : wrap64 ((i : Int) + 1) = (i : Int) + 1 := wrap_in (by omega) (by omega)
            clear hp hJ2 hqn hOn hPn hNn hAn hFn hBn hX1
            obtain ⟨⟨q0, q1, q2, q3, q4, q5, q6⟩, _, lq⟩ := seven kT
            go_wp2_with (first
              | (go_at_call 93; refine (count_c x.f6[i] hsok HFN.out).mono ?_; rintro e w6 ⟨rfl, hb6⟩))
            have hat2 : At st (k0 + x.f4.length + numK (x.f6.take (i + 1))) (sitesK (wrap64 (nn + cntE x.f6[i])) (x.f6.drop (i + 1))) := by
              have h := HAR.out
              rw [sitesE_len, Nat.add_assoc (k0 + x.f4.length), ← numK_take x.f6 i hi] at h
              exact h
            have hkv2 : kv = k0 + x.f4.length + numK (x.f6.take (i + 1)) := by rw [numK_take x.f6 i hi, ← Nat.add_assoc]; exact HKV.out.symm
            have HAT2 := Aside0.mk hat2
            have HKV2 := Aside0.mk hkv2
            clear hat2 hkv2
            go_roundg k1
            case measure => omega
            case rel =>
              refine ⟨i + 1, O', fun b => Pr b ∨ Pr' b, wrap64 (nn + cntE x.f6[i]), (by first | rfl | (rw [hw2]; rfl) | (rw [hw2]; push_cast; rfl)), (by first | rfl | skip), by omega, HAT2, ⟨HP.out.below hb6⟩, ⟨fun b hb => ?_⟩, HNN, ⟨HAN.out.below hb6⟩, ⟨?_⟩, HON, HQN.out.trans (Kq.of_below hb6), blk_below kE hb6, blk_below kR hb6, blk_below kX hb6⟩
              · have h := HPN.out b hb; exact ⟨h.1, Nat.lt_of_lt_of_le h.2.1 hb6.size, h.2.2⟩
              · rw [← HKV2.out]; exact T.keep _ _ _ _ HJ2.out (Kq.of_below hb6)
          · have cn : decide ((i : Int) < (x.f6.length : Int)) = false := decide_eq_false (by omega)
            have cn2 : decide (i < x.f6.length) = false := decide_eq_false (by omega)
            have e1 : x.f6.take i = x.f6 := List.take_of_length_le (by omega)
            have e2 : x.f6.drop i = [] := List.drop_eq_nil_of_le (by omega)
            have hK := HK.out
            have hJ := HJ.out
            rw [e1, e2, List.append_nil] at hK
            rw [e1] at hJ
            obtain ⟨⟨u0, u1, u2, u3, u4, u5, u6⟩, _, lu⟩ := seven kX
            obtain ⟨⟨r0, r1, r2, r3, r4, r5, r6⟩, ⟨s0, s1, s2, s3, s4, s5, s6⟩, lr⟩ := seven kR
            have HK' := Aside0.mk hK
            have HJ' := Aside0.mk hJ
            clear hK hJ HK HJ e1 e2 hk HAT
            go_wp2
            (try simp only [Exit.inBlock, Exit.then])
            refine bodyPost_ret (results_cell_row rfl _ _ _ 31 _ (0, 0) _ rfl (stored7 kR _ _ _ _ _ _ _) Try.underlying31 rfl (by kernel_rfl)) rfl ?_
            have hS : Kq (fun b => b = w.heap.size + 1) wr _ := (Kq.refl (fun b => b = w.heap.size + 1) wr).set7 (g := w.heap.size + 1) (Or.inl (Eq.refl (w.heap.size + 1))) (.int .i64 x.f0) (.int .i64 x.f1) (.string x.f2) (.bool x.f3) (.slice (some ⟨w.heap.size + 1 + 1 + 1, 0, none⟩) x.f4.length x.f4.length) (.slice A5 x.f5.length c5) (.slice Av x.f6.length cv)
            generalize hX1 : World.setCell (World.setCell _ _ _) ⟨_, 6, none⟩ _ = X1 at hS ⊢
            have hOb := HOB.out
            have hnO : ¬ O2 (w.heap.size + 1) := fun h => by rcases HO2.out _ h with h | h; (have := hOb _ h; omega); omega
            have hlow := HK'.out.low
            have hKN := (HK'.out.kq hS (fun b hb h => by have := HLOW.out b hb; omega) (fun b hb => by have := HB.out b hb; omega) (fun b hb => by have := (HPR.out b hb).1; omega)).N (fun b hb h => by have := HB.out b hb; have := HLOW.out b h.symm; omega) (fun b hb => (HPR.out b hb).2.2.2)
            have hKF := Kd.N_F hKN
            have hlen6 := (HK'.out.slice)
            have hA' := HA.out.kq hS (by omega) (fun b hb => by have := HB.out b hb; omega)
            have hJ2 := T.keep _ _ _ _ HJ'.out (hS.mono (fun b hb h => by subst hb; rcases h with h | h; (have := HB.out _ h; omega); exact hnO h))
            have hq9 : Kq O w X1 := hqr.then hS (fun b hb h => by omega)
            refine ⟨some ⟨w.heap.size + 1 + 1 + 1, 0, none⟩, x.f4.length, A5, c5, Av, cv, O2, fun b => Pr b ∨ b = w.heap.size + 1 + 1 + 1 ∨ some b = Value.ownBlock (.slice Av x.f6.length cv), ?_, ?_, ?_, ?_, ?_, hq9⟩
            · rw [← HU0.out, ev_turn]
            · rw [← HU0.out, turnE_eq]
              refine ⟨by show (turnT F k0 x.f4).length ≤ x.f4.length; rw [turnT_len]; exact Nat.le_refl _, hA'.F (by simp only [turnT_len]; exact hlen) (fun b hb => .inl hb) (.inr (.inr (.inl rfl))), HF.out.2.2.1, Kd.F_mono (Kd.F_step HF.out.2.2.2.1 (fun b hb hl => hq9.block b hl (fun ho => (HO0.out b ho).2 hb))) (fun b hb => .inl hb), by show (turnK F (k0 + x.f4.length) x.f6).length ≤ cv; rw [turnK_len]; exact hcv, ?_⟩
              show Kd.F kEx X1 _ Av (turnK F (k0 + x.f4.length) x.f6).length (turnK F (k0 + x.f4.length) x.f6)
              rw [turnK_len]
              exact Kd.F_mono hKF (fun b hb => by rcases hb with hb | hb | hb; exact .inl hb; exact .inr (.inl hb); exact .inr (.inr (.inr hb)))
            · intro b hb
              rcases hb with hb | hb | hb
              · have h := HPR.out b hb; exact ⟨by omega, Nat.lt_of_lt_of_le h.2.1 hS.size, h.2.2.1⟩
              · subst hb; exact ⟨by omega, hA'.lt, fun h => by rcases HO2.out _ h with h | h; (have := hOb _ h; omega); omega⟩
              · have h1 := HLOW.out b hb.symm; have h2 := HK'.out.lt b hb.symm; exact ⟨by omega, Nat.lt_of_lt_of_le h2 hS.size, HNK.out b hb.symm⟩
            · rw [← HKN.out, numE_eq, ← Nat.add_assoc]; exact hJ2
            · intro b hb; rcases HO2.out b hb with h | h; exact .inl h; exact .inr (by omega)
end Go.Proofs.Ytlenfmnkbepoiaa.PSitesTell
namespace Go.Proofs.Ytlenfmnkbepoiaa.PSitesTell
open Go.RowKit Go.Proofs.YtlenfmnkbepoiaaW.Mine Go.Proofs.YtlenfmnkbepoiaaW.PrintWords Go.Proofs.YtlenfmnkbepoiaaW.PrintLast Go.Proofs.YtlenfmnkbepoiaaW.PrintMore
set_option linter.unusedVariables false
set_option linter.unusedSimpArgs false
abbrev kDe := k33
abbrev dv (x : De) (A1 : Option Addr) (c1 : Nat) (A2 : Option Addr) (c2 : Nat) (A3 : Option Addr) (c3 : Nat) (A4 : Option Addr) (c4 : Nat) (B4 : Option Addr) (d4 : Nat) (B5 : Option Addr) (d5 : Nat) (B6 : Option Addr) (d6 : Nat) : Value := .agg #[.string x.f0.f0, .slice A1 x.f0.f1.length c1, .slice A2 x.f0.f2.length c2, .int .i64 x.f0.f3.f0, .int .i64 x.f0.f3.f1, .string x.f0.f3.f2, .slice A3 x.f0.f3.f3.length c3, .slice A4 x.f0.f3.f4.length c4, .int .i64 x.f1.f0, .int .i64 x.f1.f1, .string x.f1.f2, .bool x.f1.f3, .slice B4 x.f1.f4.length d4, .slice B5 x.f1.f5.length d5, .slice B6 x.f1.f6.length d6]
abbrev dcells (x : De) (A1 : Option Addr) (c1 : Nat) (A2 : Option Addr) (c2 : Nat) (A3 : Option Addr) (c3 : Nat) (A4 : Option Addr) (c4 : Nat) (B4 : Option Addr) (d4 : Nat) (B5 : Option Addr) (d5 : Nat) (B6 : Option Addr) (d6 : Nat) : Array Value := #[.string x.f0.f0, .slice A1 x.f0.f1.length c1, .slice A2 x.f0.f2.length c2, .int .i64 x.f0.f3.f0, .int .i64 x.f0.f3.f1, .string x.f0.f3.f2, .slice A3 x.f0.f3.f3.length c3, .slice A4 x.f0.f3.f4.length c4, .int .i64 x.f1.f0, .int .i64 x.f1.f1, .string x.f1.f2, .bool x.f1.f3, .slice B4 x.f1.f4.length d4, .slice B5 x.f1.f5.length d5, .slice B6 x.f1.f6.length d6]
abbrev dlist (x : De) (A1 : Option Addr) (c1 : Nat) (A2 : Option Addr) (c2 : Nat) (A3 : Option Addr) (c3 : Nat) (A4 : Option Addr) (c4 : Nat) (B4 : Option Addr) (d4 : Nat) (B5 : Option Addr) (d5 : Nat) (B6 : Option Addr) (d6 : Nat) : List Value := [.string x.f0.f0, .slice A1 x.f0.f1.length c1, .slice A2 x.f0.f2.length c2, .int .i64 x.f0.f3.f0, .int .i64 x.f0.f3.f1, .string x.f0.f3.f2, .slice A3 x.f0.f3.f3.length c3, .slice A4 x.f0.f3.f4.length c4, .int .i64 x.f1.f0, .int .i64 x.f1.f1, .string x.f1.f2, .bool x.f1.f3, .slice B4 x.f1.f4.length d4, .slice B5 x.f1.f5.length d5, .slice B6 x.f1.f6.length d6]
abbrev zdcells : Array Value := #[.string ⟨#[]⟩, .slice none 0 0, .slice none 0 0, .int .i64 0, .int .i64 0, .string ⟨#[]⟩, .slice none 0 0, .slice none 0 0, .int .i64 0, .int .i64 0, .string ⟨#[]⟩, .bool false, .slice none 0 0, .slice none 0 0, .slice none 0 0]
def FD (w : World) (ok : Nat → Prop) (x : De) (A1 : Option Addr) (c1 : Nat) (A2 : Option Addr) (c2 : Nat) (A3 : Option Addr) (c3 : Nat) (A4 : Option Addr) (c4 : Nat) (B4 : Option Addr) (d4 : Nat) (B5 : Option Addr) (d5 : Nat) (B6 : Option Addr) (d6 : Nat) : Prop := (x.f0.f1.length ≤ c1 ∧ Kd.F kBi w ok A1 x.f0.f1.length x.f0.f1) ∧ (x.f0.f2.length ≤ c2 ∧ Kd.F kBi w ok A2 x.f0.f2.length x.f0.f2) ∧ FT w ok x.f0.f3 A3 c3 A4 c4 ∧ FE w ok x.f1 B4 d4 B5 d5 B6 d6
theorem FE.kqd {w w1 : World} {ok S : Nat → Prop} {x : Ex} {A4 A5 A6 : Option Addr} {c4 c5 c6 : Nat} (h : FE w ok x A4 c4 A5 c5 A6 c6) (k : Kq S w w1) (hk : ∀ i, ok i → ¬ S i) : FE w1 ok x A4 c4 A5 c5 A6 c6 :=
  ⟨h.1, Kd.F_step h.2.1 (fun i ho hl => k.block i hl (hk i ho)), h.2.2.1, Kd.F_step h.2.2.2.1 (fun i ho hl => k.block i hl (hk i ho)), h.2.2.2.2.1, Kd.F_step h.2.2.2.2.2 (fun i ho hl => k.block i hl (hk i ho))⟩
section
variable {w w1 : World} {ok ok' S : Nat → Prop} {x : De} {A1 A2 A3 A4 B4 B5 B6 : Option Addr} {c1 c2 c3 c4 d4 d5 d6 : Nat}
theorem FD.kq (h : FD w ok x A1 c1 A2 c2 A3 c3 A4 c4 B4 d4 B5 d5 B6 d6) (k : Kq S w w1) (hk : ∀ i, ok i → ¬ S i) : FD w1 ok x A1 c1 A2 c2 A3 c3 A4 c4 B4 d4 B5 d5 B6 d6 := ⟨⟨h.1.1, Kd.F_step h.1.2 (fun i ho hl => k.block i hl (hk i ho))⟩, ⟨h.2.1.1, Kd.F_step h.2.1.2 (fun i ho hl => k.block i hl (hk i ho))⟩, h.2.2.1.kq k hk, h.2.2.2.kqd k hk⟩
theorem FD.mono (h : FD w ok x A1 c1 A2 c2 A3 c3 A4 c4 B4 d4 B5 d5 B6 d6) (hk : ∀ i, ok i → ok' i) : FD w ok' x A1 c1 A2 c2 A3 c3 A4 c4 B4 d4 B5 d5 B6 d6 := ⟨⟨h.1.1, Kd.F_mono h.1.2 hk⟩, ⟨h.2.1.1, Kd.F_mono h.2.1.2 hk⟩, h.2.2.1.mono hk, h.2.2.2.mono hk⟩
theorem FD.below (h : FD w ok x A1 c1 A2 c2 A3 c3 A4 c4 B4 d4 B5 d5 B6 d6) (hb : Below w.heap.size w w1) : FD w1 ok x A1 c1 A2 c2 A3 c3 A4 c4 B4 d4 B5 d5 B6 d6 := h.kq (S := fun _ => False) (Kq.of_below hb) (fun _ _ h => h)
theorem FD.fk (h : FD w ok x A1 c1 A2 c2 A3 c3 A4 c4 B4 d4 B5 d5 B6 d6) : Kd.FK kDe w ok x (dlist x A1 c1 A2 c2 A3 c3 A4 c4 B4 d4 B5 d5 B6 d6) := k33_mkF w ok x h.1.1 h.1.2 h.2.1.1 h.2.1.2 h.2.2.1.1 h.2.2.1.2.1 h.2.2.1.2.2.1 h.2.2.1.2.2.2 h.2.2.2.1 h.2.2.2.2.1 h.2.2.2.2.2.1 h.2.2.2.2.2.2.1 h.2.2.2.2.2.2.2.1 h.2.2.2.2.2.2.2.2
theorem FD.of_fk {cs : List Value} (h : Kd.FK kDe w ok x cs) : ∃ A1 c1 A2 c2 A3 c3 A4 c4 B4 d4 B5 d5 B6 d6, cs = dlist x A1 c1 A2 c2 A3 c3 A4 c4 B4 d4 B5 d5 B6 d6 ∧ FD w ok x A1 c1 A2 c2 A3 c3 A4 c4 B4 d4 B5 d5 B6 d6 := by
  obtain ⟨A1, c1, A2, c2, A3, c3, A4, c4, B4, d4, B5, d5, B6, d6, e, l1, g1, l2, g2, l3, g3, l4, g4, l5, g5, l6, g6, l7, g7⟩ := k33_openF h
  exact ⟨A1, c1, A2, c2, A3, c3, A4, c4, B4, d4, B5, d5, B6, d6, e, ⟨l1, g1⟩, ⟨l2, g2⟩, ⟨l3, g3, l4, g4⟩, l5, g5, l6, g6, l7, g7⟩
end
theorem fifteen {w : World} {g : Nat} {v0 v1 v2 v3 v4 v5 v6 v7 v8 v9 v10 v11 v12 v13 v14 : Value} {t : TypeId} (h : w.heap[g]? = some (.cells #[v0, v1, v2, v3, v4, v5, v6, v7, v8, v9, v10, v11, v12, v13, v14] t (0, 0))) :
    (w.cell? ⟨g, 0, none⟩ = some v0 ∧ w.cell? ⟨g, 1, none⟩ = some v1 ∧ w.cell? ⟨g, 2, none⟩ = some v2 ∧ w.cell? ⟨g, 3, none⟩ = some v3 ∧ w.cell? ⟨g, 4, none⟩ = some v4 ∧ w.cell? ⟨g, 5, none⟩ = some v5 ∧ w.cell? ⟨g, 6, none⟩ = some v6 ∧ w.cell? ⟨g, 7, none⟩ = some v7 ∧ w.cell? ⟨g, 8, none⟩ = some v8 ∧ w.cell? ⟨g, 9, none⟩ = some v9 ∧ w.cell? ⟨g, 10, none⟩ = some v10 ∧ w.cell? ⟨g, 11, none⟩ = some v11 ∧ w.cell? ⟨g, 12, none⟩ = some v12 ∧ w.cell? ⟨g, 13, none⟩ = some v13 ∧ w.cell? ⟨g, 14, none⟩ = some v14) ∧ (∀ j, w.frozen? ⟨g, j, none⟩ = false) ∧ g < w.heap.size :=
  ⟨⟨(blk_cell h 0).trans rfl, (blk_cell h 1).trans rfl, (blk_cell h 2).trans rfl, (blk_cell h 3).trans rfl, (blk_cell h 4).trans rfl, (blk_cell h 5).trans rfl, (blk_cell h 6).trans rfl, (blk_cell h 7).trans rfl, (blk_cell h 8).trans rfl, (blk_cell h 9).trans rfl, (blk_cell h 10).trans rfl, (blk_cell h 11).trans rfl, (blk_cell h 12).trans rfl, (blk_cell h 13).trans rfl, (blk_cell h 14).trans rfl⟩, fun j => blk_frozen h j, blk_lt h⟩
end Go.Proofs.Ytlenfmnkbepoiaa.PSitesTell
