/-
  prec: the walk of cut.
-/
import Derived.Test.YtnfnhjhnfdkinaaF2
namespace Go.Proofs.Ytnfnhjhnfdkinaa.PPrecTells
open Go.RowKit Go.Proofs.YtnfnhjhnfdkinaaW.Mine Go.Proofs.YtnfnhjhnfdkinaaW.PrintWords Go.Proofs.YtnfnhjhnfdkinaaW.PrintLast Go.Proofs.YtnfnhjhnfdkinaaW.PrintMore
attribute [local go_sem] max2_int min2_int max_two min_two max_three min_three max_four min_four
set_option linter.unusedVariables false
set_option linter.unusedSimpArgs false
mutual
def cut : Ty → Int → Ty × Int
  | ⟨a0, a1, a2, a3, a4⟩, k => if k = 0 then (dynTy, -1) else if k < 0 then (⟨a0, a1, a2, a3, a4⟩, k) else let r := cutAll a4 (k - 1); (⟨a0, a1, a2, a3, r.1⟩, r.2)
def cutAll : List Ty → Int → List Ty × Int
  | [], k => ([], k)
  | a :: l, k => let x := cut a k; let r := cutAll l x.2; (x.1 :: r.1, r.2)
end
theorem cut_eq (x : Ty) (k : Int) : cut x k = if k = 0 then (dynTy, -1) else if k < 0 then (x, k) else (⟨x.f0, x.f1, x.f2, x.f3, (cutAll x.f4 (k - 1)).1⟩, (cutAll x.f4 (k - 1)).2) := by
  cases x; simp only [cut]
theorem cutAll_cons (a : Ty) (l : List Ty) (k : Int) : cutAll (a :: l) k = ((cut a k).1 :: (cutAll l (cut a k).2).1, (cutAll l (cut a k).2).2) := by simp only [cutAll]
theorem cutAll_nil (k : Int) : cutAll [] k = ([], k) := by simp only [cutAll]
mutual
theorem cut_le : ∀ (x : Ty) (k M : Int), -1 ≤ M → k ≤ M → (cut x k).2 ≤ M
  | ⟨a0, a1, a2, a3, a4⟩, k, M, hM, hk => by
    rw [cut_eq]
    split
    · exact hM
    · split
      · exact hk
      · exact cutAll_le a4 (k - 1) M hM (by omega)
theorem cutAll_le : ∀ (l : List Ty) (k M : Int), -1 ≤ M → k ≤ M → (cutAll l k).2 ≤ M
  | [], k, M, _, hk => by rw [cutAll_nil]; exact hk
  | a :: l, k, M, hM, hk => by
    rw [cutAll_cons]
    exact cutAll_le l _ M hM (cut_le a k M hM hk)
end
/-- Whatever lay ahead is as it was, but the blocks of S. -/
structure Kq (S : Nat → Prop) (w w' : World) : Prop where
  os : w'.os = w.os
  tape : w'.tape = w.tape
  output : w'.output = w.output
  size : w.heap.size ≤ w'.heap.size
  block : ∀ i, i < w.heap.size → ¬ S i → w'.heap[i]? = w.heap[i]?
section
variable {S S' : Nat → Prop} {w a b : World}
theorem Kq.refl (S : Nat → Prop) (w : World) : Kq S w w := ⟨rfl, rfl, rfl, Nat.le_refl _, fun _ _ _ => rfl⟩
theorem Kq.of_below (h : Below w.heap.size w a) : Kq S w a := ⟨h.os, h.tape, h.output, h.size, fun i hi _ => h.block i hi⟩
theorem Kq.trans (h : Kq S w a) (k : Kq S a b) : Kq S w b := ⟨k.os.trans h.os, k.tape.trans h.tape, k.output.trans h.output, Nat.le_trans h.size k.size, fun i hi hs => (k.block i (Nat.lt_of_lt_of_le hi h.size) hs).trans (h.block i hi hs)⟩
theorem Kq.mono (h : Kq S w a) (hs : ∀ k, S k → S' k) : Kq S' w a := ⟨h.os, h.tape, h.output, h.size, fun i hi hn => h.block i hi (fun hk => hn (hs i hk))⟩
/-- Blocks that are new may be written too. -/
theorem Kq.less (h : Kq S w a) (hs : ∀ k, k < w.heap.size → S k → S' k) : Kq S' w a := ⟨h.os, h.tape, h.output, h.size, fun i hi hn => h.block i hi (fun hk => hn (hs i hi hk))⟩
theorem Kq.set (h : Kq S w a) {p : Addr} (hp : S p.block ∨ w.heap.size ≤ p.block) (v : Value) : Kq S w (a.setCell p v) :=
  ⟨h.os, h.tape, h.output, by simpa [World.setCell] using h.size, fun i hi hs => (Below.heap_setCell a p v i (fun e => by rcases hp with hp | hp; exact hs (e ▸ hp); omega)).trans (h.block i hi hs)⟩
theorem Kq.below {B : Nat} (h : Kq S w a) (hB : B ≤ w.heap.size) (hs : ∀ k, k < B → ¬ S k) : Below B w a := ⟨h.os, h.tape, h.output, h.size, fun i hi => h.block i (Nat.lt_of_lt_of_le hi hB) (hs i hi)⟩
theorem Kq.cell (h : Kq S w a) {p : Addr} {v : Value} (hc : w.cell? p = some v) (hp : ¬ S p.block) : a.cell? p = some v := by
  have hl := World.block_lt_of_cell? w _ hc
  have hb := h.block p.block hl hp
  unfold World.cell? at hc ⊢
  rw [hb]; exact hc
theorem Kq.blk (h : Kq S w a) {g : Nat} {o : Obj} (hc : w.heap[g]? = some o) (hp : ¬ S g) : a.heap[g]? = some o := (h.block g (blk_lt hc) hp).trans hc
theorem FT.kq {ok : Nat → Prop} {x : Ty} {A3 A4 : Option Addr} {c3 c4 : Nat} (h : FT w ok x A3 c3 A4 c4) (k : Kq S w a) (hk : ∀ i, ok i → ¬ S i) : FT a ok x A3 c3 A4 c4 :=
  ⟨h.1, Kd.F_step h.2.1 (fun i ho hl => k.block i hl (hk i ho)), h.2.2.1, Kd.F_step h.2.2.2 (fun i ho hl => k.block i hl (hk i ho))⟩
end
theorem one {w : World} {g : Nat} {v : Value} {t : TypeId} (h : w.heap[g]? = some (.cells #[v] t (0, 0))) : w.cell? ⟨g, 0, none⟩ = some v ∧ w.frozen? ⟨g, 0, none⟩ = false ∧ g < w.heap.size := ⟨(blk_cell h 0).trans rfl, blk_frozen h 0, blk_lt h⟩
set_option maxRecDepth 100000 in
theorem unknown_c (w : World) : Calls Try.prog 85 #[] w fun e w' => e = .returned (tv dynTy none 0 none 0) ∧ Below w.heap.size w w' := by
  go_enter Try.func85, Try.ntmps85
  go_wp2
  refine bodyPost_ret (results_cell_row rfl _ _ _ 25 _ (0, 0) _ rfl (blk_new w _) Try.underlying25 rfl (by kernel_rfl)) rfl ?_
  exact ⟨rfl, below_alloc2 _ _⟩
theorem and_of' {A B : Prop} (f : A → B) (a : A) : A ∧ B := ⟨a, f a⟩
/-- An element of a list of types. -/
theorem elt' {w : World} {ok : Nat → Prop} {A : Option Addr} {l : List Ty} (h : Kd.F kTy w ok A l.length l) (i : Nat) (hi : i < l.length) : ∃ ad X3 e3 X4 e4, A = some ad ∧ FT w ok l[i] X3 e3 X4 e4 ∧
    w.cell? (ad.add (i * 5)) = some (.int .i64 l[i].f0) ∧ w.cell? ⟨(ad.add (i * 5)).block, (ad.add (i * 5)).off + 1, none⟩ = some (.int .i64 l[i].f1) ∧ w.cell? ⟨(ad.add (i * 5)).block, (ad.add (i * 5)).off + 2, none⟩ = some (.string l[i].f2) ∧
    w.cell? ⟨(ad.add (i * 5)).block, (ad.add (i * 5)).off + 3, none⟩ = some (.slice X3 l[i].f3.length e3) ∧ w.cell? ⟨(ad.add (i * 5)).block, (ad.add (i * 5)).off + 4, none⟩ = some (.slice X4 l[i].f4.length e4) := by
  obtain ⟨ad, c, e, _, hfk, hc0, _⟩ := Kd.F_get h z25 i (by omega) (by omega)
  rw [getD_at z25 l i hi] at hfk
  obtain ⟨X3, e3, X4, e4, rfl, hft⟩ := FT.of_fk hfk
  have hc : ∀ j u, (tcells l[i] X3 e3 X4 e4)[j]? = some u → w.cell? (ad.add (i * 5 + j)) = some u := hc0
  exact ⟨ad, X3, e3, X4, e4, e, hft, hc 0 _ rfl, by rw [← add_field _ _ 1 (by omega)]; exact hc 1 _ rfl, by rw [← add_field _ _ 2 (by omega)]; exact hc 2 _ rfl, by rw [← add_field _ _ 3 (by omega)]; exact hc 3 _ rfl, by rw [← add_field _ _ 4 (by omega)]; exact hc 4 _ rfl⟩
theorem elt_no {w : World} {ok : Nat → Prop} {ad : Addr} {l : List Ty} {g : Nat} (hg : ad.block = g) (h : Kd.F kTy w (fun k => ok k ∧ k < w.heap.size) (some ad) l.length l) (i : Nat) (hi : i < l.length) (hog : ∀ k, ok k → k ≠ g) : False := by
  obtain ⟨ad', c, e, _, _, _, hk⟩ := Kd.F_get h z25 i (by omega) (by omega)
  obtain rfl := Option.some.inj e
  exact hog _ (hk (by decide)).1 hg
/-- An element's cells in an own row. -/
theorem slot {W : World} {base g n cap : Nat} {ok : Nat → Prop} {l : List Ty} (h : Kd.N kTy 25 W base ok (.slice (some ⟨g, 0, none⟩) n cap) l) (i : Nat) (hi : i < n) : ∃ a0 a1 a2 a3 a4, (W.cell? ⟨g, i * 5, none⟩ = some a0 ∧ W.cell? ⟨g, i * 5 + 1, none⟩ = some a1 ∧ W.cell? ⟨g, i * 5 + 2, none⟩ = some a2 ∧ W.cell? ⟨g, i * 5 + 3, none⟩ = some a3 ∧ W.cell? ⟨g, i * 5 + 4, none⟩ = some a4) ∧
    (W.frozen? ⟨g, i * 5, none⟩ = false ∧ W.frozen? ⟨g, i * 5 + 1, none⟩ = false ∧ W.frozen? ⟨g, i * 5 + 2, none⟩ = false ∧ W.frozen? ⟨g, i * 5 + 3, none⟩ = false ∧ W.frozen? ⟨g, i * 5 + 4, none⟩ = false) := by
  obtain ⟨c, hcl, _, hcc, hfr⟩ := Kd.N_elem h z25 (i : Int) (by omega) (by omega)
  have hl : c.length = 5 := hcl
  match c, hl with
  | [a0, a1, a2, a3, a4], _ =>
    have hc : ∀ j u, [a0, a1, a2, a3, a4][j]? = some u → W.cell? ⟨g, i * 5 + j, none⟩ = some u := hcc
    have hf : ∀ j, W.frozen? ⟨g, i * 5 + j, none⟩ = false := hfr
    exact ⟨a0, a1, a2, a3, a4, ⟨hc 0 _ rfl, hc 1 _ rfl, hc 2 _ rfl, hc 3 _ rfl, hc 4 _ rfl⟩, hf 0, hf 1, hf 2, hf 3, hf 4⟩
theorem setCells5 (w : World) (g o : Nat) (v0 v1 v2 v3 v4 : Value) : w.setCells g o [v0, v1, v2, v3, v4] = (((((w.setCell ⟨g, o, none⟩ v0).setCell ⟨g, o + 1, none⟩ v1).setCell ⟨g, o + 2, none⟩ v2).setCell ⟨g, o + 3, none⟩ v3).setCell ⟨g, o + 4, none⟩ v4) := by
  first | rfl | simp [World.setCells]
theorem set_mid (dn l : List Ty) (i : Nat) (hi : i < l.length) (hd : dn.length = i) {u : Ty} : (dn ++ l.drop i).set i u = (dn ++ [u]) ++ l.drop (i + 1) := by
  subst hd
  rw [List.set_append_right _ _ (Nat.le_refl _), Nat.sub_self, List.drop_eq_getElem_cons hi, List.set_cons_zero, List.append_assoc]
  rfl
theorem Kq.then {S S' : Nat → Prop} {w a b : World} (h : Kq S w a) (k : Kq S' a b) (hs : ∀ i, i < w.heap.size → S' i → S i) : Kq S w b := ⟨k.os.trans h.os, k.tape.trans h.tape, k.output.trans h.output, Nat.le_trans h.size k.size, fun i hi hn => (k.block i (Nat.lt_of_lt_of_le hi h.size) (fun hk => hn (hs i hi hk))).trans (h.block i hi hn)⟩
/-- The two boxes at the door, and the number. -/
theorem two (w : World) (x : Ty) (A3 : Option Addr) (c3 : Nat) (A4 : Option Addr) (c4 : Nat) (g : Nat) (kv : Int) (zs : Array Value) (hg : w.heap[g]? = some (.cells #[.int .i64 kv] 3 (0, 0))) : let W := ((w.alloc (.cells #[.int .i64 x.f0, .int .i64 x.f1, .string x.f2, .slice A3 x.f3.length c3, .slice A4 x.f4.length c4] 25)).alloc (.cells zs 25))
    (W.heap[w.heap.size]? = some (.cells #[.int .i64 x.f0, .int .i64 x.f1, .string x.f2, .slice A3 x.f3.length c3, .slice A4 x.f4.length c4] 25 (0, 0)) ∧ W.heap[w.heap.size + 1]? = some (.cells zs 25 (0, 0)) ∧ W.heap[g]? = some (.cells #[.int .i64 kv] 3 (0, 0))) ∧ Below w.heap.size w W := by
  have kR := blk_new (w.alloc (.cells #[.int .i64 x.f0, .int .i64 x.f1, .string x.f2, .slice A3 x.f3.length c3, .slice A4 x.f4.length c4] 25)) (.cells zs 25)
  simp only [World.size_alloc] at kR
  exact ⟨⟨blk_alloc (blk_new w (.cells #[.int .i64 x.f0, .int .i64 x.f1, .string x.f2, .slice A3 x.f3.length c3, .slice A4 x.f4.length c4] 25)) (.cells zs 25), kR, blk_alloc (blk_alloc hg _) _⟩, (below_alloc2 _ _).trans ((below_alloc2 _ _).mono (below_alloc2 _ _).size)⟩
/-- A whole type is stored into a box. -/
theorem stored' {w : World} {g : Nat} {t : TypeId} {z0 z1 z2 z3 z4 : Value} (h : w.heap[g]? = some (.cells #[z0, z1, z2, z3, z4] t (0, 0))) (v0 v1 v2 v3 v4 : Value) :
    (((((w.setCell ⟨g, 0, none⟩ v0).setCell ⟨g, 1, none⟩ v1).setCell ⟨g, 2, none⟩ v2).setCell ⟨g, 3, none⟩ v3).setCell ⟨g, 4, none⟩ v4).heap[g]? = some (.cells #[v0, v1, v2, v3, v4] t (0, 0)) := blk_set (blk_set (blk_set (blk_set (blk_set h 0 v0) 1 v1) 2 v2) 3 v3) 4 v4
theorem Kq.set5 {S : Nat → Prop} {w a : World} {g : Nat} (h : Kq S w a) (hp : S g ∨ w.heap.size ≤ g) (v0 v1 v2 v3 v4 : Value) : Kq S w (((((a.setCell ⟨g, 0, none⟩ v0).setCell ⟨g, 1, none⟩ v1).setCell ⟨g, 2, none⟩ v2).setCell ⟨g, 3, none⟩ v3).setCell ⟨g, 4, none⟩ v4) :=
  ((((h.set (p := ⟨g, 0, none⟩) hp v0).set (p := ⟨g, 1, none⟩) hp v1).set (p := ⟨g, 2, none⟩) hp v2).set (p := ⟨g, 3, none⟩) hp v3).set (p := ⟨g, 4, none⟩) hp v4
theorem blk_set5 {w : World} {g h : Nat} {o : Obj} (k : w.heap[h]? = some o) (hn : h ≠ g) (v0 v1 v2 v3 v4 : Value) : (((((w.setCell ⟨g, 0, none⟩ v0).setCell ⟨g, 1, none⟩ v1).setCell ⟨g, 2, none⟩ v2).setCell ⟨g, 3, none⟩ v3).setCell ⟨g, 4, none⟩ v4).heap[h]? = some o :=
  (Below.heap_setCell _ ⟨g, 4, none⟩ v4 h hn).trans ((Below.heap_setCell _ ⟨g, 3, none⟩ v3 h hn).trans ((Below.heap_setCell _ ⟨g, 2, none⟩ v2 h hn).trans ((Below.heap_setCell _ ⟨g, 1, none⟩ v1 h hn).trans ((Below.heap_setCell _ ⟨g, 0, none⟩ v0 h hn).trans k))))
/-- What cut answers. -/
def CutOut (w : World) (ok : Nat → Prop) (g : Nat) (o : Ty × Int) (e : Ending) (w' : World) : Prop :=
  Kq (fun k => k = g) w w' ∧ w'.heap[g]? = some (.cells #[.int .i64 o.2] 3 (0, 0)) ∧ ∃ A3 c3 A4 c4, e = .returned (tv o.1 A3 c3 A4 c4) ∧ FT w' (fun k => ok k ∨ w.heap.size ≤ k) o.1 A3 c3 A4 c4
theorem CutOut.mk {w w' : World} {ok : Nat → Prop} {g : Nat} {o : Ty × Int} {u : Ty} {k : Int} {A3 A4 : Option Addr} {c3 c4 : Nat} (hq : Kq (fun k => k = g) w w') (ho : o = (u, k)) (hg : w'.heap[g]? = some (.cells #[.int .i64 k] 3 (0, 0))) (hf : FT w' (fun k => ok k ∨ w.heap.size ≤ k) u A3 c3 A4 c4) : CutOut w ok g o (.returned (tv u A3 c3 A4 c4)) w' := by
  subst ho; exact ⟨hq, hg, A3, c3, A4, c4, rfl, hf⟩
theorem FT.set5 {w : World} {ok : Nat → Prop} {x : Ty} {A3 A4 : Option Addr} {c3 c4 g : Nat} (h : FT w ok x A3 c3 A4 c4) (hk : ∀ k, ok k → k ≠ g) (v0 v1 v2 v3 v4 : Value) : FT (((((w.setCell ⟨g, 0, none⟩ v0).setCell ⟨g, 1, none⟩ v1).setCell ⟨g, 2, none⟩ v2).setCell ⟨g, 3, none⟩ v3).setCell ⟨g, 4, none⟩ v4) ok x A3 c3 A4 c4 :=
  ((((h.far (p := ⟨g, 0, none⟩) hk v0).far (p := ⟨g, 1, none⟩) hk v1).far (p := ⟨g, 2, none⟩) hk v2).far (p := ⟨g, 3, none⟩) hk v3).far (p := ⟨g, 4, none⟩) hk v4
set_option maxHeartbeats 20000000 in
set_option maxRecDepth 100000 in
theorem cut_c : ∀ (n : Nat) (x : Ty), SizeOf.sizeOf x < n → Sm x → ∀ (ok : Nat → Prop) (A3 : Option Addr) (c3 : Nat) (A4 : Option Addr) (c4 : Nat) (g : Nat) (kv : Int) (w : World), FT w ok x A3 c3 A4 c4 → (∀ k, ok k → k ≠ g) → w.heap[g]? = some (.cells #[.int .i64 kv] 3 (0, 0)) → kv ≤ 9223372036854775807 →
    Calls Try.prog 54 #[tv x A3 c3 A4 c4, .pointer (some ⟨g, 0, none⟩)] w (CutOut w ok g (cut x kv))
  | 0, _, h, _ => absurd h (Nat.not_lt_zero _)
  | n + 1, x, hn, hsm => by
    intro ok0 A3 c3 A4 c4 g kv w ha0 hog hg0 hkv
    have ha := ha0.bound
    have lg0 := blk_lt hg0
    obtain ⟨⟨kA, kR, kG⟩, b0⟩ := two w x A3 c3 A4 c4 g kv #[.int .i64 0, .int .i64 0, .string ⟨#[]⟩, .slice none 0 0, .slice none 0 0] hg0
    have hq := cut_eq x kv
    generalize cut x kv = o at hq ⊢
    obtain ⟨⟨p0, p1, p2, p3, p4⟩, _, la⟩ := five kA
    obtain ⟨⟨r0, r1, r2, r3, r4⟩, ⟨s0, s1, s2, s3, s4⟩, lr⟩ := five kR
    obtain ⟨g0, g1, lg⟩ := one kG
    by_cases h1 : kv = 0
    · subst h1
      rw [if_pos rfl] at hq
      have tw := two (w.setCell ⟨g, 0, none⟩ (.int .i64 (-1))) x A3 c3 A4 c4 g (-1) #[.int .i64 0, .int .i64 0, .string ⟨#[]⟩, .slice none 0 0, .slice none 0 0] (blk_set hg0 0 (.int .i64 (-1)))
      have hsz : (w.setCell ⟨g, 0, none⟩ (.int .i64 (-1))).heap.size = w.heap.size := by simp [World.setCell]
      dsimp only at tw
      rw [hsz] at tw
      obtain ⟨⟨kA', kR', kG'⟩, b0'⟩ := tw
      have q0' : Kq (fun k => k = g) w _ := ((Kq.refl (fun k => k = g) w).set (p := ⟨g, 0, none⟩) (.inl rfl) (.int .i64 (-1))).trans (Kq.of_below (hsz.symm ▸ b0'))
      go_enter Try.func54, Try.ntmps54
      go_wp2_with fail
      go_call (unknown_c _) as e w1 ⟨he, hb1⟩
      subst he
      have q0 : Kq (fun k => k = g) w w1 := q0'.trans (Kq.of_below hb1)
      replace kG := blk_below kG' hb1
      replace kR := blk_below kR' hb1
      clear p0 p1 p2 p3 p4 la r0 r1 r2 r3 r4 s0 s1 s2 s3 s4 lr g0 g1 lg kA kA'
      obtain ⟨⟨r0, r1, r2, r3, r4⟩, ⟨s0, s1, s2, s3, s4⟩, lr⟩ := five kR
      go_wp2
      (try simp only [Exit.inBlock, Exit.then])
      refine bodyPost_ret (results_cell_row rfl _ _ _ 25 _ (0, 0) _ rfl (stored' kR _ _ _ _ _) Try.underlying25 rfl (by kernel_rfl)) rfl ?_
      exact CutOut.mk (u := dynTy) (q0.set5 (.inr (by omega)) _ _ _ _ _) hq (blk_set5 kG (by omega) _ _ _ _ _) ⟨Nat.le_refl _, Kd.F_nil _ _ _, Nat.le_refl _, Kd.F_nil _ _ _⟩
    rw [if_neg h1] at hq
    have e1 : decide (kv = 0) = false := decide_eq_false h1
    by_cases h2 : kv < 0
    · rw [if_pos h2] at hq
      have e2 : decide (kv < 0) = true := decide_eq_true h2
      obtain ⟨⟨kA2, kR2, kG2⟩, b02⟩ := two w x A3 c3 A4 c4 g kv #[.int .i64 x.f0, .int .i64 x.f1, .string x.f2, .slice A3 x.f3.length c3, .slice A4 x.f4.length c4] hg0
      go_enter Try.func54, Try.ntmps54
      go_wp2
      (try simp only [Exit.inBlock, Exit.then])
      refine bodyPost_ret (results_cell_row rfl _ _ _ 25 _ (0, 0) _ rfl kR2 Try.underlying25 rfl (by kernel_rfl)) rfl ?_
      exact CutOut.mk (Kq.of_below b02) hq kG2 ((ha.below b02).mono (fun k hk => .inl hk.1))
    rw [if_neg h2] at hq
    have e2 : decide (kv < 0) = false := decide_eq_false h2
    have e9 : 0 < kv := by omega
    have tw := two (w.setCell ⟨g, 0, none⟩ (.int .i64 (kv - 1))) x A3 c3 A4 c4 g (kv - 1) #[.int .i64 0, .int .i64 0, .string ⟨#[]⟩, .slice none 0 0, .slice none 0 0] (blk_set hg0 0 (.int .i64 (kv - 1)))
    have hsz : (w.setCell ⟨g, 0, none⟩ (.int .i64 (kv - 1))).heap.size = w.heap.size := by simp [World.setCell]
    dsimp only at tw
    rw [hsz] at tw
    obtain ⟨⟨kA', kR', kG'⟩, b0'⟩ := tw
    have q0' : Kq (fun k => k = g) w _ := ((Kq.refl (fun k => k = g) w).set (p := ⟨g, 0, none⟩) (.inl rfl) (.int .i64 (kv - 1))).trans (Kq.of_below (hsz.symm ▸ b0'))
    have HQ := Aside0.mk hq
    clear hq
    have kU := blk_new (((w.setCell ⟨g, 0, none⟩ (.int .i64 (kv - 1))).alloc (.cells #[.int .i64 x.f0, .int .i64 x.f1, .string x.f2, .slice A3 x.f3.length c3, .slice A4 x.f4.length c4] 25)).alloc (.cells #[.int .i64 0, .int .i64 0, .string ⟨#[]⟩, .slice none 0 0, .slice none 0 0] 25)) (.cells #[.int .i64 x.f0, .int .i64 x.f1, .string x.f2, .slice A3 x.f3.length c3, .slice A4 x.f4.length c4] 25)
    have z3 : (((w.setCell ⟨g, 0, none⟩ (.int .i64 (kv - 1))).alloc (.cells #[.int .i64 x.f0, .int .i64 x.f1, .string x.f2, .slice A3 x.f3.length c3, .slice A4 x.f4.length c4] 25)).alloc (.cells #[.int .i64 0, .int .i64 0, .string ⟨#[]⟩, .slice none 0 0, .slice none 0 0] 25)).heap.size = w.heap.size + 1 + 1 := by rw [World.size_alloc, World.size_alloc, hsz]
    rw [z3] at kU
    replace kA := blk_alloc kA' (.cells #[.int .i64 x.f0, .int .i64 x.f1, .string x.f2, .slice A3 x.f3.length c3, .slice A4 x.f4.length c4] 25)
    replace kR := blk_alloc kR' (.cells #[.int .i64 x.f0, .int .i64 x.f1, .string x.f2, .slice A3 x.f3.length c3, .slice A4 x.f4.length c4] 25)
    replace kG := blk_alloc kG' (.cells #[.int .i64 x.f0, .int .i64 x.f1, .string x.f2, .slice A3 x.f3.length c3, .slice A4 x.f4.length c4] 25)
    have q3 := q0'.trans (Kq.of_below (S := fun k => k = g) (below_alloc2 (((w.setCell ⟨g, 0, none⟩ (.int .i64 (kv - 1))).alloc (.cells #[.int .i64 x.f0, .int .i64 x.f1, .string x.f2, .slice A3 x.f3.length c3, .slice A4 x.f4.length c4] 25)).alloc (.cells #[.int .i64 0, .int .i64 0, .string ⟨#[]⟩, .slice none 0 0, .slice none 0 0] 25)) (.cells #[.int .i64 x.f0, .int .i64 x.f1, .string x.f2, .slice A3 x.f3.length c3, .slice A4 x.f4.length c4] 25)))
    go_enter Try.func54, Try.ntmps54
    go_wp2_with fail
    go_call (clone_c x.f4 A4 c4 (fun k => ok0 k ∧ k < w.heap.size) _ (ha.kq q3 (fun i hi => hog i hi.1)).2.2.2 ha.2.2.1 hsm.len) as e w1 ⟨v, he, hN1, hb1⟩
    obtain ⟨Av, cv, rfl⟩ := Kd.N_slice hN1
    subst he
    have q4 := q3.trans (Kq.of_below hb1)
    replace kA := blk_below kA hb1
    replace kR := blk_below kR hb1
    replace kG := blk_below kG hb1
    replace kU := blk_below kU hb1
    have z4 : ((((w.setCell ⟨g, 0, none⟩ (.int .i64 (kv - 1))).alloc (.cells #[.int .i64 x.f0, .int .i64 x.f1, .string x.f2, .slice A3 x.f3.length c3, .slice A4 x.f4.length c4] 25)).alloc (.cells #[.int .i64 0, .int .i64 0, .string ⟨#[]⟩, .slice none 0 0, .slice none 0 0] 25)).alloc (.cells #[.int .i64 x.f0, .int .i64 x.f1, .string x.f2, .slice A3 x.f3.length c3, .slice A4 x.f4.length c4] 25)).heap.size = w.heap.size + 1 + 1 + 1 := by rw [World.size_alloc, z3]
    have HO : Kd.N kTy 25 w1 w.heap.size (fun k => (ok0 k ∧ k < w.heap.size) ∨ w.heap.size + 1 + 1 < k) (.slice Av x.f4.length cv) x.f4 := Kd.N_lower (Kd.N_mono hN1 (fun k hk => by rcases hk with hk | hk; exact .inl hk; rw [z4] at hk; exact .inr (by omega))) (by rw [z4]; omega)
    clear hN1 hb1 kA' kR' kG' b0' q0' b0 q3 z3 z4
    clear p0 p1 p2 p3 p4 la r0 r1 r2 r3 r4 s0 s1 s2 s3 s4 lr g0 g1 lg
    obtain ⟨⟨p0, p1, p2, p3, p4⟩, _, la⟩ := five kA
    obtain ⟨⟨u0, u1, u2, u3, u4⟩, ⟨t0, t1, t2, t3, t4⟩, lu⟩ := five kU
    have q5 := q4.set (p := ⟨w.heap.size + 1 + 1, 4, none⟩) (.inr (by dsimp only; omega)) (.slice Av x.f4.length cv)
    replace HO := Kd.N_far HO (p := ⟨w.heap.size + 1 + 1, 4, none⟩) (fun k hk => by dsimp only; rcases hk with hk | hk; (have := hk.2; omega); omega) (.slice Av x.f4.length cv)
    replace kA := blk_far kA (p := ⟨w.heap.size + 1 + 1, 4, none⟩) (by dsimp only; omega) (.slice Av x.f4.length cv)
    replace kR := blk_far kR (p := ⟨w.heap.size + 1 + 1, 4, none⟩) (by dsimp only; omega) (.slice Av x.f4.length cv)
    replace kG := blk_far kG (p := ⟨w.heap.size + 1 + 1, 4, none⟩) (by dsimp only; omega) (.slice Av x.f4.length cv)
    replace kU := blk_set kU 4 (.slice Av x.f4.length cv)
    go_wp2_with fail
    clear p0 p1 p2 p3 p4 la u0 u1 u2 u3 u4 t0 t1 t2 t3 t4 q4 lu
    generalize hX0 : w1.setCell _ _ = X0 at kA kR kU kG HO q5 ⊢
    clear hX0
    have hsl := hsm.len
    have hk1 : kv - 1 ≤ 9223372036854775807 := by omega
    go_loopg [33] x.f4.length (fun kq v33 w' => ∃ (i : Nat) (dn : List Ty) (kc : Int), v33 = .int .i64 i ∧ kq + i = x.f4.length ∧ Aside0 (dn.length = i) ∧ Aside0 (cutAll x.f4 (kv - 1) = (dn ++ (cutAll (x.f4.drop i) kc).1, (cutAll (x.f4.drop i) kc).2)) ∧ kc ≤ 9223372036854775807 ∧ Kd.N kTy 25 w' w.heap.size (fun k => (ok0 k ∧ k < w.heap.size) ∨ w.heap.size + 1 + 1 < k) (.slice Av x.f4.length cv) (dn ++ x.f4.drop i) ∧ w'.heap[w.heap.size + 1 + 1]? = some (.cells #[.int .i64 x.f0, .int .i64 x.f1, .string x.f2, .slice A3 x.f3.length c3, .slice Av x.f4.length cv] 25 (0, 0)) ∧ w'.heap[w.heap.size]? = some (.cells #[.int .i64 x.f0, .int .i64 x.f1, .string x.f2, .slice A3 x.f3.length c3, .slice A4 x.f4.length c4] 25 (0, 0)) ∧ w'.heap[w.heap.size + 1]? = some (.cells #[.int .i64 0, .int .i64 0, .string ⟨#[]⟩, .slice none 0 0, .slice none 0 0] 25 (0, 0)) ∧ w'.heap[g]? = some (.cells #[.int .i64 (kc)] 3 (0, 0)) ∧ Kq (fun k => k = g) w w')
    case atStart => exact ⟨0, [], kv - 1, rfl, rfl, ⟨rfl⟩, ⟨by simp⟩, hk1, HO, kU, kA, kR, kG, q5⟩
    case round =>
      clear kU kA kR kG HO q5
      obtain ⟨i, dn, kc, rfl, hk, HDL, HC, hkc, HO, kU, kA, kR, kG, qr⟩ := hrel
      obtain ⟨⟨p0, p1, p2, p3, p4⟩, _, la⟩ := five kA
      obtain ⟨⟨u0, u1, u2, u3, u4⟩, ⟨t0, t1, t2, t3, t4⟩, lu⟩ := five kU
      obtain ⟨⟨r0, r1, r2, r3, r4⟩, ⟨s0, s1, s2, s3, s4⟩, lr⟩ := five kR
      by_cases hi : i < x.f4.length
      · obtain ⟨k1, rfl⟩ : ∃ k1, gk = k1 + 1 := ⟨gk - 1, by omega⟩
        have ci : decide ((i : Int) < (x.f4.length : Int)) = true := decide_eq_true (by omega)
        have hlen : (dn ++ x.f4.drop i).length = x.f4.length := by rw [List.length_append, List.length_drop, HDL.out]; omega
        obtain ⟨gv, cap, hv, hgv, hgv2, _⟩ := Kd.N_form HO (by omega)
        injection hv with hAv hln hcp
        clear hln hcp
        subst hAv
        have hgu : w.heap.size + 1 + 1 < gv := by
          rcases HO.1 gv (by simp [Value.ownBlock]) with h | h
          · have := h.2; omega
          · exact h
        obtain ⟨ad, X3, e3, X4, e4, hA, fx, x0, x1, x2, x3, x4⟩ := elt' ha.2.2.2 i hi
        subst hA
        have nx : ¬ (ad.block = g) := fun h => elt_no h ha.2.2.2 i hi hog
        have nxa : ∀ k, (ad.add k).block = ad.block := fun k => by unfold Addr.add; split <;> rfl
        have nxb : ¬ ((ad.add (i * 5)).block = g) := by rw [nxa]; exact nx
        replace x0 := qr.cell x0 nxb
        replace x1 := qr.cell x1 nxb
        replace x2 := qr.cell x2 nxb
        replace x3 := qr.cell x3 nxb
        replace x4 := qr.cell x4 nxb
        have HLN := Aside0.mk hlen
        have HOG := Aside0.mk hog
        have HGV := Aside0.mk (And.intro hgv (And.intro hgv2 hgu))
        clear nx nxa nxb hlen hog hgv hgv2 hgu h1 h2 e1 e2 e9 hk1
        go_wp2_with fail
        obtain ⟨hgv, hgv2, hgu⟩ := HGV.out
        have hog := HOG.out
        have kX := blk_new wr (.cells #[.int .i64 x.f4[i].f0, .int .i64 x.f4[i].f1, .string x.f4[i].f2, .slice X3 x.f4[i].f3.length e3, .slice X4 x.f4[i].f4.length e4] 25)
        have bX := below_alloc2 wr (.cells #[.int .i64 x.f4[i].f0, .int .i64 x.f4[i].f1, .string x.f4[i].f2, .slice X3 x.f4[i].f3.length e3, .slice X4 x.f4[i].f4.length e4] 25)
        have qX := qr.trans (Kq.of_below (S := fun k => k = g) bX)
        replace kA := blk_below kA bX
        replace kR := blk_below kR bX
        replace kU := blk_below kU bX
        replace kG := blk_below kG bX
        replace HO := Kd.N_below HO bX
        clear p0 p1 p2 p3 p4 la r0 r1 r2 r3 r4 s0 s1 s2 s3 s4 lr u0 u1 u2 u3 u4 t0 t1 t2 t3 t4 x0 x1 x2 x3 x4 ci qr
        generalize hWX : wr.alloc _ = WX at kX kA kR kU kG HO qX bX ⊢
        generalize hgX : wr.heap.size = gX at kX lu hgv2 ⊢
        clear hWX bX
        obtain ⟨⟨p0, p1, p2, p3, p4⟩, _, lx⟩ := five kX
        obtain ⟨⟨u0, u1, u2, u3, u4⟩, _, lu'⟩ := five kU
        have hsz : SizeOf.sizeOf x.f4[i] < n := by have := size_args x x.f4[i] (List.getElem_mem hi); omega
        have hsmi := hsm.all _ (List.getElem_mem hi)
        have nX : ¬ (gX = g ∨ gX = gv) := by omega
        have nU : ¬ (w.heap.size + 1 + 1 = g ∨ w.heap.size + 1 + 1 = gv) := by omega
        have hgn : ∀ k, (ok0 k ∧ k < w.heap.size) → ¬ (k = g ∨ k = gv) := fun k hk h => by rcases h with h | h; exact hog k hk.1 h; (have := hk.2; omega)
        have hnk : ∀ k, ((ok0 k ∧ k < w.heap.size) ∨ w.heap.size + 1 + 1 < k) → ¬ (k = g) := fun k hk h => by rcases hk with hk | hk; exact hog k hk.1 h; omega
        go_region_held3 (fun w' => Kq (fun k => k = g ∨ k = gv) WX w' ∧ w'.cell? ⟨gX, 0, none⟩ = some (.int .i64 x.f4[i].f0) ∧ w'.cell? ⟨gX, 1, none⟩ = some (.int .i64 x.f4[i].f1) ∧ w'.cell? ⟨gX, 2, none⟩ = some (.string x.f4[i].f2) ∧ w'.cell? ⟨gX, 3, none⟩ = some (.slice X3 x.f4[i].f3.length e3) ∧ w'.cell? ⟨gX, 4, none⟩ = some (.slice X4 x.f4[i].f4.length e4) ∧ w'.cell? ⟨w.heap.size + 1 + 1, 4, none⟩ = some (.slice (some ⟨gv, 0, none⟩) x.f4.length cv))
          ((refine and_of' (fun hK_ => ⟨hK_.cell p0 nX, hK_.cell p1 nX, hK_.cell p2 nX, hK_.cell p3 nX, hK_.cell p4 nX, hK_.cell u4 nU⟩) ?_; first | (with_reducible exact Kq.of_below (Below.refl _ _).drew) | (with_reducible exact Kq.refl _ _) | (with_reducible exact Kq.trans (And.left (by assumption)) (Kq.mono (by assumption) (fun k hk => .inl hk))) | ((repeat' (with_reducible refine Kq.set ?_ ?_ _)) <;> first | (exact (.inl (.inr rfl))) | (with_reducible exact And.left (by assumption)))))
          (first
            | (go_at_call 54; refine (cut_c n x.f4[i] hsz hsmi (fun k => ok0 k ∧ k < w.heap.size) X3 e3 X4 e4 g kc _ (fx.kq ((qX.mono (fun k hk => .inl hk)).trans (And.left (by assumption))) hgn) (fun k hk => hog k hk.1) (by first | exact kG | exact blk_drew kG) hkc).mono ?_; rintro e w5 ⟨hq5, hg5, C3, h3, C4, h4, rfl, hft⟩; have HO5 := Kd.N_step (by first | exact HO | exact Kd.N_drew HO) (fun k hk hl => hq5.block k hl (hnk k hk)); obtain ⟨w0, w1', w2, w3, w4, hcells, hfroz⟩ := slot HO5 i hi))
        rename_i hH
        have hft' : FT w5 (fun k => (ok0 k ∧ k < w.heap.size) ∨ WX.heap.size ≤ k) (cut x.f4[i] kc).1 C3 h3 C4 h4 := hft.mono (fun k hk => by rcases hk with hk | hk; exact .inl hk; exact .inr (by simpa using hk))
        have hp := put_c HO5 hi hft' (fun k hk => ⟨by rcases hk with hk | hk; exact .inl hk; exact .inr (by omega), by rcases hk with hk | hk; (have := hk.2; omega); omega⟩)
        rw [setCells5] at hp
        have hH1 := hH.1
        clear hH hft hft' hcells hfroz HO5 hq5
        generalize hX1 : World.setCell (World.setCell _ _ _) ⟨_, i * 5 + 4, none⟩ _ = X1 at hp hH1 ⊢
        have q1 : Kq (fun k => k = g) w X1 := qX.then hH1 (fun k hk h => by rcases h with h | h; exact h; omega)
        replace kA := hH1.blk kA (by omega)
        replace kR := hH1.blk kR (by omega)
        replace kU := hH1.blk kU (by omega)
        replace kG := blk_grown hg5 hp.2 (by simp; omega)
        have HP := Aside0.mk hp.1
        clear hp hX1 hH1 hg5 p0 p1 p2 p3 p4 u0 u1 u2 u3 u4 lx lu' HO
        go_wp2
        go_roundg k1
        case measure => omega
        case rel => exact ⟨i + 1, dn ++ [(cut x.f4[i] kc).1], (cut x.f4[i] kc).2, (by first | rfl | (simp; done) | (push_cast; rfl)), by omega, ⟨by rw [List.length_append, HDL.out]; rfl⟩, ⟨by rw [HC.out, List.drop_eq_getElem_cons hi, cutAll_cons]; simp⟩, cut_le _ _ _ (by omega) hkc, by rw [set_mid dn x.f4 i hi HDL.out] at HP; exact HP.out, kU, kA, kR, kG, q1⟩
      · have cn : decide ((i : Int) < (x.f4.length : Int)) = false := decide_eq_false (by omega)
        have hdl : dn.length = x.f4.length := by have := HDL.out; omega
        rw [List.drop_eq_nil_of_le (show x.f4.length ≤ i by omega), List.append_nil] at HO
        have HDL2 := Aside0.mk hdl
        clear hdl
        go_wp2
        (try simp only [Exit.inBlock, Exit.then])
        refine bodyPost_ret (results_cell_row rfl _ _ _ 25 _ (0, 0) _ rfl (stored' kR _ _ _ _ _) Try.underlying25 rfl (by kernel_rfl)) rfl ?_
        rw [← HDL2.out] at HO ⊢
        refine CutOut.mk (u := ⟨x.f0, x.f1, x.f2, x.f3, dn⟩) (k := kc) (qr.set5 (.inr (by omega)) _ _ _ _ _) ?_ (blk_set5 kG (by omega) _ _ _ _ _) ((FT.set5 (w := wr) (ok := (fun k => (ok0 k ∧ k < w.heap.size) ∨ w.heap.size + 1 + 1 < k)) (x := ⟨x.f0, x.f1, x.f2, x.f3, dn⟩) (A3 := A3) (c3 := c3) (A4 := Av) (c4 := cv) (g := w.heap.size + 1) ⟨ha.1, Kd.F_mono (Kd.F_step ha.2.1 (fun k ho hl => qr.block k hl (hog k ho.1))) (fun k hk => .inl hk), (Kd.N_reads' HO).2.1, Kd.N_F HO⟩ (fun k hk => by rcases hk with hk | hk; (have := hk.2; omega); omega) _ _ _ _ _).mono (fun k hk => by rcases hk with hk | hk; exact .inl hk.1; exact .inr (by omega)))
        rw [HQ.out, HC.out, List.drop_eq_nil_of_le (show x.f4.length ≤ i by omega), cutAll_nil]
        simp
end Go.Proofs.Ytnfnhjhnfdkinaa.PPrecTells
