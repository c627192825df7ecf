/-
  prec: the walk of the law PrecTells, for types of as many nodes as a machine holds.
-/
import Derived.Test.YtnfnhjhnfdkinaaR2
namespace Go.Proofs.Ytnfnhjhnfdkinaa.PPrecTells
open Go.RowKit Go.Proofs.YtnfnhjhnfdkinaaW.Mine Go.Proofs.YtnfnhjhnfdkinaaW.PrintWords Go.Proofs.YtnfnhjhnfdkinaaW.PrintLast Go.Proofs.YtnfnhjhnfdkinaaW.PrintMore
attribute [local go_sem] max2_int min2_int max_two min_two max_three min_three max_four min_four
set_option linter.unusedVariables false
set_option linter.unusedSimpArgs false
theorem take_held {P : Program} {ops : Array Oper} {Q : Exit → Act → World → Prop} {md : Region.Mode} {S : World → Prop} {i : Nat} {oi : Oper} {d : Option Tmp} {v : Value} {fuel : Nat} {listed : Array Bool} {a : Act} {w : World} (hi : ops[i]? = some oi) (hd : oi.dst = d)
    (hs : Region.noSelect ops = true) (hf : Region.free md ops listed i = true) (hr : (Region.ready md ops listed).contains i = true)
    (hQ : ∀ c a w, Q (.panic c) (a.put oi.dst v) w → Q (.panic c) a w) (hy : YieldsIf P ops S oi v a) (hS : S w)
    (h : wpAnyH P md ops Q S fuel (listed.setIfInBounds i true) (a.put d v) w) : wpAnyH P md ops Q S (fuel + 1) listed a w := by
  subst hd; exact wpAnyH_take hi hs hf hr hQ hy hS h
mutual
theorem bd_cut : ∀ (x : Ty) (k : Int), Bd x → Bd (cut x k).1
  | ⟨a0, a1, a2, a3, a4⟩, k, h => by
    rw [cut_eq]
    split
    · exact .mk _ (by decide) (by decide) (fun y hy => by cases hy)
    · split
      · exact h
      · have hl := lessAll_len (lessAll_cut a4 (k - 1))
        refine .mk _ h.l3 ?_ (bd_cutAll a4 (k - 1) h.all)
        have := h.l4
        simp only at this ⊢
        omega
theorem bd_cutAll : ∀ (l : List Ty) (k : Int), (∀ y, y ∈ l → Bd y) → ∀ y, y ∈ (cutAll l k).1 → Bd y
  | [], k, _, y, hy => by rw [cutAll_nil] at hy; cases hy
  | a :: l, k, h, y, hy => by
    rw [cutAll_cons] at hy
    rcases List.mem_cons.1 hy with rfl | hy
    · exact bd_cut a k (h a List.mem_cons_self)
    · exact bd_cutAll l _ (fun z hz => h z (List.mem_cons_of_mem _ hz)) y hy
end
theorem bd_zero : Bd z25 := .mk _ (by decide) (by decide) (fun y hy => by cases hy)
theorem bd_cutO {x : Ty} {k : Int} (h : Bd x) : Bd ((cutO x k).getD z25) := by
  unfold cutO
  split
  · exact bd_zero
  · split
    · exact bd_zero
    · exact bd_cut x k h
mutual
theorem bd_fuse : ∀ (x y u : Ty), fuse x y = some u → Bd x → Bd y → Bd u
  | ⟨a0, a1, a2, a3, a4⟩, y, u, h, hx, hy => by
    rw [fuse_eq] at h
    split at h
    · injection h with h; subst h; exact hx
    · split at h
      · injection h with h; subst h; exact hy
      · split at h
        · cases hf : fuseAll a4 y.f4 with
          | none => rw [hf] at h; cases h
          | some r =>
            rw [hf] at h
            simp only [Option.map_some, Option.some.injEq] at h
            subst h
            obtain ⟨h1, h2⟩ := bd_fuseAll a4 y.f4 r hf hx.all hy.all
            exact .mk _ hx.l3 (Nat.le_trans h1 hx.l4) h2
        · cases h
theorem bd_fuseAll : ∀ (l m r : List Ty), fuseAll l m = some r → (∀ y, y ∈ l → Bd y) → (∀ y, y ∈ m → Bd y) → r.length ≤ l.length ∧ ∀ y, y ∈ r → Bd y
  | [], m, r, h, _, _ => by
    simp only [fuseAll, Option.some.injEq] at h
    subst h
    exact ⟨Nat.le_refl _, fun y hy => by cases hy⟩
  | a :: l, [], r, h, _, _ => by
    simp only [fuseAll, Option.some.injEq] at h
    subst h
    exact ⟨Nat.zero_le _, fun y hy => by cases hy⟩
  | a :: l, b :: m, r, h, hl, hm => by
    simp only [fuseAll] at h
    cases hf : fuse a b with
    | none => rw [hf] at h; cases h
    | some t =>
      rw [hf] at h
      simp only [Option.bind_some] at h
      cases hr : fuseAll l m with
      | none => rw [hr] at h; cases h
      | some q =>
        rw [hr] at h
        simp only [Option.map_some, Option.some.injEq] at h
        subst h
        obtain ⟨h1, h2⟩ := bd_fuseAll l m q hr (fun z hz => hl z (List.mem_cons_of_mem _ hz)) (fun z hz => hm z (List.mem_cons_of_mem _ hz))
        refine ⟨Nat.succ_le_succ h1, fun y hy => ?_⟩
        rcases List.mem_cons.1 hy with rfl | hy
        · exact bd_fuse a b _ hf (hl a List.mem_cons_self) (hm b List.mem_cons_self)
        · exact h2 y hy
end
theorem bd_fuseO {x y : Ty} (hx : Bd x) (hy : Bd y) : Bd ((fuse x y).getD z25) := by
  cases h : fuse x y with
  | none => exact bd_zero
  | some u => exact bd_fuse x y u h hx hy
theorem FT.zero (w : World) (ok : Nat → Prop) : FT w ok z25 none 0 none 0 := ⟨Nat.le_refl _, Kd.F_nil _ _ _, Nat.le_refl _, Kd.F_nil _ _ _⟩
theorem COut.opt {w w' : World} {ok : Nat → Prop} {o : Option Ty} {e : Ending} (h : COut w ok o e w') : ∃ A3 c3 A4 c4, e = .returned (.tuple #[tv (o.getD z25) A3 c3 A4 c4, .bool o.isSome]) ∧ FT w' (fun k => ok k ∨ w.heap.size ≤ k) (o.getD z25) A3 c3 A4 c4 ∧ Below w.heap.size w w' := by
  cases o with
  | none => exact ⟨none, 0, none, 0, h.2, FT.zero _ _, h.1⟩
  | some u => obtain ⟨hb, A3, c3, A4, c4, he, hf⟩ := h; exact ⟨A3, c3, A4, c4, he, hf, hb⟩
theorem FuseOut.opt {w w' : World} {ok : Nat → Prop} {o : Option Ty} {e : Ending} (h : FuseOut w ok o e w') : ∃ A3 c3 A4 c4, e = .returned (.tuple #[tv (o.getD z25) A3 c3 A4 c4, .bool o.isSome]) ∧ FT w' (fun k => ok k ∨ w.heap.size ≤ k) (o.getD z25) A3 c3 A4 c4 ∧ Below w.heap.size w w' := by
  cases o with
  | none => exact ⟨none, 0, none, 0, h.2, FT.zero _ _, h.1⟩
  | some u => obtain ⟨hb, A3, c3, A4, c4, he, hf⟩ := h; exact ⟨A3, c3, A4, c4, he, hf, hb⟩
theorem rless_c {x y : Ty} (hx : Bd x) (hy : Bd y) {ok ok' : Nat → Prop} {A3 A4 B3 B4 : Option Addr} {c3 c4 d3 d4 : Nat} {w : World} (h : FT w ok x A3 c3 A4 c4) (k : FT w ok' y B3 d3 B4 d4) :
    Calls Try.prog 21 #[tv x A3 c3 A4 c4, tv y B3 d3 B4 d4] w fun e w' => e = .returned (.bool (less x y)) ∧ Below w.heap.size w w' := by
  obtain ⟨n, hn⟩ := (rless_f _ x (Nat.lt_succ_self _) hx y hy).rounds
  exact (limbeckref08_Less.calls n x.f0 x.f1 x.f2 A3 c3 x.f3 A4 c4 x.f4 y.f0 y.f1 y.f2 B3 d3 y.f3 B4 d4 y.f4 _ w h.r3 h.1 h.r4 h.2.2.1 k.r3 k.1 k.r4 k.2.2.1 hn).mono fun e w' k => k
theorem two_at (w : World) (c d : Array Value) (t : TypeId) : let W := (w.alloc (.cells c t)).alloc (.cells d t)
    (W.heap[w.heap.size]? = some (.cells c t (0, 0)) ∧ W.heap[w.heap.size + 1]? = some (.cells d t (0, 0))) ∧ Below w.heap.size w W := by
  have k1 := blk_new (w.alloc (.cells c t)) (.cells d t)
  simp only [World.size_alloc] at k1
  exact ⟨⟨blk_alloc (blk_new w _) _, k1⟩, chain (below_alloc2 _ _) (below_alloc2 _ _)⟩
theorem same_self (x : Ty) : same x x = true := (same_iff x x).2 rfl
theorem same_ok {x : Ty} (h : Bd x) : ∃ k, limbeckref04_Same.f k x.f0 x.f1 x.f2 x.f3 x.f4 x.f0 x.f1 x.f2 x.f3 x.f4 = some true := by
  obtain ⟨k, hk⟩ := (types_f _ x (Nat.lt_succ_self _) h x).rounds
  rw [same_self] at hk
  exact ⟨k, hk⟩
def Res (w : World) (ok : Nat → Prop) (u : Ty) (q : Bool) (e : Ending) (w' : World) : Prop := ∃ A3 c3 A4 c4, e = .returned (.tuple #[tv u A3 c3 A4 c4, .bool q]) ∧ FT w' (fun k => ok k ∨ w.heap.size ≤ k) u A3 c3 A4 c4 ∧ Below w.heap.size w w'
theorem res_cut {a : Ty} {k : Int} {cu : Ty} {cb : Bool} (h1 : (cutO a k).getD z25 = cu) (h2 : (cutO a k).isSome = cb) (sa : Sm a) {ok : Nat → Prop} {A3 A4 : Option Addr} {c3 c4 : Nat} {w : World} (hk1 : k ≤ 9223372036854775807) (ha : FT w ok a A3 c3 A4 c4) :
    Calls Try.prog 16 #[tv a A3 c3 A4 c4, .int .i64 k] w (Res w ok cu cb) := by
  subst h1; subst h2
  exact (Cut_c a sa _ A3 c3 A4 c4 k hk1 w ha).mono fun e w' h => h.opt
theorem res_rcut {a : Ty} {k : Int} {cu : Ty} {cb : Bool} (h1 : (cutO a k).getD z25 = cu) (h2 : (cutO a k).isSome = cb) (sa : Sm a) (na : nodes a ≤ 4611686018427387904) {ok : Nat → Prop} {A3 A4 : Option Addr} {c3 c4 : Nat} {w : World} (hk0 : -9223372036854775808 ≤ k) (hk1 : k ≤ 9223372036854775807) (ha : FT w ok a A3 c3 A4 c4) :
    Calls Try.prog 17 #[tv a A3 c3 A4 c4, .int .i64 k] w (Res w ok cu cb) := by
  subst h1; subst h2
  exact (rcut_c _ a (Nat.lt_succ_self _) sa na _ A3 c3 A4 c4 k w ha hk0 hk1).mono fun e w' h => h.opt
theorem res_fuse {a b : Ty} {cu : Ty} {cb : Bool} (h1 : (fuse a b).getD z25 = cu) (h2 : (fuse a b).isSome = cb) (sa : Sm a) {ok : Nat → Prop} {A3 A4 B3 B4 : Option Addr} {c3 c4 d3 d4 : Nat} {w : World} (ha : FT w ok a A3 c3 A4 c4) (hb : FT w ok b B3 d3 B4 d4) :
    Calls Try.prog 18 #[tv a A3 c3 A4 c4, tv b B3 d3 B4 d4] w (Res w ok cu cb) := by
  subst h1; subst h2
  exact (fuse_c _ a b (Nat.lt_succ_self _) sa _ A3 c3 A4 c4 B3 d3 B4 d4 w ha hb).mono fun e w' h => h.opt
theorem res_rfuse {a b : Ty} {cu : Ty} {cb : Bool} (h1 : (fuse a b).getD z25 = cu) (h2 : (fuse a b).isSome = cb) (sa : Sm a) (ba : Bd a) (bb : Bd b) {ok : Nat → Prop} {A3 A4 B3 B4 : Option Addr} {c3 c4 d3 d4 : Nat} {w : World} (ha : FT w ok a A3 c3 A4 c4) (hb : FT w ok b B3 d3 B4 d4) :
    Calls Try.prog 19 #[tv a A3 c3 A4 c4, tv b B3 d3 B4 d4] w (Res w ok cu cb) := by
  subst h1; subst h2
  exact (rfuse_c _ a b (Nat.lt_succ_self _) sa ba bb _ A3 c3 A4 c4 B3 d3 B4 d4 w ha hb).mono fun e w' h => h.opt
set_option maxHeartbeats 4000000 in
set_option maxRecDepth 100000 in
theorem tells_c (a b : Ty) (k : Int) (ta : Told a) (tb : Told b) (ba : Bd a) (bb : Bd b) (sa : Sm a) (na : nodes a ≤ 4611686018427387904) (hk0 : -9223372036854775808 ≤ k) (hk1 : k ≤ 9223372036854775807) (A3 : Option Addr) (c3 : Nat) (A4 : Option Addr) (c4 : Nat) (B3 : Option Addr) (d3 : Nat) (B4 : Option Addr) (d4 : Nat) (w : World)
    (ha0 : FT w (fun k => k < w.heap.size) a A3 c3 A4 c4) (hb0 : FT w (fun k => k < w.heap.size) b B3 d3 B4 d4) :
    Calls Try.prog 3 #[tv a A3 c3 A4 c4, tv b B3 d3 B4 d4, .int .i64 k] w fun e w' => e = .returned (.bool true) ∧ Below w.heap.size w w' := by
  obtain ⟨ka, ma, ea⟩ := ta
  obtain ⟨kb, mb, eb⟩ := tb
  obtain ⟨kc, ec⟩ := same_ok (bd_cutO (k := k) ba)
  obtain ⟨kf, ef⟩ := same_ok (bd_fuseO ba bb)
  obtain ⟨cu, hcu⟩ : ∃ cu, (cutO a k).getD z25 = cu := ⟨_, rfl⟩
  obtain ⟨cb, hcb0⟩ : ∃ cb, (cutO a k).isSome = cb := ⟨_, rfl⟩
  obtain ⟨fu, hfu⟩ : ∃ fu, (fuse a b).getD z25 = fu := ⟨_, rfl⟩
  obtain ⟨fb, hfb0⟩ : ∃ fb, (fuse a b).isSome = fb := ⟨_, rfl⟩
  rw [hcu] at ec
  rw [hfu] at ef
  have HCU := Aside0.mk hcu
  have HCB := Aside0.mk hcb0
  have HFU := Aside0.mk hfu
  have HFB := Aside0.mk hfb0
  clear hcu hcb0 hfu hfb0
  obtain ⟨⟨kA, kB⟩, b0⟩ := two_at w #[.int .i64 a.f0, .int .i64 a.f1, .string a.f2, .slice A3 a.f3.length c3, .slice A4 a.f4.length c4] #[.int .i64 b.f0, .int .i64 b.f1, .string b.f2, .slice B3 b.f3.length d3, .slice B4 b.f4.length d4] 25
  have ha := ha0.below b0
  have hb' := hb0.below b0
  clear ha0 hb0
  have hn := Nat.lt_succ_self (SizeOf.sizeOf a)
  go_enter Try.func3, Try.ntmps3
  obtain ⟨⟨Ac0, Ac1, Ac2, Ac3, Ac4⟩, ⟨Af0, Af1, Af2, Af3, Af4⟩, Al⟩ := five kA
  obtain ⟨⟨Bc0, Bc1, Bc2, Bc3, Bc4⟩, ⟨Bf0, Bf1, Bf2, Bf3, Bf4⟩, Bl⟩ := five kB
  go_wp2_with fail
  refine (much_c a ea ha).mono ?_
  rintro e_ w_ ⟨rfl, hb⟩
  clear Ac0 Ac1 Ac2 Ac3 Ac4 Af0 Af1 Af2 Af3 Af4 Al Bc0 Bc1 Bc2 Bc3 Bc4 Bf0 Bf1 Bf2 Bf3 Bf4 Bl
  have b_1 := chain b0 hb
  replace kA := blk_below kA hb
  replace kB := blk_below kB hb
  replace ha := ha.below hb
  replace hb' := hb'.below hb
  clear b0
  clear hb
  by_cases hma : 800 < ma
  · have cma : decide (800 < ma) = true := decide_eq_true hma
    obtain ⟨⟨Ac0, Ac1, Ac2, Ac3, Ac4⟩, ⟨Af0, Af1, Af2, Af3, Af4⟩, Al⟩ := five kA
    obtain ⟨⟨Bc0, Bc1, Bc2, Bc3, Bc4⟩, ⟨Bf0, Bf1, Bf2, Bf3, Bf4⟩, Bl⟩ := five kB
    go_wp2_with fail
    refine (awake_c _).mono ?_
    rintro e_ w_ ⟨rfl, hb⟩
    clear Ac0 Ac1 Ac2 Ac3 Ac4 Af0 Af1 Af2 Af3 Af4 Al Bc0 Bc1 Bc2 Bc3 Bc4 Bf0 Bf1 Bf2 Bf3 Bf4 Bl
    have b_2 := chain b_1 hb
    replace kA := blk_below kA hb
    replace kB := blk_below kB hb
    replace ha := ha.below hb
    replace hb' := hb'.below hb
    clear b_1
    clear hb
    obtain ⟨⟨Ac0, Ac1, Ac2, Ac3, Ac4⟩, ⟨Af0, Af1, Af2, Af3, Af4⟩, Al⟩ := five kA
    obtain ⟨⟨Bc0, Bc1, Bc2, Bc3, Bc4⟩, ⟨Bf0, Bf1, Bf2, Bf3, Bf4⟩, Bl⟩ := five kB
    go_wp2
    go_ret
    exact ⟨rfl, b_2⟩
  have cma : decide (800 < ma) = false := decide_eq_false hma
  clear hma
  obtain ⟨⟨Ac0, Ac1, Ac2, Ac3, Ac4⟩, ⟨Af0, Af1, Af2, Af3, Af4⟩, Al⟩ := five kA
  obtain ⟨⟨Bc0, Bc1, Bc2, Bc3, Bc4⟩, ⟨Bf0, Bf1, Bf2, Bf3, Bf4⟩, Bl⟩ := five kB
  go_wp2_with fail
  refine (much_c b eb hb').mono ?_
  rintro e_ w_ ⟨rfl, hb⟩
  clear Ac0 Ac1 Ac2 Ac3 Ac4 Af0 Af1 Af2 Af3 Af4 Al Bc0 Bc1 Bc2 Bc3 Bc4 Bf0 Bf1 Bf2 Bf3 Bf4 Bl
  have b_3 := chain b_1 hb
  replace kA := blk_below kA hb
  replace kB := blk_below kB hb
  replace ha := ha.below hb
  replace hb' := hb'.below hb
  clear b_1
  clear hb
  by_cases hmb : 800 < mb
  · have cmb : decide (800 < mb) = true := decide_eq_true hmb
    obtain ⟨⟨Ac0, Ac1, Ac2, Ac3, Ac4⟩, ⟨Af0, Af1, Af2, Af3, Af4⟩, Al⟩ := five kA
    obtain ⟨⟨Bc0, Bc1, Bc2, Bc3, Bc4⟩, ⟨Bf0, Bf1, Bf2, Bf3, Bf4⟩, Bl⟩ := five kB
    go_wp2_with fail
    refine (awake_c _).mono ?_
    rintro e_ w_ ⟨rfl, hb⟩
    clear Ac0 Ac1 Ac2 Ac3 Ac4 Af0 Af1 Af2 Af3 Af4 Al Bc0 Bc1 Bc2 Bc3 Bc4 Bf0 Bf1 Bf2 Bf3 Bf4 Bl
    have b_4 := chain b_3 hb
    replace kA := blk_below kA hb
    replace kB := blk_below kB hb
    replace ha := ha.below hb
    replace hb' := hb'.below hb
    clear b_3
    clear hb
    obtain ⟨⟨Ac0, Ac1, Ac2, Ac3, Ac4⟩, ⟨Af0, Af1, Af2, Af3, Af4⟩, Al⟩ := five kA
    obtain ⟨⟨Bc0, Bc1, Bc2, Bc3, Bc4⟩, ⟨Bf0, Bf1, Bf2, Bf3, Bf4⟩, Bl⟩ := five kB
    go_wp2
    go_ret
    exact ⟨rfl, b_4⟩
  have cmb : decide (800 < mb) = false := decide_eq_false hmb
  clear hmb
  obtain ⟨⟨Ac0, Ac1, Ac2, Ac3, Ac4⟩, ⟨Af0, Af1, Af2, Af3, Af4⟩, Al⟩ := five kA
  obtain ⟨⟨Bc0, Bc1, Bc2, Bc3, Bc4⟩, ⟨Bf0, Bf1, Bf2, Bf3, Bf4⟩, Bl⟩ := five kB
  go_wp2_with fail
  refine (res_cut HCU.out HCB.out sa hk1 ha).mono ?_
  rintro e_ w3 ⟨P3, p3, P4, p4, rfl, hC, hb⟩
  clear Ac0 Ac1 Ac2 Ac3 Ac4 Af0 Af1 Af2 Af3 Af4 Al Bc0 Bc1 Bc2 Bc3 Bc4 Bf0 Bf1 Bf2 Bf3 Bf4 Bl
  have b_5 := chain b_3 hb
  replace kA := blk_below kA hb
  replace kB := blk_below kB hb
  replace ha := ha.below hb
  replace hb' := hb'.below hb
  clear b_3
  clear hb
  have kC := blk_new w3 (.cells #[.int .i64 cu.f0, .int .i64 cu.f1, .string cu.f2, .slice P3 cu.f3.length p3, .slice P4 cu.f4.length p4] 25)
  have hb := below_alloc1 w3 (.cells #[.int .i64 cu.f0, .int .i64 cu.f1, .string cu.f2, .slice P3 cu.f3.length p3, .slice P4 cu.f4.length p4] 25)
  have b_6 := chain b_5 hb
  replace kA := blk_below kA hb
  replace kB := blk_below kB hb
  replace ha := ha.below hb
  replace hb' := hb'.below hb
  replace hC := hC.below hb
  clear b_5
  clear hb
  obtain ⟨⟨Ac0, Ac1, Ac2, Ac3, Ac4⟩, ⟨Af0, Af1, Af2, Af3, Af4⟩, Al⟩ := five kA
  obtain ⟨⟨Bc0, Bc1, Bc2, Bc3, Bc4⟩, ⟨Bf0, Bf1, Bf2, Bf3, Bf4⟩, Bl⟩ := five kB
  obtain ⟨⟨Cc0, Cc1, Cc2, Cc3, Cc4⟩, ⟨Cf0, Cf1, Cf2, Cf3, Cf4⟩, Cl⟩ := five kC
  go_wp2_with fail
  refine (res_rcut HCU.out HCB.out sa na hk0 hk1 ha).mono ?_
  rintro e_ w4 ⟨Q3, q3, Q4, q4, rfl, hD, hb⟩
  clear Ac0 Ac1 Ac2 Ac3 Ac4 Af0 Af1 Af2 Af3 Af4 Al Bc0 Bc1 Bc2 Bc3 Bc4 Bf0 Bf1 Bf2 Bf3 Bf4 Bl Cc0 Cc1 Cc2 Cc3 Cc4 Cf0 Cf1 Cf2 Cf3 Cf4 Cl
  have b_7 := chain b_6 hb
  replace kA := blk_below kA hb
  replace kB := blk_below kB hb
  replace kC := blk_below kC hb
  replace ha := ha.below hb
  replace hb' := hb'.below hb
  replace hC := hC.below hb
  clear b_6
  clear hb
  have kD := blk_new w4 (.cells #[.int .i64 cu.f0, .int .i64 cu.f1, .string cu.f2, .slice Q3 cu.f3.length q3, .slice Q4 cu.f4.length q4] 25)
  have hb := below_alloc1 w4 (.cells #[.int .i64 cu.f0, .int .i64 cu.f1, .string cu.f2, .slice Q3 cu.f3.length q3, .slice Q4 cu.f4.length q4] 25)
  have b_8 := chain b_7 hb
  replace kA := blk_below kA hb
  replace kB := blk_below kB hb
  replace kC := blk_below kC hb
  replace ha := ha.below hb
  replace hb' := hb'.below hb
  replace hC := hC.below hb
  replace hD := hD.below hb
  clear b_7
  clear hb
  obtain ⟨⟨Ac0, Ac1, Ac2, Ac3, Ac4⟩, ⟨Af0, Af1, Af2, Af3, Af4⟩, Al⟩ := five kA
  obtain ⟨⟨Bc0, Bc1, Bc2, Bc3, Bc4⟩, ⟨Bf0, Bf1, Bf2, Bf3, Bf4⟩, Bl⟩ := five kB
  obtain ⟨⟨Cc0, Cc1, Cc2, Cc3, Cc4⟩, ⟨Cf0, Cf1, Cf2, Cf3, Cf4⟩, Cl⟩ := five kC
  obtain ⟨⟨Dc0, Dc1, Dc2, Dc3, Dc4⟩, ⟨Df0, Df1, Df2, Df3, Df4⟩, Dl⟩ := five kD
  go_wp2_with fail
  refine (res_fuse HFU.out HFB.out sa ha hb').mono ?_
  rintro e_ w5 ⟨R3, r3, R4, r4, rfl, hE, hb⟩
  clear Ac0 Ac1 Ac2 Ac3 Ac4 Af0 Af1 Af2 Af3 Af4 Al Bc0 Bc1 Bc2 Bc3 Bc4 Bf0 Bf1 Bf2 Bf3 Bf4 Bl Cc0 Cc1 Cc2 Cc3 Cc4 Cf0 Cf1 Cf2 Cf3 Cf4 Cl Dc0 Dc1 Dc2 Dc3 Dc4 Df0 Df1 Df2 Df3 Df4 Dl
  have b_9 := chain b_8 hb
  replace kA := blk_below kA hb
  replace kB := blk_below kB hb
  replace kC := blk_below kC hb
  replace kD := blk_below kD hb
  replace ha := ha.below hb
  replace hb' := hb'.below hb
  replace hC := hC.below hb
  replace hD := hD.below hb
  clear b_8
  clear hb
  have kE := blk_new w5 (.cells #[.int .i64 fu.f0, .int .i64 fu.f1, .string fu.f2, .slice R3 fu.f3.length r3, .slice R4 fu.f4.length r4] 25)
  have hb := below_alloc1 w5 (.cells #[.int .i64 fu.f0, .int .i64 fu.f1, .string fu.f2, .slice R3 fu.f3.length r3, .slice R4 fu.f4.length r4] 25)
  have b_10 := chain b_9 hb
  replace kA := blk_below kA hb
  replace kB := blk_below kB hb
  replace kC := blk_below kC hb
  replace kD := blk_below kD hb
  replace ha := ha.below hb
  replace hb' := hb'.below hb
  replace hC := hC.below hb
  replace hD := hD.below hb
  replace hE := hE.below hb
  clear b_9
  clear hb
  obtain ⟨⟨Ac0, Ac1, Ac2, Ac3, Ac4⟩, ⟨Af0, Af1, Af2, Af3, Af4⟩, Al⟩ := five kA
  obtain ⟨⟨Bc0, Bc1, Bc2, Bc3, Bc4⟩, ⟨Bf0, Bf1, Bf2, Bf3, Bf4⟩, Bl⟩ := five kB
  obtain ⟨⟨Cc0, Cc1, Cc2, Cc3, Cc4⟩, ⟨Cf0, Cf1, Cf2, Cf3, Cf4⟩, Cl⟩ := five kC
  obtain ⟨⟨Dc0, Dc1, Dc2, Dc3, Dc4⟩, ⟨Df0, Df1, Df2, Df3, Df4⟩, Dl⟩ := five kD
  obtain ⟨⟨Ec0, Ec1, Ec2, Ec3, Ec4⟩, ⟨Ef0, Ef1, Ef2, Ef3, Ef4⟩, El⟩ := five kE
  go_wp2_with fail
  refine (res_rfuse HFU.out HFB.out sa ba bb ha hb').mono ?_
  rintro e_ w6 ⟨S3, s3, S4, s4, rfl, hF, hb⟩
  clear Ac0 Ac1 Ac2 Ac3 Ac4 Af0 Af1 Af2 Af3 Af4 Al Bc0 Bc1 Bc2 Bc3 Bc4 Bf0 Bf1 Bf2 Bf3 Bf4 Bl Cc0 Cc1 Cc2 Cc3 Cc4 Cf0 Cf1 Cf2 Cf3 Cf4 Cl Dc0 Dc1 Dc2 Dc3 Dc4 Df0 Df1 Df2 Df3 Df4 Dl Ec0 Ec1 Ec2 Ec3 Ec4 Ef0 Ef1 Ef2 Ef3 Ef4 El
  have b_11 := chain b_10 hb
  replace kA := blk_below kA hb
  replace kB := blk_below kB hb
  replace kC := blk_below kC hb
  replace kD := blk_below kD hb
  replace kE := blk_below kE hb
  replace ha := ha.below hb
  replace hb' := hb'.below hb
  replace hC := hC.below hb
  replace hD := hD.below hb
  replace hE := hE.below hb
  clear b_10
  clear hb
  have kF := blk_new w6 (.cells #[.int .i64 fu.f0, .int .i64 fu.f1, .string fu.f2, .slice S3 fu.f3.length s3, .slice S4 fu.f4.length s4] 25)
  have hb := below_alloc1 w6 (.cells #[.int .i64 fu.f0, .int .i64 fu.f1, .string fu.f2, .slice S3 fu.f3.length s3, .slice S4 fu.f4.length s4] 25)
  have b_12 := chain b_11 hb
  replace kA := blk_below kA hb
  replace kB := blk_below kB hb
  replace kC := blk_below kC hb
  replace kD := blk_below kD hb
  replace kE := blk_below kE hb
  replace ha := ha.below hb
  replace hb' := hb'.below hb
  replace hC := hC.below hb
  replace hD := hD.below hb
  replace hE := hE.below hb
  replace hF := hF.below hb
  clear b_11
  clear hb
  have hcb : (cb == cb) = true := by cases cb <;> rfl
  have hfb : (fb == fb) = true := by cases fb <;> rfl
  generalize hl : less a b = lb
  have hlb : (lb == lb) = true := by cases lb <;> rfl
  have HL := Aside0.mk hl
  clear hl
  obtain ⟨⟨Ac0, Ac1, Ac2, Ac3, Ac4⟩, ⟨Af0, Af1, Af2, Af3, Af4⟩, Al⟩ := five kA
  obtain ⟨⟨Bc0, Bc1, Bc2, Bc3, Bc4⟩, ⟨Bf0, Bf1, Bf2, Bf3, Bf4⟩, Bl⟩ := five kB
  obtain ⟨⟨Cc0, Cc1, Cc2, Cc3, Cc4⟩, ⟨Cf0, Cf1, Cf2, Cf3, Cf4⟩, Cl⟩ := five kC
  obtain ⟨⟨Dc0, Dc1, Dc2, Dc3, Dc4⟩, ⟨Df0, Df1, Df2, Df3, Df4⟩, Dl⟩ := five kD
  obtain ⟨⟨Ec0, Ec1, Ec2, Ec3, Ec4⟩, ⟨Ef0, Ef1, Ef2, Ef3, Ef4⟩, El⟩ := five kE
  obtain ⟨⟨Fc0, Fc1, Fc2, Fc3, Fc4⟩, ⟨Ff0, Ff1, Ff2, Ff3, Ff4⟩, Fl⟩ := five kF
  go_wp2_with fail
  generalize hW7 : w6.alloc (.cells #[.int .i64 fu.f0, .int .i64 fu.f1, .string fu.f2, .slice S3 fu.f3.length s3, .slice S4 fu.f4.length s4] 25) = W7 at Ac0 Ac1 Ac2 Ac3 Ac4 Af0 Af1 Af2 Af3 Af4 Al Bc0 Bc1 Bc2 Bc3 Bc4 Bf0 Bf1 Bf2 Bf3 Bf4 Bl Cc0 Cc1 Cc2 Cc3 Cc4 Cf0 Cf1 Cf2 Cf3 Cf4 Cl Dc0 Dc1 Dc2 Dc3 Dc4 Df0 Df1 Df2 Df3 Df4 Dl Ec0 Ec1 Ec2 Ec3 Ec4 Ef0 Ef1 Ef2 Ef3 Ef4 El Fc0 Fc1 Fc2 Fc3 Fc4 Ff0 Ff1 Ff2 Ff3 Ff4 Fl ha hb' hC hD hE hF kA kB kC kD kE kF b_12 ⊢
  clear hW7
  refine wp_region_held_drew (S := (fun w' => Below W7.heap.size W7 w' ∧ w'.cell? ⟨w.heap.size, 0, none⟩ = some (.int .i64 a.f0) ∧ w'.cell? ⟨w.heap.size, 1, none⟩ = some (.int .i64 a.f1) ∧ w'.cell? ⟨w.heap.size, 2, none⟩ = some (.string a.f2) ∧ w'.cell? ⟨w.heap.size, 3, none⟩ = some (.slice A3 a.f3.length c3) ∧ w'.cell? ⟨w.heap.size, 4, none⟩ = some (.slice A4 a.f4.length c4) ∧ w'.cell? ⟨w.heap.size + 1, 0, none⟩ = some (.int .i64 b.f0) ∧ w'.cell? ⟨w.heap.size + 1, 1, none⟩ = some (.int .i64 b.f1) ∧ w'.cell? ⟨w.heap.size + 1, 2, none⟩ = some (.string b.f2) ∧ w'.cell? ⟨w.heap.size + 1, 3, none⟩ = some (.slice B3 b.f3.length d3) ∧ w'.cell? ⟨w.heap.size + 1, 4, none⟩ = some (.slice B4 b.f4.length d4) ∧ w'.cell? ⟨w3.heap.size, 0, none⟩ = some (.int .i64 cu.f0) ∧ w'.cell? ⟨w3.heap.size, 1, none⟩ = some (.int .i64 cu.f1) ∧ w'.cell? ⟨w3.heap.size, 2, none⟩ = some (.string cu.f2) ∧ w'.cell? ⟨w3.heap.size, 3, none⟩ = some (.slice P3 cu.f3.length p3) ∧ w'.cell? ⟨w3.heap.size, 4, none⟩ = some (.slice P4 cu.f4.length p4) ∧ w'.cell? ⟨w4.heap.size, 0, none⟩ = some (.int .i64 cu.f0) ∧ w'.cell? ⟨w4.heap.size, 1, none⟩ = some (.int .i64 cu.f1) ∧ w'.cell? ⟨w4.heap.size, 2, none⟩ = some (.string cu.f2) ∧ w'.cell? ⟨w4.heap.size, 3, none⟩ = some (.slice Q3 cu.f3.length q3) ∧ w'.cell? ⟨w4.heap.size, 4, none⟩ = some (.slice Q4 cu.f4.length q4) ∧ w'.cell? ⟨w5.heap.size, 0, none⟩ = some (.int .i64 fu.f0) ∧ w'.cell? ⟨w5.heap.size, 1, none⟩ = some (.int .i64 fu.f1) ∧ w'.cell? ⟨w5.heap.size, 2, none⟩ = some (.string fu.f2) ∧ w'.cell? ⟨w5.heap.size, 3, none⟩ = some (.slice R3 fu.f3.length r3) ∧ w'.cell? ⟨w5.heap.size, 4, none⟩ = some (.slice R4 fu.f4.length r4) ∧ w'.cell? ⟨w6.heap.size, 0, none⟩ = some (.int .i64 fu.f0) ∧ w'.cell? ⟨w6.heap.size, 1, none⟩ = some (.int .i64 fu.f1) ∧ w'.cell? ⟨w6.heap.size, 2, none⟩ = some (.string fu.f2) ∧ w'.cell? ⟨w6.heap.size, 3, none⟩ = some (.slice S3 fu.f3.length s3) ∧ w'.cell? ⟨w6.heap.size, 4, none⟩ = some (.slice S4 fu.f4.length s4))) (by kernel_rfl) ?_ (fun hHeld => ?_)
  · (try dsimp only)
    ((refine and_of (fun hB_ => ⟨cell_up hB_ Ac0, cell_up hB_ Ac1, cell_up hB_ Ac2, cell_up hB_ Ac3, cell_up hB_ Ac4, cell_up hB_ Bc0, cell_up hB_ Bc1, cell_up hB_ Bc2, cell_up hB_ Bc3, cell_up hB_ Bc4, cell_up hB_ Cc0, cell_up hB_ Cc1, cell_up hB_ Cc2, cell_up hB_ Cc3, cell_up hB_ Cc4, cell_up hB_ Dc0, cell_up hB_ Dc1, cell_up hB_ Dc2, cell_up hB_ Dc3, cell_up hB_ Dc4, cell_up hB_ Ec0, cell_up hB_ Ec1, cell_up hB_ Ec2, cell_up hB_ Ec3, cell_up hB_ Ec4, cell_up hB_ Fc0, cell_up hB_ Fc1, cell_up hB_ Fc2, cell_up hB_ Fc3, cell_up hB_ Fc4⟩) ?_; first | (with_reducible exact (Below.refl _ _).drew) | (with_reducible exact below_call' (And.left (by assumption)) (by assumption)) | (with_reducible exact And.left (by assumption))))
  (first | (refine take_held (i := 0) (d := (some 48)) (v := ?_) rfl rfl (by kernel_rfl) (by kernel_rfl) (by kernel_rfl) (fun _ _ _ h => h) (Or.inl ⟨by rfl, ?_⟩) (by assumption) ?_; rotate_left 1; focus ((intro w hSw; (try dsimp only at hSw); first | (go_simp; done) | (go_simp; with_reducible rfl)); done); (try simp only [Act.put, List.setIfInBounds_toArray, List.set_cons_zero, List.set_cons_succ])))
  (try simp only [Act.put, List.setIfInBounds_toArray, List.set_cons_zero, List.set_cons_succ])
  (first | (refine take_held (i := 1) (d := (some 49)) (v := ?_) rfl rfl (by kernel_rfl) (by kernel_rfl) (by kernel_rfl) (fun _ _ _ h => h) (Or.inl ⟨by rfl, ?_⟩) (by assumption) ?_; rotate_left 1; focus ((intro w hSw; (try dsimp only at hSw); first | (go_simp; done) | (go_simp; with_reducible rfl)); done); (try simp only [Act.put, List.setIfInBounds_toArray, List.set_cons_zero, List.set_cons_succ])))
  (try simp only [Act.put, List.setIfInBounds_toArray, List.set_cons_zero, List.set_cons_succ])
  (first | (refine take_held (i := 3) (d := (some 51)) (v := ?_) rfl rfl (by kernel_rfl) (by kernel_rfl) (by kernel_rfl) (fun _ _ _ h => h) (Or.inl ⟨by rfl, ?_⟩) (by assumption) ?_; rotate_left 1; focus ((intro w hSw; (try dsimp only at hSw); first | (go_simp; done) | (go_simp; with_reducible rfl)); done); (try simp only [Act.put, List.setIfInBounds_toArray, List.set_cons_zero, List.set_cons_succ])))
  (try simp only [Act.put, List.setIfInBounds_toArray, List.set_cons_zero, List.set_cons_succ])
  (first | (refine take_held (i := 4) (d := (some 52)) (v := ?_) rfl rfl (by kernel_rfl) (by kernel_rfl) (by kernel_rfl) (fun _ _ _ h => h) (Or.inl ⟨by rfl, ?_⟩) (by assumption) ?_; rotate_left 1; focus ((intro w hSw; (try dsimp only at hSw); first | (go_simp; done) | (go_simp; with_reducible rfl)); done); (try simp only [Act.put, List.setIfInBounds_toArray, List.set_cons_zero, List.set_cons_succ])))
  (try simp only [Act.put, List.setIfInBounds_toArray, List.set_cons_zero, List.set_cons_succ])
  (first
    | (refine wpAnyH_ready (rs := [2]) (by kernel_rfl) (by simp) ?_; refine AllReadyH.cons (o := _) rfl (fun K hK => ?_) AllReadyH.nil; go_simp; (go_at_call 20; refine (less_c a b (ha.below (And.left hHeld)) (hb'.below (And.left hHeld))).mono ?_; rw [HL.out]; rintro e_ wA ⟨rfl, hbA⟩); (try go_wp2_with fail); refine hK.out _ _ (by (try dsimp only); ((refine and_of (fun hB_ => ⟨cell_up hB_ Ac0, cell_up hB_ Ac1, cell_up hB_ Ac2, cell_up hB_ Ac3, cell_up hB_ Ac4, cell_up hB_ Bc0, cell_up hB_ Bc1, cell_up hB_ Bc2, cell_up hB_ Bc3, cell_up hB_ Bc4, cell_up hB_ Cc0, cell_up hB_ Cc1, cell_up hB_ Cc2, cell_up hB_ Cc3, cell_up hB_ Cc4, cell_up hB_ Dc0, cell_up hB_ Dc1, cell_up hB_ Dc2, cell_up hB_ Dc3, cell_up hB_ Dc4, cell_up hB_ Ec0, cell_up hB_ Ec1, cell_up hB_ Ec2, cell_up hB_ Ec3, cell_up hB_ Ec4, cell_up hB_ Fc0, cell_up hB_ Fc1, cell_up hB_ Fc2, cell_up hB_ Fc3, cell_up hB_ Fc4⟩) ?_; first | (with_reducible exact (Below.refl _ _).drew) | (with_reducible exact below_call' (And.left hHeld) hbA) | (with_reducible exact And.left (by assumption))))) ?_; clear hHeld hK K; intro hHeld; (try simp only [Act.put, List.setIfInBounds_toArray, List.set_cons_zero, List.set_cons_succ])))
  (first
    | (refine wpAnyH_ready (rs := [5]) (by kernel_rfl) (by simp) ?_; refine AllReadyH.cons (o := _) rfl (fun K hK => ?_) AllReadyH.nil; go_simp; (go_at_call 21; refine (rless_c ba bb (ha.below (And.left hHeld)) (hb'.below (And.left hHeld))).mono ?_; rw [HL.out]; rintro e_ wB ⟨rfl, hbB⟩); (try go_wp2_with fail); refine hK.out _ _ (by (try dsimp only); ((refine and_of (fun hB_ => ⟨cell_up hB_ Ac0, cell_up hB_ Ac1, cell_up hB_ Ac2, cell_up hB_ Ac3, cell_up hB_ Ac4, cell_up hB_ Bc0, cell_up hB_ Bc1, cell_up hB_ Bc2, cell_up hB_ Bc3, cell_up hB_ Bc4, cell_up hB_ Cc0, cell_up hB_ Cc1, cell_up hB_ Cc2, cell_up hB_ Cc3, cell_up hB_ Cc4, cell_up hB_ Dc0, cell_up hB_ Dc1, cell_up hB_ Dc2, cell_up hB_ Dc3, cell_up hB_ Dc4, cell_up hB_ Ec0, cell_up hB_ Ec1, cell_up hB_ Ec2, cell_up hB_ Ec3, cell_up hB_ Ec4, cell_up hB_ Fc0, cell_up hB_ Fc1, cell_up hB_ Fc2, cell_up hB_ Fc3, cell_up hB_ Fc4⟩) ?_; first | (with_reducible exact (Below.refl _ _).drew) | (with_reducible exact below_call' (And.left hHeld) hbB) | (with_reducible exact And.left (by assumption))))) ?_; clear hHeld hK K; intro hHeld; (try simp only [Act.put, List.setIfInBounds_toArray, List.set_cons_zero, List.set_cons_succ])))
  (first | (refine take_held (i := 6) (d := (some 54)) (v := ?_) rfl rfl (by kernel_rfl) (by kernel_rfl) (by kernel_rfl) (fun _ _ _ h => h) (Or.inl ⟨by rfl, ?_⟩) (by assumption) ?_; rotate_left 1; focus ((intro w hSw; (try dsimp only at hSw); first | (go_simp; done) | (go_simp; with_reducible rfl)); done); (try simp only [Act.put, List.setIfInBounds_toArray, List.set_cons_zero, List.set_cons_succ])))
  (try simp only [Act.put, List.setIfInBounds_toArray, List.set_cons_zero, List.set_cons_succ])
  (first | (refine take_held (i := 7) (d := (some 55)) (v := ?_) rfl rfl (by kernel_rfl) (by kernel_rfl) (by kernel_rfl) (fun _ _ _ h => h) (Or.inl ⟨by rfl, ?_⟩) (by assumption) ?_; rotate_left 1; focus ((intro w hSw; (try dsimp only at hSw); first | (go_simp; done) | (go_simp; with_reducible rfl)); done); (try simp only [Act.put, List.setIfInBounds_toArray, List.set_cons_zero, List.set_cons_succ])))
  (try simp only [Act.put, List.setIfInBounds_toArray, List.set_cons_zero, List.set_cons_succ])
  (first | (refine take_held (i := 8) (d := (some 56)) (v := ?_) rfl rfl (by kernel_rfl) (by kernel_rfl) (by kernel_rfl) (fun _ _ _ h => h) (Or.inl ⟨by rfl, ?_⟩) (by assumption) ?_; rotate_left 1; focus ((intro w hSw; (try dsimp only at hSw); first | (go_simp; done) | (go_simp; with_reducible rfl)); done); (try simp only [Act.put, List.setIfInBounds_toArray, List.set_cons_zero, List.set_cons_succ])) | (refine take_held (i := 8) (d := (some 56)) (v := undef) rfl rfl (by kernel_rfl) (by kernel_rfl) (by kernel_rfl) (fun _ _ _ h => h) (Or.inr ⟨by rfl, rfl⟩) (by assumption) ?_; (try simp only [Act.put, List.setIfInBounds_toArray, List.set_cons_zero, List.set_cons_succ])))
  (try simp only [Act.put, List.setIfInBounds_toArray, List.set_cons_zero, List.set_cons_succ])
  (first | (refine take_held (i := 9) (d := (some 57)) (v := ?_) rfl rfl (by kernel_rfl) (by kernel_rfl) (by kernel_rfl) (fun _ _ _ h => h) (Or.inl ⟨by rfl, ?_⟩) (by assumption) ?_; rotate_left 1; focus ((intro w hSw; (try dsimp only at hSw); first | (go_simp; done) | (go_simp; with_reducible rfl)); done); (try simp only [Act.put, List.setIfInBounds_toArray, List.set_cons_zero, List.set_cons_succ])) | (refine take_held (i := 9) (d := (some 57)) (v := undef) rfl rfl (by kernel_rfl) (by kernel_rfl) (by kernel_rfl) (fun _ _ _ h => h) (Or.inr ⟨by rfl, rfl⟩) (by assumption) ?_; (try simp only [Act.put, List.setIfInBounds_toArray, List.set_cons_zero, List.set_cons_succ])))
  (try simp only [Act.put, List.setIfInBounds_toArray, List.set_cons_zero, List.set_cons_succ])
  (first
    | (refine take_held (i := 10) (d := (some 58)) (v := undef) rfl rfl (by kernel_rfl) (by kernel_rfl) (by kernel_rfl) (fun _ _ _ h => h) (Or.inr ⟨by rfl, rfl⟩) (by assumption) ?_; (try simp only [Act.put, List.setIfInBounds_toArray, List.set_cons_zero, List.set_cons_succ]))
    | (refine wpAnyH_ready (rs := [10]) (by kernel_rfl) (by simp) ?_; refine AllReadyH.cons (o := _) rfl (fun K hK => ?_) AllReadyH.nil; go_simp; (go_at_call 22; refine (rsame_c _ _ _ true ec (hC.below (And.left hHeld)) (hD.below (And.left hHeld))).mono ?_; rintro e_ wShbC ⟨rfl, hbC⟩); (try go_wp2_with fail); refine hK.out _ _ (by (try dsimp only); ((refine and_of (fun hB_ => ⟨cell_up hB_ Ac0, cell_up hB_ Ac1, cell_up hB_ Ac2, cell_up hB_ Ac3, cell_up hB_ Ac4, cell_up hB_ Bc0, cell_up hB_ Bc1, cell_up hB_ Bc2, cell_up hB_ Bc3, cell_up hB_ Bc4, cell_up hB_ Cc0, cell_up hB_ Cc1, cell_up hB_ Cc2, cell_up hB_ Cc3, cell_up hB_ Cc4, cell_up hB_ Dc0, cell_up hB_ Dc1, cell_up hB_ Dc2, cell_up hB_ Dc3, cell_up hB_ Dc4, cell_up hB_ Ec0, cell_up hB_ Ec1, cell_up hB_ Ec2, cell_up hB_ Ec3, cell_up hB_ Ec4, cell_up hB_ Fc0, cell_up hB_ Fc1, cell_up hB_ Fc2, cell_up hB_ Fc3, cell_up hB_ Fc4⟩) ?_; first | (with_reducible exact (Below.refl _ _).drew) | (with_reducible exact below_call' (And.left hHeld) hbC) | (with_reducible exact And.left (by assumption))))) ?_; clear hHeld hK K; intro hHeld; (try simp only [Act.put, List.setIfInBounds_toArray, List.set_cons_zero, List.set_cons_succ])))
  (first | (refine take_held (i := 11) (d := (some 59)) (v := ?_) rfl rfl (by kernel_rfl) (by kernel_rfl) (by kernel_rfl) (fun _ _ _ h => h) (Or.inl ⟨by rfl, ?_⟩) (by assumption) ?_; rotate_left 1; focus ((intro w hSw; (try dsimp only at hSw); first | (go_simp; done) | (go_simp; with_reducible rfl)); done); (try simp only [Act.put, List.setIfInBounds_toArray, List.set_cons_zero, List.set_cons_succ])))
  (try simp only [Act.put, List.setIfInBounds_toArray, List.set_cons_zero, List.set_cons_succ])
  (first | (refine take_held (i := 12) (d := (some 60)) (v := ?_) rfl rfl (by kernel_rfl) (by kernel_rfl) (by kernel_rfl) (fun _ _ _ h => h) (Or.inl ⟨by rfl, ?_⟩) (by assumption) ?_; rotate_left 1; focus ((intro w hSw; (try dsimp only at hSw); first | (go_simp; done) | (go_simp; with_reducible rfl)); done); (try simp only [Act.put, List.setIfInBounds_toArray, List.set_cons_zero, List.set_cons_succ])))
  (try simp only [Act.put, List.setIfInBounds_toArray, List.set_cons_zero, List.set_cons_succ])
  (first | (refine take_held (i := 13) (d := (some 61)) (v := ?_) rfl rfl (by kernel_rfl) (by kernel_rfl) (by kernel_rfl) (fun _ _ _ h => h) (Or.inl ⟨by rfl, ?_⟩) (by assumption) ?_; rotate_left 1; focus ((intro w hSw; (try dsimp only at hSw); first | (go_simp; done) | (go_simp; with_reducible rfl)); done); (try simp only [Act.put, List.setIfInBounds_toArray, List.set_cons_zero, List.set_cons_succ])) | (refine take_held (i := 13) (d := (some 61)) (v := undef) rfl rfl (by kernel_rfl) (by kernel_rfl) (by kernel_rfl) (fun _ _ _ h => h) (Or.inr ⟨by rfl, rfl⟩) (by assumption) ?_; (try simp only [Act.put, List.setIfInBounds_toArray, List.set_cons_zero, List.set_cons_succ])))
  (try simp only [Act.put, List.setIfInBounds_toArray, List.set_cons_zero, List.set_cons_succ])
  (first | (refine take_held (i := 14) (d := (some 62)) (v := ?_) rfl rfl (by kernel_rfl) (by kernel_rfl) (by kernel_rfl) (fun _ _ _ h => h) (Or.inl ⟨by rfl, ?_⟩) (by assumption) ?_; rotate_left 1; focus ((intro w hSw; (try dsimp only at hSw); first | (go_simp; done) | (go_simp; with_reducible rfl)); done); (try simp only [Act.put, List.setIfInBounds_toArray, List.set_cons_zero, List.set_cons_succ])) | (refine take_held (i := 14) (d := (some 62)) (v := undef) rfl rfl (by kernel_rfl) (by kernel_rfl) (by kernel_rfl) (fun _ _ _ h => h) (Or.inr ⟨by rfl, rfl⟩) (by assumption) ?_; (try simp only [Act.put, List.setIfInBounds_toArray, List.set_cons_zero, List.set_cons_succ])))
  (try simp only [Act.put, List.setIfInBounds_toArray, List.set_cons_zero, List.set_cons_succ])
  (first | (refine take_held (i := 15) (d := (some 63)) (v := ?_) rfl rfl (by kernel_rfl) (by kernel_rfl) (by kernel_rfl) (fun _ _ _ h => h) (Or.inl ⟨by rfl, ?_⟩) (by assumption) ?_; rotate_left 1; focus ((intro w hSw; (try dsimp only at hSw); first | (go_simp; done) | (go_simp; with_reducible rfl)); done); (try simp only [Act.put, List.setIfInBounds_toArray, List.set_cons_zero, List.set_cons_succ])) | (refine take_held (i := 15) (d := (some 63)) (v := undef) rfl rfl (by kernel_rfl) (by kernel_rfl) (by kernel_rfl) (fun _ _ _ h => h) (Or.inr ⟨by rfl, rfl⟩) (by assumption) ?_; (try simp only [Act.put, List.setIfInBounds_toArray, List.set_cons_zero, List.set_cons_succ])))
  (try simp only [Act.put, List.setIfInBounds_toArray, List.set_cons_zero, List.set_cons_succ])
  (first | (refine take_held (i := 16) (d := (some 64)) (v := ?_) rfl rfl (by kernel_rfl) (by kernel_rfl) (by kernel_rfl) (fun _ _ _ h => h) (Or.inl ⟨by rfl, ?_⟩) (by assumption) ?_; rotate_left 1; focus ((intro w hSw; (try dsimp only at hSw); first | (go_simp; done) | (go_simp; with_reducible rfl)); done); (try simp only [Act.put, List.setIfInBounds_toArray, List.set_cons_zero, List.set_cons_succ])))
  (try simp only [Act.put, List.setIfInBounds_toArray, List.set_cons_zero, List.set_cons_succ])
  (first | (refine take_held (i := 17) (d := (some 65)) (v := ?_) rfl rfl (by kernel_rfl) (by kernel_rfl) (by kernel_rfl) (fun _ _ _ h => h) (Or.inl ⟨by rfl, ?_⟩) (by assumption) ?_; rotate_left 1; focus ((intro w hSw; (try dsimp only at hSw); first | (go_simp; done) | (go_simp; with_reducible rfl)); done); (try simp only [Act.put, List.setIfInBounds_toArray, List.set_cons_zero, List.set_cons_succ])))
  (try simp only [Act.put, List.setIfInBounds_toArray, List.set_cons_zero, List.set_cons_succ])
  (first | (refine take_held (i := 18) (d := (some 66)) (v := ?_) rfl rfl (by kernel_rfl) (by kernel_rfl) (by kernel_rfl) (fun _ _ _ h => h) (Or.inl ⟨by rfl, ?_⟩) (by assumption) ?_; rotate_left 1; focus ((intro w hSw; (try dsimp only at hSw); first | (go_simp; done) | (go_simp; with_reducible rfl)); done); (try simp only [Act.put, List.setIfInBounds_toArray, List.set_cons_zero, List.set_cons_succ])) | (refine take_held (i := 18) (d := (some 66)) (v := undef) rfl rfl (by kernel_rfl) (by kernel_rfl) (by kernel_rfl) (fun _ _ _ h => h) (Or.inr ⟨by rfl, rfl⟩) (by assumption) ?_; (try simp only [Act.put, List.setIfInBounds_toArray, List.set_cons_zero, List.set_cons_succ])))
  (try simp only [Act.put, List.setIfInBounds_toArray, List.set_cons_zero, List.set_cons_succ])
  (first | (refine take_held (i := 19) (d := (some 67)) (v := ?_) rfl rfl (by kernel_rfl) (by kernel_rfl) (by kernel_rfl) (fun _ _ _ h => h) (Or.inl ⟨by rfl, ?_⟩) (by assumption) ?_; rotate_left 1; focus ((intro w hSw; (try dsimp only at hSw); first | (go_simp; done) | (go_simp; with_reducible rfl)); done); (try simp only [Act.put, List.setIfInBounds_toArray, List.set_cons_zero, List.set_cons_succ])) | (refine take_held (i := 19) (d := (some 67)) (v := undef) rfl rfl (by kernel_rfl) (by kernel_rfl) (by kernel_rfl) (fun _ _ _ h => h) (Or.inr ⟨by rfl, rfl⟩) (by assumption) ?_; (try simp only [Act.put, List.setIfInBounds_toArray, List.set_cons_zero, List.set_cons_succ])))
  (try simp only [Act.put, List.setIfInBounds_toArray, List.set_cons_zero, List.set_cons_succ])
  (first
    | (refine take_held (i := 20) (d := (some 68)) (v := undef) rfl rfl (by kernel_rfl) (by kernel_rfl) (by kernel_rfl) (fun _ _ _ h => h) (Or.inr ⟨by rfl, rfl⟩) (by assumption) ?_; (try simp only [Act.put, List.setIfInBounds_toArray, List.set_cons_zero, List.set_cons_succ]))
    | (refine wpAnyH_ready (rs := [20]) (by kernel_rfl) (by simp) ?_; refine AllReadyH.cons (o := _) rfl (fun K hK => ?_) AllReadyH.nil; go_simp; (go_at_call 22; refine (rsame_c _ _ _ true ef (hE.below (And.left hHeld)) (hF.below (And.left hHeld))).mono ?_; rintro e_ wShbD ⟨rfl, hbD⟩); (try go_wp2_with fail); refine hK.out _ _ (by (try dsimp only); ((refine and_of (fun hB_ => ⟨cell_up hB_ Ac0, cell_up hB_ Ac1, cell_up hB_ Ac2, cell_up hB_ Ac3, cell_up hB_ Ac4, cell_up hB_ Bc0, cell_up hB_ Bc1, cell_up hB_ Bc2, cell_up hB_ Bc3, cell_up hB_ Bc4, cell_up hB_ Cc0, cell_up hB_ Cc1, cell_up hB_ Cc2, cell_up hB_ Cc3, cell_up hB_ Cc4, cell_up hB_ Dc0, cell_up hB_ Dc1, cell_up hB_ Dc2, cell_up hB_ Dc3, cell_up hB_ Dc4, cell_up hB_ Ec0, cell_up hB_ Ec1, cell_up hB_ Ec2, cell_up hB_ Ec3, cell_up hB_ Ec4, cell_up hB_ Fc0, cell_up hB_ Fc1, cell_up hB_ Fc2, cell_up hB_ Fc3, cell_up hB_ Fc4⟩) ?_; first | (with_reducible exact (Below.refl _ _).drew) | (with_reducible exact below_call' (And.left hHeld) hbD) | (with_reducible exact And.left (by assumption))))) ?_; clear hHeld hK K; intro hHeld; (try simp only [Act.put, List.setIfInBounds_toArray, List.set_cons_zero, List.set_cons_succ])))
  (first | (refine take_held (i := 21) (d := (some 69)) (v := ?_) rfl rfl (by kernel_rfl) (by kernel_rfl) (by kernel_rfl) (fun _ _ _ h => h) (Or.inl ⟨by rfl, ?_⟩) (by assumption) ?_; rotate_left 1; focus ((intro w hSw; (try dsimp only at hSw); first | (go_simp; done) | (go_simp; with_reducible rfl)); done); (try simp only [Act.put, List.setIfInBounds_toArray, List.set_cons_zero, List.set_cons_succ])))
  (try simp only [Act.put, List.setIfInBounds_toArray, List.set_cons_zero, List.set_cons_succ])
  (first | (refine take_held (i := 22) (d := (some 70)) (v := ?_) rfl rfl (by kernel_rfl) (by kernel_rfl) (by kernel_rfl) (fun _ _ _ h => h) (Or.inl ⟨by rfl, ?_⟩) (by assumption) ?_; rotate_left 1; focus ((intro w hSw; (try dsimp only at hSw); first | (go_simp; done) | (go_simp; with_reducible rfl)); done); (try simp only [Act.put, List.setIfInBounds_toArray, List.set_cons_zero, List.set_cons_succ])))
  (try simp only [Act.put, List.setIfInBounds_toArray, List.set_cons_zero, List.set_cons_succ])
  (first | (refine take_held (i := 23) (d := (some 71)) (v := ?_) rfl rfl (by kernel_rfl) (by kernel_rfl) (by kernel_rfl) (fun _ _ _ h => h) (Or.inl ⟨by rfl, ?_⟩) (by assumption) ?_; rotate_left 1; focus ((intro w hSw; (try dsimp only at hSw); first | (go_simp; done) | (go_simp; with_reducible rfl)); done); (try simp only [Act.put, List.setIfInBounds_toArray, List.set_cons_zero, List.set_cons_succ])) | (refine take_held (i := 23) (d := (some 71)) (v := undef) rfl rfl (by kernel_rfl) (by kernel_rfl) (by kernel_rfl) (fun _ _ _ h => h) (Or.inr ⟨by rfl, rfl⟩) (by assumption) ?_; (try simp only [Act.put, List.setIfInBounds_toArray, List.set_cons_zero, List.set_cons_succ])))
  (try simp only [Act.put, List.setIfInBounds_toArray, List.set_cons_zero, List.set_cons_succ])
  (first | (refine take_held (i := 24) (d := (some 72)) (v := ?_) rfl rfl (by kernel_rfl) (by kernel_rfl) (by kernel_rfl) (fun _ _ _ h => h) (Or.inl ⟨by rfl, ?_⟩) (by assumption) ?_; rotate_left 1; focus ((intro w hSw; (try dsimp only at hSw); first | (go_simp; done) | (go_simp; with_reducible rfl)); done); (try simp only [Act.put, List.setIfInBounds_toArray, List.set_cons_zero, List.set_cons_succ])) | (refine take_held (i := 24) (d := (some 72)) (v := undef) rfl rfl (by kernel_rfl) (by kernel_rfl) (by kernel_rfl) (fun _ _ _ h => h) (Or.inr ⟨by rfl, rfl⟩) (by assumption) ?_; (try simp only [Act.put, List.setIfInBounds_toArray, List.set_cons_zero, List.set_cons_succ])))
  (try simp only [Act.put, List.setIfInBounds_toArray, List.set_cons_zero, List.set_cons_succ])
  (first | (refine take_held (i := 25) (d := (some 73)) (v := ?_) rfl rfl (by kernel_rfl) (by kernel_rfl) (by kernel_rfl) (fun _ _ _ h => h) (Or.inl ⟨by rfl, ?_⟩) (by assumption) ?_; rotate_left 1; focus ((intro w hSw; (try dsimp only at hSw); first | (go_simp; done) | (go_simp; with_reducible rfl)); done); (try simp only [Act.put, List.setIfInBounds_toArray, List.set_cons_zero, List.set_cons_succ])) | (refine take_held (i := 25) (d := (some 73)) (v := undef) rfl rfl (by kernel_rfl) (by kernel_rfl) (by kernel_rfl) (fun _ _ _ h => h) (Or.inr ⟨by rfl, rfl⟩) (by assumption) ?_; (try simp only [Act.put, List.setIfInBounds_toArray, List.set_cons_zero, List.set_cons_succ])))
  (try simp only [Act.put, List.setIfInBounds_toArray, List.set_cons_zero, List.set_cons_succ])
  (first | (refine take_held (i := 26) (d := (some 74)) (v := ?_) rfl rfl (by kernel_rfl) (by kernel_rfl) (by kernel_rfl) (fun _ _ _ h => h) (Or.inl ⟨by rfl, ?_⟩) (by assumption) ?_; rotate_left 1; focus ((intro w hSw; (try dsimp only at hSw); first | (go_simp; done) | (go_simp; with_reducible rfl)); done); (try simp only [Act.put, List.setIfInBounds_toArray, List.set_cons_zero, List.set_cons_succ])))
  (try simp only [Act.put, List.setIfInBounds_toArray, List.set_cons_zero, List.set_cons_succ])
  (first | (refine take_held (i := 27) (d := (some 75)) (v := ?_) rfl rfl (by kernel_rfl) (by kernel_rfl) (by kernel_rfl) (fun _ _ _ h => h) (Or.inl ⟨by rfl, ?_⟩) (by assumption) ?_; rotate_left 1; focus ((intro w hSw; (try dsimp only at hSw); first | (go_simp; done) | (go_simp; with_reducible rfl)); done); (try simp only [Act.put, List.setIfInBounds_toArray, List.set_cons_zero, List.set_cons_succ])))
  (try simp only [Act.put, List.setIfInBounds_toArray, List.set_cons_zero, List.set_cons_succ])
  (first
    | (refine take_held (i := 28) (d := (some 76)) (v := undef) rfl rfl (by kernel_rfl) (by kernel_rfl) (by kernel_rfl) (fun _ _ _ h => h) (Or.inr ⟨by rfl, rfl⟩) (by assumption) ?_; (try simp only [Act.put, List.setIfInBounds_toArray, List.set_cons_zero, List.set_cons_succ]))
    | (refine wpAnyH_ready (rs := [28]) (by kernel_rfl) (by simp) ?_; refine AllReadyH.cons (o := _) rfl (fun K hK => ?_) AllReadyH.nil; go_simp; (go_at_call 15; refine (awake_c _).mono ?_; rintro e_ wE ⟨rfl, hbE⟩); (try go_wp2_with fail); refine hK.out _ _ (by (try dsimp only); ((refine and_of (fun hB_ => ⟨cell_up hB_ Ac0, cell_up hB_ Ac1, cell_up hB_ Ac2, cell_up hB_ Ac3, cell_up hB_ Ac4, cell_up hB_ Bc0, cell_up hB_ Bc1, cell_up hB_ Bc2, cell_up hB_ Bc3, cell_up hB_ Bc4, cell_up hB_ Cc0, cell_up hB_ Cc1, cell_up hB_ Cc2, cell_up hB_ Cc3, cell_up hB_ Cc4, cell_up hB_ Dc0, cell_up hB_ Dc1, cell_up hB_ Dc2, cell_up hB_ Dc3, cell_up hB_ Dc4, cell_up hB_ Ec0, cell_up hB_ Ec1, cell_up hB_ Ec2, cell_up hB_ Ec3, cell_up hB_ Ec4, cell_up hB_ Fc0, cell_up hB_ Fc1, cell_up hB_ Fc2, cell_up hB_ Fc3, cell_up hB_ Fc4⟩) ?_; first | (with_reducible exact (Below.refl _ _).drew) | (with_reducible exact below_call' (And.left hHeld) hbE) | (with_reducible exact And.left (by assumption))))) ?_; clear hHeld hK K; intro hHeld; (try simp only [Act.put, List.setIfInBounds_toArray, List.set_cons_zero, List.set_cons_succ])))
  (first | (refine take_held (i := 29) (d := (some 77)) (v := ?_) rfl rfl (by kernel_rfl) (by kernel_rfl) (by kernel_rfl) (fun _ _ _ h => h) (Or.inl ⟨by rfl, ?_⟩) (by assumption) ?_; rotate_left 1; focus ((intro w hSw; (try dsimp only at hSw); first | (go_simp; done) | (go_simp; with_reducible rfl)); done); (try simp only [Act.put, List.setIfInBounds_toArray, List.set_cons_zero, List.set_cons_succ])))
  (try simp only [Act.put, List.setIfInBounds_toArray, List.set_cons_zero, List.set_cons_succ])
  (first | (refine take_held (i := 30) (d := (some 6)) (v := ?_) rfl rfl (by kernel_rfl) (by kernel_rfl) (by kernel_rfl) (fun _ _ _ h => h) (Or.inl ⟨by rfl, ?_⟩) (by assumption) ?_; rotate_left 1; focus ((intro w hSw; (try dsimp only at hSw); first | (go_simp; done) | (go_simp; with_reducible rfl)); done); (try simp only [Act.put, List.setIfInBounds_toArray, List.set_cons_zero, List.set_cons_succ])))
  (try simp only [Act.put, List.setIfInBounds_toArray, List.set_cons_zero, List.set_cons_succ])
  (try simp only [Act.put, List.setIfInBounds_toArray, List.set_cons_zero, List.set_cons_succ])
  refine wpAnyH_done (by kernel_rfl) ?_ _
  have bb' := chain b_12 (And.left hHeld)
  clear Ac0 Ac1 Ac2 Ac3 Ac4 Af0 Af1 Af2 Af3 Af4 Al Bc0 Bc1 Bc2 Bc3 Bc4 Bf0 Bf1 Bf2 Bf3 Bf4 Bl Cc0 Cc1 Cc2 Cc3 Cc4 Cf0 Cf1 Cf2 Cf3 Cf4 Cl Dc0 Dc1 Dc2 Dc3 Dc4 Df0 Df1 Df2 Df3 Df4 Dl Ec0 Ec1 Ec2 Ec3 Ec4 Ef0 Ef1 Ef2 Ef3 Ef4 El Fc0 Fc1 Fc2 Fc3 Fc4 Ff0 Ff1 Ff2 Ff3 Ff4 Fl hHeld
  go_wp2
  go_ret
  exact ⟨rfl, bb'⟩
end Go.Proofs.Ytnfnhjhnfdkinaa.PPrecTells
