/-
  SitesStay: texts of this claim, put together by a program of this session. No conditions beyond what each lemma says.
-/
import Derived.Test.YtlenfmnkbepoiaazSitesStay12
import Derived.Lib.SliceRun
namespace Go.Proofs.Ytlenfmnkbepoiaa.PSitesTell
open Go.RowKit Go.Proofs.YtlenfmnkbepoiaaW.Mine Go.Proofs.YtlenfmnkbepoiaaW.PrintWords Go.Proofs.YtlenfmnkbepoiaaW.PrintLast Go.Proofs.YtlenfmnkbepoiaaW.PrintMore
attribute [local go_sem] max2_int min2_int max_two min_two max_three min_three max_four min_four
set_option linter.unusedVariables false
set_option linter.unusedSimpArgs false
theorem info_sz {P : Program} {e : TypeId} {z : Option Value} {sz b : Nat} (h : (P.info? e).map (fun i => (i.zero, i.size, i.bytes)) = some (z, sz, b)) : (P.info? e).map (·.size) = some sz := by
  cases hq : P.info? e with
  | none => simp [hq] at h
  | some i => simp [hq] at h ⊢; exact h.2.1
theorem made {P : Program} {t e : TypeId} {bytes sz : Nat} {z : Value} (ht : P.underlying t = some (.slice e)) (hinfo : (P.info? e).map (fun i => (i.zero, i.size, i.bytes)) = some (some z, sz, bytes)) (n : Nat) (hb : n * bytes ≤ 281474976710656) (hn : n ≤ 9223372036854775807) (w : World) :
    ∃ cur : Array Value, (Instr.makeSlice t (.int .i64 (n : Int)) (.int .i64 (n : Int))).run P w = .ok (.slice (some ⟨w.heap.size, 0, none⟩) n n) (w.alloc (.cells cur e)) ∧ cur.size = n * sz := by
  cases hq : P.info? e with
  | none => simp [hq] at hinfo
  | some i =>
    simp only [hq, Option.map_some, Option.some.injEq, Prod.mk.injEq] at hinfo
    obtain ⟨hz, hs, hby⟩ := hinfo
    have h := run_make (P := P) (w := w) t e i z ht hq hz .i64 .i64 (n : Int) (n : Int) (by omega) (Int.le_refl _) (by rw [hby, ← Int.natCast_mul, Nat.mul_comm]; omega) (by omega)
    rw [Int.toNat_natCast] at h
    exact ⟨_, h, by simp [madeCells, hs]⟩
/-- Bindings come, turned. -/
theorem turnB_take (F : Nat → Ty → Ty) : ∀ (l : List Bi) (k i : Nat) (hi : i < l.length), turnB F k (l.take (i + 1)) = turnB F k (l.take i) ++ [⟨l[i].f0, F (k + i) l[i].f1⟩]
  | a :: l, k, 0, _ => by simp [turnB]
  | a :: l, k, i + 1, h => by
    simp only [List.take_succ_cons, turnB, List.getElem_cons_succ, List.cons_append]
    rw [turnB_take F l (k + 1) i (by simpa using h)]
    congr 5
    omega
theorem set_midB (dn l : List Bi) (i : Nat) (hi : i < l.length) (hd : dn.length = i) {u : Bi} : (dn ++ l.drop i).set i u = (dn ++ [u]) ++ l.drop (i + 1) := by
  subst hd
  rw [List.set_append_right _ _ (Nat.le_refl _), Nat.sub_self, List.drop_eq_getElem_cons hi, List.set_cons_zero, List.append_assoc]; rfl
theorem get_midB (dn l : List Bi) (i : Nat) (hi : i < l.length) (hd : dn.length = i) (h : i < (dn ++ l.drop i).length) : (dn ++ l.drop i)[i] = l[i] := by
  subst hd
  rw [List.getElem_append_right (Nat.le_refl _)]
  simp
def BnOut (F : Nat → Ty → Ty) (Base : Nat → Prop) (J : Nat → (Nat → Prop) → World → Prop) (k : Nat) (l : List Bi) (O : Nat → Prop) (w : World) (e : Ending) (w' : World) : Prop :=
  ∃ (A' : Option Addr) (c' : Nat) (O' Pr : Nat → Prop), e = .returned (.slice A' l.length c') ∧ l.length ≤ c' ∧ Kd.F kBi w' (fun b => Base b ∨ Pr b) A' (turnB F k l).length (turnB F k l) ∧ (∀ b, Pr b → w.heap.size ≤ b ∧ b < w'.heap.size ∧ ¬ O' b) ∧ J (k + l.length) O' w' ∧ (∀ b, O' b → O b ∨ w.heap.size ≤ b) ∧ Kq O w w'
set_option maxHeartbeats 8000000 in
set_option maxRecDepth 100000 in
theorem binds_c {g : FuncId} {lb : Array Value} {F : Nat → Ty → Ty} {st : List (Ty × Int)} {Base : Nat → Prop} {J : Nat → (Nat → Prop) → World → Prop} (T : TurnC g lb F st Base J) (l : List Bi) (k0 : Nat) (hst : ∀ j (hj : j < l.length), st[k0 + j]? = some (l[j].f1, 0)) (hl : l.length * 96 ≤ 140737488351232)
    {A : Option Addr} {c : Nat} {O : Nat → Prop} {w : World} (hB : ∀ b, Base b → b < w.heap.size) (hF : Kd.F kBi w Base A l.length l) (hc : l.length ≤ c) (hJ : J k0 O w) :
    Calls Try.prog 70 #[.slice A l.length c, .func (.func g) #[] lb] w (BnOut F Base J k0 l O w) := by
  have eg := T.enters
  have hlen : l.length ≤ 9223372036854775807 := by omega
  obtain ⟨cur, hmk, hcs⟩ := made (P := Try.prog) Try.underlying22 info68 l.length (by omega) hlen w
  have bA := below_alloc1 w (.cells cur 68)
  have hF1 := Kd.F_below hF bA
  obtain ⟨w2, hcp, hA, hq⟩ := copied (P := Try.prog) (c := c) (cap := l.length) (dT := 22) (sT := 22) (ty := 3) z68 hF1 hlen Try.underlying22 (info_sz info68) (blk_new w (.cells cur 68)) hcs rfl (fun k hk => Nat.ne_of_lt (hB k hk))
  go_enter Try.func70, Try.ntmps70
  have hq0 : Kq (fun b => b = w.heap.size) w w2 := (Kq.of_below bA).trans hq
  have hO := T.own _ _ _ hJ
  have hJ2 := T.keep _ _ _ _ hJ (hq0.mono (fun b hb h => by subst hb; rcases h with h | h; (have := hB _ h; omega); (have := (hO _ h).1; omega)))
  have hqw : Kq O w w2 := hq0.less (fun b hb h => by omega)
  have sz2 : w.heap.size < w2.heap.size := hA.lt
  have HST := Aside0.mk hst
  have HB := Aside0.mk hB
  have HO0 := Aside0.mk hO
  clear hst hF hF1 hJ hcs hq hq0 bA hB hO hc
  go_wp2_with fail
  clear hmk hcp
  go_loopg [15] l.length (fun kq v15 w' => ∃ (i : Nat) (Ow : Nat → Prop), v15 = .int .i64 i ∧ kq + i = l.length ∧ AR kBi w' Base 68 w.heap.size (turnB F k0 (l.take i) ++ l.drop i) ∧ J (k0 + i) Ow w' ∧ (∀ b, Ow b → O b ∨ w.heap.size < b) ∧ Kq O w w')
  case atStart => exact ⟨0, O, rfl, rfl, by simpa [turnB] using hA, hJ2, fun b hb => .inl hb, hqw⟩
  case round =>
    clear hA hJ2 hqw sz2
    obtain ⟨i, Ow, rfl, hk, hA, hJ, hOw, hqr⟩ := hrel
    by_cases hi : i < l.length
    · obtain ⟨k1, rfl⟩ : ∃ k1, gk = k1 + 1 := ⟨gk - 1, by omega⟩
      have ci : decide ((i : Int) < (l.length : Int)) = true := decide_eq_true (by omega)
      have i0 : (0 : Int) ≤ (i : Int) := by omega
      have i1 : (i : Int) < (l.length : Int) := by omega
      have hd : (turnB F k0 (l.take i)).length = i := by rw [turnB_len, List.length_take]; omega
      have hi2 : i < (turnB F k0 (l.take i) ++ l.drop i).length := by rw [List.length_append, hd, List.length_drop]; omega
      obtain ⟨X3, e3, X4, e4, hft, ⟨x1, x2, x3, x4, x5⟩, -⟩ := hA.bi i hi2
      rw [get_midB _ l i hi hd hi2] at hft x1 x2 x3 x4 x5
      have hg : ¬ Ow w.heap.size := fun h => by rcases hOw _ h with h | h; (have := (HO0.out _ h).1; omega); omega
      have hown := T.own _ _ _ hJ
      have HT := Aside0.mk (T.at (HST.out i hi) hJ hft)
      have HK := Aside0.mk hk
      have HA := Aside0.mk hA
      have HD := Aside0.mk hd
      have HI2 := Aside0.mk hi2
      have HOW := Aside0.mk hOw
      have HG := Aside0.mk hg
      have HW := Aside0.mk hown
      have HQ := Aside0.mk hqr
      have HS := Aside0.mk hA.lt
      clear hA hd hi2 hJ hOw hg hown hqr hk hft
      go_wp2_with fail
      rw [eg, Oper.upon_enter]
      refine HT.out.mono ?_
      rintro e_ w3 ⟨C3, d3, C4, d4, O', rfl, hu, hJ', hO', hq'⟩
      have hA3 := HA.out.kq hq' HG.out (fun b hb h => (HW.out b h).2 hb)
      obtain ⟨Y3, j3, Y4, j4, -, ⟨y1, y2, y3, y4, y5⟩, ⟨z1, z2, z3, z4, z5⟩⟩ := hA3.bi i HI2.out
      have hp := hA3.put_bi i HI2.out hu (fun b hb => Nat.ne_of_lt (HB.out b hb))
      have hgl := HS.out
      have hg' : ¬ O' w.heap.size := fun h => by rcases hO' _ h with h | h; exact HG.out h; omega
      have hkq : Kq (fun b => b = w.heap.size) w3 (((((w3.setCell ⟨w.heap.size, i * 6 + 1, none⟩ (.int .i64 (F (k0 + i) l[i].f1).f0)).setCell ⟨w.heap.size, i * 6 + 2, none⟩ (.int .i64 (F (k0 + i) l[i].f1).f1)).setCell ⟨w.heap.size, i * 6 + 3, none⟩ (.string (F (k0 + i) l[i].f1).f2)).setCell ⟨w.heap.size, i * 6 + 4, none⟩ (.slice C3 (F (k0 + i) l[i].f1).f3.length d3)).setCell ⟨w.heap.size, i * 6 + 5, none⟩ (.slice C4 (F (k0 + i) l[i].f1).f4.length d4)) :=
        ((((((Kq.refl (fun b => b = w.heap.size) w3).set (p := ⟨w.heap.size, i * 6 + 1, none⟩) (Or.inl (Eq.refl w.heap.size)) _).set (p := ⟨w.heap.size, i * 6 + 2, none⟩) (Or.inl (Eq.refl w.heap.size)) _).set (p := ⟨w.heap.size, i * 6 + 3, none⟩) (Or.inl (Eq.refl w.heap.size)) _).set (p := ⟨w.heap.size, i * 6 + 4, none⟩) (Or.inl (Eq.refl w.heap.size)) _).set (p := ⟨w.heap.size, i * 6 + 5, none⟩) (Or.inl (Eq.refl w.heap.size)) _)
      have hJ2 := T.keep _ _ _ _ hJ' (hkq.mono (fun b hb h => by subst hb; rcases h with h | h; (have := HB.out _ h; omega); exact hg' h))
      rw [set_midB _ l i hi HD.out, get_midB _ l i hi HD.out HI2.out, ← turnB_take F l k0 i hi] at hp
      have hqn : Kq O w _ := (HQ.out.then hq' (fun b hb h => by rcases HOW.out b h with h | h; exact h; omega)).then hkq (fun b hb h => by omega)
      have hOn : ∀ b, O' b → O b ∨ w.heap.size < b := fun b hb => by rcases hO' b hb with h | h; exact HOW.out b h; exact .inr (by omega)
      have HP := Aside0.mk hp
      have HJ2 := Aside0.mk hJ2
      have HQN := Aside0.mk hqn
      have HON := Aside0.mk hOn
      have hw2 : wrap64 ((i : Int) + 1) = (i : Int) + 1 := wrap_in (by omega) (by omega)
      clear x1 x2 x3 x4 x5 hA3 hp hJ2 hqn hOn hkq HA HT HQ HOW hJ' hO' hq' hu hg' hgl
      go_wp2
      go_roundg k1
      case measure => omega
      case rel => exact ⟨i + 1, O', (by first | rfl | (simp; done) | (push_cast; rfl)), by have := HK.out; omega, HP.out, HJ2.out, HON.out, HQN.out⟩
    · have cn : decide ((i : Int) < (l.length : Int)) = false := decide_eq_false (by omega)
      have e1 : l.take i = l := List.take_of_length_le (by omega)
      have e2 : l.drop i = [] := List.drop_eq_nil_of_le (by omega)
      rw [e1, e2, List.append_nil] at hA
      have cn2 : decide (i < l.length) = false := decide_eq_false (by omega)
      have ei : i = l.length := by omega
      rw [ei] at hJ
      have hFn := hA.F (ok' := fun b => Base b ∨ b = w.heap.size) (by rw [turnB_len]; exact hlen) (fun b hb => .inl hb) (.inr rfl)
      have hS := hA.lt
      have hlc : l.length ≤ l.length := Nat.le_refl _
      clear e1 e2 hk hi ei hA
      go_wp2
      go_ret
      refine ⟨_, _, Ow, fun b => b = w.heap.size, rfl, hlc, hFn, fun b hb => ?_, hJ, fun b hb => ?_, hqr⟩
      · subst hb
        exact ⟨Nat.le_refl _, hS, fun h => by rcases hOw _ h with h | h; (have := (HO0.out _ h).1; omega); omega⟩
      · rcases hOw b hb with h | h; exact .inl h; exact .inr (Nat.le_of_lt h)
end Go.Proofs.Ytlenfmnkbepoiaa.PSitesTell
namespace Go.Proofs.Ytlenfmnkbepoiaa.PSitesTell
open Go.RowKit Go.Proofs.YtlenfmnkbepoiaaW.Mine Go.Proofs.YtlenfmnkbepoiaaW.PrintWords Go.Proofs.YtlenfmnkbepoiaaW.PrintLast Go.Proofs.YtlenfmnkbepoiaaW.PrintMore
attribute [local go_sem] max2_int min2_int max_two min_two max_three min_three max_four min_four
set_option linter.unusedVariables false
set_option linter.unusedSimpArgs false
theorem setCells7 (w : World) (g o : Nat) (v0 v1 v2 v3 v4 v5 v6 : Value) : w.setCells g o [v0, v1, v2, v3, v4, v5, v6] = (((((((w.setCell ⟨g, o, none⟩ v0).setCell ⟨g, o + 1, none⟩ v1).setCell ⟨g, o + 2, none⟩ v2).setCell ⟨g, o + 3, none⟩ v3).setCell ⟨g, o + 4, none⟩ v4).setCell ⟨g, o + 5, none⟩ v5).setCell ⟨g, o + 6, none⟩ v6) := by
  first | rfl | simp [World.setCells]
theorem eset_mid (dn l : List Ex) (i : Nat) (hi : i < l.length) (hd : dn.length = i) {u : Ex} : (dn ++ l.drop i).set i u = (dn ++ [u]) ++ l.drop (i + 1) := by
  subst hd
  rw [List.set_append_right _ _ (Nat.le_refl _), Nat.sub_self, List.drop_eq_getElem_cons hi, List.set_cons_zero, List.append_assoc]
  rfl
theorem eget_mid (dn l : List Ex) (i : Nat) (hi : i < l.length) (hd : dn.length = i) (h : i < (dn ++ l.drop i).length) : (dn ++ l.drop i)[i] = l[i] := by
  subst hd
  rw [List.getElem_append_right (Nat.le_refl _)]
  simp
theorem tset_mid (dn l : List Ty) (i : Nat) (hi : i < l.length) (hd : dn.length = i) {u : Ty} : (dn ++ l.drop i).set i u = (dn ++ [u]) ++ l.drop (i + 1) := by
  subst hd
  rw [List.set_append_right _ _ (Nat.le_refl _), Nat.sub_self, List.drop_eq_getElem_cons hi, List.set_cons_zero, List.append_assoc]
  rfl
theorem tget_mid (dn l : List Ty) (i : Nat) (hi : i < l.length) (hd : dn.length = i) (h : i < (dn ++ l.drop i).length) : (dn ++ l.drop i)[i] = l[i] := by
  subst hd
  rw [List.getElem_append_right (Nat.le_refl _)]
  simp
theorem turnT_take (F : Nat → Ty → Ty) : ∀ (l : List Ty) (k i : Nat) (hi : i < l.length), turnT F k (l.take (i + 1)) = turnT F k (l.take i) ++ [F (k + i) l[i]]
  | a :: l, k, 0, _ => by simp [turnT]
  | a :: l, k, i + 1, h => by
    simp only [List.take_succ_cons, turnT, List.getElem_cons_succ, List.cons_append]
    rw [turnT_take F l (k + 1) i (by simpa using h)]
    congr 4
    omega
theorem stored7 {w : World} {g : Nat} {t : TypeId} {z0 z1 z2 z3 z4 z5 z6 : Value} (h : w.heap[g]? = some (.cells #[z0, z1, z2, z3, z4, z5, z6] t (0, 0))) (v0 v1 v2 v3 v4 v5 v6 : Value) : (((((((w.setCell ⟨g, 0, none⟩ v0).setCell ⟨g, 1, none⟩ v1).setCell ⟨g, 2, none⟩ v2).setCell ⟨g, 3, none⟩ v3).setCell ⟨g, 4, none⟩ v4).setCell ⟨g, 5, none⟩ v5).setCell ⟨g, 6, none⟩ v6).heap[g]? = some (.cells #[v0, v1, v2, v3, v4, v5, v6] t (0, 0)) := by
  have h1 := (blk_set (blk_set (blk_set (blk_set (blk_set (blk_set (blk_set h 0 v0) 1 v1) 2 v2) 3 v3) 4 v4) 5 v5) 6 v6)
  simpa using h1
set_option maxHeartbeats 4000000 in
theorem Kq.set7 {S : Nat → Prop} {w a : World} {g : Nat} (h : Kq S w a) (hp : S g ∨ w.heap.size ≤ g) (v0 v1 v2 v3 v4 v5 v6 : Value) : Kq S w (((((((a.setCell ⟨g, 0, none⟩ v0).setCell ⟨g, 1, none⟩ v1).setCell ⟨g, 2, none⟩ v2).setCell ⟨g, 3, none⟩ v3).setCell ⟨g, 4, none⟩ v4).setCell ⟨g, 5, none⟩ v5).setCell ⟨g, 6, none⟩ v6) := (((((((h.set (p := ⟨g, 0, none⟩) hp v0).set (p := ⟨g, 1, none⟩) hp v1).set (p := ⟨g, 2, none⟩) hp v2).set (p := ⟨g, 3, none⟩) hp v3).set (p := ⟨g, 4, none⟩) hp v4).set (p := ⟨g, 5, none⟩) hp v5).set (p := ⟨g, 6, none⟩) hp v6)
end Go.Proofs.Ytlenfmnkbepoiaa.PSitesTell
namespace Go.Proofs.Ytlenfmnkbepoiaa.PSitesTell
open Go.RowKit Go.Proofs.YtlenfmnkbepoiaaW.Mine Go.Proofs.YtlenfmnkbepoiaaW.PrintWords Go.Proofs.YtlenfmnkbepoiaaW.PrintLast Go.Proofs.YtlenfmnkbepoiaaW.PrintMore
attribute [local go_sem] max2_int min2_int max_two min_two max_three min_three max_four min_four
set_option linter.unusedVariables false
set_option linter.unusedSimpArgs false
def KR (w : World) (Base Pr : Nat → Prop) (v : Value) (i : Nat) (xs : List Ex) (base : Nat) : Prop :=
  ∃ rows : List (List Value), rows.length = xs.length ∧ (Kd.raw kEx.sz).R 31 w base (fun k => some k = v.ownBlock) v rows ∧ ∀ (j : Nat) (x : Ex) (c : List Value), xs[j]? = some x → rows[j]? = some c → Kd.FK kEx w (fun b => Base b ∨ (j < i ∧ Pr b)) x c
section
variable {P : Program} {ops : Array Oper} {rest : List Oper} {o : Oper} {a : Act} {Q : Exit → Act → World → Prop}
theorem KR_append_rows {w0 W : World} (base : Nat) (hgd : o.guard = none) (s x : Operand) (t : TypeId) (z : Value) (bytes : Nat)
    (ho : o.op = .call { callee := .builtin .append, args := #[s, x], argTypes := #[t, t] })
    (ht : P.underlying t = some (.slice 31)) (hinfo : (P.info? 31).map (fun i => (i.zero, i.size, i.bytes)) = some (some z, kEx.sz, bytes)) (hz : z.cells.size = kEx.sz) (hs0 : 0 < kEx.sz) (hb0 : 0 < bytes)
    (v : Value) (ys : List Ex) (A : Option Addr) (m c : Nat) (ok okp : Nat → Prop) (hs : a.eval s = v) (hx : a.eval x = .slice A m c)
    (HO : Kd.N kEx 31 W base ok v []) (HR : Kd.F kEx W okp A m ys) (hokp : ∀ k, okp k → some k ≠ v.ownBlock)
    (HB : Below base w0 W) (hbase : base ≤ W.heap.size) (hl : m * bytes ≤ 140737488355328)
    (h : ∀ v1 w1, KR w1 okp (fun _ => False) v1 0 ys base → Below base w0 w1 → wpList P ops Q rest (a.put o.dst v1) w1) :
    wpList P ops Q (o :: rest) a W := by
  obtain ⟨h0, rows, hlr, hR, hf⟩ := HO
  obtain rfl : rows = [] := List.eq_nil_of_length_eq_zero hlr
  obtain ⟨news, hnl, hnr, hnf⟩ := Kd.reads_raw (Kd.F_rows HR) (fun y c hk => ⟨kEx.K_len (Kd.FK_now hk), kEx.K_one (Kd.FK_now hk)⟩)
  refine Kd.R_append_rows (Kd.raw kEx.sz) base hgd s x t 31 z bytes ho ht hinfo hz hs0 hb0 v [] news A m c (fun _ => True) (fun _ => False) hs hx (Kd.raw_any hR) hnr (fun _ _ hk => hk) (fun _ hk => hk.elim) (fun _ _ => trivial) HB hbase (by simpa using hl) ?_
  intro v1 w1 hr hb hg hat
  refine h v1 w1 ⟨news, hnl, Kd.raw_tight (by simpa using hr), fun j y c hy hc => ?_⟩ hb
  exact Kd.FK_mono (FK_step (hnf j y c hy hc) hg.size (fun k hk hl => hg.block k hl (hokp k hk))) (fun k hk => .inl hk)
end
section
variable {w w1 W : World} {Base Pr Pr' S : Nat → Prop} {v : Value} {i base : Nat} {xs : List Ex}
theorem KR.kq (h : KR w Base Pr v i xs base) (k : Kq S w w1) (ho : ∀ b, v.ownBlock = some b → ¬ S b) (hB : ∀ b, Base b → ¬ S b) (hP : ∀ b, Pr b → ¬ S b) : KR w1 Base Pr v i xs base := by
  obtain ⟨rows, hl, hR, hf⟩ := h
  exact ⟨rows, hl, Kd.R_step hR (fun b hb hlt => k.block b hlt (ho b hb.symm)), fun j x c hx hc => FK_step (hf j x c hx hc) k.size (fun b hb hlt => k.block b hlt (by rcases hb with hb | hb; exact hB b hb; exact hP b hb.2))⟩
theorem KR.below (h : KR w Base Pr v i xs base) (hb : Below w.heap.size w w1) : KR w1 Base Pr v i xs base := h.kq (S := fun _ => False) (Kq.of_below hb) (fun _ _ h => h) (fun _ _ h => h) (fun _ _ h => h)
theorem KR.mono (h : KR w Base Pr v i xs base) (hp : ∀ b, Pr b → Pr' b) : KR w Base Pr' v i xs base := by
  obtain ⟨rows, hl, hR, hf⟩ := h
  exact ⟨rows, hl, hR, fun j x c hx hc => Kd.FK_mono (hf j x c hx hc) (fun b hb => by rcases hb with hb | hb; exact .inl hb; exact .inr ⟨hb.1, hp b hb.2⟩)⟩
theorem KR.slice (h : KR w Base Pr v i xs base) : ∃ A c, v = .slice A xs.length c ∧ xs.length ≤ c := by
  obtain ⟨rows, hl, hR, hf⟩ := h
  obtain ⟨A, c, he⟩ := Kd.R_slice hR
  subst he
  have := (Kd.R_reads' hR).2.1
  exact ⟨A, c, by rw [hl], by rw [← hl]; exact this⟩
theorem KR.lt (h : KR w Base Pr v i xs base) : ∀ k, v.ownBlock = some k → k < w.heap.size := by
  obtain ⟨rows, _, hR, _⟩ := h
  exact Kd.R_lt hR
theorem KR.low (h : KR w Base Pr v i xs base) : ∀ k, v.ownBlock = some k → base ≤ k := by
  obtain ⟨rows, _, hR, _⟩ := h
  exact Kd.R_base hR
theorem KR.form (h : KR w Base Pr v i xs base) (hp : 0 < xs.length) : ∃ g cap, v = .slice (some ⟨g, 0, none⟩) xs.length cap ∧ base ≤ g ∧ g < w.heap.size := by
  obtain ⟨rows, hl, hR, _⟩ := h
  rw [← hl] at hp ⊢
  obtain ⟨g, cap, h1, h2, h3, _⟩ := Kd.R_form hR hp
  exact ⟨g, cap, h1, h2, h3⟩
theorem KR.N (h : KR w Base Pr v i xs base) (hB : ∀ b, Base b → some b ≠ v.ownBlock) (hP : ∀ b, Pr b → some b ≠ v.ownBlock) : Kd.N kEx 31 w base (fun b => Base b ∨ Pr b ∨ some b = v.ownBlock) v xs := by
  obtain ⟨rows, hl, hR, hf⟩ := h
  exact ⟨fun k hk => .inr (.inr hk.symm), rows, hl, hR, fun j x c hx hc => Kd.FK_mono (hf j x c hx hc) (fun b hb => by rcases hb with hb | hb; exact ⟨.inl hb, hB b hb⟩; exact ⟨.inr (.inl hb.2), hP b hb.2⟩)⟩
/-- An element from i on. -/
theorem KR.ex {g n cap : Nat} (h : KR W Base Pr (.slice (some ⟨g, 0, none⟩) n cap) i xs base) (k : Nat) (hik : i ≤ k) (hk : k < xs.length) : ∃ X4 e4 X5 e5 X6 e6, FE W Base xs[k] X4 e4 X5 e5 X6 e6 ∧
    (W.cell? ⟨g, k * 7, none⟩ = some (.int .i64 xs[k].f0) ∧ W.cell? ⟨g, k * 7 + 1, none⟩ = some (.int .i64 xs[k].f1) ∧ W.cell? ⟨g, k * 7 + 2, none⟩ = some (.string xs[k].f2) ∧ W.cell? ⟨g, k * 7 + 3, none⟩ = some (.bool xs[k].f3) ∧ W.cell? ⟨g, k * 7 + 4, none⟩ = some (.slice X4 xs[k].f4.length e4) ∧ W.cell? ⟨g, k * 7 + 5, none⟩ = some (.slice X5 xs[k].f5.length e5) ∧ W.cell? ⟨g, k * 7 + 6, none⟩ = some (.slice X6 xs[k].f6.length e6)) ∧
    (W.frozen? ⟨g, k * 7, none⟩ = false ∧ W.frozen? ⟨g, k * 7 + 1, none⟩ = false ∧ W.frozen? ⟨g, k * 7 + 2, none⟩ = false ∧ W.frozen? ⟨g, k * 7 + 3, none⟩ = false ∧ W.frozen? ⟨g, k * 7 + 4, none⟩ = false ∧ W.frozen? ⟨g, k * 7 + 5, none⟩ = false ∧ W.frozen? ⟨g, k * 7 + 6, none⟩ = false) := by
  obtain ⟨rows, hl, hR, hf⟩ := h
  have hn := (Kd.R_reads' hR).1
  obtain ⟨c, hcl, hM, hcc, hfr⟩ := Kd.R_elem hR [] (k : Int) (by omega) (by omega)
  rw [Int.toNat_natCast] at hM hcc hfr
  have hil : k < rows.length := by omega
  have hc : c = rows[k] := by
    have h2 := hM.1
    rwa [List.getD_eq_getElem?_getD, List.getElem?_eq_getElem hil] at h2
  have hfk := Kd.FK_mono (ok' := Base) (hf k _ c (List.getElem?_eq_getElem hk) (by rw [hc]; exact List.getElem?_eq_getElem hil)) (fun b hb => by rcases hb with hb | hb; exact hb; omega)
  obtain ⟨X4, e4, X5, e5, X6, e6, rfl, hfe⟩ := FE.of_fk hfk
  have hcc' : ∀ j u, (elist xs[k] X4 e4 X5 e5 X6 e6)[j]? = some u → W.cell? ⟨g, k * 7 + j, none⟩ = some u := hcc
  have hfr' : ∀ j, W.frozen? ⟨g, k * 7 + j, none⟩ = false := hfr
  exact ⟨X4, e4, X5, e5, X6, e6, hfe, ⟨hcc' 0 _ rfl, hcc' 1 _ rfl, hcc' 2 _ rfl, hcc' 3 _ rfl, hcc' 4 _ rfl, hcc' 5 _ rfl, hcc' 6 _ rfl⟩, hfr' 0, hfr' 1, hfr' 2, hfr' 3, hfr' 4, hfr' 5, hfr' 6⟩
/-- Element i is stored anew. -/
theorem KR.put {g n cap : Nat} (h : KR W Base Pr (.slice (some ⟨g, 0, none⟩) n cap) i xs base) (hi : i < xs.length) {u : Ex} {A4 A5 A6 : Option Addr} {c4 c5 c6 : Nat} (hu : FE W (fun b => Base b ∨ Pr b) u A4 c4 A5 c5 A6 c6) (hB : ∀ b, Base b → b ≠ g) (hP : ∀ b, Pr b → b ≠ g) :
    KR (W.setCells g (i * 7) (elist u A4 c4 A5 c5 A6 c6)) Base Pr (.slice (some ⟨g, 0, none⟩) n cap) (i + 1) (xs.set i u) base ∧ W.grownBy (W.setCells g (i * 7) (elist u A4 c4 A5 c5 A6 c6)) (some g) := by
  obtain ⟨rows, hl, hR, hf⟩ := h
  have hn := (Kd.R_reads' hR).1
  obtain ⟨c, hcl, hM, hcc, hfr⟩ := Kd.R_elem hR [] (i : Int) (by omega) (by omega)
  have heq : c.take 0 ++ elist u A4 c4 A5 c5 A6 c6 ++ c.drop (0 + (elist u A4 c4 A5 c5 A6 c6).length) = elist u A4 c4 A5 c5 A6 c6 := by
    rw [List.drop_eq_nil_of_le (by rw [hcl]; exact Nat.le_refl 7)]; simp
  have h2 := Kd.R_seg (Kd.raw_any hR) (i : Int) (by omega) (by omega) (seg := elist u A4 c4 A5 c5 A6 c6) (j := 0) (x' := elist u A4 c4 A5 c5 A6 c6) (okp := fun _ => False) hcl hcc (Nat.le_refl 7) (heq.symm ▸ Kd.FK_raw hu.fk) (fun _ hk => hk.elim)
  have e : (i : Int).toNat * (Kd.raw kEx.sz).sz + 0 = i * 7 := by rw [Int.toNat_natCast]; rfl
  rw [e, Int.toNat_natCast] at h2
  refine ⟨⟨rows.set i _, by rw [List.length_set, List.length_set, hl], Kd.raw_tight h2.1, fun j x c hx hc => ?_⟩, h2.2⟩
  have hjl : j < xs.length := by have := (List.getElem?_eq_some_iff.1 hx).1; rwa [List.length_set] at this
  by_cases hji : j = i
  · subst hji
    rw [List.getElem?_set_self hjl] at hx
    rw [List.getElem?_set_self (by omega)] at hc
    injection hx with hx
    injection hc with hc
    rw [← hx, ← hc]
    exact Kd.FK_mono (FK_step hu.fk h2.2.size (fun k hk hlt => h2.2.block k hlt (fun he => by injection he with he; rcases hk with hk | hk; exact hB k hk he; exact hP k hk he))) (fun k hk => by rcases hk with hk | hk; exact .inl hk; exact .inr ⟨by omega, hk⟩)
  · rw [List.getElem?_set_ne (Ne.symm hji)] at hx hc
    exact Kd.FK_mono (FK_step (hf j x c hx hc) h2.2.size (fun k hk hlt => h2.2.block k hlt (fun he => by injection he with he; rcases hk with hk | hk; exact hB k hk he; exact hP k hk.2 he))) (fun k hk => by rcases hk with hk | hk; exact .inl hk; exact .inr ⟨by omega, hk.2⟩)
end
set_option maxHeartbeats 4000000 in
set_option maxRecDepth 100000 in
theorem kclone_c (l : List Ex) (A : Option Addr) (c : Nat) (Base : Nat → Prop) (w : World) (hF : Kd.F kEx w Base A l.length l) (hB : ∀ b, Base b → b < w.heap.size) (hc : l.length ≤ c) (hl : l.length * 112 ≤ 140737488351232) :
    Calls Try.prog 92 #[.slice A l.length c] w fun e w' => ∃ v, e = .returned v ∧ KR w' Base (fun _ => False) v 0 l w.heap.size ∧ Below w.heap.size w w' := by
  have q23 : ∀ (w : World) (a : Option Addr) (n c n' c' : Nat), (binOp .eql 29 (.slice a n c) (.slice none n' c')).run Try.prog w = .ok (.bool a.isNone) w := fun w a n c n' c' => Lib.run_eql_slice_nil w _ _ a n c n' c' Try.underlying29
  cases A with
  | none =>
    have hn : l = [] := by
      cases l with
      | nil => rfl
      | cons x l => exact absurd ((Kd.F_now hF).2.2 (by simp)) (by rintro ⟨ad, h, _⟩; cases h)
    subst hn
    go_enter Try.func92, Try.ntmps92
    go_wp2
    go_ret
    refine ⟨_, rfl, ?_, Below.refl _ _⟩
    obtain ⟨h0, rows, hlr, hR, hf⟩ := Kd.N_nil kEx 31 w w.heap.size (fun _ => True)
    exact ⟨rows, hlr, hR, fun j x c hx => by simp at hx⟩
  | some ad =>
    go_enter Try.func92, Try.ntmps92
    go_wp2_with (first
      | ((with_reducible refine gate_dst (N := 5) rfl ?_); refine Kd.N_lit kEx (w0 := w) w.heap.size 31 ?hg (N' := 5) ?hd (xs := ([] : List Ex)) (inner := []) (ok := fun k => Base k ∨ w.heap.size ≤ k) (okp := fun k => Base k ∨ w.heap.size ≤ k) ?hr ?hp (fun _ hk => hk) (.inr (Nat.le_refl _)) (Below.refl _ _) (Nat.le_refl _) (by simp) ?_; (case hd => rfl); (case hg => rfl); (case hr => first | (go_simp; done) | (go_simp; rfl)); (case hp => exact (Reps.none _ _)); intro v1 w1 hN1 hB1 hg1 hat1; obtain ⟨A1, c1, rfl⟩ := Kd.N_slice hN1)
      | (at_builtin; refine KR_append_rows (w0 := w) w.heap.size rfl (.tmp 5) (.tmp 6) 29 (.agg #[(.int .i64 0), (.int .i64 0), (.string ⟨#[]⟩), (.bool false), (.slice none 0 0), (.slice none 0 0), (.slice none 0 0)]) 112 rfl Try.underlying29 info31 rfl (by decide) (by omega) (.slice A1 ([] : List Ex).length c1) l (some ad) l.length c (fun k => Base k ∨ w.heap.size ≤ k) Base rfl rfl hN1 (Kd.F_below hF hB1) (fun k hk he => by have := Kd.N_base hN1 k he.symm; have := hB k hk; omega) hB1 hB1.size (by omega) ?_; intro v2 w2 hN2 hB2; obtain ⟨A2, c2, rfl, hc2⟩ := hN2.slice))
    go_ret
    exact ⟨_, rfl, hN2, hB2⟩
end Go.Proofs.Ytlenfmnkbepoiaa.PSitesTell
