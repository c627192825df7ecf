/-
  ConvKeeps: texts of this claim, put together by a program of this session. No conditions beyond what each lemma says.
-/
import Derived.Test.YtnfnhjhnfdkinaazConvKeeps43
namespace Go.Proofs.Ytnfnhjhnfdkinaa.PConvBack
open Go.RowKit Go.Proofs.YtnfnhjhnfdkinaaW.Mine Go.Proofs.YtnfnhjhnfdkinaaW.PrintWords Go.Proofs.YtnfnhjhnfdkinaaW.PrintLast Go.Proofs.YtnfnhjhnfdkinaaW.PrintMore
set_option linter.unusedVariables false
set_option linter.unusedSimpArgs false
/-- A right value, as far as it counts here. -/
inductive Ownv : Vl → Prop
  | mk (x : Vl) (h4 : x.f0 = 4 → x = ⟨4, 0, 0, false, ⟨#[]⟩, z52, [], x.f7, x.f8⟩) (h8 : x.f0 = 8 → x = ⟨8, x.f1, 0, false, ⟨#[]⟩, z52, [], [], x.f8⟩) (hs : ∀ y, y ∈ x.f8 → Ownv y) : Ownv x
theorem Ownv.eight {x : Vl} (h : Ownv x) (h8 : x.f0 = 8) : x = ⟨8, x.f1, 0, false, ⟨#[]⟩, z52, [], [], x.f8⟩ := by cases h with | mk _ a b c => exact b h8
theorem Ownv.all {x : Vl} (h : Ownv x) : ∀ y, y ∈ x.f8 → Ownv y := by cases h with | mk _ a b c => exact c
/-- No functions. -/
inductive Nofun : Ty → Prop
  | mk (x : Ty) (h : ¬ x.f0 = 7) (hs : ∀ y, y ∈ x.f4 → Nofun y) : Nofun x
theorem Nofun.here {x : Ty} (h : Nofun x) : ¬ x.f0 = 7 := by cases h with | mk _ a b => exact a
theorem Nofun.all {x : Ty} (h : Nofun x) : ∀ y, y ∈ x.f4 → Nofun y := by cases h with | mk _ a b => exact b
theorem one_of {l : List Vl} (h : l.length = 1) : l = [l[0]'(by omega)] := by
  match l, h with
  | [a], _ => rfl
/-- Few labels along records, as a value of the type is there. -/
theorem okr_of {l : List Se} {f : Ty → Option Ty} (hf : ∀ x u, f x = some u → x.f0 = 9) : ∀ (N : Nat) (p : Ty), SizeOf.sizeOf p < N → Rp p → ∀ v, Okv v → IsT l v (plain f p) → Okr p
  | 0, _, h, _, _, _, _ => absurd h (Nat.not_lt_zero _)
  | N + 1, p, h, hp, v, ov, hv => by
    by_cases h8 : p.f0 = 8
    · have e : plain f p = ⟨p.f0, p.f1, p.f2, p.f3, p.f4.map (plain f)⟩ := by
        rw [plain_eq, plainAll_map]
        cases hq : f p with
        | some u => have := hf p u hq; omega
        | none => rfl
      rw [e] at hv
      obtain ⟨e1, e2⟩ := hp.eight h8
      obtain ⟨g0, g7, gl, gk⟩ := hv.rec8 (show (⟨p.f0, p.f1, p.f2, p.f3, p.f4.map (plain f)⟩ : Ty).f0 = 8 from h8)
      have gl' : v.f8.length = p.f4.length := by rw [gl]; exact List.length_map _
      have o8 := ov.parts.2.2.2.1
      refine .mk p (fun _ => by omega) (fun _ y hy => ?_)
      obtain ⟨j, hj, rfl⟩ := List.mem_iff_getElem.1 hy
      have := size_args p _ hy
      have hj2 := gk j (by omega) (by show j < (p.f4.map (plain f)).length; rw [List.length_map]; exact hj)
      simp only [List.getElem_map] at hj2
      exact okr_of hf N _ (by omega) (hp.all _ hy) _ (ov.parts.2.2.2.2 _ (List.getElem_mem _)) hj2
    · exact .mk p (fun h => absurd h h8) (fun h => absurd h h8)
theorem parts_mem {f : Vl → Ty → Option Vl} {v : Vl} {p : Ty} : ∀ {l : List ByteArray} {xs : List Vl}, partsV f v p l = some xs → ∀ k, k ∈ xs → ∃ a b, a ∈ v.f8 ∧ b ∈ p.f4 ∧ f a b = some k
  | [], xs, h, k, hk => by simp only [partsV] at h; injection h with h; subst h; cases hk
  | s :: l, xs, h, k, hk => by
    simp only [partsV] at h
    split at h
    · cases h
    · rename_i x hx
      split at h
      · cases h
      · rename_i ys hy
        injection h with h
        subst h
        rcases List.mem_cons.1 hk with rfl | hk
        · unfold partV at hx
          split at hx
          · cases hx
          · rename_i a ha
            split at hx
            · cases hx
            · rename_i b hb
              exact ⟨a, b, fieldV_mem ha, fieldT_mem hb, hx⟩
        · exact parts_mem (l := l) hy k hk
theorem turn_okv (lo up : Int) (inn : Bool) : ∀ (N : Nat) (p : Ty), SizeOf.sizeOf p < N → Okt p → Okr p → ∀ v x, Okv v → turnV lo up inn N v p = some x → Okv x
  | 0, _, h, _, _, _, _, _, _ => absurd h (Nat.not_lt_zero _)
  | N + 1, p, h, op, orr, v, x, ov, he => by
    cases hh : hasB lo up p with
    | false => rw [turnV_no hh] at he; injection he with he; subst he; exact ov
    | true =>
      by_cases h9 : p.f0 = 9
      · rw [turnV_seal hh h9] at he
        unfold sealV at he
        split at he
        · injection he with he
          subst he
          exact .mk _ (by simp) (by simp) (by simp) (by simp) (by simpa using ov)
        · split at he
          · rename_i hc
            injection he with he
            subst he
            rw [List.getD_eq_getElem?_getD, List.getElem?_eq_getElem (by omega)]
            exact ov.parts.2.2.2.2 _ (List.getElem_mem _)
          · cases he
      · by_cases h7 : p.f0 = 7
        · rw [turnV_fun hh h7] at he
          unfold functionV at he
          split at he
          · injection he with he
            subst he
            exact .mk _ (by simp) (by simpa using op) (by simp) (by simp) (by simpa using ov)
          · cases he
        · by_cases h8 : p.f0 = 8
          · rw [turnV_rec hh h8] at he
            unfold recordV at he
            split at he
            · cases he
            · rename_i ks hk
              injection he with he
              subst he
              refine .mk _ (by simp) (by simp) op.l3 (by show ks.length * 144 ≤ _; rw [partsV_len hk]; exact orr.len h8) (fun y hy => ?_)
              obtain ⟨a, b, ha, hb, hf⟩ := parts_mem hk y hy
              have := size_args p _ hb
              exact turn_okv lo up inn N b (by omega) (op.all _ hb) (orr.all h8 _ hb) a y (ov.parts.2.2.2.2 _ ha) hf
          · rw [turnV_none hh h9 h7 h8] at he; cases he
theorem do_okv {lo up : Int} {inn : Bool} {p : Ty} {v x : Vl} (op : Okt p) (orr : Okr p) (ov : Okv v) (h : doV lo up inn v p = some x) : Okv x := turn_okv lo up inn _ p (Nat.lt_succ_self _) op orr v x ov h
theorem do_in {l : List Se} {a : Nat} {p : Ty} {v : Vl} (hp : Rp p) (hv : IsT l v (plain (opF l a) p)) : ∃ x, doV (a : Int) (l.length : Int) true v p = some x ∧ IsT l x p := keeps_in l a _ p (Nat.lt_succ_self _) hp v hv
theorem do_out {l : List Se} {a : Nat} {p : Ty} {v : Vl} (hp : Rp p) (hv : IsT l v p) : ∃ x, doV (a : Int) (l.length : Int) false v p = some x ∧ IsT l x (plain (opF l a) p) := keeps_out l a _ p (Nat.lt_succ_self _) hp v hv
theorem okr_in {l : List Se} {a : Nat} {p : Ty} {v : Vl} (hp : Rp p) (ov : Okv v) (hv : IsT l v (plain (opF l a) p)) : Okr p := okr_of (fun x u h => opF_nine h) _ p (Nat.lt_succ_self _) hp v ov hv
theorem okr_out {l : List Se} {p : Ty} {v : Vl} (hp : Rp p) (ov : Okv v) (hv : IsT l v p) : Okr p := okr_of (f := fun _ => none) (fun x u h => by cases h) _ p (Nat.lt_succ_self _) hp v ov (by rw [plain_id _ (fun _ => rfl)]; exact hv)
end Go.Proofs.Ytnfnhjhnfdkinaa.PConvBack
