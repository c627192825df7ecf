/-
  SitesStay: texts of this claim, put together by a program of this session. No conditions beyond what each lemma says.
-/
import Derived.Test.YtlenfmnkbepoiaazSitesStay21
import Derived.Test.YtlenfmnkbepoiaaRows
import Derived.Test.YtlenfmnkbepoiaazSitesStay23
namespace Go.Proofs.Ytlenfmnkbepoiaa.PSitesTell
open Go.RowKit Go.Proofs.YtlenfmnkbepoiaaW.PrintWords Go.Proofs.YtlenfmnkbepoiaaW.PrintLast Go.Proofs.YtlenfmnkbepoiaaW.PrintMore Go.Proofs.YtlenfmnkbepoiaaW Go.WideShapes
set_option linter.unusedVariables false
/-- As Rd.RdU, and a measure of what is read is at most its bulk. -/
def RdB (P : Program) {α : Type} (d : Kd α) (t : TypeId) (ok : α → Prop) (μ : α → Nat) (fuel : Nat) : Prop :=
  ∀ (H : Type) (enc : TypeId × Value → H) (W : World) (cs : List Value) (x : DataW H × List MemPlace),
    DataW.trod enc P W 0 (fun _ => true) true fuel t cs = some x → (∀ n, n ∈ x.1.weights P t → n ≤ reachBytes) → ∃ y, d.K W y cs ∧ ok y ∧ μ y ≤ Rows.uptoBulk x.1
theorem sum_le {H α : Type} {μ : α → Nat} : ∀ {ys : List α} {es : List (DataW H)}, ys.length = es.length → (∀ (i : Nat) (y : α) (e : DataW H), ys[i]? = some y → es[i]? = some e → μ y ≤ Rows.uptoBulk e) → (ys.map μ).sum ≤ Rows.uptoBulkAll es
  | [], [], _, _ => by simp
  | y :: ys, e :: es, hl, h => by
    have h0 := h 0 y e rfl rfl
    have h1 := sum_le (ys := ys) (es := es) (by simpa using hl) (fun i z f hz hf => h (i + 1) z f (by simpa using hz) (by simpa using hf))
    simp only [List.map_cons, List.sum_cons, Rows.uptoBulkAll]
    omega
  | [], _ :: _, hl, _ => by simp at hl
  | _ :: _, [], hl, _ => by simp at hl
theorem rb_slice {P : Program} {α : Type} {d : Kd α} {t e : TypeId} {ok : α → Prop} {μ : α → Nat} {B : Nat} (ht : P.underlying t = some (.slice e)) (hz : P.cellsOf e = d.sz) (hB : P.bytesOf e = B) (fuel : Nat) (he : ∀ n, n + 1 = fuel → RdB P d e ok μ n) :
    RdB P (Kd.slice e d) t (fun l => l.length * B ≤ 140737488351232 ∧ ∀ x, x ∈ l → ok x) (fun l => (l.map μ).sum) fuel := by
  intro H enc W cs x h hw
  rcases DataW.trod_slice ht h with ⟨rfl, rfl⟩ | ⟨a, len, cap, elems, rest, n, rfl, rfl, rfl, _, hl, hc, hel, hi, _⟩
  · exact ⟨[], ⟨none, 0, rfl, Nat.le_refl _, rfl, Nat.zero_le _, fun hp => absurd hp (by simp)⟩, ⟨by simp, fun x hx => by cases hx⟩, by simp⟩
  · have hlen : len * B ≤ 140737488351232 := by
      have := hw ((elems.map (·.1)).length * P.bytesOf e + (rest.map (·.1)).length * P.bytesOf e) (by simp [DataW.weights, ht, Nat.add_mul])
      rw [hB, List.length_map, hel] at this
      exact Nat.le_trans (Nat.le_add_right _ _) this
    have key : ∀ i, i < len → ∃ y, ((∃ c, W.cells? 0 (a.add (i * P.cellsOf e)) (P.cellsOf e) = some c ∧ d.K W y c) ∧ ok y) ∧ ∀ f, elems[i]? = some f → μ y ≤ Rows.uptoBulk f.1 := by
      intro i hlt
      have h1 := hi i hlt
      rw [List.getElem?_eq_getElem (by omega)] at h1
      obtain ⟨c, hc1, hc2⟩ := Option.bind_eq_some_iff.1 h1
      obtain ⟨y, hy, hok, hm⟩ := he n rfl H enc W c _ hc2 (fun m hm => hw m (by
        simp only [DataW.weights, ht]
        refine List.mem_cons_of_mem _ (List.mem_append_left _ (Rd.weights_all_mem ?_ m hm))
        exact List.mem_map_of_mem (List.getElem_mem _)))
      refine ⟨y, ⟨⟨c, hc1, hy⟩, hok⟩, fun f hf => ?_⟩
      rw [List.getElem?_eq_getElem (by omega)] at hf
      obtain rfl := Option.some.inj hf
      exact hm
    obtain ⟨ys, hys, hq⟩ := Rd.choose_list len key
    subst hys
    refine ⟨ys, ⟨some a, cap, rfl, hl, rfl, Nat.le_trans hl hc, fun _ => ⟨a, rfl, fun j p hj => ?_⟩⟩, ⟨hlen, fun x hx => ?_⟩, ?_⟩
    · obtain ⟨⟨⟨c, hc1, hk⟩, _⟩, _⟩ := hq j p hj
      obtain ⟨g1, g2⟩ := Rd.cells_of hc1
      refine ⟨c, g1.trans hz, hk, fun i u hu => ?_⟩
      have := g2 i u hu
      rw [Addr.add_add, hz] at this
      exact this
    · obtain ⟨i, hi1, rfl⟩ := List.getElem_of_mem hx
      exact (hq i _ (List.getElem?_eq_getElem hi1)).1.2
    · have h1 := sum_le (μ := μ) (ys := ys) (es := elems.map (·.1)) (by rw [List.length_map, hel]) (fun i y f hy hf => by
        rw [List.getElem?_map] at hf
        obtain ⟨g, hg, rfl⟩ := Option.map_eq_some_iff.1 hf
        exact (hq i y hy).2 g hg)
      simp only [Rows.uptoBulk]
      omega
def RdFB (P : Program) {α : Type} (d : Nat → Kd α) (fs : List Field) (o : Nat) (ok : α → Prop) (μ : α → Nat) (n : Nat) : Prop :=
  ∀ (H : Type) (enc : TypeId × Value → H) (W : World) (cs : List Value) (xs : List (DataW H × List MemPlace)), cs.length = o + (d 0).sz → xs.length = fs.length →
    (∀ (i : Nat) (f : Field), fs[i]? = some f → DataW.trod enc P W 0 (fun _ => true) true n f.type ((cs.drop f.offset).take (P.cellsOf f.type)) = xs[i]?) →
    (∀ m, m ∈ DataW.weightsEach P (fs.map (·.type)) (xs.map (·.1)) → m ≤ reachBytes) → ∃ m y, (d m).K W y (cs.drop o) ∧ ok y ∧ μ y ≤ Rows.uptoBulkAll (xs.map (·.1))
theorem fb_self {P : Program} {α : Type} {F : Kd α → Kd α} {sz : Nat} {E : List Nat} {hs : ∀ n, (Kd.upto F sz E n).sz = sz} {hE : ∀ n q, q ∈ (Kd.upto F sz E n).E → q ∈ E} (hm : Kd.Mono F) {T : Nat} {f : Field} {o : Nat} {ok : List α → Prop} {μ : List α → Nat} {n : Nat} (ho : f.offset = o) (hz : P.cellsOf f.type = 1)
    (h : RdB P (Kd.slice T (Kd.fix F sz E hs hE)) f.type ok μ n) : RdFB P (fun m => Kd.slice T (Kd.upto F sz E m)) [f] o ok μ n := by
  intro H enc W cs xs hl hx hf hw
  have hl' : cs.length = o + 1 := hl
  match xs, hx with
  | [x], _ =>
    have h1 := hf 0 f rfl
    rw [ho, hz, List.take_of_length_le (by rw [List.length_drop]; omega)] at h1
    obtain ⟨y, ⟨A, c, hc, hle, hC⟩, hok, hmu⟩ := h H enc W _ x h1 (fun m hm => hw m (by simp [DataW.weightsEach, hm]))
    obtain ⟨m, hm⟩ := Kd.fix_C_back hm hC
    refine ⟨m, y, ⟨A, c, hc, hle, hm⟩, hok, ?_⟩
    simp only [List.map_cons, List.map_nil, Rows.uptoBulkAll]
    omega
theorem fb_cons {P : Program} {α β : Type} {d : Kd α} {d' : Nat → Kd β} {f : Field} {fs : List Field} {o : Nat} {ok : α → Prop} {ok' : β → Prop} {μ : β → Nat} {n : Nat} (ho : f.offset = o) (hz : P.cellsOf f.type = d.sz) (h : Rd.RdU P d f.type ok n) (ht : RdFB P d' fs (o + d.sz) ok' μ n) :
    RdFB P (fun m => Kd.pair d (d' m)) (f :: fs) o (fun p => ok p.1 ∧ ok' p.2) (fun p => μ p.2) n := by
  intro H enc W cs xs hl hx hf hw
  have hl' : cs.length = o + (d.sz + (d' 0).sz) := hl
  match xs, hx with
  | x :: xs, hx =>
    have h1 := hf 0 f rfl
    rw [ho, hz] at h1
    obtain ⟨y, hy, hok⟩ := h H enc W _ x h1 (fun m hm => hw m (by simp only [List.map_cons, DataW.weightsEach, List.mem_append]; exact .inl hm))
    obtain ⟨m, y', hy', hok', hmu⟩ := ht H enc W cs xs (by omega) (by simpa using hx) (fun i g hg => hf (i + 1) g (by simpa using hg)) (fun m hm => hw m (by simp only [List.map_cons, DataW.weightsEach, List.mem_append]; exact .inr hm))
    refine ⟨m, (y, y'), ⟨_, _, ?_, hy, hy'⟩, ⟨hok, hok'⟩, ?_⟩
    · rw [← List.drop_drop, List.take_append_drop]
    · simp only [List.map_cons, Rows.uptoBulkAll]
      omega
theorem fb_one {P : Program} {α : Type} {d : Kd α} {f : Field} {o : Nat} {ok : α → Prop} {μ : α → Nat} {n : Nat} (ho : f.offset = o) (hz : P.cellsOf f.type = d.sz) (h : RdB P d f.type ok μ n) : RdFB P (fun _ => d) [f] o ok μ n := by
  intro H enc W cs xs hl hx hf hw
  match xs, hx with
  | [x], _ =>
    have h1 := hf 0 f rfl
    rw [ho, hz, List.take_of_length_le (by rw [List.length_drop]; have hl' : cs.length = o + d.sz := hl; omega)] at h1
    obtain ⟨y, hy, hok, hmu⟩ := h H enc W _ x h1 (fun m hm => hw m (by simp [DataW.weightsEach, hm]))
    refine ⟨0, y, hy, hok, ?_⟩
    simp only [List.map_cons, List.map_nil, Rows.uptoBulkAll]
    omega
theorem rb_struct {P : Program} {α β : Type} {k : Kd β} {d : Nat → Kd α} {t : TypeId} {fs : Array Field} {fl : List Field} {f : β → α} {g : α → β} {ok : α → Prop} {ok' : β → Prop} {μ : α → Nat} {μ' : β → Nat} (ht : P.underlying t = some (.struct fs)) (hfl : fs.toList = fl) (hz : P.cellsOf t = (d 0).sz) (hk : ∀ m W y cs, (d m).K W (f y) cs → k.K W y cs)
    (hg : ∀ a, f (g a) = a) (hok : ∀ a, ok a → ok' (g a)) (hmu : ∀ a, μ' (g a) ≤ μ a + 1) (fuel : Nat) (h : ∀ n, n + 1 = fuel → RdFB P d fl 0 ok μ n) : RdB P k t ok' μ' fuel := by
  intro H enc W cs x hx hw
  obtain ⟨xs, n, rfl, rfl, hl, hn, hf⟩ := DataW.trod_struct ht hx
  subst hfl
  obtain ⟨m, y, hy, ho, hm⟩ := h n rfl H enc W cs xs (by omega) (by simpa using hn) (fun i f hi => hf i f (by simpa using hi)) (fun m hm => hw m (by simp only [DataW.weights, ht]; exact hm))
  refine ⟨g y, hk m W _ cs (by rw [hg]; simpa using hy), hok y ho, ?_⟩
  have := hmu y
  simp only [Rows.uptoBulk]
  omega
theorem bulk_part {H : Type} {d : DataW H} {l : List (DataW H)} (h : d ∈ l) : Rows.uptoBulk d ≤ Rows.uptoBulkAll l := by
  induction l with
  | nil => cases h
  | cons x r ih =>
    simp only [Rows.uptoBulkAll]
    cases List.mem_cons.1 h with
    | inl e => subst e; omega
    | inr e => have := ih e; omega
theorem rb_arg {H : Type} {enc : TypeId × Value → H} {P : Program} {α : Type} {d : Kd α} {t : TypeId} {ok : α → Prop} {μ : α → Nat} (h : ∀ fuel, RdB P d t ok μ fuel) {W : World} {v : Value} {x : DataW H} {ps : List MemPlace} {ts : List TypeId} {ds : List (DataW H)} {j : Nat}
    (hsz : (DataW.weightsEach P ts ds).all (· ≤ reachBytes) = true) (hb : Rows.uptoBulkAll ds ≤ 1048576) (ht : ts[j]? = some t) (hd : ds[j]? = some x) (hv : DataW.Trod enc P W 0 (fun _ => true) true t v x ps) : ∃ y, d.K W y v.cells.toList ∧ ok y ∧ μ y ≤ 1048576 := by
  obtain ⟨fuel, hf⟩ := hv
  obtain ⟨y, hy, ho, hm⟩ := h fuel H enc W _ _ hf (fun n hn => by simpa using List.all_eq_true.1 hsz n (DataW.weights_mem_each ht hd n hn))
  have := bulk_part (List.mem_of_getElem? hd)
  have hm' : μ y ≤ Rows.uptoBulk x := hm
  exact ⟨y, hy, ho, by omega⟩
/-- What is read counts as one at least. -/
theorem rb_any {P : Program} {α : Type} {d : Kd α} {t : TypeId} {ok : α → Prop} {n : Nat} (h : Rd.RdU P d t ok n) : RdB P d t ok (fun _ => 0) n := by
  intro H enc W cs x hx hw
  obtain ⟨y, hy, hok⟩ := h H enc W cs x hx hw
  exact ⟨y, hy, hok, Nat.zero_le _⟩
/-- A struct counts as one at least. -/
theorem rb_one {P : Program} {α : Type} {d : Kd α} {t : TypeId} {fs : Array Field} {ok : α → Prop} {n : Nat} (ht : P.underlying t = some (.struct fs)) (h : Rd.RdU P d t ok n) : RdB P d t ok (fun _ => 1) n := by
  intro H enc W cs x hx hw
  obtain ⟨y, hy, hok⟩ := h H enc W cs x hx hw
  obtain ⟨xs, m, rfl, rfl, _⟩ := DataW.trod_struct ht hx
  refine ⟨y, hy, hok, ?_⟩
  simp only [Rows.uptoBulk]
  omega
theorem sum_ones {α : Type} : ∀ (l : List α), (l.map (fun _ => 1)).sum = l.length
  | [] => rfl
  | a :: l => by simp only [List.map_cons, List.sum_cons, List.length_cons, sum_ones l]; omega
/-- Both count. -/
theorem fb_both {P : Program} {α β : Type} {d : Kd α} {d' : Nat → Kd β} {f : Field} {fs : List Field} {o : Nat} {ok : α → Prop} {ok' : β → Prop} {μ : α → Nat} {μ' : β → Nat} {n : Nat} (ho : f.offset = o) (hz : P.cellsOf f.type = d.sz) (h : RdB P d f.type ok μ n) (ht : RdFB P d' fs (o + d.sz) ok' μ' n) :
    RdFB P (fun m => Kd.pair d (d' m)) (f :: fs) o (fun p => ok p.1 ∧ ok' p.2) (fun p => μ p.1 + μ' p.2) n := by
  intro H enc W cs xs hl hx hf hw
  have hl' : cs.length = o + (d.sz + (d' 0).sz) := hl
  match xs, hx with
  | x :: xs, hx =>
    have h1 := hf 0 f rfl
    rw [ho, hz] at h1
    obtain ⟨y, hy, hok, hm1⟩ := h H enc W _ x h1 (fun m hm => hw m (by simp only [List.map_cons, DataW.weightsEach, List.mem_append]; exact .inl hm))
    obtain ⟨m, y', hy', hok', hmu⟩ := ht H enc W cs xs (by omega) (by simpa using hx) (fun i g hg => hf (i + 1) g (by simpa using hg)) (fun m hm => hw m (by simp only [List.map_cons, DataW.weightsEach, List.mem_append]; exact .inr hm))
    refine ⟨m, (y, y'), ⟨_, _, ?_, hy, hy'⟩, ⟨hok, hok'⟩, ?_⟩
    · rw [← List.drop_drop, List.take_append_drop]
    · simp only [List.map_cons, Rows.uptoBulkAll]
      omega
/-! How much an expression, and a definition, is. -/
mutual
def muE : Ex → Nat
  | ⟨_, _, _, _, ts, _, ks⟩ => ts.length + muK ks + 1
def muK : List Ex → Nat
  | [] => 0
  | a :: l => muE a + muK l
end
theorem muE_eq (x : Ex) : muE x = x.f4.length + muK x.f6 + 1 := by cases x; simp only [muE]
theorem muK_sum : ∀ (l : List Ex), (l.map muE).sum = muK l
  | [] => by simp [muK]
  | a :: l => by simp only [List.map_cons, List.sum_cons, muK, muK_sum l]
mutual
theorem muE_both : ∀ (x : Ex), nodesE x + numE x ≤ muE x
  | ⟨a, b, c, d, ts, ls, ks⟩ => by
    have := muK_both ks
    rw [nodesE_eq, numE_eq, muE_eq]
    dsimp only
    omega
theorem muK_both : ∀ (l : List Ex), nodesK l + numK l ≤ muK l
  | [] => by rw [nodesK_nil, numK_nil]; exact Nat.zero_le _
  | a :: l => by
    have h1 := muE_both a
    have h2 := muK_both l
    rw [nodesK_cons, numK_cons]
    simp only [muK]
    omega
end
def muD (d : De) : Nat := d.f0.f1.length + d.f0.f2.length + muE d.f1
theorem muD_small {d : De} (h : muD d ≤ 1048576) : Small d := by
  have := muE_both d.f1
  unfold muD at h
  exact ⟨by rw [sitesD_len]; omega, by omega⟩
end Go.Proofs.Ytlenfmnkbepoiaa.PSitesTell
