/-
  SitesStay: texts of this claim, put together by a program of this session. No conditions beyond what each lemma says.
-/
import Derived.Test.YtlenfmnkbepoiaazSitesStay1
import Derived.SizedLaws
import Derived.ChangeArms
import Derived.DataElems
import Derived.WideShapes
namespace Go.Proofs.YtlenfmnkbepoiaaW.Rd
open Go.RowKit Go.Proofs.YtlenfmnkbepoiaaW.PrintWords Go.WideShapes

/-- With so much fuel: cells that are read as data are those of a value of kind d, of which ok holds. -/
def RdU (P : Program) {α : Type} (d : Kd α) (t : TypeId) (ok : α → Prop) (fuel : Nat) : Prop :=
  ∀ (H : Type) (enc : TypeId × Value → H) (W : World) (cs : List Value) (x : DataW H × List MemPlace),
    DataW.trod enc P W 0 (fun _ => true) true fuel t cs = some x → (∀ n, n ∈ x.1.weights P t → n ≤ reachBytes) → ∃ y, d.K W y cs ∧ ok y
theorem rd_int {P : Program} {t : TypeId} {k : IntKind} (ht : P.underlying t = some (.int k)) (fuel : Nat) : RdU P (Kd.int k) t (fun n => (Lit.int k n).wf = true) fuel := by
  intro H enc W cs x h _
  obtain ⟨n, rfl, rfl, hw⟩ := DataW.trod_int ht h
  exact ⟨n, rfl, hw⟩
theorem rd_bool {P : Program} {t : TypeId} (ht : P.underlying t = some .bool) (fuel : Nat) : RdU P Kd.bool t (fun _ => True) fuel := by
  intro H enc W cs x h _
  obtain ⟨n, rfl, rfl⟩ := DataW.trod_bool ht h
  exact ⟨n, rfl, trivial⟩
theorem rd_string {P : Program} {t : TypeId} (ht : P.underlying t = some .string) (fuel : Nat) : RdU P Kd.string t (fun s => s.size ≤ 140737488351232) fuel := by
  intro H enc W cs x h hw
  obtain ⟨s, rfl, rfl, _⟩ := DataW.trod_string ht h
  refine ⟨s, rfl, ?_⟩
  have := hw s.data.toList.length (by simp [DataW.weights])
  rw [Array.length_toList] at this
  exact this
theorem choose_list {α : Type} {Q : Nat → α → Prop} : ∀ n, (∀ i, i < n → ∃ y, Q i y) → ∃ ys : List α, ys.length = n ∧ ∀ i y, ys[i]? = some y → Q i y
  | 0, _ => ⟨[], rfl, fun i y h => by simp at h⟩
  | n + 1, h => by
    obtain ⟨ys, hl, hq⟩ := choose_list n (fun i hi => h i (by omega))
    obtain ⟨y, hy⟩ := h n (by omega)
    refine ⟨ys ++ [y], by simp [hl], fun i z hz => ?_⟩
    by_cases hi : i < n
    · rw [List.getElem?_append_left (by omega)] at hz
      exact hq i z hz
    · rw [List.getElem?_append_right (by omega)] at hz
      have : i - ys.length = 0 := by
        have := (List.getElem?_eq_some_iff.1 hz).1
        simp at this
        omega
      rw [this] at hz
      have e : y = z := by simpa using hz
      have : i = n := by omega
      subst this; subst e
      exact hy
theorem weights_all_mem {H : Type} {P : Program} {e : TypeId} : ∀ {l : List (DataW H)} {d : DataW H}, d ∈ l → ∀ n, n ∈ d.weights P e → n ∈ DataW.weightsAll P e l
  | _ :: _, _, .head _, n, hn => by simp only [DataW.weightsAll, List.mem_append]; exact .inl hn
  | _ :: _, _, .tail _ h, n, hn => by simp only [DataW.weightsAll, List.mem_append]; exact .inr (weights_all_mem h n hn)
theorem mapM_at {α β : Type} {f : α → Option β} : ∀ {l : List α} {r : List β}, l.mapM f = some r → r.length = l.length ∧ ∀ (i : Nat) (a : α), l[i]? = some a → f a = r[i]?
  | [], r, h => by
    simp at h
    subst h
    exact ⟨rfl, fun i a h => by simp at h⟩
  | a :: l, r, h => by
    simp only [List.mapM_cons, Option.bind_eq_bind, Option.bind_eq_some_iff] at h
    obtain ⟨b, hb, s, hs, h⟩ := h
    obtain rfl : b :: s = r := by simpa using h
    obtain ⟨h1, h2⟩ := mapM_at hs
    refine ⟨by simp [h1], fun i c hc => ?_⟩
    cases i with
    | zero =>
      have e : a = c := by simpa using hc
      subst e
      simpa using hb
    | succ i => simpa using h2 i c (by simpa using hc)
theorem cells_of {w : World} {a : Addr} {n : Nat} {cs : List Value} (h : w.cells? 0 a n = some cs) : cs.length = n ∧ ∀ i u, cs[i]? = some u → w.cell? (a.add i) = some u := by
  unfold World.cells? at h
  rw [if_pos (Nat.zero_le _)] at h
  obtain ⟨h1, h2⟩ := mapM_at h
  rw [List.length_range] at h1
  refine ⟨h1, fun i u hu => ?_⟩
  have hi : i < n := by have := (List.getElem?_eq_some_iff.1 hu).1; omega
  exact (h2 i i (by simp [hi])).trans hu
theorem rd_slice {P : Program} {α : Type} {d : Kd α} {t e : TypeId} {ok : α → Prop} {B : Nat} (ht : P.underlying t = some (.slice e)) (hz : P.cellsOf e = d.sz) (hB : P.bytesOf e = B) (fuel : Nat) (he : ∀ n, n + 1 = fuel → RdU P d e ok n) :
    RdU P (Kd.slice e d) t (fun l => l.length * B ≤ 140737488351232 ∧ ∀ x, x ∈ l → ok x) fuel := by
  intro H enc W cs x h hw
  rcases DataW.trod_slice ht h with ⟨rfl, rfl⟩ | ⟨a, len, cap, elems, rest, n, rfl, rfl, rfl, _, hl, hc, hel, hi, _⟩
  · exact ⟨[], ⟨none, 0, rfl, Nat.le_refl _, rfl, Nat.zero_le _, fun hp => absurd hp (by simp)⟩, by simp, fun x hx => by cases hx⟩
  · have hlen : len * B ≤ 140737488351232 := by
      have := hw ((elems.map (·.1)).length * P.bytesOf e + (rest.map (·.1)).length * P.bytesOf e) (by simp [DataW.weights, ht, Nat.add_mul])
      rw [hB, List.length_map, hel] at this
      exact Nat.le_trans (Nat.le_add_right _ _) this
    have key : ∀ i, i < len → ∃ y, (∃ c, W.cells? 0 (a.add (i * P.cellsOf e)) (P.cellsOf e) = some c ∧ d.K W y c) ∧ ok y := by
      intro i hlt
      have h1 := hi i hlt
      rw [List.getElem?_eq_getElem (by omega)] at h1
      obtain ⟨c, hc1, hc2⟩ := Option.bind_eq_some_iff.1 h1
      obtain ⟨y, hy, hok⟩ := he n rfl H enc W c _ hc2 (fun m hm => hw m (by
        simp only [DataW.weights, ht]
        refine List.mem_cons_of_mem _ (List.mem_append_left _ (weights_all_mem ?_ m hm))
        exact List.mem_map_of_mem (List.getElem_mem _)))
      exact ⟨y, ⟨c, hc1, hy⟩, hok⟩
    obtain ⟨ys, hys, hq⟩ := choose_list len key
    subst hys
    refine ⟨ys, ⟨some a, cap, rfl, hl, rfl, Nat.le_trans hl hc, fun _ => ⟨a, rfl, fun j p hj => ?_⟩⟩, hlen, fun x hx => ?_⟩
    · obtain ⟨⟨c, hc1, hk⟩, _⟩ := hq j p hj
      obtain ⟨g1, g2⟩ := cells_of hc1
      refine ⟨c, g1.trans hz, hk, fun i u hu => ?_⟩
      have := g2 i u hu
      rw [Addr.add_add, hz] at this
      exact this
    · obtain ⟨i, hi1, rfl⟩ := List.getElem_of_mem hx
      exact (hq i _ (List.getElem?_eq_getElem hi1)).2
/-- A struct's fields from place o on, in a family of kinds. -/
def RdF (P : Program) {α : Type} (d : Nat → Kd α) (fs : List Field) (o : Nat) (ok : α → Prop) (n : Nat) : Prop :=
  ∀ (H : Type) (enc : TypeId × Value → H) (W : World) (cs : List Value) (xs : List (DataW H × List MemPlace)), cs.length = o + (d 0).sz → xs.length = fs.length →
    (∀ (i : Nat) (f : Field), fs[i]? = some f → DataW.trod enc P W 0 (fun _ => true) true n f.type ((cs.drop f.offset).take (P.cellsOf f.type)) = xs[i]?) →
    (∀ m, m ∈ DataW.weightsEach P (fs.map (·.type)) (xs.map (·.1)) → m ≤ reachBytes) → ∃ m y, (d m).K W y (cs.drop o) ∧ ok y
theorem rdf_one {P : Program} {α : Type} {d : Kd α} {f : Field} {o : Nat} {ok : α → Prop} {n : Nat} (ho : f.offset = o) (hz : P.cellsOf f.type = d.sz) (h : RdU P d f.type ok n) : RdF P (fun _ => d) [f] o ok n := by
  intro H enc W cs xs hl hx hf hw
  have hl' : cs.length = o + d.sz := hl
  match xs, hx with
  | [x], _ =>
    have h1 := hf 0 f rfl
    rw [ho, hz, List.take_of_length_le (by rw [List.length_drop]; omega)] at h1
    obtain ⟨y, hy, hok⟩ := h H enc W _ x h1 (fun m hm => hw m (by simp [DataW.weightsEach, hm]))
    exact ⟨0, y, hy, hok⟩
theorem rdf_self {P : Program} {α : Type} {F : Kd α → Kd α} {sz : Nat} {E : List Nat} {hs : ∀ n, (Kd.upto F sz E n).sz = sz} {hE : ∀ n q, q ∈ (Kd.upto F sz E n).E → q ∈ E} (hm : Kd.Mono F) {T : Nat} {f : Field} {o : Nat} {ok : List α → Prop} {n : Nat} (ho : f.offset = o) (hz : P.cellsOf f.type = 1)
    (h : RdU P (Kd.slice T (Kd.fix F sz E hs hE)) f.type ok n) : RdF P (fun m => Kd.slice T (Kd.upto F sz E m)) [f] o ok n := by
  intro H enc W cs xs hl hx hf hw
  have hl' : cs.length = o + 1 := hl
  match xs, hx with
  | [x], _ =>
    have h1 := hf 0 f rfl
    rw [ho, hz, List.take_of_length_le (by rw [List.length_drop]; omega)] at h1
    obtain ⟨y, ⟨A, c, hc, hle, hC⟩, hok⟩ := h H enc W _ x h1 (fun m hm => hw m (by simp [DataW.weightsEach, hm]))
    obtain ⟨m, hm⟩ := Kd.fix_C_back hm hC
    exact ⟨m, y, ⟨A, c, hc, hle, hm⟩, hok⟩
theorem rdf_cons {P : Program} {α β : Type} {d : Kd α} {d' : Nat → Kd β} {f : Field} {fs : List Field} {o : Nat} {ok : α → Prop} {ok' : β → Prop} {n : Nat} (ho : f.offset = o) (hz : P.cellsOf f.type = d.sz) (h : RdU P d f.type ok n) (ht : RdF P d' fs (o + d.sz) ok' n) :
    RdF P (fun m => Kd.pair d (d' m)) (f :: fs) o (fun p => ok p.1 ∧ ok' p.2) n := by
  intro H enc W cs xs hl hx hf hw
  have hl' : cs.length = o + (d.sz + (d' 0).sz) := hl
  match xs, hx with
  | x :: xs, hx =>
    have h1 := hf 0 f rfl
    rw [ho, hz] at h1
    obtain ⟨y, hy, hok⟩ := h H enc W _ x h1 (fun m hm => hw m (by simp only [List.map_cons, DataW.weightsEach, List.mem_append]; exact .inl hm))
    obtain ⟨m, y', hy', hok'⟩ := ht H enc W cs xs (by omega) (by simpa using hx) (fun i g hg => hf (i + 1) g (by simpa using hg)) (fun m hm => hw m (by simp only [List.map_cons, DataW.weightsEach, List.mem_append]; exact .inr hm))
    refine ⟨m, (y, y'), ⟨_, _, ?_, hy, hy'⟩, hok, hok'⟩
    rw [← List.drop_drop, List.take_append_drop]
theorem rd_struct {P : Program} {α β : Type} {k : Kd β} {d : Nat → Kd α} {t : TypeId} {fs : Array Field} {fl : List Field} {f : β → α} {g : α → β} {ok : α → Prop} {ok' : β → Prop} (ht : P.underlying t = some (.struct fs)) (hfl : fs.toList = fl) (hz : P.cellsOf t = (d 0).sz) (hk : ∀ m W y cs, (d m).K W (f y) cs → k.K W y cs)
    (hg : ∀ a, f (g a) = a) (hok : ∀ a, ok a → ok' (g a)) (fuel : Nat) (h : ∀ n, n + 1 = fuel → RdF P d fl 0 ok n) : RdU P k t ok' fuel := by
  intro H enc W cs x hx hw
  obtain ⟨xs, n, rfl, rfl, hl, hn, hf⟩ := DataW.trod_struct ht hx
  subst hfl
  obtain ⟨m, y, hy, ho⟩ := h n rfl H enc W cs xs (by omega) (by simpa using hn) (fun i f hi => hf i f (by simpa using hi)) (fun m hm => hw m (by simp only [DataW.weights, ht]; exact hm))
  exact ⟨g y, hk m W _ cs (by rw [hg]; simpa using hy), hok y ho⟩
/-- An argument's own reading. -/
theorem rd_arg {H : Type} {enc : TypeId × Value → H} {P : Program} {α : Type} {d : Kd α} {t : TypeId} {ok : α → Prop} (h : ∀ fuel, RdU P d t ok fuel) {W : World} {v : Value} {x : DataW H} {ps : List MemPlace} {ts : List TypeId} {ds : List (DataW H)} {j : Nat}
    (hsz : (DataW.weightsEach P ts ds).all (· ≤ reachBytes) = true) (ht : ts[j]? = some t) (hd : ds[j]? = some x) (hv : DataW.Trod enc P W 0 (fun _ => true) true t v x ps) : ∃ y, d.K W y v.cells.toList ∧ ok y := by
  obtain ⟨fuel, hf⟩ := hv
  exact h fuel H enc W _ _ hf (fun n hn => by simpa using List.all_eq_true.1 hsz n (DataW.weights_mem_each ht hd n hn))
theorem arg_agg {P : Program} {w : World} {r : Reach} {base : Nat} {t : TypeId} {fs : Array Field} {v : Value} {cs : List Value} (ht : P.underlying t = some (.struct fs)) (hv : Value.okWide P w r base t v) (h : v.cells.toList = cs) : v = .agg cs.toArray := by
  obtain ⟨a, rfl, _⟩ := okWide_struct ht hv
  subst h
  simp [Value.cells]
end Go.Proofs.YtlenfmnkbepoiaaW.Rd
