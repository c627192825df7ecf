/- Functions of the program as Lean functions, and that the Go code comes to what they say, for every input on which they answer. Written by a program of this session. -/
import Derived.Test.YtophddbbeechkaaPNameOncex0
namespace Go.Proofs.Ytophddbbeechkaa.PNameOnce
open Go.RowKit Go.Proofs.YtophddbbeechkaaW.PrintWords Go.Proofs.YtophddbbeechkaaW.PrintLast Go.Proofs.YtophddbbeechkaaW.PrintMore
attribute [local go_sem] max2_int min2_int max_two min_two max_three min_three max_four min_four   -- for this text's walks alone
set_option linter.unusedVariables false
set_option linter.unusedSimpArgs false

/-! ### name_low: function 22 -/
def name_low.f (a0 : Int) : Option (Bool) := if a0 ≥ 97 then (some (decide (a0 ≤ 122))) else (some false)
set_option maxHeartbeats 8000000 in
set_option maxRecDepth 100000 in
theorem name_low.calls (a0 : Int) (r : Bool) (w : World) (h : name_low.f a0 = some r) :
    Calls Try.prog 22 #[.int .i32 a0] w fun e w' => e = .returned (.bool r) ∧ Drawn0 w w' := by
  have H : (if a0 ≥ 97 then (some (decide (a0 ≤ 122))) else (some false)) = some r := h
  clear h
  by_cases c2 : a0 ≥ 97
  · rw [if_pos c2] at H
    have c2b0 : decide (97 ≤ a0) = true := decide_eq_true c2
    clear c2
    obtain rfl := Option.some.inj H
    go_enter Try.func22, Try.ntmps22
    go_wp2
    go_ret
    exact ⟨by first | rfl | (simp; done) | (simp [*]; done), by repeat (first | exact Drawn0.refl _ | apply Drawn0.step)⟩
  · rw [if_neg c2] at H
    have c2b0 : decide (97 ≤ a0) = false := decide_eq_false c2
    clear c2
    obtain rfl := Option.some.inj H
    go_enter Try.func22, Try.ntmps22
    go_wp2
    go_ret
    exact ⟨by first | rfl | (simp; done) | (simp [*]; done), by repeat (first | exact Drawn0.refl _ | apply Drawn0.step)⟩

/-! ### name_up: function 23 -/
def name_up.f (a0 : Int) : Option (Bool) := if a0 ≥ 65 then (some (decide (a0 ≤ 90))) else (some false)
set_option maxHeartbeats 8000000 in
set_option maxRecDepth 100000 in
theorem name_up.calls (a0 : Int) (r : Bool) (w : World) (h : name_up.f a0 = some r) :
    Calls Try.prog 23 #[.int .i32 a0] w fun e w' => e = .returned (.bool r) ∧ Drawn0 w w' := by
  have H : (if a0 ≥ 65 then (some (decide (a0 ≤ 90))) else (some false)) = some r := h
  clear h
  by_cases c2 : a0 ≥ 65
  · rw [if_pos c2] at H
    have c2b0 : decide (65 ≤ a0) = true := decide_eq_true c2
    clear c2
    obtain rfl := Option.some.inj H
    go_enter Try.func23, Try.ntmps23
    go_wp2
    go_ret
    exact ⟨by first | rfl | (simp; done) | (simp [*]; done), by repeat (first | exact Drawn0.refl _ | apply Drawn0.step)⟩
  · rw [if_neg c2] at H
    have c2b0 : decide (65 ≤ a0) = false := decide_eq_false c2
    clear c2
    obtain rfl := Option.some.inj H
    go_enter Try.func23, Try.ntmps23
    go_wp2
    go_ret
    exact ⟨by first | rfl | (simp; done) | (simp [*]; done), by repeat (first | exact Drawn0.refl _ | apply Drawn0.step)⟩

/-! ### name_digit: function 24 -/
def name_digit.f (a0 : Int) : Option (Bool) := if a0 ≥ 48 then (some (decide (a0 ≤ 57))) else (some false)
set_option maxHeartbeats 8000000 in
set_option maxRecDepth 100000 in
theorem name_digit.calls (a0 : Int) (r : Bool) (w : World) (h : name_digit.f a0 = some r) :
    Calls Try.prog 24 #[.int .i32 a0] w fun e w' => e = .returned (.bool r) ∧ Drawn0 w w' := by
  have H : (if a0 ≥ 48 then (some (decide (a0 ≤ 57))) else (some false)) = some r := h
  clear h
  by_cases c2 : a0 ≥ 48
  · rw [if_pos c2] at H
    have c2b0 : decide (48 ≤ a0) = true := decide_eq_true c2
    clear c2
    obtain rfl := Option.some.inj H
    go_enter Try.func24, Try.ntmps24
    go_wp2
    go_ret
    exact ⟨by first | rfl | (simp; done) | (simp [*]; done), by repeat (first | exact Drawn0.refl _ | apply Drawn0.step)⟩
  · rw [if_neg c2] at H
    have c2b0 : decide (48 ≤ a0) = false := decide_eq_false c2
    clear c2
    obtain rfl := Option.some.inj H
    go_enter Try.func24, Try.ntmps24
    go_wp2
    go_ret
    exact ⟨by first | rfl | (simp; done) | (simp [*]; done), by repeat (first | exact Drawn0.refl _ | apply Drawn0.step)⟩

/-! ### name_shape: function 19 -/
def isLow (c : Int) : Bool := decide (97 ≤ c) && decide (c ≤ 122)
def isUp (c : Int) : Bool := decide (65 ≤ c) && decide (c ≤ 90)
def isDigit (c : Int) : Bool := decide (48 ≤ c) && decide (c ≤ 57)
theorem low_is (c : Int) : name_low.f c = some (isLow c) := by
  unfold name_low.f isLow
  by_cases h : c ≥ 97
  · rw [if_pos h, decide_eq_true (show 97 ≤ c from h)]; rfl
  · rw [if_neg h, decide_eq_false (show ¬ 97 ≤ c from h)]; rfl
theorem up_is (c : Int) : name_up.f c = some (isUp c) := by
  unfold name_up.f isUp
  by_cases h : c ≥ 65
  · rw [if_pos h, decide_eq_true (show 65 ≤ c from h)]; rfl
  · rw [if_neg h, decide_eq_false (show ¬ 65 ≤ c from h)]; rfl
theorem digit_is (c : Int) : name_digit.f c = some (isDigit c) := by
  unfold name_digit.f isDigit
  by_cases h : c ≥ 48
  · rw [if_pos h, decide_eq_true (show 48 ≤ c from h)]; rfl
  · rw [if_neg h, decide_eq_false (show ¬ 48 ≤ c from h)]; rfl
def shapeFrom (s : ByteArray) : Nat → Int → Nat → Int
  | 0, kind, _ => kind
  | b + 1, kind, pos =>
    if pos < s.size then
      if pos = 0 then
        if isLow (Utf8.decode s pos).1 = true then shapeFrom s b 1 (pos + (Utf8.decode s pos).2)
        else if isUp (Utf8.decode s pos).1 = true then shapeFrom s b 2 (pos + (Utf8.decode s pos).2) else 0
      else if isLow (Utf8.decode s pos).1 = true then shapeFrom s b kind (pos + (Utf8.decode s pos).2)
      else if isDigit (Utf8.decode s pos).1 = true then shapeFrom s b kind (pos + (Utf8.decode s pos).2)
      else if kind = 2 then (if isUp (Utf8.decode s pos).1 = true then shapeFrom s b kind (pos + (Utf8.decode s pos).2) else 0) else 0
    else kind
def name_shape.f (a0 : ByteArray) : Option (Int) := if (a0.size : Int) > 8 then some 0 else some (shapeFrom a0 a0.size 0 0)
theorem shape_width (s : ByteArray) (pos : Nat) (h : pos < s.size) : 1 ≤ (Utf8.decode s pos).2 := by
  by_cases ha : (s[pos]'h).toNat < 128
  · rw [decode_ascii s pos h ha]
    exact Nat.le_refl _
  · exact (decode_high s pos h (by omega)).2
theorem shapeFrom_end (s : ByteArray) (b : Nat) (kind : Int) (pos : Nat) (h : ¬ pos < s.size) : shapeFrom s b kind pos = kind := by
  cases b with
  | zero => rfl
  | succ b => simp [shapeFrom, h]
def ShapeAt (s : ByteArray) (r : Int) (w : World) (kd : Value) (wr : World) : Prop :=
  ∃ (pos b : Nat) (kind : Int), kd = .int .i64 kind ∧ ((pos = 0 ∧ kind = 0) ∨ (0 < pos ∧ kind = 1) ∨ (0 < pos ∧ kind = 2)) ∧ shapeFrom s b kind pos = r ∧ s.size ≤ pos + b ∧ wr.heap[w.heap.size]? = some (.stringIter s pos) ∧ Below w.heap.size w wr
theorem ShapeAt.next {s : ByteArray} {r : Int} {w wr W : World} {pos b : Nat} {kind : Int} (hp : pos < s.size) (hk : kind = 1 ∨ kind = 2) (hr : shapeFrom s b kind (pos + (Utf8.decode s pos).2) = r) (hb : s.size ≤ pos + (b + 1)) (hw : wr.heap[w.heap.size]? = some (.stringIter s pos)) (hB : Below w.heap.size w wr) (hd : Drawn0 (wr.iterAt w.heap.size s (pos + (Utf8.decode s pos).2)) W) :
    ShapeAt s r w (.int .i64 kind) W := by
  have hwd := shape_width s pos hp
  obtain ⟨n, rfl⟩ := hd
  refine ⟨pos + (Utf8.decode s pos).2, b, kind, rfl, ?_, hr, by omega, ?_, pw_below_drewN (Lib.below_iterAt hB (Nat.le_refl _) _ _) _⟩
  · rcases hk with rfl | rfl
    · exact .inr (.inl ⟨by omega, rfl⟩)
    · exact .inr (.inr ⟨by omega, rfl⟩)
  · exact Lib.iterAt_heap wr w.heap.size s pos _ hw
theorem shape_measure {s : ByteArray} {w wr W : World} {pos : Nat} (hp : pos < s.size) (hw : wr.heap[w.heap.size]? = some (.stringIter s pos)) (hd : Drawn0 (wr.iterAt w.heap.size s (pos + (Utf8.decode s pos).2)) W) :
    s.size - W.iterPos w.heap.size < s.size - wr.iterPos w.heap.size := by
  have hwd := shape_width s pos hp
  obtain ⟨n, rfl⟩ := hd
  have h1 : ((wr.iterAt w.heap.size s (pos + (Utf8.decode s pos).2)).drewN n).iterPos w.heap.size = pos + (Utf8.decode s pos).2 := by
    have := Lib.iterAt_heap wr w.heap.size s pos (pos + (Utf8.decode s pos).2) hw
    unfold World.iterPos
    rw [show ((wr.iterAt w.heap.size s (pos + (Utf8.decode s pos).2)).drewN n).heap = (wr.iterAt w.heap.size s (pos + (Utf8.decode s pos).2)).heap from rfl, this]
  have h2 : wr.iterPos w.heap.size = pos := by unfold World.iterPos; rw [hw]
  rw [h1, h2]
  omega
set_option maxHeartbeats 8000000 in
set_option maxRecDepth 100000 in
theorem name_shape.calls (a0 : ByteArray) (r : Int) (w : World) (h : name_shape.f a0 = some r) :
    Calls Try.prog 19 #[.string a0] w fun e w' => e = .returned (.int .i64 r) ∧ Below w.heap.size w w' := by
  unfold name_shape.f at h
  by_cases h8 : (a0.size : Int) > 8
  · rw [if_pos h8] at h
    obtain rfl := Option.some.inj h
    have c0 : decide (8 < (a0.size : Int)) = true := decide_eq_true h8
    have c1 : decide (8 < a0.size) = true := decide_eq_true (by omega)
    clear h8 h
    go_enter Try.func19, Try.ntmps19
    go_wp2
    go_ret
    exact ⟨rfl, Below.refl _ _⟩
  · rw [if_neg h8] at h
    have H := Aside0.mk (Option.some.inj h)
    have c0 : decide (8 < (a0.size : Int)) = false := decide_eq_false h8
    have c1 : decide (8 < a0.size) = false := decide_eq_false (by omega)
    clear h8 h
    go_enter Try.func19, Try.ntmps19
    go_wp2
    go_loopw [3] (fun kd wr => ShapeAt a0 r w kd wr) (fun _ wr => a0.size - wr.iterPos w.heap.size)
    case atStart => exact ⟨0, a0.size, 0, rfl, .inl ⟨rfl, rfl⟩, H.out, by omega, World.iter_heap _ _ _, (Below.refl _ _).alloc (Nat.le_refl _) _⟩
    case round =>
      clear H c0 c1
      obtain ⟨pos, b, kind, rfl, hk, hr, hb, hw, hB⟩ := hrel
      by_cases hp : pos < a0.size
      · cases b with
        | zero => omega
        | succ b =>
          have hnx : ∀ ty, (Instr.next (.pointer (some ⟨w.heap.size, 0, none⟩)) true ty).run Try.prog wr = _ := fun ty => Lib.run_next_any_at wr w.heap.size a0 pos ty hw hp
          have HW := Aside0.mk hw
          have HB := Aside0.mk hB
          have HP := Aside0.mk hp
          have hl := Aside0.mk (low_is (Utf8.decode a0 pos).1)
          have hu := Aside0.mk (up_is (Utf8.decode a0 pos).1)
          have hd := Aside0.mk (digit_is (Utf8.decode a0 pos).1)
          clear hw hB
          unfold shapeFrom at hr
          rw [if_pos hp] at hr
          clear hp
          have HBB := Aside0.mk hb
          clear hb
          rcases hk with ⟨rfl, rfl⟩ | ⟨h0, rfl⟩ | ⟨h0, rfl⟩
          · rw [if_pos rfl] at hr
            by_cases c : isLow (Utf8.decode a0 0).1 = true
            · rw [if_pos c] at hr
              rw [c] at hl
              have HR := Aside0.mk hr
              clear hr c
              go_wp2_with (go_at_call 22; refine (name_low.calls _ _ _ hl.out).mono ?_; rintro e w' ⟨rfl, ⟨m, rfl⟩⟩)
              go_roundw
              case rel => exact ShapeAt.next HP.out (.inl rfl) HR.out HBB.out HW.out HB.out (by (try simp only [Nat.zero_add]); repeat (first | exact Drawn0.refl _ | apply Drawn0.step))
              case measure => exact shape_measure HP.out HW.out (by (try simp only [Nat.zero_add]); repeat (first | exact Drawn0.refl _ | apply Drawn0.step))
            · rw [if_neg c] at hr
              rw [Bool.eq_false_iff.mpr c] at hl
              clear c
              by_cases c : isUp (Utf8.decode a0 0).1 = true
              · rw [if_pos c] at hr
                rw [c] at hu
                have HR := Aside0.mk hr
                clear hr c
                go_wp2_with (first | (go_at_call 22; refine (name_low.calls _ _ _ hl.out).mono ?_; rintro e w' ⟨rfl, ⟨m, rfl⟩⟩) | (go_at_call 23; refine (name_up.calls _ _ _ hu.out).mono ?_; rintro e w' ⟨rfl, ⟨m2, rfl⟩⟩))
                go_roundw
                case rel => exact ShapeAt.next HP.out (.inr rfl) HR.out HBB.out HW.out HB.out (by (try simp only [Nat.zero_add]); repeat (first | exact Drawn0.refl _ | apply Drawn0.step))
                case measure => exact shape_measure HP.out HW.out (by (try simp only [Nat.zero_add]); repeat (first | exact Drawn0.refl _ | apply Drawn0.step))
              · rw [if_neg c] at hr
                rw [Bool.eq_false_iff.mpr c] at hu
                subst hr
                clear c
                go_wp2_with (first | (go_at_call 22; refine (name_low.calls _ _ _ hl.out).mono ?_; rintro e w' ⟨rfl, ⟨m, rfl⟩⟩) | (go_at_call 23; refine (name_up.calls _ _ _ hu.out).mono ?_; rintro e w' ⟨rfl, ⟨m2, rfl⟩⟩))
                go_ret
                exact ⟨rfl, by repeat (first | (with_reducible exact Lib.below_iterAt HB.out (Nat.le_refl _) _ _) | apply pw_below_drewN)⟩
          · have t0 : ((pos : Int) == 0) = false := beq_eq_false_iff_ne.mpr (by omega)
            have t1 : decide (0 < (pos : Int)) = true := decide_eq_true (by omega)
            have t2 : decide (0 < pos) = true := decide_eq_true h0
            rw [if_neg (by omega)] at hr
            clear h0
            by_cases c : isLow (Utf8.decode a0 pos).1 = true
            · rw [if_pos c] at hr
              rw [c] at hl
              have HR := Aside0.mk hr
              clear hr c
              go_wp2_with (first | (go_at_call 22; refine (name_low.calls _ _ _ hl.out).mono ?_; rintro e w' ⟨rfl, ⟨m, rfl⟩⟩))
              go_roundw
              case rel => exact ShapeAt.next HP.out (.inl rfl) HR.out HBB.out HW.out HB.out (by (try simp only [Nat.zero_add]); repeat (first | exact Drawn0.refl _ | apply Drawn0.step))
              case measure => exact shape_measure HP.out HW.out (by (try simp only [Nat.zero_add]); repeat (first | exact Drawn0.refl _ | apply Drawn0.step))
            · rw [if_neg c] at hr
              rw [Bool.eq_false_iff.mpr c] at hl
              clear c
              by_cases c : isDigit (Utf8.decode a0 pos).1 = true
              · rw [if_pos c] at hr
                rw [c] at hd
                have HR := Aside0.mk hr
                clear hr c
                go_wp2_with (first | (go_at_call 22; refine (name_low.calls _ _ _ hl.out).mono ?_; rintro e w' ⟨rfl, ⟨m, rfl⟩⟩) | (go_at_call 24; refine (name_digit.calls _ _ _ hd.out).mono ?_; rintro e w' ⟨rfl, ⟨m2, rfl⟩⟩))
                go_roundw
                case rel => exact ShapeAt.next HP.out (.inl rfl) HR.out HBB.out HW.out HB.out (by (try simp only [Nat.zero_add]); repeat (first | exact Drawn0.refl _ | apply Drawn0.step))
                case measure => exact shape_measure HP.out HW.out (by (try simp only [Nat.zero_add]); repeat (first | exact Drawn0.refl _ | apply Drawn0.step))
              · rw [if_neg c] at hr
                rw [Bool.eq_false_iff.mpr c] at hd
                clear c
                rw [if_neg (by decide)] at hr
                subst hr
                go_wp2_with (first | (go_at_call 22; refine (name_low.calls _ _ _ hl.out).mono ?_; rintro e w' ⟨rfl, ⟨m, rfl⟩⟩) | (go_at_call 24; refine (name_digit.calls _ _ _ hd.out).mono ?_; rintro e w' ⟨rfl, ⟨m2, rfl⟩⟩))
                go_ret
                exact ⟨rfl, by repeat (first | (with_reducible exact Lib.below_iterAt HB.out (Nat.le_refl _) _ _) | apply pw_below_drewN)⟩
          · have t0 : ((pos : Int) == 0) = false := beq_eq_false_iff_ne.mpr (by omega)
            have t1 : decide (0 < (pos : Int)) = true := decide_eq_true (by omega)
            have t2 : decide (0 < pos) = true := decide_eq_true h0
            rw [if_neg (by omega)] at hr
            clear h0
            by_cases c : isLow (Utf8.decode a0 pos).1 = true
            · rw [if_pos c] at hr
              rw [c] at hl
              have HR := Aside0.mk hr
              clear hr c
              go_wp2_with (first | (go_at_call 22; refine (name_low.calls _ _ _ hl.out).mono ?_; rintro e w' ⟨rfl, ⟨m, rfl⟩⟩))
              go_roundw
              case rel => exact ShapeAt.next HP.out (.inr rfl) HR.out HBB.out HW.out HB.out (by (try simp only [Nat.zero_add]); repeat (first | exact Drawn0.refl _ | apply Drawn0.step))
              case measure => exact shape_measure HP.out HW.out (by (try simp only [Nat.zero_add]); repeat (first | exact Drawn0.refl _ | apply Drawn0.step))
            · rw [if_neg c] at hr
              rw [Bool.eq_false_iff.mpr c] at hl
              clear c
              by_cases c : isDigit (Utf8.decode a0 pos).1 = true
              · rw [if_pos c] at hr
                rw [c] at hd
                have HR := Aside0.mk hr
                clear hr c
                go_wp2_with (first | (go_at_call 22; refine (name_low.calls _ _ _ hl.out).mono ?_; rintro e w' ⟨rfl, ⟨m, rfl⟩⟩) | (go_at_call 24; refine (name_digit.calls _ _ _ hd.out).mono ?_; rintro e w' ⟨rfl, ⟨m2, rfl⟩⟩))
                go_roundw
                case rel => exact ShapeAt.next HP.out (.inr rfl) HR.out HBB.out HW.out HB.out (by (try simp only [Nat.zero_add]); repeat (first | exact Drawn0.refl _ | apply Drawn0.step))
                case measure => exact shape_measure HP.out HW.out (by (try simp only [Nat.zero_add]); repeat (first | exact Drawn0.refl _ | apply Drawn0.step))
              · rw [if_neg c] at hr
                rw [Bool.eq_false_iff.mpr c] at hd
                clear c
                rw [if_pos rfl] at hr
                by_cases c : isUp (Utf8.decode a0 pos).1 = true
                · rw [if_pos c] at hr
                  rw [c] at hu
                  have HR := Aside0.mk hr
                  clear hr c
                  go_wp2_with (first | (go_at_call 22; refine (name_low.calls _ _ _ hl.out).mono ?_; rintro e w' ⟨rfl, ⟨m, rfl⟩⟩) | (go_at_call 24; refine (name_digit.calls _ _ _ hd.out).mono ?_; rintro e w' ⟨rfl, ⟨m2, rfl⟩⟩) | (go_at_call 23; refine (name_up.calls _ _ _ hu.out).mono ?_; rintro e w' ⟨rfl, ⟨m3, rfl⟩⟩))
                  go_roundw
                  case rel => exact ShapeAt.next HP.out (.inr rfl) HR.out HBB.out HW.out HB.out (by (try simp only [Nat.zero_add]); repeat (first | exact Drawn0.refl _ | apply Drawn0.step))
                  case measure => exact shape_measure HP.out HW.out (by (try simp only [Nat.zero_add]); repeat (first | exact Drawn0.refl _ | apply Drawn0.step))
                · rw [if_neg c] at hr
                  rw [Bool.eq_false_iff.mpr c] at hu
                  subst hr
                  clear c
                  go_wp2_with (first | (go_at_call 22; refine (name_low.calls _ _ _ hl.out).mono ?_; rintro e w' ⟨rfl, ⟨m, rfl⟩⟩) | (go_at_call 24; refine (name_digit.calls _ _ _ hd.out).mono ?_; rintro e w' ⟨rfl, ⟨m2, rfl⟩⟩) | (go_at_call 23; refine (name_up.calls _ _ _ hu.out).mono ?_; rintro e w' ⟨rfl, ⟨m3, rfl⟩⟩))
                  go_ret
                  exact ⟨rfl, by repeat (first | (with_reducible exact Lib.below_iterAt HB.out (Nat.le_refl _) _ _) | apply pw_below_drewN)⟩
      · rw [shapeFrom_end a0 b kind pos hp] at hr
        subst hr
        have hnx : ∀ ty, (Instr.next (.pointer (some ⟨w.heap.size, 0, none⟩)) true ty).run Try.prog wr = _ := fun ty => Lib.run_next_end_at wr w.heap.size a0 pos ty hw hp
        have HB := Aside0.mk hB
        clear hw hB hb hp hk
        go_wp2
        go_ret
        exact ⟨rfl, HB.out⟩


/-! ### name_Kind: function 7 -/
mutual
def name_Kind.j0 : Nat → Int → ByteArray → Bool → Option (Int)
  | 0, _, _, _ => none
  | k + 1, x3, x6, x7 => if x7 = true then (some 3) else (if x6.toList = ([102, 110] : List UInt8) then (name_Kind.j1 k x3 x6 (x6.toList == ([102, 110] : List UInt8))) else (if x6.toList = ([99, 97, 108, 108] : List UInt8) then (name_Kind.j1 k x3 x6 (x6.toList == ([99, 97, 108, 108] : List UInt8))) else (if x6.toList = ([100, 101, 102] : List UInt8) then (name_Kind.j1 k x3 x6 (x6.toList == ([100, 101, 102] : List UInt8))) else (if x6.toList = ([116, 114, 117, 101] : List UInt8) then (name_Kind.j1 k x3 x6 (x6.toList == ([116, 114, 117, 101] : List UInt8))) else (name_Kind.j1 k x3 x6 (x6.toList == ([102, 97, 108, 115, 101] : List UInt8)))))))
def name_Kind.j1 : Nat → Int → ByteArray → Bool → Option (Int)
  | 0, _, _, _ => none
  | k + 1, x3, x6, x13 => if x13 = true then (some 3) else (if x6.toList = ([73, 110, 116] : List UInt8) then (some 4) else (if x6.toList = ([66, 111, 111, 108] : List UInt8) then (some 4) else (if x6.toList = ([83, 116, 114, 105, 110, 103] : List UInt8) then (some 4) else (if x6.toList = ([84, 111, 112] : List UInt8) then (some 4) else (some x3)))))
end
def name_Kind.f (k : Nat) (a0 : ByteArray) : Option (Int) := (name_shape.f a0).bind fun t101 => (if a0.toList = ([108, 101, 116] : List UInt8) then (name_Kind.j0 k t101 a0 (a0.toList == ([108, 101, 116] : List UInt8))) else (if a0.toList = ([105, 110] : List UInt8) then (name_Kind.j0 k t101 a0 (a0.toList == ([105, 110] : List UInt8))) else (if a0.toList = ([105, 102] : List UInt8) then (name_Kind.j0 k t101 a0 (a0.toList == ([105, 102] : List UInt8))) else (if a0.toList = ([116, 104, 101, 110] : List UInt8) then (name_Kind.j0 k t101 a0 (a0.toList == ([116, 104, 101, 110] : List UInt8))) else (name_Kind.j0 k t101 a0 (a0.toList == ([101, 108, 115, 101] : List UInt8)))))))
theorem name_Kind.mono_l : ∀ k, (∀ y0 y1 y2, LeO (name_Kind.j0 k y0 y1 y2) (name_Kind.j0 (k + 1) y0 y1 y2)) ∧ (∀ y0 y1 y2, LeO (name_Kind.j1 k y0 y1 y2) (name_Kind.j1 (k + 1) y0 y1 y2))
  | 0 => ⟨fun _ _ _ r h => by simp [name_Kind.j0] at h, fun _ _ _ r h => by simp [name_Kind.j1] at h⟩
  | k + 1 => by
    obtain ⟨ih0, ih1⟩ := name_Kind.mono_l k
    refine ⟨?_, ?_⟩
    · intro y0 y1 y2
      unfold name_Kind.j0
      repeat' first
      | (with_reducible exact ih0 _ _ _)
      | (with_reducible exact ih1 _ _ _)
      | (with_reducible exact LeO.refl _)
      | (with_reducible exact LeO.none _)
      | (with_reducible refine LeO.ite ?_ ?_)
      | (with_reducible refine LeO.bind ?_ (fun _ => ?_))
      | exact ih0 _ _ _
      | exact ih1 _ _ _
      | exact LeO.none _
      | refine LeO.ite ?_ ?_
      | refine LeO.bind ?_ (fun _ => ?_)
    · intro y0 y1 y2
      unfold name_Kind.j1
      repeat' first
      | (with_reducible exact ih0 _ _ _)
      | (with_reducible exact ih1 _ _ _)
      | (with_reducible exact LeO.refl _)
      | (with_reducible exact LeO.none _)
      | (with_reducible refine LeO.ite ?_ ?_)
      | (with_reducible refine LeO.bind ?_ (fun _ => ?_))
      | exact ih0 _ _ _
      | exact ih1 _ _ _
      | exact LeO.none _
      | refine LeO.ite ?_ ?_
      | refine LeO.bind ?_ (fun _ => ?_)
theorem name_Kind.mono : ∀ a0 k, LeO (name_Kind.f k a0) (name_Kind.f (k + 1) a0) := by
  intro a0 k
  obtain ⟨ih0, ih1⟩ := name_Kind.mono_l k
  unfold name_Kind.f
  repeat' first
      | (with_reducible exact ih0 _ _ _)
      | (with_reducible exact ih1 _ _ _)
      | (with_reducible exact LeO.refl _)
      | (with_reducible exact LeO.none _)
      | (with_reducible refine LeO.ite ?_ ?_)
      | (with_reducible refine LeO.bind ?_ (fun _ => ?_))
      | exact ih0 _ _ _
      | exact ih1 _ _ _
      | exact LeO.none _
      | refine LeO.ite ?_ ?_
      | refine LeO.bind ?_ (fun _ => ?_)
set_option maxHeartbeats 8000000 in
set_option maxRecDepth 100000 in
theorem name_Kind.calls (k : Nat) (a0 : ByteArray) (r : Int) (w : World) (h : name_Kind.f k a0 = some r) :
    Calls Try.prog 7 #[.string a0] w fun e w' => e = .returned (.int .i64 r) ∧ Below w.heap.size w w' := by
  have HB := Aside0.mk (Below.refl w.heap.size w)
  have H : ((name_shape.f a0).bind fun t101 => (if a0.toList = ([108, 101, 116] : List UInt8) then (name_Kind.j0 k t101 a0 (a0.toList == ([108, 101, 116] : List UInt8))) else (if a0.toList = ([105, 110] : List UInt8) then (name_Kind.j0 k t101 a0 (a0.toList == ([105, 110] : List UInt8))) else (if a0.toList = ([105, 102] : List UInt8) then (name_Kind.j0 k t101 a0 (a0.toList == ([105, 102] : List UInt8))) else (if a0.toList = ([116, 104, 101, 110] : List UInt8) then (name_Kind.j0 k t101 a0 (a0.toList == ([116, 104, 101, 110] : List UInt8))) else (name_Kind.j0 k t101 a0 (a0.toList == ([101, 108, 115, 101] : List UInt8)))))))) = some r := h
  clear h
  replace H := Option.bind_eq_some_iff.mp H
  obtain ⟨t101, A20, H⟩ := H
  replace H : (if a0.toList = ([108, 101, 116] : List UInt8) then (name_Kind.j0 k t101 a0 (a0.toList == ([108, 101, 116] : List UInt8))) else (if a0.toList = ([105, 110] : List UInt8) then (name_Kind.j0 k t101 a0 (a0.toList == ([105, 110] : List UInt8))) else (if a0.toList = ([105, 102] : List UInt8) then (name_Kind.j0 k t101 a0 (a0.toList == ([105, 102] : List UInt8))) else (if a0.toList = ([116, 104, 101, 110] : List UInt8) then (name_Kind.j0 k t101 a0 (a0.toList == ([116, 104, 101, 110] : List UInt8))) else (name_Kind.j0 k t101 a0 (a0.toList == ([101, 108, 115, 101] : List UInt8))))))) = some r := H
  have A2 := Aside0.mk A20
  clear A20
  have HC3 := Aside0.mk H
  clear H
  go_enter Try.func7, Try.ntmps7
  go_upto_if 7 with (first | ((with_reducible refine gate_callee (f := 19) rfl ?_); refine goesL_ (some 5) rfl rfl Try.func19 (by kernel_rfl) rfl #[.string a0] rfl (by (try simp only [List.map_toArray, List.map_cons, List.map_nil]); first | done | rfl | (simp only [List.length_drop, List.length_take]; rfl)) ?_; (with_reducible refine (name_shape.calls a0 t101 _ A2.out).mono ?_); rintro e w4 ⟨rfl, hb⟩; refine ⟨_, rfl, ?_⟩; have n0_ := Aside0.mk (below_step (by repeat (first | (with_reducible first | exact HB.out | apply below_alloc | apply pw_below_drewN | apply below_drew1) | exact HB.out)) hb); clear HB; have HB := n0_; clear n0_; (try clear hb); (try clear hb2); (try clear hk); (try clear hi)))
  (try simp only [Act.put, List.setIfInBounds_toArray, List.set_cons_zero, List.set_cons_succ])
  go_cut [7] (fun v7 wc => ∃ (kq : Nat) (x7_2 : Bool), v7 = .bool x7_2 ∧ Aside0 (name_Kind.j0 kq t101 a0 x7_2 = some r) ∧ Aside0 (kq ≤ k) ∧ Aside0 (Below w.heap.size w wc))
  case first =>
    have H := HC3.out
    clear HC3
    by_cases c5 : a0.toList = ([108, 101, 116] : List UInt8)
    · rw [if_pos c5] at H
      have c5b0 : (a0.toList == ([108, 101, 116] : List UInt8)) = true := beq_iff_eq.mpr c5
      have c5b1 : (a0.toList != ([108, 101, 116] : List UInt8)) = false := bne_eq_false_iff_eq.mpr c5
      clear c5
      (first | rw [c5b0] | (simp only [i64_w, i32_w]; rw [c5b0]) | skip)
      have H' := Aside0.mk H
      clear H
      go_wp2
      go_meet
      case rel => exact ⟨_, ((a0.toList == ([108, 101, 116] : List UInt8))), (by first | rfl | (simp; done) | (simp [*]; done)), H', ⟨by first | omega | exact Nat.le_refl _⟩, ⟨by repeat (first | (with_reducible first | exact HB.out | apply below_alloc | apply pw_below_drewN | apply below_drew1) | exact HB.out)⟩⟩
    · rw [if_neg c5] at H
      have c5b0 : (a0.toList == ([108, 101, 116] : List UInt8)) = false := beq_eq_false_iff_ne.mpr c5
      have c5b1 : (a0.toList != ([108, 101, 116] : List UInt8)) = true := bne_iff_ne.mpr c5
      (first | rw [c5b0] | (simp only [i64_w, i32_w]; rw [c5b0]) | skip)
      by_cases c6 : a0.toList = ([105, 110] : List UInt8)
      · rw [if_pos c6] at H
        have c6b0 : (a0.toList == ([105, 110] : List UInt8)) = true := beq_iff_eq.mpr c6
        have c6b1 : (a0.toList != ([105, 110] : List UInt8)) = false := bne_eq_false_iff_eq.mpr c6
        clear c6
        have H' := Aside0.mk H
        clear H
        go_wp2
        go_meet
        case rel => exact ⟨_, ((a0.toList == ([105, 110] : List UInt8))), (by first | rfl | (simp; done) | (simp [*]; done)), H', ⟨by first | omega | exact Nat.le_refl _⟩, ⟨by repeat (first | (with_reducible first | exact HB.out | apply below_alloc | apply pw_below_drewN | apply below_drew1) | exact HB.out)⟩⟩
      · rw [if_neg c6] at H
        have c6b0 : (a0.toList == ([105, 110] : List UInt8)) = false := beq_eq_false_iff_ne.mpr c6
        have c6b1 : (a0.toList != ([105, 110] : List UInt8)) = true := bne_iff_ne.mpr c6
        by_cases c7 : a0.toList = ([105, 102] : List UInt8)
        · rw [if_pos c7] at H
          have c7b0 : (a0.toList == ([105, 102] : List UInt8)) = true := beq_iff_eq.mpr c7
          have c7b1 : (a0.toList != ([105, 102] : List UInt8)) = false := bne_eq_false_iff_eq.mpr c7
          clear c7
          have H' := Aside0.mk H
          clear H
          go_wp2
          go_meet
          case rel => exact ⟨_, ((a0.toList == ([105, 102] : List UInt8))), (by first | rfl | (simp; done) | (simp [*]; done)), H', ⟨by first | omega | exact Nat.le_refl _⟩, ⟨by repeat (first | (with_reducible first | exact HB.out | apply below_alloc | apply pw_below_drewN | apply below_drew1) | exact HB.out)⟩⟩
        · rw [if_neg c7] at H
          have c7b0 : (a0.toList == ([105, 102] : List UInt8)) = false := beq_eq_false_iff_ne.mpr c7
          have c7b1 : (a0.toList != ([105, 102] : List UInt8)) = true := bne_iff_ne.mpr c7
          by_cases c8 : a0.toList = ([116, 104, 101, 110] : List UInt8)
          · rw [if_pos c8] at H
            have c8b0 : (a0.toList == ([116, 104, 101, 110] : List UInt8)) = true := beq_iff_eq.mpr c8
            have c8b1 : (a0.toList != ([116, 104, 101, 110] : List UInt8)) = false := bne_eq_false_iff_eq.mpr c8
            clear c8
            have H' := Aside0.mk H
            clear H
            go_wp2
            go_meet
            case rel => exact ⟨_, ((a0.toList == ([116, 104, 101, 110] : List UInt8))), (by first | rfl | (simp; done) | (simp [*]; done)), H', ⟨by first | omega | exact Nat.le_refl _⟩, ⟨by repeat (first | (with_reducible first | exact HB.out | apply below_alloc | apply pw_below_drewN | apply below_drew1) | exact HB.out)⟩⟩
          · rw [if_neg c8] at H
            have c8b0 : (a0.toList == ([116, 104, 101, 110] : List UInt8)) = false := beq_eq_false_iff_ne.mpr c8
            have c8b1 : (a0.toList != ([116, 104, 101, 110] : List UInt8)) = true := bne_iff_ne.mpr c8
            have H' := Aside0.mk H
            clear H
            go_wp2
            go_meet
            case rel => exact ⟨_, ((a0.toList == ([101, 108, 115, 101] : List UInt8))), (by first | rfl | (simp; done) | (simp [*]; done)), H', ⟨by first | omega | exact Nat.le_refl _⟩, ⟨by repeat (first | (with_reducible first | exact HB.out | apply below_alloc | apply pw_below_drewN | apply below_drew1) | exact HB.out)⟩⟩
  case rest =>
    clear HC3
    try clear c1
    try clear p2
    try clear c5
    try clear c5b0
    try clear c5b1
    try clear c6
    try clear c6b0
    try clear c6b1
    try clear c7
    try clear c7b0
    try clear c7b1
    try clear c8
    try clear c8b0
    try clear c8b1
    obtain ⟨kq, x7_2, rfl, HA, HJ2, HB⟩ := hcut
    cases kq with
    | zero => exact absurd HA.out (by simp [name_Kind.j0])
    | succ kj2 =>
      have H := HA.out
      clear HA
      simp only [name_Kind.j0] at H
      by_cases c9 : x7_2 = true
      · subst c9
        have H1 : (some 3) = some r := by rw [if_pos rfl] at H; exact H
        clear H
        have H := H1
        clear H1
        obtain rfl := Option.some.inj H
        go_wp2
        go_ret
        exact ⟨by first | rfl | (simp [errW_none, errW_some] <;> rfl) | (simp [*, errW_none, errW_some] <;> rfl), by repeat (first | (with_reducible first | exact HB.out | apply below_alloc | apply pw_below_drewN | apply below_drew1) | exact HB.out)⟩
      · replace c9 := Bool.eq_false_iff.mpr c9
        subst c9
        have H1 : (if a0.toList = ([102, 110] : List UInt8) then (name_Kind.j1 kj2 t101 a0 (a0.toList == ([102, 110] : List UInt8))) else (if a0.toList = ([99, 97, 108, 108] : List UInt8) then (name_Kind.j1 kj2 t101 a0 (a0.toList == ([99, 97, 108, 108] : List UInt8))) else (if a0.toList = ([100, 101, 102] : List UInt8) then (name_Kind.j1 kj2 t101 a0 (a0.toList == ([100, 101, 102] : List UInt8))) else (if a0.toList = ([116, 114, 117, 101] : List UInt8) then (name_Kind.j1 kj2 t101 a0 (a0.toList == ([116, 114, 117, 101] : List UInt8))) else (name_Kind.j1 kj2 t101 a0 (a0.toList == ([102, 97, 108, 115, 101] : List UInt8))))))) = some r := by rw [if_neg (show ¬ (false = true) by decide)] at H; exact H
        clear H
        have H := H1
        clear H1
        have HC10 := Aside0.mk H
        clear H
        go_upto_if 13 with (fail)
        go_cut [13] (fun v13 wc => ∃ (kq : Nat) (x13_9 : Bool), v13 = .bool x13_9 ∧ Aside0 (name_Kind.j1 kq t101 a0 x13_9 = some r) ∧ Aside0 (kq ≤ kj2) ∧ Aside0 (Below w.heap.size w wc))
        case first =>
          have H := HC10.out
          clear HC10
          by_cases c11 : a0.toList = ([102, 110] : List UInt8)
          · rw [if_pos c11] at H
            have c11b0 : (a0.toList == ([102, 110] : List UInt8)) = true := beq_iff_eq.mpr c11
            have c11b1 : (a0.toList != ([102, 110] : List UInt8)) = false := bne_eq_false_iff_eq.mpr c11
            clear c11
            (first | rw [c11b0] | (simp only [i64_w, i32_w]; rw [c11b0]) | skip)
            have H' := Aside0.mk H
            clear H
            go_wp2
            go_meet
            case rel => exact ⟨_, ((a0.toList == ([102, 110] : List UInt8))), (by first | rfl | (simp; done) | (simp [*]; done)), H', ⟨by have := HJ2.out; first | omega | exact Nat.le_refl _⟩, ⟨by repeat (first | (with_reducible first | exact HB.out | apply below_alloc | apply pw_below_drewN | apply below_drew1) | exact HB.out)⟩⟩
          · rw [if_neg c11] at H
            have c11b0 : (a0.toList == ([102, 110] : List UInt8)) = false := beq_eq_false_iff_ne.mpr c11
            have c11b1 : (a0.toList != ([102, 110] : List UInt8)) = true := bne_iff_ne.mpr c11
            (first | rw [c11b0] | (simp only [i64_w, i32_w]; rw [c11b0]) | skip)
            by_cases c12 : a0.toList = ([99, 97, 108, 108] : List UInt8)
            · rw [if_pos c12] at H
              have c12b0 : (a0.toList == ([99, 97, 108, 108] : List UInt8)) = true := beq_iff_eq.mpr c12
              have c12b1 : (a0.toList != ([99, 97, 108, 108] : List UInt8)) = false := bne_eq_false_iff_eq.mpr c12
              clear c12
              have H' := Aside0.mk H
              clear H
              go_wp2
              go_meet
              case rel => exact ⟨_, ((a0.toList == ([99, 97, 108, 108] : List UInt8))), (by first | rfl | (simp; done) | (simp [*]; done)), H', ⟨by have := HJ2.out; first | omega | exact Nat.le_refl _⟩, ⟨by repeat (first | (with_reducible first | exact HB.out | apply below_alloc | apply pw_below_drewN | apply below_drew1) | exact HB.out)⟩⟩
            · rw [if_neg c12] at H
              have c12b0 : (a0.toList == ([99, 97, 108, 108] : List UInt8)) = false := beq_eq_false_iff_ne.mpr c12
              have c12b1 : (a0.toList != ([99, 97, 108, 108] : List UInt8)) = true := bne_iff_ne.mpr c12
              by_cases c13 : a0.toList = ([100, 101, 102] : List UInt8)
              · rw [if_pos c13] at H
                have c13b0 : (a0.toList == ([100, 101, 102] : List UInt8)) = true := beq_iff_eq.mpr c13
                have c13b1 : (a0.toList != ([100, 101, 102] : List UInt8)) = false := bne_eq_false_iff_eq.mpr c13
                clear c13
                have H' := Aside0.mk H
                clear H
                go_wp2
                go_meet
                case rel => exact ⟨_, ((a0.toList == ([100, 101, 102] : List UInt8))), (by first | rfl | (simp; done) | (simp [*]; done)), H', ⟨by have := HJ2.out; first | omega | exact Nat.le_refl _⟩, ⟨by repeat (first | (with_reducible first | exact HB.out | apply below_alloc | apply pw_below_drewN | apply below_drew1) | exact HB.out)⟩⟩
              · rw [if_neg c13] at H
                have c13b0 : (a0.toList == ([100, 101, 102] : List UInt8)) = false := beq_eq_false_iff_ne.mpr c13
                have c13b1 : (a0.toList != ([100, 101, 102] : List UInt8)) = true := bne_iff_ne.mpr c13
                by_cases c14 : a0.toList = ([116, 114, 117, 101] : List UInt8)
                · rw [if_pos c14] at H
                  have c14b0 : (a0.toList == ([116, 114, 117, 101] : List UInt8)) = true := beq_iff_eq.mpr c14
                  have c14b1 : (a0.toList != ([116, 114, 117, 101] : List UInt8)) = false := bne_eq_false_iff_eq.mpr c14
                  clear c14
                  have H' := Aside0.mk H
                  clear H
                  go_wp2
                  go_meet
                  case rel => exact ⟨_, ((a0.toList == ([116, 114, 117, 101] : List UInt8))), (by first | rfl | (simp; done) | (simp [*]; done)), H', ⟨by have := HJ2.out; first | omega | exact Nat.le_refl _⟩, ⟨by repeat (first | (with_reducible first | exact HB.out | apply below_alloc | apply pw_below_drewN | apply below_drew1) | exact HB.out)⟩⟩
                · rw [if_neg c14] at H
                  have c14b0 : (a0.toList == ([116, 114, 117, 101] : List UInt8)) = false := beq_eq_false_iff_ne.mpr c14
                  have c14b1 : (a0.toList != ([116, 114, 117, 101] : List UInt8)) = true := bne_iff_ne.mpr c14
                  have H' := Aside0.mk H
                  clear H
                  go_wp2
                  go_meet
                  case rel => exact ⟨_, ((a0.toList == ([102, 97, 108, 115, 101] : List UInt8))), (by first | rfl | (simp; done) | (simp [*]; done)), H', ⟨by have := HJ2.out; first | omega | exact Nat.le_refl _⟩, ⟨by repeat (first | (with_reducible first | exact HB.out | apply below_alloc | apply pw_below_drewN | apply below_drew1) | exact HB.out)⟩⟩
        case rest =>
          clear HC10
          try clear c1
          try clear p2
          try clear c5
          try clear c5b0
          try clear c5b1
          try clear c6
          try clear c6b0
          try clear c6b1
          try clear c7
          try clear c7b0
          try clear c7b1
          try clear c8
          try clear c8b0
          try clear c8b1
          try clear c9
          try clear c11
          try clear c11b0
          try clear c11b1
          try clear c12
          try clear c12b0
          try clear c12b1
          try clear c13
          try clear c13b0
          try clear c13b1
          try clear c14
          try clear c14b0
          try clear c14b1
          try clear p2
          obtain ⟨kq, x13_9, rfl, HA, HJ9, HB⟩ := hcut
          cases kq with
          | zero => exact absurd HA.out (by simp [name_Kind.j1])
          | succ kj9 =>
            have H := HA.out
            clear HA
            simp only [name_Kind.j1] at H
            by_cases c15 : x13_9 = true
            · subst c15
              have H1 : (some 3) = some r := by rw [if_pos rfl] at H; exact H
              clear H
              have H := H1
              clear H1
              obtain rfl := Option.some.inj H
              go_wp2
              go_ret
              exact ⟨by first | rfl | (simp [errW_none, errW_some] <;> rfl) | (simp [*, errW_none, errW_some] <;> rfl), by repeat (first | (with_reducible first | exact HB.out | apply below_alloc | apply pw_below_drewN | apply below_drew1) | exact HB.out)⟩
            · replace c15 := Bool.eq_false_iff.mpr c15
              subst c15
              have H1 : (if a0.toList = ([73, 110, 116] : List UInt8) then (some 4) else (if a0.toList = ([66, 111, 111, 108] : List UInt8) then (some 4) else (if a0.toList = ([83, 116, 114, 105, 110, 103] : List UInt8) then (some 4) else (if a0.toList = ([84, 111, 112] : List UInt8) then (some 4) else (some t101))))) = some r := by rw [if_neg (show ¬ (false = true) by decide)] at H; exact H
              clear H
              have H := H1
              clear H1
              by_cases c16 : a0.toList = ([73, 110, 116] : List UInt8)
              · rw [if_pos c16] at H
                have c16b0 : (a0.toList == ([73, 110, 116] : List UInt8)) = true := beq_iff_eq.mpr c16
                have c16b1 : (a0.toList != ([73, 110, 116] : List UInt8)) = false := bne_eq_false_iff_eq.mpr c16
                clear c16
                obtain rfl := Option.some.inj H
                go_wp2
                go_ret
                exact ⟨by first | rfl | (simp [errW_none, errW_some] <;> rfl) | (simp [*, errW_none, errW_some] <;> rfl), by repeat (first | (with_reducible first | exact HB.out | apply below_alloc | apply pw_below_drewN | apply below_drew1) | exact HB.out)⟩
              · rw [if_neg c16] at H
                have c16b0 : (a0.toList == ([73, 110, 116] : List UInt8)) = false := beq_eq_false_iff_ne.mpr c16
                have c16b1 : (a0.toList != ([73, 110, 116] : List UInt8)) = true := bne_iff_ne.mpr c16
                by_cases c17 : a0.toList = ([66, 111, 111, 108] : List UInt8)
                · rw [if_pos c17] at H
                  have c17b0 : (a0.toList == ([66, 111, 111, 108] : List UInt8)) = true := beq_iff_eq.mpr c17
                  have c17b1 : (a0.toList != ([66, 111, 111, 108] : List UInt8)) = false := bne_eq_false_iff_eq.mpr c17
                  clear c17
                  obtain rfl := Option.some.inj H
                  go_wp2
                  go_ret
                  exact ⟨by first | rfl | (simp [errW_none, errW_some] <;> rfl) | (simp [*, errW_none, errW_some] <;> rfl), by repeat (first | (with_reducible first | exact HB.out | apply below_alloc | apply pw_below_drewN | apply below_drew1) | exact HB.out)⟩
                · rw [if_neg c17] at H
                  have c17b0 : (a0.toList == ([66, 111, 111, 108] : List UInt8)) = false := beq_eq_false_iff_ne.mpr c17
                  have c17b1 : (a0.toList != ([66, 111, 111, 108] : List UInt8)) = true := bne_iff_ne.mpr c17
                  by_cases c18 : a0.toList = ([83, 116, 114, 105, 110, 103] : List UInt8)
                  · rw [if_pos c18] at H
                    have c18b0 : (a0.toList == ([83, 116, 114, 105, 110, 103] : List UInt8)) = true := beq_iff_eq.mpr c18
                    have c18b1 : (a0.toList != ([83, 116, 114, 105, 110, 103] : List UInt8)) = false := bne_eq_false_iff_eq.mpr c18
                    clear c18
                    obtain rfl := Option.some.inj H
                    go_wp2
                    go_ret
                    exact ⟨by first | rfl | (simp [errW_none, errW_some] <;> rfl) | (simp [*, errW_none, errW_some] <;> rfl), by repeat (first | (with_reducible first | exact HB.out | apply below_alloc | apply pw_below_drewN | apply below_drew1) | exact HB.out)⟩
                  · rw [if_neg c18] at H
                    have c18b0 : (a0.toList == ([83, 116, 114, 105, 110, 103] : List UInt8)) = false := beq_eq_false_iff_ne.mpr c18
                    have c18b1 : (a0.toList != ([83, 116, 114, 105, 110, 103] : List UInt8)) = true := bne_iff_ne.mpr c18
                    by_cases c19 : a0.toList = ([84, 111, 112] : List UInt8)
                    · rw [if_pos c19] at H
                      have c19b0 : (a0.toList == ([84, 111, 112] : List UInt8)) = true := beq_iff_eq.mpr c19
                      have c19b1 : (a0.toList != ([84, 111, 112] : List UInt8)) = false := bne_eq_false_iff_eq.mpr c19
                      clear c19
                      obtain rfl := Option.some.inj H
                      go_wp2
                      go_ret
                      exact ⟨by first | rfl | (simp [errW_none, errW_some] <;> rfl) | (simp [*, errW_none, errW_some] <;> rfl), by repeat (first | (with_reducible first | exact HB.out | apply below_alloc | apply pw_below_drewN | apply below_drew1) | exact HB.out)⟩
                    · rw [if_neg c19] at H
                      have c19b0 : (a0.toList == ([84, 111, 112] : List UInt8)) = false := beq_eq_false_iff_ne.mpr c19
                      have c19b1 : (a0.toList != ([84, 111, 112] : List UInt8)) = true := bne_iff_ne.mpr c19
                      obtain rfl := Option.some.inj H
                      go_wp2
                      go_ret
                      exact ⟨by first | rfl | (simp [errW_none, errW_some] <;> rfl) | (simp [*, errW_none, errW_some] <;> rfl), by repeat (first | (with_reducible first | exact HB.out | apply below_alloc | apply pw_below_drewN | apply below_drew1) | exact HB.out)⟩

/-! ### name_Fine: function 8 -/
def name_Fine.f (k : Nat) (a0 : ByteArray) : Option (Bool) := (name_Kind.f k a0).bind fun t102 => (some (t102 == 1))
theorem name_Fine.mono : ∀ a0 k, LeO (name_Fine.f k a0) (name_Fine.f (k + 1) a0) := by
  intro a0 k
  unfold name_Fine.f
  repeat' first
      | (with_reducible exact name_Kind.mono _ _)
      | (with_reducible exact LeO.refl _)
      | (with_reducible exact LeO.none _)
      | (with_reducible refine LeO.ite ?_ ?_)
      | (with_reducible refine LeO.bind ?_ (fun _ => ?_))
      | exact name_Kind.mono _ _
      | exact LeO.none _
      | refine LeO.ite ?_ ?_
      | refine LeO.bind ?_ (fun _ => ?_)
set_option maxHeartbeats 8000000 in
set_option maxRecDepth 100000 in
theorem name_Fine.calls (k : Nat) (a0 : ByteArray) (r : Bool) (w : World) (h : name_Fine.f k a0 = some r) :
    Calls Try.prog 8 #[.string a0] w fun e w' => e = .returned (.bool r) ∧ Below w.heap.size w w' := by
  have HB := Aside0.mk (Below.refl w.heap.size w)
  have H : ((name_Kind.f k a0).bind fun t102 => (some (t102 == 1))) = some r := h
  clear h
  replace H := Option.bind_eq_some_iff.mp H
  obtain ⟨t102, A20, H⟩ := H
  replace H : (some (t102 == 1)) = some r := H
  have A2 := Aside0.mk A20
  clear A20
  obtain rfl := Option.some.inj H
  go_enter Try.func8, Try.ntmps8
  go_wp2_with (first | ((with_reducible refine gate_callee (f := 7) rfl ?_); refine goesL_ (some 4) rfl rfl Try.func7 (by kernel_rfl) rfl #[.string a0] rfl (by (try simp only [List.map_toArray, List.map_cons, List.map_nil]); first | done | rfl | (simp only [List.length_drop, List.length_take]; rfl)) ?_; (with_reducible refine (name_Kind.calls k a0 t102 _ A2.out).mono ?_); rintro e w3 ⟨rfl, hb⟩; refine ⟨_, rfl, ?_⟩; have n0_ := Aside0.mk (below_step (by repeat (first | (with_reducible first | exact HB.out | apply below_alloc | apply pw_below_drewN | apply below_drew1) | exact HB.out)) hb); clear HB; have HB := n0_; clear n0_; (try clear hb); (try clear hb2); (try clear hk); (try clear hi)))
  go_ret
  exact ⟨by first | rfl | (simp [errW_none, errW_some] <;> rfl) | (simp [*, errW_none, errW_some] <;> rfl), by repeat (first | (with_reducible first | exact HB.out | apply below_alloc | apply pw_below_drewN | apply below_drew1) | exact HB.out)⟩

/-! ### name_Var: function 9 -/
def name_Var.f (k : Nat) (a0 : ByteArray) : Option (Bool) := (name_Kind.f k a0).bind fun t103 => (some (t103 == 2))
theorem name_Var.mono : ∀ a0 k, LeO (name_Var.f k a0) (name_Var.f (k + 1) a0) := by
  intro a0 k
  unfold name_Var.f
  repeat' first
      | (with_reducible exact name_Kind.mono _ _)
      | (with_reducible exact LeO.refl _)
      | (with_reducible exact LeO.none _)
      | (with_reducible refine LeO.ite ?_ ?_)
      | (with_reducible refine LeO.bind ?_ (fun _ => ?_))
      | exact name_Kind.mono _ _
      | exact LeO.none _
      | refine LeO.ite ?_ ?_
      | refine LeO.bind ?_ (fun _ => ?_)
set_option maxHeartbeats 8000000 in
set_option maxRecDepth 100000 in
theorem name_Var.calls (k : Nat) (a0 : ByteArray) (r : Bool) (w : World) (h : name_Var.f k a0 = some r) :
    Calls Try.prog 9 #[.string a0] w fun e w' => e = .returned (.bool r) ∧ Below w.heap.size w w' := by
  have HB := Aside0.mk (Below.refl w.heap.size w)
  have H : ((name_Kind.f k a0).bind fun t103 => (some (t103 == 2))) = some r := h
  clear h
  replace H := Option.bind_eq_some_iff.mp H
  obtain ⟨t103, A20, H⟩ := H
  replace H : (some (t103 == 2)) = some r := H
  have A2 := Aside0.mk A20
  clear A20
  obtain rfl := Option.some.inj H
  go_enter Try.func9, Try.ntmps9
  go_wp2_with (first | ((with_reducible refine gate_callee (f := 7) rfl ?_); refine goesL_ (some 4) rfl rfl Try.func7 (by kernel_rfl) rfl #[.string a0] rfl (by (try simp only [List.map_toArray, List.map_cons, List.map_nil]); first | done | rfl | (simp only [List.length_drop, List.length_take]; rfl)) ?_; (with_reducible refine (name_Kind.calls k a0 t103 _ A2.out).mono ?_); rintro e w3 ⟨rfl, hb⟩; refine ⟨_, rfl, ?_⟩; have n0_ := Aside0.mk (below_step (by repeat (first | (with_reducible first | exact HB.out | apply below_alloc | apply pw_below_drewN | apply below_drew1) | exact HB.out)) hb); clear HB; have HB := n0_; clear n0_; (try clear hb); (try clear hb2); (try clear hk); (try clear hi)))
  go_ret
  exact ⟨by first | rfl | (simp [errW_none, errW_some] <;> rfl) | (simp [*, errW_none, errW_some] <;> rfl), by repeat (first | (with_reducible first | exact HB.out | apply below_alloc | apply pw_below_drewN | apply below_drew1) | exact HB.out)⟩

/-! ### slices_Index_string_string: function 25 -/
def slices_Index_string_string.l0 : Nat → List ByteArray → ByteArray → Int → Int → Option (Int)
  | 0, _, _, _, _ => none
  | k + 1, x0, x1, x7, x8 => if x8 < x7 then (if 0 ≤ x8 then (if x8 < (x0.length : Int) then (if x1.toList = (rdOf ByteArray.empty x0 x8).toList then (some x8) else (slices_Index_string_string.l0 k x0 x1 x7 (wrap64 (x8 + 1)))) else (none)) else (none)) else (some (-1))
def slices_Index_string_string.f (k : Nat) (l0 : List ByteArray) (a1 : ByteArray) : Option (Int) := slices_Index_string_string.l0 k l0 a1 (l0.length : Int) 0
theorem slices_Index_string_string.mono_l : ∀ k, (∀ y0 y1 y2 y3, LeO (slices_Index_string_string.l0 k y0 y1 y2 y3) (slices_Index_string_string.l0 (k + 1) y0 y1 y2 y3))
  | 0 => fun _ _ _ _ r h => by simp [slices_Index_string_string.l0] at h
  | k + 1 => by
    have ih0 := slices_Index_string_string.mono_l k
    · intro y0 y1 y2 y3
      unfold slices_Index_string_string.l0
      repeat' first
      | (with_reducible exact ih0 _ _ _ _)
      | (with_reducible exact LeO.refl _)
      | (with_reducible exact LeO.none _)
      | (with_reducible refine LeO.ite ?_ ?_)
      | (with_reducible refine LeO.bind ?_ (fun _ => ?_))
      | exact ih0 _ _ _ _
      | exact LeO.none _
      | refine LeO.ite ?_ ?_
      | refine LeO.bind ?_ (fun _ => ?_)
theorem slices_Index_string_string.mono : ∀ a0 a1 k, LeO (slices_Index_string_string.f k a0 a1) (slices_Index_string_string.f (k + 1) a0 a1) := by
  intro a0 a1 k
  have ih0 := slices_Index_string_string.mono_l k
  unfold slices_Index_string_string.f
  repeat' first
      | (with_reducible exact ih0 _ _ _ _)
      | (with_reducible exact LeO.refl _)
      | (with_reducible exact LeO.none _)
      | (with_reducible refine LeO.ite ?_ ?_)
      | (with_reducible refine LeO.bind ?_ (fun _ => ?_))
      | exact ih0 _ _ _ _
      | exact LeO.none _
      | refine LeO.ite ?_ ?_
      | refine LeO.bind ?_ (fun _ => ?_)
set_option maxHeartbeats 8000000 in
set_option maxRecDepth 100000 in
theorem slices_Index_string_string.calls (k : Nat) (A0 : Option Addr) (c0 : Nat) (l0 : List ByteArray) (a1 : ByteArray) (r : Int) (w : World) (hr0 : Kd.C Kd.string w A0 l0.length l0) (hc0 : l0.length ≤ c0) (h : slices_Index_string_string.f k l0 a1 = some r) :
    Calls Try.prog 25 #[.slice A0 l0.length c0, .string a1] w fun e w' => e = .returned (.int .i64 r) ∧ Drawn0 w w' := by
  have HR0 := Aside0.mk hr0
  have HC0 := Aside0.mk hc0
  clear hr0 hc0
  have H : (slices_Index_string_string.l0 k l0 a1 (l0.length : Int) 0) = some r := h
  clear h
  have H' := Aside0.mk H
  clear H
  go_enter Try.func25, Try.ntmps25
  go_wp2
  go_loopg [8] k (fun kq v8 w' => ∃ (x8_1 : Int), v8 = .int .i64 x8_1 ∧ Aside0 (slices_Index_string_string.l0 kq l0 a1 (l0.length : Int) x8_1 = some r) ∧ Aside0 (kq ≤ k) ∧ Drawn0 w w')
  case atStart => exact ⟨(0), (by first | rfl | (simp; done) | (simp [*]; done)), H', ⟨Nat.le_refl _⟩, by repeat (first | exact Drawn0.refl _ | apply Drawn0.step)⟩
  case round =>
    clear H'
    try clear c2
    try clear p2
    obtain ⟨x8_1, rfl, HA, HK1, ⟨m1, rfl⟩⟩ := hrel
    cases gk with
    | zero => exact absurd HA.out (by simp [slices_Index_string_string.l0])
    | succ k1 =>
      have H := HA.out
      clear HA
      simp only [slices_Index_string_string.l0] at H
      by_cases c3 : x8_1 < (l0.length : Int)
      · rw [if_pos c3] at H
        have c3b0 : decide (x8_1 < (l0.length : Int)) = true := decide_eq_true c3
        clear c3
        by_cases c4 : 0 ≤ x8_1
        · rw [if_pos c4] at H
          have c4b0 : decide (0 ≤ x8_1) = true := decide_eq_true c4
          clear c4
          by_cases c5 : x8_1 < (l0.length : Int)
          · rw [if_pos c5] at H
            have c5b0 : decide (x8_1 < (l0.length : Int)) = true := decide_eq_true c5
            clear c5
            by_cases c6 : a1.toList = (rdOf ByteArray.empty l0 x8_1).toList
            · rw [if_pos c6] at H
              have c6b0 : (a1.toList == (rdOf ByteArray.empty l0 x8_1).toList) = true := beq_iff_eq.mpr c6
              have c6b1 : (a1.toList != (rdOf ByteArray.empty l0 x8_1).toList) = false := bne_eq_false_iff_eq.mpr c6
              clear c6
              obtain rfl := Option.some.inj H
              have p104 : 0 ≤ (x8_1 : Int) := of_decide_eq_true (by first | (with_reducible assumption) | assumption)
              have q104 : x8_1 < (l0.length : Int) := of_decide_eq_true (by first | (with_reducible assumption) | assumption)
              obtain ⟨ad104, e104, hx104_0⟩ := Kd.at_string HR0.out x8_1 p104 q104
              cases e104
              replace p104 := eq_true p104
              replace q104 := eq_true q104
              go_wp2
              go_ret
              exact ⟨by first | rfl | (simp; done) | (simp [*]; done), by repeat (first | exact Drawn0.refl _ | apply Drawn0.step)⟩
            · rw [if_neg c6] at H
              have c6b0 : (a1.toList == (rdOf ByteArray.empty l0 x8_1).toList) = false := beq_eq_false_iff_ne.mpr c6
              have c6b1 : (a1.toList != (rdOf ByteArray.empty l0 x8_1).toList) = true := bne_iff_ne.mpr c6
              have H' := Aside0.mk H
              clear H
              have p104 : 0 ≤ (x8_1 : Int) := of_decide_eq_true (by first | (with_reducible assumption) | assumption)
              have q104 : x8_1 < (l0.length : Int) := of_decide_eq_true (by first | (with_reducible assumption) | assumption)
              obtain ⟨ad104, e104, hx104_0⟩ := Kd.at_string HR0.out x8_1 p104 q104
              cases e104
              replace p104 := eq_true p104
              replace q104 := eq_true q104
              go_wp2
              go_roundg k1
              case measure => have := HK1.out; omega
              case rel => exact ⟨(wrap64 (x8_1 + 1)), (by first | rfl | (simp; done) | (simp [*]; done)), H', ⟨by have := HK1.out; omega⟩, by repeat (first | exact Drawn0.refl _ | apply Drawn0.step)⟩
          · rw [if_neg c5] at H
            exact absurd H (by simp)
        · rw [if_neg c4] at H
          exact absurd H (by simp)
      · rw [if_neg c3] at H
        have c3b0 : decide (x8_1 < (l0.length : Int)) = false := decide_eq_false c3
        clear c3
        obtain rfl := Option.some.inj H
        go_wp2
        go_ret
        exact ⟨by first | rfl | (simp; done) | (simp [*]; done), by repeat (first | exact Drawn0.refl _ | apply Drawn0.step)⟩

/-! ### slices_Contains_string_string: function 21 -/
def slices_Contains_string_string.f (k : Nat) (l0 : List ByteArray) (a1 : ByteArray) : Option (Bool) := (slices_Index_string_string.f k l0 a1).bind fun t105 => (some (decide (t105 ≥ 0)))
theorem slices_Contains_string_string.mono : ∀ a0 a1 k, LeO (slices_Contains_string_string.f k a0 a1) (slices_Contains_string_string.f (k + 1) a0 a1) := by
  intro a0 a1 k
  unfold slices_Contains_string_string.f
  repeat' first
      | (with_reducible exact slices_Index_string_string.mono _ _ _)
      | (with_reducible exact LeO.refl _)
      | (with_reducible exact LeO.none _)
      | (with_reducible refine LeO.ite ?_ ?_)
      | (with_reducible refine LeO.bind ?_ (fun _ => ?_))
      | exact slices_Index_string_string.mono _ _ _
      | exact LeO.none _
      | refine LeO.ite ?_ ?_
      | refine LeO.bind ?_ (fun _ => ?_)
set_option maxHeartbeats 8000000 in
set_option maxRecDepth 100000 in
theorem slices_Contains_string_string.calls (k : Nat) (A0 : Option Addr) (c0 : Nat) (l0 : List ByteArray) (a1 : ByteArray) (r : Bool) (w : World) (hr0 : Kd.C Kd.string w A0 l0.length l0) (hc0 : l0.length ≤ c0) (h : slices_Contains_string_string.f k l0 a1 = some r) :
    Calls Try.prog 21 #[.slice A0 l0.length c0, .string a1] w fun e w' => e = .returned (.bool r) ∧ Drawn0 w w' := by
  have HR0 := Aside0.mk hr0
  have HC0 := Aside0.mk hc0
  clear hr0 hc0
  have H : ((slices_Index_string_string.f k l0 a1).bind fun t105 => (some (decide (t105 ≥ 0)))) = some r := h
  clear h
  replace H := Option.bind_eq_some_iff.mp H
  obtain ⟨t105, A30, H⟩ := H
  replace H : (some (decide (t105 ≥ 0))) = some r := H
  have A3 := Aside0.mk A30
  clear A30
  obtain rfl := Option.some.inj H
  go_enter Try.func21, Try.ntmps21
  go_wp2_with (first | ((with_reducible refine gate_callee (f := 25) rfl ?_); refine goesL_ (some 7) rfl rfl Try.func25 (by kernel_rfl) rfl #[.slice A0 l0.length c0, .string a1] rfl (by (try simp only [List.map_toArray, List.map_cons, List.map_nil]); first | done | rfl | (simp only [List.length_drop, List.length_take]; rfl)) ?_; (with_reducible refine (slices_Index_string_string.calls k _ _ l0 a1 t105 _ ?side1 ?side2 A3.out).mono ?_); (case side1 => repeat (first | exact HR0.out | (with_reducible refine Kd.C_alloc ?_ _) | (with_reducible refine Kd.C_drewN ?_ _) | (with_reducible refine Kd.C_drew ?_))); (case side2 => exact HC0.out); rintro e w' ⟨rfl, ⟨nd, rfl⟩⟩; refine ⟨_, rfl, ?_⟩))
  go_ret
  exact ⟨by first | rfl | (simp; done) | (simp [*]; done), by repeat (first | exact Drawn0.refl _ | apply Drawn0.step)⟩

/-! ### name_Fresh: function 13 -/
def name_Fresh.f (k : Nat) (l0 : List ByteArray) (a1 : ByteArray) : Option (Bool) := (slices_Contains_string_string.f k l0 a1).bind fun t106 => (some (!t106))
theorem name_Fresh.mono : ∀ a0 a1 k, LeO (name_Fresh.f k a0 a1) (name_Fresh.f (k + 1) a0 a1) := by
  intro a0 a1 k
  unfold name_Fresh.f
  repeat' first
      | (with_reducible exact slices_Contains_string_string.mono _ _ _)
      | (with_reducible exact LeO.refl _)
      | (with_reducible exact LeO.none _)
      | (with_reducible refine LeO.ite ?_ ?_)
      | (with_reducible refine LeO.bind ?_ (fun _ => ?_))
      | exact slices_Contains_string_string.mono _ _ _
      | exact LeO.none _
      | refine LeO.ite ?_ ?_
      | refine LeO.bind ?_ (fun _ => ?_)
set_option maxHeartbeats 8000000 in
set_option maxRecDepth 100000 in
theorem name_Fresh.calls (k : Nat) (A0 : Option Addr) (c0 : Nat) (l0 : List ByteArray) (a1 : ByteArray) (r : Bool) (w : World) (hr0 : Kd.C Kd.string w A0 l0.length l0) (hc0 : l0.length ≤ c0) (h : name_Fresh.f k l0 a1 = some r) :
    Calls Try.prog 13 #[.slice A0 l0.length c0, .string a1] w fun e w' => e = .returned (.bool r) ∧ Drawn0 w w' := by
  have HR0 := Aside0.mk hr0
  have HC0 := Aside0.mk hc0
  clear hr0 hc0
  have H : ((slices_Contains_string_string.f k l0 a1).bind fun t106 => (some (!t106))) = some r := h
  clear h
  replace H := Option.bind_eq_some_iff.mp H
  obtain ⟨t106, A30, H⟩ := H
  replace H : (some (!t106)) = some r := H
  have A3 := Aside0.mk A30
  clear A30
  obtain rfl := Option.some.inj H
  go_enter Try.func13, Try.ntmps13
  go_wp2_with (first | ((with_reducible refine gate_callee (f := 21) rfl ?_); refine goesL_ (some 7) rfl rfl Try.func21 (by kernel_rfl) rfl #[.slice A0 l0.length c0, .string a1] rfl (by (try simp only [List.map_toArray, List.map_cons, List.map_nil]); first | done | rfl | (simp only [List.length_drop, List.length_take]; rfl)) ?_; (with_reducible refine (slices_Contains_string_string.calls k _ _ l0 a1 t106 _ ?side1 ?side2 A3.out).mono ?_); (case side1 => repeat (first | exact HR0.out | (with_reducible refine Kd.C_alloc ?_ _) | (with_reducible refine Kd.C_drewN ?_ _) | (with_reducible refine Kd.C_drew ?_))); (case side2 => exact HC0.out); rintro e w' ⟨rfl, ⟨nd, rfl⟩⟩; refine ⟨_, rfl, ?_⟩))
  go_ret
  exact ⟨by first | rfl | (simp; done) | (simp [*]; done), by repeat (first | exact Drawn0.refl _ | apply Drawn0.step)⟩

end Go.Proofs.Ytophddbbeechkaa.PNameOnce
