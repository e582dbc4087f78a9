-- Written by a patched print (wip/mkprint.py), for this claim.
import Derived.Test.YtfmbdmkiamedeaaDoorPScenePrintsx0
namespace Go.Proofs.YtfmbdmkiamedeaaDoor.PScenePrints
open Go.RowKit Go.Proofs.YtfmbdmkiamedeaaDoorW.PrintWords Go.Proofs.YtfmbdmkiamedeaaDoorW.PrintLast Go.Proofs.YtfmbdmkiamedeaaDoorW.PrintMore
attribute [local go_sem] max2_int min2_int max_two min_two max_three min_three max_four min_four   -- for this text's walks alone
set_option linter.unusedVariables false
set_option linter.unusedSimpArgs false

/-! ### argosylaw27_few: function 5 -/
def argosylaw27_few.l0 : Nat → List (S34) → Int → Option (Bool)
  | 0, _, _ => none
  | k + 1, x0, x3 => if x3 < (x0.length : Int) then (if 0 ≤ x3 then (if (((rd_T34 x0 x3).f3).length : Int) > 100 then (some false) else (argosylaw27_few.l0 k x0 (wrap64 (x3 + 1)))) else (none)) else (some true)
def argosylaw27_few.f (k : Nat) (l0 : List (S34)) : Option (Bool) := if (l0.length : Int) > 1100 then (some false) else (argosylaw27_few.l0 k l0 0)
theorem argosylaw27_few.mono_l : ∀ k, (∀ y0 y1, LeO (argosylaw27_few.l0 k y0 y1) (argosylaw27_few.l0 (k + 1) y0 y1))
  | 0 => fun _ _ r h => by simp [argosylaw27_few.l0] at h
  | k + 1 => by
    have ih0 := argosylaw27_few.mono_l k
    · intro y0 y1
      unfold argosylaw27_few.l0
      repeat' first
      | (with_reducible exact ih0 _ _)
      | (with_reducible exact LeO.refl _)
      | (with_reducible exact LeO.none _)
      | (with_reducible refine LeO.ite ?_ ?_)
      | (with_reducible refine LeO.bind ?_ (fun _ => ?_))
      | exact ih0 _ _
      | exact LeO.none _
      | refine LeO.ite ?_ ?_
      | refine LeO.bind ?_ (fun _ => ?_)
theorem argosylaw27_few.mono : ∀ a0 k, LeO (argosylaw27_few.f k a0) (argosylaw27_few.f (k + 1) a0) := by
  intro a0 k
  have ih0 := argosylaw27_few.mono_l k
  unfold argosylaw27_few.f
  repeat' first
      | (with_reducible exact ih0 _ _)
      | (with_reducible exact LeO.refl _)
      | (with_reducible exact LeO.none _)
      | (with_reducible refine LeO.ite ?_ ?_)
      | (with_reducible refine LeO.bind ?_ (fun _ => ?_))
      | exact ih0 _ _
      | exact LeO.none _
      | refine LeO.ite ?_ ?_
      | refine LeO.bind ?_ (fun _ => ?_)
set_option maxHeartbeats 8000000 in
set_option maxRecDepth 100000 in
theorem argosylaw27_few.calls (k : Nat) (A0 : Option Addr) (c0 : Nat) (l0 : List (S34)) (r : Bool) (w : World) (hr0 : Kd.C k34 w A0 l0.length l0) (hc0 : l0.length ≤ c0) (h : argosylaw27_few.f k l0 = some r) :
    Calls Tryd.prog 5 #[.slice A0 l0.length c0] w fun e w' => e = .returned (.bool r) ∧ Drawn0 w w' := by
  have HR0 := Aside0.mk hr0
  have HC0 := Aside0.mk hc0
  clear hr0 hc0
  have H : (if (l0.length : Int) > 1100 then (some false) else (argosylaw27_few.l0 k l0 0)) = some r := h
  clear h
  by_cases c2 : (l0.length : Int) > 1100
  · rw [if_pos c2] at H
    have c2b0 : decide (1100 < (l0.length : Int)) = true := decide_eq_true c2
    have c2b1 : decide (1100 < l0.length) = true := decide_eq_true (by omega)
    clear c2
    obtain rfl := Option.some.inj H
    go_enter Tryd.func5, Tryd.ntmps5
    go_wp2
    go_ret
    exact ⟨by first | rfl | (simp; done) | (simp [*]; done), by repeat (first | exact Drawn0.refl _ | apply Drawn0.step)⟩
  · rw [if_neg c2] at H
    have c2b0 : decide (1100 < (l0.length : Int)) = false := decide_eq_false c2
    have c2b1 : decide (1100 < l0.length) = false := decide_eq_false (by omega)
    clear c2
    have H' := Aside0.mk H
    clear H
    go_enter Tryd.func5, Tryd.ntmps5
    go_wp2
    go_loopg [3] k (fun kq v3 w' => ∃ (x3_1 : Int), v3 = .int .i64 x3_1 ∧ Aside0 (argosylaw27_few.l0 kq l0 x3_1 = some r) ∧ Aside0 (kq ≤ k) ∧ Drawn0 w w')
    case atStart => exact ⟨(0), (by first | rfl | (simp; done) | (simp [*]; done)), H', ⟨Nat.le_refl _⟩, by repeat (first | exact Drawn0.refl _ | apply Drawn0.step)⟩
    case round =>
      clear H'
      try clear c2
      try clear c2b0
      try clear c2b1
      try clear p2
      obtain ⟨x3_1, rfl, HA, HK1, ⟨m1, rfl⟩⟩ := hrel
      cases gk with
      | zero => exact absurd HA.out (by simp [argosylaw27_few.l0])
      | succ k1 =>
        have H := HA.out
        clear HA
        simp only [argosylaw27_few.l0] at H
        by_cases c3 : x3_1 < (l0.length : Int)
        · rw [if_pos c3] at H
          have c3b0 : decide (x3_1 < (l0.length : Int)) = true := decide_eq_true c3
          clear c3
          by_cases c4 : 0 ≤ x3_1
          · rw [if_pos c4] at H
            have c4b0 : decide (0 ≤ x3_1) = true := decide_eq_true c4
            clear c4
            by_cases c5 : (((rd_T34 l0 x3_1).f3).length : Int) > 100
            · rw [if_pos c5] at H
              have c5b0 : decide (100 < (((rd_T34 l0 x3_1).f3).length : Int)) = true := decide_eq_true c5
              have c5b1 : decide (100 < ((rd_T34 l0 x3_1).f3).length) = true := decide_eq_true (by omega)
              clear c5
              obtain rfl := Option.some.inj H
              have p101 : 0 ≤ (x3_1 : Int) := of_decide_eq_true (by first | (with_reducible assumption) | assumption)
              have q101 : x3_1 < (l0.length : Int) := of_decide_eq_true (by first | (with_reducible assumption) | assumption)
              obtain ⟨ad101, A101_3, c101_3, e101, hx101_0, hx101_1, hx101_2, hx101_3, hl101_3, hi101_3⟩ := at_T34 HR0.out x3_1 p101 q101
              cases e101
              have HR101_3 := Aside0.mk hi101_3
              have HC101_3 := Aside0.mk hl101_3
              clear hi101_3 hl101_3
              replace p101 := eq_true p101
              replace q101 := eq_true q101
              go_wp2
              go_ret
              exact ⟨by first | rfl | (simp; done) | (simp [*]; done), by repeat (first | exact Drawn0.refl _ | apply Drawn0.step)⟩
            · rw [if_neg c5] at H
              have c5b0 : decide (100 < (((rd_T34 l0 x3_1).f3).length : Int)) = false := decide_eq_false c5
              have c5b1 : decide (100 < ((rd_T34 l0 x3_1).f3).length) = false := decide_eq_false (by omega)
              clear c5
              have H' := Aside0.mk H
              clear H
              have p101 : 0 ≤ (x3_1 : Int) := of_decide_eq_true (by first | (with_reducible assumption) | assumption)
              have q101 : x3_1 < (l0.length : Int) := of_decide_eq_true (by first | (with_reducible assumption) | assumption)
              obtain ⟨ad101, A101_3, c101_3, e101, hx101_0, hx101_1, hx101_2, hx101_3, hl101_3, hi101_3⟩ := at_T34 HR0.out x3_1 p101 q101
              cases e101
              have HR101_3 := Aside0.mk hi101_3
              have HC101_3 := Aside0.mk hl101_3
              clear hi101_3 hl101_3
              replace p101 := eq_true p101
              replace q101 := eq_true q101
              go_wp2
              go_roundg k1
              case measure => have := HK1.out; omega
              case rel => exact ⟨(wrap64 (x3_1 + 1)), (by first | rfl | (simp; done) | (simp [*]; done)), H', ⟨by have := HK1.out; omega⟩, by repeat (first | exact Drawn0.refl _ | apply Drawn0.step)⟩
          · rw [if_neg c4] at H
            exact absurd H (by simp)
        · rw [if_neg c3] at H
          have c3b0 : decide (x3_1 < (l0.length : Int)) = false := decide_eq_false c3
          clear c3
          obtain rfl := Option.some.inj H
          go_wp2
          go_ret
          exact ⟨by first | rfl | (simp; done) | (simp [*]; done), by repeat (first | exact Drawn0.refl _ | apply Drawn0.step)⟩

/-! ### stringslite_HasPrefix: function 54 -/
def stringslite_HasPrefix.f (a0 : ByteArray) (a1 : ByteArray) : Option (Bool) := if (a0.size : Int) ≥ (a1.size : Int) then (if 0 ≤ (a1.size : Int) then (if (a1.size : Int) ≤ (a0.size : Int) then (some ((a0.extract 0 ((a1.size : Int) : Int).toNat).toList == a1.toList)) else (none)) else (none)) else (some false)
set_option maxHeartbeats 8000000 in
set_option maxRecDepth 100000 in
theorem stringslite_HasPrefix.calls (a0 : ByteArray) (a1 : ByteArray) (r : Bool) (w : World) (h : stringslite_HasPrefix.f a0 a1 = some r) :
    Calls Tryd.prog 54 #[.string a0, .string a1] w fun e w' => e = .returned (.bool r) ∧ Drawn0 w w' := by
  have H : (if (a0.size : Int) ≥ (a1.size : Int) then (if 0 ≤ (a1.size : Int) then (if (a1.size : Int) ≤ (a0.size : Int) then (some ((a0.extract 0 ((a1.size : Int) : Int).toNat).toList == a1.toList)) else (none)) else (none)) else (some false)) = some r := h
  clear h
  by_cases c3 : (a0.size : Int) ≥ (a1.size : Int)
  · rw [if_pos c3] at H
    have c3b0 : decide ((a1.size : Int) ≤ (a0.size : Int)) = true := decide_eq_true c3
    have c3b1 : decide (a1.size ≤ a0.size) = true := decide_eq_true (Int.ofNat_le.mp c3)
    clear c3
    by_cases c4 : 0 ≤ (a1.size : Int)
    · rw [if_pos c4] at H
      have c4b0 := eq_true c4
      have c4b1 : decide (0 ≤ (a1.size : Int)) = true := decide_eq_true c4
      clear c4
      by_cases c5 : (a1.size : Int) ≤ (a0.size : Int)
      · rw [if_pos c5] at H
        have c5b0 := eq_true c5
        have c5b1 : decide ((a1.size : Int) ≤ (a0.size : Int)) = true := decide_eq_true c5
        clear c5
        obtain ⟨y102, hy102⟩ : ∃ y_ : ByteArray, y_ = (a0.extract 0 ((a1.size : Int) : Int).toNat) := ⟨_, rfl⟩
        replace H : (some (y102.toList == a1.toList)) = some r := by first | (rw [hy102]; with_reducible exact H) | (have H2_ := (Option.bind_some _ _).symm.trans H; rw [hy102]; with_reducible exact H2_) | (have H2_ := (Option.bind_some _ _).symm.trans H; with_reducible exact H2_) | with_reducible exact H | (rw [hy102]; exact H) | exact H
        have Ny102 := Aside0.mk hy102
        clear hy102
        have hsx_y102 := Ny102.out.symm
        (try simp only [Int.toNat_natCast, Int.reduceToNat] at hsx_y102)
        obtain rfl := Option.some.inj H
        go_enter Tryd.func54, Tryd.ntmps54
        go_wp2
        go_ret
        exact ⟨by first | rfl | (simp; done) | (simp [*]; done), by repeat (first | exact Drawn0.refl _ | apply Drawn0.step)⟩
      · rw [if_neg c5] at H
        exact absurd H (by simp)
    · rw [if_neg c4] at H
      exact absurd H (by simp)
  · rw [if_neg c3] at H
    have c3b0 : decide ((a1.size : Int) ≤ (a0.size : Int)) = false := decide_eq_false c3
    have c3b1 : decide (a1.size ≤ a0.size) = false := decide_eq_false (fun h => c3 (Int.ofNat_le.mpr h))
    clear c3
    obtain rfl := Option.some.inj H
    go_enter Tryd.func54, Tryd.ntmps54
    go_wp2
    go_ret
    exact ⟨by first | rfl | (simp; done) | (simp [*]; done), by repeat (first | exact Drawn0.refl _ | apply Drawn0.step)⟩

/-! ### strings_HasPrefix: function 44 -/
def strings_HasPrefix.f (a0 : ByteArray) (a1 : ByteArray) : Option (Bool) := (stringslite_HasPrefix.f a0 a1).bind fun t103 => (some t103)
set_option maxHeartbeats 8000000 in
set_option maxRecDepth 100000 in
theorem strings_HasPrefix.calls (a0 : ByteArray) (a1 : ByteArray) (r : Bool) (w : World) (h : strings_HasPrefix.f a0 a1 = some r) :
    Calls Tryd.prog 44 #[.string a0, .string a1] w fun e w' => e = .returned (.bool r) ∧ Drawn0 w w' := by
  have H : ((stringslite_HasPrefix.f a0 a1).bind fun t103 => (some t103)) = some r := h
  clear h
  replace H := Option.bind_eq_some_iff.mp H
  obtain ⟨t103, A30, H⟩ := H
  replace H : (some t103) = some r := H
  have A3 := Aside0.mk A30
  clear A30
  obtain rfl := Option.some.inj H
  go_enter Tryd.func44, Tryd.ntmps44
  go_wp2_with (first | ((with_reducible refine gate_callee (f := 54) rfl ?_); refine goesL_ (some 7) rfl rfl Tryd.func54 (by kernel_rfl) rfl #[.string a0, .string a1] rfl (by (try simp only [List.map_toArray, List.map_cons, List.map_nil]); first | done | rfl | (simp only [List.length_drop, List.length_take]; rfl)) ?_; (with_reducible refine (stringslite_HasPrefix.calls a0 a1 t103 _ A3.out).mono ?_); rintro e w' ⟨rfl, ⟨nd, rfl⟩⟩; refine ⟨_, rfl, ?_⟩))
  go_ret
  exact ⟨by first | rfl | (simp; done) | (simp [*]; done), by repeat (first | exact Drawn0.refl _ | apply Drawn0.step)⟩

/-! ### glyph_broken: function 34 -/
def glyph_broken.f (a0 : ByteArray) (a1 : Int) (a2 : Int) : Option (Bool) := if a2 = 65533 then (if 0 ≤ a1 then (if a1 ≤ (a0.size : Int) then ((strings_HasPrefix.f (a0.extract (a1 : Int).toNat a0.size) (⟨#[239, 191, 189]⟩ : ByteArray)).bind fun t105 => (some (!t105))) else (none)) else (none)) else (some false)
set_option maxHeartbeats 8000000 in
set_option maxRecDepth 100000 in
theorem glyph_broken.calls (a0 : ByteArray) (a1 : Int) (a2 : Int) (r : Bool) (w : World) (h : glyph_broken.f a0 a1 a2 = some r) :
    Calls Tryd.prog 34 #[.string a0, .int .i64 a1, .int .i32 a2] w fun e w' => e = .returned (.bool r) ∧ Drawn0 w w' := by
  have H : (if a2 = 65533 then (if 0 ≤ a1 then (if a1 ≤ (a0.size : Int) then ((strings_HasPrefix.f (a0.extract (a1 : Int).toNat a0.size) (⟨#[239, 191, 189]⟩ : ByteArray)).bind fun t105 => (some (!t105))) else (none)) else (none)) else (some false)) = some r := h
  clear h
  by_cases c4 : a2 = 65533
  · rw [if_pos c4] at H
    have c4b0 : (a2 == 65533) = true := beq_iff_eq.mpr c4
    have c4b1 : (a2 != 65533) = false := bne_eq_false_iff_eq.mpr c4
    clear c4
    by_cases c5 : 0 ≤ a1
    · rw [if_pos c5] at H
      have c5b0 := eq_true c5
      have c5b1 : decide (0 ≤ a1) = true := decide_eq_true c5
      clear c5
      by_cases c6 : a1 ≤ (a0.size : Int)
      · rw [if_pos c6] at H
        have c6b0 := eq_true c6
        have c6b1 : decide (a1 ≤ (a0.size : Int)) = true := decide_eq_true c6
        clear c6
        obtain ⟨y104, hy104⟩ : ∃ y_ : ByteArray, y_ = (a0.extract (a1 : Int).toNat a0.size) := ⟨_, rfl⟩
        replace H : ((strings_HasPrefix.f y104 (⟨#[239, 191, 189]⟩ : ByteArray)).bind fun t105 => (some (!t105))) = some r := by first | (rw [hy104]; with_reducible exact H) | (have H2_ := (Option.bind_some _ _).symm.trans H; rw [hy104]; with_reducible exact H2_) | (have H2_ := (Option.bind_some _ _).symm.trans H; with_reducible exact H2_) | with_reducible exact H | (rw [hy104]; exact H) | exact H
        have Ny104 := Aside0.mk hy104
        clear hy104
        have hsx_y104 := Ny104.out.symm
        (try simp only [Int.toNat_natCast, Int.reduceToNat] at hsx_y104)
        replace H := Option.bind_eq_some_iff.mp H
        obtain ⟨t105, A70, H⟩ := H
        replace H : (some (!t105)) = some r := H
        have A7 := Aside0.mk A70
        clear A70
        obtain rfl := Option.some.inj H
        go_enter Tryd.func34, Tryd.ntmps34
        go_wp2_with (first | (go_at_call 44; (with_reducible refine (strings_HasPrefix.calls y104 (⟨#[239, 191, 189]⟩ : ByteArray) t105 _ A7.out).mono ?_); rintro e w' ⟨rfl, ⟨nd, rfl⟩⟩))
        go_ret
        exact ⟨by first | rfl | (simp; done) | (simp [*]; done), by repeat (first | exact Drawn0.refl _ | apply Drawn0.step)⟩
      · rw [if_neg c6] at H
        exact absurd H (by simp)
    · rw [if_neg c5] at H
      exact absurd H (by simp)
  · rw [if_neg c4] at H
    have c4b0 : (a2 == 65533) = false := beq_eq_false_iff_ne.mpr c4
    have c4b1 : (a2 != 65533) = true := bne_iff_ne.mpr c4
    obtain rfl := Option.some.inj H
    go_enter Tryd.func34, Tryd.ntmps34
    go_wp2
    go_ret
    exact ⟨by first | rfl | (simp; done) | (simp [*]; done), by repeat (first | exact Drawn0.refl _ | apply Drawn0.step)⟩

/-! ### glyph_Bad: function 23 -/
def brk (s : ByteArray) (x : Nat × Nat) : Bool := (glyph_broken.f s (x.1 : Int) (x.2 : Int)).getD false
theorem hasPre_some (s t : ByteArray) : ∃ b, strings_HasPrefix.f s t = some b := by
  unfold strings_HasPrefix.f stringslite_HasPrefix.f
  by_cases hc : (s.size : Int) ≥ (t.size : Int)
  · rw [if_pos hc, if_pos (by omega), if_pos (by omega)]
    exact ⟨_, rfl⟩
  · rw [if_neg hc]
    exact ⟨_, rfl⟩
theorem brk_is (s : ByteArray) (p r : Nat) (hp : p ≤ s.size) : glyph_broken.f s (p : Int) (r : Int) = some (brk s (p, r)) := by
  have : ∃ b, glyph_broken.f s (p : Int) (r : Int) = some b := by
    unfold glyph_broken.f
    by_cases h : (r : Int) = 65533
    · rw [if_pos h, if_pos (by omega), if_pos (by omega)]
      obtain ⟨b, hb⟩ := hasPre_some (s.extract (p : Int).toNat s.size) (⟨#[239, 191, 189]⟩ : ByteArray)
      rw [hb]
      exact ⟨_, rfl⟩
    · rw [if_neg h]
      exact ⟨_, rfl⟩
  obtain ⟨b, hb⟩ := this
  unfold brk
  rw [hb]
  rfl
def badG (s : ByteArray) : Nat → Nat → Int
  | 0, _ => -1
  | d + 1, pos => if pos < s.size then (if brk s (pos, (Utf8.decode s pos).1) = true then (pos : Int) else badG s d (pos + (Utf8.decode s pos).2)) else -1
theorem decode_pos (s : ByteArray) (i : Nat) : 1 ≤ (Utf8.decode s i).2 := by
  have one : ∀ (c : Prop) [Decidable c] (a b : Nat × Nat), 1 ≤ a.2 → 1 ≤ b.2 → 1 ≤ (if c then a else b).2 := fun c _ a b h1 h2 => by split <;> assumption
  have k : ∀ (a n : Nat), 1 ≤ ((a, n + 1) : Nat × Nat).2 := fun a n => Nat.le_add_left 1 n
  unfold Utf8.decode
  exact one _ _ _ (k _ 0) (one _ _ _ (one _ _ _ (k _ 1) (k _ 0)) (one _ _ _ (one _ _ _ (k _ 2) (k _ 0)) (one _ _ _ (one _ _ _ (k _ 3) (k _ 0)) (k _ 0))))
set_option maxHeartbeats 8000000 in
set_option maxRecDepth 100000 in
theorem own_Bad (a0 : ByteArray) (w : World) :
    Calls Tryd.prog 23 #[.string a0] w fun e w' => e = .returned (.int .i64 (badG a0 a0.size 0)) ∧ Below w.heap.size w w' := by
  go_enter Tryd.func23, Tryd.ntmps23
  go_wp2
  go_loopg [] a0.size (fun d wx => ∃ pos : Nat, a0.size ≤ pos + d ∧ wx.heap[w.heap.size]? = some (.stringIter a0 pos) ∧ Aside0 (Below w.heap.size w wx) ∧ Aside0 (badG a0 d pos = badG a0 a0.size 0))
  case atStart => exact ⟨0, by omega, World.iter_heap w a0 0, ⟨(Below.refl _ w).alloc (Nat.le_refl _) _⟩, ⟨rfl⟩⟩
  case round =>
    obtain ⟨pos, hd, hit, HB, HA⟩ := hrel
    by_cases hps : pos < a0.size
    · obtain ⟨d, rfl⟩ : ∃ d, gk = d + 1 := ⟨gk - 1, by omega⟩
      have H := HA.out
      clear HA
      simp only [badG] at H
      rw [if_pos hps] at H
      have hnx : ∀ ty, (Instr.next (.pointer (some ⟨w.heap.size, 0, none⟩)) true ty).run Tryd.prog wr = _ := fun ty => Lib.run_next_any_at wr w.heap.size a0 pos ty hit hps
      have hbr := brk_is a0 pos (Utf8.decode a0 pos).1 (by omega)
      have hw1 := decode_pos a0 pos
      obtain ⟨R, hR⟩ : ∃ R : Nat, (Utf8.decode a0 pos).1 = R := ⟨_, rfl⟩
      obtain ⟨K, hK⟩ : ∃ K : Nat, (Utf8.decode a0 pos).2 = K := ⟨_, rfl⟩
      rw [hR] at hbr H
      rw [hK] at hw1 H
      rw [hR, hK] at hnx
      have hit2 := Lib.iterAt_heap wr w.heap.size a0 pos (pos + K) hit
      have hbw2 := Aside0.mk (Lib.below_iterAt HB.out (k := w.heap.size) (Nat.le_refl _) a0 (pos + K))
      obtain ⟨W, hWd⟩ : ∃ W, wr.iterAt w.heap.size a0 (pos + K) = W := ⟨_, rfl⟩
      rw [hWd] at hnx hit2 hbw2
      have HT := Aside0.mk hbr
      clear hWd HB hit hps hR hK hbr
      cases hb : brk a0 (pos, R) with
      | true =>
        rw [hb] at HT
        rw [if_pos hb] at H
        have HH := Aside0.mk H
        clear H hb
        go_wp2_with (go_at_call 34; with_reducible refine (glyph_broken.calls a0 (pos : Int) (R : Int) true _ HT.out).mono ?_; rintro e w' ⟨rfl, ⟨nd, rfl⟩⟩)
        go_ret
        exact ⟨by rw [← HH.out]; rfl, pw_below_drewN hbw2.out _⟩
      | false =>
        rw [hb] at HT
        rw [if_neg (by rw [hb]; decide)] at H
        have HA := Aside0.mk H
        clear H hb
        go_wp2_with (go_at_call 34; with_reducible refine (glyph_broken.calls a0 (pos : Int) (R : Int) false _ HT.out).mono ?_; rintro e w' ⟨rfl, ⟨nd, rfl⟩⟩)
        go_roundg d
        case measure => omega
        case rel => exact ⟨pos + K, by omega, hit2, ⟨pw_below_drewN hbw2.out _⟩, HA⟩
    · have H := HA.out
      clear HA
      have hz : badG a0 gk pos = -1 := by cases gk <;> simp [badG, hps]
      rw [hz] at H
      have HH := Aside0.mk H
      clear H hz
      have hnx : ∀ ty, (Instr.next (.pointer (some ⟨w.heap.size, 0, none⟩)) true ty).run Tryd.prog wr = _ := fun ty => Lib.run_next_end_at wr w.heap.size a0 pos ty hit hps
      go_wp2
      go_ret
      exact ⟨by rw [← HH.out]; rfl, HB.out⟩
def glyph_Bad.f (a0 : ByteArray) : Option Int := some (badG a0 a0.size 0)
theorem glyph_Bad.calls (a0 : ByteArray) (r : Int) (w : World) (h : glyph_Bad.f a0 = some r) :
    Calls Tryd.prog 23 #[.string a0] w fun e w' => e = .returned (.int .i64 r) ∧ Below w.heap.size w w' := by
  obtain rfl := Option.some.inj h
  exact own_Bad a0 w

/-! ### scene_Number: function 13 -/
theorem toList_loopS (s : ByteArray) : ∀ (d i : Nat) (r : List UInt8), s.size - i = d → ByteArray.toList.loop s i r = r.reverse ++ s.data.toList.drop i := by
  intro d
  have hl : s.data.toList.length = s.size := Array.length_toList
  induction d with
  | zero =>
    intro i r h
    unfold ByteArray.toList.loop
    rw [if_neg (by omega), List.drop_eq_nil_of_le (by omega), List.append_nil]
  | succ d ih =>
    intro i r h
    unfold ByteArray.toList.loop
    rw [if_pos (by omega), ih (i + 1) _ (by omega)]
    have hi : i < s.data.toList.length := by omega
    rw [List.drop_eq_getElem_cons hi, List.reverse_cons, List.append_assoc]
    have : s.get! i = s.data.toList[i] := by
      have hs : i < s.size := by omega
      simp [ByteArray.get!, getElem!_pos, hs]
    rw [this]; rfl
theorem bytes_toListS (s : ByteArray) : s.toList = s.data.toList := by
  unfold ByteArray.toList
  rw [toList_loopS s _ 0 [] rfl]
  simp
theorem empty_is (s : ByteArray) : s.toList.isEmpty = decide (s.size = 0) := by
  rw [bytes_toListS]
  have hl : s.data.toList.length = s.size := Array.length_toList
  cases h : s.data.toList with
  | nil => rw [h] at hl; exact (decide_eq_true (by simpa using hl.symm)).symm
  | cons a l => rw [h] at hl; exact (decide_eq_false (by simp at hl; omega)).symm
theorem decode_posS (s : ByteArray) (i : Nat) : 1 ≤ (Utf8.decode s i).2 := by
  have one : ∀ (c : Prop) [Decidable c] (a b : Nat × Nat), 1 ≤ a.2 → 1 ≤ b.2 → 1 ≤ (if c then a else b).2 := fun c _ a b h1 h2 => by split <;> assumption
  have k : ∀ (a n : Nat), 1 ≤ ((a, n + 1) : Nat × Nat).2 := fun a n => Nat.le_add_left 1 n
  unfold Utf8.decode
  exact one _ _ _ (k _ 0) (one _ _ _ (one _ _ _ (k _ 1) (k _ 0)) (one _ _ _ (one _ _ _ (k _ 2) (k _ 0)) (one _ _ _ (one _ _ _ (k _ 3) (k _ 0)) (k _ 0))))
/-- A text's digits as a number, from a place on. -/
def numG (s : ByteArray) : Nat → Nat → Int → Option Int
  | 0, _, n => some n
  | d + 1, pos, n => if pos < s.size then (if ((Utf8.decode s pos).1 : Int) < 48 ∨ 57 < ((Utf8.decode s pos).1 : Int) then none else numG s d (pos + (Utf8.decode s pos).2) (wrap64 (wrap64 (10 * n) + wrap64 (wrap32 (((Utf8.decode s pos).1 : Int) - 48))))) else some n
theorem numG_end (s : ByteArray) (d pos : Nat) (n : Int) (h : ¬ pos < s.size) : numG s d pos n = some n := by cases d <;> simp [numG, h]
def endN (mn : Bool) : Option Int → Int × Bool
  | none => (0, false)
  | some n => if 1099511627776 < n then (0, false) else if mn = true then (wrap64 (-n), true) else (n, true)
def digN (dg : ByteArray) (mn : Bool) : Int × Bool := if dg.size = 0 ∨ 13 < dg.size ∨ (bt dg 0 = 48 ∧ (mn = true ∨ 1 < dg.size)) then (0, false) else endN mn (numG dg dg.size 0 0)
def numberF (a0 : ByteArray) : Int × Bool := if 1 < a0.size ∧ bt a0 0 = 45 then digN (a0.extract 1 a0.size) true else digN a0 false
set_option maxHeartbeats 16000000 in
set_option maxRecDepth 100000 in
theorem own_Number (a0 : ByteArray) (w : World) :
    Calls Tryd.prog 13 #[.string a0] w fun e w' => e = .returned (.tuple #[.int .i64 (numberF a0).1, .bool (numberF a0).2]) ∧ Below w.heap.size w w' := by
  obtain ⟨F, hF⟩ : ∃ F, numberF a0 = F := ⟨_, rfl⟩
  rw [hF]
  unfold numberF at hF
  go_enter Tryd.func13, Tryd.ntmps13
  by_cases hs : 1 < a0.size
  · have s0 : decide ((1 : Int) < (a0.size : Int)) = true := decide_eq_true (by omega)
    have q0 : 0 < a0.size := by omega
    have hx0 : ∀ h : 0 < a0.size, ((a0[0]'h).toNat : Int) = bt a0 0 := bt_at a0 0
    have qi0 : ((0 : Int) < (a0.size : Int)) = True := eq_true (by omega)
    by_cases h45 : bt a0 0 = 45
    · rw [if_pos ⟨hs, h45⟩] at hF
      have e45 : (bt a0 0 == 45) = true := beq_iff_eq.mpr h45
      have ql : ((1 : Int) ≤ (a0.size : Int)) = True := eq_true (by omega)
      obtain ⟨dg, hdg⟩ : ∃ dg, a0.extract 1 a0.size = dg := ⟨_, rfl⟩
      rw [hdg] at hF
      clear h45
      unfold digN at hF
      by_cases hz : dg.size = 0
      · rw [if_pos (.inl hz)] at hF
        have HF := Aside0.mk hF
        have z0 : dg.toList.isEmpty = true := by rw [empty_is]; exact decide_eq_true hz
        clear hF
        go_wp2
        go_ret2
        exact ⟨by have := HF.out; subst this; rfl, by repeat (first | (with_reducible first | exact Below.refl _ _ | apply below_alloc | apply pw_below_drewN | apply below_drew1) | exact Below.refl _ _)⟩
      have z0 : dg.toList.isEmpty = false := by rw [empty_is]; exact decide_eq_false hz
      have q1 : 0 < dg.size := by omega
      have hx1 : ∀ h : 0 < dg.size, ((dg[0]'h).toNat : Int) = bt dg 0 := bt_at dg 0
      have qi1 : ((0 : Int) < (dg.size : Int)) = True := eq_true (by omega)
      by_cases h13 : 13 < dg.size
      · rw [if_pos (.inr (.inl h13))] at hF
        have HF := Aside0.mk hF
        have t13 : decide ((13 : Int) < (dg.size : Int)) = true := decide_eq_true (by omega)
        clear hF
        go_wp2
        go_ret2
        exact ⟨by have := HF.out; subst this; rfl, by repeat (first | (with_reducible first | exact Below.refl _ _ | apply below_alloc | apply pw_below_drewN | apply below_drew1) | exact Below.refl _ _)⟩
      have t13 : decide ((13 : Int) < (dg.size : Int)) = false := decide_eq_false (by omega)
      by_cases h48 : bt dg 0 = 48
      · have e48 : (bt dg 0 == 48) = true := beq_iff_eq.mpr h48
        rw [if_pos (.inr (.inr ⟨h48, .inl rfl⟩))] at hF
        have HF := Aside0.mk hF
        clear hF
        go_wp2
        go_ret2
        exact ⟨by have := HF.out; subst this; rfl, by repeat (first | (with_reducible first | exact Below.refl _ _ | apply below_alloc | apply pw_below_drewN | apply below_drew1) | exact Below.refl _ _)⟩
      · have e48 : (bt dg 0 == 48) = false := beq_eq_false_iff_ne.mpr h48
        rw [if_neg (by rintro (h | h | h); exact hz h; exact h13 h; exact h48 h.1)] at hF
        have HF := Aside0.mk hF
        clear hF h13 hz h48
        go_wp2
        go_loopg [6] dg.size (fun d v6 wx => ∃ (pos : Nat) (n : Int), v6 = .int .i64 n ∧ dg.size ≤ pos + d ∧ wx.heap[w.heap.size]? = some (.stringIter dg pos) ∧ Aside0 (Below w.heap.size w wx) ∧ Aside0 (endN true (numG dg d pos n) = F))
        case atStart => exact ⟨0, 0, rfl, by omega, World.iter_heap w dg 0, ⟨(Below.refl _ w).alloc (Nat.le_refl _) _⟩, HF⟩
        case round =>
          clear HF
          obtain ⟨pos, n, rfl, hd, hit, HB, HA⟩ := hrel
          by_cases hps : pos < dg.size
          · obtain ⟨d, rfl⟩ : ∃ d, gk = d + 1 := ⟨gk - 1, by omega⟩
            have H := HA.out
            clear HA
            simp only [numG] at H
            rw [if_pos hps] at H
            have hnx : ∀ ty, (Instr.next (.pointer (some ⟨w.heap.size, 0, none⟩)) true ty).run Tryd.prog wr = _ := fun ty => Lib.run_next_any_at wr w.heap.size dg pos ty hit hps
            have hw1 := decode_posS dg pos
            obtain ⟨R, hR⟩ : ∃ R : Nat, (Utf8.decode dg pos).1 = R := ⟨_, rfl⟩
            obtain ⟨K, hK⟩ : ∃ K : Nat, (Utf8.decode dg pos).2 = K := ⟨_, rfl⟩
            rw [hR, hK] at H
            rw [hK] at hw1
            rw [hR, hK] at hnx
            have hit2 := Lib.iterAt_heap wr w.heap.size dg pos (pos + K) hit
            have hbw2 := Aside0.mk (Lib.below_iterAt HB.out (k := w.heap.size) (Nat.le_refl _) dg (pos + K))
            obtain ⟨W, hWd⟩ : ∃ W, wr.iterAt w.heap.size dg (pos + K) = W := ⟨_, rfl⟩
            rw [hWd] at hnx hit2 hbw2
            clear hWd HB hit hps hR hK
            by_cases hr1 : (R : Int) < 48
            · rw [if_pos (.inl hr1)] at H
              have HH := Aside0.mk H
              have r1 : decide ((R : Int) < 48) = true := decide_eq_true hr1
              have r2 : decide (R < 48) = true := decide_eq_true (by omega)
              clear H hr1
              go_wp2
              go_ret2
              exact ⟨by have := HH.out; subst this; rfl, hbw2.out⟩
            · have r1 : decide ((R : Int) < 48) = false := decide_eq_false hr1
              have r2 : decide (R < 48) = false := decide_eq_false (by omega)
              by_cases hr2 : 57 < (R : Int)
              · rw [if_pos (.inr hr2)] at H
                have HH := Aside0.mk H
                have r3 : decide (57 < (R : Int)) = true := decide_eq_true hr2
                have r4 : decide (57 < R) = true := decide_eq_true (by omega)
                clear H hr1 hr2
                go_wp2
                go_ret2
                exact ⟨by have := HH.out; subst this; rfl, hbw2.out⟩
              · rw [if_neg (by omega)] at H
                have HA := Aside0.mk H
                have r3 : decide (57 < (R : Int)) = false := decide_eq_false hr2
                have r4 : decide (57 < R) = false := decide_eq_false (by omega)
                clear H hr1 hr2
                go_wp2
                go_roundg d
                case measure => omega
                case rel => exact ⟨pos + K, _, rfl, by omega, hit2, hbw2, HA⟩
          · have H := HA.out
            clear HA
            rw [numG_end dg gk pos n hps] at H
            have hnx : ∀ ty, (Instr.next (.pointer (some ⟨w.heap.size, 0, none⟩)) true ty).run Tryd.prog wr = _ := fun ty => Lib.run_next_end_at wr w.heap.size dg pos ty hit hps
            have H : (if 1099511627776 < n then ((0 : Int), false) else if true = true then (wrap64 (-n), true) else (n, true)) = F := H
            clear hps hd
            by_cases hb : 1099511627776 < n
            · rw [if_pos hb] at H
              have HH := Aside0.mk H
              have b1 : decide (1099511627776 < n) = true := decide_eq_true hb
              clear H hb
              go_wp2
              go_ret2
              exact ⟨by have := HH.out; subst this; rfl, HB.out⟩
            · rw [if_neg hb] at H
              have b1 : decide (1099511627776 < n) = false := decide_eq_false hb
              have HH := Aside0.mk H
              clear H hb
              go_wp2
              go_ret2
              exact ⟨by have := HH.out; subst this; rfl, HB.out⟩
    · rw [if_neg (fun h => h45 h.2)] at hF
      have e45 : (bt a0 0 == 45) = false := beq_eq_false_iff_ne.mpr h45
      clear h45
      unfold digN at hF
      by_cases hz : a0.size = 0
      · rw [if_pos (.inl hz)] at hF
        have HF := Aside0.mk hF
        have z0 : a0.toList.isEmpty = true := by rw [empty_is]; exact decide_eq_true hz
        clear hF
        go_wp2
        go_ret2
        exact ⟨by have := HF.out; subst this; rfl, by repeat (first | (with_reducible first | exact Below.refl _ _ | apply below_alloc | apply pw_below_drewN | apply below_drew1) | exact Below.refl _ _)⟩
      have z0 : a0.toList.isEmpty = false := by rw [empty_is]; exact decide_eq_false hz
      have q1 : 0 < a0.size := by omega
      have hx1 : ∀ h : 0 < a0.size, ((a0[0]'h).toNat : Int) = bt a0 0 := bt_at a0 0
      have qi1 : ((0 : Int) < (a0.size : Int)) = True := eq_true (by omega)
      by_cases h13 : 13 < a0.size
      · rw [if_pos (.inr (.inl h13))] at hF
        have HF := Aside0.mk hF
        have t13 : decide ((13 : Int) < (a0.size : Int)) = true := decide_eq_true (by omega)
        clear hF
        go_wp2
        go_ret2
        exact ⟨by have := HF.out; subst this; rfl, by repeat (first | (with_reducible first | exact Below.refl _ _ | apply below_alloc | apply pw_below_drewN | apply below_drew1) | exact Below.refl _ _)⟩
      have t13 : decide ((13 : Int) < (a0.size : Int)) = false := decide_eq_false (by omega)
      by_cases h48 : bt a0 0 = 48
      · have e48 : (bt a0 0 == 48) = true := beq_iff_eq.mpr h48
        by_cases h1 : 1 < a0.size
        · rw [if_pos (.inr (.inr ⟨h48, .inr h1⟩))] at hF
          have HF := Aside0.mk hF
          have s1 : decide ((1 : Int) < (a0.size : Int)) = true := decide_eq_true (by omega)
          clear hF
          go_wp2
          go_ret2
          exact ⟨by have := HF.out; subst this; rfl, by repeat (first | (with_reducible first | exact Below.refl _ _ | apply below_alloc | apply pw_below_drewN | apply below_drew1) | exact Below.refl _ _)⟩
        · exact absurd hs h1
      · have e48 : (bt a0 0 == 48) = false := beq_eq_false_iff_ne.mpr h48
        rw [if_neg (by rintro (h | h | h); exact hz h; exact h13 h; exact h48 h.1)] at hF
        have HF := Aside0.mk hF
        clear hF h13 hz h48
        go_wp2
        go_loopg [6] a0.size (fun d v6 wx => ∃ (pos : Nat) (n : Int), v6 = .int .i64 n ∧ a0.size ≤ pos + d ∧ wx.heap[w.heap.size]? = some (.stringIter a0 pos) ∧ Aside0 (Below w.heap.size w wx) ∧ Aside0 (endN false (numG a0 d pos n) = F))
        case atStart => exact ⟨0, 0, rfl, by omega, World.iter_heap w a0 0, ⟨(Below.refl _ w).alloc (Nat.le_refl _) _⟩, HF⟩
        case round =>
          clear HF
          obtain ⟨pos, n, rfl, hd, hit, HB, HA⟩ := hrel
          by_cases hps : pos < a0.size
          · obtain ⟨d, rfl⟩ : ∃ d, gk = d + 1 := ⟨gk - 1, by omega⟩
            have H := HA.out
            clear HA
            simp only [numG] at H
            rw [if_pos hps] at H
            have hnx : ∀ ty, (Instr.next (.pointer (some ⟨w.heap.size, 0, none⟩)) true ty).run Tryd.prog wr = _ := fun ty => Lib.run_next_any_at wr w.heap.size a0 pos ty hit hps
            have hw1 := decode_posS a0 pos
            obtain ⟨R, hR⟩ : ∃ R : Nat, (Utf8.decode a0 pos).1 = R := ⟨_, rfl⟩
            obtain ⟨K, hK⟩ : ∃ K : Nat, (Utf8.decode a0 pos).2 = K := ⟨_, rfl⟩
            rw [hR, hK] at H
            rw [hK] at hw1
            rw [hR, hK] at hnx
            have hit2 := Lib.iterAt_heap wr w.heap.size a0 pos (pos + K) hit
            have hbw2 := Aside0.mk (Lib.below_iterAt HB.out (k := w.heap.size) (Nat.le_refl _) a0 (pos + K))
            obtain ⟨W, hWd⟩ : ∃ W, wr.iterAt w.heap.size a0 (pos + K) = W := ⟨_, rfl⟩
            rw [hWd] at hnx hit2 hbw2
            clear hWd HB hit hps hR hK
            by_cases hr1 : (R : Int) < 48
            · rw [if_pos (.inl hr1)] at H
              have HH := Aside0.mk H
              have r1 : decide ((R : Int) < 48) = true := decide_eq_true hr1
              have r2 : decide (R < 48) = true := decide_eq_true (by omega)
              clear H hr1
              go_wp2
              go_ret2
              exact ⟨by have := HH.out; subst this; rfl, hbw2.out⟩
            · have r1 : decide ((R : Int) < 48) = false := decide_eq_false hr1
              have r2 : decide (R < 48) = false := decide_eq_false (by omega)
              by_cases hr2 : 57 < (R : Int)
              · rw [if_pos (.inr hr2)] at H
                have HH := Aside0.mk H
                have r3 : decide (57 < (R : Int)) = true := decide_eq_true hr2
                have r4 : decide (57 < R) = true := decide_eq_true (by omega)
                clear H hr1 hr2
                go_wp2
                go_ret2
                exact ⟨by have := HH.out; subst this; rfl, hbw2.out⟩
              · rw [if_neg (by omega)] at H
                have HA := Aside0.mk H
                have r3 : decide (57 < (R : Int)) = false := decide_eq_false hr2
                have r4 : decide (57 < R) = false := decide_eq_false (by omega)
                clear H hr1 hr2
                go_wp2
                go_roundg d
                case measure => omega
                case rel => exact ⟨pos + K, _, rfl, by omega, hit2, hbw2, HA⟩
          · have H := HA.out
            clear HA
            rw [numG_end a0 gk pos n hps] at H
            have hnx : ∀ ty, (Instr.next (.pointer (some ⟨w.heap.size, 0, none⟩)) true ty).run Tryd.prog wr = _ := fun ty => Lib.run_next_end_at wr w.heap.size a0 pos ty hit hps
            have H : (if 1099511627776 < n then ((0 : Int), false) else if false = true then (wrap64 (-n), true) else (n, true)) = F := H
            clear hps hd
            by_cases hb : 1099511627776 < n
            · rw [if_pos hb] at H
              have HH := Aside0.mk H
              have b1 : decide (1099511627776 < n) = true := decide_eq_true hb
              clear H hb
              go_wp2
              go_ret2
              exact ⟨by have := HH.out; subst this; rfl, HB.out⟩
            · rw [if_neg hb] at H
              have b1 : decide (1099511627776 < n) = false := decide_eq_false hb
              have HH := Aside0.mk H
              clear H hb
              go_wp2
              go_ret2
              exact ⟨by have := HH.out; subst this; rfl, HB.out⟩
  · rw [if_neg (fun h => hs h.1)] at hF
    have s0 : decide ((1 : Int) < (a0.size : Int)) = false := decide_eq_false (by omega)
    unfold digN at hF
    by_cases hz : a0.size = 0
    · rw [if_pos (.inl hz)] at hF
      have HF := Aside0.mk hF
      have z0 : a0.toList.isEmpty = true := by rw [empty_is]; exact decide_eq_true hz
      clear hF
      go_wp2
      go_ret2
      exact ⟨by have := HF.out; subst this; rfl, by repeat (first | (with_reducible first | exact Below.refl _ _ | apply below_alloc | apply pw_below_drewN | apply below_drew1) | exact Below.refl _ _)⟩
    have z0 : a0.toList.isEmpty = false := by rw [empty_is]; exact decide_eq_false hz
    have q1 : 0 < a0.size := by omega
    have hx1 : ∀ h : 0 < a0.size, ((a0[0]'h).toNat : Int) = bt a0 0 := bt_at a0 0
    have qi1 : ((0 : Int) < (a0.size : Int)) = True := eq_true (by omega)
    by_cases h13 : 13 < a0.size
    · exact absurd h13 (by omega)
    have t13 : decide ((13 : Int) < (a0.size : Int)) = false := decide_eq_false (by omega)
    by_cases h48 : bt a0 0 = 48
    · have e48 : (bt a0 0 == 48) = true := beq_iff_eq.mpr h48
      by_cases h1 : 1 < a0.size
      · exact absurd h1 (by omega)
      · rw [if_neg (by rintro (h | h | h); exact hz h; exact h13 h; exact h1 (h.2.resolve_left (by decide)))] at hF
        have HF := Aside0.mk hF
        have s1 : decide ((1 : Int) < (a0.size : Int)) = false := decide_eq_false (by omega)
        clear hF h13 hz h48 h1
        go_wp2
        go_loopg [6] a0.size (fun d v6 wx => ∃ (pos : Nat) (n : Int), v6 = .int .i64 n ∧ a0.size ≤ pos + d ∧ wx.heap[w.heap.size]? = some (.stringIter a0 pos) ∧ Aside0 (Below w.heap.size w wx) ∧ Aside0 (endN false (numG a0 d pos n) = F))
        case atStart => exact ⟨0, 0, rfl, by omega, World.iter_heap w a0 0, ⟨(Below.refl _ w).alloc (Nat.le_refl _) _⟩, HF⟩
        case round =>
          clear HF
          obtain ⟨pos, n, rfl, hd, hit, HB, HA⟩ := hrel
          by_cases hps : pos < a0.size
          · obtain ⟨d, rfl⟩ : ∃ d, gk = d + 1 := ⟨gk - 1, by omega⟩
            have H := HA.out
            clear HA
            simp only [numG] at H
            rw [if_pos hps] at H
            have hnx : ∀ ty, (Instr.next (.pointer (some ⟨w.heap.size, 0, none⟩)) true ty).run Tryd.prog wr = _ := fun ty => Lib.run_next_any_at wr w.heap.size a0 pos ty hit hps
            have hw1 := decode_posS a0 pos
            obtain ⟨R, hR⟩ : ∃ R : Nat, (Utf8.decode a0 pos).1 = R := ⟨_, rfl⟩
            obtain ⟨K, hK⟩ : ∃ K : Nat, (Utf8.decode a0 pos).2 = K := ⟨_, rfl⟩
            rw [hR, hK] at H
            rw [hK] at hw1
            rw [hR, hK] at hnx
            have hit2 := Lib.iterAt_heap wr w.heap.size a0 pos (pos + K) hit
            have hbw2 := Aside0.mk (Lib.below_iterAt HB.out (k := w.heap.size) (Nat.le_refl _) a0 (pos + K))
            obtain ⟨W, hWd⟩ : ∃ W, wr.iterAt w.heap.size a0 (pos + K) = W := ⟨_, rfl⟩
            rw [hWd] at hnx hit2 hbw2
            clear hWd HB hit hps hR hK
            by_cases hr1 : (R : Int) < 48
            · rw [if_pos (.inl hr1)] at H
              have HH := Aside0.mk H
              have r1 : decide ((R : Int) < 48) = true := decide_eq_true hr1
              have r2 : decide (R < 48) = true := decide_eq_true (by omega)
              clear H hr1
              go_wp2
              go_ret2
              exact ⟨by have := HH.out; subst this; rfl, hbw2.out⟩
            · have r1 : decide ((R : Int) < 48) = false := decide_eq_false hr1
              have r2 : decide (R < 48) = false := decide_eq_false (by omega)
              by_cases hr2 : 57 < (R : Int)
              · rw [if_pos (.inr hr2)] at H
                have HH := Aside0.mk H
                have r3 : decide (57 < (R : Int)) = true := decide_eq_true hr2
                have r4 : decide (57 < R) = true := decide_eq_true (by omega)
                clear H hr1 hr2
                go_wp2
                go_ret2
                exact ⟨by have := HH.out; subst this; rfl, hbw2.out⟩
              · rw [if_neg (by omega)] at H
                have HA := Aside0.mk H
                have r3 : decide (57 < (R : Int)) = false := decide_eq_false hr2
                have r4 : decide (57 < R) = false := decide_eq_false (by omega)
                clear H hr1 hr2
                go_wp2
                go_roundg d
                case measure => omega
                case rel => exact ⟨pos + K, _, rfl, by omega, hit2, hbw2, HA⟩
          · have H := HA.out
            clear HA
            rw [numG_end a0 gk pos n hps] at H
            have hnx : ∀ ty, (Instr.next (.pointer (some ⟨w.heap.size, 0, none⟩)) true ty).run Tryd.prog wr = _ := fun ty => Lib.run_next_end_at wr w.heap.size a0 pos ty hit hps
            have H : (if 1099511627776 < n then ((0 : Int), false) else if false = true then (wrap64 (-n), true) else (n, true)) = F := H
            clear hps hd
            by_cases hb : 1099511627776 < n
            · rw [if_pos hb] at H
              have HH := Aside0.mk H
              have b1 : decide (1099511627776 < n) = true := decide_eq_true hb
              clear H hb
              go_wp2
              go_ret2
              exact ⟨by have := HH.out; subst this; rfl, HB.out⟩
            · rw [if_neg hb] at H
              have b1 : decide (1099511627776 < n) = false := decide_eq_false hb
              have HH := Aside0.mk H
              clear H hb
              go_wp2
              go_ret2
              exact ⟨by have := HH.out; subst this; rfl, HB.out⟩
    · have e48 : (bt a0 0 == 48) = false := beq_eq_false_iff_ne.mpr h48
      rw [if_neg (by rintro (h | h | h); exact hz h; exact h13 h; exact h48 h.1)] at hF
      have HF := Aside0.mk hF
      clear hF h13 hz h48
      go_wp2
      go_loopg [6] a0.size (fun d v6 wx => ∃ (pos : Nat) (n : Int), v6 = .int .i64 n ∧ a0.size ≤ pos + d ∧ wx.heap[w.heap.size]? = some (.stringIter a0 pos) ∧ Aside0 (Below w.heap.size w wx) ∧ Aside0 (endN false (numG a0 d pos n) = F))
      case atStart => exact ⟨0, 0, rfl, by omega, World.iter_heap w a0 0, ⟨(Below.refl _ w).alloc (Nat.le_refl _) _⟩, HF⟩
      case round =>
        clear HF
        obtain ⟨pos, n, rfl, hd, hit, HB, HA⟩ := hrel
        by_cases hps : pos < a0.size
        · obtain ⟨d, rfl⟩ : ∃ d, gk = d + 1 := ⟨gk - 1, by omega⟩
          have H := HA.out
          clear HA
          simp only [numG] at H
          rw [if_pos hps] at H
          have hnx : ∀ ty, (Instr.next (.pointer (some ⟨w.heap.size, 0, none⟩)) true ty).run Tryd.prog wr = _ := fun ty => Lib.run_next_any_at wr w.heap.size a0 pos ty hit hps
          have hw1 := decode_posS a0 pos
          obtain ⟨R, hR⟩ : ∃ R : Nat, (Utf8.decode a0 pos).1 = R := ⟨_, rfl⟩
          obtain ⟨K, hK⟩ : ∃ K : Nat, (Utf8.decode a0 pos).2 = K := ⟨_, rfl⟩
          rw [hR, hK] at H
          rw [hK] at hw1
          rw [hR, hK] at hnx
          have hit2 := Lib.iterAt_heap wr w.heap.size a0 pos (pos + K) hit
          have hbw2 := Aside0.mk (Lib.below_iterAt HB.out (k := w.heap.size) (Nat.le_refl _) a0 (pos + K))
          obtain ⟨W, hWd⟩ : ∃ W, wr.iterAt w.heap.size a0 (pos + K) = W := ⟨_, rfl⟩
          rw [hWd] at hnx hit2 hbw2
          clear hWd HB hit hps hR hK
          by_cases hr1 : (R : Int) < 48
          · rw [if_pos (.inl hr1)] at H
            have HH := Aside0.mk H
            have r1 : decide ((R : Int) < 48) = true := decide_eq_true hr1
            have r2 : decide (R < 48) = true := decide_eq_true (by omega)
            clear H hr1
            go_wp2
            go_ret2
            exact ⟨by have := HH.out; subst this; rfl, hbw2.out⟩
          · have r1 : decide ((R : Int) < 48) = false := decide_eq_false hr1
            have r2 : decide (R < 48) = false := decide_eq_false (by omega)
            by_cases hr2 : 57 < (R : Int)
            · rw [if_pos (.inr hr2)] at H
              have HH := Aside0.mk H
              have r3 : decide (57 < (R : Int)) = true := decide_eq_true hr2
              have r4 : decide (57 < R) = true := decide_eq_true (by omega)
              clear H hr1 hr2
              go_wp2
              go_ret2
              exact ⟨by have := HH.out; subst this; rfl, hbw2.out⟩
            · rw [if_neg (by omega)] at H
              have HA := Aside0.mk H
              have r3 : decide (57 < (R : Int)) = false := decide_eq_false hr2
              have r4 : decide (57 < R) = false := decide_eq_false (by omega)
              clear H hr1 hr2
              go_wp2
              go_roundg d
              case measure => omega
              case rel => exact ⟨pos + K, _, rfl, by omega, hit2, hbw2, HA⟩
        · have H := HA.out
          clear HA
          rw [numG_end a0 gk pos n hps] at H
          have hnx : ∀ ty, (Instr.next (.pointer (some ⟨w.heap.size, 0, none⟩)) true ty).run Tryd.prog wr = _ := fun ty => Lib.run_next_end_at wr w.heap.size a0 pos ty hit hps
          have H : (if 1099511627776 < n then ((0 : Int), false) else if false = true then (wrap64 (-n), true) else (n, true)) = F := H
          clear hps hd
          by_cases hb : 1099511627776 < n
          · rw [if_pos hb] at H
            have HH := Aside0.mk H
            have b1 : decide (1099511627776 < n) = true := decide_eq_true hb
            clear H hb
            go_wp2
            go_ret2
            exact ⟨by have := HH.out; subst this; rfl, HB.out⟩
          · rw [if_neg hb] at H
            have b1 : decide (1099511627776 < n) = false := decide_eq_false hb
            have HH := Aside0.mk H
            clear H hb
            go_wp2
            go_ret2
            exact ⟨by have := HH.out; subst this; rfl, HB.out⟩
def scene_Number.f (a0 : ByteArray) : Option (Int × Bool) := some (numberF a0)
theorem scene_Number.calls (a0 : ByteArray) (r1 : Int) (r2 : Bool) (w : World) (h : scene_Number.f a0 = some (r1, r2)) :
    Calls Tryd.prog 13 #[.string a0] w fun e w' => e = .returned (.tuple #[.int .i64 r1, .bool r2]) ∧ Below w.heap.size w w' := by
  have h1 := Option.some.inj h
  have := own_Number a0 w
  rwa [h1] at this

end Go.Proofs.YtfmbdmkiamedeaaDoor.PScenePrints
