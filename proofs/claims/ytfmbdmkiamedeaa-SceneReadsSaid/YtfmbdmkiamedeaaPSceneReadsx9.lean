-- Written by a patched print (wip/mkprint.py), for this claim.
import Derived.Test.YtfmbdmkiamedeaaPSceneReadsx0
namespace Go.Proofs.Ytfmbdmkiamedeaa.PSceneReads
open Go.RowKit Go.Proofs.YtfmbdmkiamedeaaW.PrintWords Go.Proofs.YtfmbdmkiamedeaaW.PrintLast Go.Proofs.YtfmbdmkiamedeaaW.PrintMore
attribute [local go_sem] max2_int min2_int max_two min_two max_three min_three max_four min_four   -- for this text's walks alone
set_option linter.unusedVariables false
set_option linter.unusedSimpArgs false

/-! ### argosyref27_pieces: function 18 -/
mutual
def argosyref27_pieces.l0 : Nat → ByteArray → List (S54) → Bool → Int → Int → Option ((List (S54)))
  | 0, _, _, _, _, _ => none
  | k + 1, x0, x3, x4, x5, x6 => if x6 ≤ (x0.size : Int) then (if x6 < (x0.size : Int) then (if 0 ≤ x6 then (argosyref27_pieces.j1 k x0 x3 x4 x5 x6 (bt x0 x6)) else (none)) else (argosyref27_pieces.j1 k x0 x3 x4 x5 x6 10)) else (some x3)
def argosyref27_pieces.j1 : Nat → ByteArray → List (S54) → Bool → Int → Int → Int → Option ((List (S54)))
  | 0, _, _, _, _, _, _ => none
  | k + 1, x0, x3, x4, x5, x6, x7 => if x7 = 9 then (argosyref27_pieces.j2 k x0 x3 x4 x5 x6 x7 true) else (if x7 = 10 then (argosyref27_pieces.j2 k x0 x3 x4 x5 x6 x7 true) else (if x7 = 13 then (argosyref27_pieces.j2 k x0 x3 x4 x5 x6 x7 true) else (if x7 = 32 then (argosyref27_pieces.j2 k x0 x3 x4 x5 x6 x7 true) else (if x7 = 35 then (argosyref27_pieces.j2 k x0 x3 x4 x5 x6 x7 true) else (if x7 = 59 then (argosyref27_pieces.j2 k x0 x3 x4 x5 x6 x7 true) else (argosyref27_pieces.j2 k x0 x3 x4 x5 x6 x7 x4))))))
def argosyref27_pieces.j2 : Nat → ByteArray → List (S54) → Bool → Int → Int → Int → Bool → Option ((List (S54)))
  | 0, _, _, _, _, _, _, _ => none
  | k + 1, x0, x3, x4, x5, x6, x7, x8 => if x8 = true then (argosyref27_pieces.j3 k x0 x3 x4 x5 x6 x7 x8 (decide (x5 ≥ 0))) else (argosyref27_pieces.j3 k x0 x3 x4 x5 x6 x7 x8 false)
def argosyref27_pieces.j3 : Nat → ByteArray → List (S54) → Bool → Int → Int → Int → Bool → Bool → Option ((List (S54)))
  | 0, _, _, _, _, _, _, _, _ => none
  | k + 1, x0, x3, x4, x5, x6, x7, x8, x51 => if x51 = true then (if 0 ≤ x5 then (if x5 ≤ x6 then (if x6 ≤ (x0.size : Int) then (if x3.length < 5864062014805 then (argosyref27_pieces.j4 k x0 (x3 ++ [(⟨(x0.extract (x5 : Int).toNat (x6 : Int).toNat), x5⟩ : S54)]) x4 (-1) x6 x7 x8) else (none)) else (none)) else (none)) else (none)) else (argosyref27_pieces.j4 k x0 x3 x4 x5 x6 x7 x8)
def argosyref27_pieces.j4 : Nat → ByteArray → List (S54) → Bool → Int → Int → Int → Bool → Option ((List (S54)))
  | 0, _, _, _, _, _, _, _ => none
  | k + 1, x0, x3, x4, x5, x6, x7, x8 => if x8 = true then (argosyref27_pieces.j5 k x0 x3 x4 x5 x6 x7 false) else (argosyref27_pieces.j5 k x0 x3 x4 x5 x6 x7 (decide (x5 < 0)))
def argosyref27_pieces.j5 : Nat → ByteArray → List (S54) → Bool → Int → Int → Int → Bool → Option ((List (S54)))
  | 0, _, _, _, _, _, _, _ => none
  | k + 1, x0, x3, x4, x5, x6, x7, x66 => if x66 = true then (if x7 = 59 then (if x4 = true then (argosyref27_pieces.l0 k x0 x3 (x7 != 10) x6 (wrap64 (x6 + 1))) else (if x3.length < 5864062014805 then ((some (x3 ++ [(⟨(⟨#[59]⟩ : ByteArray), x6⟩ : S54)] : List (S54))).bind fun y182 => (if x7 = 35 then (argosyref27_pieces.l0 k x0 y182 (x7 != 10) x6 (wrap64 (x6 + 1))) else (argosyref27_pieces.l0 k x0 y182 false x6 (wrap64 (x6 + 1))))) else (none))) else (if x4 = true then (argosyref27_pieces.l0 k x0 x3 (x7 != 10) x6 (wrap64 (x6 + 1))) else (if x7 = 35 then (argosyref27_pieces.l0 k x0 x3 (x7 != 10) x6 (wrap64 (x6 + 1))) else (argosyref27_pieces.l0 k x0 x3 false x6 (wrap64 (x6 + 1)))))) else (if x7 = 59 then (if x4 = true then (argosyref27_pieces.l0 k x0 x3 (x7 != 10) x5 (wrap64 (x6 + 1))) else (if x3.length < 5864062014805 then ((some (x3 ++ [(⟨(⟨#[59]⟩ : ByteArray), x6⟩ : S54)] : List (S54))).bind fun y185 => (if x7 = 35 then (argosyref27_pieces.l0 k x0 y185 (x7 != 10) x5 (wrap64 (x6 + 1))) else (argosyref27_pieces.l0 k x0 y185 false x5 (wrap64 (x6 + 1))))) else (none))) else (if x4 = true then (argosyref27_pieces.l0 k x0 x3 (x7 != 10) x5 (wrap64 (x6 + 1))) else (if x7 = 35 then (argosyref27_pieces.l0 k x0 x3 (x7 != 10) x5 (wrap64 (x6 + 1))) else (argosyref27_pieces.l0 k x0 x3 false x5 (wrap64 (x6 + 1))))))
end
def argosyref27_pieces.f (k : Nat) (a0 : ByteArray) : Option ((List (S54))) := argosyref27_pieces.l0 k a0 ([] : List (S54)) false (-1) 0
theorem argosyref27_pieces.mono_l : ∀ k, (∀ y0 y1 y2 y3 y4, LeO (argosyref27_pieces.l0 k y0 y1 y2 y3 y4) (argosyref27_pieces.l0 (k + 1) y0 y1 y2 y3 y4)) ∧ (∀ y0 y1 y2 y3 y4 y5, LeO (argosyref27_pieces.j1 k y0 y1 y2 y3 y4 y5) (argosyref27_pieces.j1 (k + 1) y0 y1 y2 y3 y4 y5)) ∧ (∀ y0 y1 y2 y3 y4 y5 y6, LeO (argosyref27_pieces.j2 k y0 y1 y2 y3 y4 y5 y6) (argosyref27_pieces.j2 (k + 1) y0 y1 y2 y3 y4 y5 y6)) ∧ (∀ y0 y1 y2 y3 y4 y5 y6 y7, LeO (argosyref27_pieces.j3 k y0 y1 y2 y3 y4 y5 y6 y7) (argosyref27_pieces.j3 (k + 1) y0 y1 y2 y3 y4 y5 y6 y7)) ∧ (∀ y0 y1 y2 y3 y4 y5 y6, LeO (argosyref27_pieces.j4 k y0 y1 y2 y3 y4 y5 y6) (argosyref27_pieces.j4 (k + 1) y0 y1 y2 y3 y4 y5 y6)) ∧ (∀ y0 y1 y2 y3 y4 y5 y6, LeO (argosyref27_pieces.j5 k y0 y1 y2 y3 y4 y5 y6) (argosyref27_pieces.j5 (k + 1) y0 y1 y2 y3 y4 y5 y6))
  | 0 => ⟨fun _ _ _ _ _ r h => by simp [argosyref27_pieces.l0] at h, fun _ _ _ _ _ _ r h => by simp [argosyref27_pieces.j1] at h, fun _ _ _ _ _ _ _ r h => by simp [argosyref27_pieces.j2] at h, fun _ _ _ _ _ _ _ _ r h => by simp [argosyref27_pieces.j3] at h, fun _ _ _ _ _ _ _ r h => by simp [argosyref27_pieces.j4] at h, fun _ _ _ _ _ _ _ r h => by simp [argosyref27_pieces.j5] at h⟩
  | k + 1 => by
    obtain ⟨ih0, ih1, ih2, ih3, ih4, ih5⟩ := argosyref27_pieces.mono_l k
    refine ⟨?_, ?_, ?_, ?_, ?_, ?_⟩
    · intro y0 y1 y2 y3 y4
      unfold argosyref27_pieces.l0
      repeat' first
      | (with_reducible exact ih0 _ _ _ _ _)
      | (with_reducible exact ih1 _ _ _ _ _ _)
      | (with_reducible exact ih2 _ _ _ _ _ _ _)
      | (with_reducible exact ih3 _ _ _ _ _ _ _ _)
      | (with_reducible exact ih4 _ _ _ _ _ _ _)
      | (with_reducible exact ih5 _ _ _ _ _ _ _)
      | (with_reducible exact LeO.refl _)
      | (with_reducible exact LeO.none _)
      | (with_reducible refine LeO.ite ?_ ?_)
      | (with_reducible refine LeO.bind ?_ (fun _ => ?_))
      | exact ih0 _ _ _ _ _
      | exact ih1 _ _ _ _ _ _
      | exact ih2 _ _ _ _ _ _ _
      | exact ih3 _ _ _ _ _ _ _ _
      | exact ih4 _ _ _ _ _ _ _
      | exact ih5 _ _ _ _ _ _ _
      | exact LeO.none _
      | refine LeO.ite ?_ ?_
      | refine LeO.bind ?_ (fun _ => ?_)
    · intro y0 y1 y2 y3 y4 y5
      unfold argosyref27_pieces.j1
      repeat' first
      | (with_reducible exact ih0 _ _ _ _ _)
      | (with_reducible exact ih1 _ _ _ _ _ _)
      | (with_reducible exact ih2 _ _ _ _ _ _ _)
      | (with_reducible exact ih3 _ _ _ _ _ _ _ _)
      | (with_reducible exact ih4 _ _ _ _ _ _ _)
      | (with_reducible exact ih5 _ _ _ _ _ _ _)
      | (with_reducible exact LeO.refl _)
      | (with_reducible exact LeO.none _)
      | (with_reducible refine LeO.ite ?_ ?_)
      | (with_reducible refine LeO.bind ?_ (fun _ => ?_))
      | exact ih0 _ _ _ _ _
      | exact ih1 _ _ _ _ _ _
      | exact ih2 _ _ _ _ _ _ _
      | exact ih3 _ _ _ _ _ _ _ _
      | exact ih4 _ _ _ _ _ _ _
      | exact ih5 _ _ _ _ _ _ _
      | exact LeO.none _
      | refine LeO.ite ?_ ?_
      | refine LeO.bind ?_ (fun _ => ?_)
    · intro y0 y1 y2 y3 y4 y5 y6
      unfold argosyref27_pieces.j2
      repeat' first
      | (with_reducible exact ih0 _ _ _ _ _)
      | (with_reducible exact ih1 _ _ _ _ _ _)
      | (with_reducible exact ih2 _ _ _ _ _ _ _)
      | (with_reducible exact ih3 _ _ _ _ _ _ _ _)
      | (with_reducible exact ih4 _ _ _ _ _ _ _)
      | (with_reducible exact ih5 _ _ _ _ _ _ _)
      | (with_reducible exact LeO.refl _)
      | (with_reducible exact LeO.none _)
      | (with_reducible refine LeO.ite ?_ ?_)
      | (with_reducible refine LeO.bind ?_ (fun _ => ?_))
      | exact ih0 _ _ _ _ _
      | exact ih1 _ _ _ _ _ _
      | exact ih2 _ _ _ _ _ _ _
      | exact ih3 _ _ _ _ _ _ _ _
      | exact ih4 _ _ _ _ _ _ _
      | exact ih5 _ _ _ _ _ _ _
      | exact LeO.none _
      | refine LeO.ite ?_ ?_
      | refine LeO.bind ?_ (fun _ => ?_)
    · intro y0 y1 y2 y3 y4 y5 y6 y7
      unfold argosyref27_pieces.j3
      repeat' first
      | (with_reducible exact ih0 _ _ _ _ _)
      | (with_reducible exact ih1 _ _ _ _ _ _)
      | (with_reducible exact ih2 _ _ _ _ _ _ _)
      | (with_reducible exact ih3 _ _ _ _ _ _ _ _)
      | (with_reducible exact ih4 _ _ _ _ _ _ _)
      | (with_reducible exact ih5 _ _ _ _ _ _ _)
      | (with_reducible exact LeO.refl _)
      | (with_reducible exact LeO.none _)
      | (with_reducible refine LeO.ite ?_ ?_)
      | (with_reducible refine LeO.bind ?_ (fun _ => ?_))
      | exact ih0 _ _ _ _ _
      | exact ih1 _ _ _ _ _ _
      | exact ih2 _ _ _ _ _ _ _
      | exact ih3 _ _ _ _ _ _ _ _
      | exact ih4 _ _ _ _ _ _ _
      | exact ih5 _ _ _ _ _ _ _
      | exact LeO.none _
      | refine LeO.ite ?_ ?_
      | refine LeO.bind ?_ (fun _ => ?_)
    · intro y0 y1 y2 y3 y4 y5 y6
      unfold argosyref27_pieces.j4
      repeat' first
      | (with_reducible exact ih0 _ _ _ _ _)
      | (with_reducible exact ih1 _ _ _ _ _ _)
      | (with_reducible exact ih2 _ _ _ _ _ _ _)
      | (with_reducible exact ih3 _ _ _ _ _ _ _ _)
      | (with_reducible exact ih4 _ _ _ _ _ _ _)
      | (with_reducible exact ih5 _ _ _ _ _ _ _)
      | (with_reducible exact LeO.refl _)
      | (with_reducible exact LeO.none _)
      | (with_reducible refine LeO.ite ?_ ?_)
      | (with_reducible refine LeO.bind ?_ (fun _ => ?_))
      | exact ih0 _ _ _ _ _
      | exact ih1 _ _ _ _ _ _
      | exact ih2 _ _ _ _ _ _ _
      | exact ih3 _ _ _ _ _ _ _ _
      | exact ih4 _ _ _ _ _ _ _
      | exact ih5 _ _ _ _ _ _ _
      | exact LeO.none _
      | refine LeO.ite ?_ ?_
      | refine LeO.bind ?_ (fun _ => ?_)
    · intro y0 y1 y2 y3 y4 y5 y6
      unfold argosyref27_pieces.j5
      repeat' first
      | (with_reducible exact ih0 _ _ _ _ _)
      | (with_reducible exact ih1 _ _ _ _ _ _)
      | (with_reducible exact ih2 _ _ _ _ _ _ _)
      | (with_reducible exact ih3 _ _ _ _ _ _ _ _)
      | (with_reducible exact ih4 _ _ _ _ _ _ _)
      | (with_reducible exact ih5 _ _ _ _ _ _ _)
      | (with_reducible exact LeO.refl _)
      | (with_reducible exact LeO.none _)
      | (with_reducible refine LeO.ite ?_ ?_)
      | (with_reducible refine LeO.bind ?_ (fun _ => ?_))
      | exact ih0 _ _ _ _ _
      | exact ih1 _ _ _ _ _ _
      | exact ih2 _ _ _ _ _ _ _
      | exact ih3 _ _ _ _ _ _ _ _
      | exact ih4 _ _ _ _ _ _ _
      | exact ih5 _ _ _ _ _ _ _
      | exact LeO.none _
      | refine LeO.ite ?_ ?_
      | refine LeO.bind ?_ (fun _ => ?_)
theorem argosyref27_pieces.mono : ∀ a0 k, LeO (argosyref27_pieces.f k a0) (argosyref27_pieces.f (k + 1) a0) := by
  intro a0 k
  obtain ⟨ih0, ih1, ih2, ih3, ih4, ih5⟩ := argosyref27_pieces.mono_l k
  unfold argosyref27_pieces.f
  repeat' first
      | (with_reducible exact ih0 _ _ _ _ _)
      | (with_reducible exact ih1 _ _ _ _ _ _)
      | (with_reducible exact ih2 _ _ _ _ _ _ _)
      | (with_reducible exact ih3 _ _ _ _ _ _ _ _)
      | (with_reducible exact ih4 _ _ _ _ _ _ _)
      | (with_reducible exact ih5 _ _ _ _ _ _ _)
      | (with_reducible exact LeO.refl _)
      | (with_reducible exact LeO.none _)
      | (with_reducible refine LeO.ite ?_ ?_)
      | (with_reducible refine LeO.bind ?_ (fun _ => ?_))
      | exact ih0 _ _ _ _ _
      | exact ih1 _ _ _ _ _ _
      | exact ih2 _ _ _ _ _ _ _
      | exact ih3 _ _ _ _ _ _ _ _
      | exact ih4 _ _ _ _ _ _ _
      | exact ih5 _ _ _ _ _ _ _
      | exact LeO.none _
      | refine LeO.ite ?_ ?_
      | refine LeO.bind ?_ (fun _ => ?_)
set_option maxHeartbeats 8000000 in
set_option maxRecDepth 100000 in
theorem argosyref27_pieces.calls (k : Nat) (a0 : ByteArray) (r : List (S54)) (w : World) (h : argosyref27_pieces.f k a0 = some r) :
    Calls Try.prog 18 #[.string a0] w fun e w' => ∃ v0_ : Value, e = .returned (v0_) ∧ Kd.R k54 54 w' w.heap.size (fun _ => True) v0_ r ∧ Below w.heap.size w w' := by
  have hu54 := Try.underlying54
  have HB := Aside0.mk (Below.refl w.heap.size w)
  have H : (argosyref27_pieces.l0 k a0 ([] : List (S54)) false (-1) 0) = some r := h
  clear h
  have H' := Aside0.mk H
  clear H
  go_enter Try.func18, Try.ntmps18
  go_wp2
  go_loopg [3, 4, 5, 6] k (fun kq v3 v4 v5 v6 w' => ∃ (x3_1 : List (S54)) (x4_1 : Bool) (x5_1 : Int) (x6_1 : Int), v4 = .bool x4_1 ∧ v5 = .int .i64 x5_1 ∧ v6 = .int .i64 x6_1 ∧ Aside0 (argosyref27_pieces.l0 kq a0 x3_1 x4_1 x5_1 x6_1 = some r) ∧ Aside0 (kq ≤ k) ∧ Aside0 (Kd.R k54 54 w' w.heap.size (fun _ => True) v3 x3_1) ∧ Aside0 (Below w.heap.size w w'))
  case atStart => exact ⟨(([] : List (S54))), (false), ((-1)), (0), (by first | rfl | (simp; done) | (simp [*]; done)), (by first | rfl | (simp; done) | (simp [*]; done)), (by first | rfl | (simp; done) | (simp [*]; done)), H', ⟨Nat.le_refl _⟩, ⟨by first | exact Kd.R_nil _ _ _ _ _ | exact Kd.N_nil _ _ _ _ _ | exact Kd.V_nil _ _ _ _ _ | exact Kd.Q_nil _ _ _ _ _ | exact Kd.S_nil _ _ _ _ _⟩, ⟨by repeat (first | (with_reducible first | exact HB.out | apply below_alloc | apply pw_below_drewN | apply below_drew1) | exact HB.out)⟩⟩
  case round =>
    clear H'
    try clear c1
    obtain ⟨x3_1, x4_1, x5_1, x6_1, rfl, rfl, rfl, HA, HK1, HO_3, HB⟩ := hrel
    cases gk with
    | zero => exact absurd HA.out (by simp [argosyref27_pieces.l0])
    | succ k1 =>
      have H := HA.out
      clear HA
      simp only [argosyref27_pieces.l0] at H
      by_cases c2 : x6_1 ≤ (a0.size : Int)
      · rw [if_pos c2] at H
        have c2b0 : decide (x6_1 ≤ (a0.size : Int)) = true := decide_eq_true c2
        clear c2
        have HC3 := Aside0.mk H
        clear H
        go_upto_if 18 with (fail)
        go_cut [7] (fun v7 wc => ∃ (kq : Nat) (x7_2 : Int), v7 = .int .u8 x7_2 ∧ Aside0 (argosyref27_pieces.j1 kq a0 x3_1 x4_1 x5_1 x6_1 x7_2 = some r) ∧ Aside0 (kq ≤ k1) ∧ Aside0 (Kd.R k54 54 wc w.heap.size (fun _ => True) u3 x3_1) ∧ Aside0 (Below w.heap.size w wc))
        case first =>
          have H := HC3.out
          clear HC3
          by_cases c4 : x6_1 < (a0.size : Int)
          · rw [if_pos c4] at H
            have c4b0 : decide (x6_1 < (a0.size : Int)) = true := decide_eq_true c4
            clear c4
            (first | rw [c4b0] | (simp only [i64_w, i32_w]; rw [c4b0]) | skip)
            by_cases c5 : 0 ≤ x6_1
            · rw [if_pos c5] at H
              have c5b0 : decide (0 ≤ x6_1) = true := decide_eq_true c5
              clear c5
              have H' := Aside0.mk H
              clear H
              have p6 : 0 ≤ (x6_1 : Int) := of_decide_eq_true (by first | (with_reducible assumption) | assumption)
              have q6 : x6_1 < (a0.size : Int) := of_decide_eq_true (by first | (with_reducible assumption) | assumption)
              have hx6 := bt_at a0 x6_1
              replace p6 := eq_true p6
              replace q6 := eq_true q6
              go_wp2
              go_meet
              case rel => exact ⟨_, (bt a0 x6_1), (by first | rfl | (simp; done) | (simp [*]; done)), H', ⟨by have := HK1.out; first | omega | exact Nat.le_refl _⟩, ⟨by (with_reducible repeat (first | apply Kd.R_alloc | apply Kd.R_drewN | apply Kd.R_drew)); exact HO_3.out⟩, ⟨by repeat (first | (with_reducible first | exact HB.out | apply below_alloc | apply pw_below_drewN | apply below_drew1) | exact HB.out)⟩⟩
            · rw [if_neg c5] at H
              exact absurd H (by simp)
          · rw [if_neg c4] at H
            have c4b0 : decide (x6_1 < (a0.size : Int)) = false := decide_eq_false c4
            clear c4
            (first | rw [c4b0] | (simp only [i64_w, i32_w]; rw [c4b0]) | skip)
            have H' := Aside0.mk H
            clear H
            go_wp2
            go_meet
            case rel => exact ⟨_, (10), (by first | rfl | (simp; done) | (simp [*]; done)), H', ⟨by have := HK1.out; first | omega | exact Nat.le_refl _⟩, ⟨by (with_reducible repeat (first | apply Kd.R_alloc | apply Kd.R_drewN | apply Kd.R_drew)); exact HO_3.out⟩, ⟨by repeat (first | (with_reducible first | exact HB.out | apply below_alloc | apply pw_below_drewN | apply below_drew1) | exact HB.out)⟩⟩
        case rest =>
          clear HC3
          try clear c1
          try clear c2
          try clear c2b0
          try clear p2
          try clear c4
          try clear c4b0
          try clear c5
          try clear c5b0
          try clear p6
          try clear q6
          try clear hx6
          try clear p6
          try clear q6
          obtain ⟨kq, x7_2, rfl, HA, HJ2, HO_3, HB⟩ := hcut
          cases kq with
          | zero => exact absurd HA.out (by simp [argosyref27_pieces.j1])
          | succ kj2 =>
            have H := HA.out
            clear HA
            simp only [argosyref27_pieces.j1] at H
            have HC7 := Aside0.mk H
            clear H
            go_upto_region 9 with (fail)
            go_cut [8] (fun v8 wc => ∃ (kq : Nat) (x8_6 : Bool), v8 = .bool x8_6 ∧ Aside0 (argosyref27_pieces.j2 kq a0 x3_1 x4_1 x5_1 x6_1 x7_2 x8_6 = some r) ∧ Aside0 (kq ≤ kj2) ∧ Aside0 (Kd.R k54 54 wc w.heap.size (fun _ => True) u3 x3_1) ∧ Aside0 (Below w.heap.size w wc))
            case first =>
              have H := HC7.out
              clear HC7
              by_cases c8 : x7_2 = 9
              · rw [if_pos c8] at H
                have c8b0 : (x7_2 == 9) = true := beq_iff_eq.mpr c8
                have c8b1 : (x7_2 != 9) = false := bne_eq_false_iff_eq.mpr c8
                clear c8
                (first | rw [c8b0] | (simp only [i64_w, i32_w]; rw [c8b0]) | skip)
                have H' := Aside0.mk H
                clear H
                go_wp2
                go_meet
                case rel => exact ⟨_, (true), (by first | rfl | (simp; done) | (simp [*]; done)), H', ⟨by have := HK1.out; have := HJ2.out; first | omega | exact Nat.le_refl _⟩, ⟨by (with_reducible repeat (first | apply Kd.R_alloc | apply Kd.R_drewN | apply Kd.R_drew)); exact HO_3.out⟩, ⟨by repeat (first | (with_reducible first | exact HB.out | apply below_alloc | apply pw_below_drewN | apply below_drew1) | exact HB.out)⟩⟩
              · rw [if_neg c8] at H
                have c8b0 : (x7_2 == 9) = false := beq_eq_false_iff_ne.mpr c8
                have c8b1 : (x7_2 != 9) = true := bne_iff_ne.mpr c8
                (first | rw [c8b0] | (simp only [i64_w, i32_w]; rw [c8b0]) | skip)
                by_cases c9 : x7_2 = 10
                · rw [if_pos c9] at H
                  have c9b0 : (x7_2 == 10) = true := beq_iff_eq.mpr c9
                  have c9b1 : (x7_2 != 10) = false := bne_eq_false_iff_eq.mpr c9
                  clear c9
                  have H' := Aside0.mk H
                  clear H
                  go_wp2
                  go_meet
                  case rel => exact ⟨_, (true), (by first | rfl | (simp; done) | (simp [*]; done)), H', ⟨by have := HK1.out; have := HJ2.out; first | omega | exact Nat.le_refl _⟩, ⟨by (with_reducible repeat (first | apply Kd.R_alloc | apply Kd.R_drewN | apply Kd.R_drew)); exact HO_3.out⟩, ⟨by repeat (first | (with_reducible first | exact HB.out | apply below_alloc | apply pw_below_drewN | apply below_drew1) | exact HB.out)⟩⟩
                · rw [if_neg c9] at H
                  have c9b0 : (x7_2 == 10) = false := beq_eq_false_iff_ne.mpr c9
                  have c9b1 : (x7_2 != 10) = true := bne_iff_ne.mpr c9
                  by_cases c10 : x7_2 = 13
                  · rw [if_pos c10] at H
                    have c10b0 : (x7_2 == 13) = true := beq_iff_eq.mpr c10
                    have c10b1 : (x7_2 != 13) = false := bne_eq_false_iff_eq.mpr c10
                    clear c10
                    have H' := Aside0.mk H
                    clear H
                    go_wp2
                    go_meet
                    case rel => exact ⟨_, (true), (by first | rfl | (simp; done) | (simp [*]; done)), H', ⟨by have := HK1.out; have := HJ2.out; first | omega | exact Nat.le_refl _⟩, ⟨by (with_reducible repeat (first | apply Kd.R_alloc | apply Kd.R_drewN | apply Kd.R_drew)); exact HO_3.out⟩, ⟨by repeat (first | (with_reducible first | exact HB.out | apply below_alloc | apply pw_below_drewN | apply below_drew1) | exact HB.out)⟩⟩
                  · rw [if_neg c10] at H
                    have c10b0 : (x7_2 == 13) = false := beq_eq_false_iff_ne.mpr c10
                    have c10b1 : (x7_2 != 13) = true := bne_iff_ne.mpr c10
                    by_cases c11 : x7_2 = 32
                    · rw [if_pos c11] at H
                      have c11b0 : (x7_2 == 32) = true := beq_iff_eq.mpr c11
                      have c11b1 : (x7_2 != 32) = false := bne_eq_false_iff_eq.mpr c11
                      clear c11
                      have H' := Aside0.mk H
                      clear H
                      go_wp2
                      go_meet
                      case rel => exact ⟨_, (true), (by first | rfl | (simp; done) | (simp [*]; done)), H', ⟨by have := HK1.out; have := HJ2.out; first | omega | exact Nat.le_refl _⟩, ⟨by (with_reducible repeat (first | apply Kd.R_alloc | apply Kd.R_drewN | apply Kd.R_drew)); exact HO_3.out⟩, ⟨by repeat (first | (with_reducible first | exact HB.out | apply below_alloc | apply pw_below_drewN | apply below_drew1) | exact HB.out)⟩⟩
                    · rw [if_neg c11] at H
                      have c11b0 : (x7_2 == 32) = false := beq_eq_false_iff_ne.mpr c11
                      have c11b1 : (x7_2 != 32) = true := bne_iff_ne.mpr c11
                      by_cases c12 : x7_2 = 35
                      · rw [if_pos c12] at H
                        have c12b0 : (x7_2 == 35) = true := beq_iff_eq.mpr c12
                        have c12b1 : (x7_2 != 35) = false := bne_eq_false_iff_eq.mpr c12
                        clear c12
                        have H' := Aside0.mk H
                        clear H
                        go_wp2
                        go_meet
                        case rel => exact ⟨_, (true), (by first | rfl | (simp; done) | (simp [*]; done)), H', ⟨by have := HK1.out; have := HJ2.out; first | omega | exact Nat.le_refl _⟩, ⟨by (with_reducible repeat (first | apply Kd.R_alloc | apply Kd.R_drewN | apply Kd.R_drew)); exact HO_3.out⟩, ⟨by repeat (first | (with_reducible first | exact HB.out | apply below_alloc | apply pw_below_drewN | apply below_drew1) | exact HB.out)⟩⟩
                      · rw [if_neg c12] at H
                        have c12b0 : (x7_2 == 35) = false := beq_eq_false_iff_ne.mpr c12
                        have c12b1 : (x7_2 != 35) = true := bne_iff_ne.mpr c12
                        by_cases c13 : x7_2 = 59
                        · rw [if_pos c13] at H
                          have c13b0 : (x7_2 == 59) = true := beq_iff_eq.mpr c13
                          have c13b1 : (x7_2 != 59) = false := bne_eq_false_iff_eq.mpr c13
                          clear c13
                          have H' := Aside0.mk H
                          clear H
                          go_wp2
                          go_meet
                          case rel => exact ⟨_, (true), (by first | rfl | (simp; done) | (simp [*]; done)), H', ⟨by have := HK1.out; have := HJ2.out; first | omega | exact Nat.le_refl _⟩, ⟨by (with_reducible repeat (first | apply Kd.R_alloc | apply Kd.R_drewN | apply Kd.R_drew)); exact HO_3.out⟩, ⟨by repeat (first | (with_reducible first | exact HB.out | apply below_alloc | apply pw_below_drewN | apply below_drew1) | exact HB.out)⟩⟩
                        · rw [if_neg c13] at H
                          have c13b0 : (x7_2 == 59) = false := beq_eq_false_iff_ne.mpr c13
                          have c13b1 : (x7_2 != 59) = true := bne_iff_ne.mpr c13
                          have H' := Aside0.mk H
                          clear H
                          go_wp2
                          go_meet
                          case rel => exact ⟨_, (x4_1), (by first | rfl | (simp; done) | (simp [*]; done)), H', ⟨by have := HK1.out; have := HJ2.out; first | omega | exact Nat.le_refl _⟩, ⟨by (with_reducible repeat (first | apply Kd.R_alloc | apply Kd.R_drewN | apply Kd.R_drew)); exact HO_3.out⟩, ⟨by repeat (first | (with_reducible first | exact HB.out | apply below_alloc | apply pw_below_drewN | apply below_drew1) | exact HB.out)⟩⟩
            case rest =>
              clear HC7
              try clear c1
              try clear c2
              try clear c2b0
              try clear p2
              try clear c4
              try clear c4b0
              try clear c5
              try clear c5b0
              try clear p6
              try clear q6
              try clear hx6
              try clear c8
              try clear c8b0
              try clear c8b1
              try clear c9
              try clear c9b0
              try clear c9b1
              try clear c10
              try clear c10b0
              try clear c10b1
              try clear c11
              try clear c11b0
              try clear c11b1
              try clear c12
              try clear c12b0
              try clear c12b1
              try clear c13
              try clear c13b0
              try clear c13b1
              try clear p2
              try clear p6
              try clear q6
              obtain ⟨kq, x8_6, rfl, HA, HJ6, HO_3, HB⟩ := hcut
              cases kq with
              | zero => exact absurd HA.out (by simp [argosyref27_pieces.j2])
              | succ kj6 =>
                have H := HA.out
                clear HA
                simp only [argosyref27_pieces.j2] at H
                have HC14 := Aside0.mk H
                clear H
                go_upto_region 10 with (fail)
                go_cut [51] (fun v51 wc => ∃ (kq : Nat) (x51_13 : Bool), v51 = .bool x51_13 ∧ Aside0 (argosyref27_pieces.j3 kq a0 x3_1 x4_1 x5_1 x6_1 x7_2 x8_6 x51_13 = some r) ∧ Aside0 (kq ≤ kj6) ∧ Aside0 (Kd.R k54 54 wc w.heap.size (fun _ => True) u3 x3_1) ∧ Aside0 (Below w.heap.size w wc))
                case first =>
                  have H := HC14.out
                  clear HC14
                  by_cases c15 : x8_6 = true
                  · subst c15
                    have H1 : (argosyref27_pieces.j3 kj6 a0 x3_1 x4_1 x5_1 x6_1 x7_2 true (decide (x5_1 ≥ 0))) = some r := by rw [if_pos rfl] at H; exact H
                    clear H
                    have H := H1
                    clear H1
                    have H' := Aside0.mk H
                    clear H
                    go_wp2
                    go_meet
                    case rel => exact ⟨_, (decide (x5_1 ≥ 0)), (by first | rfl | (simp; done) | (simp [*]; done)), H', ⟨by have := HK1.out; have := HJ2.out; have := HJ6.out; first | omega | exact Nat.le_refl _⟩, ⟨by (with_reducible repeat (first | apply Kd.R_alloc | apply Kd.R_drewN | apply Kd.R_drew)); exact HO_3.out⟩, ⟨by repeat (first | (with_reducible first | exact HB.out | apply below_alloc | apply pw_below_drewN | apply below_drew1) | exact HB.out)⟩⟩
                  · replace c15 := Bool.eq_false_iff.mpr c15
                    subst c15
                    have H1 : (argosyref27_pieces.j3 kj6 a0 x3_1 x4_1 x5_1 x6_1 x7_2 false false) = some r := by rw [if_neg (show ¬ (false = true) by decide)] at H; exact H
                    clear H
                    have H := H1
                    clear H1
                    have H' := Aside0.mk H
                    clear H
                    go_wp2
                    go_meet
                    case rel => exact ⟨_, (false), (by first | rfl | (simp; done) | (simp [*]; done)), H', ⟨by have := HK1.out; have := HJ2.out; have := HJ6.out; first | omega | exact Nat.le_refl _⟩, ⟨by (with_reducible repeat (first | apply Kd.R_alloc | apply Kd.R_drewN | apply Kd.R_drew)); exact HO_3.out⟩, ⟨by repeat (first | (with_reducible first | exact HB.out | apply below_alloc | apply pw_below_drewN | apply below_drew1) | exact HB.out)⟩⟩
                case rest =>
                  clear HC14
                  try clear c1
                  try clear c2
                  try clear c2b0
                  try clear p2
                  try clear c4
                  try clear c4b0
                  try clear c5
                  try clear c5b0
                  try clear p6
                  try clear q6
                  try clear hx6
                  try clear c8
                  try clear c8b0
                  try clear c8b1
                  try clear c9
                  try clear c9b0
                  try clear c9b1
                  try clear c10
                  try clear c10b0
                  try clear c10b1
                  try clear c11
                  try clear c11b0
                  try clear c11b1
                  try clear c12
                  try clear c12b0
                  try clear c12b1
                  try clear c13
                  try clear c13b0
                  try clear c13b1
                  try clear c15
                  try clear p2
                  try clear p6
                  try clear q6
                  obtain ⟨kq, x51_13, rfl, HA, HJ13, HO_3, HB⟩ := hcut
                  cases kq with
                  | zero => exact absurd HA.out (by simp [argosyref27_pieces.j3])
                  | succ kj13 =>
                    have H := HA.out
                    clear HA
                    simp only [argosyref27_pieces.j3] at H
                    have HC16 := Aside0.mk H
                    clear H
                    go_upto_if 51 with (fail)
                    go_cut [3, 5] (fun v3 v5 wc => ∃ (kq : Nat) (x3_15 : List (S54)) (x5_15 : Int), v5 = .int .i64 x5_15 ∧ Aside0 (argosyref27_pieces.j4 kq a0 x3_15 x4_1 x5_15 x6_1 x7_2 x8_6 = some r) ∧ Aside0 (kq ≤ kj13) ∧ Aside0 (Kd.R k54 54 wc w.heap.size (fun _ => True) v3 x3_15) ∧ Aside0 (Below w.heap.size w wc))
                    case first =>
                      have H := HC16.out
                      clear HC16
                      by_cases c17 : x51_13 = true
                      · subst c17
                        have H1 : (if 0 ≤ x5_1 then (if x5_1 ≤ x6_1 then (if x6_1 ≤ (a0.size : Int) then (if x3_1.length < 5864062014805 then (argosyref27_pieces.j4 kj13 a0 (x3_1 ++ [(⟨(a0.extract (x5_1 : Int).toNat (x6_1 : Int).toNat), x5_1⟩ : S54)]) x4_1 (-1) x6_1 x7_2 x8_6) else (none)) else (none)) else (none)) else (none)) = some r := by rw [if_pos rfl] at H; exact H
                        clear H
                        have H := H1
                        clear H1
                        by_cases c18 : 0 ≤ x5_1
                        · rw [if_pos c18] at H
                          have c18b0 := eq_true c18
                          have c18b1 : decide (0 ≤ x5_1) = true := decide_eq_true c18
                          clear c18
                          by_cases c19 : x5_1 ≤ x6_1
                          · rw [if_pos c19] at H
                            have c19b0 := eq_true c19
                            have c19b1 : decide (x5_1 ≤ x6_1) = true := decide_eq_true c19
                            clear c19
                            by_cases c20 : x6_1 ≤ (a0.size : Int)
                            · rw [if_pos c20] at H
                              have c20b0 := eq_true c20
                              have c20b1 : decide (x6_1 ≤ (a0.size : Int)) = true := decide_eq_true c20
                              clear c20
                              obtain ⟨y178, hy178⟩ : ∃ y_ : ByteArray, y_ = (a0.extract (x5_1 : Int).toNat (x6_1 : Int).toNat) := ⟨_, rfl⟩
                              replace H : (if x3_1.length < 5864062014805 then (argosyref27_pieces.j4 kj13 a0 (x3_1 ++ [(⟨y178, x5_1⟩ : S54)]) x4_1 (-1) x6_1 x7_2 x8_6) else (none)) = some r := by first | (rw [hy178]; with_reducible exact H) | (have H2_ := (Option.bind_some _ _).symm.trans H; rw [hy178]; with_reducible exact H2_) | (have H2_ := (Option.bind_some _ _).symm.trans H; with_reducible exact H2_) | with_reducible exact H | (rw [hy178]; exact H) | exact H
                              have Ny178 := Aside0.mk hy178
                              clear hy178
                              have hsx_y178 := Ny178.out.symm
                              (try simp only [Int.toNat_natCast, Int.reduceToNat] at hsx_y178)
                              by_cases c21 : x3_1.length < 5864062014805
                              · rw [if_pos c21] at H
                                have LMc21 := Aside0.mk c21
                                clear c21
                                obtain ⟨y179, hy179⟩ : ∃ y_ : List (S54), y_ = (x3_1 ++ [(⟨y178, x5_1⟩ : S54)]) := ⟨_, rfl⟩
                                replace H : (argosyref27_pieces.j4 kj13 a0 y179 x4_1 (-1) x6_1 x7_2 x8_6) = some r := by first | (rw [hy179]; with_reducible exact H) | (have H2_ := (Option.bind_some _ _).symm.trans H; rw [hy179]; with_reducible exact H2_) | (have H2_ := (Option.bind_some _ _).symm.trans H; with_reducible exact H2_) | with_reducible exact H | (rw [hy179]; exact H) | exact H
                                have Ny179 := Aside0.mk hy179
                                clear hy179
                                have H' := Aside0.mk H
                                clear H
                                go_wp2_with (first | ((with_reducible refine gate_builtin (b := .append) (xs := #[.tmp 52, .tmp 59]) rfl ?_); at_builtin; refine Kd.R_append k54 (w0 := w) w.heap.size rfl (.tmp 52) (.tmp 59) 51 54 (.agg #[(.string ⟨#[]⟩), (.int .i64 0)]) 24 rfl Try.underlying51 info54 rfl (by decide) (by omega) u3 x3_1 (⟨y178, x5_1⟩ : S54) [.string y178, .int .i64 x5_1] (fun _ => True) (fun _ => False) rfl rfl ?aP (fun _ hk => hk.elim) ?aF ?aO ?aB ?aS ?aL ?_; (case aP => exact k54_mkM _ _ _ (⟨y178, x5_1⟩ : S54)); (case aB => exact (by repeat (first | (with_reducible first | exact HB.out | apply below_alloc | apply pw_below_drewN | apply below_drew1) | exact HB.out))); (case aF => exact (fun _ _ => trivial)); (case aO => exact (by (with_reducible repeat (first | apply Kd.R_alloc | apply Kd.R_drewN | apply Kd.R_drew)); exact HO_3.out)); (case aS => exact (below_size (by repeat (first | (with_reducible first | exact HB.out | apply below_alloc | apply pw_below_drewN | apply below_drew1) | exact HB.out)))); (case aL => have := LMc21.out; omega); intro v180 w22 ho hb hg hat; rw [← Ny179.out] at ho; have n0_ := Aside0.mk (hb); have n1_ := Aside0.mk (ho); clear HB; clear HO_3; have HB := n0_; have HO181 := n1_; clear n0_ n1_; clear ho hb hg hat))
                                go_meet
                                case rel => exact ⟨_, (y179), ((-1)), (by first | rfl | (simp; done) | (simp [*]; done)), H', ⟨by have := HK1.out; have := HJ2.out; have := HJ6.out; have := HJ13.out; first | omega | exact Nat.le_refl _⟩, ⟨by (with_reducible repeat (first | apply Kd.R_alloc | apply Kd.R_drewN | apply Kd.R_drew)); exact HO181.out⟩, ⟨by repeat (first | (with_reducible first | exact HB.out | apply below_alloc | apply pw_below_drewN | apply below_drew1) | exact HB.out)⟩⟩
                              · rw [if_neg c21] at H
                                exact absurd H (by simp)
                            · rw [if_neg c20] at H
                              exact absurd H (by simp)
                          · rw [if_neg c19] at H
                            exact absurd H (by simp)
                        · rw [if_neg c18] at H
                          exact absurd H (by simp)
                      · replace c17 := Bool.eq_false_iff.mpr c17
                        subst c17
                        have H1 : (argosyref27_pieces.j4 kj13 a0 x3_1 x4_1 x5_1 x6_1 x7_2 x8_6) = some r := by rw [if_neg (show ¬ (false = true) by decide)] at H; exact H
                        clear H
                        have H := H1
                        clear H1
                        have H' := Aside0.mk H
                        clear H
                        go_wp2
                        go_meet
                        case rel => exact ⟨_, (x3_1), (x5_1), (by first | rfl | (simp; done) | (simp [*]; done)), H', ⟨by have := HK1.out; have := HJ2.out; have := HJ6.out; have := HJ13.out; first | omega | exact Nat.le_refl _⟩, ⟨by (with_reducible repeat (first | apply Kd.R_alloc | apply Kd.R_drewN | apply Kd.R_drew)); exact HO_3.out⟩, ⟨by repeat (first | (with_reducible first | exact HB.out | apply below_alloc | apply pw_below_drewN | apply below_drew1) | exact HB.out)⟩⟩
                    case rest =>
                      clear HC16
                      try clear c1
                      try clear c2
                      try clear c2b0
                      try clear p2
                      try clear c4
                      try clear c4b0
                      try clear c5
                      try clear c5b0
                      try clear p6
                      try clear q6
                      try clear hx6
                      try clear c8
                      try clear c8b0
                      try clear c8b1
                      try clear c9
                      try clear c9b0
                      try clear c9b1
                      try clear c10
                      try clear c10b0
                      try clear c10b1
                      try clear c11
                      try clear c11b0
                      try clear c11b1
                      try clear c12
                      try clear c12b0
                      try clear c12b1
                      try clear c13
                      try clear c13b0
                      try clear c13b1
                      try clear c15
                      try clear c17
                      try clear c18
                      try clear c18b0
                      try clear c18b1
                      try clear c19
                      try clear c19b0
                      try clear c19b1
                      try clear c20
                      try clear c20b0
                      try clear c20b1
                      try clear c21
                      try clear p2
                      try clear p6
                      try clear q6
                      obtain ⟨kq, x3_15, x5_15, rfl, HA, HJ15, HO_3, HB⟩ := hcut
                      cases kq with
                      | zero => exact absurd HA.out (by simp [argosyref27_pieces.j4])
                      | succ kj15 =>
                        have H := HA.out
                        clear HA
                        simp only [argosyref27_pieces.j4] at H
                        have HC23 := Aside0.mk H
                        clear H
                        go_upto_region 13 with (fail)
                        go_cut [66] (fun v66 wc => ∃ (kq : Nat) (x66_22 : Bool), v66 = .bool x66_22 ∧ Aside0 (argosyref27_pieces.j5 kq a0 x3_15 x4_1 x5_15 x6_1 x7_2 x66_22 = some r) ∧ Aside0 (kq ≤ kj15) ∧ Aside0 (Kd.R k54 54 wc w.heap.size (fun _ => True) u3 x3_15) ∧ Aside0 (Below w.heap.size w wc))
                        case first =>
                          have H := HC23.out
                          clear HC23
                          by_cases c24 : x8_6 = true
                          · subst c24
                            have H1 : (argosyref27_pieces.j5 kj15 a0 x3_15 x4_1 x5_15 x6_1 x7_2 false) = some r := by rw [if_pos rfl] at H; exact H
                            clear H
                            have H := H1
                            clear H1
                            have H' := Aside0.mk H
                            clear H
                            go_wp2
                            go_meet
                            case rel => exact ⟨_, (false), (by first | rfl | (simp; done) | (simp [*]; done)), H', ⟨by have := HK1.out; have := HJ2.out; have := HJ6.out; have := HJ13.out; have := HJ15.out; first | omega | exact Nat.le_refl _⟩, ⟨by (with_reducible repeat (first | apply Kd.R_alloc | apply Kd.R_drewN | apply Kd.R_drew)); exact HO_3.out⟩, ⟨by repeat (first | (with_reducible first | exact HB.out | apply below_alloc | apply pw_below_drewN | apply below_drew1) | exact HB.out)⟩⟩
                          · replace c24 := Bool.eq_false_iff.mpr c24
                            subst c24
                            have H1 : (argosyref27_pieces.j5 kj15 a0 x3_15 x4_1 x5_15 x6_1 x7_2 (decide (x5_15 < 0))) = some r := by rw [if_neg (show ¬ (false = true) by decide)] at H; exact H
                            clear H
                            have H := H1
                            clear H1
                            have H' := Aside0.mk H
                            clear H
                            go_wp2
                            go_meet
                            case rel => exact ⟨_, (decide (x5_15 < 0)), (by first | rfl | (simp; done) | (simp [*]; done)), H', ⟨by have := HK1.out; have := HJ2.out; have := HJ6.out; have := HJ13.out; have := HJ15.out; first | omega | exact Nat.le_refl _⟩, ⟨by (with_reducible repeat (first | apply Kd.R_alloc | apply Kd.R_drewN | apply Kd.R_drew)); exact HO_3.out⟩, ⟨by repeat (first | (with_reducible first | exact HB.out | apply below_alloc | apply pw_below_drewN | apply below_drew1) | exact HB.out)⟩⟩
                        case rest =>
                          clear HC23
                          try clear c1
                          try clear c2
                          try clear c2b0
                          try clear p2
                          try clear c4
                          try clear c4b0
                          try clear c5
                          try clear c5b0
                          try clear p6
                          try clear q6
                          try clear hx6
                          try clear c8
                          try clear c8b0
                          try clear c8b1
                          try clear c9
                          try clear c9b0
                          try clear c9b1
                          try clear c10
                          try clear c10b0
                          try clear c10b1
                          try clear c11
                          try clear c11b0
                          try clear c11b1
                          try clear c12
                          try clear c12b0
                          try clear c12b1
                          try clear c13
                          try clear c13b0
                          try clear c13b1
                          try clear c15
                          try clear c17
                          try clear c18
                          try clear c18b0
                          try clear c18b1
                          try clear c19
                          try clear c19b0
                          try clear c19b1
                          try clear c20
                          try clear c20b0
                          try clear c20b1
                          try clear c21
                          try clear c24
                          try clear p2
                          try clear p6
                          try clear q6
                          obtain ⟨kq, x66_22, rfl, HA, HJ22, HO_3, HB⟩ := hcut
                          cases kq with
                          | zero => exact absurd HA.out (by simp [argosyref27_pieces.j5])
                          | succ kj22 =>
                            have H := HA.out
                            clear HA
                            simp only [argosyref27_pieces.j5] at H
                            by_cases c25 : x66_22 = true
                            · subst c25
                              have H1 : (if x7_2 = 59 then (if x4_1 = true then (argosyref27_pieces.l0 kj22 a0 x3_15 (x7_2 != 10) x6_1 (wrap64 (x6_1 + 1))) else (if x3_15.length < 5864062014805 then ((some (x3_15 ++ [(⟨(⟨#[59]⟩ : ByteArray), x6_1⟩ : S54)] : List (S54))).bind fun y182 => (if x7_2 = 35 then (argosyref27_pieces.l0 kj22 a0 y182 (x7_2 != 10) x6_1 (wrap64 (x6_1 + 1))) else (argosyref27_pieces.l0 kj22 a0 y182 false x6_1 (wrap64 (x6_1 + 1))))) else (none))) else (if x4_1 = true then (argosyref27_pieces.l0 kj22 a0 x3_15 (x7_2 != 10) x6_1 (wrap64 (x6_1 + 1))) else (if x7_2 = 35 then (argosyref27_pieces.l0 kj22 a0 x3_15 (x7_2 != 10) x6_1 (wrap64 (x6_1 + 1))) else (argosyref27_pieces.l0 kj22 a0 x3_15 false x6_1 (wrap64 (x6_1 + 1)))))) = some r := by rw [if_pos rfl] at H; exact H
                              clear H
                              have H := H1
                              clear H1
                              by_cases c26 : x7_2 = 59
                              · rw [if_pos c26] at H
                                have c26b0 : (x7_2 == 59) = true := beq_iff_eq.mpr c26
                                have c26b1 : (x7_2 != 59) = false := bne_eq_false_iff_eq.mpr c26
                                clear c26
                                by_cases c27 : x4_1 = true
                                · subst c27
                                  have H1 : (argosyref27_pieces.l0 kj22 a0 x3_15 (x7_2 != 10) x6_1 (wrap64 (x6_1 + 1))) = some r := by rw [if_pos rfl] at H; exact H
                                  clear H
                                  have H := H1
                                  clear H1
                                  have H' := Aside0.mk H
                                  clear H
                                  go_wp2
                                  go_roundg kj22
                                  case measure => have := HK1.out; have := HJ2.out; have := HJ6.out; have := HJ13.out; have := HJ15.out; have := HJ22.out; omega
                                  case rel => exact ⟨(x3_15), ((x7_2 != 10)), (x6_1), (wrap64 (x6_1 + 1)), (by first | rfl | (simp; done) | (simp [*]; done)), (by first | rfl | (simp; done) | (simp [*]; done)), (by first | rfl | (simp; done) | (simp [*]; done)), H', ⟨by have := HK1.out; have := HJ2.out; have := HJ6.out; have := HJ13.out; have := HJ15.out; have := HJ22.out; omega⟩, ⟨by (with_reducible repeat (first | apply Kd.R_alloc | apply Kd.R_drewN | apply Kd.R_drew)); exact HO_3.out⟩, ⟨by repeat (first | (with_reducible first | exact HB.out | apply below_alloc | apply pw_below_drewN | apply below_drew1) | exact HB.out)⟩⟩
                                · replace c27 := Bool.eq_false_iff.mpr c27
                                  subst c27
                                  have H1 : (if x3_15.length < 5864062014805 then ((some (x3_15 ++ [(⟨(⟨#[59]⟩ : ByteArray), x6_1⟩ : S54)] : List (S54))).bind fun y182 => (if x7_2 = 35 then (argosyref27_pieces.l0 kj22 a0 y182 (x7_2 != 10) x6_1 (wrap64 (x6_1 + 1))) else (argosyref27_pieces.l0 kj22 a0 y182 false x6_1 (wrap64 (x6_1 + 1))))) else (none)) = some r := by rw [if_neg (show ¬ (false = true) by decide)] at H; exact H
                                  clear H
                                  have H := H1
                                  clear H1
                                  by_cases c28 : x3_15.length < 5864062014805
                                  · rw [if_pos c28] at H
                                    have LMc28 := Aside0.mk c28
                                    clear c28
                                    obtain ⟨y182, hy182⟩ : ∃ y_ : List (S54), y_ = (x3_15 ++ [(⟨(⟨#[59]⟩ : ByteArray), x6_1⟩ : S54)]) := ⟨_, rfl⟩
                                    replace H : (if x7_2 = 35 then (argosyref27_pieces.l0 kj22 a0 y182 (x7_2 != 10) x6_1 (wrap64 (x6_1 + 1))) else (argosyref27_pieces.l0 kj22 a0 y182 false x6_1 (wrap64 (x6_1 + 1)))) = some r := by first | (rw [hy182]; with_reducible exact H) | (have H2_ := (Option.bind_some _ _).symm.trans H; rw [hy182]; with_reducible exact H2_) | (have H2_ := (Option.bind_some _ _).symm.trans H; with_reducible exact H2_) | with_reducible exact H | (rw [hy182]; exact H) | exact H
                                    have Ny182 := Aside0.mk hy182
                                    clear hy182
                                    by_cases c29 : x7_2 = 35
                                    · rw [if_pos c29] at H
                                      have c29b0 : (x7_2 == 35) = true := beq_iff_eq.mpr c29
                                      have c29b1 : (x7_2 != 35) = false := bne_eq_false_iff_eq.mpr c29
                                      clear c29
                                      have H' := Aside0.mk H
                                      clear H
                                      go_wp2_with (first | ((with_reducible refine gate_builtin (b := .append) (xs := #[.tmp 74, .tmp 77]) rfl ?_); at_builtin; refine Kd.R_append k54 (w0 := w) w.heap.size rfl (.tmp 74) (.tmp 77) 51 54 (.agg #[(.string ⟨#[]⟩), (.int .i64 0)]) 24 rfl Try.underlying51 info54 rfl (by decide) (by omega) u3 x3_15 (⟨(⟨#[59]⟩ : ByteArray), x6_1⟩ : S54) [.string (⟨#[59]⟩ : ByteArray), .int .i64 x6_1] (fun _ => True) (fun _ => False) rfl rfl ?aP (fun _ hk => hk.elim) ?aF ?aO ?aB ?aS ?aL ?_; (case aP => exact k54_mkM _ _ _ (⟨(⟨#[59]⟩ : ByteArray), x6_1⟩ : S54)); (case aB => exact (by repeat (first | (with_reducible first | exact HB.out | apply below_alloc | apply pw_below_drewN | apply below_drew1) | exact HB.out))); (case aF => exact (fun _ _ => trivial)); (case aO => exact (by (with_reducible repeat (first | apply Kd.R_alloc | apply Kd.R_drewN | apply Kd.R_drew)); exact HO_3.out)); (case aS => exact (below_size (by repeat (first | (with_reducible first | exact HB.out | apply below_alloc | apply pw_below_drewN | apply below_drew1) | exact HB.out)))); (case aL => have := LMc28.out; omega); intro v183 w30 ho hb hg hat; rw [← Ny182.out] at ho; have n0_ := Aside0.mk (hb); have n1_ := Aside0.mk (ho); clear HB; clear HO_3; have HB := n0_; have HO184 := n1_; clear n0_ n1_; clear ho hb hg hat))
                                      go_roundg kj22
                                      case measure => have := HK1.out; have := HJ2.out; have := HJ6.out; have := HJ13.out; have := HJ15.out; have := HJ22.out; omega
                                      case rel => exact ⟨(y182), ((x7_2 != 10)), (x6_1), (wrap64 (x6_1 + 1)), (by first | rfl | (simp; done) | (simp [*]; done)), (by first | rfl | (simp; done) | (simp [*]; done)), (by first | rfl | (simp; done) | (simp [*]; done)), H', ⟨by have := HK1.out; have := HJ2.out; have := HJ6.out; have := HJ13.out; have := HJ15.out; have := HJ22.out; omega⟩, ⟨by (with_reducible repeat (first | apply Kd.R_alloc | apply Kd.R_drewN | apply Kd.R_drew)); exact HO184.out⟩, ⟨by repeat (first | (with_reducible first | exact HB.out | apply below_alloc | apply pw_below_drewN | apply below_drew1) | exact HB.out)⟩⟩
                                    · rw [if_neg c29] at H
                                      have c29b0 : (x7_2 == 35) = false := beq_eq_false_iff_ne.mpr c29
                                      have c29b1 : (x7_2 != 35) = true := bne_iff_ne.mpr c29
                                      have H' := Aside0.mk H
                                      clear H
                                      go_wp2_with (first | ((with_reducible refine gate_builtin (b := .append) (xs := #[.tmp 74, .tmp 77]) rfl ?_); at_builtin; refine Kd.R_append k54 (w0 := w) w.heap.size rfl (.tmp 74) (.tmp 77) 51 54 (.agg #[(.string ⟨#[]⟩), (.int .i64 0)]) 24 rfl Try.underlying51 info54 rfl (by decide) (by omega) u3 x3_15 (⟨(⟨#[59]⟩ : ByteArray), x6_1⟩ : S54) [.string (⟨#[59]⟩ : ByteArray), .int .i64 x6_1] (fun _ => True) (fun _ => False) rfl rfl ?aP (fun _ hk => hk.elim) ?aF ?aO ?aB ?aS ?aL ?_; (case aP => exact k54_mkM _ _ _ (⟨(⟨#[59]⟩ : ByteArray), x6_1⟩ : S54)); (case aB => exact (by repeat (first | (with_reducible first | exact HB.out | apply below_alloc | apply pw_below_drewN | apply below_drew1) | exact HB.out))); (case aF => exact (fun _ _ => trivial)); (case aO => exact (by (with_reducible repeat (first | apply Kd.R_alloc | apply Kd.R_drewN | apply Kd.R_drew)); exact HO_3.out)); (case aS => exact (below_size (by repeat (first | (with_reducible first | exact HB.out | apply below_alloc | apply pw_below_drewN | apply below_drew1) | exact HB.out)))); (case aL => have := LMc28.out; omega); intro v183 w31 ho hb hg hat; rw [← Ny182.out] at ho; have n0_ := Aside0.mk (hb); have n1_ := Aside0.mk (ho); clear HB; clear HO_3; have HB := n0_; have HO184 := n1_; clear n0_ n1_; clear ho hb hg hat))
                                      go_roundg kj22
                                      case measure => have := HK1.out; have := HJ2.out; have := HJ6.out; have := HJ13.out; have := HJ15.out; have := HJ22.out; omega
                                      case rel => exact ⟨(y182), (false), (x6_1), (wrap64 (x6_1 + 1)), (by first | rfl | (simp; done) | (simp [*]; done)), (by first | rfl | (simp; done) | (simp [*]; done)), (by first | rfl | (simp; done) | (simp [*]; done)), H', ⟨by have := HK1.out; have := HJ2.out; have := HJ6.out; have := HJ13.out; have := HJ15.out; have := HJ22.out; omega⟩, ⟨by (with_reducible repeat (first | apply Kd.R_alloc | apply Kd.R_drewN | apply Kd.R_drew)); exact HO184.out⟩, ⟨by repeat (first | (with_reducible first | exact HB.out | apply below_alloc | apply pw_below_drewN | apply below_drew1) | exact HB.out)⟩⟩
                                  · rw [if_neg c28] at H
                                    exact absurd H (by simp)
                              · rw [if_neg c26] at H
                                have c26b0 : (x7_2 == 59) = false := beq_eq_false_iff_ne.mpr c26
                                have c26b1 : (x7_2 != 59) = true := bne_iff_ne.mpr c26
                                by_cases c32 : x4_1 = true
                                · subst c32
                                  have H1 : (argosyref27_pieces.l0 kj22 a0 x3_15 (x7_2 != 10) x6_1 (wrap64 (x6_1 + 1))) = some r := by rw [if_pos rfl] at H; exact H
                                  clear H
                                  have H := H1
                                  clear H1
                                  have H' := Aside0.mk H
                                  clear H
                                  go_wp2
                                  go_roundg kj22
                                  case measure => have := HK1.out; have := HJ2.out; have := HJ6.out; have := HJ13.out; have := HJ15.out; have := HJ22.out; omega
                                  case rel => exact ⟨(x3_15), ((x7_2 != 10)), (x6_1), (wrap64 (x6_1 + 1)), (by first | rfl | (simp; done) | (simp [*]; done)), (by first | rfl | (simp; done) | (simp [*]; done)), (by first | rfl | (simp; done) | (simp [*]; done)), H', ⟨by have := HK1.out; have := HJ2.out; have := HJ6.out; have := HJ13.out; have := HJ15.out; have := HJ22.out; omega⟩, ⟨by (with_reducible repeat (first | apply Kd.R_alloc | apply Kd.R_drewN | apply Kd.R_drew)); exact HO_3.out⟩, ⟨by repeat (first | (with_reducible first | exact HB.out | apply below_alloc | apply pw_below_drewN | apply below_drew1) | exact HB.out)⟩⟩
                                · replace c32 := Bool.eq_false_iff.mpr c32
                                  subst c32
                                  have H1 : (if x7_2 = 35 then (argosyref27_pieces.l0 kj22 a0 x3_15 (x7_2 != 10) x6_1 (wrap64 (x6_1 + 1))) else (argosyref27_pieces.l0 kj22 a0 x3_15 false x6_1 (wrap64 (x6_1 + 1)))) = some r := by rw [if_neg (show ¬ (false = true) by decide)] at H; exact H
                                  clear H
                                  have H := H1
                                  clear H1
                                  by_cases c33 : x7_2 = 35
                                  · rw [if_pos c33] at H
                                    have c33b0 : (x7_2 == 35) = true := beq_iff_eq.mpr c33
                                    have c33b1 : (x7_2 != 35) = false := bne_eq_false_iff_eq.mpr c33
                                    clear c33
                                    have H' := Aside0.mk H
                                    clear H
                                    go_wp2
                                    go_roundg kj22
                                    case measure => have := HK1.out; have := HJ2.out; have := HJ6.out; have := HJ13.out; have := HJ15.out; have := HJ22.out; omega
                                    case rel => exact ⟨(x3_15), ((x7_2 != 10)), (x6_1), (wrap64 (x6_1 + 1)), (by first | rfl | (simp; done) | (simp [*]; done)), (by first | rfl | (simp; done) | (simp [*]; done)), (by first | rfl | (simp; done) | (simp [*]; done)), H', ⟨by have := HK1.out; have := HJ2.out; have := HJ6.out; have := HJ13.out; have := HJ15.out; have := HJ22.out; omega⟩, ⟨by (with_reducible repeat (first | apply Kd.R_alloc | apply Kd.R_drewN | apply Kd.R_drew)); exact HO_3.out⟩, ⟨by repeat (first | (with_reducible first | exact HB.out | apply below_alloc | apply pw_below_drewN | apply below_drew1) | exact HB.out)⟩⟩
                                  · rw [if_neg c33] at H
                                    have c33b0 : (x7_2 == 35) = false := beq_eq_false_iff_ne.mpr c33
                                    have c33b1 : (x7_2 != 35) = true := bne_iff_ne.mpr c33
                                    have H' := Aside0.mk H
                                    clear H
                                    go_wp2
                                    go_roundg kj22
                                    case measure => have := HK1.out; have := HJ2.out; have := HJ6.out; have := HJ13.out; have := HJ15.out; have := HJ22.out; omega
                                    case rel => exact ⟨(x3_15), (false), (x6_1), (wrap64 (x6_1 + 1)), (by first | rfl | (simp; done) | (simp [*]; done)), (by first | rfl | (simp; done) | (simp [*]; done)), (by first | rfl | (simp; done) | (simp [*]; done)), H', ⟨by have := HK1.out; have := HJ2.out; have := HJ6.out; have := HJ13.out; have := HJ15.out; have := HJ22.out; omega⟩, ⟨by (with_reducible repeat (first | apply Kd.R_alloc | apply Kd.R_drewN | apply Kd.R_drew)); exact HO_3.out⟩, ⟨by repeat (first | (with_reducible first | exact HB.out | apply below_alloc | apply pw_below_drewN | apply below_drew1) | exact HB.out)⟩⟩
                            · replace c25 := Bool.eq_false_iff.mpr c25
                              subst c25
                              have H1 : (if x7_2 = 59 then (if x4_1 = true then (argosyref27_pieces.l0 kj22 a0 x3_15 (x7_2 != 10) x5_15 (wrap64 (x6_1 + 1))) else (if x3_15.length < 5864062014805 then ((some (x3_15 ++ [(⟨(⟨#[59]⟩ : ByteArray), x6_1⟩ : S54)] : List (S54))).bind fun y185 => (if x7_2 = 35 then (argosyref27_pieces.l0 kj22 a0 y185 (x7_2 != 10) x5_15 (wrap64 (x6_1 + 1))) else (argosyref27_pieces.l0 kj22 a0 y185 false x5_15 (wrap64 (x6_1 + 1))))) else (none))) else (if x4_1 = true then (argosyref27_pieces.l0 kj22 a0 x3_15 (x7_2 != 10) x5_15 (wrap64 (x6_1 + 1))) else (if x7_2 = 35 then (argosyref27_pieces.l0 kj22 a0 x3_15 (x7_2 != 10) x5_15 (wrap64 (x6_1 + 1))) else (argosyref27_pieces.l0 kj22 a0 x3_15 false x5_15 (wrap64 (x6_1 + 1)))))) = some r := by rw [if_neg (show ¬ (false = true) by decide)] at H; exact H
                              clear H
                              have H := H1
                              clear H1
                              by_cases c34 : x7_2 = 59
                              · rw [if_pos c34] at H
                                have c34b0 : (x7_2 == 59) = true := beq_iff_eq.mpr c34
                                have c34b1 : (x7_2 != 59) = false := bne_eq_false_iff_eq.mpr c34
                                clear c34
                                by_cases c35 : x4_1 = true
                                · subst c35
                                  have H1 : (argosyref27_pieces.l0 kj22 a0 x3_15 (x7_2 != 10) x5_15 (wrap64 (x6_1 + 1))) = some r := by rw [if_pos rfl] at H; exact H
                                  clear H
                                  have H := H1
                                  clear H1
                                  have H' := Aside0.mk H
                                  clear H
                                  go_wp2
                                  go_roundg kj22
                                  case measure => have := HK1.out; have := HJ2.out; have := HJ6.out; have := HJ13.out; have := HJ15.out; have := HJ22.out; omega
                                  case rel => exact ⟨(x3_15), ((x7_2 != 10)), (x5_15), (wrap64 (x6_1 + 1)), (by first | rfl | (simp; done) | (simp [*]; done)), (by first | rfl | (simp; done) | (simp [*]; done)), (by first | rfl | (simp; done) | (simp [*]; done)), H', ⟨by have := HK1.out; have := HJ2.out; have := HJ6.out; have := HJ13.out; have := HJ15.out; have := HJ22.out; omega⟩, ⟨by (with_reducible repeat (first | apply Kd.R_alloc | apply Kd.R_drewN | apply Kd.R_drew)); exact HO_3.out⟩, ⟨by repeat (first | (with_reducible first | exact HB.out | apply below_alloc | apply pw_below_drewN | apply below_drew1) | exact HB.out)⟩⟩
                                · replace c35 := Bool.eq_false_iff.mpr c35
                                  subst c35
                                  have H1 : (if x3_15.length < 5864062014805 then ((some (x3_15 ++ [(⟨(⟨#[59]⟩ : ByteArray), x6_1⟩ : S54)] : List (S54))).bind fun y185 => (if x7_2 = 35 then (argosyref27_pieces.l0 kj22 a0 y185 (x7_2 != 10) x5_15 (wrap64 (x6_1 + 1))) else (argosyref27_pieces.l0 kj22 a0 y185 false x5_15 (wrap64 (x6_1 + 1))))) else (none)) = some r := by rw [if_neg (show ¬ (false = true) by decide)] at H; exact H
                                  clear H
                                  have H := H1
                                  clear H1
                                  by_cases c36 : x3_15.length < 5864062014805
                                  · rw [if_pos c36] at H
                                    have LMc36 := Aside0.mk c36
                                    clear c36
                                    obtain ⟨y185, hy185⟩ : ∃ y_ : List (S54), y_ = (x3_15 ++ [(⟨(⟨#[59]⟩ : ByteArray), x6_1⟩ : S54)]) := ⟨_, rfl⟩
                                    replace H : (if x7_2 = 35 then (argosyref27_pieces.l0 kj22 a0 y185 (x7_2 != 10) x5_15 (wrap64 (x6_1 + 1))) else (argosyref27_pieces.l0 kj22 a0 y185 false x5_15 (wrap64 (x6_1 + 1)))) = some r := by first | (rw [hy185]; with_reducible exact H) | (have H2_ := (Option.bind_some _ _).symm.trans H; rw [hy185]; with_reducible exact H2_) | (have H2_ := (Option.bind_some _ _).symm.trans H; with_reducible exact H2_) | with_reducible exact H | (rw [hy185]; exact H) | exact H
                                    have Ny185 := Aside0.mk hy185
                                    clear hy185
                                    by_cases c37 : x7_2 = 35
                                    · rw [if_pos c37] at H
                                      have c37b0 : (x7_2 == 35) = true := beq_iff_eq.mpr c37
                                      have c37b1 : (x7_2 != 35) = false := bne_eq_false_iff_eq.mpr c37
                                      clear c37
                                      have H' := Aside0.mk H
                                      clear H
                                      go_wp2_with (first | ((with_reducible refine gate_builtin (b := .append) (xs := #[.tmp 74, .tmp 77]) rfl ?_); at_builtin; refine Kd.R_append k54 (w0 := w) w.heap.size rfl (.tmp 74) (.tmp 77) 51 54 (.agg #[(.string ⟨#[]⟩), (.int .i64 0)]) 24 rfl Try.underlying51 info54 rfl (by decide) (by omega) u3 x3_15 (⟨(⟨#[59]⟩ : ByteArray), x6_1⟩ : S54) [.string (⟨#[59]⟩ : ByteArray), .int .i64 x6_1] (fun _ => True) (fun _ => False) rfl rfl ?aP (fun _ hk => hk.elim) ?aF ?aO ?aB ?aS ?aL ?_; (case aP => exact k54_mkM _ _ _ (⟨(⟨#[59]⟩ : ByteArray), x6_1⟩ : S54)); (case aB => exact (by repeat (first | (with_reducible first | exact HB.out | apply below_alloc | apply pw_below_drewN | apply below_drew1) | exact HB.out))); (case aF => exact (fun _ _ => trivial)); (case aO => exact (by (with_reducible repeat (first | apply Kd.R_alloc | apply Kd.R_drewN | apply Kd.R_drew)); exact HO_3.out)); (case aS => exact (below_size (by repeat (first | (with_reducible first | exact HB.out | apply below_alloc | apply pw_below_drewN | apply below_drew1) | exact HB.out)))); (case aL => have := LMc36.out; omega); intro v186 w38 ho hb hg hat; rw [← Ny185.out] at ho; have n0_ := Aside0.mk (hb); have n1_ := Aside0.mk (ho); clear HB; clear HO_3; have HB := n0_; have HO187 := n1_; clear n0_ n1_; clear ho hb hg hat))
                                      go_roundg kj22
                                      case measure => have := HK1.out; have := HJ2.out; have := HJ6.out; have := HJ13.out; have := HJ15.out; have := HJ22.out; omega
                                      case rel => exact ⟨(y185), ((x7_2 != 10)), (x5_15), (wrap64 (x6_1 + 1)), (by first | rfl | (simp; done) | (simp [*]; done)), (by first | rfl | (simp; done) | (simp [*]; done)), (by first | rfl | (simp; done) | (simp [*]; done)), H', ⟨by have := HK1.out; have := HJ2.out; have := HJ6.out; have := HJ13.out; have := HJ15.out; have := HJ22.out; omega⟩, ⟨by (with_reducible repeat (first | apply Kd.R_alloc | apply Kd.R_drewN | apply Kd.R_drew)); exact HO187.out⟩, ⟨by repeat (first | (with_reducible first | exact HB.out | apply below_alloc | apply pw_below_drewN | apply below_drew1) | exact HB.out)⟩⟩
                                    · rw [if_neg c37] at H
                                      have c37b0 : (x7_2 == 35) = false := beq_eq_false_iff_ne.mpr c37
                                      have c37b1 : (x7_2 != 35) = true := bne_iff_ne.mpr c37
                                      have H' := Aside0.mk H
                                      clear H
                                      go_wp2_with (first | ((with_reducible refine gate_builtin (b := .append) (xs := #[.tmp 74, .tmp 77]) rfl ?_); at_builtin; refine Kd.R_append k54 (w0 := w) w.heap.size rfl (.tmp 74) (.tmp 77) 51 54 (.agg #[(.string ⟨#[]⟩), (.int .i64 0)]) 24 rfl Try.underlying51 info54 rfl (by decide) (by omega) u3 x3_15 (⟨(⟨#[59]⟩ : ByteArray), x6_1⟩ : S54) [.string (⟨#[59]⟩ : ByteArray), .int .i64 x6_1] (fun _ => True) (fun _ => False) rfl rfl ?aP (fun _ hk => hk.elim) ?aF ?aO ?aB ?aS ?aL ?_; (case aP => exact k54_mkM _ _ _ (⟨(⟨#[59]⟩ : ByteArray), x6_1⟩ : S54)); (case aB => exact (by repeat (first | (with_reducible first | exact HB.out | apply below_alloc | apply pw_below_drewN | apply below_drew1) | exact HB.out))); (case aF => exact (fun _ _ => trivial)); (case aO => exact (by (with_reducible repeat (first | apply Kd.R_alloc | apply Kd.R_drewN | apply Kd.R_drew)); exact HO_3.out)); (case aS => exact (below_size (by repeat (first | (with_reducible first | exact HB.out | apply below_alloc | apply pw_below_drewN | apply below_drew1) | exact HB.out)))); (case aL => have := LMc36.out; omega); intro v186 w39 ho hb hg hat; rw [← Ny185.out] at ho; have n0_ := Aside0.mk (hb); have n1_ := Aside0.mk (ho); clear HB; clear HO_3; have HB := n0_; have HO187 := n1_; clear n0_ n1_; clear ho hb hg hat))
                                      go_roundg kj22
                                      case measure => have := HK1.out; have := HJ2.out; have := HJ6.out; have := HJ13.out; have := HJ15.out; have := HJ22.out; omega
                                      case rel => exact ⟨(y185), (false), (x5_15), (wrap64 (x6_1 + 1)), (by first | rfl | (simp; done) | (simp [*]; done)), (by first | rfl | (simp; done) | (simp [*]; done)), (by first | rfl | (simp; done) | (simp [*]; done)), H', ⟨by have := HK1.out; have := HJ2.out; have := HJ6.out; have := HJ13.out; have := HJ15.out; have := HJ22.out; omega⟩, ⟨by (with_reducible repeat (first | apply Kd.R_alloc | apply Kd.R_drewN | apply Kd.R_drew)); exact HO187.out⟩, ⟨by repeat (first | (with_reducible first | exact HB.out | apply below_alloc | apply pw_below_drewN | apply below_drew1) | exact HB.out)⟩⟩
                                  · rw [if_neg c36] at H
                                    exact absurd H (by simp)
                              · rw [if_neg c34] at H
                                have c34b0 : (x7_2 == 59) = false := beq_eq_false_iff_ne.mpr c34
                                have c34b1 : (x7_2 != 59) = true := bne_iff_ne.mpr c34
                                by_cases c40 : x4_1 = true
                                · subst c40
                                  have H1 : (argosyref27_pieces.l0 kj22 a0 x3_15 (x7_2 != 10) x5_15 (wrap64 (x6_1 + 1))) = some r := by rw [if_pos rfl] at H; exact H
                                  clear H
                                  have H := H1
                                  clear H1
                                  have H' := Aside0.mk H
                                  clear H
                                  go_wp2
                                  go_roundg kj22
                                  case measure => have := HK1.out; have := HJ2.out; have := HJ6.out; have := HJ13.out; have := HJ15.out; have := HJ22.out; omega
                                  case rel => exact ⟨(x3_15), ((x7_2 != 10)), (x5_15), (wrap64 (x6_1 + 1)), (by first | rfl | (simp; done) | (simp [*]; done)), (by first | rfl | (simp; done) | (simp [*]; done)), (by first | rfl | (simp; done) | (simp [*]; done)), H', ⟨by have := HK1.out; have := HJ2.out; have := HJ6.out; have := HJ13.out; have := HJ15.out; have := HJ22.out; omega⟩, ⟨by (with_reducible repeat (first | apply Kd.R_alloc | apply Kd.R_drewN | apply Kd.R_drew)); exact HO_3.out⟩, ⟨by repeat (first | (with_reducible first | exact HB.out | apply below_alloc | apply pw_below_drewN | apply below_drew1) | exact HB.out)⟩⟩
                                · replace c40 := Bool.eq_false_iff.mpr c40
                                  subst c40
                                  have H1 : (if x7_2 = 35 then (argosyref27_pieces.l0 kj22 a0 x3_15 (x7_2 != 10) x5_15 (wrap64 (x6_1 + 1))) else (argosyref27_pieces.l0 kj22 a0 x3_15 false x5_15 (wrap64 (x6_1 + 1)))) = some r := by rw [if_neg (show ¬ (false = true) by decide)] at H; exact H
                                  clear H
                                  have H := H1
                                  clear H1
                                  by_cases c41 : x7_2 = 35
                                  · rw [if_pos c41] at H
                                    have c41b0 : (x7_2 == 35) = true := beq_iff_eq.mpr c41
                                    have c41b1 : (x7_2 != 35) = false := bne_eq_false_iff_eq.mpr c41
                                    clear c41
                                    have H' := Aside0.mk H
                                    clear H
                                    go_wp2
                                    go_roundg kj22
                                    case measure => have := HK1.out; have := HJ2.out; have := HJ6.out; have := HJ13.out; have := HJ15.out; have := HJ22.out; omega
                                    case rel => exact ⟨(x3_15), ((x7_2 != 10)), (x5_15), (wrap64 (x6_1 + 1)), (by first | rfl | (simp; done) | (simp [*]; done)), (by first | rfl | (simp; done) | (simp [*]; done)), (by first | rfl | (simp; done) | (simp [*]; done)), H', ⟨by have := HK1.out; have := HJ2.out; have := HJ6.out; have := HJ13.out; have := HJ15.out; have := HJ22.out; omega⟩, ⟨by (with_reducible repeat (first | apply Kd.R_alloc | apply Kd.R_drewN | apply Kd.R_drew)); exact HO_3.out⟩, ⟨by repeat (first | (with_reducible first | exact HB.out | apply below_alloc | apply pw_below_drewN | apply below_drew1) | exact HB.out)⟩⟩
                                  · rw [if_neg c41] at H
                                    have c41b0 : (x7_2 == 35) = false := beq_eq_false_iff_ne.mpr c41
                                    have c41b1 : (x7_2 != 35) = true := bne_iff_ne.mpr c41
                                    have H' := Aside0.mk H
                                    clear H
                                    go_wp2
                                    go_roundg kj22
                                    case measure => have := HK1.out; have := HJ2.out; have := HJ6.out; have := HJ13.out; have := HJ15.out; have := HJ22.out; omega
                                    case rel => exact ⟨(x3_15), (false), (x5_15), (wrap64 (x6_1 + 1)), (by first | rfl | (simp; done) | (simp [*]; done)), (by first | rfl | (simp; done) | (simp [*]; done)), (by first | rfl | (simp; done) | (simp [*]; done)), H', ⟨by have := HK1.out; have := HJ2.out; have := HJ6.out; have := HJ13.out; have := HJ15.out; have := HJ22.out; omega⟩, ⟨by (with_reducible repeat (first | apply Kd.R_alloc | apply Kd.R_drewN | apply Kd.R_drew)); exact HO_3.out⟩, ⟨by repeat (first | (with_reducible first | exact HB.out | apply below_alloc | apply pw_below_drewN | apply below_drew1) | exact HB.out)⟩⟩
      · rw [if_neg c2] at H
        have c2b0 : decide (x6_1 ≤ (a0.size : Int)) = false := decide_eq_false c2
        clear c2
        obtain rfl := Option.some.inj H
        go_wp2
        go_ret
        exact ⟨_, by first | rfl | (simp [errW_none, errW_some] <;> rfl) | (simp [*, errW_none, errW_some] <;> rfl), by (with_reducible repeat (first | apply Kd.R_alloc | apply Kd.R_drewN | apply Kd.R_drew)); exact HO_3.out, by repeat (first | (with_reducible first | exact HB.out | apply below_alloc | apply pw_below_drewN | apply below_drew1) | exact HB.out)⟩

end Go.Proofs.Ytfmbdmkiamedeaa.PSceneReads
