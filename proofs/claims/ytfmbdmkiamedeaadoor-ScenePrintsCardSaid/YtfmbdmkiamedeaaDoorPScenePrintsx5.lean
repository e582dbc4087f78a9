-- Written by a patched print (wip/mkprint.py), for this claim.
import Derived.Test.YtfmbdmkiamedeaaDoorPScenePrintsx0
import Derived.Test.YtfmbdmkiamedeaaDoorPScenePrintsx1
import Derived.Test.YtfmbdmkiamedeaaDoorPScenePrintsx4
namespace Go.Proofs.YtfmbdmkiamedeaaDoor.PScenePrints
open Go.RowKit Go.Proofs.YtfmbdmkiamedeaaDoorW.PrintWords Go.Proofs.YtfmbdmkiamedeaaDoorW.PrintLast Go.Proofs.YtfmbdmkiamedeaaDoorW.PrintMore
attribute [local go_sem] max2_int min2_int max_two min_two max_three min_three max_four min_four   -- for this text's walks alone
set_option linter.unusedVariables false
set_option linter.unusedSimpArgs false

/-! ### argosyref27_Same: function 12 -/
def argosyref27_Same.l0 : Nat → List (S34) → List (S34) → Int → Option (Bool)
  | 0, _, _, _ => none
  | k + 1, x0, x1, x5 => if x5 < (x0.length : Int) then (if 0 ≤ x5 then (if x5 < (x1.length : Int) then (if ((rd_T34 x0 x5).f0) = ((rd_T34 x1 x5).f0) then (if ((rd_T34 x0 x5).f1) = ((rd_T34 x1 x5).f1) then (if ((rd_T34 x0 x5).f2) = ((rd_T34 x1 x5).f2) then ((argosyref01_Same.f k ((rd_T34 x0 x5).f3) ((rd_T34 x1 x5).f3)).bind fun t118 => (if t118 = true then (argosyref27_Same.l0 k x0 x1 (wrap64 (x5 + 1))) else (some false))) else (some false)) else (some false)) else (some false)) else (none)) else (none)) else (some true)
def argosyref27_Same.f (k : Nat) (l0 : List (S34)) (l1 : List (S34)) : Option (Bool) := if (l0.length : Int) = (l1.length : Int) then (argosyref27_Same.l0 k l0 l1 0) else (some false)
theorem argosyref27_Same.mono_l : ∀ k, (∀ y0 y1 y2, LeO (argosyref27_Same.l0 k y0 y1 y2) (argosyref27_Same.l0 (k + 1) y0 y1 y2))
  | 0 => fun _ _ _ r h => by simp [argosyref27_Same.l0] at h
  | k + 1 => by
    have ih0 := argosyref27_Same.mono_l k
    · intro y0 y1 y2
      unfold argosyref27_Same.l0
      repeat' first
      | (with_reducible exact ih0 _ _ _)
      | (with_reducible exact argosyref01_Same.mono _ _ _)
      | (with_reducible exact LeO.refl _)
      | (with_reducible exact LeO.none _)
      | (with_reducible refine LeO.ite ?_ ?_)
      | (with_reducible refine LeO.bind ?_ (fun _ => ?_))
      | exact ih0 _ _ _
      | exact argosyref01_Same.mono _ _ _
      | exact LeO.none _
      | refine LeO.ite ?_ ?_
      | refine LeO.bind ?_ (fun _ => ?_)
theorem argosyref27_Same.mono : ∀ a0 a1 k, LeO (argosyref27_Same.f k a0 a1) (argosyref27_Same.f (k + 1) a0 a1) := by
  intro a0 a1 k
  have ih0 := argosyref27_Same.mono_l k
  unfold argosyref27_Same.f
  repeat' first
      | (with_reducible exact ih0 _ _ _)
      | (with_reducible exact argosyref01_Same.mono _ _ _)
      | (with_reducible exact LeO.refl _)
      | (with_reducible exact LeO.none _)
      | (with_reducible refine LeO.ite ?_ ?_)
      | (with_reducible refine LeO.bind ?_ (fun _ => ?_))
      | exact ih0 _ _ _
      | exact argosyref01_Same.mono _ _ _
      | exact LeO.none _
      | refine LeO.ite ?_ ?_
      | refine LeO.bind ?_ (fun _ => ?_)
set_option maxHeartbeats 8000000 in
set_option maxRecDepth 100000 in
theorem argosyref27_Same.calls (k : Nat) (A0 : Option Addr) (c0 : Nat) (l0 : List (S34)) (A1 : Option Addr) (c1 : Nat) (l1 : List (S34)) (r : Bool) (w : World) (hr0 : Kd.C k34 w A0 l0.length l0) (hc0 : l0.length ≤ c0) (hr1 : Kd.C k34 w A1 l1.length l1) (hc1 : l1.length ≤ c1) (h : argosyref27_Same.f k l0 l1 = some r) :
    Calls Tryd.prog 12 #[.slice A0 l0.length c0, .slice A1 l1.length c1] w fun e w' => e = .returned (.bool r) ∧ Drawn0 w w' := by
  have HR0 := Aside0.mk hr0
  have HC0 := Aside0.mk hc0
  clear hr0 hc0
  have HR1 := Aside0.mk hr1
  have HC1 := Aside0.mk hc1
  clear hr1 hc1
  have H : (if (l0.length : Int) = (l1.length : Int) then (argosyref27_Same.l0 k l0 l1 0) else (some false)) = some r := h
  clear h
  by_cases c3 : (l0.length : Int) = (l1.length : Int)
  · rw [if_pos c3] at H
    have c3b0 : ((l0.length : Int) == (l1.length : Int)) = true := beq_iff_eq.mpr c3
    have c3b1 : ((l0.length : Int) != (l1.length : Int)) = false := bne_eq_false_iff_eq.mpr c3
    have c3b2 : (l0.length == l1.length) = true := by first | simpa using c3 | (simp at c3 ⊢; omega)
    clear c3
    have H' := Aside0.mk H
    clear H
    go_enter Tryd.func12, Tryd.ntmps12
    go_wp2
    repeat (go_quiet (fail); try go_wp2)
    go_loopg [5] k (fun kq v5 w' => ∃ (x5_1 : Int), v5 = .int .i64 x5_1 ∧ Aside0 (argosyref27_Same.l0 kq l0 l1 x5_1 = some r) ∧ Aside0 (kq ≤ k) ∧ Drawn0 w w')
    case atStart => exact ⟨(0), (by first | rfl | (simp; done) | (simp [*]; done)), H', ⟨Nat.le_refl _⟩, by repeat (first | exact Drawn0.refl _ | apply Drawn0.step)⟩
    case round =>
      clear H'
      try clear c1
      try clear p2
      try clear c3
      try clear c3b0
      try clear c3b1
      try clear c3b2
      obtain ⟨x5_1, rfl, HA, HK1, ⟨m1, rfl⟩⟩ := hrel
      cases gk with
      | zero => exact absurd HA.out (by simp [argosyref27_Same.l0])
      | succ k1 =>
        have H := HA.out
        clear HA
        simp only [argosyref27_Same.l0] at H
        by_cases c4 : x5_1 < (l0.length : Int)
        · rw [if_pos c4] at H
          have c4b0 : decide (x5_1 < (l0.length : Int)) = true := decide_eq_true c4
          clear c4
          by_cases c5 : 0 ≤ x5_1
          · rw [if_pos c5] at H
            have c5b0 : decide (0 ≤ x5_1) = true := decide_eq_true c5
            clear c5
            by_cases c6 : x5_1 < (l1.length : Int)
            · rw [if_pos c6] at H
              have c6b0 : decide (x5_1 < (l1.length : Int)) = true := decide_eq_true c6
              clear c6
              by_cases c7 : ((rd_T34 l0 x5_1).f0) = ((rd_T34 l1 x5_1).f0)
              · rw [if_pos c7] at H
                have c7b0 : (((rd_T34 l0 x5_1).f0) == ((rd_T34 l1 x5_1).f0)) = true := beq_iff_eq.mpr c7
                have c7b1 : (((rd_T34 l0 x5_1).f0) != ((rd_T34 l1 x5_1).f0)) = false := bne_eq_false_iff_eq.mpr c7
                clear c7
                by_cases c8 : ((rd_T34 l0 x5_1).f1) = ((rd_T34 l1 x5_1).f1)
                · rw [if_pos c8] at H
                  have c8b0 : (((rd_T34 l0 x5_1).f1) == ((rd_T34 l1 x5_1).f1)) = true := beq_iff_eq.mpr c8
                  have c8b1 : (((rd_T34 l0 x5_1).f1) != ((rd_T34 l1 x5_1).f1)) = false := bne_eq_false_iff_eq.mpr c8
                  clear c8
                  by_cases c9 : ((rd_T34 l0 x5_1).f2) = ((rd_T34 l1 x5_1).f2)
                  · rw [if_pos c9] at H
                    have c9b0 : (((rd_T34 l0 x5_1).f2) == ((rd_T34 l1 x5_1).f2)) = true := beq_iff_eq.mpr c9
                    have c9b1 : (((rd_T34 l0 x5_1).f2) != ((rd_T34 l1 x5_1).f2)) = false := bne_eq_false_iff_eq.mpr c9
                    clear c9
                    replace H := Option.bind_eq_some_iff.mp H
                    obtain ⟨t118, A100, H⟩ := H
                    replace H : (if t118 = true then (argosyref27_Same.l0 k1 l0 l1 (wrap64 (x5_1 + 1))) else (some false)) = some r := H
                    have A10 := Aside0.mk A100
                    clear A100
                    by_cases c11 : t118 = true
                    · subst c11
                      have H1 : (argosyref27_Same.l0 k1 l0 l1 (wrap64 (x5_1 + 1))) = some r := by rw [if_pos rfl] at H; exact H
                      clear H
                      have H := H1
                      clear H1
                      have H' := Aside0.mk H
                      clear H
                      have p110 : 0 ≤ (x5_1 : Int) := of_decide_eq_true (by first | (with_reducible assumption) | assumption)
                      have q110 : x5_1 < (l0.length : Int) := of_decide_eq_true (by first | (with_reducible assumption) | assumption)
                      obtain ⟨ad110, A110_3, c110_3, e110, hx110_0, hx110_1, hx110_2, hx110_3, hl110_3, hi110_3⟩ := at_T34 HR0.out x5_1 p110 q110
                      cases e110
                      have HR110_3 := Aside0.mk hi110_3
                      have HC110_3 := Aside0.mk hl110_3
                      clear hi110_3 hl110_3
                      replace p110 := eq_true p110
                      replace q110 := eq_true q110
                      have p111 : 0 ≤ (x5_1 : Int) := of_decide_eq_true (by first | (with_reducible assumption) | assumption)
                      have q111 : x5_1 < (l1.length : Int) := of_decide_eq_true (by first | (with_reducible assumption) | assumption)
                      obtain ⟨ad111, A111_3, c111_3, e111, hx111_0, hx111_1, hx111_2, hx111_3, hl111_3, hi111_3⟩ := at_T34 HR1.out x5_1 p111 q111
                      cases e111
                      have HR111_3 := Aside0.mk hi111_3
                      have HC111_3 := Aside0.mk hl111_3
                      clear hi111_3 hl111_3
                      replace p111 := eq_true p111
                      replace q111 := eq_true q111
                      have p112 : 0 ≤ (x5_1 : Int) := of_decide_eq_true (by first | (with_reducible assumption) | assumption)
                      have q112 : x5_1 < (l0.length : Int) := of_decide_eq_true (by first | (with_reducible assumption) | assumption)
                      obtain ⟨ad112, A112_3, c112_3, e112, hx112_0, hx112_1, hx112_2, hx112_3, hl112_3, hi112_3⟩ := at_T34 HR0.out x5_1 p112 q112
                      obtain rfl : ad110 = ad112 := (by injection e112)
                      have HR112_3 := Aside0.mk hi112_3
                      have HC112_3 := Aside0.mk hl112_3
                      clear hi112_3 hl112_3
                      replace p112 := eq_true p112
                      replace q112 := eq_true q112
                      have ea_ := Option.some.inj (hx110_3.symm.trans hx112_3)
                      injection ea_ with ea_ en_ ec_
                      subst ea_
                      subst ec_
                      clear en_
                      have p113 : 0 ≤ (x5_1 : Int) := of_decide_eq_true (by first | (with_reducible assumption) | assumption)
                      have q113 : x5_1 < (l1.length : Int) := of_decide_eq_true (by first | (with_reducible assumption) | assumption)
                      obtain ⟨ad113, A113_3, c113_3, e113, hx113_0, hx113_1, hx113_2, hx113_3, hl113_3, hi113_3⟩ := at_T34 HR1.out x5_1 p113 q113
                      obtain rfl : ad111 = ad113 := (by injection e113)
                      have HR113_3 := Aside0.mk hi113_3
                      have HC113_3 := Aside0.mk hl113_3
                      clear hi113_3 hl113_3
                      replace p113 := eq_true p113
                      replace q113 := eq_true q113
                      have ea_ := Option.some.inj (hx111_3.symm.trans hx113_3)
                      injection ea_ with ea_ en_ ec_
                      subst ea_
                      subst ec_
                      clear en_
                      have p114 : 0 ≤ (x5_1 : Int) := of_decide_eq_true (by first | (with_reducible assumption) | assumption)
                      have q114 : x5_1 < (l0.length : Int) := of_decide_eq_true (by first | (with_reducible assumption) | assumption)
                      obtain ⟨ad114, A114_3, c114_3, e114, hx114_0, hx114_1, hx114_2, hx114_3, hl114_3, hi114_3⟩ := at_T34 HR0.out x5_1 p114 q114
                      obtain rfl : ad110 = ad114 := (by injection e114)
                      have HR114_3 := Aside0.mk hi114_3
                      have HC114_3 := Aside0.mk hl114_3
                      clear hi114_3 hl114_3
                      replace p114 := eq_true p114
                      replace q114 := eq_true q114
                      have ea_ := Option.some.inj (hx110_3.symm.trans hx114_3)
                      injection ea_ with ea_ en_ ec_
                      subst ea_
                      subst ec_
                      clear en_
                      have p115 : 0 ≤ (x5_1 : Int) := of_decide_eq_true (by first | (with_reducible assumption) | assumption)
                      have q115 : x5_1 < (l1.length : Int) := of_decide_eq_true (by first | (with_reducible assumption) | assumption)
                      obtain ⟨ad115, A115_3, c115_3, e115, hx115_0, hx115_1, hx115_2, hx115_3, hl115_3, hi115_3⟩ := at_T34 HR1.out x5_1 p115 q115
                      obtain rfl : ad111 = ad115 := (by injection e115)
                      have HR115_3 := Aside0.mk hi115_3
                      have HC115_3 := Aside0.mk hl115_3
                      clear hi115_3 hl115_3
                      replace p115 := eq_true p115
                      replace q115 := eq_true q115
                      have ea_ := Option.some.inj (hx111_3.symm.trans hx115_3)
                      injection ea_ with ea_ en_ ec_
                      subst ea_
                      subst ec_
                      clear en_
                      have p116 : 0 ≤ (x5_1 : Int) := of_decide_eq_true (by first | (with_reducible assumption) | assumption)
                      have q116 : x5_1 < (l0.length : Int) := of_decide_eq_true (by first | (with_reducible assumption) | assumption)
                      obtain ⟨ad116, A116_3, c116_3, e116, hx116_0, hx116_1, hx116_2, hx116_3, hl116_3, hi116_3⟩ := at_T34 HR0.out x5_1 p116 q116
                      obtain rfl : ad110 = ad116 := (by injection e116)
                      have HR116_3 := Aside0.mk hi116_3
                      have HC116_3 := Aside0.mk hl116_3
                      clear hi116_3 hl116_3
                      replace p116 := eq_true p116
                      replace q116 := eq_true q116
                      have ea_ := Option.some.inj (hx110_3.symm.trans hx116_3)
                      injection ea_ with ea_ en_ ec_
                      subst ea_
                      subst ec_
                      clear en_
                      have p117 : 0 ≤ (x5_1 : Int) := of_decide_eq_true (by first | (with_reducible assumption) | assumption)
                      have q117 : x5_1 < (l1.length : Int) := of_decide_eq_true (by first | (with_reducible assumption) | assumption)
                      obtain ⟨ad117, A117_3, c117_3, e117, hx117_0, hx117_1, hx117_2, hx117_3, hl117_3, hi117_3⟩ := at_T34 HR1.out x5_1 p117 q117
                      obtain rfl : ad111 = ad117 := (by injection e117)
                      have HR117_3 := Aside0.mk hi117_3
                      have HC117_3 := Aside0.mk hl117_3
                      clear hi117_3 hl117_3
                      replace p117 := eq_true p117
                      replace q117 := eq_true q117
                      have ea_ := Option.some.inj (hx111_3.symm.trans hx117_3)
                      injection ea_ with ea_ en_ ec_
                      subst ea_
                      subst ec_
                      clear en_
                      go_wp2_with (first | (go_at_call 26; (with_reducible refine (argosyref01_Same.calls k1 _ _ ((rd_T34 l0 x5_1).f3) _ _ ((rd_T34 l1 x5_1).f3) true _ ?side1 ?side2 ?side3 ?side4 A10.out).mono ?_); (case side1 => repeat (first | exact HR116_3.out | (with_reducible refine Kd.C_alloc ?_ _) | (with_reducible refine Kd.C_drewN ?_ _) | (with_reducible refine Kd.C_drew ?_))); (case side2 => exact HC116_3.out); (case side3 => repeat (first | exact HR117_3.out | (with_reducible refine Kd.C_alloc ?_ _) | (with_reducible refine Kd.C_drewN ?_ _) | (with_reducible refine Kd.C_drew ?_))); (case side4 => exact HC117_3.out); rintro e w' ⟨rfl, ⟨nd, rfl⟩⟩; (try first | exact ⟨rfl, _, World.drewN_drewN _ _ _⟩ | exact ⟨rfl, _, Eq.trans (World.drewN_drewN _ _ _) (congrArg (World.drewN _) (Nat.add_assoc _ _ _))⟩)))
                      repeat (go_quiet (first | (go_at_call 26; (with_reducible refine (argosyref01_Same.calls k1 _ _ ((rd_T34 l0 x5_1).f3) _ _ ((rd_T34 l1 x5_1).f3) true _ ?side1 ?side2 ?side3 ?side4 A10.out).mono ?_); (case side1 => repeat (first | exact HR116_3.out | (with_reducible refine Kd.C_alloc ?_ _) | (with_reducible refine Kd.C_drewN ?_ _) | (with_reducible refine Kd.C_drew ?_))); (case side2 => exact HC116_3.out); (case side3 => repeat (first | exact HR117_3.out | (with_reducible refine Kd.C_alloc ?_ _) | (with_reducible refine Kd.C_drewN ?_ _) | (with_reducible refine Kd.C_drew ?_))); (case side4 => exact HC117_3.out); rintro e w' ⟨rfl, ⟨nd, rfl⟩⟩; (try first | exact ⟨rfl, _, World.drewN_drewN _ _ _⟩ | exact ⟨rfl, _, Eq.trans (World.drewN_drewN _ _ _) (congrArg (World.drewN _) (Nat.add_assoc _ _ _))⟩))); try go_wp2_with (first | (go_at_call 26; (with_reducible refine (argosyref01_Same.calls k1 _ _ ((rd_T34 l0 x5_1).f3) _ _ ((rd_T34 l1 x5_1).f3) true _ ?side1 ?side2 ?side3 ?side4 A10.out).mono ?_); (case side1 => repeat (first | exact HR116_3.out | (with_reducible refine Kd.C_alloc ?_ _) | (with_reducible refine Kd.C_drewN ?_ _) | (with_reducible refine Kd.C_drew ?_))); (case side2 => exact HC116_3.out); (case side3 => repeat (first | exact HR117_3.out | (with_reducible refine Kd.C_alloc ?_ _) | (with_reducible refine Kd.C_drewN ?_ _) | (with_reducible refine Kd.C_drew ?_))); (case side4 => exact HC117_3.out); rintro e w' ⟨rfl, ⟨nd, rfl⟩⟩; (try first | exact ⟨rfl, _, World.drewN_drewN _ _ _⟩ | exact ⟨rfl, _, Eq.trans (World.drewN_drewN _ _ _) (congrArg (World.drewN _) (Nat.add_assoc _ _ _))⟩))))
                      go_roundg k1
                      case measure => have := HK1.out; omega
                      case rel => exact ⟨(wrap64 (x5_1 + 1)), (by first | rfl | (simp; done) | (simp [*]; done)), H', ⟨by have := HK1.out; omega⟩, by repeat (first | exact Drawn0.refl _ | apply Drawn0.step)⟩
                    · replace c11 := Bool.eq_false_iff.mpr c11
                      subst c11
                      have H1 : (some false) = some r := by rw [if_neg (show ¬ (false = true) by decide)] at H; exact H
                      clear H
                      have H := H1
                      clear H1
                      obtain rfl := Option.some.inj H
                      have p110 : 0 ≤ (x5_1 : Int) := of_decide_eq_true (by first | (with_reducible assumption) | assumption)
                      have q110 : x5_1 < (l0.length : Int) := of_decide_eq_true (by first | (with_reducible assumption) | assumption)
                      obtain ⟨ad110, A110_3, c110_3, e110, hx110_0, hx110_1, hx110_2, hx110_3, hl110_3, hi110_3⟩ := at_T34 HR0.out x5_1 p110 q110
                      cases e110
                      have HR110_3 := Aside0.mk hi110_3
                      have HC110_3 := Aside0.mk hl110_3
                      clear hi110_3 hl110_3
                      replace p110 := eq_true p110
                      replace q110 := eq_true q110
                      have p111 : 0 ≤ (x5_1 : Int) := of_decide_eq_true (by first | (with_reducible assumption) | assumption)
                      have q111 : x5_1 < (l1.length : Int) := of_decide_eq_true (by first | (with_reducible assumption) | assumption)
                      obtain ⟨ad111, A111_3, c111_3, e111, hx111_0, hx111_1, hx111_2, hx111_3, hl111_3, hi111_3⟩ := at_T34 HR1.out x5_1 p111 q111
                      cases e111
                      have HR111_3 := Aside0.mk hi111_3
                      have HC111_3 := Aside0.mk hl111_3
                      clear hi111_3 hl111_3
                      replace p111 := eq_true p111
                      replace q111 := eq_true q111
                      have p112 : 0 ≤ (x5_1 : Int) := of_decide_eq_true (by first | (with_reducible assumption) | assumption)
                      have q112 : x5_1 < (l0.length : Int) := of_decide_eq_true (by first | (with_reducible assumption) | assumption)
                      obtain ⟨ad112, A112_3, c112_3, e112, hx112_0, hx112_1, hx112_2, hx112_3, hl112_3, hi112_3⟩ := at_T34 HR0.out x5_1 p112 q112
                      obtain rfl : ad110 = ad112 := (by injection e112)
                      have HR112_3 := Aside0.mk hi112_3
                      have HC112_3 := Aside0.mk hl112_3
                      clear hi112_3 hl112_3
                      replace p112 := eq_true p112
                      replace q112 := eq_true q112
                      have ea_ := Option.some.inj (hx110_3.symm.trans hx112_3)
                      injection ea_ with ea_ en_ ec_
                      subst ea_
                      subst ec_
                      clear en_
                      have p113 : 0 ≤ (x5_1 : Int) := of_decide_eq_true (by first | (with_reducible assumption) | assumption)
                      have q113 : x5_1 < (l1.length : Int) := of_decide_eq_true (by first | (with_reducible assumption) | assumption)
                      obtain ⟨ad113, A113_3, c113_3, e113, hx113_0, hx113_1, hx113_2, hx113_3, hl113_3, hi113_3⟩ := at_T34 HR1.out x5_1 p113 q113
                      obtain rfl : ad111 = ad113 := (by injection e113)
                      have HR113_3 := Aside0.mk hi113_3
                      have HC113_3 := Aside0.mk hl113_3
                      clear hi113_3 hl113_3
                      replace p113 := eq_true p113
                      replace q113 := eq_true q113
                      have ea_ := Option.some.inj (hx111_3.symm.trans hx113_3)
                      injection ea_ with ea_ en_ ec_
                      subst ea_
                      subst ec_
                      clear en_
                      have p114 : 0 ≤ (x5_1 : Int) := of_decide_eq_true (by first | (with_reducible assumption) | assumption)
                      have q114 : x5_1 < (l0.length : Int) := of_decide_eq_true (by first | (with_reducible assumption) | assumption)
                      obtain ⟨ad114, A114_3, c114_3, e114, hx114_0, hx114_1, hx114_2, hx114_3, hl114_3, hi114_3⟩ := at_T34 HR0.out x5_1 p114 q114
                      obtain rfl : ad110 = ad114 := (by injection e114)
                      have HR114_3 := Aside0.mk hi114_3
                      have HC114_3 := Aside0.mk hl114_3
                      clear hi114_3 hl114_3
                      replace p114 := eq_true p114
                      replace q114 := eq_true q114
                      have ea_ := Option.some.inj (hx110_3.symm.trans hx114_3)
                      injection ea_ with ea_ en_ ec_
                      subst ea_
                      subst ec_
                      clear en_
                      have p115 : 0 ≤ (x5_1 : Int) := of_decide_eq_true (by first | (with_reducible assumption) | assumption)
                      have q115 : x5_1 < (l1.length : Int) := of_decide_eq_true (by first | (with_reducible assumption) | assumption)
                      obtain ⟨ad115, A115_3, c115_3, e115, hx115_0, hx115_1, hx115_2, hx115_3, hl115_3, hi115_3⟩ := at_T34 HR1.out x5_1 p115 q115
                      obtain rfl : ad111 = ad115 := (by injection e115)
                      have HR115_3 := Aside0.mk hi115_3
                      have HC115_3 := Aside0.mk hl115_3
                      clear hi115_3 hl115_3
                      replace p115 := eq_true p115
                      replace q115 := eq_true q115
                      have ea_ := Option.some.inj (hx111_3.symm.trans hx115_3)
                      injection ea_ with ea_ en_ ec_
                      subst ea_
                      subst ec_
                      clear en_
                      have p116 : 0 ≤ (x5_1 : Int) := of_decide_eq_true (by first | (with_reducible assumption) | assumption)
                      have q116 : x5_1 < (l0.length : Int) := of_decide_eq_true (by first | (with_reducible assumption) | assumption)
                      obtain ⟨ad116, A116_3, c116_3, e116, hx116_0, hx116_1, hx116_2, hx116_3, hl116_3, hi116_3⟩ := at_T34 HR0.out x5_1 p116 q116
                      obtain rfl : ad110 = ad116 := (by injection e116)
                      have HR116_3 := Aside0.mk hi116_3
                      have HC116_3 := Aside0.mk hl116_3
                      clear hi116_3 hl116_3
                      replace p116 := eq_true p116
                      replace q116 := eq_true q116
                      have ea_ := Option.some.inj (hx110_3.symm.trans hx116_3)
                      injection ea_ with ea_ en_ ec_
                      subst ea_
                      subst ec_
                      clear en_
                      have p117 : 0 ≤ (x5_1 : Int) := of_decide_eq_true (by first | (with_reducible assumption) | assumption)
                      have q117 : x5_1 < (l1.length : Int) := of_decide_eq_true (by first | (with_reducible assumption) | assumption)
                      obtain ⟨ad117, A117_3, c117_3, e117, hx117_0, hx117_1, hx117_2, hx117_3, hl117_3, hi117_3⟩ := at_T34 HR1.out x5_1 p117 q117
                      obtain rfl : ad111 = ad117 := (by injection e117)
                      have HR117_3 := Aside0.mk hi117_3
                      have HC117_3 := Aside0.mk hl117_3
                      clear hi117_3 hl117_3
                      replace p117 := eq_true p117
                      replace q117 := eq_true q117
                      have ea_ := Option.some.inj (hx111_3.symm.trans hx117_3)
                      injection ea_ with ea_ en_ ec_
                      subst ea_
                      subst ec_
                      clear en_
                      go_wp2_with (first | (go_at_call 26; (with_reducible refine (argosyref01_Same.calls k1 _ _ ((rd_T34 l0 x5_1).f3) _ _ ((rd_T34 l1 x5_1).f3) false _ ?side1 ?side2 ?side3 ?side4 A10.out).mono ?_); (case side1 => repeat (first | exact HR116_3.out | (with_reducible refine Kd.C_alloc ?_ _) | (with_reducible refine Kd.C_drewN ?_ _) | (with_reducible refine Kd.C_drew ?_))); (case side2 => exact HC116_3.out); (case side3 => repeat (first | exact HR117_3.out | (with_reducible refine Kd.C_alloc ?_ _) | (with_reducible refine Kd.C_drewN ?_ _) | (with_reducible refine Kd.C_drew ?_))); (case side4 => exact HC117_3.out); rintro e w' ⟨rfl, ⟨nd, rfl⟩⟩; (try first | exact ⟨rfl, _, World.drewN_drewN _ _ _⟩ | exact ⟨rfl, _, Eq.trans (World.drewN_drewN _ _ _) (congrArg (World.drewN _) (Nat.add_assoc _ _ _))⟩)))
                      repeat (go_quiet (first | (go_at_call 26; (with_reducible refine (argosyref01_Same.calls k1 _ _ ((rd_T34 l0 x5_1).f3) _ _ ((rd_T34 l1 x5_1).f3) false _ ?side1 ?side2 ?side3 ?side4 A10.out).mono ?_); (case side1 => repeat (first | exact HR116_3.out | (with_reducible refine Kd.C_alloc ?_ _) | (with_reducible refine Kd.C_drewN ?_ _) | (with_reducible refine Kd.C_drew ?_))); (case side2 => exact HC116_3.out); (case side3 => repeat (first | exact HR117_3.out | (with_reducible refine Kd.C_alloc ?_ _) | (with_reducible refine Kd.C_drewN ?_ _) | (with_reducible refine Kd.C_drew ?_))); (case side4 => exact HC117_3.out); rintro e w' ⟨rfl, ⟨nd, rfl⟩⟩; (try first | exact ⟨rfl, _, World.drewN_drewN _ _ _⟩ | exact ⟨rfl, _, Eq.trans (World.drewN_drewN _ _ _) (congrArg (World.drewN _) (Nat.add_assoc _ _ _))⟩))); try go_wp2_with (first | (go_at_call 26; (with_reducible refine (argosyref01_Same.calls k1 _ _ ((rd_T34 l0 x5_1).f3) _ _ ((rd_T34 l1 x5_1).f3) false _ ?side1 ?side2 ?side3 ?side4 A10.out).mono ?_); (case side1 => repeat (first | exact HR116_3.out | (with_reducible refine Kd.C_alloc ?_ _) | (with_reducible refine Kd.C_drewN ?_ _) | (with_reducible refine Kd.C_drew ?_))); (case side2 => exact HC116_3.out); (case side3 => repeat (first | exact HR117_3.out | (with_reducible refine Kd.C_alloc ?_ _) | (with_reducible refine Kd.C_drewN ?_ _) | (with_reducible refine Kd.C_drew ?_))); (case side4 => exact HC117_3.out); rintro e w' ⟨rfl, ⟨nd, rfl⟩⟩; (try first | exact ⟨rfl, _, World.drewN_drewN _ _ _⟩ | exact ⟨rfl, _, Eq.trans (World.drewN_drewN _ _ _) (congrArg (World.drewN _) (Nat.add_assoc _ _ _))⟩))))
                      go_ret
                      exact ⟨by first | rfl | (simp; done) | (simp [*]; done), by repeat (first | exact Drawn0.refl _ | apply Drawn0.step)⟩
                  · rw [if_neg c9] at H
                    have c9b0 : (((rd_T34 l0 x5_1).f2) == ((rd_T34 l1 x5_1).f2)) = false := beq_eq_false_iff_ne.mpr c9
                    have c9b1 : (((rd_T34 l0 x5_1).f2) != ((rd_T34 l1 x5_1).f2)) = true := bne_iff_ne.mpr c9
                    obtain rfl := Option.some.inj H
                    have p110 : 0 ≤ (x5_1 : Int) := of_decide_eq_true (by first | (with_reducible assumption) | assumption)
                    have q110 : x5_1 < (l0.length : Int) := of_decide_eq_true (by first | (with_reducible assumption) | assumption)
                    obtain ⟨ad110, A110_3, c110_3, e110, hx110_0, hx110_1, hx110_2, hx110_3, hl110_3, hi110_3⟩ := at_T34 HR0.out x5_1 p110 q110
                    cases e110
                    have HR110_3 := Aside0.mk hi110_3
                    have HC110_3 := Aside0.mk hl110_3
                    clear hi110_3 hl110_3
                    replace p110 := eq_true p110
                    replace q110 := eq_true q110
                    have p111 : 0 ≤ (x5_1 : Int) := of_decide_eq_true (by first | (with_reducible assumption) | assumption)
                    have q111 : x5_1 < (l1.length : Int) := of_decide_eq_true (by first | (with_reducible assumption) | assumption)
                    obtain ⟨ad111, A111_3, c111_3, e111, hx111_0, hx111_1, hx111_2, hx111_3, hl111_3, hi111_3⟩ := at_T34 HR1.out x5_1 p111 q111
                    cases e111
                    have HR111_3 := Aside0.mk hi111_3
                    have HC111_3 := Aside0.mk hl111_3
                    clear hi111_3 hl111_3
                    replace p111 := eq_true p111
                    replace q111 := eq_true q111
                    have p112 : 0 ≤ (x5_1 : Int) := of_decide_eq_true (by first | (with_reducible assumption) | assumption)
                    have q112 : x5_1 < (l0.length : Int) := of_decide_eq_true (by first | (with_reducible assumption) | assumption)
                    obtain ⟨ad112, A112_3, c112_3, e112, hx112_0, hx112_1, hx112_2, hx112_3, hl112_3, hi112_3⟩ := at_T34 HR0.out x5_1 p112 q112
                    obtain rfl : ad110 = ad112 := (by injection e112)
                    have HR112_3 := Aside0.mk hi112_3
                    have HC112_3 := Aside0.mk hl112_3
                    clear hi112_3 hl112_3
                    replace p112 := eq_true p112
                    replace q112 := eq_true q112
                    have ea_ := Option.some.inj (hx110_3.symm.trans hx112_3)
                    injection ea_ with ea_ en_ ec_
                    subst ea_
                    subst ec_
                    clear en_
                    have p113 : 0 ≤ (x5_1 : Int) := of_decide_eq_true (by first | (with_reducible assumption) | assumption)
                    have q113 : x5_1 < (l1.length : Int) := of_decide_eq_true (by first | (with_reducible assumption) | assumption)
                    obtain ⟨ad113, A113_3, c113_3, e113, hx113_0, hx113_1, hx113_2, hx113_3, hl113_3, hi113_3⟩ := at_T34 HR1.out x5_1 p113 q113
                    obtain rfl : ad111 = ad113 := (by injection e113)
                    have HR113_3 := Aside0.mk hi113_3
                    have HC113_3 := Aside0.mk hl113_3
                    clear hi113_3 hl113_3
                    replace p113 := eq_true p113
                    replace q113 := eq_true q113
                    have ea_ := Option.some.inj (hx111_3.symm.trans hx113_3)
                    injection ea_ with ea_ en_ ec_
                    subst ea_
                    subst ec_
                    clear en_
                    have p114 : 0 ≤ (x5_1 : Int) := of_decide_eq_true (by first | (with_reducible assumption) | assumption)
                    have q114 : x5_1 < (l0.length : Int) := of_decide_eq_true (by first | (with_reducible assumption) | assumption)
                    obtain ⟨ad114, A114_3, c114_3, e114, hx114_0, hx114_1, hx114_2, hx114_3, hl114_3, hi114_3⟩ := at_T34 HR0.out x5_1 p114 q114
                    obtain rfl : ad110 = ad114 := (by injection e114)
                    have HR114_3 := Aside0.mk hi114_3
                    have HC114_3 := Aside0.mk hl114_3
                    clear hi114_3 hl114_3
                    replace p114 := eq_true p114
                    replace q114 := eq_true q114
                    have ea_ := Option.some.inj (hx110_3.symm.trans hx114_3)
                    injection ea_ with ea_ en_ ec_
                    subst ea_
                    subst ec_
                    clear en_
                    have p115 : 0 ≤ (x5_1 : Int) := of_decide_eq_true (by first | (with_reducible assumption) | assumption)
                    have q115 : x5_1 < (l1.length : Int) := of_decide_eq_true (by first | (with_reducible assumption) | assumption)
                    obtain ⟨ad115, A115_3, c115_3, e115, hx115_0, hx115_1, hx115_2, hx115_3, hl115_3, hi115_3⟩ := at_T34 HR1.out x5_1 p115 q115
                    obtain rfl : ad111 = ad115 := (by injection e115)
                    have HR115_3 := Aside0.mk hi115_3
                    have HC115_3 := Aside0.mk hl115_3
                    clear hi115_3 hl115_3
                    replace p115 := eq_true p115
                    replace q115 := eq_true q115
                    have ea_ := Option.some.inj (hx111_3.symm.trans hx115_3)
                    injection ea_ with ea_ en_ ec_
                    subst ea_
                    subst ec_
                    clear en_
                    go_wp2
                    repeat (go_quiet (fail); try go_wp2)
                    go_ret
                    exact ⟨by first | rfl | (simp; done) | (simp [*]; done), by repeat (first | exact Drawn0.refl _ | apply Drawn0.step)⟩
                · rw [if_neg c8] at H
                  have c8b0 : (((rd_T34 l0 x5_1).f1) == ((rd_T34 l1 x5_1).f1)) = false := beq_eq_false_iff_ne.mpr c8
                  have c8b1 : (((rd_T34 l0 x5_1).f1) != ((rd_T34 l1 x5_1).f1)) = true := bne_iff_ne.mpr c8
                  obtain rfl := Option.some.inj H
                  have p110 : 0 ≤ (x5_1 : Int) := of_decide_eq_true (by first | (with_reducible assumption) | assumption)
                  have q110 : x5_1 < (l0.length : Int) := of_decide_eq_true (by first | (with_reducible assumption) | assumption)
                  obtain ⟨ad110, A110_3, c110_3, e110, hx110_0, hx110_1, hx110_2, hx110_3, hl110_3, hi110_3⟩ := at_T34 HR0.out x5_1 p110 q110
                  cases e110
                  have HR110_3 := Aside0.mk hi110_3
                  have HC110_3 := Aside0.mk hl110_3
                  clear hi110_3 hl110_3
                  replace p110 := eq_true p110
                  replace q110 := eq_true q110
                  have p111 : 0 ≤ (x5_1 : Int) := of_decide_eq_true (by first | (with_reducible assumption) | assumption)
                  have q111 : x5_1 < (l1.length : Int) := of_decide_eq_true (by first | (with_reducible assumption) | assumption)
                  obtain ⟨ad111, A111_3, c111_3, e111, hx111_0, hx111_1, hx111_2, hx111_3, hl111_3, hi111_3⟩ := at_T34 HR1.out x5_1 p111 q111
                  cases e111
                  have HR111_3 := Aside0.mk hi111_3
                  have HC111_3 := Aside0.mk hl111_3
                  clear hi111_3 hl111_3
                  replace p111 := eq_true p111
                  replace q111 := eq_true q111
                  have p112 : 0 ≤ (x5_1 : Int) := of_decide_eq_true (by first | (with_reducible assumption) | assumption)
                  have q112 : x5_1 < (l0.length : Int) := of_decide_eq_true (by first | (with_reducible assumption) | assumption)
                  obtain ⟨ad112, A112_3, c112_3, e112, hx112_0, hx112_1, hx112_2, hx112_3, hl112_3, hi112_3⟩ := at_T34 HR0.out x5_1 p112 q112
                  obtain rfl : ad110 = ad112 := (by injection e112)
                  have HR112_3 := Aside0.mk hi112_3
                  have HC112_3 := Aside0.mk hl112_3
                  clear hi112_3 hl112_3
                  replace p112 := eq_true p112
                  replace q112 := eq_true q112
                  have ea_ := Option.some.inj (hx110_3.symm.trans hx112_3)
                  injection ea_ with ea_ en_ ec_
                  subst ea_
                  subst ec_
                  clear en_
                  have p113 : 0 ≤ (x5_1 : Int) := of_decide_eq_true (by first | (with_reducible assumption) | assumption)
                  have q113 : x5_1 < (l1.length : Int) := of_decide_eq_true (by first | (with_reducible assumption) | assumption)
                  obtain ⟨ad113, A113_3, c113_3, e113, hx113_0, hx113_1, hx113_2, hx113_3, hl113_3, hi113_3⟩ := at_T34 HR1.out x5_1 p113 q113
                  obtain rfl : ad111 = ad113 := (by injection e113)
                  have HR113_3 := Aside0.mk hi113_3
                  have HC113_3 := Aside0.mk hl113_3
                  clear hi113_3 hl113_3
                  replace p113 := eq_true p113
                  replace q113 := eq_true q113
                  have ea_ := Option.some.inj (hx111_3.symm.trans hx113_3)
                  injection ea_ with ea_ en_ ec_
                  subst ea_
                  subst ec_
                  clear en_
                  go_wp2
                  repeat (go_quiet (fail); try go_wp2)
                  go_ret
                  exact ⟨by first | rfl | (simp; done) | (simp [*]; done), by repeat (first | exact Drawn0.refl _ | apply Drawn0.step)⟩
              · rw [if_neg c7] at H
                have c7b0 : (((rd_T34 l0 x5_1).f0) == ((rd_T34 l1 x5_1).f0)) = false := beq_eq_false_iff_ne.mpr c7
                have c7b1 : (((rd_T34 l0 x5_1).f0) != ((rd_T34 l1 x5_1).f0)) = true := bne_iff_ne.mpr c7
                obtain rfl := Option.some.inj H
                have p110 : 0 ≤ (x5_1 : Int) := of_decide_eq_true (by first | (with_reducible assumption) | assumption)
                have q110 : x5_1 < (l0.length : Int) := of_decide_eq_true (by first | (with_reducible assumption) | assumption)
                obtain ⟨ad110, A110_3, c110_3, e110, hx110_0, hx110_1, hx110_2, hx110_3, hl110_3, hi110_3⟩ := at_T34 HR0.out x5_1 p110 q110
                cases e110
                have HR110_3 := Aside0.mk hi110_3
                have HC110_3 := Aside0.mk hl110_3
                clear hi110_3 hl110_3
                replace p110 := eq_true p110
                replace q110 := eq_true q110
                have p111 : 0 ≤ (x5_1 : Int) := of_decide_eq_true (by first | (with_reducible assumption) | assumption)
                have q111 : x5_1 < (l1.length : Int) := of_decide_eq_true (by first | (with_reducible assumption) | assumption)
                obtain ⟨ad111, A111_3, c111_3, e111, hx111_0, hx111_1, hx111_2, hx111_3, hl111_3, hi111_3⟩ := at_T34 HR1.out x5_1 p111 q111
                cases e111
                have HR111_3 := Aside0.mk hi111_3
                have HC111_3 := Aside0.mk hl111_3
                clear hi111_3 hl111_3
                replace p111 := eq_true p111
                replace q111 := eq_true q111
                go_wp2
                repeat (go_quiet (fail); try go_wp2)
                go_ret
                exact ⟨by first | rfl | (simp; done) | (simp [*]; done), by repeat (first | exact Drawn0.refl _ | apply Drawn0.step)⟩
            · rw [if_neg c6] at H
              exact absurd H (by simp)
          · rw [if_neg c5] at H
            exact absurd H (by simp)
        · rw [if_neg c4] at H
          have c4b0 : decide (x5_1 < (l0.length : Int)) = false := decide_eq_false c4
          clear c4
          obtain rfl := Option.some.inj H
          go_wp2
          repeat (go_quiet (fail); try go_wp2)
          go_ret
          exact ⟨by first | rfl | (simp; done) | (simp [*]; done), by repeat (first | exact Drawn0.refl _ | apply Drawn0.step)⟩
  · rw [if_neg c3] at H
    have c3b0 : ((l0.length : Int) == (l1.length : Int)) = false := beq_eq_false_iff_ne.mpr c3
    have c3b1 : ((l0.length : Int) != (l1.length : Int)) = true := bne_iff_ne.mpr c3
    have c3b2 : (l0.length == l1.length) = false := by first | simpa using c3 | (simp at c3 ⊢; omega)
    obtain rfl := Option.some.inj H
    go_enter Tryd.func12, Tryd.ntmps12
    go_wp2
    repeat (go_quiet (fail); try go_wp2)
    go_ret
    exact ⟨by first | rfl | (simp; done) | (simp [*]; done), by repeat (first | exact Drawn0.refl _ | apply Drawn0.step)⟩

/-! ### argosylaw27_lives: function 6 -/
def argosylaw27_lives.f (k : Nat)  : Option (Bool) := (scene_Read.f (⟨#[116, 105, 99, 107, 32, 48, 32, 45, 51, 59, 32, 99, 114, 97, 115, 104, 32, 49, 32, 50, 32, 59, 111, 112, 101, 110, 59, 32, 35, 32, 101, 110, 100]⟩ : ByteArray)).bind fun bt119 => ((scene_Read.f (⟨#[116, 105, 99, 107, 32, 48, 59]⟩ : ByteArray)).bind fun bt124 => ((scene_Read.f (⟨#[97, 114, 109, 32, 48, 49, 59]⟩ : ByteArray)).bind fun bt129 => ((scene_Number.f (⟨#[45, 49, 50]⟩ : ByteArray)).bind fun bt134 => ((argosyref27_Same.f k bt119.1 (([(⟨1, 0, (-3), ([] : List Int)⟩ : S34), (⟨2, 0, 0, (([1, 2] : List Int))⟩ : S34), (⟨3, 0, 0, ([] : List Int)⟩ : S34)] : List (S34)))).bind fun t142 => (if t142 = true then (if bt119.2.1 = 33 then (if bt119.2.2 = 0 then (if bt124.2.1 = 6 then (if bt124.2.2 = 10 then (if bt129.2.1 = 4 then (if bt129.2.2 = 10 then (if bt134.1 = (-12) then (some bt134.2) else (none)) else (none)) else (none)) else (none)) else (none)) else (none)) else (none)) else (none))))))
theorem argosylaw27_lives.mono : ∀ k, LeO (argosylaw27_lives.f k ) (argosylaw27_lives.f (k + 1) ) := by
  intro  k
  unfold argosylaw27_lives.f
  repeat' first
      | (with_reducible exact argosyref27_Same.mono _ _ _)
      | (with_reducible exact LeO.refl _)
      | (with_reducible exact LeO.none _)
      | (with_reducible refine LeO.ite ?_ ?_)
      | (with_reducible refine LeO.bind ?_ (fun _ => ?_))
      | exact argosyref27_Same.mono _ _ _
      | exact LeO.none _
      | refine LeO.ite ?_ ?_
      | refine LeO.bind ?_ (fun _ => ?_)
set_option maxHeartbeats 8000000 in
set_option maxRecDepth 100000 in
theorem argosylaw27_lives.calls (k : Nat)  (r : Bool) (w : World) (h : argosylaw27_lives.f k  = some r) :
    Calls Tryd.prog 6 #[] w fun e w' => e = .returned (.bool r) ∧ Below w.heap.size w w' := by
  have hu34 := Tryd.underlying34
  have HB := Aside0.mk (Below.refl w.heap.size w)
  have H : ((scene_Read.f (⟨#[116, 105, 99, 107, 32, 48, 32, 45, 51, 59, 32, 99, 114, 97, 115, 104, 32, 49, 32, 50, 32, 59, 111, 112, 101, 110, 59, 32, 35, 32, 101, 110, 100]⟩ : ByteArray)).bind fun bt119 => ((scene_Read.f (⟨#[116, 105, 99, 107, 32, 48, 59]⟩ : ByteArray)).bind fun bt124 => ((scene_Read.f (⟨#[97, 114, 109, 32, 48, 49, 59]⟩ : ByteArray)).bind fun bt129 => ((scene_Number.f (⟨#[45, 49, 50]⟩ : ByteArray)).bind fun bt134 => ((argosyref27_Same.f k bt119.1 (([(⟨1, 0, (-3), ([] : List Int)⟩ : S34), (⟨2, 0, 0, (([1, 2] : List Int))⟩ : S34), (⟨3, 0, 0, ([] : List Int)⟩ : S34)] : List (S34)))).bind fun t142 => (if t142 = true then (if bt119.2.1 = 33 then (if bt119.2.2 = 0 then (if bt124.2.1 = 6 then (if bt124.2.2 = 10 then (if bt129.2.1 = 4 then (if bt129.2.2 = 10 then (if bt134.1 = (-12) then (some bt134.2) else (none)) else (none)) else (none)) else (none)) else (none)) else (none)) else (none)) else (none))))))) = some r := h
  clear h
  replace H := Option.bind_eq_some_iff.mp H
  obtain ⟨⟨t119, t122, t123⟩, A10, H⟩ := H
  replace H : ((scene_Read.f (⟨#[116, 105, 99, 107, 32, 48, 59]⟩ : ByteArray)).bind fun bt124 => ((scene_Read.f (⟨#[97, 114, 109, 32, 48, 49, 59]⟩ : ByteArray)).bind fun bt129 => ((scene_Number.f (⟨#[45, 49, 50]⟩ : ByteArray)).bind fun bt134 => ((argosyref27_Same.f k t119 (([(⟨1, 0, (-3), ([] : List Int)⟩ : S34), (⟨2, 0, 0, (([1, 2] : List Int))⟩ : S34), (⟨3, 0, 0, ([] : List Int)⟩ : S34)] : List (S34)))).bind fun t142 => (if t142 = true then (if t122 = 33 then (if t123 = 0 then (if bt124.2.1 = 6 then (if bt124.2.2 = 10 then (if bt129.2.1 = 4 then (if bt129.2.2 = 10 then (if bt134.1 = (-12) then (some bt134.2) else (none)) else (none)) else (none)) else (none)) else (none)) else (none)) else (none)) else (none)))))) = some r := H
  have A1 := Aside0.mk A10
  clear A10
  replace H := Option.bind_eq_some_iff.mp H
  obtain ⟨⟨t124, t127, t128⟩, A20, H⟩ := H
  replace H : ((scene_Read.f (⟨#[97, 114, 109, 32, 48, 49, 59]⟩ : ByteArray)).bind fun bt129 => ((scene_Number.f (⟨#[45, 49, 50]⟩ : ByteArray)).bind fun bt134 => ((argosyref27_Same.f k t119 (([(⟨1, 0, (-3), ([] : List Int)⟩ : S34), (⟨2, 0, 0, (([1, 2] : List Int))⟩ : S34), (⟨3, 0, 0, ([] : List Int)⟩ : S34)] : List (S34)))).bind fun t142 => (if t142 = true then (if t122 = 33 then (if t123 = 0 then (if t127 = 6 then (if t128 = 10 then (if bt129.2.1 = 4 then (if bt129.2.2 = 10 then (if bt134.1 = (-12) then (some bt134.2) else (none)) else (none)) else (none)) else (none)) else (none)) else (none)) else (none)) else (none))))) = some r := H
  have A2 := Aside0.mk A20
  clear A20
  replace H := Option.bind_eq_some_iff.mp H
  obtain ⟨⟨t129, t132, t133⟩, A30, H⟩ := H
  replace H : ((scene_Number.f (⟨#[45, 49, 50]⟩ : ByteArray)).bind fun bt134 => ((argosyref27_Same.f k t119 (([(⟨1, 0, (-3), ([] : List Int)⟩ : S34), (⟨2, 0, 0, (([1, 2] : List Int))⟩ : S34), (⟨3, 0, 0, ([] : List Int)⟩ : S34)] : List (S34)))).bind fun t142 => (if t142 = true then (if t122 = 33 then (if t123 = 0 then (if t127 = 6 then (if t128 = 10 then (if t132 = 4 then (if t133 = 10 then (if bt134.1 = (-12) then (some bt134.2) else (none)) else (none)) else (none)) else (none)) else (none)) else (none)) else (none)) else (none)))) = some r := H
  have A3 := Aside0.mk A30
  clear A30
  replace H := Option.bind_eq_some_iff.mp H
  obtain ⟨⟨t134, t135⟩, A40, H⟩ := H
  replace H : ((argosyref27_Same.f k t119 (([(⟨1, 0, (-3), ([] : List Int)⟩ : S34), (⟨2, 0, 0, (([1, 2] : List Int))⟩ : S34), (⟨3, 0, 0, ([] : List Int)⟩ : S34)] : List (S34)))).bind fun t142 => (if t142 = true then (if t122 = 33 then (if t123 = 0 then (if t127 = 6 then (if t128 = 10 then (if t132 = 4 then (if t133 = 10 then (if t134 = (-12) then (some t135) else (none)) else (none)) else (none)) else (none)) else (none)) else (none)) else (none)) else (none))) = some r := H
  have A4 := Aside0.mk A40
  clear A40
  obtain ⟨y136, hy136⟩ : ∃ y_ : List Int, y_ = (([1, 2] : List Int)) := ⟨_, rfl⟩
  replace H : ((argosyref27_Same.f k t119 (([(⟨1, 0, (-3), ([] : List Int)⟩ : S34), (⟨2, 0, 0, y136⟩ : S34), (⟨3, 0, 0, ([] : List Int)⟩ : S34)] : List (S34)))).bind fun t142 => (if t142 = true then (if t122 = 33 then (if t123 = 0 then (if t127 = 6 then (if t128 = 10 then (if t132 = 4 then (if t133 = 10 then (if t134 = (-12) then (some t135) else (none)) else (none)) else (none)) else (none)) else (none)) else (none)) else (none)) else (none))) = some r := by first | (rw [hy136]; with_reducible exact H) | (have H2_ := (Option.bind_some _ _).symm.trans H; rw [hy136]; with_reducible exact H2_) | (have H2_ := (Option.bind_some _ _).symm.trans H; with_reducible exact H2_) | with_reducible exact H | (rw [hy136]; exact H) | exact H
  have Ny136 := Aside0.mk hy136
  clear hy136
  obtain ⟨y139, hy139⟩ : ∃ y_ : List (S34), y_ = (([(⟨1, 0, (-3), ([] : List Int)⟩ : S34), (⟨2, 0, 0, y136⟩ : S34), (⟨3, 0, 0, ([] : List Int)⟩ : S34)] : List (S34))) := ⟨_, rfl⟩
  replace H : ((argosyref27_Same.f k t119 y139).bind fun t142 => (if t142 = true then (if t122 = 33 then (if t123 = 0 then (if t127 = 6 then (if t128 = 10 then (if t132 = 4 then (if t133 = 10 then (if t134 = (-12) then (some t135) else (none)) else (none)) else (none)) else (none)) else (none)) else (none)) else (none)) else (none))) = some r := by first | (rw [hy139]; with_reducible exact H) | (have H2_ := (Option.bind_some _ _).symm.trans H; rw [hy139]; with_reducible exact H2_) | (have H2_ := (Option.bind_some _ _).symm.trans H; with_reducible exact H2_) | with_reducible exact H | (rw [hy139]; exact H) | exact H
  have Ny139 := Aside0.mk hy139
  clear hy139
  replace H := Option.bind_eq_some_iff.mp H
  obtain ⟨t142, A50, H⟩ := H
  replace H : (if t142 = true then (if t122 = 33 then (if t123 = 0 then (if t127 = 6 then (if t128 = 10 then (if t132 = 4 then (if t133 = 10 then (if t134 = (-12) then (some t135) else (none)) else (none)) else (none)) else (none)) else (none)) else (none)) else (none)) else (none)) = some r := H
  have A5 := Aside0.mk A50
  clear A50
  by_cases c6 : t142 = true
  · subst c6
    have H1 : (if t122 = 33 then (if t123 = 0 then (if t127 = 6 then (if t128 = 10 then (if t132 = 4 then (if t133 = 10 then (if t134 = (-12) then (some t135) else (none)) else (none)) else (none)) else (none)) else (none)) else (none)) else (none)) = some r := by rw [if_pos rfl] at H; exact H
    clear H
    have H := H1
    clear H1
    by_cases c7 : t122 = 33
    · rw [if_pos c7] at H
      have c7b0 : (t122 == 33) = true := beq_iff_eq.mpr c7
      have c7b1 : (t122 != 33) = false := bne_eq_false_iff_eq.mpr c7
      clear c7
      by_cases c8 : t123 = 0
      · rw [if_pos c8] at H
        have c8b0 : (t123 == 0) = true := beq_iff_eq.mpr c8
        have c8b1 : (t123 != 0) = false := bne_eq_false_iff_eq.mpr c8
        clear c8
        by_cases c9 : t127 = 6
        · rw [if_pos c9] at H
          have c9b0 : (t127 == 6) = true := beq_iff_eq.mpr c9
          have c9b1 : (t127 != 6) = false := bne_eq_false_iff_eq.mpr c9
          clear c9
          by_cases c10 : t128 = 10
          · rw [if_pos c10] at H
            have c10b0 : (t128 == 10) = true := beq_iff_eq.mpr c10
            have c10b1 : (t128 != 10) = false := bne_eq_false_iff_eq.mpr c10
            clear c10
            by_cases c11 : t132 = 4
            · rw [if_pos c11] at H
              have c11b0 : (t132 == 4) = true := beq_iff_eq.mpr c11
              have c11b1 : (t132 != 4) = false := bne_eq_false_iff_eq.mpr c11
              clear c11
              by_cases c12 : t133 = 10
              · rw [if_pos c12] at H
                have c12b0 : (t133 == 10) = true := beq_iff_eq.mpr c12
                have c12b1 : (t133 != 10) = false := bne_eq_false_iff_eq.mpr c12
                clear c12
                by_cases c13 : t134 = (-12)
                · rw [if_pos c13] at H
                  have c13b0 : (t134 == (-12)) = true := beq_iff_eq.mpr c13
                  have c13b1 : (t134 != (-12)) = false := bne_eq_false_iff_eq.mpr c13
                  clear c13
                  obtain rfl := Option.some.inj H
                  go_enter Tryd.func6, Tryd.ntmps6
                  go_wp2_with (first | ((with_reducible refine gate_callee (f := 11) rfl ?_); refine goesL_ (some 13) rfl rfl Tryd.func11 (by kernel_rfl) rfl #[.string (⟨#[116, 105, 99, 107, 32, 48, 32, 45, 51, 59, 32, 99, 114, 97, 115, 104, 32, 49, 32, 50, 32, 59, 111, 112, 101, 110, 59, 32, 35, 32, 101, 110, 100]⟩ : ByteArray)] rfl (by (try simp only [List.map_toArray, List.map_cons, List.map_nil]); first | done | rfl | (simp only [List.length_drop, List.length_take]; rfl)) ?_; (with_reducible refine (scene_Read.calls (⟨#[116, 105, 99, 107, 32, 48, 32, 45, 51, 59, 32, 99, 114, 97, 115, 104, 32, 49, 32, 50, 32, 59, 111, 112, 101, 110, 59, 32, 35, 32, 101, 110, 100]⟩ : ByteArray) t119 t122 t123 _ A1.out).mono ?_); rintro e w14 ⟨v120, rfl, ho0, hb⟩; refine ⟨_, rfl, ?_⟩; have n0_ := Aside0.mk (Kd.N_lower (Kd.N_mono (ok' := fun k_ => True) ho0 (fun k_ hk_ => trivial)) (below_size (by repeat (first | (with_reducible first | exact HB.out | apply below_alloc | apply pw_below_drewN | apply below_drew1) | exact HB.out)))); have n1_ := Aside0.mk (below_step (by repeat (first | (with_reducible first | exact HB.out | apply below_alloc | apply pw_below_drewN | apply below_drew1) | exact HB.out)) hb); clear HB; have HO121 := n0_; have HB := n1_; clear n0_ n1_; (try clear hb); (try clear hb2); (try clear hk); (try clear hi); (try clear ho0)) | ((with_reducible refine gate_callee (f := 11) rfl ?_); refine goesL_ (some 18) rfl rfl Tryd.func11 (by kernel_rfl) rfl #[.string (⟨#[116, 105, 99, 107, 32, 48, 59]⟩ : ByteArray)] rfl (by (try simp only [List.map_toArray, List.map_cons, List.map_nil]); first | done | rfl | (simp only [List.length_drop, List.length_take]; rfl)) ?_; (with_reducible refine (scene_Read.calls (⟨#[116, 105, 99, 107, 32, 48, 59]⟩ : ByteArray) t124 t127 t128 _ A2.out).mono ?_); rintro e w15 ⟨v125, rfl, ho0, hb⟩; refine ⟨_, rfl, ?_⟩; have n0_ := Aside0.mk (Kd.N_elder' (by (with_reducible repeat (first | apply Kd.N_alloc | apply Kd.N_drewN | apply Kd.N_drew)); exact HO121.out) (by first | exact Kd.N_base ho0 | exact Kd.S_base ho0) hb); have n1_ := Aside0.mk (Kd.N_lower (Kd.N_mono (ok' := fun k_ => some k_ ≠ (v120 : Value).ownBlock) ho0 (fun k_ hk_ => (Kd.fresh' (Kd.N_lt (by (with_reducible repeat (first | apply Kd.N_alloc | apply Kd.N_drewN | apply Kd.N_drew)); exact HO121.out)) k_ hk_))) (below_size (by repeat (first | (with_reducible first | exact HB.out | apply below_alloc | apply pw_below_drewN | apply below_drew1) | exact HB.out)))); have n2_ := Aside0.mk (below_step (by repeat (first | (with_reducible first | exact HB.out | apply below_alloc | apply pw_below_drewN | apply below_drew1) | exact HB.out)) hb); clear HO121; clear HB; have HO121 := n0_; have HO126 := n1_; have HB := n2_; clear n0_ n1_ n2_; (try clear hb); (try clear hb2); (try clear hk); (try clear hi); (try clear ho0)) | ((with_reducible refine gate_callee (f := 11) rfl ?_); refine goesL_ (some 23) rfl rfl Tryd.func11 (by kernel_rfl) rfl #[.string (⟨#[97, 114, 109, 32, 48, 49, 59]⟩ : ByteArray)] rfl (by (try simp only [List.map_toArray, List.map_cons, List.map_nil]); first | done | rfl | (simp only [List.length_drop, List.length_take]; rfl)) ?_; (with_reducible refine (scene_Read.calls (⟨#[97, 114, 109, 32, 48, 49, 59]⟩ : ByteArray) t129 t132 t133 _ A3.out).mono ?_); rintro e w16 ⟨v130, rfl, ho0, hb⟩; refine ⟨_, rfl, ?_⟩; have n0_ := Aside0.mk (Kd.N_elder' (by (with_reducible repeat (first | apply Kd.N_alloc | apply Kd.N_drewN | apply Kd.N_drew)); exact HO121.out) (by first | exact Kd.N_base ho0 | exact Kd.S_base ho0) hb); have n1_ := Aside0.mk (Kd.N_elder' (by (with_reducible repeat (first | apply Kd.N_alloc | apply Kd.N_drewN | apply Kd.N_drew)); exact HO126.out) (by first | exact Kd.N_base ho0 | exact Kd.S_base ho0) hb); have n2_ := Aside0.mk (Kd.N_lower (Kd.N_mono (ok' := fun k_ => some k_ ≠ (v120 : Value).ownBlock ∧ some k_ ≠ (v125 : Value).ownBlock) ho0 (fun k_ hk_ => ⟨(Kd.fresh' (Kd.N_lt (by (with_reducible repeat (first | apply Kd.N_alloc | apply Kd.N_drewN | apply Kd.N_drew)); exact HO121.out)) k_ hk_), (Kd.fresh' (Kd.N_lt (by (with_reducible repeat (first | apply Kd.N_alloc | apply Kd.N_drewN | apply Kd.N_drew)); exact HO126.out)) k_ hk_)⟩)) (below_size (by repeat (first | (with_reducible first | exact HB.out | apply below_alloc | apply pw_below_drewN | apply below_drew1) | exact HB.out)))); have n3_ := Aside0.mk (below_step (by repeat (first | (with_reducible first | exact HB.out | apply below_alloc | apply pw_below_drewN | apply below_drew1) | exact HB.out)) hb); clear HO121; clear HO126; clear HB; have HO121 := n0_; have HO126 := n1_; have HO131 := n2_; have HB := n3_; clear n0_ n1_ n2_ n3_; (try clear hb); (try clear hb2); (try clear hk); (try clear hi); (try clear ho0)) | ((with_reducible refine gate_callee (f := 13) rfl ?_); refine goesL_ (some 28) rfl rfl Tryd.func13 (by kernel_rfl) rfl #[.string (⟨#[45, 49, 50]⟩ : ByteArray)] rfl (by (try simp only [List.map_toArray, List.map_cons, List.map_nil]); first | done | rfl | (simp only [List.length_drop, List.length_take]; rfl)) ?_; (with_reducible refine (scene_Number.calls (⟨#[45, 49, 50]⟩ : ByteArray) t134 t135 _ A4.out).mono ?_); rintro e w17 ⟨rfl, hb⟩; refine ⟨_, rfl, ?_⟩; have n0_ := Aside0.mk (Kd.N_below (by (with_reducible repeat (first | apply Kd.N_alloc | apply Kd.N_drewN | apply Kd.N_drew)); exact HO121.out) hb); have n1_ := Aside0.mk (Kd.N_below (by (with_reducible repeat (first | apply Kd.N_alloc | apply Kd.N_drewN | apply Kd.N_drew)); exact HO126.out) hb); have n2_ := Aside0.mk (Kd.N_below (by (with_reducible repeat (first | apply Kd.N_alloc | apply Kd.N_drewN | apply Kd.N_drew)); exact HO131.out) hb); have n3_ := Aside0.mk (below_step (by repeat (first | (with_reducible first | exact HB.out | apply below_alloc | apply pw_below_drewN | apply below_drew1) | exact HB.out)) hb); clear HO121; clear HO126; clear HO131; clear HB; have HO121 := n0_; have HO126 := n1_; have HO131 := n2_; have HB := n3_; clear n0_ n1_ n2_ n3_; (try clear hb); (try clear hb2); (try clear hk); (try clear hi)) | ((with_reducible refine gate_dst (N := 33) rfl ?_); refine Kd.R_lit (Kd.int .i64) _ 3 ?hg (N := 33) ?hd (xs := ([1, 2] : List Int)) (inner := [.int .i64 1, .int .i64 2]) (ok := fun _ => True) (okp := fun _ => True) ?hr ?hp (fun _ hk => hk) trivial (Below.refl _ _) (Nat.le_refl _) (by simp) ?_; (case hd => rfl); (case hg => rfl); (case hr => first | (go_simp; done) | (go_simp; rfl) | (simp only [pf_or128]; go_simp; done) | (simp only [pf_or128]; go_simp; rfl)); (case hp => exact (Reps.one (show Kd.M (Kd.int .i64) _ _ _ 1 [.int .i64 1] from rfl) (Reps.one (show Kd.M (Kd.int .i64) _ _ _ 2 [.int .i64 2] from rfl) (Reps.none _ _)))); intro v137 w18 ho19 hb hg_ hnew_; clear hg_ hnew_; (first | rw [← Ny136.out] at ho19 | (simp only [Int.reduceToNat] at ho19; rw [← Ny136.out] at ho19)); have n0_ := Aside0.mk (Kd.N_elder' (by (with_reducible repeat (first | apply Kd.N_alloc | apply Kd.N_drewN | apply Kd.N_drew)); exact HO121.out) (by first | exact Kd.R_base ho19 | exact Kd.S_base ho19) hb); have n1_ := Aside0.mk (Kd.N_elder' (by (with_reducible repeat (first | apply Kd.N_alloc | apply Kd.N_drewN | apply Kd.N_drew)); exact HO126.out) (by first | exact Kd.R_base ho19 | exact Kd.S_base ho19) hb); have n2_ := Aside0.mk (Kd.N_elder' (by (with_reducible repeat (first | apply Kd.N_alloc | apply Kd.N_drewN | apply Kd.N_drew)); exact HO131.out) (by first | exact Kd.R_base ho19 | exact Kd.S_base ho19) hb); have n3_ := Aside0.mk (Kd.R_lower ho19 (below_size (by repeat (first | (with_reducible first | exact HB.out | apply below_alloc | apply pw_below_drewN | apply below_drew1) | exact HB.out)))); have n4_ := Aside0.mk (below_step (by repeat (first | (with_reducible first | exact HB.out | apply below_alloc | apply pw_below_drewN | apply below_drew1) | exact HB.out)) hb); clear HO121; clear HO126; clear HO131; clear HB; have HO121 := n0_; have HO126 := n1_; have HO131 := n2_; have HO138 := n3_; have HB := n4_; clear n0_ n1_ n2_ n3_ n4_; clear hb ho19; obtain ⟨Ao20, co20, eo20⟩ := Kd.R_slice HO138.out; subst eo20) | ((with_reducible refine gate_dst (N := 36) rfl ?_); refine Kd.N_lit k34 _ 34 ?hg (N' := 36) ?hd (xs := ([(⟨1, 0, (-3), ([] : List Int)⟩ : S34), (⟨2, 0, 0, y136⟩ : S34), (⟨3, 0, 0, ([] : List Int)⟩ : S34)] : List (S34))) (inner := [.int .i64 1, .int .i64 0, .int .i64 (-3), .slice none 0 0, .int .i64 2, .int .i64 0, .int .i64 0, .slice Ao20 y136.length co20, .int .i64 3, .int .i64 0, .int .i64 0, .slice none 0 0]) (ok := (fun k_ => some k_ ≠ (v120 : Value).ownBlock ∧ some k_ ≠ (v125 : Value).ownBlock ∧ some k_ ≠ (v130 : Value).ownBlock)) (okp := (fun k_ => some k_ ≠ (v120 : Value).ownBlock ∧ some k_ ≠ (v125 : Value).ownBlock ∧ some k_ ≠ (v130 : Value).ownBlock)) ?hr ?hp (fun _ hk => hk) ((show ∀ k_, w18.heap.size ≤ k_ → (fun k_ => some k_ ≠ (v120 : Value).ownBlock ∧ some k_ ≠ (v125 : Value).ownBlock ∧ some k_ ≠ (v130 : Value).ownBlock) k_ from fun k_ hk => ⟨Kd.fresh' (Kd.N_lt (by (with_reducible repeat (first | apply Kd.N_alloc | apply Kd.N_drewN | apply Kd.N_drew)); exact HO121.out)) k_ hk, Kd.fresh' (Kd.N_lt (by (with_reducible repeat (first | apply Kd.N_alloc | apply Kd.N_drewN | apply Kd.N_drew)); exact HO126.out)) k_ hk, Kd.fresh' (Kd.N_lt (by (with_reducible repeat (first | apply Kd.N_alloc | apply Kd.N_drewN | apply Kd.N_drew)); exact HO131.out)) k_ hk⟩) _ (Nat.le_refl _)) (Below.refl _ _) (Nat.le_refl _) (by simp) ?_; (case hd => rfl); (case hg => rfl); (case hr => first | (go_simp; done) | (go_simp; rfl) | (simp only [pf_or128]; go_simp; done) | (simp only [pf_or128]; go_simp; rfl)); (case hp => exact (Reps.c4 (show Kd.FK k34 _ _ (⟨1, 0, (-3), ([] : List Int)⟩ : S34) [.int .i64 1, .int .i64 0, .int .i64 (-3), .slice none 0 0] from (k34_mkF _ _ (⟨1, 0, (-3), ([] : List Int)⟩ : S34) (Nat.le_refl _) (Kd.F_nil _ _ _))) (Reps.c4 (show Kd.FK k34 _ _ (⟨2, 0, 0, y136⟩ : S34) [.int .i64 2, .int .i64 0, .int .i64 0, .slice Ao20 y136.length co20] from (k34_mkF _ _ (⟨2, 0, 0, y136⟩ : S34) (Kd.R_reads' (Kd.R_mono (ok' := (fun k_ => some k_ ≠ (v120 : Value).ownBlock ∧ some k_ ≠ (v125 : Value).ownBlock ∧ some k_ ≠ (v130 : Value).ownBlock)) (Kd.R_apart' (Kd.R_apart' (Kd.R_apart' (HO138.out) (Kd.N_typed HO121.out) (by decide)) (Kd.N_typed HO126.out) (by decide)) (Kd.N_typed HO131.out) (by decide)) (fun k_ hk => ⟨hk.1.1.2, ⟨hk.1.2, hk.2⟩⟩))).2.1 (Kd.R_F (Kd.R_mono (ok' := (fun k_ => some k_ ≠ (v120 : Value).ownBlock ∧ some k_ ≠ (v125 : Value).ownBlock ∧ some k_ ≠ (v130 : Value).ownBlock)) (Kd.R_apart' (Kd.R_apart' (Kd.R_apart' (HO138.out) (Kd.N_typed HO121.out) (by decide)) (Kd.N_typed HO126.out) (by decide)) (Kd.N_typed HO131.out) (by decide)) (fun k_ hk => ⟨hk.1.1.2, ⟨hk.1.2, hk.2⟩⟩))))) (Reps.c4 (show Kd.FK k34 _ _ (⟨3, 0, 0, ([] : List Int)⟩ : S34) [.int .i64 3, .int .i64 0, .int .i64 0, .slice none 0 0] from (k34_mkF _ _ (⟨3, 0, 0, ([] : List Int)⟩ : S34) (Nat.le_refl _) (Kd.F_nil _ _ _))) (Reps.none _ _))))); intro v140 w21 ho22 hb hg_ hnew_; clear hg_ hnew_; (first | rw [← Ny139.out] at ho22 | (simp only [Int.reduceToNat] at ho22; rw [← Ny139.out] at ho22)); have n0_ := Aside0.mk (Kd.N_elder' (by (with_reducible repeat (first | apply Kd.N_alloc | apply Kd.N_drewN | apply Kd.N_drew)); exact HO121.out) (by first | exact Kd.N_base ho22 | exact Kd.S_base ho22) hb); have n1_ := Aside0.mk (Kd.N_elder' (by (with_reducible repeat (first | apply Kd.N_alloc | apply Kd.N_drewN | apply Kd.N_drew)); exact HO126.out) (by first | exact Kd.N_base ho22 | exact Kd.S_base ho22) hb); have n2_ := Aside0.mk (Kd.N_elder' (by (with_reducible repeat (first | apply Kd.N_alloc | apply Kd.N_drewN | apply Kd.N_drew)); exact HO131.out) (by first | exact Kd.N_base ho22 | exact Kd.S_base ho22) hb); have n3_ := Aside0.mk (Kd.N_lower ho22 (below_size (by repeat (first | (with_reducible first | exact HB.out | apply below_alloc | apply pw_below_drewN | apply below_drew1) | exact HB.out)))); have n4_ := Aside0.mk (below_step (by repeat (first | (with_reducible first | exact HB.out | apply below_alloc | apply pw_below_drewN | apply below_drew1) | exact HB.out)) hb); clear HO121; clear HO126; clear HO131; clear HB; clear HO138; have HO121 := n0_; have HO126 := n1_; have HO131 := n2_; have HO141 := n3_; have HB := n4_; clear n0_ n1_ n2_ n3_ n4_; clear hb ho22; obtain ⟨Ao23, co23, eo23⟩ := Kd.N_slice HO121.out; subst eo23; obtain ⟨Ao24, co24, eo24⟩ := Kd.N_slice HO141.out; subst eo24) | ((with_reducible refine gate_callee (f := 12) rfl ?_); refine goesL_ (some 37) rfl rfl Tryd.func12 (by kernel_rfl) rfl #[.slice Ao23 t119.length co23, .slice Ao24 y139.length co24] rfl (by (try simp only [List.map_toArray, List.map_cons, List.map_nil]); first | done | rfl | (simp only [List.length_drop, List.length_take]; rfl)) ?_; (with_reducible refine (argosyref27_Same.calls k _ _ t119 _ _ y139 true _ ?side1 ?side2 ?side3 ?side4 A5.out).mono ?_); (case side1 => repeat (first | exact (Kd.N_reads' HO121.out).2.2 | (with_reducible refine Kd.C_alloc ?_ _) | (with_reducible refine Kd.C_drewN ?_ _) | (with_reducible refine Kd.C_drew ?_))); (case side2 => exact (Kd.N_reads' HO121.out).2.1); (case side3 => repeat (first | exact (Kd.N_reads' HO141.out).2.2 | (with_reducible refine Kd.C_alloc ?_ _) | (with_reducible refine Kd.C_drewN ?_ _) | (with_reducible refine Kd.C_drew ?_))); (case side4 => exact (Kd.N_reads' HO141.out).2.1); rintro e w' ⟨rfl, ⟨nd, rfl⟩⟩; refine ⟨_, rfl, ?_⟩))
                  go_ret
                  exact ⟨by first | rfl | (simp [errW_none, errW_some] <;> rfl) | (simp [*, errW_none, errW_some] <;> rfl), by repeat (first | (with_reducible first | exact HB.out | apply below_alloc | apply pw_below_drewN | apply below_drew1) | exact HB.out)⟩
                · rw [if_neg c13] at H
                  exact absurd H (by simp)
              · rw [if_neg c12] at H
                exact absurd H (by simp)
            · rw [if_neg c11] at H
              exact absurd H (by simp)
          · rw [if_neg c10] at H
            exact absurd H (by simp)
        · rw [if_neg c9] at H
          exact absurd H (by simp)
      · rw [if_neg c8] at H
        exact absurd H (by simp)
    · rw [if_neg c7] at H
      exact absurd H (by simp)
  · replace c6 := Bool.eq_false_iff.mpr c6
    subst c6
    have H1 : (none) = some r := by rw [if_neg (show ¬ (false = true) by decide)] at H; exact H
    clear H
    have H := H1
    clear H1
    exact absurd H (by simp)

/-! ### scene_numbers: function 15 -/
def numsF (a0 a1 a2 : Int) (l : List Int) : List Int := if a0 = 1 then [a1, a2] else if a0 = 2 then l else if a0 = 4 then [a1] else if a0 = 5 then [a1] else []
/-- A new row of numbers, just laid. -/
theorem V_new (W : World) (base : Nat) (P : Nat → Prop) (b0 g : Nat) (hb : b0 ≤ W.heap.size) (hg : g = W.heap.size) (xs : List Int) (hm : xs.length ≤ 9223372036854775807) :
    Kd.V (Kd.int .i64) 3 (W.alloc (.cells (encs (Value.int .i64) xs).toArray 3)) base (fun k => P k ∨ b0 ≤ k) (.slice (some ⟨g, 0, none⟩) xs.length xs.length) xs := by
  subst hg
  refine Kd.R_V (base := 0) ⟨fun k hk => ?_, OwnRow.lit W 0 (Kd.reps_scalar xs) (Nat.zero_le _) hm⟩
  have : W.heap.size = k := by simpa [Value.ownBlock] using hk
  exact .inr (by omega)
set_option maxHeartbeats 8000000 in
set_option maxRecDepth 100000 in
theorem own_numbers (a0 a1 a2 : Int) (P : Nat → Prop) (A : Option Addr) (c : Nat) (l : List Int) (w : World) (hs : Kd.V (Kd.int .i64) 3 w w.heap.size (fun k_ => P k_) (.slice A l.length c) l) :
    Calls Tryd.prog 15 #[.agg #[.int .i64 a0, .int .i64 a1, .int .i64 a2, .slice A l.length c]] w fun e w' => ∃ v0_ : Value, e = .returned (v0_) ∧ Kd.V (Kd.int .i64) 3 w' w.heap.size (fun k_ => (P k_ ∨ w.heap.size ≤ k_)) v0_ (numsF a0 a1 a2 l) ∧ Below w.heap.size w w' := by
  have HS := Aside0.mk hs
  clear hs
  unfold numsF
  by_cases c1 : a0 = 1
  · subst c1
    rw [if_pos rfl]
    go_enter Tryd.func15, Tryd.ntmps15
    go_wp2
    go_ret
    exact ⟨_, rfl, V_new (w.alloc _) w.heap.size P w.heap.size (w.heap.size + 1) (by simp) (by simp) [a1, a2] (by simp), below_alloc (below_alloc (Below.refl _ _) _) _⟩
  rw [if_neg c1]
  by_cases c2 : a0 = 2
  · subst c2
    rw [if_pos rfl]
    go_enter Tryd.func15, Tryd.ntmps15
    go_wp2
    go_ret
    exact ⟨_, rfl, Kd.V_mono (Kd.V_alloc HS.out _) (fun _ h => .inl h), below_alloc (Below.refl _ _) _⟩
  rw [if_neg c2]
  have d1 : (a0 == 1) = false := beq_eq_false_iff_ne.mpr c1
  have d2 : (a0 == 2) = false := beq_eq_false_iff_ne.mpr c2
  by_cases c4 : a0 = 4
  · subst c4
    rw [if_pos rfl]
    go_enter Tryd.func15, Tryd.ntmps15
    go_wp2
    go_ret
    exact ⟨_, rfl, V_new (w.alloc _) w.heap.size P w.heap.size (w.heap.size + 1) (by simp) (by simp) [a1] (by simp), below_alloc (below_alloc (Below.refl _ _) _) _⟩
  rw [if_neg c4]
  have d4 : (a0 == 4) = false := beq_eq_false_iff_ne.mpr c4
  by_cases c5 : a0 = 5
  · subst c5
    rw [if_pos rfl]
    go_enter Tryd.func15, Tryd.ntmps15
    go_wp2
    go_ret
    exact ⟨_, rfl, V_new (w.alloc _) w.heap.size P w.heap.size (w.heap.size + 1) (by simp) (by simp) [a1] (by simp), below_alloc (below_alloc (Below.refl _ _) _) _⟩
  rw [if_neg c5]
  have d5 : (a0 == 5) = false := beq_eq_false_iff_ne.mpr c5
  clear c1 c2 c4 c5
  go_enter Tryd.func15, Tryd.ntmps15
  go_wp2
  go_ret
  exact ⟨_, rfl, Kd.V_nil _ _ _ _ _, below_alloc (Below.refl _ _) _⟩
def scene_numbers.f (a0_0 : Int) (a0_1 : Int) (a0_2 : Int) (l0_3 : List Int) : Option (List Int) := some (numsF a0_0 a0_1 a0_2 l0_3)
theorem scene_numbers.calls (a0_0 : Int) (a0_1 : Int) (a0_2 : Int) (P0_3_ : Nat → Prop) (A0_3 : Option Addr) (c0_3 : Nat) (l0_3 : List Int) (r : List Int) (w : World) (hs0_3 : Kd.V (Kd.int .i64) 3 w w.heap.size (fun k_ => P0_3_ k_) (.slice A0_3 l0_3.length c0_3) l0_3) (h : scene_numbers.f a0_0 a0_1 a0_2 l0_3 = some r) :
    Calls Tryd.prog 15 #[.agg #[.int .i64 a0_0, .int .i64 a0_1, .int .i64 a0_2, .slice A0_3 l0_3.length c0_3]] w fun e w' => ∃ v0_ : Value, e = .returned (v0_) ∧ Kd.V (Kd.int .i64) 3 w' w.heap.size (fun k_ => (P0_3_ k_ ∨ w.heap.size ≤ k_)) v0_ r ∧ Below w.heap.size w w' := by
  obtain rfl := Option.some.inj h
  exact own_numbers a0_0 a0_1 a0_2 P0_3_ A0_3 c0_3 l0_3 w hs0_3

end Go.Proofs.YtfmbdmkiamedeaaDoor.PScenePrints
