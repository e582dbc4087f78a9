-- Written by a patched print (wip/mkprint.py), for this claim.
import Derived.Test.YtfmbdmkiamedeaaDoorPSceneBackx0
import Derived.Test.YtfmbdmkiamedeaaDoorPSceneBackx1
import Derived.Test.YtfmbdmkiamedeaaDoorPSceneBackx4
import Derived.Test.YtfmbdmkiamedeaaDoorPSceneBackx5
import Derived.Test.YtfmbdmkiamedeaaDoorPSceneBackx6
namespace Go.Proofs.YtfmbdmkiamedeaaDoor.PSceneBack
open Go.RowKit Go.Proofs.YtfmbdmkiamedeaaDoorW.PrintWords Go.Proofs.YtfmbdmkiamedeaaDoorW.PrintLast Go.Proofs.YtfmbdmkiamedeaaDoorW.PrintMore
attribute [local go_sem] max2_int min2_int max_two min_two max_three min_three max_four min_four   -- for this text's walks alone
set_option linter.unusedVariables false
set_option linter.unusedSimpArgs false

/-! ### argosylaw27_SceneBack: function 4 -/
mutual
def argosylaw27_SceneBack.j0 : Nat → List (S34) → ByteArray → Bool → Option (Bool)
  | 0, _, _, _ => none
  | k + 1, x0, x1, x25 => if x25 = true then ((argosylaw27_lives.f k).bind fun t166 => (some t166)) else ((scene_Print.f k x0).bind fun bt167 => (if bt167.2 = 0 then (argosylaw27_SceneBack.j1 k x0 x1 bt167.1 (decide ((bt167.1.size : Int) ≤ 65536))) else (argosylaw27_SceneBack.j1 k x0 x1 bt167.1 false)))
def argosylaw27_SceneBack.j1 : Nat → List (S34) → ByteArray → ByteArray → Bool → Option (Bool)
  | 0, _, _, _, _ => none
  | k + 1, x0, x1, x5, x38 => if x38 = true then ((scene_Read.f x5).bind fun bt169 => ((argosyref27_Same.f k bt169.1 x0).bind fun t174 => (if t174 = true then (if bt169.2.1 = (x5.size : Int) then (if bt169.2.2 = 0 then (argosylaw27_SceneBack.j2 k x1) else (none)) else (none)) else (none)))) else (argosylaw27_SceneBack.j2 k x1)
def argosylaw27_SceneBack.j2 : Nat → ByteArray → Option (Bool)
  | 0, _ => none
  | k + 1, x1 => (scene_Read.f x1).bind fun bt175 => (if bt175.2.2 = 0 then ((scene_Print.f k bt175.1).bind fun bt181 => ((scene_Read.f bt181.1).bind fun bt183 => (if bt175.2.1 = (x1.size : Int) then (if bt181.2 = 0 then ((argosyref27_Same.f k bt175.1 bt183.1).bind fun t188 => (if t188 = true then (if bt183.2.1 = (bt181.1.size : Int) then (if bt183.2.2 = 0 then ((argosylaw27_lives.f k).bind fun t189 => (some t189)) else (none)) else (none)) else (none))) else (none)) else (none)))) else (if (bt175.1.length : Int) = 0 then (if bt175.2.1 ≥ 0 then (if bt175.2.1 ≤ (x1.size : Int) then ((argosylaw27_lives.f k).bind fun t180 => (some t180)) else (none)) else (none)) else (none)))
end
def argosylaw27_SceneBack.f (k : Nat) (l0 : List (S34)) (a1 : ByteArray) : Option (Bool) := (argosylaw27_few.f k l0).bind fun t165 => (if t165 = true then (argosylaw27_SceneBack.j0 k l0 a1 (decide ((a1.size : Int) > 5000))) else (argosylaw27_SceneBack.j0 k l0 a1 true))
theorem argosylaw27_SceneBack.mono_l : ∀ k, (∀ y0 y1 y2, LeO (argosylaw27_SceneBack.j0 k y0 y1 y2) (argosylaw27_SceneBack.j0 (k + 1) y0 y1 y2)) ∧ (∀ y0 y1 y2 y3, LeO (argosylaw27_SceneBack.j1 k y0 y1 y2 y3) (argosylaw27_SceneBack.j1 (k + 1) y0 y1 y2 y3)) ∧ (∀ y0, LeO (argosylaw27_SceneBack.j2 k y0) (argosylaw27_SceneBack.j2 (k + 1) y0))
  | 0 => ⟨fun _ _ _ r h => by simp [argosylaw27_SceneBack.j0] at h, fun _ _ _ _ r h => by simp [argosylaw27_SceneBack.j1] at h, fun _ r h => by simp [argosylaw27_SceneBack.j2] at h⟩
  | k + 1 => by
    obtain ⟨ih0, ih1, ih2⟩ := argosylaw27_SceneBack.mono_l k
    refine ⟨?_, ?_, ?_⟩
    · intro y0 y1 y2
      unfold argosylaw27_SceneBack.j0
      repeat' first
      | (with_reducible exact ih0 _ _ _)
      | (with_reducible exact ih1 _ _ _ _)
      | (with_reducible exact ih2 _)
      | (with_reducible exact argosylaw27_few.mono _ _)
      | (with_reducible exact argosylaw27_lives.mono _)
      | (with_reducible exact argosyref27_Same.mono _ _ _)
      | (with_reducible exact scene_Print.mono _ _)
      | (with_reducible exact LeO.refl _)
      | (with_reducible exact LeO.none _)
      | (with_reducible refine LeO.ite ?_ ?_)
      | (with_reducible refine LeO.bind ?_ (fun _ => ?_))
      | exact ih0 _ _ _
      | exact ih1 _ _ _ _
      | exact ih2 _
      | exact argosylaw27_few.mono _ _
      | exact argosylaw27_lives.mono _
      | exact argosyref27_Same.mono _ _ _
      | exact scene_Print.mono _ _
      | exact LeO.none _
      | refine LeO.ite ?_ ?_
      | refine LeO.bind ?_ (fun _ => ?_)
    · intro y0 y1 y2 y3
      unfold argosylaw27_SceneBack.j1
      repeat' first
      | (with_reducible exact ih0 _ _ _)
      | (with_reducible exact ih1 _ _ _ _)
      | (with_reducible exact ih2 _)
      | (with_reducible exact argosylaw27_few.mono _ _)
      | (with_reducible exact argosylaw27_lives.mono _)
      | (with_reducible exact argosyref27_Same.mono _ _ _)
      | (with_reducible exact scene_Print.mono _ _)
      | (with_reducible exact LeO.refl _)
      | (with_reducible exact LeO.none _)
      | (with_reducible refine LeO.ite ?_ ?_)
      | (with_reducible refine LeO.bind ?_ (fun _ => ?_))
      | exact ih0 _ _ _
      | exact ih1 _ _ _ _
      | exact ih2 _
      | exact argosylaw27_few.mono _ _
      | exact argosylaw27_lives.mono _
      | exact argosyref27_Same.mono _ _ _
      | exact scene_Print.mono _ _
      | exact LeO.none _
      | refine LeO.ite ?_ ?_
      | refine LeO.bind ?_ (fun _ => ?_)
    · intro y0
      unfold argosylaw27_SceneBack.j2
      repeat' first
      | (with_reducible exact ih0 _ _ _)
      | (with_reducible exact ih1 _ _ _ _)
      | (with_reducible exact ih2 _)
      | (with_reducible exact argosylaw27_few.mono _ _)
      | (with_reducible exact argosylaw27_lives.mono _)
      | (with_reducible exact argosyref27_Same.mono _ _ _)
      | (with_reducible exact scene_Print.mono _ _)
      | (with_reducible exact LeO.refl _)
      | (with_reducible exact LeO.none _)
      | (with_reducible refine LeO.ite ?_ ?_)
      | (with_reducible refine LeO.bind ?_ (fun _ => ?_))
      | exact ih0 _ _ _
      | exact ih1 _ _ _ _
      | exact ih2 _
      | exact argosylaw27_few.mono _ _
      | exact argosylaw27_lives.mono _
      | exact argosyref27_Same.mono _ _ _
      | exact scene_Print.mono _ _
      | exact LeO.none _
      | refine LeO.ite ?_ ?_
      | refine LeO.bind ?_ (fun _ => ?_)
theorem argosylaw27_SceneBack.mono : ∀ a0 a1 k, LeO (argosylaw27_SceneBack.f k a0 a1) (argosylaw27_SceneBack.f (k + 1) a0 a1) := by
  intro a0 a1 k
  obtain ⟨ih0, ih1, ih2⟩ := argosylaw27_SceneBack.mono_l k
  unfold argosylaw27_SceneBack.f
  repeat' first
      | (with_reducible exact ih0 _ _ _)
      | (with_reducible exact ih1 _ _ _ _)
      | (with_reducible exact ih2 _)
      | (with_reducible exact argosylaw27_few.mono _ _)
      | (with_reducible exact argosylaw27_lives.mono _)
      | (with_reducible exact argosyref27_Same.mono _ _ _)
      | (with_reducible exact scene_Print.mono _ _)
      | (with_reducible exact LeO.refl _)
      | (with_reducible exact LeO.none _)
      | (with_reducible refine LeO.ite ?_ ?_)
      | (with_reducible refine LeO.bind ?_ (fun _ => ?_))
      | exact ih0 _ _ _
      | exact ih1 _ _ _ _
      | exact ih2 _
      | exact argosylaw27_few.mono _ _
      | exact argosylaw27_lives.mono _
      | exact argosyref27_Same.mono _ _ _
      | exact scene_Print.mono _ _
      | exact LeO.none _
      | refine LeO.ite ?_ ?_
      | refine LeO.bind ?_ (fun _ => ?_)
set_option maxHeartbeats 8000000 in
set_option maxRecDepth 100000 in
theorem argosylaw27_SceneBack.calls (k : Nat) (A0 : Option Addr) (c0 : Nat) (l0 : List (S34)) (a1 : ByteArray) (r : Bool) (w : World) (hr0 : Kd.C k34 w A0 l0.length l0) (hc0 : l0.length ≤ c0) (hT : TabOk w) (h : argosylaw27_SceneBack.f k l0 a1 = some r) :
    Calls Tryd.prog 4 #[.slice A0 l0.length c0, .string a1] w fun e w' => e = .returned (.bool r) ∧ Below w.heap.size w w' := by
  have HR0 := Aside0.mk hr0
  have HC0 := Aside0.mk hc0
  clear hr0 hc0
  have HT := Aside0.mk hT
  clear hT
  have HB := Aside0.mk (Below.refl w.heap.size w)
  have H : ((argosylaw27_few.f k l0).bind fun t165 => (if t165 = true then (argosylaw27_SceneBack.j0 k l0 a1 (decide ((a1.size : Int) > 5000))) else (argosylaw27_SceneBack.j0 k l0 a1 true))) = some r := h
  clear h
  have HC3 := Aside0.mk H
  clear H
  go_enter Tryd.func4, Tryd.ntmps4
  go_upto_region 1 with (fail)
  go_cut [25] (fun v25 wc => ∃ (kq : Nat) (x25_2 : Bool), v25 = .bool x25_2 ∧ Aside0 (argosylaw27_SceneBack.j0 kq l0 a1 x25_2 = some r) ∧ Aside0 (kq ≤ k) ∧ Aside0 (Below w.heap.size w wc))
  case first =>
    have H := HC3.out
    clear HC3
    replace H := Option.bind_eq_some_iff.mp H
    obtain ⟨t165, A40, H⟩ := H
    replace H : (if t165 = true then (argosylaw27_SceneBack.j0 k l0 a1 (decide ((a1.size : Int) > 5000))) else (argosylaw27_SceneBack.j0 k l0 a1 true)) = some r := H
    have A4 := Aside0.mk A40
    clear A40
    by_cases c5 : t165 = true
    · subst c5
      have H1 : (argosylaw27_SceneBack.j0 k l0 a1 (decide ((a1.size : Int) > 5000))) = some r := by rw [if_pos rfl] at H; exact H
      clear H
      have H := H1
      clear H1
      have H' := Aside0.mk H
      clear H
      go_wp2_with (first | ((with_reducible refine gate_callee (f := 5) rfl ?_); refine goesL_ (some 19) rfl rfl Tryd.func5 (by kernel_rfl) rfl #[.slice A0 l0.length c0] rfl (by (try simp only [List.map_toArray, List.map_cons, List.map_nil]); first | done | rfl | (simp only [List.length_drop, List.length_take]; rfl)) ?_; (with_reducible refine (argosylaw27_few.calls k _ _ l0 true _ ?side1 ?side2 A4.out).mono ?_); (case side1 => repeat (first | exact (Kd.C_below HR0.out HB.out) | (with_reducible refine Kd.C_alloc ?_ _) | (with_reducible refine Kd.C_drewN ?_ _) | (with_reducible refine Kd.C_drew ?_))); (case side2 => exact HC0.out); rintro e w' ⟨rfl, ⟨nd, rfl⟩⟩; refine ⟨_, rfl, ?_⟩))
      go_meet
      case rel => exact ⟨_, (decide ((a1.size : Int) > 5000)), (by first | rfl | (simp; done) | (simp [*]; done)), H', ⟨by first | omega | exact Nat.le_refl _⟩, ⟨by repeat (first | (with_reducible first | exact HB.out | apply below_alloc | apply pw_below_drewN | apply below_drew1) | exact HB.out)⟩⟩
    · replace c5 := Bool.eq_false_iff.mpr c5
      subst c5
      have H1 : (argosylaw27_SceneBack.j0 k l0 a1 true) = some r := by rw [if_neg (show ¬ (false = true) by decide)] at H; exact H
      clear H
      have H := H1
      clear H1
      have H' := Aside0.mk H
      clear H
      go_wp2_with (first | ((with_reducible refine gate_callee (f := 5) rfl ?_); refine goesL_ (some 19) rfl rfl Tryd.func5 (by kernel_rfl) rfl #[.slice A0 l0.length c0] rfl (by (try simp only [List.map_toArray, List.map_cons, List.map_nil]); first | done | rfl | (simp only [List.length_drop, List.length_take]; rfl)) ?_; (with_reducible refine (argosylaw27_few.calls k _ _ l0 false _ ?side1 ?side2 A4.out).mono ?_); (case side1 => repeat (first | exact (Kd.C_below HR0.out HB.out) | (with_reducible refine Kd.C_alloc ?_ _) | (with_reducible refine Kd.C_drewN ?_ _) | (with_reducible refine Kd.C_drew ?_))); (case side2 => exact HC0.out); rintro e w' ⟨rfl, ⟨nd, rfl⟩⟩; refine ⟨_, rfl, ?_⟩))
      go_meet
      case rel => exact ⟨_, (true), (by first | rfl | (simp; done) | (simp [*]; done)), H', ⟨by first | omega | exact Nat.le_refl _⟩, ⟨by repeat (first | (with_reducible first | exact HB.out | apply below_alloc | apply pw_below_drewN | apply below_drew1) | exact HB.out)⟩⟩
  case rest =>
    clear HC3
    try clear p2
    try clear c4
    try clear c5
    obtain ⟨kq, x25_2, rfl, HA, HJ2, HB⟩ := hcut
    cases kq with
    | zero => exact absurd HA.out (by simp [argosylaw27_SceneBack.j0])
    | succ kj2 =>
      have H := HA.out
      clear HA
      simp only [argosylaw27_SceneBack.j0] at H
      by_cases c6 : x25_2 = true
      · subst c6
        have H1 : ((argosylaw27_lives.f kj2).bind fun t166 => (some t166)) = some r := by rw [if_pos rfl] at H; exact H
        clear H
        have H := H1
        clear H1
        replace H := Option.bind_eq_some_iff.mp H
        obtain ⟨t166, A70, H⟩ := H
        replace H : (some t166) = some r := H
        have A7 := Aside0.mk A70
        clear A70
        obtain rfl := Option.some.inj H
        go_wp2_with (first | ((with_reducible refine gate_callee (f := 6) rfl ?_); refine goesL_ (some 26) rfl rfl Tryd.func6 (by kernel_rfl) rfl #[] rfl (by (try simp only [List.map_toArray, List.map_cons, List.map_nil]); first | done | rfl | (simp only [List.length_drop, List.length_take]; rfl)) ?_; (with_reducible refine (argosylaw27_lives.calls kj2  t166 _ A7.out).mono ?_); rintro e w8 ⟨rfl, hb⟩; refine ⟨_, rfl, ?_⟩; have n0_ := Aside0.mk (below_step (by repeat (first | (with_reducible first | exact HB.out | apply below_alloc | apply pw_below_drewN | apply below_drew1) | exact HB.out)) hb); clear HB; have HB := n0_; clear n0_; (try clear hb); (try clear hb2); (try clear hk); (try clear hi)))
        go_ret
        exact ⟨by first | rfl | (simp [errW_none, errW_some] <;> rfl) | (simp [*, errW_none, errW_some] <;> rfl), by repeat (first | (with_reducible first | exact HB.out | apply below_alloc | apply pw_below_drewN | apply below_drew1) | exact HB.out)⟩
      · replace c6 := Bool.eq_false_iff.mpr c6
        subst c6
        have H1 : ((scene_Print.f kj2 l0).bind fun bt167 => (if bt167.2 = 0 then (argosylaw27_SceneBack.j1 kj2 l0 a1 bt167.1 (decide ((bt167.1.size : Int) ≤ 65536))) else (argosylaw27_SceneBack.j1 kj2 l0 a1 bt167.1 false))) = some r := by rw [if_neg (show ¬ (false = true) by decide)] at H; exact H
        clear H
        have H := H1
        clear H1
        replace H := Option.bind_eq_some_iff.mp H
        obtain ⟨⟨t167, t168⟩, A90, H⟩ := H
        replace H : (if t168 = 0 then (argosylaw27_SceneBack.j1 kj2 l0 a1 t167 (decide ((t167.size : Int) ≤ 65536))) else (argosylaw27_SceneBack.j1 kj2 l0 a1 t167 false)) = some r := H
        have A9 := Aside0.mk A90
        clear A90
        have HC10 := Aside0.mk H
        clear H
        go_upto_region 4 with (first | ((with_reducible refine gate_callee (f := 7) rfl ?_); refine goesL_ (some 29) rfl rfl Tryd.func7 (by kernel_rfl) rfl #[.slice A0 l0.length c0] rfl (by (try simp only [List.map_toArray, List.map_cons, List.map_nil]); first | done | rfl | (simp only [List.length_drop, List.length_take]; rfl)) ?_; (with_reducible refine (scene_Print.calls kj2 _ _ l0 t167 t168 _ ?side1 ?side2 ?side3 A9.out).mono ?_); (case side1 => repeat (first | exact (Kd.C_below HR0.out HB.out) | (with_reducible refine Kd.C_alloc ?_ _) | (with_reducible refine Kd.C_drewN ?_ _) | (with_reducible refine Kd.C_drew ?_))); (case side2 => exact HC0.out); (case side3 => exact TabOk.below HT.out (by repeat (first | (with_reducible first | exact HB.out | apply below_alloc | apply pw_below_drewN | apply below_drew1) | exact HB.out))); rintro e w11 ⟨rfl, hb⟩; refine ⟨_, rfl, ?_⟩; have n0_ := Aside0.mk (below_step (by repeat (first | (with_reducible first | exact HB.out | apply below_alloc | apply pw_below_drewN | apply below_drew1) | exact HB.out)) hb); clear HB; have HB := n0_; clear n0_; (try clear hb); (try clear hb2); (try clear hk); (try clear hi)))
        (try simp only [Act.put, List.setIfInBounds_toArray, List.set_cons_zero, List.set_cons_succ])
        go_cut [38] (fun v38 wc => ∃ (kq : Nat) (x38_9 : Bool), v38 = .bool x38_9 ∧ Aside0 (argosylaw27_SceneBack.j1 kq l0 a1 t167 x38_9 = some r) ∧ Aside0 (kq ≤ kj2) ∧ Aside0 (Below w.heap.size w wc))
        case first =>
          have H := HC10.out
          clear HC10
          by_cases c12 : t168 = 0
          · rw [if_pos c12] at H
            have c12b0 : (t168 == 0) = true := beq_iff_eq.mpr c12
            have c12b1 : (t168 != 0) = false := bne_eq_false_iff_eq.mpr c12
            clear c12
            (first | rw [c12b0] | (simp only [i64_w, i32_w]; rw [c12b0]) | skip)
            have H' := Aside0.mk H
            clear H
            go_wp2
            go_meet
            case rel => exact ⟨_, (decide ((t167.size : Int) ≤ 65536)), (by first | rfl | (simp; done) | (simp [*]; done)), H', ⟨by have := HJ2.out; first | omega | exact Nat.le_refl _⟩, ⟨by repeat (first | (with_reducible first | exact HB.out | apply below_alloc | apply pw_below_drewN | apply below_drew1) | exact HB.out)⟩⟩
          · rw [if_neg c12] at H
            have c12b0 : (t168 == 0) = false := beq_eq_false_iff_ne.mpr c12
            have c12b1 : (t168 != 0) = true := bne_iff_ne.mpr c12
            (first | rw [c12b0] | (simp only [i64_w, i32_w]; rw [c12b0]) | skip)
            have H' := Aside0.mk H
            clear H
            go_wp2
            go_meet
            case rel => exact ⟨_, (false), (by first | rfl | (simp; done) | (simp [*]; done)), H', ⟨by have := HJ2.out; first | omega | exact Nat.le_refl _⟩, ⟨by repeat (first | (with_reducible first | exact HB.out | apply below_alloc | apply pw_below_drewN | apply below_drew1) | exact HB.out)⟩⟩
        case rest =>
          clear HC10
          try clear c1
          try clear p2
          try clear c4
          try clear c5
          try clear c6
          try clear c7
          try clear c12
          try clear c12b0
          try clear c12b1
          try clear p2
          obtain ⟨kq, x38_9, rfl, HA, HJ9, HB⟩ := hcut
          cases kq with
          | zero => exact absurd HA.out (by simp [argosylaw27_SceneBack.j1])
          | succ kj9 =>
            have H := HA.out
            clear HA
            simp only [argosylaw27_SceneBack.j1] at H
            have HC13 := Aside0.mk H
            clear H
            go_upto_if 38 with (fail)
            go_cut [] (fun wc => ∃ (kq : Nat), Aside0 (argosylaw27_SceneBack.j2 kq a1 = some r) ∧ Aside0 (kq ≤ kj9) ∧ Aside0 (Below w.heap.size w wc))
            case first =>
              have H := HC13.out
              clear HC13
              by_cases c14 : x38_9 = true
              · subst c14
                have H1 : ((scene_Read.f t167).bind fun bt169 => ((argosyref27_Same.f kj9 bt169.1 l0).bind fun t174 => (if t174 = true then (if bt169.2.1 = (t167.size : Int) then (if bt169.2.2 = 0 then (argosylaw27_SceneBack.j2 kj9 a1) else (none)) else (none)) else (none)))) = some r := by rw [if_pos rfl] at H; exact H
                clear H
                have H := H1
                clear H1
                replace H := Option.bind_eq_some_iff.mp H
                obtain ⟨⟨t169, t172, t173⟩, A150, H⟩ := H
                replace H : ((argosyref27_Same.f kj9 t169 l0).bind fun t174 => (if t174 = true then (if t172 = (t167.size : Int) then (if t173 = 0 then (argosylaw27_SceneBack.j2 kj9 a1) else (none)) else (none)) else (none))) = some r := H
                have A15 := Aside0.mk A150
                clear A150
                replace H := Option.bind_eq_some_iff.mp H
                obtain ⟨t174, A160, H⟩ := H
                replace H : (if t174 = true then (if t172 = (t167.size : Int) then (if t173 = 0 then (argosylaw27_SceneBack.j2 kj9 a1) else (none)) else (none)) else (none)) = some r := H
                have A16 := Aside0.mk A160
                clear A160
                by_cases c17 : t174 = true
                · subst c17
                  have H1 : (if t172 = (t167.size : Int) then (if t173 = 0 then (argosylaw27_SceneBack.j2 kj9 a1) else (none)) else (none)) = some r := by rw [if_pos rfl] at H; exact H
                  clear H
                  have H := H1
                  clear H1
                  by_cases c18 : t172 = (t167.size : Int)
                  · rw [if_pos c18] at H
                    have c18b0 : (t172 == (t167.size : Int)) = true := beq_iff_eq.mpr c18
                    have c18b1 : (t172 != (t167.size : Int)) = false := bne_eq_false_iff_eq.mpr c18
                    clear c18
                    (first | rw [c18b0] | (simp only [i64_w, i32_w]; rw [c18b0]) | skip)
                    by_cases c19 : t173 = 0
                    · rw [if_pos c19] at H
                      have c19b0 : (t173 == 0) = true := beq_iff_eq.mpr c19
                      have c19b1 : (t173 != 0) = false := bne_eq_false_iff_eq.mpr c19
                      clear c19
                      have H' := Aside0.mk H
                      clear H
                      go_wp2_with (first | ((with_reducible refine gate_callee (f := 11) rfl ?_); refine goesL_ (some 41) rfl rfl Tryd.func11 (by kernel_rfl) rfl #[.string t167] rfl (by (try simp only [List.map_toArray, List.map_cons, List.map_nil]); first | done | rfl | (simp only [List.length_drop, List.length_take]; rfl)) ?_; (with_reducible refine (scene_Read.calls t167 t169 t172 t173 _ A15.out).mono ?_); rintro e w20 ⟨v170, rfl, ho0, hb⟩; refine ⟨_, rfl, ?_⟩; have n0_ := Aside0.mk (Kd.N_lower (Kd.N_mono (ok' := fun k_ => True) ho0 (fun k_ hk_ => trivial)) (below_size (by repeat (first | (with_reducible first | exact HB.out | apply below_alloc | apply pw_below_drewN | apply below_drew1) | exact HB.out)))); have n1_ := Aside0.mk (below_step (by repeat (first | (with_reducible first | exact HB.out | apply below_alloc | apply pw_below_drewN | apply below_drew1) | exact HB.out)) hb); clear HB; have HO171 := n0_; have HB := n1_; clear n0_ n1_; (try clear hb); (try clear hb2); (try clear hk); (try clear hi); (try clear ho0); obtain ⟨Ao21, co21, eo21⟩ := Kd.N_slice HO171.out; subst eo21) | ((with_reducible refine gate_callee (f := 12) rfl ?_); refine goesL_ (some 47) rfl rfl Tryd.func12 (by kernel_rfl) rfl #[.slice Ao21 t169.length co21, .slice A0 l0.length c0] rfl (by (try simp only [List.map_toArray, List.map_cons, List.map_nil]); first | done | rfl | (simp only [List.length_drop, List.length_take]; rfl)) ?_; (with_reducible refine (argosyref27_Same.calls kj9 _ _ t169 _ _ l0 true _ ?side1 ?side2 ?side3 ?side4 A16.out).mono ?_); (case side1 => repeat (first | exact (Kd.N_reads' HO171.out).2.2 | (with_reducible refine Kd.C_alloc ?_ _) | (with_reducible refine Kd.C_drewN ?_ _) | (with_reducible refine Kd.C_drew ?_))); (case side2 => exact (Kd.N_reads' HO171.out).2.1); (case side3 => repeat (first | exact (Kd.C_below HR0.out HB.out) | (with_reducible refine Kd.C_alloc ?_ _) | (with_reducible refine Kd.C_drewN ?_ _) | (with_reducible refine Kd.C_drew ?_))); (case side4 => exact HC0.out); rintro e w' ⟨rfl, ⟨nd, rfl⟩⟩; refine ⟨_, rfl, ?_⟩))
                      go_meet
                      case rel => exact ⟨_, H', ⟨by have := HJ2.out; have := HJ9.out; first | omega | exact Nat.le_refl _⟩, ⟨by repeat (first | (with_reducible first | exact HB.out | apply below_alloc | apply pw_below_drewN | apply below_drew1) | exact HB.out)⟩⟩
                    · rw [if_neg c19] at H
                      exact absurd H (by simp)
                  · rw [if_neg c18] at H
                    exact absurd H (by simp)
                · replace c17 := Bool.eq_false_iff.mpr c17
                  subst c17
                  have H1 : (none) = some r := by rw [if_neg (show ¬ (false = true) by decide)] at H; exact H
                  clear H
                  have H := H1
                  clear H1
                  exact absurd H (by simp)
              · replace c14 := Bool.eq_false_iff.mpr c14
                subst c14
                have H1 : (argosylaw27_SceneBack.j2 kj9 a1) = some r := by rw [if_neg (show ¬ (false = true) by decide)] at H; exact H
                clear H
                have H := H1
                clear H1
                have H' := Aside0.mk H
                clear H
                go_wp2
                go_meet
                case rel => exact ⟨_, H', ⟨by have := HJ2.out; have := HJ9.out; first | omega | exact Nat.le_refl _⟩, ⟨by repeat (first | (with_reducible first | exact HB.out | apply below_alloc | apply pw_below_drewN | apply below_drew1) | exact HB.out)⟩⟩
            case rest =>
              clear HC13
              try clear c1
              try clear p2
              try clear c4
              try clear c5
              try clear c6
              try clear c7
              try clear c11
              try clear c12
              try clear c12b0
              try clear c12b1
              try clear c14
              try clear c17
              try clear c18
              try clear c18b0
              try clear c18b1
              try clear c19
              try clear c19b0
              try clear c19b1
              try clear p2
              obtain ⟨kq, HA, HJ12, HB⟩ := hcut
              cases kq with
              | zero => exact absurd HA.out (by simp [argosylaw27_SceneBack.j2])
              | succ kj12 =>
                have H := HA.out
                clear HA
                simp only [argosylaw27_SceneBack.j2] at H
                replace H := Option.bind_eq_some_iff.mp H
                obtain ⟨⟨t175, t178, t179⟩, A220, H⟩ := H
                replace H : (if t179 = 0 then ((scene_Print.f kj12 t175).bind fun bt181 => ((scene_Read.f bt181.1).bind fun bt183 => (if t178 = (a1.size : Int) then (if bt181.2 = 0 then ((argosyref27_Same.f kj12 t175 bt183.1).bind fun t188 => (if t188 = true then (if bt183.2.1 = (bt181.1.size : Int) then (if bt183.2.2 = 0 then ((argosylaw27_lives.f kj12).bind fun t189 => (some t189)) else (none)) else (none)) else (none))) else (none)) else (none)))) else (if (t175.length : Int) = 0 then (if t178 ≥ 0 then (if t178 ≤ (a1.size : Int) then ((argosylaw27_lives.f kj12).bind fun t180 => (some t180)) else (none)) else (none)) else (none))) = some r := H
                have A22 := Aside0.mk A220
                clear A220
                by_cases c23 : t179 = 0
                · rw [if_pos c23] at H
                  have c23b0 : (t179 == 0) = true := beq_iff_eq.mpr c23
                  have c23b1 : (t179 != 0) = false := bne_eq_false_iff_eq.mpr c23
                  clear c23
                  replace H := Option.bind_eq_some_iff.mp H
                  obtain ⟨⟨t181, t182⟩, A240, H⟩ := H
                  replace H : ((scene_Read.f t181).bind fun bt183 => (if t178 = (a1.size : Int) then (if t182 = 0 then ((argosyref27_Same.f kj12 t175 bt183.1).bind fun t188 => (if t188 = true then (if bt183.2.1 = (t181.size : Int) then (if bt183.2.2 = 0 then ((argosylaw27_lives.f kj12).bind fun t189 => (some t189)) else (none)) else (none)) else (none))) else (none)) else (none))) = some r := H
                  have A24 := Aside0.mk A240
                  clear A240
                  replace H := Option.bind_eq_some_iff.mp H
                  obtain ⟨⟨t183, t186, t187⟩, A250, H⟩ := H
                  replace H : (if t178 = (a1.size : Int) then (if t182 = 0 then ((argosyref27_Same.f kj12 t175 t183).bind fun t188 => (if t188 = true then (if t186 = (t181.size : Int) then (if t187 = 0 then ((argosylaw27_lives.f kj12).bind fun t189 => (some t189)) else (none)) else (none)) else (none))) else (none)) else (none)) = some r := H
                  have A25 := Aside0.mk A250
                  clear A250
                  by_cases c26 : t178 = (a1.size : Int)
                  · rw [if_pos c26] at H
                    have c26b0 : (t178 == (a1.size : Int)) = true := beq_iff_eq.mpr c26
                    have c26b1 : (t178 != (a1.size : Int)) = false := bne_eq_false_iff_eq.mpr c26
                    clear c26
                    by_cases c27 : t182 = 0
                    · rw [if_pos c27] at H
                      have c27b0 : (t182 == 0) = true := beq_iff_eq.mpr c27
                      have c27b1 : (t182 != 0) = false := bne_eq_false_iff_eq.mpr c27
                      clear c27
                      replace H := Option.bind_eq_some_iff.mp H
                      obtain ⟨t188, A280, H⟩ := H
                      replace H : (if t188 = true then (if t186 = (t181.size : Int) then (if t187 = 0 then ((argosylaw27_lives.f kj12).bind fun t189 => (some t189)) else (none)) else (none)) else (none)) = some r := H
                      have A28 := Aside0.mk A280
                      clear A280
                      by_cases c29 : t188 = true
                      · subst c29
                        have H1 : (if t186 = (t181.size : Int) then (if t187 = 0 then ((argosylaw27_lives.f kj12).bind fun t189 => (some t189)) else (none)) else (none)) = some r := by rw [if_pos rfl] at H; exact H
                        clear H
                        have H := H1
                        clear H1
                        by_cases c30 : t186 = (t181.size : Int)
                        · rw [if_pos c30] at H
                          have c30b0 : (t186 == (t181.size : Int)) = true := beq_iff_eq.mpr c30
                          have c30b1 : (t186 != (t181.size : Int)) = false := bne_eq_false_iff_eq.mpr c30
                          clear c30
                          by_cases c31 : t187 = 0
                          · rw [if_pos c31] at H
                            have c31b0 : (t187 == 0) = true := beq_iff_eq.mpr c31
                            have c31b1 : (t187 != 0) = false := bne_eq_false_iff_eq.mpr c31
                            clear c31
                            replace H := Option.bind_eq_some_iff.mp H
                            obtain ⟨t189, A320, H⟩ := H
                            replace H : (some t189) = some r := H
                            have A32 := Aside0.mk A320
                            clear A320
                            obtain rfl := Option.some.inj H
                            go_wp2_with (first | ((with_reducible refine gate_callee (f := 11) rfl ?_); refine goesL_ (some 61) rfl rfl Tryd.func11 (by kernel_rfl) rfl #[.string a1] rfl (by (try simp only [List.map_toArray, List.map_cons, List.map_nil]); first | done | rfl | (simp only [List.length_drop, List.length_take]; rfl)) ?_; (with_reducible refine (scene_Read.calls a1 t175 t178 t179 _ A22.out).mono ?_); rintro e w33 ⟨v176, rfl, ho0, hb⟩; refine ⟨_, rfl, ?_⟩; have n0_ := Aside0.mk (Kd.N_lower (Kd.N_mono (ok' := fun k_ => True) ho0 (fun k_ hk_ => trivial)) (below_size (by repeat (first | (with_reducible first | exact HB.out | apply below_alloc | apply pw_below_drewN | apply below_drew1) | exact HB.out)))); have n1_ := Aside0.mk (below_step (by repeat (first | (with_reducible first | exact HB.out | apply below_alloc | apply pw_below_drewN | apply below_drew1) | exact HB.out)) hb); clear HB; have HO177 := n0_; have HB := n1_; clear n0_ n1_; (try clear hb); (try clear hb2); (try clear hk); (try clear hi); (try clear ho0); obtain ⟨Ao34, co34, eo34⟩ := Kd.N_slice HO177.out; subst eo34) | ((with_reducible refine gate_callee (f := 7) rfl ?_); refine goesL_ (some 85) rfl rfl Tryd.func7 (by kernel_rfl) rfl #[.slice Ao34 t175.length co34] rfl (by (try simp only [List.map_toArray, List.map_cons, List.map_nil]); first | done | rfl | (simp only [List.length_drop, List.length_take]; rfl)) ?_; (with_reducible refine (scene_Print.calls kj12 _ _ t175 t181 t182 _ ?side1 ?side2 ?side3 A24.out).mono ?_); (case side1 => repeat (first | exact (Kd.N_reads' HO177.out).2.2 | (with_reducible refine Kd.C_alloc ?_ _) | (with_reducible refine Kd.C_drewN ?_ _) | (with_reducible refine Kd.C_drew ?_))); (case side2 => exact (Kd.N_reads' HO177.out).2.1); (case side3 => exact TabOk.below HT.out (by repeat (first | (with_reducible first | exact HB.out | apply below_alloc | apply pw_below_drewN | apply below_drew1) | exact HB.out))); rintro e w35 ⟨rfl, hb⟩; refine ⟨_, rfl, ?_⟩; have n0_ := Aside0.mk (Kd.N_below (by (with_reducible repeat (first | apply Kd.N_alloc | apply Kd.N_drewN | apply Kd.N_drew)); exact HO177.out) hb); have n1_ := Aside0.mk (below_step (by repeat (first | (with_reducible first | exact HB.out | apply below_alloc | apply pw_below_drewN | apply below_drew1) | exact HB.out)) hb); clear HO177; clear HB; have HO177 := n0_; have HB := n1_; clear n0_ n1_; (try clear hb); (try clear hb2); (try clear hk); (try clear hi)) | ((with_reducible refine gate_callee (f := 11) rfl ?_); refine goesL_ (some 90) rfl rfl Tryd.func11 (by kernel_rfl) rfl #[.string t181] rfl (by (try simp only [List.map_toArray, List.map_cons, List.map_nil]); first | done | rfl | (simp only [List.length_drop, List.length_take]; rfl)) ?_; (with_reducible refine (scene_Read.calls t181 t183 t186 t187 _ A25.out).mono ?_); rintro e w36 ⟨v184, rfl, ho0, hb⟩; refine ⟨_, rfl, ?_⟩; have n0_ := Aside0.mk (Kd.N_elder' (by (with_reducible repeat (first | apply Kd.N_alloc | apply Kd.N_drewN | apply Kd.N_drew)); exact HO177.out) (by first | exact Kd.N_base ho0 | exact Kd.S_base ho0) hb); have n1_ := Aside0.mk (Kd.N_lower (Kd.N_mono (ok' := fun k_ => some k_ ≠ (.slice Ao34 t175.length co34 : Value).ownBlock) ho0 (fun k_ hk_ => (Kd.fresh' (Kd.N_lt (by (with_reducible repeat (first | apply Kd.N_alloc | apply Kd.N_drewN | apply Kd.N_drew)); exact HO177.out)) k_ hk_))) (below_size (by repeat (first | (with_reducible first | exact HB.out | apply below_alloc | apply pw_below_drewN | apply below_drew1) | exact HB.out)))); have n2_ := Aside0.mk (below_step (by repeat (first | (with_reducible first | exact HB.out | apply below_alloc | apply pw_below_drewN | apply below_drew1) | exact HB.out)) hb); clear HO177; clear HB; have HO177 := n0_; have HO185 := n1_; have HB := n2_; clear n0_ n1_ n2_; (try clear hb); (try clear hb2); (try clear hk); (try clear hi); (try clear ho0); obtain ⟨Ao37, co37, eo37⟩ := Kd.N_slice HO185.out; subst eo37) | (go_at_call 12; (with_reducible refine (argosyref27_Same.calls kj12 _ _ t175 _ _ t183 true _ ?side1 ?side2 ?side3 ?side4 A28.out).mono ?_); (case side1 => repeat (first | exact (Kd.N_reads' HO177.out).2.2 | (with_reducible refine Kd.C_alloc ?_ _) | (with_reducible refine Kd.C_drewN ?_ _) | (with_reducible refine Kd.C_drew ?_))); (case side2 => exact (Kd.N_reads' HO177.out).2.1); (case side3 => repeat (first | exact (Kd.N_reads' HO185.out).2.2 | (with_reducible refine Kd.C_alloc ?_ _) | (with_reducible refine Kd.C_drewN ?_ _) | (with_reducible refine Kd.C_drew ?_))); (case side4 => exact (Kd.N_reads' HO185.out).2.1); rintro e w' ⟨rfl, ⟨nd, rfl⟩⟩) | (go_at_call 6; (with_reducible refine (argosylaw27_lives.calls kj12  t189 _ A32.out).mono ?_); rintro e w38 ⟨rfl, hb⟩; have n0_ := Aside0.mk (Kd.N_below (by (with_reducible repeat (first | apply Kd.N_alloc | apply Kd.N_drewN | apply Kd.N_drew)); exact HO177.out) hb); have n1_ := Aside0.mk (Kd.N_below (by (with_reducible repeat (first | apply Kd.N_alloc | apply Kd.N_drewN | apply Kd.N_drew)); exact HO185.out) hb); have n2_ := Aside0.mk (below_step (by repeat (first | (with_reducible first | exact HB.out | apply below_alloc | apply pw_below_drewN | apply below_drew1) | exact HB.out)) hb); clear HO177; clear HO185; clear HB; have HO177 := n0_; have HO185 := n1_; have HB := n2_; clear n0_ n1_ n2_; (try clear hb); (try clear hb2); (try clear hk); (try clear hi)))
                            go_ret
                            exact ⟨by first | rfl | (simp [errW_none, errW_some] <;> rfl) | (simp [*, errW_none, errW_some] <;> rfl), by repeat (first | (with_reducible first | exact HB.out | apply below_alloc | apply pw_below_drewN | apply below_drew1) | exact HB.out)⟩
                          · rw [if_neg c31] at H
                            exact absurd H (by simp)
                        · rw [if_neg c30] at H
                          exact absurd H (by simp)
                      · replace c29 := Bool.eq_false_iff.mpr c29
                        subst c29
                        have H1 : (none) = some r := by rw [if_neg (show ¬ (false = true) by decide)] at H; exact H
                        clear H
                        have H := H1
                        clear H1
                        exact absurd H (by simp)
                    · rw [if_neg c27] at H
                      exact absurd H (by simp)
                  · rw [if_neg c26] at H
                    exact absurd H (by simp)
                · rw [if_neg c23] at H
                  have c23b0 : (t179 == 0) = false := beq_eq_false_iff_ne.mpr c23
                  have c23b1 : (t179 != 0) = true := bne_iff_ne.mpr c23
                  by_cases c39 : (t175.length : Int) = 0
                  · rw [if_pos c39] at H
                    have c39b0 : ((t175.length : Int) == 0) = true := beq_iff_eq.mpr c39
                    have c39b1 : ((t175.length : Int) != 0) = false := bne_eq_false_iff_eq.mpr c39
                    clear c39
                    by_cases c40 : t178 ≥ 0
                    · rw [if_pos c40] at H
                      have c40b0 : decide (0 ≤ t178) = true := decide_eq_true c40
                      clear c40
                      by_cases c41 : t178 ≤ (a1.size : Int)
                      · rw [if_pos c41] at H
                        have c41b0 : decide (t178 ≤ (a1.size : Int)) = true := decide_eq_true c41
                        clear c41
                        replace H := Option.bind_eq_some_iff.mp H
                        obtain ⟨t180, A420, H⟩ := H
                        replace H : (some t180) = some r := H
                        have A42 := Aside0.mk A420
                        clear A420
                        obtain rfl := Option.some.inj H
                        go_wp2_with (first | ((with_reducible refine gate_callee (f := 11) rfl ?_); refine goesL_ (some 61) rfl rfl Tryd.func11 (by kernel_rfl) rfl #[.string a1] rfl (by (try simp only [List.map_toArray, List.map_cons, List.map_nil]); first | done | rfl | (simp only [List.length_drop, List.length_take]; rfl)) ?_; (with_reducible refine (scene_Read.calls a1 t175 t178 t179 _ A22.out).mono ?_); rintro e w43 ⟨v176, rfl, ho0, hb⟩; refine ⟨_, rfl, ?_⟩; have n0_ := Aside0.mk (Kd.N_lower (Kd.N_mono (ok' := fun k_ => True) ho0 (fun k_ hk_ => trivial)) (below_size (by repeat (first | (with_reducible first | exact HB.out | apply below_alloc | apply pw_below_drewN | apply below_drew1) | exact HB.out)))); have n1_ := Aside0.mk (below_step (by repeat (first | (with_reducible first | exact HB.out | apply below_alloc | apply pw_below_drewN | apply below_drew1) | exact HB.out)) hb); clear HB; have HO177 := n0_; have HB := n1_; clear n0_ n1_; (try clear hb); (try clear hb2); (try clear hk); (try clear hi); (try clear ho0); obtain ⟨Ao44, co44, eo44⟩ := Kd.N_slice HO177.out; subst eo44) | (go_at_call 6; (with_reducible refine (argosylaw27_lives.calls kj12  t180 _ A42.out).mono ?_); rintro e w45 ⟨rfl, hb⟩; have n0_ := Aside0.mk (Kd.N_below (by (with_reducible repeat (first | apply Kd.N_alloc | apply Kd.N_drewN | apply Kd.N_drew)); exact HO177.out) hb); have n1_ := Aside0.mk (below_step (by repeat (first | (with_reducible first | exact HB.out | apply below_alloc | apply pw_below_drewN | apply below_drew1) | exact HB.out)) hb); clear HO177; clear HB; have HO177 := n0_; have HB := n1_; clear n0_ n1_; (try clear hb); (try clear hb2); (try clear hk); (try clear hi)))
                        go_ret
                        exact ⟨by first | rfl | (simp [errW_none, errW_some] <;> rfl) | (simp [*, errW_none, errW_some] <;> rfl), by repeat (first | (with_reducible first | exact HB.out | apply below_alloc | apply pw_below_drewN | apply below_drew1) | exact HB.out)⟩
                      · rw [if_neg c41] at H
                        exact absurd H (by simp)
                    · rw [if_neg c40] at H
                      exact absurd H (by simp)
                  · rw [if_neg c39] at H
                    exact absurd H (by simp)
theorem argosylaw27_SceneBack_k34_opens {H : Type} {enc : TypeId × Value → H} {w : World} {spare : Nat → Bool} {held : Bool} : pfOpens enc Tryd.prog w spare held k34 34 (fun x : S34 => ((Lit.int .i64 x.f0).wf = true ∧ (Lit.int .i64 x.f1).wf = true ∧ (Lit.int .i64 x.f2).wf = true ∧ (x.f3.length * 8 ≤ 140737488351232 ∧ ∀ y0 ∈ x.f3, (Lit.int .i64 y0).wf = true))) := by
  intro fuel cs x h hw
  obtain ⟨hl, n, hf⟩ := pf_fields Tryd.underlying34 (by kernel_rfl) (by kernel_rfl) h hw
  match cs, hl with
  | [v0, v1, v2, v3], _ =>
    obtain ⟨_, h0, g0⟩ := hf 0 _ v0 rfl rfl
    obtain ⟨_, h1, g1⟩ := hf 1 _ v1 rfl rfl
    obtain ⟨_, h2, g2⟩ := hf 2 _ v2 rfl rfl
    obtain ⟨_, h3, g3⟩ := hf 3 _ v3 rfl rfl
    obtain ⟨x0, e0, q0⟩ := (pfOpens_int .i64 (by kernel_rfl)) _ _ _ h0 g0
    obtain ⟨x1, e1, q1⟩ := (pfOpens_int .i64 (by kernel_rfl)) _ _ _ h1 g1
    obtain ⟨x2, e2, q2⟩ := (pfOpens_int .i64 (by kernel_rfl)) _ _ _ h2 g2
    obtain ⟨x3, e3, q3⟩ := (pfOpens_slice (0 : Int) 8 (by kernel_rfl) (by kernel_rfl) (by kernel_rfl) (pfOpens_int .i64 (by kernel_rfl))) _ _ _ h3 g3
    exact ⟨⟨x0, x1, x2, x3⟩, ⟨[v0], _, rfl, e0, [v1], _, rfl, e1, [v2], _, rfl, e2, e3⟩, q0, q1, q2, q3⟩

/-- THE ONE PURE STATEMENT of argosylaw27_SceneBack: yours. -/
def argosylaw27_SceneBack.Pure : Prop := ∀ (l0 : List (S34)) (a1 : ByteArray), l0.length * 48 ≤ 140737488351232 → (∀ s ∈ l0, ((Lit.int .i64 s.f0).wf = true ∧ (Lit.int .i64 s.f1).wf = true ∧ (Lit.int .i64 s.f2).wf = true ∧ (s.f3.length * 8 ≤ 140737488351232 ∧ ∀ y0 ∈ s.f3, (Lit.int .i64 y0).wf = true))) → a1.size ≤ 140737488351232 → ∃ k, argosylaw27_SceneBack.f k l0 a1 = some true
theorem argosylaw27_SceneBack.walk (P : argosylaw27_SceneBack.Pure) (a0 : Option Addr) (cap0 : Nat) (l0 : List S34) (a1 : ByteArray) (w : World) (hT : TabOk w) (hr0 : Kd.C k34 w a0 l0.length l0) (hc0 : l0.length ≤ cap0) (hm0 : l0.length * 48 ≤ 140737488351232) (hs0 : ∀ s ∈ l0, ((Lit.int .i64 s.f0).wf = true ∧ (Lit.int .i64 s.f1).wf = true ∧ (Lit.int .i64 s.f2).wf = true ∧ (s.f3.length * 8 ≤ 140737488351232 ∧ ∀ y0 ∈ s.f3, (Lit.int .i64 y0).wf = true))) (w1 : a1.size ≤ 140737488351232) :
    Calls Tryd.prog 4 #[.slice a0 l0.length cap0, .string a1] w fun e w' => e = .returned (.bool true) ∧ Below w.heap.size w w' := by
  obtain ⟨k, h⟩ := P l0 a1 hm0 hs0 w1
  refine (argosylaw27_SceneBack.calls k _ _ l0 a1 true w hr0 hc0 hT h).mono ?_
  rintro e w' ⟨rfl, hd⟩
  exact ⟨rfl, hd⟩

end Go.Proofs.YtfmbdmkiamedeaaDoor.PSceneBack
