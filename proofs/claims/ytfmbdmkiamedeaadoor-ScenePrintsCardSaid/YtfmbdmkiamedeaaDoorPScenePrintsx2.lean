-- Written by a patched print (wip/mkprint.py), for this claim.
import Derived.Test.YtfmbdmkiamedeaaDoorPScenePrintsx0
import Derived.Test.YtfmbdmkiamedeaaDoorPScenePrintsx1
namespace Go.Proofs.YtfmbdmkiamedeaaDoor.PScenePrints
open Go.RowKit Go.Proofs.YtfmbdmkiamedeaaDoorW.PrintWords Go.Proofs.YtfmbdmkiamedeaaDoorW.PrintLast Go.Proofs.YtfmbdmkiamedeaaDoorW.PrintMore
attribute [local go_sem] max2_int min2_int max_two min_two max_three min_three max_four min_four   -- for this text's walks alone
set_option linter.unusedVariables false
set_option linter.unusedSimpArgs false

/-! ### utf8_RuneLen: function 55 -/
def utf8_RuneLen.j0 : Nat → Int → Bool → Option (Int)
  | 0, _, _ => none
  | k + 1, x0, x12 => if x12 = true then (some (-1)) else (if x0 ≤ 65535 then (some 3) else (if x0 ≤ 1114111 then (some 4) else (some (-1))))
def utf8_RuneLen.f (k : Nat) (a0 : Int) : Option (Int) := if a0 < 0 then (some (-1)) else (if a0 ≤ 127 then (some 1) else (if a0 ≤ 2047 then (some 2) else (if 55296 ≤ a0 then (utf8_RuneLen.j0 k a0 (decide (a0 ≤ 57343))) else (utf8_RuneLen.j0 k a0 false))))
theorem utf8_RuneLen.mono_l : ∀ k, (∀ y0 y1, LeO (utf8_RuneLen.j0 k y0 y1) (utf8_RuneLen.j0 (k + 1) y0 y1))
  | 0 => fun _ _ r h => by simp [utf8_RuneLen.j0] at h
  | k + 1 => by
    have ih0 := utf8_RuneLen.mono_l k
    · intro y0 y1
      unfold utf8_RuneLen.j0
      repeat' first
      | (with_reducible exact ih0 _ _)
      | (with_reducible exact LeO.refl _)
      | (with_reducible exact LeO.none _)
      | (with_reducible refine LeO.ite ?_ ?_)
      | (with_reducible refine LeO.bind ?_ (fun _ => ?_))
      | exact ih0 _ _
      | exact LeO.none _
      | refine LeO.ite ?_ ?_
      | refine LeO.bind ?_ (fun _ => ?_)
theorem utf8_RuneLen.mono : ∀ a0 k, LeO (utf8_RuneLen.f k a0) (utf8_RuneLen.f (k + 1) a0) := by
  intro a0 k
  have ih0 := utf8_RuneLen.mono_l k
  unfold utf8_RuneLen.f
  repeat' first
      | (with_reducible exact ih0 _ _)
      | (with_reducible exact LeO.refl _)
      | (with_reducible exact LeO.none _)
      | (with_reducible refine LeO.ite ?_ ?_)
      | (with_reducible refine LeO.bind ?_ (fun _ => ?_))
      | exact ih0 _ _
      | exact LeO.none _
      | refine LeO.ite ?_ ?_
      | refine LeO.bind ?_ (fun _ => ?_)
set_option maxHeartbeats 8000000 in
set_option maxRecDepth 100000 in
theorem utf8_RuneLen.calls (k : Nat) (a0 : Int) (r : Int) (w : World) (h : utf8_RuneLen.f k a0 = some r) :
    Calls Tryd.prog 55 #[.int .i32 a0] w fun e w' => e = .returned (.int .i64 r) ∧ Drawn0 w w' := by
  have H : (if a0 < 0 then (some (-1)) else (if a0 ≤ 127 then (some 1) else (if a0 ≤ 2047 then (some 2) else (if 55296 ≤ a0 then (utf8_RuneLen.j0 k a0 (decide (a0 ≤ 57343))) else (utf8_RuneLen.j0 k a0 false))))) = some r := h
  clear h
  by_cases c2 : a0 < 0
  · rw [if_pos c2] at H
    have c2b0 : decide (a0 < 0) = true := decide_eq_true c2
    clear c2
    obtain rfl := Option.some.inj H
    go_enter Tryd.func55, Tryd.ntmps55
    go_wp2
    go_ret
    exact ⟨by first | rfl | (simp; done) | (simp [*]; done), by repeat (first | exact Drawn0.refl _ | apply Drawn0.step)⟩
  · rw [if_neg c2] at H
    have c2b0 : decide (a0 < 0) = false := decide_eq_false c2
    clear c2
    by_cases c3 : a0 ≤ 127
    · rw [if_pos c3] at H
      have c3b0 : decide (a0 ≤ 127) = true := decide_eq_true c3
      clear c3
      obtain rfl := Option.some.inj H
      go_enter Tryd.func55, Tryd.ntmps55
      go_wp2
      go_ret
      exact ⟨by first | rfl | (simp; done) | (simp [*]; done), by repeat (first | exact Drawn0.refl _ | apply Drawn0.step)⟩
    · rw [if_neg c3] at H
      have c3b0 : decide (a0 ≤ 127) = false := decide_eq_false c3
      clear c3
      by_cases c4 : a0 ≤ 2047
      · rw [if_pos c4] at H
        have c4b0 : decide (a0 ≤ 2047) = true := decide_eq_true c4
        clear c4
        obtain rfl := Option.some.inj H
        go_enter Tryd.func55, Tryd.ntmps55
        go_wp2
        go_ret
        exact ⟨by first | rfl | (simp; done) | (simp [*]; done), by repeat (first | exact Drawn0.refl _ | apply Drawn0.step)⟩
      · rw [if_neg c4] at H
        have c4b0 : decide (a0 ≤ 2047) = false := decide_eq_false c4
        clear c4
        have HC5 := Aside0.mk H
        clear H
        go_enter Tryd.func55, Tryd.ntmps55
        go_upto_region 7 with (fail)
        go_cut [12] (fun v12 wc => ∃ (kq : Nat) (x12_4 : Bool), v12 = .bool x12_4 ∧ Aside0 (utf8_RuneLen.j0 kq a0 x12_4 = some r) ∧ Aside0 (kq ≤ k) ∧ Drawn0 w wc)
        case first =>
          have H := HC5.out
          clear HC5
          by_cases c6 : 55296 ≤ a0
          · rw [if_pos c6] at H
            have c6b0 : decide (55296 ≤ a0) = true := decide_eq_true c6
            clear c6
            (first | rw [c6b0] | (simp only [i64_w, i32_w]; rw [c6b0]) | skip)
            have H' := Aside0.mk H
            clear H
            go_wp2
            go_meet
            case rel => exact ⟨_, (decide (a0 ≤ 57343)), (by first | rfl | (simp; done) | (simp [*]; done)), H', ⟨by first | omega | exact Nat.le_refl _⟩, by repeat (first | exact Drawn0.refl _ | apply Drawn0.step)⟩
          · rw [if_neg c6] at H
            have c6b0 : decide (55296 ≤ a0) = false := decide_eq_false c6
            clear c6
            (first | rw [c6b0] | (simp only [i64_w, i32_w]; rw [c6b0]) | skip)
            have H' := Aside0.mk H
            clear H
            go_wp2
            go_meet
            case rel => exact ⟨_, (false), (by first | rfl | (simp; done) | (simp [*]; done)), H', ⟨by first | omega | exact Nat.le_refl _⟩, by repeat (first | exact Drawn0.refl _ | apply Drawn0.step)⟩
        case rest =>
          clear HC5
          try clear c2
          try clear c2b0
          try clear p2
          try clear c3
          try clear c3b0
          try clear c4
          try clear c4b0
          try clear c5
          try clear c6
          try clear c6b0
          obtain ⟨kq, x12_4, rfl, HA, HJ4, ⟨mc4, rfl⟩⟩ := hcut
          cases kq with
          | zero => exact absurd HA.out (by simp [utf8_RuneLen.j0])
          | succ kj4 =>
            have H := HA.out
            clear HA
            simp only [utf8_RuneLen.j0] at H
            by_cases c7 : x12_4 = true
            · subst c7
              have H1 : (some (-1)) = some r := by rw [if_pos rfl] at H; exact H
              clear H
              have H := H1
              clear H1
              obtain rfl := Option.some.inj H
              go_wp2
              go_ret
              exact ⟨by first | rfl | (simp; done) | (simp [*]; done), by repeat (first | exact Drawn0.refl _ | apply Drawn0.step)⟩
            · replace c7 := Bool.eq_false_iff.mpr c7
              subst c7
              have H1 : (if a0 ≤ 65535 then (some 3) else (if a0 ≤ 1114111 then (some 4) else (some (-1)))) = some r := by rw [if_neg (show ¬ (false = true) by decide)] at H; exact H
              clear H
              have H := H1
              clear H1
              by_cases c8 : a0 ≤ 65535
              · rw [if_pos c8] at H
                have c8b0 : decide (a0 ≤ 65535) = true := decide_eq_true c8
                clear c8
                obtain rfl := Option.some.inj H
                go_wp2
                go_ret
                exact ⟨by first | rfl | (simp; done) | (simp [*]; done), by repeat (first | exact Drawn0.refl _ | apply Drawn0.step)⟩
              · rw [if_neg c8] at H
                have c8b0 : decide (a0 ≤ 65535) = false := decide_eq_false c8
                clear c8
                by_cases c9 : a0 ≤ 1114111
                · rw [if_pos c9] at H
                  have c9b0 : decide (a0 ≤ 1114111) = true := decide_eq_true c9
                  clear c9
                  obtain rfl := Option.some.inj H
                  go_wp2
                  go_ret
                  exact ⟨by first | rfl | (simp; done) | (simp [*]; done), by repeat (first | exact Drawn0.refl _ | apply Drawn0.step)⟩
                · rw [if_neg c9] at H
                  have c9b0 : decide (a0 ≤ 1114111) = false := decide_eq_false c9
                  clear c9
                  obtain rfl := Option.some.inj H
                  go_wp2
                  go_ret
                  exact ⟨by first | rfl | (simp; done) | (simp [*]; done), by repeat (first | exact Drawn0.refl _ | apply Drawn0.step)⟩

/-! ### glyph_Width: function 46 -/
def glyph_Width.f (k : Nat) (a0 : Int) : Option (Int) := if a0 < 0 then (some 0) else (if a0 > 1114111 then (some 0) else ((utf8_RuneLen.f k (wrap32 (a0))).bind fun t106 => (some (mx 0 t106))))
theorem glyph_Width.mono : ∀ a0 k, LeO (glyph_Width.f k a0) (glyph_Width.f (k + 1) a0) := by
  intro a0 k
  unfold glyph_Width.f
  repeat' first
      | (with_reducible exact utf8_RuneLen.mono _ _)
      | (with_reducible exact LeO.refl _)
      | (with_reducible exact LeO.none _)
      | (with_reducible refine LeO.ite ?_ ?_)
      | (with_reducible refine LeO.bind ?_ (fun _ => ?_))
      | exact utf8_RuneLen.mono _ _
      | exact LeO.none _
      | refine LeO.ite ?_ ?_
      | refine LeO.bind ?_ (fun _ => ?_)
set_option maxHeartbeats 8000000 in
set_option maxRecDepth 100000 in
theorem glyph_Width.calls (k : Nat) (a0 : Int) (r : Int) (w : World) (h : glyph_Width.f k a0 = some r) :
    Calls Tryd.prog 46 #[.int .i64 a0] w fun e w' => e = .returned (.int .i64 r) ∧ Below w.heap.size w w' := by
  have HB := Aside0.mk (Below.refl w.heap.size w)
  have H : (if a0 < 0 then (some 0) else (if a0 > 1114111 then (some 0) else ((utf8_RuneLen.f k (wrap32 (a0))).bind fun t106 => (some (mx 0 t106))))) = some r := h
  clear h
  by_cases c2 : a0 < 0
  · rw [if_pos c2] at H
    have c2b0 : decide (a0 < 0) = true := decide_eq_true c2
    clear c2
    obtain rfl := Option.some.inj H
    go_enter Tryd.func46, Tryd.ntmps46
    go_wp2
    go_ret
    exact ⟨by first | rfl | (simp [errW_none, errW_some] <;> rfl) | (simp [*, errW_none, errW_some] <;> rfl), by repeat (first | (with_reducible first | exact HB.out | apply below_alloc | apply pw_below_drewN | apply below_drew1) | exact HB.out)⟩
  · rw [if_neg c2] at H
    have c2b0 : decide (a0 < 0) = false := decide_eq_false c2
    clear c2
    by_cases c3 : a0 > 1114111
    · rw [if_pos c3] at H
      have c3b0 : decide (1114111 < a0) = true := decide_eq_true c3
      clear c3
      obtain rfl := Option.some.inj H
      go_enter Tryd.func46, Tryd.ntmps46
      go_wp2
      go_ret
      exact ⟨by first | rfl | (simp [errW_none, errW_some] <;> rfl) | (simp [*, errW_none, errW_some] <;> rfl), by repeat (first | (with_reducible first | exact HB.out | apply below_alloc | apply pw_below_drewN | apply below_drew1) | exact HB.out)⟩
    · rw [if_neg c3] at H
      have c3b0 : decide (1114111 < a0) = false := decide_eq_false c3
      clear c3
      replace H := Option.bind_eq_some_iff.mp H
      obtain ⟨t106, A40, H⟩ := H
      replace H : (some (mx 0 t106)) = some r := H
      have A4 := Aside0.mk A40
      clear A40
      obtain ⟨ji5, hji5⟩ : ∃ j_ : Int, (mx 0 t106) = j_ := ⟨_, rfl⟩
      replace H : (some ji5) = some r := by first | (rw [hji5] at H; exact H) | (simp only [hji5] at H ⊢; exact H)
      (try rw [hji5] at A4)
      (try (have hji5l : 0 ≤ ji5 := by (rw [← hji5]; unfold mx; (repeat' split) <;> omega)))
      (try (have hji5m : 0 ≤ ji5 := by omega))
      have hji5_ : (if 0 < t106 then t106 else 0) = ji5 := hji5
      obtain rfl := Option.some.inj H
      go_enter Tryd.func46, Tryd.ntmps46
      go_wp2_with (first | ((with_reducible refine gate_callee (f := 55) rfl ?_); refine goesL_ (some 11) rfl rfl Tryd.func55 (by kernel_rfl) rfl #[.int .i32 (wrap32 (a0))] rfl (by (try simp only [List.map_toArray, List.map_cons, List.map_nil]); first | done | rfl | (simp only [List.length_drop, List.length_take]; rfl)) ?_; (with_reducible refine (utf8_RuneLen.calls k (wrap32 (a0)) t106 _ A4.out).mono ?_); rintro e w' ⟨rfl, ⟨nd, rfl⟩⟩; refine ⟨_, rfl, ?_⟩))
      go_ret
      exact ⟨by first | rfl | (simp [errW_none, errW_some] <;> rfl) | (simp only [← hji5]; first | rfl | (simp [errW_none, errW_some] <;> rfl)) | (simp [*, errW_none, errW_some] <;> rfl), by repeat (first | (with_reducible first | exact HB.out | apply below_alloc | apply pw_below_drewN | apply below_drew1) | exact HB.out)⟩

/-! ### glyph_Class: function 37 -/
def classG (a0 : Int) : Int := if a0 ≥ 128 ∨ (97 ≤ a0 ∧ a0 ≤ 122) ∨ (65 ≤ a0 ∧ a0 ≤ 90) ∨ a0 = 95 then 1 else if 48 ≤ a0 ∧ a0 ≤ 57 then 2 else if (9 ≤ a0 ∧ a0 ≤ 10) ∨ a0 = 13 ∨ a0 = 32 then 3 else if 33 ≤ a0 ∧ a0 ≤ 126 then 4 else 0
set_option maxHeartbeats 1000000 in
theorem glyph_Class.among (lo hi r : Int) (W : World) (b : Nat) (hc : W.cell? ⟨b, 0, none⟩ = some (.int .i64 r)) (t : Bool) (ht : t = decide (lo ≤ r ∧ r ≤ hi)) :
    Calls Tryd.prog 45 #[.int .i64 lo, .int .i64 hi, .pointer (some ⟨b, 0, none⟩)] W fun e w' => e = .returned (.bool t) ∧ W = w' := by
  by_cases h1 : lo ≤ r
  · by_cases h2 : r ≤ hi
    · have : t = true := by rw [ht]; simp [h1, h2]
      subst this
      clear ht
      have e1 : decide (lo ≤ r) = true := decide_eq_true h1
      have e2 : decide (r ≤ hi) = true := decide_eq_true h2
      go_enter Tryd.func45, Tryd.ntmps45
      go_wp2
      go_ret
      exact ⟨rfl, rfl⟩
    · have : t = false := by rw [ht]; simp [h2]
      subst this
      clear ht
      have e1 : decide (lo ≤ r) = true := decide_eq_true h1
      have e2 : decide (r ≤ hi) = false := decide_eq_false h2
      go_enter Tryd.func45, Tryd.ntmps45
      go_wp2
      go_ret
      exact ⟨rfl, rfl⟩
  · have : t = false := by rw [ht]; simp [h1]
    subst this
    clear ht
    have e1 : decide (lo ≤ r) = false := decide_eq_false h1
    go_enter Tryd.func45, Tryd.ntmps45
    go_wp2
    go_ret
    exact ⟨rfl, rfl⟩
set_option maxHeartbeats 2000000 in
theorem glyph_Class.way_0 (k : Nat) (a0 t : Int) (w : World) (HT : Aside0 (glyph_Width.f k a0 = some t)) (ht : (t == 0) = false) (e_c128 : decide (128 ≤ a0) = true) :
    Calls Tryd.prog 37 #[.int .i64 a0] w fun e w' => e = .returned (.int .i64 1) ∧ Below w.heap.size w w' := by
  have hcell : ∀ w1 : World, Below (w.alloc (.cells #[.int .i64 a0] 3)).heap.size (w.alloc (.cells #[.int .i64 a0] 3)) w1 → w1.cell? ⟨w.heap.size, 0, none⟩ = some (.int .i64 a0) := fun w1 hb =>
    (hb.cell (p := ⟨w.heap.size, 0, none⟩) (by simp)).trans ((blk_cell (heap_alloc_new w _) 0).trans rfl)
  go_enter Tryd.func37, Tryd.ntmps37
  go_wp2_with (first | (go_at_call 46; with_reducible refine (glyph_Width.calls k a0 t _ HT.out).mono ?_; rintro e w1 ⟨rfl, hb⟩; have hc1 := hcell w1 hb; have HB := Aside0.mk hb; clear hb))
  go_ret
  exact ⟨rfl, ((Below.refl _ _).alloc (Nat.le_refl _) _).trans (HB.out.mono (by simp))⟩
set_option maxHeartbeats 2000000 in
theorem glyph_Class.way_1 (k : Nat) (a0 t : Int) (w : World) (HT : Aside0 (glyph_Width.f k a0 = some t)) (ht : (t == 0) = false) (e_c128 : decide (128 ≤ a0) = false) (e_m1 : Aside0 (true = decide (97 ≤ a0 ∧ a0 ≤ 122))) :
    Calls Tryd.prog 37 #[.int .i64 a0] w fun e w' => e = .returned (.int .i64 1) ∧ Below w.heap.size w w' := by
  have hcell : ∀ w1 : World, Below (w.alloc (.cells #[.int .i64 a0] 3)).heap.size (w.alloc (.cells #[.int .i64 a0] 3)) w1 → w1.cell? ⟨w.heap.size, 0, none⟩ = some (.int .i64 a0) := fun w1 hb =>
    (hb.cell (p := ⟨w.heap.size, 0, none⟩) (by simp)).trans ((blk_cell (heap_alloc_new w _) 0).trans rfl)
  go_enter Tryd.func37, Tryd.ntmps37
  go_wp2_with (first | (go_at_call 46; with_reducible refine (glyph_Width.calls k a0 t _ HT.out).mono ?_; rintro e w1 ⟨rfl, hb⟩; have hc1 := hcell w1 hb; have HB := Aside0.mk hb; clear hb) | (go_at_call 45; with_reducible refine (glyph_Class.among 97 122 a0 w1 w.heap.size hc1 true e_m1.out).mono ?_; rintro e w' ⟨rfl, rfl⟩))
  go_ret
  exact ⟨rfl, ((Below.refl _ _).alloc (Nat.le_refl _) _).trans (HB.out.mono (by simp))⟩
set_option maxHeartbeats 2000000 in
theorem glyph_Class.way_2 (k : Nat) (a0 t : Int) (w : World) (HT : Aside0 (glyph_Width.f k a0 = some t)) (ht : (t == 0) = false) (e_c128 : decide (128 ≤ a0) = false) (e_m1 : Aside0 (false = decide (97 ≤ a0 ∧ a0 ≤ 122))) (e_m2 : Aside0 (true = decide (65 ≤ a0 ∧ a0 ≤ 90))) :
    Calls Tryd.prog 37 #[.int .i64 a0] w fun e w' => e = .returned (.int .i64 1) ∧ Below w.heap.size w w' := by
  have hcell : ∀ w1 : World, Below (w.alloc (.cells #[.int .i64 a0] 3)).heap.size (w.alloc (.cells #[.int .i64 a0] 3)) w1 → w1.cell? ⟨w.heap.size, 0, none⟩ = some (.int .i64 a0) := fun w1 hb =>
    (hb.cell (p := ⟨w.heap.size, 0, none⟩) (by simp)).trans ((blk_cell (heap_alloc_new w _) 0).trans rfl)
  go_enter Tryd.func37, Tryd.ntmps37
  go_wp2_with (first | (go_at_call 46; with_reducible refine (glyph_Width.calls k a0 t _ HT.out).mono ?_; rintro e w1 ⟨rfl, hb⟩; have hc1 := hcell w1 hb; have HB := Aside0.mk hb; clear hb) | (go_at_call 45; with_reducible refine (glyph_Class.among 97 122 a0 w1 w.heap.size hc1 false e_m1.out).mono ?_; rintro e w' ⟨rfl, rfl⟩) | (go_at_call 45; with_reducible refine (glyph_Class.among 65 90 a0 w1 w.heap.size hc1 true e_m2.out).mono ?_; rintro e w' ⟨rfl, rfl⟩))
  go_ret
  exact ⟨rfl, ((Below.refl _ _).alloc (Nat.le_refl _) _).trans (HB.out.mono (by simp))⟩
set_option maxHeartbeats 2000000 in
theorem glyph_Class.way_3 (k : Nat) (a0 t : Int) (w : World) (HT : Aside0 (glyph_Width.f k a0 = some t)) (ht : (t == 0) = false) (e_c128 : decide (128 ≤ a0) = false) (e_m1 : Aside0 (false = decide (97 ≤ a0 ∧ a0 ≤ 122))) (e_m2 : Aside0 (false = decide (65 ≤ a0 ∧ a0 ≤ 90))) (e_c95 : (a0 == 95) = true) :
    Calls Tryd.prog 37 #[.int .i64 a0] w fun e w' => e = .returned (.int .i64 1) ∧ Below w.heap.size w w' := by
  have hcell : ∀ w1 : World, Below (w.alloc (.cells #[.int .i64 a0] 3)).heap.size (w.alloc (.cells #[.int .i64 a0] 3)) w1 → w1.cell? ⟨w.heap.size, 0, none⟩ = some (.int .i64 a0) := fun w1 hb =>
    (hb.cell (p := ⟨w.heap.size, 0, none⟩) (by simp)).trans ((blk_cell (heap_alloc_new w _) 0).trans rfl)
  go_enter Tryd.func37, Tryd.ntmps37
  go_wp2_with (first | (go_at_call 46; with_reducible refine (glyph_Width.calls k a0 t _ HT.out).mono ?_; rintro e w1 ⟨rfl, hb⟩; have hc1 := hcell w1 hb; have HB := Aside0.mk hb; clear hb) | (go_at_call 45; with_reducible refine (glyph_Class.among 97 122 a0 w1 w.heap.size hc1 false e_m1.out).mono ?_; rintro e w' ⟨rfl, rfl⟩) | (go_at_call 45; with_reducible refine (glyph_Class.among 65 90 a0 w1 w.heap.size hc1 false e_m2.out).mono ?_; rintro e w' ⟨rfl, rfl⟩))
  go_ret
  exact ⟨rfl, ((Below.refl _ _).alloc (Nat.le_refl _) _).trans (HB.out.mono (by simp))⟩
set_option maxHeartbeats 2000000 in
theorem glyph_Class.way_4 (k : Nat) (a0 t : Int) (w : World) (HT : Aside0 (glyph_Width.f k a0 = some t)) (ht : (t == 0) = false) (e_c128 : decide (128 ≤ a0) = false) (e_m1 : Aside0 (false = decide (97 ≤ a0 ∧ a0 ≤ 122))) (e_m2 : Aside0 (false = decide (65 ≤ a0 ∧ a0 ≤ 90))) (e_c95 : (a0 == 95) = false) (e_m3 : Aside0 (true = decide (48 ≤ a0 ∧ a0 ≤ 57))) :
    Calls Tryd.prog 37 #[.int .i64 a0] w fun e w' => e = .returned (.int .i64 2) ∧ Below w.heap.size w w' := by
  have hcell : ∀ w1 : World, Below (w.alloc (.cells #[.int .i64 a0] 3)).heap.size (w.alloc (.cells #[.int .i64 a0] 3)) w1 → w1.cell? ⟨w.heap.size, 0, none⟩ = some (.int .i64 a0) := fun w1 hb =>
    (hb.cell (p := ⟨w.heap.size, 0, none⟩) (by simp)).trans ((blk_cell (heap_alloc_new w _) 0).trans rfl)
  go_enter Tryd.func37, Tryd.ntmps37
  go_wp2_with (first | (go_at_call 46; with_reducible refine (glyph_Width.calls k a0 t _ HT.out).mono ?_; rintro e w1 ⟨rfl, hb⟩; have hc1 := hcell w1 hb; have HB := Aside0.mk hb; clear hb) | (go_at_call 45; with_reducible refine (glyph_Class.among 97 122 a0 w1 w.heap.size hc1 false e_m1.out).mono ?_; rintro e w' ⟨rfl, rfl⟩) | (go_at_call 45; with_reducible refine (glyph_Class.among 65 90 a0 w1 w.heap.size hc1 false e_m2.out).mono ?_; rintro e w' ⟨rfl, rfl⟩) | (go_at_call 45; with_reducible refine (glyph_Class.among 48 57 a0 w1 w.heap.size hc1 true e_m3.out).mono ?_; rintro e w' ⟨rfl, rfl⟩))
  go_ret
  exact ⟨rfl, ((Below.refl _ _).alloc (Nat.le_refl _) _).trans (HB.out.mono (by simp))⟩
set_option maxHeartbeats 2000000 in
theorem glyph_Class.way_5 (k : Nat) (a0 t : Int) (w : World) (HT : Aside0 (glyph_Width.f k a0 = some t)) (ht : (t == 0) = false) (e_c128 : decide (128 ≤ a0) = false) (e_m1 : Aside0 (false = decide (97 ≤ a0 ∧ a0 ≤ 122))) (e_m2 : Aside0 (false = decide (65 ≤ a0 ∧ a0 ≤ 90))) (e_c95 : (a0 == 95) = false) (e_m3 : Aside0 (false = decide (48 ≤ a0 ∧ a0 ≤ 57))) (e_m4 : Aside0 (true = decide (9 ≤ a0 ∧ a0 ≤ 10))) :
    Calls Tryd.prog 37 #[.int .i64 a0] w fun e w' => e = .returned (.int .i64 3) ∧ Below w.heap.size w w' := by
  have hcell : ∀ w1 : World, Below (w.alloc (.cells #[.int .i64 a0] 3)).heap.size (w.alloc (.cells #[.int .i64 a0] 3)) w1 → w1.cell? ⟨w.heap.size, 0, none⟩ = some (.int .i64 a0) := fun w1 hb =>
    (hb.cell (p := ⟨w.heap.size, 0, none⟩) (by simp)).trans ((blk_cell (heap_alloc_new w _) 0).trans rfl)
  go_enter Tryd.func37, Tryd.ntmps37
  go_wp2_with (first | (go_at_call 46; with_reducible refine (glyph_Width.calls k a0 t _ HT.out).mono ?_; rintro e w1 ⟨rfl, hb⟩; have hc1 := hcell w1 hb; have HB := Aside0.mk hb; clear hb) | (go_at_call 45; with_reducible refine (glyph_Class.among 97 122 a0 w1 w.heap.size hc1 false e_m1.out).mono ?_; rintro e w' ⟨rfl, rfl⟩) | (go_at_call 45; with_reducible refine (glyph_Class.among 65 90 a0 w1 w.heap.size hc1 false e_m2.out).mono ?_; rintro e w' ⟨rfl, rfl⟩) | (go_at_call 45; with_reducible refine (glyph_Class.among 48 57 a0 w1 w.heap.size hc1 false e_m3.out).mono ?_; rintro e w' ⟨rfl, rfl⟩) | (go_at_call 45; with_reducible refine (glyph_Class.among 9 10 a0 w1 w.heap.size hc1 true e_m4.out).mono ?_; rintro e w' ⟨rfl, rfl⟩))
  go_ret
  exact ⟨rfl, ((Below.refl _ _).alloc (Nat.le_refl _) _).trans (HB.out.mono (by simp))⟩
set_option maxHeartbeats 2000000 in
theorem glyph_Class.way_6 (k : Nat) (a0 t : Int) (w : World) (HT : Aside0 (glyph_Width.f k a0 = some t)) (ht : (t == 0) = false) (e_c128 : decide (128 ≤ a0) = false) (e_m1 : Aside0 (false = decide (97 ≤ a0 ∧ a0 ≤ 122))) (e_m2 : Aside0 (false = decide (65 ≤ a0 ∧ a0 ≤ 90))) (e_c95 : (a0 == 95) = false) (e_m3 : Aside0 (false = decide (48 ≤ a0 ∧ a0 ≤ 57))) (e_m4 : Aside0 (false = decide (9 ≤ a0 ∧ a0 ≤ 10))) (e_c13 : (a0 == 13) = true) :
    Calls Tryd.prog 37 #[.int .i64 a0] w fun e w' => e = .returned (.int .i64 3) ∧ Below w.heap.size w w' := by
  have hcell : ∀ w1 : World, Below (w.alloc (.cells #[.int .i64 a0] 3)).heap.size (w.alloc (.cells #[.int .i64 a0] 3)) w1 → w1.cell? ⟨w.heap.size, 0, none⟩ = some (.int .i64 a0) := fun w1 hb =>
    (hb.cell (p := ⟨w.heap.size, 0, none⟩) (by simp)).trans ((blk_cell (heap_alloc_new w _) 0).trans rfl)
  go_enter Tryd.func37, Tryd.ntmps37
  go_wp2_with (first | (go_at_call 46; with_reducible refine (glyph_Width.calls k a0 t _ HT.out).mono ?_; rintro e w1 ⟨rfl, hb⟩; have hc1 := hcell w1 hb; have HB := Aside0.mk hb; clear hb) | (go_at_call 45; with_reducible refine (glyph_Class.among 97 122 a0 w1 w.heap.size hc1 false e_m1.out).mono ?_; rintro e w' ⟨rfl, rfl⟩) | (go_at_call 45; with_reducible refine (glyph_Class.among 65 90 a0 w1 w.heap.size hc1 false e_m2.out).mono ?_; rintro e w' ⟨rfl, rfl⟩) | (go_at_call 45; with_reducible refine (glyph_Class.among 48 57 a0 w1 w.heap.size hc1 false e_m3.out).mono ?_; rintro e w' ⟨rfl, rfl⟩) | (go_at_call 45; with_reducible refine (glyph_Class.among 9 10 a0 w1 w.heap.size hc1 false e_m4.out).mono ?_; rintro e w' ⟨rfl, rfl⟩))
  go_ret
  exact ⟨rfl, ((Below.refl _ _).alloc (Nat.le_refl _) _).trans (HB.out.mono (by simp))⟩
set_option maxHeartbeats 2000000 in
theorem glyph_Class.way_7 (k : Nat) (a0 t : Int) (w : World) (HT : Aside0 (glyph_Width.f k a0 = some t)) (ht : (t == 0) = false) (e_c128 : decide (128 ≤ a0) = false) (e_m1 : Aside0 (false = decide (97 ≤ a0 ∧ a0 ≤ 122))) (e_m2 : Aside0 (false = decide (65 ≤ a0 ∧ a0 ≤ 90))) (e_c95 : (a0 == 95) = false) (e_m3 : Aside0 (false = decide (48 ≤ a0 ∧ a0 ≤ 57))) (e_m4 : Aside0 (false = decide (9 ≤ a0 ∧ a0 ≤ 10))) (e_c13 : (a0 == 13) = false) (e_c32 : (a0 == 32) = true) :
    Calls Tryd.prog 37 #[.int .i64 a0] w fun e w' => e = .returned (.int .i64 3) ∧ Below w.heap.size w w' := by
  have hcell : ∀ w1 : World, Below (w.alloc (.cells #[.int .i64 a0] 3)).heap.size (w.alloc (.cells #[.int .i64 a0] 3)) w1 → w1.cell? ⟨w.heap.size, 0, none⟩ = some (.int .i64 a0) := fun w1 hb =>
    (hb.cell (p := ⟨w.heap.size, 0, none⟩) (by simp)).trans ((blk_cell (heap_alloc_new w _) 0).trans rfl)
  go_enter Tryd.func37, Tryd.ntmps37
  go_wp2_with (first | (go_at_call 46; with_reducible refine (glyph_Width.calls k a0 t _ HT.out).mono ?_; rintro e w1 ⟨rfl, hb⟩; have hc1 := hcell w1 hb; have HB := Aside0.mk hb; clear hb) | (go_at_call 45; with_reducible refine (glyph_Class.among 97 122 a0 w1 w.heap.size hc1 false e_m1.out).mono ?_; rintro e w' ⟨rfl, rfl⟩) | (go_at_call 45; with_reducible refine (glyph_Class.among 65 90 a0 w1 w.heap.size hc1 false e_m2.out).mono ?_; rintro e w' ⟨rfl, rfl⟩) | (go_at_call 45; with_reducible refine (glyph_Class.among 48 57 a0 w1 w.heap.size hc1 false e_m3.out).mono ?_; rintro e w' ⟨rfl, rfl⟩) | (go_at_call 45; with_reducible refine (glyph_Class.among 9 10 a0 w1 w.heap.size hc1 false e_m4.out).mono ?_; rintro e w' ⟨rfl, rfl⟩))
  go_ret
  exact ⟨rfl, ((Below.refl _ _).alloc (Nat.le_refl _) _).trans (HB.out.mono (by simp))⟩
set_option maxHeartbeats 2000000 in
theorem glyph_Class.way_8 (k : Nat) (a0 t : Int) (w : World) (HT : Aside0 (glyph_Width.f k a0 = some t)) (ht : (t == 0) = false) (e_c128 : decide (128 ≤ a0) = false) (e_m1 : Aside0 (false = decide (97 ≤ a0 ∧ a0 ≤ 122))) (e_m2 : Aside0 (false = decide (65 ≤ a0 ∧ a0 ≤ 90))) (e_c95 : (a0 == 95) = false) (e_m3 : Aside0 (false = decide (48 ≤ a0 ∧ a0 ≤ 57))) (e_m4 : Aside0 (false = decide (9 ≤ a0 ∧ a0 ≤ 10))) (e_c13 : (a0 == 13) = false) (e_c32 : (a0 == 32) = false) (e_m5 : Aside0 (true = decide (33 ≤ a0 ∧ a0 ≤ 126))) :
    Calls Tryd.prog 37 #[.int .i64 a0] w fun e w' => e = .returned (.int .i64 4) ∧ Below w.heap.size w w' := by
  have hcell : ∀ w1 : World, Below (w.alloc (.cells #[.int .i64 a0] 3)).heap.size (w.alloc (.cells #[.int .i64 a0] 3)) w1 → w1.cell? ⟨w.heap.size, 0, none⟩ = some (.int .i64 a0) := fun w1 hb =>
    (hb.cell (p := ⟨w.heap.size, 0, none⟩) (by simp)).trans ((blk_cell (heap_alloc_new w _) 0).trans rfl)
  go_enter Tryd.func37, Tryd.ntmps37
  go_wp2_with (first | (go_at_call 46; with_reducible refine (glyph_Width.calls k a0 t _ HT.out).mono ?_; rintro e w1 ⟨rfl, hb⟩; have hc1 := hcell w1 hb; have HB := Aside0.mk hb; clear hb) | (go_at_call 45; with_reducible refine (glyph_Class.among 97 122 a0 w1 w.heap.size hc1 false e_m1.out).mono ?_; rintro e w' ⟨rfl, rfl⟩) | (go_at_call 45; with_reducible refine (glyph_Class.among 65 90 a0 w1 w.heap.size hc1 false e_m2.out).mono ?_; rintro e w' ⟨rfl, rfl⟩) | (go_at_call 45; with_reducible refine (glyph_Class.among 48 57 a0 w1 w.heap.size hc1 false e_m3.out).mono ?_; rintro e w' ⟨rfl, rfl⟩) | (go_at_call 45; with_reducible refine (glyph_Class.among 9 10 a0 w1 w.heap.size hc1 false e_m4.out).mono ?_; rintro e w' ⟨rfl, rfl⟩) | (go_at_call 45; with_reducible refine (glyph_Class.among 33 126 a0 w1 w.heap.size hc1 true e_m5.out).mono ?_; rintro e w' ⟨rfl, rfl⟩))
  go_ret
  exact ⟨rfl, ((Below.refl _ _).alloc (Nat.le_refl _) _).trans (HB.out.mono (by simp))⟩
set_option maxHeartbeats 2000000 in
theorem glyph_Class.way_9 (k : Nat) (a0 t : Int) (w : World) (HT : Aside0 (glyph_Width.f k a0 = some t)) (ht : (t == 0) = false) (e_c128 : decide (128 ≤ a0) = false) (e_m1 : Aside0 (false = decide (97 ≤ a0 ∧ a0 ≤ 122))) (e_m2 : Aside0 (false = decide (65 ≤ a0 ∧ a0 ≤ 90))) (e_c95 : (a0 == 95) = false) (e_m3 : Aside0 (false = decide (48 ≤ a0 ∧ a0 ≤ 57))) (e_m4 : Aside0 (false = decide (9 ≤ a0 ∧ a0 ≤ 10))) (e_c13 : (a0 == 13) = false) (e_c32 : (a0 == 32) = false) (e_m5 : Aside0 (false = decide (33 ≤ a0 ∧ a0 ≤ 126))) :
    Calls Tryd.prog 37 #[.int .i64 a0] w fun e w' => e = .returned (.int .i64 0) ∧ Below w.heap.size w w' := by
  have hcell : ∀ w1 : World, Below (w.alloc (.cells #[.int .i64 a0] 3)).heap.size (w.alloc (.cells #[.int .i64 a0] 3)) w1 → w1.cell? ⟨w.heap.size, 0, none⟩ = some (.int .i64 a0) := fun w1 hb =>
    (hb.cell (p := ⟨w.heap.size, 0, none⟩) (by simp)).trans ((blk_cell (heap_alloc_new w _) 0).trans rfl)
  go_enter Tryd.func37, Tryd.ntmps37
  go_wp2_with (first | (go_at_call 46; with_reducible refine (glyph_Width.calls k a0 t _ HT.out).mono ?_; rintro e w1 ⟨rfl, hb⟩; have hc1 := hcell w1 hb; have HB := Aside0.mk hb; clear hb) | (go_at_call 45; with_reducible refine (glyph_Class.among 97 122 a0 w1 w.heap.size hc1 false e_m1.out).mono ?_; rintro e w' ⟨rfl, rfl⟩) | (go_at_call 45; with_reducible refine (glyph_Class.among 65 90 a0 w1 w.heap.size hc1 false e_m2.out).mono ?_; rintro e w' ⟨rfl, rfl⟩) | (go_at_call 45; with_reducible refine (glyph_Class.among 48 57 a0 w1 w.heap.size hc1 false e_m3.out).mono ?_; rintro e w' ⟨rfl, rfl⟩) | (go_at_call 45; with_reducible refine (glyph_Class.among 9 10 a0 w1 w.heap.size hc1 false e_m4.out).mono ?_; rintro e w' ⟨rfl, rfl⟩) | (go_at_call 45; with_reducible refine (glyph_Class.among 33 126 a0 w1 w.heap.size hc1 false e_m5.out).mono ?_; rintro e w' ⟨rfl, rfl⟩))
  go_ret
  exact ⟨rfl, ((Below.refl _ _).alloc (Nat.le_refl _) _).trans (HB.out.mono (by simp))⟩
def glyph_Class.f (k : Nat) (a0 : Int) : Option Int := (glyph_Width.f k a0).bind fun t => (if t = 0 then (some 0) else (some (classG a0)))
theorem glyph_Class.mono : ∀ a0 k, LeO (glyph_Class.f k a0) (glyph_Class.f (k + 1) a0) := fun a0 k => LeO.bind (glyph_Width.mono a0 k) (fun _ => LeO.refl _)
set_option maxHeartbeats 2000000 in
theorem glyph_Class.calls (k : Nat) (a0 : Int) (r : Int) (w : World) (h : glyph_Class.f k a0 = some r) :
    Calls Tryd.prog 37 #[.int .i64 a0] w fun e w' => e = .returned (.int .i64 r) ∧ Below w.heap.size w w' := by
  obtain ⟨t, ht, H⟩ := Option.bind_eq_some_iff.mp h
  clear h
  have HT := Aside0.mk ht
  clear ht
  by_cases h0 : t = 0
  · rw [if_pos h0] at H
    obtain rfl := Option.some.inj H
    subst h0
    clear H
    have hcell : ∀ w1 : World, Below (w.alloc (.cells #[.int .i64 a0] 3)).heap.size (w.alloc (.cells #[.int .i64 a0] 3)) w1 → w1.cell? ⟨w.heap.size, 0, none⟩ = some (.int .i64 a0) := fun w1 hb =>
      (hb.cell (p := ⟨w.heap.size, 0, none⟩) (by simp)).trans ((blk_cell (heap_alloc_new w _) 0).trans rfl)
    go_enter Tryd.func37, Tryd.ntmps37
    go_wp2_with (go_at_call 46; with_reducible refine (glyph_Width.calls k a0 0 _ HT.out).mono ?_; rintro e w1 ⟨rfl, hb⟩; have hc1 := hcell w1 hb; have HB := Aside0.mk hb; clear hb)
    go_ret
    exact ⟨rfl, ((Below.refl _ _).alloc (Nat.le_refl _) _).trans (HB.out.mono (by simp))⟩
  · rw [if_neg h0] at H
    obtain rfl := Option.some.inj H
    clear H
    have e0 : (t == 0) = false := beq_eq_false_iff_ne.mpr h0
    clear h0
    unfold classG
    by_cases c0 : 128 ≤ a0
    · rw [if_pos (by omega)]; exact glyph_Class.way_0 k a0 t w HT e0 (decide_eq_true c0)
    have d0 := decide_eq_false c0
    by_cases c1 : 97 ≤ a0 ∧ a0 ≤ 122
    · rw [if_pos (by omega)]; exact glyph_Class.way_1 k a0 t w HT e0 d0 ⟨(decide_eq_true c1).symm⟩
    have d1 := Aside0.mk (decide_eq_false c1).symm
    by_cases c2 : 65 ≤ a0 ∧ a0 ≤ 90
    · rw [if_pos (by omega)]; exact glyph_Class.way_2 k a0 t w HT e0 d0 d1 ⟨(decide_eq_true c2).symm⟩
    have d2 := Aside0.mk (decide_eq_false c2).symm
    by_cases c3 : a0 = 95
    · rw [if_pos (by omega)]; exact glyph_Class.way_3 k a0 t w HT e0 d0 d1 d2 (beq_iff_eq.mpr c3)
    have d3 : (a0 == 95) = false := beq_eq_false_iff_ne.mpr c3
    rw [if_neg (by omega)]
    by_cases c4 : 48 ≤ a0 ∧ a0 ≤ 57
    · rw [if_pos c4]; exact glyph_Class.way_4 k a0 t w HT e0 d0 d1 d2 d3 ⟨(decide_eq_true c4).symm⟩
    have d4 := Aside0.mk (decide_eq_false c4).symm
    rw [if_neg c4]
    by_cases c5 : 9 ≤ a0 ∧ a0 ≤ 10
    · rw [if_pos (by omega)]; exact glyph_Class.way_5 k a0 t w HT e0 d0 d1 d2 d3 d4 ⟨(decide_eq_true c5).symm⟩
    have d5 := Aside0.mk (decide_eq_false c5).symm
    by_cases c6 : a0 = 13
    · rw [if_pos (by omega)]; exact glyph_Class.way_6 k a0 t w HT e0 d0 d1 d2 d3 d4 d5 (beq_iff_eq.mpr c6)
    have d6 : (a0 == 13) = false := beq_eq_false_iff_ne.mpr c6
    by_cases c7 : a0 = 32
    · rw [if_pos (by omega)]; exact glyph_Class.way_7 k a0 t w HT e0 d0 d1 d2 d3 d4 d5 d6 (beq_iff_eq.mpr c7)
    have d7 : (a0 == 32) = false := beq_eq_false_iff_ne.mpr c7
    rw [if_neg (by omega)]
    by_cases c8 : 33 ≤ a0 ∧ a0 ≤ 126
    · rw [if_pos c8]; exact glyph_Class.way_8 k a0 t w HT e0 d0 d1 d2 d3 d4 d5 d6 d7 ⟨(decide_eq_true c8).symm⟩
    · rw [if_neg c8]; exact glyph_Class.way_9 k a0 t w HT e0 d0 d1 d2 d3 d4 d5 d6 d7 ⟨(decide_eq_false c8).symm⟩

/-! ### scene_pieces: function 24 -/
section
open Go.Shelf
attribute [local go_sem] Oper.semAt_some
/-- The end of a round of one's own. -/
def minePost (l : Nat) (r : Loop) (R : Ending → World → Prop) : Exit → Act → World → Prop
  | .normal, _, W => W.heap[l]? = some (.loop { r with state := .busy }) ∧ R (.returned (.bool true)) (W.putObj l (.loop { r with state := .ready, pending := none }))
  | .ret, _, W => W.heap[l]? = some (.loop { r with state := .busy }) ∧ R (.returned (.bool false)) (W.putObj l (.loop { r with state := .done, pending := some .ret }))
  | _, _, _ => False
theorem yieldAt_mine {F : Fence} {n : Nat} {P : Program} {l : Nat} {r : Loop} {args : Array Value} {W : World} {R : Ending → World → Prop} (hfn : F.fn r.fn) (hr : W.heap[l]? = some (.loop r)) (hst : r.state = .ready) (hs : args.size = r.params.size)
    (h : ∀ K : Act → World → Prop, (∀ a1 W1, W1.heap[l]? = some (.loop r) → r.body.wpIn (F.inRound l) n P (minePost l r R) a1 (W1.putObj l (.loop { r with state := .busy })) → K a1 W1) → r.assign.wpIn (F.inRound l) n P (Exit.then K (fun _ _ _ => False))
      { tmps := (r.params.zip args).foldl (fun t (p, v) => t.setIfInBounds p v) r.tmps, defers := [] } W) :
    YieldAt F n P l args W R := by
  refine ⟨r.fn, _, r.assign, r.body, run_yield hr hs, roundIn_of_wpIn hfn (wpIn_mono (h (fun a1 W1 => W1.heap[l]? = some (.loop r) ∧ r.body.wpIn (F.inRound l) n P (minePost l r R) a1 (W1.putObj l (.loop { r with state := .busy }))) (fun _ _ h1 h2 => ⟨h1, h2⟩)) ?_)⟩
  rintro e a1 W1 hp
  cases e with
  | normal =>
    obtain ⟨h1, h2⟩ := hp
    refine ⟨_, run_beginRound h1 hst, wpIn_mono h2 ?_⟩
    rintro e a2 W2 hq
    cases e with
    | normal =>
      obtain ⟨h3, h4⟩ := hq
      exact ⟨_, _, run_endRound none h3, h4⟩
    | ret =>
      obtain ⟨h3, h4⟩ := hq
      exact ⟨_, _, run_endRound (some .ret) h3, h4⟩
    | exit id => exact hq.elim
    | goto t => exact hq.elim
    | panic c => exact hq.elim
    | outgrown => exact hq.elim
  | _ => exact hp.elim
theorem range_mine {F : Fence} {n : Nat} {P : Program} {g : Operand} {ps : Array Tmp} {assign body : Code} {Q : Exit → Act → World → Prop} {a : Act} {w : World} (hro : F.round = none) (h1 : 1 ≤ n) {gf : Nat} {lb : Array Value}
    (hg : a.eval g = .func (.func gf) #[] lb) (hFg : F.fn gf) (eg : ∀ args w, (callFunc gf args).run P w = .ok (.enter gf args) w)
    (h : ∀ r : Loop, F.fn r.fn → r.state = .ready → r.pending = none → r.tmps = a.tmps → r.params = ps → r.assign = assign → r.body = body → CallsIn F (n - 1) P gf (#[.func (.yield (w.heap.size + 1)) #[] #[]] ++ lb) ((w.alloc (.deferred (some []))).alloc (.loop r)) fun e W =>
      (∃ v, e = .returned v) ∧ ∃ st pe, st ≠ LoopState.busy ∧ W.heap[w.heap.size + 1]? = some (.loop { r with state := st, pending := pe }) ∧
        (match pe with
         | none => Q .normal { a with defers := { target := .collected w.heap.size, args := #[] } :: a.defers } (W.putObj (w.heap.size + 1) (.loop { r with state := .exhausted, pending := pe }))
         | some c => c.wpIn F n P Q { a with defers := { target := .collected w.heap.size, args := #[] } :: a.defers } (W.putObj (w.heap.size + 1) (.loop { r with state := .exhausted, pending := pe })))) :
    (Code.rangeFunc g ps assign body).wpIn F n P Q a w := by
  refine wpIn_rangeFunc fun fn hfn => ?_
  rw [hro]
  refine ⟨w.heap.size + 1, [{ target := .collected w.heap.size, args := #[] }], ((w.alloc (.deferred (some []))).alloc (.loop { state := .ready, pending := none, fn, tmps := a.tmps, params := ps, assign, body, defers := w.heap.size })), { target := .fn (.func gf) lb, args := #[.func (.yield (w.heap.size + 1)) #[] #[]] }, ((w.alloc (.deferred (some []))).alloc (.loop { state := .ready, pending := none, fn, tmps := a.tmps, params := ps, assign, body, defers := w.heap.size })), gf, #[.func (.yield (w.heap.size + 1)) #[] #[]] ++ lb, ((w.alloc (.deferred (some []))).alloc (.loop { state := .ready, pending := none, fn, tmps := a.tmps, params := ps, assign, body, defers := w.heap.size })), run_enterLoop_outer _ _ _ _ _, ?_, ?_, ?_, fun _ => h1, ?_⟩
  · simp only [resolve, hg]
    simp [go_sem]
  · intro f' hf'; simp [Target.leads] at hf'; subst hf'; exact hFg
  · simp [invoke, go_sem, eg]
  · refine (h { state := .ready, pending := none, fn, tmps := a.tmps, params := ps, assign, body, defers := w.heap.size } hfn rfl rfl rfl rfl rfl rfl).mono ?_
    rintro e W ⟨⟨v, rfl⟩, st, pe, hst, hl, hq⟩
    exact ⟨pe, _, run_endLoop hl hst, hq⟩
theorem wide_roomS {n : Nat} : Fence.wide.depth.isSome = true → 1 ≤ n := fun h => by cases h
def scene_flush.T3 : Bool × List (List Nat × List Nat) := (true, [([], []), ([], []), ([], []), ([0, 1, 2], [0, 1, 2]), ([], []), ([3, 4], [3, 4]), ([], []), ([6, 5, 0, 1, 2, 3, 4, 5, 6], [5, 6])])
def scene_flush.B3 : List Nat := [0, 0, 0, 7, 0, 31, 0, 127]
theorem scene_flush.tab3 : rtab .any (opsOf Tryd.f36 3) = scene_flush.T3 := by kernel_rfl
theorem scene_flush.bits3 : waitsOk scene_flush.T3.2 scene_flush.B3 = true := by kernel_rfl
/-- The world behind a piece's box, ahead of its yield. -/
def flushW (W : World) (Bf : Nat) (p : ByteArray) (fr : Int) : World := ((W.alloc (.cells #[.string p, .int .i64 fr] 60)).setCell ⟨Bf, 0, none⟩ (.int .i64 (-1))).drew
set_option maxHeartbeats 8000000 in
set_option maxRecDepth 100000 in
theorem own_flush (n l Bf Bs By : Nat) (s : ByteArray) (fr at_ : Int) (W : World) (R : Bool → World → Prop) (bF : Boxed W Bf 3 (.int .i64 fr)) (bS : Boxed W Bs 9 (.string s)) (bY : Boxed W By 75 (.func (.yield l) #[] #[])) (hfy : Bf ≠ By)
    (h0 : fr < 0 → R true W)
    (hle : 0 ≤ fr → fr ≤ at_ ∧ at_ ≤ (s.size : Int))
    (h1 : 0 ≤ fr → YieldAt Fence.wide (n - 1) Tryd.prog l #[.agg #[.string (s.extract fr.toNat at_.toNat), .int .i64 fr]] (flushW W Bf (s.extract fr.toNat at_.toNat) fr) fun e W' => ∃ b, e = .returned (.bool b) ∧ R b W') :
    CallsIn Fence.wide n Tryd.prog 36 #[.int .i64 at_, .pointer (some ⟨Bf, 0, none⟩), .pointer (some ⟨Bs, 0, none⟩), .pointer (some ⟨By, 0, none⟩)] W fun e W' => ∃ b, e = .returned (.bool b) ∧ R b W' := by
  refine callsIn_wide.2 ?_
  have H1 := Aside0.mk h1
  have cF := bF.cell
  have cS := bS.cell
  have cY := bY.cell
  have fF := bF.frozen
  have aF : ∀ (cs : Array Value) (t : TypeId), (W.alloc (.cells cs t)).cell? ⟨Bf, 0, none⟩ = some (.int .i64 fr) := fun _ _ => (bF.alloc _).cell
  have aS : ∀ (cs : Array Value) (t : TypeId), (W.alloc (.cells cs t)).cell? ⟨Bs, 0, none⟩ = some (.string s) := fun _ _ => (bS.alloc _).cell
  have nF : (Bf = W.heap.size) = False := eq_false (Nat.ne_of_lt bF.lt)
  by_cases hf : fr < 0
  · have f0 : decide (fr < 0) = true := decide_eq_true hf
    have HR := Aside0.mk (h0 hf)
    clear h0 hle h1 hf
    go_enter Tryd.func36, Tryd.ntmps36
    go_wp2
    go_ret
    exact ⟨true, rfl, HR.out⟩
  · have f0 : decide (fr < 0) = false := decide_eq_false hf
    have hf0 : 0 ≤ fr := by omega
    obtain ⟨g1, g2⟩ := hle hf0
    have i0 := eq_true hf0
    have i1 := eq_true g1
    have i2 := eq_true g2
    have i3 := eq_true (show 0 ≤ at_ by omega)
    have h2 := H1.out hf0
    unfold flushW at h2
    generalize hsx : s.extract fr.toNat at_.toNat = pc at *
    obtain ⟨fn, tmps, assign, body, hyy, hYR⟩ := h2
    have HYR := Aside0.mk hYR
    clear hYR
    have aFf : (W.alloc (.cells #[.string pc, .int .i64 fr] 60)).frozen? ⟨Bf, 0, none⟩ = false := (bF.alloc _).frozen
    have aY : ((W.alloc (.cells #[.string pc, .int .i64 fr] 60)).setCell ⟨Bf, 0, none⟩ (.int .i64 (-1))).cell? ⟨By, 0, none⟩ = some (.func (.yield l) #[] #[]) := (Boxed.kept (bY.alloc _) (grownBy_setCell' _ Bf _) (fun e => hfy (Option.some.inj e).symm)).cell
    have aP : ∀ i, ((W.alloc (.cells #[.string pc, .int .i64 fr] 60)).setCell ⟨Bf, 0, none⟩ (.int .i64 (-1))).cell? ⟨W.heap.size, i, none⟩ = #[Value.string pc, .int .i64 fr][i]? := fun i => blk_cell (blk_far (p := ⟨Bf, 0, none⟩) (World.alloc_heap_new W (.cells #[.string pc, .int .i64 fr] 60)) (Nat.ne_of_gt bF.lt) _) i
    have aP0 : ((W.alloc (.cells #[.string pc, .int .i64 fr] 60)).setCell ⟨Bf, 0, none⟩ (.int .i64 (-1))).cell? ⟨W.heap.size, 0, none⟩ = some (.string pc) := (aP 0).trans rfl
    have aP1 : ((W.alloc (.cells #[.string pc, .int .i64 fr] 60)).setCell ⟨Bf, 0, none⟩ (.int .i64 (-1))).cell? ⟨W.heap.size, 1, none⟩ = some (.int .i64 fr) := (aP 1).trans rfl
    clear aP
    have hmo : Tryd.prog.follows .mixedOrders = true := by kernel_rfl
    clear h0 hle h1 H1 hf
    go_enter Tryd.func36, Tryd.ntmps36
    go_wp2
    refine start_ (n := 8) (S := fun w' => w'.cell? ⟨Bf, 0, none⟩ = some (.int .i64 fr) ∧ w'.cell? ⟨Bs, 0, none⟩ = some (.string s)) (ds := [7]) #[false, false, false, false, false, false, false, false] (by kernel_rfl) rfl rfl ⟨cF, cS⟩ (fun hHeld => ?_)
    refine with_tabW scene_flush.tab3 scene_flush.bits3 (fun HT_ HW_ => ?_)
    refine pure_ (i := 2) (N := some 11) (v := ?_) (a' := ?_) #[false, false, true, false, false, false, false, false] rfl rfl (any_of HT_.out (by kernel_rfl)) (fun _ _ _ h => h) (Or.inl ⟨by rfl, ?_⟩) ?_ ?_
    rotate_left
    · intro w'
      go_simp
      with_reducible rfl
    rotate_left
    · simp only [Act.put, List.setIfInBounds_toArray, List.set_cons_zero, List.set_cons_succ, i64_w, i32_w, IntKind.wrap_u8, IntKind.wrap_u32]
      rfl
    refine take_ (i := 0) (N := some 9) (v := ?_) (a' := ?_) #[true, false, true, false, false, false, false, false] rfl rfl (take_ofW HT_.out HW_.out (by kernel_rfl)) (fun _ _ _ h => h) (Or.inl ⟨by rfl, ?_⟩) hHeld ?_ ?_
    rotate_left
    · rintro w' ⟨s0, s1⟩
      go_simp
      with_reducible rfl
    rotate_left
    · simp only [Act.put, List.setIfInBounds_toArray, List.set_cons_zero, List.set_cons_succ, i64_w, i32_w, IntKind.wrap_u8, IntKind.wrap_u32]
      rfl
    refine take_ (i := 1) (N := some 10) (v := ?_) (a' := ?_) #[true, true, true, false, false, false, false, false] rfl rfl (take_ofW HT_.out HW_.out (by kernel_rfl)) (fun _ _ _ h => h) (Or.inl ⟨by rfl, ?_⟩) hHeld ?_ ?_
    rotate_left
    · rintro w' ⟨s0, s1⟩
      go_simp
      with_reducible rfl
    rotate_left
    · simp only [Act.put, List.setIfInBounds_toArray, List.set_cons_zero, List.set_cons_succ, i64_w, i32_w, IntKind.wrap_u8, IntKind.wrap_u32]
      rfl
    refine pure_ (i := 3) (N := some 12) (v := ?_) (a' := ?_) #[true, true, true, true, false, false, false, false] rfl rfl (any_of HT_.out (by kernel_rfl)) (fun _ _ _ h => h) (Or.inl ⟨by rfl, ?_⟩) ?_ ?_
    rotate_left
    · intro w'
      go_simp
      with_reducible rfl
    rotate_left
    · simp only [Act.put, List.setIfInBounds_toArray, List.set_cons_zero, List.set_cons_succ, i64_w, i32_w, IntKind.wrap_u8, IntKind.wrap_u32]
      rfl
    refine take_ (i := 4) (N := some 13) (v := ?_) (a' := ?_) #[true, true, true, true, true, false, false, false] rfl rfl (take_ofW HT_.out HW_.out (by kernel_rfl)) (fun _ _ _ h => h) (Or.inl ⟨by rfl, ?_⟩) hHeld ?_ ?_
    rotate_left
    · rintro w' ⟨s0, s1⟩
      go_simp
      with_reducible rfl
    rotate_left
    · simp only [Act.put, List.setIfInBounds_toArray, List.set_cons_zero, List.set_cons_succ, i64_w, i32_w, IntKind.wrap_u8, IntKind.wrap_u32]
      rfl
    refine pure_ (i := 5) (N := some 14) (v := ?_) (a' := ?_) #[true, true, true, true, true, true, false, false] rfl rfl (any_of HT_.out (by kernel_rfl)) (fun _ _ _ h => h) (Or.inl ⟨by rfl, ?_⟩) ?_ ?_
    rotate_left
    · intro w'
      go_simp
      with_reducible rfl
    rotate_left
    · simp only [Act.put, List.setIfInBounds_toArray, List.set_cons_zero, List.set_cons_succ, i64_w, i32_w, IntKind.wrap_u8, IntKind.wrap_u32]
      rfl
    refine one_ (i := 6) (N := some 6) #[true, true, true, true, true, true, true, false] rfl rfl (one_of HT_.out (by kernel_rfl)) (by decide) (fun K hK => ?_)
    refine value_ (w1 := ?_) (v := ?_) (by rfl) rfl ?_ ?_
    rotate_left 2
    · go_simp
      constructor
      · rfl
      · rfl
    refine hK.out _ _ ⟨(World.cell?_alloc_lt _ _ _ (World.block_lt_of_cell? _ _ (hHeld.1))).trans (hHeld.1), (World.cell?_alloc_lt _ _ _ (World.block_lt_of_cell? _ _ (hHeld.2))).trans (hHeld.2)⟩ (fun hHeld => ?_)
    clear hK K
    refine norm_ (a' := ?_) ?_ ?_
    rotate_left
    · show Act.put _ (some 6) _ = _
      simp only [Act.put, List.setIfInBounds_toArray, List.set_cons_zero, List.set_cons_succ, i64_w, i32_w, IntKind.wrap_u8, IntKind.wrap_u32]
      rfl
    refine last_ (i := 7) (N := none) #[true, true, true, true, true, true, true, true] rfl rfl (one_of HT_.out (by kernel_rfl)) (by decide) (fun K hK => ?_)
    refine skip_ (w1 := ?_) (by rfl) rfl ?_ ?_
    rotate_left
    · go_simp
      rfl
    refine hK.out _ _ ?_
    clear hK K
    refine done_ (done_of HT_.out (by kernel_rfl)) ?_
    gi_wp2
    refine (wpIn_wide (n := n)).1 ?_
    gi_wp2
    refine ⟨wide_roomS, ?_⟩
    with_reducible refine RoundIn.mono HYR.out ?_
    rintro e W3 ⟨b, rfl, hR⟩
    have HR3 := Aside0.mk hR
    clear hR
    gi_wp2
    go_ret
    exact ⟨b, rfl, HR3.out⟩
/-- What is told of a text's end: the piece that goes on. -/
def pcEnd (s : ByteArray) (fr : Int) (e : Nat) : List (ByteArray × Int) := if fr < 0 then [] else [(s.extract fr.toNat e, fr)]
/-- A text's pieces, from a place on. -/
def pcG (s : ByteArray) (cls : Int → Int) : Nat → Nat → Bool → Int → List (ByteArray × Int)
  | 0, _, _, fr => pcEnd s fr s.size
  | d + 1, pos, rm, fr =>
    if pos < s.size then
      (if rm = true then pcG s cls d (pos + (Utf8.decode s pos).2) (((Utf8.decode s pos).1 : Int) != 10) fr
       else if ((Utf8.decode s pos).1 : Int) = 35 then pcEnd s fr pos ++ pcG s cls d (pos + (Utf8.decode s pos).2) true (-1)
       else if ((Utf8.decode s pos).1 : Int) = 59 then pcEnd s fr pos ++ ((⟨#[59]⟩ : ByteArray), (pos : Int)) :: pcG s cls d (pos + (Utf8.decode s pos).2) false (-1)
       else if cls (wrap64 ((Utf8.decode s pos).1 : Int)) = 3 then pcEnd s fr pos ++ pcG s cls d (pos + (Utf8.decode s pos).2) false (-1)
       else pcG s cls d (pos + (Utf8.decode s pos).2) false (if fr < 0 then (pos : Int) else fr))
    else pcEnd s fr s.size
theorem pcG_end (s : ByteArray) (cls : Int → Int) (d pos : Nat) (rm : Bool) (fr : Int) (h : ¬ pos < s.size) : pcG s cls d pos rm fr = pcEnd s fr s.size := by cases d <;> simp [pcG, h]
/-- Pieces, one by one, until one is not taken. -/
def runP {σ : Type} (step : σ → ByteArray × Int → σ × Bool) : σ → List (ByteArray × Int) → σ × Bool
  | st, [] => (st, true)
  | st, p :: ps => if (step st p).2 = true then runP step (step st p).1 ps else ((step st p).1, false)
theorem runP_append {σ : Type} (step : σ → ByteArray × Int → σ × Bool) : ∀ (a b : List (ByteArray × Int)) (st : σ), runP step st (a ++ b) = if (runP step st a).2 = true then runP step (runP step st a).1 b else runP step st a
  | [], b, st => by simp [runP]
  | p :: a, b, st => by
    rw [List.cons_append, runP, runP]
    by_cases h : (step st p).2 = true
    · rw [if_pos h, if_pos h]; exact runP_append step a b _
    · rw [if_neg h, if_neg h]; simp
theorem runP_live {σ : Type} {step : σ → ByteArray × Int → σ × Bool} {live : σ → Prop} (h : ∀ st p, live st → (step st p).2 = true → live (step st p).1) : ∀ (ps : List (ByteArray × Int)) (st : σ), live st → (runP step st ps).2 = true → live (runP step st ps).1
  | [], _, hl, _ => hl
  | p :: ps, st, hl, hr => by
    rw [runP] at hr ⊢
    by_cases hc : (step st p).2 = true
    · rw [if_pos hc] at hr ⊢; exact runP_live h ps _ (h st p hl hc) hr
    · rw [if_neg hc] at hr; cases hr
structure keepP (Bs By Bf It : Nat) (W W' : World) : Prop where
  size : W.heap.size ≤ W'.heap.size
  bs : W'.heap[Bs]? = W.heap[Bs]?
  by_ : W'.heap[By]? = W.heap[By]?
  bf : W'.heap[Bf]? = W.heap[Bf]?
  it : W'.heap[It]? = W.heap[It]?
/-- The iterator's own blocks. -/
structure ownP (s : ByteArray) (l Bs By Bf It : Nat) (fr : Int) (pos : Nat) (W : World) : Prop where
  bS : Boxed W Bs 9 (.string s)
  bY : Boxed W By 75 (.func (.yield l) #[] #[])
  bF : Boxed W Bf 3 (.int .i64 fr)
  it : W.heap[It]? = some (.stringIter s pos)
theorem ownP.keep {s : ByteArray} {l Bs By Bf It : Nat} {fr : Int} {pos : Nat} {W W' : World} (h : ownP s l Bs By Bf It fr pos W) (k : keepP Bs By Bf It W W') : ownP s l Bs By Bf It fr pos W' :=
  ⟨k.bs.trans h.bS, k.by_.trans h.bY, k.bf.trans h.bF, k.it.trans h.it⟩
theorem ownP.below {s : ByteArray} {l Bs By Bf It : Nat} {fr : Int} {pos : Nat} {W W' : World} (h : ownP s l Bs By Bf It fr pos W) (hb : Below W.heap.size W W') : ownP s l Bs By Bf It fr pos W' :=
  ⟨(hb.block _ h.bS.lt).trans h.bS, (hb.block _ h.bY.lt).trans h.bY, (hb.block _ h.bF.lt).trans h.bF, (hb.block _ (Array.getElem?_eq_some_iff.1 h.it).1).trans h.it⟩
section
variable {σ : Type} (n l : Nat) (s : ByteArray) (Bs By Bf It : Nat) (step : σ → ByteArray × Int → σ × Bool) (J : σ → World → Prop) (live : σ → Prop)
/-- What the walk leans on. -/
structure HypP : Prop where
  hJb : ∀ st W W', J st W → Below W.heap.size W W' → J st W'
  hJf : ∀ st W v, J st W → J st (W.setCell ⟨Bf, 0, none⟩ v)
  hJi : ∀ st W p, J st W → J st (W.iterAt It s p)
  hL : ∀ st p, live st → (step st p).2 = true → live (step st p).1
  hY : ∀ st p W1, J st W1 → live st → It < W1.heap.size → YieldAt Fence.wide (n - 1) Tryd.prog l #[.agg #[.string p.1, .int .i64 p.2]] W1 fun e W' => e = .returned (.bool (step st p).2) ∧ J (step st p).1 W' ∧ keepP Bs By Bf It W1 W'
  d1 : Bf ≠ Bs
  d2 : Bf ≠ By
  d3 : Bf ≠ It
  d4 : It ≠ Bs
  d5 : It ≠ By
end
/-- Flush, with a piece that goes on or none. -/
theorem own_flush2 {σ : Type} {n l : Nat} {s : ByteArray} {Bs By Bf It : Nat} {step : σ → ByteArray × Int → σ × Bool} {J : σ → World → Prop} {live : σ → Prop} (H : HypP n l s Bs By Bf It step J live)  (fr : Int) (e pos : Nat) (st : σ) (W : World) (hW : ownP s l Bs By Bf It fr pos W) (hJ : J st W) (hl : live st) (hfr : fr = -1 ∨ (0 ≤ fr ∧ fr ≤ (e : Int))) (he : e ≤ s.size) :
    Calls Tryd.prog 36 #[.int .i64 (e : Int), .pointer (some ⟨Bf, 0, none⟩), .pointer (some ⟨Bs, 0, none⟩), .pointer (some ⟨By, 0, none⟩)] W fun x W' => x = .returned (.bool (runP step st (pcEnd s fr e)).2) ∧ J (runP step st (pcEnd s fr e)).1 W' ∧ ownP s l Bs By Bf It (-1) pos W' := by
  refine (callsIn_wide.1 (own_flush n l Bf Bs By s fr (e : Int) W (fun b W' => b = (runP step st (pcEnd s fr e)).2 ∧ J (runP step st (pcEnd s fr e)).1 W' ∧ ownP s l Bs By Bf It (-1) pos W') hW.bF hW.bS hW.bY H.d2 ?_ ?_ ?_)).mono ?_
  · intro h0
    rw [pcEnd, if_pos h0]
    have : fr = -1 := by omega
    subst this
    exact ⟨rfl, hJ, hW⟩
  · intro h0
    omega
  · intro h0
    rw [pcEnd, if_neg (by omega), Int.toNat_natCast]
    have hrun : runP step st [(s.extract fr.toNat e, fr)] = step st (s.extract fr.toNat e, fr) := by
      rw [runP]
      by_cases hc : (step st (s.extract fr.toNat e, fr)).2 = true
      · rw [if_pos hc, runP]; exact Prod.ext rfl hc.symm
      · rw [if_neg hc]; exact Prod.ext rfl (Bool.eq_false_iff.2 hc).symm
    rw [hrun]
    have hW1 : ownP s l Bs By Bf It fr pos (W.alloc (.cells #[.string (s.extract fr.toNat e), .int .i64 fr] 60)) := hW.below (below_alloc (Below.refl _ _) _)
    have hJ2 := H.hJb _ _ _ (H.hJf _ _ (.int .i64 (-1)) (H.hJb _ _ _ hJ (below_alloc (Below.refl _ _) (.cells #[.string (s.extract fr.toNat e), .int .i64 fr] 60)))) (below_drew1 (Below.refl _ _))
    have far : ∀ k, k ≠ Bf → ((W.alloc (.cells #[.string (s.extract fr.toNat e), .int .i64 fr] 60)).setCell ⟨Bf, 0, none⟩ (.int .i64 (-1))).drew.heap[k]? = (W.alloc (.cells #[.string (s.extract fr.toNat e), .int .i64 fr] 60)).heap[k]? := fun k hk => Below.heap_setCell _ ⟨Bf, 0, none⟩ _ k hk
    have hW2 : ownP s l Bs By Bf It (-1) pos (flushW W Bf (s.extract fr.toNat e) fr) :=
      ⟨(far Bs (fun e => H.d1 e.symm)).trans hW1.bS, (far By (fun e => H.d2 e.symm)).trans hW1.bY, Boxed.set (.int .i64 (-1)) hW1.bF, (far It (fun e => H.d3 e.symm)).trans hW1.it⟩
    obtain ⟨fn, tmps, assign, body, hyy, hYR⟩ := H.hY st (s.extract fr.toNat e, fr) _ hJ2 hl (Array.getElem?_eq_some_iff.1 hW2.it).1
    refine ⟨fn, tmps, assign, body, hyy, RoundIn.mono hYR ?_⟩
    rintro x W' ⟨rfl, hj, hk⟩
    exact ⟨_, rfl, rfl, hj, hW2.keep hk⟩
  · rintro x W' ⟨b, rfl, rfl, hj, hk⟩
    exact ⟨rfl, hj, hk⟩
theorem dN_leS (n b0 b1 b2 b3 : Nat) (hn : 1 ≤ n) : (Go.Lib.decodeN n b0 b1 b2 b3).2 ≤ n := by
  unfold Go.Lib.decodeN
  repeat' split
  all_goals (simp only; omega)
def badN (n b0 b1 b2 b3 : Nat) : Prop := Go.Lib.decodeN n b0 b1 b2 b3 = (65533, 1)
instance (n b0 b1 b2 b3 : Nat) : Decidable (badN n b0 b1 b2 b3) := by unfold badN; infer_instance
theorem decode_fits (s : ByteArray) (i : Nat) (h : i < s.size) : i + (Utf8.decode s i).2 ≤ s.size := by
  rw [Go.Lib.decode_at]
  have := dN_leS (s.size - i) (s.get! i).toNat (s.get! (i + 1)).toNat (s.get! (i + 2)).toNat (s.get! (i + 3)).toNat (by omega)
  omega
set_option maxHeartbeats 8000000 in
set_option maxRecDepth 100000 in
theorem own_pieces1 {σ : Type} {n l : Nat} {s : ByteArray} {Bs : Nat} {step : σ → ByteArray × Int → σ × Bool} {J : σ → World → Prop} {live : σ → Prop} (cls : Int → Int) (hcls : ∀ (r : Int) (W : World), Calls Tryd.prog 37 #[.int .i64 r] W fun e W' => e = .returned (.int .i64 (cls r)) ∧ Below W.heap.size W W') (W : World)
    (H : HypP n l s Bs W.heap.size (W.heap.size + 1) (W.heap.size + 2) step J live) (st : σ) (hl : live st) (hJ : J st W) (bS : Boxed W Bs 9 (.string s)) :
    CallsIn Fence.wide n Tryd.prog 35 #[.func (.yield l) #[] #[], .pointer (some ⟨Bs, 0, none⟩)] W fun e W' => (∃ v, e = .returned v) ∧ J (runP step st (pcG s cls s.size 0 false (-1))).1 W' := by
  refine callsIn_wide.2 ?_
  obtain ⟨OUT, hOUT⟩ : ∃ O, (runP step st (pcG s cls s.size 0 false (-1))).1 = O := ⟨_, rfl⟩
  rw [hOUT]
  have HO := Aside0.mk hOUT
  have HC := Aside0.mk hcls
  have HLv := Aside0.mk hl
  have hO0 : ownP s l Bs W.heap.size (W.heap.size + 1) (W.heap.size + 2) (-1) 0 (((W.alloc (.cells #[.func (.yield l) #[] #[]] 75)).alloc (.cells #[.int .i64 (-1)] 3)).iter s 0) := by
    have h1 := (Boxed.new W 75 (.func (.yield l) #[] #[])).alloc (.cells #[.int .i64 (-1)] 3)
    have h2 := Boxed.new (W.alloc (.cells #[.func (.yield l) #[] #[]] 75)) 3 (.int .i64 (-1))
    have h3 := World.iter_heap ((W.alloc (.cells #[.func (.yield l) #[] #[]] 75)).alloc (.cells #[.int .i64 (-1)] 3)) s 0
    simp only [World.size_alloc] at h2 h3
    exact ⟨((bS.alloc _).alloc _).alloc _, h1.alloc _, h2.alloc _, h3⟩
  have hJ0 : J st (((W.alloc (.cells #[.func (.yield l) #[] #[]] 75)).alloc (.cells #[.int .i64 (-1)] 3)).iter s 0) := H.hJb _ _ _ (H.hJb _ _ _ (H.hJb _ _ _ hJ (below_alloc (Below.refl _ _) (.cells #[.func (.yield l) #[] #[]] 75))) (below_alloc (Below.refl _ _) (.cells #[.int .i64 (-1)] 3))) (below_alloc (Below.refl _ _) (.stringIter s 0))
  have HO0 := Aside0.mk hO0
  have HJ0 := Aside0.mk hJ0
  have cS : ((W.alloc (.cells #[.func (.yield l) #[] #[]] 75)).alloc (.cells #[.int .i64 (-1)] 3)).cell? ⟨Bs, 0, none⟩ = some (.string s) := ((bS.alloc _).alloc _).cell
  have hsb := bS.lt
  clear hOUT hcls hO0 hJ0 hJ
  have HH := Aside0.mk H
  clear H
  go_enter Tryd.func35, Tryd.ntmps35
  go_wp2
  clear cS
  obtain ⟨By, hBy⟩ : ∃ By, W.heap.size = By := ⟨_, rfl⟩
  obtain ⟨Bf, hBf⟩ : ∃ Bf, By + 1 = Bf := ⟨_, rfl⟩
  obtain ⟨It, hIt⟩ : ∃ It, By + 2 = It := ⟨_, rfl⟩
  have hIt2 : Bf + 1 = It := by omega
  simp only [hBy, hBf, hIt] at HO0 HH ⊢
  try simp only [hIt2, show By + 1 + 1 = It from by omega]
  obtain ⟨W1, hW1⟩ : ∃ W1, ((W.alloc (.cells #[.func (.yield l) #[] #[]] 75)).alloc (.cells #[.int .i64 (-1)] 3)).iter s 0 = W1 := ⟨_, rfl⟩
  rw [hW1] at HO0 HJ0 ⊢
  clear hW1 hBy hBf hIt hIt2 hsb bS
  go_loopg [3] s.size (fun d v3 wx => ∃ (pos : Nat) (rm : Bool) (fr : Int) (st : σ), v3 = .bool rm ∧ s.size ≤ pos + d ∧ pos ≤ s.size ∧ (fr = -1 ∨ (0 ≤ fr ∧ fr ≤ (pos : Int))) ∧ Aside0 (ownP s l Bs By Bf It fr pos wx) ∧ Aside0 (J st wx) ∧ Aside0 (live st) ∧ Aside0 ((runP step st (pcG s cls d pos rm fr)).1 = OUT))
  case atStart => exact ⟨0, false, -1, st, rfl, by omega, Nat.zero_le _, .inl rfl, HO0, HJ0, HLv, HO⟩
  case round =>
    clear HO0 HJ0 HLv HO
    obtain ⟨pos, rm, fr, st, rfl, hd, hpl, hfr, HO0, HJ0, HLv, HO⟩ := hrel
    by_cases hps : pos < s.size
    · obtain ⟨d, rfl⟩ : ∃ d, gk = d + 1 := ⟨gk - 1, by omega⟩
      have hO := HO.out
      simp only [pcG] at hO
      rw [if_pos hps] at hO
      have hnx : ∀ ty, (Instr.next (.pointer (some ⟨It, 0, none⟩)) true ty).run Tryd.prog wr = _ := fun ty => Lib.run_next_any_at wr It s pos ty HO0.out.it hps
      have hw1 := decode_posS s pos
      have hw2 := decode_fits s pos hps
      obtain ⟨R, hR⟩ : ∃ R : Nat, (Utf8.decode s pos).1 = R := ⟨_, rfl⟩
      obtain ⟨K, hK⟩ : ∃ K : Nat, (Utf8.decode s pos).2 = K := ⟨_, rfl⟩
      rw [hR, hK] at hO
      rw [hK] at hw1 hw2
      rw [hR, hK] at hnx
      have hO1 : ownP s l Bs By Bf It fr (pos + K) (wr.iterAt It s (pos + K)) :=
        ⟨(Lib.iterAt_other wr It Bs s (pos + K) (fun e => HH.out.d4 e.symm)).trans HO0.out.bS, (Lib.iterAt_other wr It By s (pos + K) (fun e => HH.out.d5 e.symm)).trans HO0.out.bY, (Lib.iterAt_other wr It Bf s (pos + K) HH.out.d3).trans HO0.out.bF, Lib.iterAt_heap wr It s pos (pos + K) HO0.out.it⟩
      have hJ1 := HH.out.hJi _ _ (pos + K) HJ0.out
      obtain ⟨W2, hW2⟩ : ∃ W2, wr.iterAt It s (pos + K) = W2 := ⟨_, rfl⟩
      rw [hW2] at hnx hO1 hJ1
      have HO1 := Aside0.mk hO1
      have HJ1 := Aside0.mk hJ1
      clear hW2 hR hK HO hO1 hJ1 HO0 HJ0
      cases rm with
      | true =>
        rw [if_pos rfl] at hO
        have HO := Aside0.mk hO
        clear hO
        go_wp2
        go_roundg d
        case measure => omega
        case rel => exact ⟨pos + K, _, fr, st, rfl, by omega, hw2, by omega, HO1, HJ1, HLv, HO⟩
      | false =>
        rw [if_neg (by decide)] at hO
        obtain ⟨st1, b1, hrun⟩ : ∃ st1 b1, runP step st (pcEnd s fr pos) = (st1, b1) := ⟨_, _, rfl⟩
        have hl1 : b1 = true → live st1 := fun hb => by have := runP_live HH.out.hL (pcEnd s fr pos) st HLv.out; rw [hrun] at this; exact this hb
        have HL1 := Aside0.mk hl1
        clear hl1
        by_cases h35 : (R : Int) = 35
        · rw [if_pos h35, runP_append, hrun] at hO
          have e35 : ((R : Int) == 35) = true := beq_iff_eq.mpr h35
          have e35b : (R == 35) = true := beq_iff_eq.mpr (by omega)
          have e59 : ((R : Int) == 59) = false := beq_eq_false_iff_ne.mpr (by omega)
          have e59b : (R == 59) = false := beq_eq_false_iff_ne.mpr (by omega)
          cases b1 with
          | false =>
            have HO := Aside0.mk hO
            clear hO h35
            go_wp2_with (go_at_call 36; (with_reducible refine (own_flush2 HH.out fr pos (pos + K) st _ HO1.out HJ1.out HLv.out hfr hpl).mono ?_); rintro e w3 ⟨he, hj, ho⟩; rw [hrun] at he hj; subst he; have HJ3 := Aside0.mk hj; have HO3 := Aside0.mk ho; clear hj ho)
            refine bodyPost_ret (results_none rfl _ _ _) rfl ?_
            have hE := HO.out
            simp only [Bool.false_eq_true, if_false] at hE
            exact ⟨⟨_, rfl⟩, hE ▸ HJ3.out⟩
          | true =>
            have HLv1 := Aside0.mk (HL1.out rfl)
            simp only [if_true] at hO
            have HO := Aside0.mk hO
            clear hO h35
            go_wp2_with (go_at_call 36; (with_reducible refine (own_flush2 HH.out fr pos (pos + K) st _ HO1.out HJ1.out HLv.out hfr hpl).mono ?_); rintro e w3 ⟨he, hj, ho⟩; rw [hrun] at he hj; subst he; have HJ3 := Aside0.mk hj; have HO3 := Aside0.mk ho; clear hj ho)
            go_roundg d
            case measure => omega
            case rel => exact ⟨pos + K, true, -1, st1, rfl, by omega, hw2, .inl rfl, HO3, HJ3, HLv1, HO⟩
        · rw [if_neg h35] at hO
          have e35 : ((R : Int) == 35) = false := beq_eq_false_iff_ne.mpr h35
          have e35b : (R == 35) = false := beq_eq_false_iff_ne.mpr (by omega)
          by_cases h59 : (R : Int) = 59
          · rw [if_pos h59, runP_append, hrun] at hO
            have e59 : ((R : Int) == 59) = true := beq_iff_eq.mpr h59
            have e59b : (R == 59) = true := beq_iff_eq.mpr (by omega)
            cases b1 with
            | false =>
              have HO := Aside0.mk hO
              clear hO h35 h59
              go_wp2_with (go_at_call 36; (with_reducible refine (own_flush2 HH.out fr pos (pos + K) st _ HO1.out HJ1.out HLv.out hfr hpl).mono ?_); rintro e w3 ⟨he, hj, ho⟩; rw [hrun] at he hj; subst he; have HJ3 := Aside0.mk hj; have HO3 := Aside0.mk ho; clear hj ho)
              refine bodyPost_ret (results_none rfl _ _ _) rfl ?_
              have hE := HO.out
              simp only [Bool.false_eq_true, if_false] at hE
              exact ⟨⟨_, rfl⟩, hE ▸ HJ3.out⟩
            | true =>
              have HLv1 := Aside0.mk (HL1.out rfl)
              simp only [if_true] at hO
              rw [runP] at hO
              cases hs2 : (step st1 ((⟨#[59]⟩ : ByteArray), (pos : Int))).2 with
              | false =>
                rw [hs2] at hO
                simp only [Bool.false_eq_true, if_false] at hO
                have HO := Aside0.mk hO
                clear hO h35 h59
                refine (wpIn_wide (n := n)).1 ?_
                gi_wp2_with (first | ((first | (refine ⟨trivial, wide_roomS, ?_⟩; gi_at_call 36) | gi_at_call 36); (with_reducible refine CallsIn.mono (callsIn_wide.2 (own_flush2 HH.out fr pos (pos + K) st _ HO1.out HJ1.out HLv.out hfr hpl)) ?_); rintro e w3 ⟨he, hj, ho⟩; rw [hrun] at he hj; subst he; obtain ⟨fn, tmps, assign, body, hyy, hYR⟩ := HH.out.hY st1 ((⟨#[59]⟩ : ByteArray), (pos : Int)) w3 hj HLv1.out (Array.getElem?_eq_some_iff.1 ho.it).1; have HYR := Aside0.mk hYR; have cY := ho.bY.cell; have HO3 := Aside0.mk ho; clear hj ho hYR) | (refine ⟨wide_roomS, ?_⟩; (with_reducible refine RoundIn.mono HYR.out ?_); rintro e w5 ⟨he, hj, hk⟩; rw [hs2] at he; subst he; have HJ5 := Aside0.mk hj; have HO5 := Aside0.mk (HO3.out.keep hk); clear hj hk) | (refine ⟨trivial, ?_⟩))
                refine bodyPost_ret (results_none rfl _ _ _) rfl ?_
                exact ⟨⟨_, rfl⟩, HO.out ▸ HJ5.out⟩
              | true =>
                rw [hs2] at hO
                simp only [if_true] at hO
                have HO := Aside0.mk hO
                clear hO h35 h59
                refine (wpIn_wide (n := n)).1 ?_
                gi_wp2_with (first | ((first | (refine ⟨trivial, wide_roomS, ?_⟩; gi_at_call 36) | gi_at_call 36); (with_reducible refine CallsIn.mono (callsIn_wide.2 (own_flush2 HH.out fr pos (pos + K) st _ HO1.out HJ1.out HLv.out hfr hpl)) ?_); rintro e w3 ⟨he, hj, ho⟩; rw [hrun] at he hj; subst he; obtain ⟨fn, tmps, assign, body, hyy, hYR⟩ := HH.out.hY st1 ((⟨#[59]⟩ : ByteArray), (pos : Int)) w3 hj HLv1.out (Array.getElem?_eq_some_iff.1 ho.it).1; have HYR := Aside0.mk hYR; have cY := ho.bY.cell; have HO3 := Aside0.mk ho; clear hj ho hYR) | (refine ⟨wide_roomS, ?_⟩; (with_reducible refine RoundIn.mono HYR.out ?_); rintro e w5 ⟨he, hj, hk⟩; rw [hs2] at he; subst he; have HJ5 := Aside0.mk hj; have HO5 := Aside0.mk (HO3.out.keep hk); clear hj hk) | (refine ⟨trivial, ?_⟩))
                go_roundg d
                case measure => omega
                case rel => exact ⟨pos + K, false, -1, _, rfl, by omega, hw2, .inl rfl, HO5, HJ5, ⟨HH.out.hL _ _ HLv1.out hs2⟩, HO⟩
          · rw [if_neg h59] at hO
            have e59 : ((R : Int) == 59) = false := beq_eq_false_iff_ne.mpr h59
            have e59b : (R == 59) = false := beq_eq_false_iff_ne.mpr (by omega)
            by_cases h3 : cls (wrap64 (R : Int)) = 3
            · rw [if_pos h3, runP_append, hrun] at hO
              have c3 : (cls (wrap64 (R : Int)) == 3) = true := beq_iff_eq.mpr h3
              cases b1 with
              | false =>
                have HO := Aside0.mk hO
                clear hO h35 h59 h3
                go_wp2_with (first | (go_at_call 37; (with_reducible refine (HC.out (wrap64 (R : Int)) _).mono ?_); rintro e w4 ⟨rfl, hb4⟩; have HO4 := Aside0.mk (HO1.out.below (below_step (show Below W2.heap.size W2 _ from by repeat (first | (with_reducible first | exact Below.refl _ _ | apply below_alloc | apply pw_below_drewN | apply below_drew1) | exact Below.refl _ _)) hb4)); have HJ4 := Aside0.mk (HH.out.hJb _ _ _ HJ1.out (below_step (show Below W2.heap.size W2 _ from by repeat (first | (with_reducible first | exact Below.refl _ _ | apply below_alloc | apply pw_below_drewN | apply below_drew1) | exact Below.refl _ _)) hb4)); clear hb4) | (go_at_call 36; (with_reducible refine (own_flush2 HH.out fr pos (pos + K) st _ HO4.out HJ4.out HLv.out hfr hpl).mono ?_); rintro e w3 ⟨he, hj, ho⟩; rw [hrun] at he hj; subst he; have HJ3 := Aside0.mk hj; have HO3 := Aside0.mk ho; clear hj ho))
                refine bodyPost_ret (results_none rfl _ _ _) rfl ?_
                have hE := HO.out
                simp only [Bool.false_eq_true, if_false] at hE
                exact ⟨⟨_, rfl⟩, hE ▸ HJ3.out⟩
              | true =>
                have HLv1 := Aside0.mk (HL1.out rfl)
                simp only [if_true] at hO
                have HO := Aside0.mk hO
                clear hO h35 h59 h3
                go_wp2_with (first | (go_at_call 37; (with_reducible refine (HC.out (wrap64 (R : Int)) _).mono ?_); rintro e w4 ⟨rfl, hb4⟩; have HO4 := Aside0.mk (HO1.out.below (below_step (show Below W2.heap.size W2 _ from by repeat (first | (with_reducible first | exact Below.refl _ _ | apply below_alloc | apply pw_below_drewN | apply below_drew1) | exact Below.refl _ _)) hb4)); have HJ4 := Aside0.mk (HH.out.hJb _ _ _ HJ1.out (below_step (show Below W2.heap.size W2 _ from by repeat (first | (with_reducible first | exact Below.refl _ _ | apply below_alloc | apply pw_below_drewN | apply below_drew1) | exact Below.refl _ _)) hb4)); clear hb4) | (go_at_call 36; (with_reducible refine (own_flush2 HH.out fr pos (pos + K) st _ HO4.out HJ4.out HLv.out hfr hpl).mono ?_); rintro e w3 ⟨he, hj, ho⟩; rw [hrun] at he hj; subst he; have HJ3 := Aside0.mk hj; have HO3 := Aside0.mk ho; clear hj ho))
                go_roundg d
                case measure => omega
                case rel => exact ⟨pos + K, false, -1, st1, rfl, by omega, hw2, .inl rfl, HO3, HJ3, HLv1, HO⟩
            · rw [if_neg h3] at hO
              have c3 : (cls (wrap64 (R : Int)) == 3) = false := beq_eq_false_iff_ne.mpr h3
              by_cases hf : fr < 0
              · rw [if_pos hf] at hO
                have f0 : decide (fr < 0) = true := decide_eq_true hf
                have HO := Aside0.mk hO
                clear hO h35 h59 h3 hf
                go_wp2_with (go_at_call 37; (with_reducible refine (HC.out (wrap64 (R : Int)) _).mono ?_); rintro e w4 ⟨rfl, hb4⟩; have hbb := below_step (show Below W2.heap.size W2 _ from by repeat (first | (with_reducible first | exact Below.refl _ _ | apply below_alloc | apply pw_below_drewN | apply below_drew1) | exact Below.refl _ _)) hb4; have ho4 := HO1.out.below hbb; have cF4 := ho4.bF.cell; have fF4 := ho4.bF.frozen; have HO4 := Aside0.mk ho4; have HJ4 := Aside0.mk (HH.out.hJb _ _ _ HJ1.out hbb); clear hb4 hbb ho4)
                go_roundg d
                case measure => omega
                case rel => exact ⟨pos + K, false, (pos : Int), st, rfl, by omega, hw2, .inr ⟨by omega, by omega⟩, ⟨⟨(Below.heap_setCell _ ⟨Bf, 0, none⟩ _ Bs (fun e => HH.out.d1 e.symm)).trans HO4.out.bS, (Below.heap_setCell _ ⟨Bf, 0, none⟩ _ By (fun e => HH.out.d2 e.symm)).trans HO4.out.bY, Boxed.set _ HO4.out.bF, (Below.heap_setCell _ ⟨Bf, 0, none⟩ _ It (fun e => HH.out.d3 e.symm)).trans HO4.out.it⟩⟩, ⟨HH.out.hJf _ _ _ HJ4.out⟩, HLv, HO⟩
              · rw [if_neg hf] at hO
                have f0 : decide (fr < 0) = false := decide_eq_false hf
                have HO := Aside0.mk hO
                clear hO h35 h59 h3
                go_wp2_with (go_at_call 37; (with_reducible refine (HC.out (wrap64 (R : Int)) _).mono ?_); rintro e w4 ⟨rfl, hb4⟩; have hbb := below_step (show Below W2.heap.size W2 _ from by repeat (first | (with_reducible first | exact Below.refl _ _ | apply below_alloc | apply pw_below_drewN | apply below_drew1) | exact Below.refl _ _)) hb4; have ho4 := HO1.out.below hbb; have cF4 := ho4.bF.cell; have fF4 := ho4.bF.frozen; have HO4 := Aside0.mk ho4; have HJ4 := Aside0.mk (HH.out.hJb _ _ _ HJ1.out hbb); clear hb4 hbb ho4)
                go_roundg d
                case measure => omega
                case rel => exact ⟨pos + K, false, fr, st, rfl, by omega, hw2, by omega, HO4, HJ4, HLv, HO⟩
    · have hO := HO.out
      rw [pcG_end s cls gk pos rm fr hps] at hO
      have hnx : ∀ ty, (Instr.next (.pointer (some ⟨It, 0, none⟩)) true ty).run Tryd.prog wr = _ := fun ty => Lib.run_next_end_at wr It s pos ty HO0.out.it hps
      have HO2 := Aside0.mk hO
      have cS := HO0.out.bS.cell
      have hfr2 : fr = -1 ∨ (0 ≤ fr ∧ fr ≤ ((s.size : Nat) : Int)) := by omega
      clear hO HO hps hd hpl hfr
      go_wp2_with (go_at_call 36; (with_reducible refine (own_flush2 HH.out fr s.size pos st _ HO0.out HJ0.out HLv.out hfr2 (Nat.le_refl _)).mono ?_); rintro e w3 ⟨rfl, hj, ho⟩; have HJ3 := Aside0.mk hj; clear hj ho)
      have hE := HO2.out
      first | (refine bodyPost_end (results_none rfl _ _ _) rfl ?_; exact ⟨⟨_, rfl⟩, hE ▸ HJ3.out⟩) | (go_ret; exact ⟨⟨_, rfl⟩, hE ▸ HJ3.out⟩)
end

end Go.Proofs.YtfmbdmkiamedeaaDoor.PScenePrints
