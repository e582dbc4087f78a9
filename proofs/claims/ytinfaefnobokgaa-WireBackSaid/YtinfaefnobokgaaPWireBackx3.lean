-- Written by a patched print (wip/mkprint.py), for this claim.
import Derived.Test.YtinfaefnobokgaaPWireBackx0
import Derived.Test.YtinfaefnobokgaaPWireBackx1
import Derived.Test.YtinfaefnobokgaaPWireBackx2
namespace Go.Proofs.Ytinfaefnobokgaa.PWireBack
open Go.RowKit Go.Proofs.YtinfaefnobokgaaW.PrintWords Go.Proofs.YtinfaefnobokgaaW.PrintLast Go.Proofs.YtinfaefnobokgaaW.PrintMore
attribute [local go_sem] max2_int min2_int max_two min_two max_three min_three max_four min_four   -- for this text's walks alone
set_option linter.unusedVariables false
set_option linter.unusedSimpArgs false

/-! ### argosylaw08_WireBack: function 5 -/
mutual
def argosylaw08_WireBack.j0 : Nat → List Int → Int → List Int → List Int → Bool → Option (Bool)
  | 0, _, _, _, _, _ => none
  | k + 1, x0, x1, x2, x3, x37 => if x37 = true then ((argosylaw08_lives.f k).bind fun t170 => (some t170)) else ((wire_Put.f k x0 x1).bind fun bt171 => (if bt171.2 = 0 then ((some (([] : List Int) : List Int)).bind fun y175 => (if y175.length + bt171.1.length < 140737488355328 then ((some (y175 ++ bt171.1 : List Int)).bind fun y178 => (if y178.length + x3.length < 140737488355328 then ((wire_Take.f k (y178 ++ x3) (x0.length : Int)).bind fun bt184 => (if bt184.1 = x1 then (if bt184.2.1 = (bt171.1.length : Int) then (if bt184.2.2 = 0 then (argosylaw08_WireBack.j1 k x0 x2 x3 bt171.1 (decide ((bt171.1.length : Int) ≤ (x0.length : Int)))) else (argosylaw08_WireBack.j1 k x0 x2 x3 bt171.1 true)) else (argosylaw08_WireBack.j1 k x0 x2 x3 bt171.1 true)) else (argosylaw08_WireBack.j1 k x0 x2 x3 bt171.1 true))) else (none))) else (none))) else (if (bt171.1.length : Int) = 0 then (if bt171.2 = 2 then (argosylaw08_WireBack.j2 k x0 x2 x3) else (some false)) else (some false))))
def argosylaw08_WireBack.j2 : Nat → List Int → List Int → List Int → Option (Bool)
  | 0, _, _, _ => none
  | k + 1, x0, x2, x3 => (wire_Puts.f k x0 x2).bind fun bt194 => (if bt194.2 = 0 then ((some (([] : List Int) : List Int)).bind fun y199 => (if y199.length + bt194.1.length < 140737488355328 then ((some (y199 ++ bt194.1 : List Int)).bind fun y202 => (if y202.length + x3.length < 140737488355328 then ((wire_Takes.f k (y202 ++ x3) (x0.length : Int)).bind fun bt208 => ((argosyref01_Same.f k bt208.1 x2).bind fun t213 => (if t213 = true then (if bt208.2.1 = (bt194.1.length : Int) then (if bt208.2.2 = 0 then (argosylaw08_WireBack.j3 k x0 bt194.1 (decide ((bt194.1.length : Int) ≤ (x0.length : Int)))) else (argosylaw08_WireBack.j3 k x0 bt194.1 true)) else (argosylaw08_WireBack.j3 k x0 bt194.1 true)) else (argosylaw08_WireBack.j3 k x0 bt194.1 true)))) else (none))) else (none))) else (if (bt194.1.length : Int) = 0 then ((argosylaw08_lives.f k).bind fun t198 => (some t198)) else (some false)))
def argosylaw08_WireBack.j3 : Nat → List Int → List Int → Bool → Option (Bool)
  | 0, _, _, _ => none
  | k + 1, x0, x17, x146 => if x146 = true then (some false) else (if 0 ≤ (wrap64 ((x17.length : Int) - 1)) then (if (wrap64 ((x17.length : Int) - 1)) ≤ (x17.length : Int) then ((wire_Takes.f k (x17.take ((wrap64 ((x17.length : Int) - 1)) : Int).toNat) (x0.length : Int)).bind fun bt218 => (if bt218.2.2 = 3 then ((argosylaw08_lives.f k).bind fun t223 => (some t223)) else (some false))) else (none)) else (none))
def argosylaw08_WireBack.j1 : Nat → List Int → List Int → List Int → List Int → Bool → Option (Bool)
  | 0, _, _, _, _, _ => none
  | k + 1, x0, x2, x3, x9, x78 => if x78 = true then (some false) else (if 0 ≤ (wrap64 ((x9.length : Int) - 1)) then (if (wrap64 ((x9.length : Int) - 1)) ≤ (x9.length : Int) then ((wire_Take.f k (x9.take ((wrap64 ((x9.length : Int) - 1)) : Int).toNat) (x0.length : Int)).bind fun bt191 => (if bt191.2.2 = 3 then (argosylaw08_WireBack.j2 k x0 x2 x3) else (some false))) else (none)) else (none))
end
def argosylaw08_WireBack.f (k : Nat) (l0 : List Int) (a1 : Int) (l2 : List Int) (l3 : List Int) : Option (Bool) := if (l0.length : Int) > 2000 then (argosylaw08_WireBack.j0 k l0 a1 l2 l3 true) else (if (l3.length : Int) > 2000 then (argosylaw08_WireBack.j0 k l0 a1 l2 l3 true) else (argosylaw08_WireBack.j0 k l0 a1 l2 l3 (decide ((l2.length : Int) > 300))))
theorem argosylaw08_WireBack.mono_l : ∀ k, (∀ y0 y1 y2 y3 y4, LeO (argosylaw08_WireBack.j0 k y0 y1 y2 y3 y4) (argosylaw08_WireBack.j0 (k + 1) y0 y1 y2 y3 y4)) ∧ (∀ y0 y1 y2, LeO (argosylaw08_WireBack.j2 k y0 y1 y2) (argosylaw08_WireBack.j2 (k + 1) y0 y1 y2)) ∧ (∀ y0 y1 y2, LeO (argosylaw08_WireBack.j3 k y0 y1 y2) (argosylaw08_WireBack.j3 (k + 1) y0 y1 y2)) ∧ (∀ y0 y1 y2 y3 y4, LeO (argosylaw08_WireBack.j1 k y0 y1 y2 y3 y4) (argosylaw08_WireBack.j1 (k + 1) y0 y1 y2 y3 y4))
  | 0 => ⟨fun _ _ _ _ _ r h => by simp [argosylaw08_WireBack.j0] at h, fun _ _ _ r h => by simp [argosylaw08_WireBack.j2] at h, fun _ _ _ r h => by simp [argosylaw08_WireBack.j3] at h, fun _ _ _ _ _ r h => by simp [argosylaw08_WireBack.j1] at h⟩
  | k + 1 => by
    obtain ⟨ih0, ih1, ih2, ih3⟩ := argosylaw08_WireBack.mono_l k
    refine ⟨?_, ?_, ?_, ?_⟩
    · intro y0 y1 y2 y3 y4
      unfold argosylaw08_WireBack.j0
      repeat' first
      | (with_reducible exact ih0 _ _ _ _ _)
      | (with_reducible exact ih1 _ _ _)
      | (with_reducible exact ih2 _ _ _)
      | (with_reducible exact ih3 _ _ _ _ _)
      | (with_reducible exact argosylaw08_lives.mono _)
      | (with_reducible exact argosyref01_Same.mono _ _ _)
      | (with_reducible exact wire_Put.mono _ _ _)
      | (with_reducible exact wire_Puts.mono _ _ _)
      | (with_reducible exact wire_Take.mono _ _ _)
      | (with_reducible exact wire_Takes.mono _ _ _)
      | (with_reducible exact LeO.refl _)
      | (with_reducible exact LeO.none _)
      | (with_reducible refine LeO.ite ?_ ?_)
      | (with_reducible refine LeO.bind ?_ (fun _ => ?_))
      | exact ih0 _ _ _ _ _
      | exact ih1 _ _ _
      | exact ih2 _ _ _
      | exact ih3 _ _ _ _ _
      | exact argosylaw08_lives.mono _
      | exact argosyref01_Same.mono _ _ _
      | exact wire_Put.mono _ _ _
      | exact wire_Puts.mono _ _ _
      | exact wire_Take.mono _ _ _
      | exact wire_Takes.mono _ _ _
      | exact LeO.none _
      | refine LeO.ite ?_ ?_
      | refine LeO.bind ?_ (fun _ => ?_)
    · intro y0 y1 y2
      unfold argosylaw08_WireBack.j2
      repeat' first
      | (with_reducible exact ih0 _ _ _ _ _)
      | (with_reducible exact ih1 _ _ _)
      | (with_reducible exact ih2 _ _ _)
      | (with_reducible exact ih3 _ _ _ _ _)
      | (with_reducible exact argosylaw08_lives.mono _)
      | (with_reducible exact argosyref01_Same.mono _ _ _)
      | (with_reducible exact wire_Put.mono _ _ _)
      | (with_reducible exact wire_Puts.mono _ _ _)
      | (with_reducible exact wire_Take.mono _ _ _)
      | (with_reducible exact wire_Takes.mono _ _ _)
      | (with_reducible exact LeO.refl _)
      | (with_reducible exact LeO.none _)
      | (with_reducible refine LeO.ite ?_ ?_)
      | (with_reducible refine LeO.bind ?_ (fun _ => ?_))
      | exact ih0 _ _ _ _ _
      | exact ih1 _ _ _
      | exact ih2 _ _ _
      | exact ih3 _ _ _ _ _
      | exact argosylaw08_lives.mono _
      | exact argosyref01_Same.mono _ _ _
      | exact wire_Put.mono _ _ _
      | exact wire_Puts.mono _ _ _
      | exact wire_Take.mono _ _ _
      | exact wire_Takes.mono _ _ _
      | exact LeO.none _
      | refine LeO.ite ?_ ?_
      | refine LeO.bind ?_ (fun _ => ?_)
    · intro y0 y1 y2
      unfold argosylaw08_WireBack.j3
      repeat' first
      | (with_reducible exact ih0 _ _ _ _ _)
      | (with_reducible exact ih1 _ _ _)
      | (with_reducible exact ih2 _ _ _)
      | (with_reducible exact ih3 _ _ _ _ _)
      | (with_reducible exact argosylaw08_lives.mono _)
      | (with_reducible exact argosyref01_Same.mono _ _ _)
      | (with_reducible exact wire_Put.mono _ _ _)
      | (with_reducible exact wire_Puts.mono _ _ _)
      | (with_reducible exact wire_Take.mono _ _ _)
      | (with_reducible exact wire_Takes.mono _ _ _)
      | (with_reducible exact LeO.refl _)
      | (with_reducible exact LeO.none _)
      | (with_reducible refine LeO.ite ?_ ?_)
      | (with_reducible refine LeO.bind ?_ (fun _ => ?_))
      | exact ih0 _ _ _ _ _
      | exact ih1 _ _ _
      | exact ih2 _ _ _
      | exact ih3 _ _ _ _ _
      | exact argosylaw08_lives.mono _
      | exact argosyref01_Same.mono _ _ _
      | exact wire_Put.mono _ _ _
      | exact wire_Puts.mono _ _ _
      | exact wire_Take.mono _ _ _
      | exact wire_Takes.mono _ _ _
      | exact LeO.none _
      | refine LeO.ite ?_ ?_
      | refine LeO.bind ?_ (fun _ => ?_)
    · intro y0 y1 y2 y3 y4
      unfold argosylaw08_WireBack.j1
      repeat' first
      | (with_reducible exact ih0 _ _ _ _ _)
      | (with_reducible exact ih1 _ _ _)
      | (with_reducible exact ih2 _ _ _)
      | (with_reducible exact ih3 _ _ _ _ _)
      | (with_reducible exact argosylaw08_lives.mono _)
      | (with_reducible exact argosyref01_Same.mono _ _ _)
      | (with_reducible exact wire_Put.mono _ _ _)
      | (with_reducible exact wire_Puts.mono _ _ _)
      | (with_reducible exact wire_Take.mono _ _ _)
      | (with_reducible exact wire_Takes.mono _ _ _)
      | (with_reducible exact LeO.refl _)
      | (with_reducible exact LeO.none _)
      | (with_reducible refine LeO.ite ?_ ?_)
      | (with_reducible refine LeO.bind ?_ (fun _ => ?_))
      | exact ih0 _ _ _ _ _
      | exact ih1 _ _ _
      | exact ih2 _ _ _
      | exact ih3 _ _ _ _ _
      | exact argosylaw08_lives.mono _
      | exact argosyref01_Same.mono _ _ _
      | exact wire_Put.mono _ _ _
      | exact wire_Puts.mono _ _ _
      | exact wire_Take.mono _ _ _
      | exact wire_Takes.mono _ _ _
      | exact LeO.none _
      | refine LeO.ite ?_ ?_
      | refine LeO.bind ?_ (fun _ => ?_)
theorem argosylaw08_WireBack.mono : ∀ a0 a1 a2 a3 k, LeO (argosylaw08_WireBack.f k a0 a1 a2 a3) (argosylaw08_WireBack.f (k + 1) a0 a1 a2 a3) := by
  intro a0 a1 a2 a3 k
  obtain ⟨ih0, ih1, ih2, ih3⟩ := argosylaw08_WireBack.mono_l k
  unfold argosylaw08_WireBack.f
  repeat' first
      | (with_reducible exact ih0 _ _ _ _ _)
      | (with_reducible exact ih1 _ _ _)
      | (with_reducible exact ih2 _ _ _)
      | (with_reducible exact ih3 _ _ _ _ _)
      | (with_reducible exact argosylaw08_lives.mono _)
      | (with_reducible exact argosyref01_Same.mono _ _ _)
      | (with_reducible exact wire_Put.mono _ _ _)
      | (with_reducible exact wire_Puts.mono _ _ _)
      | (with_reducible exact wire_Take.mono _ _ _)
      | (with_reducible exact wire_Takes.mono _ _ _)
      | (with_reducible exact LeO.refl _)
      | (with_reducible exact LeO.none _)
      | (with_reducible refine LeO.ite ?_ ?_)
      | (with_reducible refine LeO.bind ?_ (fun _ => ?_))
      | exact ih0 _ _ _ _ _
      | exact ih1 _ _ _
      | exact ih2 _ _ _
      | exact ih3 _ _ _ _ _
      | exact argosylaw08_lives.mono _
      | exact argosyref01_Same.mono _ _ _
      | exact wire_Put.mono _ _ _
      | exact wire_Puts.mono _ _ _
      | exact wire_Take.mono _ _ _
      | exact wire_Takes.mono _ _ _
      | exact LeO.none _
      | refine LeO.ite ?_ ?_
      | refine LeO.bind ?_ (fun _ => ?_)
set_option maxHeartbeats 8000000 in
set_option maxRecDepth 100000 in
theorem argosylaw08_WireBack.calls (k : Nat) (A0 : Option Addr) (c0 : Nat) (l0 : List Int) (a1 : Int) (A2 : Option Addr) (c2 : Nat) (l2 : List Int) (A3 : Option Addr) (c3 : Nat) (l3 : List Int) (r : Bool) (w : World) (hr0 : Kd.C (Kd.int .u8) w A0 l0.length l0) (hc0 : l0.length ≤ c0) (hr2 : Kd.C (Kd.int .i64) w A2 l2.length l2) (hc2 : l2.length ≤ c2) (hr3 : Kd.C (Kd.int .u8) w A3 l3.length l3) (hc3 : l3.length ≤ c3) (h : argosylaw08_WireBack.f k l0 a1 l2 l3 = some r) :
    Calls Try.prog 5 #[.slice A0 l0.length c0, .int .i64 a1, .slice A2 l2.length c2, .slice A3 l3.length c3] w fun e w' => e = .returned (.bool r) ∧ Below w.heap.size w w' := by
  have HR0 := Aside0.mk hr0
  have HC0 := Aside0.mk hc0
  clear hr0 hc0
  have HR2 := Aside0.mk hr2
  have HC2 := Aside0.mk hc2
  clear hr2 hc2
  have HR3 := Aside0.mk hr3
  have HC3 := Aside0.mk hc3
  clear hr3 hc3
  have HB := Aside0.mk (Below.refl w.heap.size w)
  have H : (if (l0.length : Int) > 2000 then (argosylaw08_WireBack.j0 k l0 a1 l2 l3 true) else (if (l3.length : Int) > 2000 then (argosylaw08_WireBack.j0 k l0 a1 l2 l3 true) else (argosylaw08_WireBack.j0 k l0 a1 l2 l3 (decide ((l2.length : Int) > 300))))) = some r := h
  clear h
  have HC5 := Aside0.mk H
  clear H
  go_enter Try.func5, Try.ntmps5
  go_upto_region 1 with (fail)
  go_cut [37] (fun v37 wc => ∃ (kq : Nat) (x37_4 : Bool), v37 = .bool x37_4 ∧ Aside0 (argosylaw08_WireBack.j0 kq l0 a1 l2 l3 x37_4 = some r) ∧ Aside0 (kq ≤ k) ∧ Aside0 (Below w.heap.size w wc))
  case first =>
    have H := HC5.out
    clear HC5
    by_cases c6 : (l0.length : Int) > 2000
    · rw [if_pos c6] at H
      have c6b0 : decide (2000 < (l0.length : Int)) = true := decide_eq_true c6
      have c6b1 : decide (2000 < l0.length) = true := decide_eq_true (by omega)
      clear c6
      (first | rw [c6b0] | (simp only [i64_w, i32_w]; rw [c6b0]) | skip)
      have H' := Aside0.mk H
      clear H
      go_wp2
      go_meet
      case rel => exact ⟨_, (true), (by first | rfl | (simp; done) | (simp [*]; done)), H', ⟨by first | omega | exact Nat.le_refl _⟩, ⟨by repeat (first | (with_reducible first | exact HB.out | apply below_alloc | apply pw_below_drewN | apply below_drew1) | exact HB.out)⟩⟩
    · rw [if_neg c6] at H
      have c6b0 : decide (2000 < (l0.length : Int)) = false := decide_eq_false c6
      have c6b1 : decide (2000 < l0.length) = false := decide_eq_false (by omega)
      clear c6
      (first | rw [c6b0] | (simp only [i64_w, i32_w]; rw [c6b0]) | skip)
      by_cases c7 : (l3.length : Int) > 2000
      · rw [if_pos c7] at H
        have c7b0 : decide (2000 < (l3.length : Int)) = true := decide_eq_true c7
        have c7b1 : decide (2000 < l3.length) = true := decide_eq_true (by omega)
        clear c7
        have H' := Aside0.mk H
        clear H
        go_wp2
        go_meet
        case rel => exact ⟨_, (true), (by first | rfl | (simp; done) | (simp [*]; done)), H', ⟨by first | omega | exact Nat.le_refl _⟩, ⟨by repeat (first | (with_reducible first | exact HB.out | apply below_alloc | apply pw_below_drewN | apply below_drew1) | exact HB.out)⟩⟩
      · rw [if_neg c7] at H
        have c7b0 : decide (2000 < (l3.length : Int)) = false := decide_eq_false c7
        have c7b1 : decide (2000 < l3.length) = false := decide_eq_false (by omega)
        clear c7
        have H' := Aside0.mk H
        clear H
        go_wp2
        go_meet
        case rel => exact ⟨_, (decide ((l2.length : Int) > 300)), (by first | rfl | (simp; done) | (simp [*]; done)), H', ⟨by first | omega | exact Nat.le_refl _⟩, ⟨by repeat (first | (with_reducible first | exact HB.out | apply below_alloc | apply pw_below_drewN | apply below_drew1) | exact HB.out)⟩⟩
  case rest =>
    clear HC5
    try clear c2
    try clear p2
    try clear c3
    try clear c5
    try clear c6
    try clear c6b0
    try clear c6b1
    try clear c7
    try clear c7b0
    try clear c7b1
    obtain ⟨kq, x37_4, rfl, HA, HJ4, HB⟩ := hcut
    cases kq with
    | zero => exact absurd HA.out (by simp [argosylaw08_WireBack.j0])
    | succ kj4 =>
      have H := HA.out
      clear HA
      simp only [argosylaw08_WireBack.j0] at H
      by_cases c8 : x37_4 = true
      · subst c8
        have H1 : ((argosylaw08_lives.f kj4).bind fun t170 => (some t170)) = some r := by rw [if_pos rfl] at H; exact H
        clear H
        have H := H1
        clear H1
        replace H := Option.bind_eq_some_iff.mp H
        obtain ⟨t170, A90, H⟩ := H
        replace H : (some t170) = some r := H
        have A9 := Aside0.mk A90
        clear A90
        obtain rfl := Option.some.inj H
        go_wp2_with (first | ((with_reducible refine gate_callee (f := 8) rfl ?_); refine goesL_ (some 38) rfl rfl Try.func8 (by kernel_rfl) rfl #[] rfl (by (try simp only [List.map_toArray, List.map_cons, List.map_nil]); first | done | rfl | (simp only [List.length_drop, List.length_take]; rfl)) ?_; (with_reducible refine (argosylaw08_lives.calls kj4  t170 _ A9.out).mono ?_); rintro e w10 ⟨rfl, hb⟩; refine ⟨_, rfl, ?_⟩; have n0_ := Aside0.mk (below_step (by repeat (first | (with_reducible first | exact HB.out | apply below_alloc | apply pw_below_drewN | apply below_drew1) | exact HB.out)) hb); clear HB; have HB := n0_; clear n0_; (try clear hb); (try clear hb2); (try clear hk); (try clear hi)))
        go_ret
        exact ⟨by first | rfl | (simp [errW_none, errW_some] <;> rfl) | (simp [*, errW_none, errW_some] <;> rfl), by repeat (first | (with_reducible first | exact HB.out | apply below_alloc | apply pw_below_drewN | apply below_drew1) | exact HB.out)⟩
      · replace c8 := Bool.eq_false_iff.mpr c8
        subst c8
        have H1 : ((wire_Put.f kj4 l0 a1).bind fun bt171 => (if bt171.2 = 0 then ((some (([] : List Int) : List Int)).bind fun y175 => (if y175.length + bt171.1.length < 140737488355328 then ((some (y175 ++ bt171.1 : List Int)).bind fun y178 => (if y178.length + l3.length < 140737488355328 then ((wire_Take.f kj4 (y178 ++ l3) (l0.length : Int)).bind fun bt184 => (if bt184.1 = a1 then (if bt184.2.1 = (bt171.1.length : Int) then (if bt184.2.2 = 0 then (argosylaw08_WireBack.j1 kj4 l0 l2 l3 bt171.1 (decide ((bt171.1.length : Int) ≤ (l0.length : Int)))) else (argosylaw08_WireBack.j1 kj4 l0 l2 l3 bt171.1 true)) else (argosylaw08_WireBack.j1 kj4 l0 l2 l3 bt171.1 true)) else (argosylaw08_WireBack.j1 kj4 l0 l2 l3 bt171.1 true))) else (none))) else (none))) else (if (bt171.1.length : Int) = 0 then (if bt171.2 = 2 then (argosylaw08_WireBack.j2 kj4 l0 l2 l3) else (some false)) else (some false)))) = some r := by rw [if_neg (show ¬ (false = true) by decide)] at H; exact H
        clear H
        have H := H1
        clear H1
        replace H := Option.bind_eq_some_iff.mp H
        obtain ⟨⟨t171, t172⟩, A110, H⟩ := H
        replace H : (if t172 = 0 then ((some (([] : List Int) : List Int)).bind fun y175 => (if y175.length + t171.length < 140737488355328 then ((some (y175 ++ t171 : List Int)).bind fun y178 => (if y178.length + l3.length < 140737488355328 then ((wire_Take.f kj4 (y178 ++ l3) (l0.length : Int)).bind fun bt184 => (if bt184.1 = a1 then (if bt184.2.1 = (t171.length : Int) then (if bt184.2.2 = 0 then (argosylaw08_WireBack.j1 kj4 l0 l2 l3 t171 (decide ((t171.length : Int) ≤ (l0.length : Int)))) else (argosylaw08_WireBack.j1 kj4 l0 l2 l3 t171 true)) else (argosylaw08_WireBack.j1 kj4 l0 l2 l3 t171 true)) else (argosylaw08_WireBack.j1 kj4 l0 l2 l3 t171 true))) else (none))) else (none))) else (if (t171.length : Int) = 0 then (if t172 = 2 then (argosylaw08_WireBack.j2 kj4 l0 l2 l3) else (some false)) else (some false))) = some r := H
        have A11 := Aside0.mk A110
        clear A110
        have HC12 := Aside0.mk H
        clear H
        go_upto_if 46 with (first | ((with_reducible refine gate_callee (f := 9) rfl ?_); refine goesL_ (some 42) rfl rfl Try.func9 (by kernel_rfl) rfl #[.slice A0 l0.length c0, .int .i64 a1] rfl (by (try simp only [List.map_toArray, List.map_cons, List.map_nil]); first | done | rfl | (simp only [List.length_drop, List.length_take]; rfl)) ?_; (with_reducible refine (wire_Put.calls kj4 _ _ l0 a1 t171 t172 _ ?side1 ?side2 A11.out).mono ?_); (case side1 => repeat (first | exact (Kd.C_below HR0.out HB.out) | (with_reducible refine Kd.C_alloc ?_ _) | (with_reducible refine Kd.C_drewN ?_ _) | (with_reducible refine Kd.C_drew ?_))); (case side2 => exact HC0.out); rintro e w13 ⟨v173, rfl, ho0, hb⟩; refine ⟨_, rfl, ?_⟩; have n0_ := Aside0.mk (Kd.R_lower ho0 (below_size (by repeat (first | (with_reducible first | exact HB.out | apply below_alloc | apply pw_below_drewN | apply below_drew1) | exact HB.out)))); have n1_ := Aside0.mk (below_step (by repeat (first | (with_reducible first | exact HB.out | apply below_alloc | apply pw_below_drewN | apply below_drew1) | exact HB.out)) hb); clear HB; have HO174 := n0_; have HB := n1_; clear n0_ n1_; (try clear hb); (try clear hb2); (try clear hk); (try clear hi); (try clear ho0)))
        (try simp only [Act.put, List.setIfInBounds_toArray, List.set_cons_zero, List.set_cons_succ])
        go_cut [] (fun wc => ∃ (kq : Nat), Aside0 (argosylaw08_WireBack.j2 kq l0 l2 l3 = some r) ∧ Aside0 (kq ≤ kj4) ∧ Aside0 (Below w.heap.size w wc))
        case first =>
          have H := HC12.out
          clear HC12
          by_cases c14 : t172 = 0
          · rw [if_pos c14] at H
            have c14b0 : (t172 == 0) = true := beq_iff_eq.mpr c14
            have c14b1 : (t172 != 0) = false := bne_eq_false_iff_eq.mpr c14
            clear c14
            (first | rw [c14b0] | (simp only [i64_w, i32_w]; rw [c14b0]) | skip)
            obtain ⟨y175, hy175⟩ : ∃ y_ : List Int, y_ = (([] : List Int)) := ⟨_, rfl⟩
            replace H : (if y175.length + t171.length < 140737488355328 then ((some (y175 ++ t171 : List Int)).bind fun y178 => (if y178.length + l3.length < 140737488355328 then ((wire_Take.f kj4 (y178 ++ l3) (l0.length : Int)).bind fun bt184 => (if bt184.1 = a1 then (if bt184.2.1 = (t171.length : Int) then (if bt184.2.2 = 0 then (argosylaw08_WireBack.j1 kj4 l0 l2 l3 t171 (decide ((t171.length : Int) ≤ (l0.length : Int)))) else (argosylaw08_WireBack.j1 kj4 l0 l2 l3 t171 true)) else (argosylaw08_WireBack.j1 kj4 l0 l2 l3 t171 true)) else (argosylaw08_WireBack.j1 kj4 l0 l2 l3 t171 true))) else (none))) else (none)) = some r := by first | (rw [hy175]; with_reducible exact H) | (have H2_ := (Option.bind_some _ _).symm.trans H; rw [hy175]; with_reducible exact H2_) | (have H2_ := (Option.bind_some _ _).symm.trans H; with_reducible exact H2_) | with_reducible exact H | (rw [hy175]; exact H) | exact H
            have Ny175 := Aside0.mk hy175
            clear hy175
            by_cases c15 : y175.length + t171.length < 140737488355328
            · rw [if_pos c15] at H
              have LMc15 := Aside0.mk c15
              clear c15
              obtain ⟨y178, hy178⟩ : ∃ y_ : List Int, y_ = (y175 ++ t171) := ⟨_, rfl⟩
              replace H : (if y178.length + l3.length < 140737488355328 then ((wire_Take.f kj4 (y178 ++ l3) (l0.length : Int)).bind fun bt184 => (if bt184.1 = a1 then (if bt184.2.1 = (t171.length : Int) then (if bt184.2.2 = 0 then (argosylaw08_WireBack.j1 kj4 l0 l2 l3 t171 (decide ((t171.length : Int) ≤ (l0.length : Int)))) else (argosylaw08_WireBack.j1 kj4 l0 l2 l3 t171 true)) else (argosylaw08_WireBack.j1 kj4 l0 l2 l3 t171 true)) else (argosylaw08_WireBack.j1 kj4 l0 l2 l3 t171 true))) else (none)) = some r := by first | (rw [hy178]; with_reducible exact H) | (have H2_ := (Option.bind_some _ _).symm.trans H; rw [hy178]; with_reducible exact H2_) | (have H2_ := (Option.bind_some _ _).symm.trans H; with_reducible exact H2_) | with_reducible exact H | (rw [hy178]; exact H) | exact H
              have Ny178 := Aside0.mk hy178
              clear hy178
              by_cases c16 : y178.length + l3.length < 140737488355328
              · rw [if_pos c16] at H
                have LMc16 := Aside0.mk c16
                clear c16
                obtain ⟨y181, hy181⟩ : ∃ y_ : List Int, y_ = (y178 ++ l3) := ⟨_, rfl⟩
                replace H : ((wire_Take.f kj4 y181 (l0.length : Int)).bind fun bt184 => (if bt184.1 = a1 then (if bt184.2.1 = (t171.length : Int) then (if bt184.2.2 = 0 then (argosylaw08_WireBack.j1 kj4 l0 l2 l3 t171 (decide ((t171.length : Int) ≤ (l0.length : Int)))) else (argosylaw08_WireBack.j1 kj4 l0 l2 l3 t171 true)) else (argosylaw08_WireBack.j1 kj4 l0 l2 l3 t171 true)) else (argosylaw08_WireBack.j1 kj4 l0 l2 l3 t171 true))) = some r := by first | (rw [hy181]; with_reducible exact H) | (have H2_ := (Option.bind_some _ _).symm.trans H; rw [hy181]; with_reducible exact H2_) | (have H2_ := (Option.bind_some _ _).symm.trans H; with_reducible exact H2_) | with_reducible exact H | (rw [hy181]; exact H) | exact H
                have Ny181 := Aside0.mk hy181
                clear hy181
                replace H := Option.bind_eq_some_iff.mp H
                obtain ⟨⟨t184, t185, t186⟩, A170, H⟩ := H
                replace H : (if t184 = a1 then (if t185 = (t171.length : Int) then (if t186 = 0 then (argosylaw08_WireBack.j1 kj4 l0 l2 l3 t171 (decide ((t171.length : Int) ≤ (l0.length : Int)))) else (argosylaw08_WireBack.j1 kj4 l0 l2 l3 t171 true)) else (argosylaw08_WireBack.j1 kj4 l0 l2 l3 t171 true)) else (argosylaw08_WireBack.j1 kj4 l0 l2 l3 t171 true)) = some r := H
                have A17 := Aside0.mk A170
                clear A170
                have HC18 := Aside0.mk H
                clear H
                go_upto_region 6 with (first | ((with_reducible refine gate_dst (N := 48) rfl ?_); (try (refine gate_guard (by rfl) ?_; dsimp only)); refine Kd.R_lit (Kd.int .u8) _ 5 ?hg (N := 48) ?hd (xs := ([] : List Int)) (inner := []) (ok := fun _ => True) (okp := fun _ => True) ?hr ?hp (fun _ hk => hk) trivial (Below.refl _ _) (Nat.le_refl _) (by simp) ?_; (case hd => rfl); (case hg => rfl); (case hr => first | (go_simp; done) | (go_simp; rfl)); (case hp => exact (Reps.none _ _)); intro v176 w19 ho20 hb hg_ hnew_; clear hg_ hnew_; (first | rw [← Ny175.out] at ho20 | (simp only [Int.reduceToNat] at ho20; rw [← Ny175.out] at ho20)); have n0_ := Aside0.mk (Kd.R_elder' (by (with_reducible repeat (first | apply Kd.R_alloc | apply Kd.R_drewN | apply Kd.R_drew)); exact HO174.out) (Kd.R_base ho20) hb); have n1_ := Aside0.mk (Kd.R_lower (Kd.R_new' ho20 (Kd.R_lt (by (with_reducible repeat (first | apply Kd.R_alloc | apply Kd.R_drewN | apply Kd.R_drew)); exact HO174.out))) (below_size (by repeat (first | (with_reducible first | exact HB.out | apply below_alloc | apply pw_below_drewN | apply below_drew1) | exact HB.out)))); have n2_ := Aside0.mk (below_step (by repeat (first | (with_reducible first | exact HB.out | apply below_alloc | apply pw_below_drewN | apply below_drew1) | exact HB.out)) hb); clear HO174; clear HB; have HO174 := n0_; have HO177 := n1_; have HB := n2_; clear n0_ n1_ n2_; clear hb ho20; obtain ⟨Ao22, co22, eo22⟩ := Kd.R_slice HO174.out; subst eo22) | ((with_reducible refine gate_builtin (b := .append) (xs := #[.tmp 48, .tmp 49]) rfl ?_); (try (refine gate_guard (by rfl) ?_; dsimp only)); at_builtin; refine Kd.R_append_rows (Kd.int .u8) (w0 := w) w.heap.size rfl (.tmp 48) (.tmp 49) 22 5 (.int .u8 0) 1 rfl Try.underlying22 info5 rfl (by decide) (by omega) v176 y175 t171 _ _ _ (fun k_ => some k_ ≠ (.slice Ao22 t171.length co22 : Value).ownBlock) (fun _ => False) rfl rfl ?aO ?aR (fun _ _ h => h) (fun _ h => h.elim) ?aF ?aB ?aS ?aL ?_; (case aR => repeat (first | exact (Kd.R_reads' HO174.out).2.2 | (with_reducible refine Kd.C_alloc ?_ _) | (with_reducible refine Kd.C_drewN ?_ _) | (with_reducible refine Kd.C_drew ?_))); (case aB => exact (by repeat (first | (with_reducible first | exact HB.out | apply below_alloc | apply pw_below_drewN | apply below_drew1) | exact HB.out))); (case aF => exact (fun k_ hk => Kd.fresh' (Kd.R_lt (by (with_reducible repeat (first | apply Kd.R_alloc | apply Kd.R_drewN | apply Kd.R_drew)); exact HO174.out)) k_ hk)); (case aO => exact (by (with_reducible repeat (first | apply Kd.R_alloc | apply Kd.R_drewN | apply Kd.R_drew)); exact Kd.R_mono HO177.out (fun _ hk => hk.2))); (case aS => exact (below_size (by repeat (first | (with_reducible first | exact HB.out | apply below_alloc | apply pw_below_drewN | apply below_drew1) | exact HB.out)))); (case aL => have := LMc15.out; omega); intro v179 w21 ho hb hg hat; rw [← Ny178.out] at ho; have n0_ := Aside0.mk (Kd.R_after (ok := (fun _ => True)) (by (with_reducible repeat (first | apply Kd.R_alloc | apply Kd.R_drewN | apply Kd.R_drew)); exact HO174.out) hg hat); have n1_ := Aside0.mk (hb); have n2_ := Aside0.mk (ho); clear HO174; clear HB; clear HO177; have HO174 := n0_; have HB := n1_; have HO180 := n2_; clear n0_ n1_ n2_; clear ho hb hg hat) | ((with_reducible refine gate_builtin (b := .append) (xs := #[.tmp 50, .tmp 51]) rfl ?_); (try (refine gate_guard (by rfl) ?_; dsimp only)); at_builtin; refine Kd.R_append_rows (Kd.int .u8) (w0 := w) w.heap.size rfl (.tmp 50) (.tmp 51) 22 5 (.int .u8 0) 1 rfl Try.underlying22 info5 rfl (by decide) (by omega) v179 y178 l3 _ _ _ (fun k_ => some k_ ≠ (.slice Ao22 t171.length co22 : Value).ownBlock) (fun _ => False) rfl rfl ?aO ?aR (fun _ _ h => h) (fun _ h => h.elim) ?aF ?aB ?aS ?aL ?_; (case aR => repeat (first | exact (Kd.C_below HR3.out HB.out) | (with_reducible refine Kd.C_alloc ?_ _) | (with_reducible refine Kd.C_drewN ?_ _) | (with_reducible refine Kd.C_drew ?_))); (case aB => exact (by repeat (first | (with_reducible first | exact HB.out | apply below_alloc | apply pw_below_drewN | apply below_drew1) | exact HB.out))); (case aF => exact (fun k_ hk => Kd.fresh' (Kd.R_lt (by (with_reducible repeat (first | apply Kd.R_alloc | apply Kd.R_drewN | apply Kd.R_drew)); exact HO174.out)) k_ hk)); (case aO => exact (by (with_reducible repeat (first | apply Kd.R_alloc | apply Kd.R_drewN | apply Kd.R_drew)); exact HO180.out)); (case aS => exact (below_size (by repeat (first | (with_reducible first | exact HB.out | apply below_alloc | apply pw_below_drewN | apply below_drew1) | exact HB.out)))); (case aL => have := LMc16.out; omega); intro v182 w23 ho hb hg hat; rw [← Ny181.out] at ho; have n0_ := Aside0.mk (Kd.R_after (ok := (fun _ => True)) (by (with_reducible repeat (first | apply Kd.R_alloc | apply Kd.R_drewN | apply Kd.R_drew)); exact HO174.out) hg hat); have n1_ := Aside0.mk (hb); have n2_ := Aside0.mk (ho); clear HO174; clear HB; clear HO180; have HO174 := n0_; have HB := n1_; have HO183 := n2_; clear n0_ n1_ n2_; clear ho hb hg hat; obtain ⟨Ao24, co24, eo24⟩ := Kd.R_slice HO183.out; subst eo24) | ((with_reducible refine gate_callee (f := 13) rfl ?_); refine goesL_ (some 55) rfl rfl Try.func13 (by kernel_rfl) rfl #[.slice Ao24 y181.length co24, .int .i64 (l0.length : Int)] rfl (by (try simp only [List.map_toArray, List.map_cons, List.map_nil]); first | done | rfl | (simp only [List.length_drop, List.length_take]; rfl)) ?_; (with_reducible refine (wire_Take.calls kj4 _ _ y181 (l0.length : Int) t184 t185 t186 _ ?side1 ?side2 A17.out).mono ?_); (case side1 => repeat (first | exact (Kd.R_reads' HO183.out).2.2 | (with_reducible refine Kd.C_alloc ?_ _) | (with_reducible refine Kd.C_drewN ?_ _) | (with_reducible refine Kd.C_drew ?_))); (case side2 => exact (Kd.R_reads' HO183.out).2.1); rintro e w' ⟨rfl, ⟨nd, rfl⟩⟩; refine ⟨_, rfl, ?_⟩))
                (try simp only [Act.put, List.setIfInBounds_toArray, List.set_cons_zero, List.set_cons_succ])
                go_cut [78] (fun v78 wc => ∃ (kq : Nat) (x78_17 : Bool), v78 = .bool x78_17 ∧ Aside0 (argosylaw08_WireBack.j1 kq l0 l2 l3 t171 x78_17 = some r) ∧ Aside0 (kq ≤ kj4) ∧ Aside0 (Kd.R (Kd.int .u8) 5 wc w.heap.size (fun _ => True) (.slice Ao22 t171.length co22) t171) ∧ Aside0 (Below w.heap.size w wc))
                case first =>
                  have H := HC18.out
                  clear HC18
                  by_cases c25 : t184 = a1
                  · rw [if_pos c25] at H
                    have c25b0 : (t184 == a1) = true := beq_iff_eq.mpr c25
                    have c25b1 : (t184 != a1) = false := bne_eq_false_iff_eq.mpr c25
                    clear c25
                    (first | rw [c25b0] | (simp only [i64_w, i32_w]; rw [c25b0]) | skip)
                    by_cases c26 : t185 = (t171.length : Int)
                    · rw [if_pos c26] at H
                      have c26b0 : (t185 == (t171.length : Int)) = true := beq_iff_eq.mpr c26
                      have c26b1 : (t185 != (t171.length : Int)) = false := bne_eq_false_iff_eq.mpr c26
                      clear c26
                      by_cases c27 : t186 = 0
                      · rw [if_pos c27] at H
                        have c27b0 : (t186 == 0) = true := beq_iff_eq.mpr c27
                        have c27b1 : (t186 != 0) = false := bne_eq_false_iff_eq.mpr c27
                        clear c27
                        have H' := Aside0.mk H
                        clear H
                        go_wp2
                        go_meet
                        case rel => exact ⟨_, (decide ((t171.length : Int) ≤ (l0.length : Int))), (by first | rfl | (simp; done) | (simp [*]; done)), H', ⟨by have := HJ4.out; first | omega | exact Nat.le_refl _⟩, ⟨by (with_reducible repeat (first | apply Kd.R_alloc | apply Kd.R_drewN | apply Kd.R_drew)); exact Kd.R_mono HO174.out (fun _ hk => trivial)⟩, ⟨by repeat (first | (with_reducible first | exact HB.out | apply below_alloc | apply pw_below_drewN | apply below_drew1) | exact HB.out)⟩⟩
                      · rw [if_neg c27] at H
                        have c27b0 : (t186 == 0) = false := beq_eq_false_iff_ne.mpr c27
                        have c27b1 : (t186 != 0) = true := bne_iff_ne.mpr c27
                        have H' := Aside0.mk H
                        clear H
                        go_wp2
                        go_meet
                        case rel => exact ⟨_, (true), (by first | rfl | (simp; done) | (simp [*]; done)), H', ⟨by have := HJ4.out; first | omega | exact Nat.le_refl _⟩, ⟨by (with_reducible repeat (first | apply Kd.R_alloc | apply Kd.R_drewN | apply Kd.R_drew)); exact Kd.R_mono HO174.out (fun _ hk => trivial)⟩, ⟨by repeat (first | (with_reducible first | exact HB.out | apply below_alloc | apply pw_below_drewN | apply below_drew1) | exact HB.out)⟩⟩
                    · rw [if_neg c26] at H
                      have c26b0 : (t185 == (t171.length : Int)) = false := beq_eq_false_iff_ne.mpr c26
                      have c26b1 : (t185 != (t171.length : Int)) = true := bne_iff_ne.mpr c26
                      have H' := Aside0.mk H
                      clear H
                      go_wp2
                      go_meet
                      case rel => exact ⟨_, (true), (by first | rfl | (simp; done) | (simp [*]; done)), H', ⟨by have := HJ4.out; first | omega | exact Nat.le_refl _⟩, ⟨by (with_reducible repeat (first | apply Kd.R_alloc | apply Kd.R_drewN | apply Kd.R_drew)); exact Kd.R_mono HO174.out (fun _ hk => trivial)⟩, ⟨by repeat (first | (with_reducible first | exact HB.out | apply below_alloc | apply pw_below_drewN | apply below_drew1) | exact HB.out)⟩⟩
                  · rw [if_neg c25] at H
                    have c25b0 : (t184 == a1) = false := beq_eq_false_iff_ne.mpr c25
                    have c25b1 : (t184 != a1) = true := bne_iff_ne.mpr c25
                    (first | rw [c25b0] | (simp only [i64_w, i32_w]; rw [c25b0]) | skip)
                    have H' := Aside0.mk H
                    clear H
                    go_wp2
                    go_meet
                    case rel => exact ⟨_, (true), (by first | rfl | (simp; done) | (simp [*]; done)), H', ⟨by have := HJ4.out; first | omega | exact Nat.le_refl _⟩, ⟨by (with_reducible repeat (first | apply Kd.R_alloc | apply Kd.R_drewN | apply Kd.R_drew)); exact Kd.R_mono HO174.out (fun _ hk => trivial)⟩, ⟨by repeat (first | (with_reducible first | exact HB.out | apply below_alloc | apply pw_below_drewN | apply below_drew1) | exact HB.out)⟩⟩
                case rest =>
                  clear HC18
                  try clear c1
                  try clear c2
                  try clear p2
                  try clear c3
                  try clear c5
                  try clear c6
                  try clear c6b0
                  try clear c6b1
                  try clear c7
                  try clear c7b0
                  try clear c7b1
                  try clear c8
                  try clear c9
                  try clear c13
                  try clear c14
                  try clear c14b0
                  try clear c14b1
                  try clear c15
                  try clear c16
                  try clear c25
                  try clear c25b0
                  try clear c25b1
                  try clear c26
                  try clear c26b0
                  try clear c26b1
                  try clear c27
                  try clear c27b0
                  try clear c27b1
                  try clear p2
                  obtain ⟨kq, x78_17, rfl, HA, HJ17, HO_9, HB⟩ := hcut
                  cases kq with
                  | zero => exact absurd HA.out (by simp [argosylaw08_WireBack.j1])
                  | succ kj17 =>
                    have H := HA.out
                    clear HA
                    simp only [argosylaw08_WireBack.j1] at H
                    by_cases c28 : x78_17 = true
                    · subst c28
                      have H1 : (some false) = some r := by rw [if_pos rfl] at H; exact H
                      clear H
                      have H := H1
                      clear H1
                      obtain rfl := Option.some.inj H
                      go_wp2
                      go_ret
                      exact ⟨by first | rfl | (simp [errW_none, errW_some] <;> rfl) | (simp [*, errW_none, errW_some] <;> rfl), by repeat (first | (with_reducible first | exact HB.out | apply below_alloc | apply pw_below_drewN | apply below_drew1) | exact HB.out)⟩
                    · replace c28 := Bool.eq_false_iff.mpr c28
                      subst c28
                      have H1 : (if 0 ≤ (wrap64 ((t171.length : Int) - 1)) then (if (wrap64 ((t171.length : Int) - 1)) ≤ (t171.length : Int) then ((wire_Take.f kj17 (t171.take ((wrap64 ((t171.length : Int) - 1)) : Int).toNat) (l0.length : Int)).bind fun bt191 => (if bt191.2.2 = 3 then (argosylaw08_WireBack.j2 kj17 l0 l2 l3) else (some false))) else (none)) else (none)) = some r := by rw [if_neg (show ¬ (false = true) by decide)] at H; exact H
                      clear H
                      have H := H1
                      clear H1
                      obtain ⟨ji29, hji29⟩ : ∃ j_ : Int, (wrap64 ((t171.length : Int) - 1)) = j_ := ⟨_, rfl⟩
                      replace H : (if 0 ≤ (ji29) then (if (ji29) ≤ (t171.length : Int) then ((wire_Take.f kj17 (t171.take ((ji29) : Int).toNat) (l0.length : Int)).bind fun bt191 => (if bt191.2.2 = 3 then (argosylaw08_WireBack.j2 kj17 l0 l2 l3) else (some false))) else (none)) else (none)) = some r := by first | (rw [hji29] at H; exact H) | (simp only [hji29] at H ⊢; exact H)
                      have hji29w : (IntKind.i64.wrap ((t171.length : Int) - 1)) = ji29 := (i64_w _).trans hji29
                      by_cases c30 : 0 ≤ (ji29)
                      · rw [if_pos c30] at H
                        have c30b0 := eq_true c30
                        have c30b1 : decide (0 ≤ (ji29)) = true := decide_eq_true c30
                        clear c30
                        by_cases c31 : (ji29) ≤ (t171.length : Int)
                        · rw [if_pos c31] at H
                          have c31b0 := eq_true c31
                          have c31b1 : decide ((ji29) ≤ (t171.length : Int)) = true := decide_eq_true c31
                          clear c31
                          obtain ⟨y187, hy187⟩ : ∃ y_ : List Int, y_ = (t171.take ((ji29) : Int).toNat) := ⟨_, rfl⟩
                          replace H : ((wire_Take.f kj17 y187 (l0.length : Int)).bind fun bt191 => (if bt191.2.2 = 3 then (argosylaw08_WireBack.j2 kj17 l0 l2 l3) else (some false))) = some r := by first | (rw [hy187]; with_reducible exact H) | (have H2_ := (Option.bind_some _ _).symm.trans H; rw [hy187]; with_reducible exact H2_) | (have H2_ := (Option.bind_some _ _).symm.trans H; with_reducible exact H2_) | with_reducible exact H | (rw [hy187]; exact H) | exact H
                          have Ny187 := Aside0.mk hy187
                          clear hy187
                          replace H := Option.bind_eq_some_iff.mp H
                          obtain ⟨⟨t191, t192, t193⟩, A320, H⟩ := H
                          replace H : (if t193 = 3 then (argosylaw08_WireBack.j2 kj17 l0 l2 l3) else (some false)) = some r := H
                          have A32 := Aside0.mk A320
                          clear A320
                          by_cases c33 : t193 = 3
                          · rw [if_pos c33] at H
                            have c33b0 : (t193 == 3) = true := beq_iff_eq.mpr c33
                            have c33b1 : (t193 != 3) = false := bne_eq_false_iff_eq.mpr c33
                            clear c33
                            have H' := Aside0.mk H
                            clear H
                            have q34 : ((ji29) : Int) ≤ ((t171.length : Int) : Int) := of_decide_eq_true (by first | (with_reducible assumption) | assumption)
                            obtain ⟨i034, hi034, _, hsz34, _⟩ := info_parts info5
                            have hroom34 : t171.length ≤ co22 := (Kd.R_reads' HO_9.out).2.1
                            have hC34 : Kd.C (Kd.int .u8) _ Ao22 t171.length t171 := (Kd.R_reads' HO_9.out).2.2
                            have hcut34 := cut_to (P := Try.prog) 22 5 .i64 Try.underlying22 hi034 Ao22 t171.length co22 (ji29) (of_decide_eq_true (by first | (with_reducible assumption) | assumption)) q34 hroom34
                            have hr34 := Kd.C_take (m := ((ji29) : Int).toNat) hC34 (by omega)
                            have hy34 : y187.length = ((ji29) : Int).toNat := (by rw [Ny187.out, List.length_take]; omega)
                            rw [← Ny187.out] at hr34
                            rw [← hy34] at hcut34
                            have HR190 := Aside0.mk hr34
                            have HC190 := Aside0.mk (show y187.length ≤ co22 from by omega)
                            clear hr34 hC34 hroom34 hi034 hsz34
                            have KY34 := Aside0.mk hy34
                            clear hy34
                            have KL34 := Aside0.mk (show ((ji29) : Int).toNat ≤ t171.length from by omega)
                            replace q34 := eq_true q34
                            go_wp2_with (first | ((with_reducible refine gate_callee (f := 13) rfl ?_); refine goesL_ (some 87) rfl rfl Try.func13 (by kernel_rfl) rfl #[.slice Ao22 y187.length co22, .int .i64 (l0.length : Int)] rfl (by (try simp only [List.map_toArray, List.map_cons, List.map_nil]); first | done | rfl | (simp only [List.length_drop, List.length_take]; rfl)) ?_; (with_reducible refine (wire_Take.calls kj17 _ _ y187 (l0.length : Int) t191 t192 t193 _ ?side1 ?side2 A32.out).mono ?_); (case side1 => repeat (first | exact (by repeat (first | (with_reducible exact HR190.out) | (with_reducible refine Kd.C_alloc ?_ _) | (with_reducible refine Kd.C_drewN ?_ _) | (with_reducible refine Kd.C_drew ?_) | exact HR190.out)) | (with_reducible refine Kd.C_alloc ?_ _) | (with_reducible refine Kd.C_drewN ?_ _) | (with_reducible refine Kd.C_drew ?_))); (case side2 => exact HC190.out); rintro e w' ⟨rfl, ⟨nd, rfl⟩⟩; refine ⟨_, rfl, ?_⟩))
                            go_meet
                            case rel => exact ⟨_, H', ⟨by have := HJ4.out; have := HJ17.out; first | omega | exact Nat.le_refl _⟩, ⟨by repeat (first | (with_reducible first | exact HB.out | apply below_alloc | apply pw_below_drewN | apply below_drew1) | exact HB.out)⟩⟩
                          · rw [if_neg c33] at H
                            have c33b0 : (t193 == 3) = false := beq_eq_false_iff_ne.mpr c33
                            have c33b1 : (t193 != 3) = true := bne_iff_ne.mpr c33
                            obtain rfl := Option.some.inj H
                            have q35 : ((ji29) : Int) ≤ ((t171.length : Int) : Int) := of_decide_eq_true (by first | (with_reducible assumption) | assumption)
                            obtain ⟨i035, hi035, _, hsz35, _⟩ := info_parts info5
                            have hroom35 : t171.length ≤ co22 := (Kd.R_reads' HO_9.out).2.1
                            have hC35 : Kd.C (Kd.int .u8) _ Ao22 t171.length t171 := (Kd.R_reads' HO_9.out).2.2
                            have hcut35 := cut_to (P := Try.prog) 22 5 .i64 Try.underlying22 hi035 Ao22 t171.length co22 (ji29) (of_decide_eq_true (by first | (with_reducible assumption) | assumption)) q35 hroom35
                            have hr35 := Kd.C_take (m := ((ji29) : Int).toNat) hC35 (by omega)
                            have hy35 : y187.length = ((ji29) : Int).toNat := (by rw [Ny187.out, List.length_take]; omega)
                            rw [← Ny187.out] at hr35
                            rw [← hy35] at hcut35
                            have HR190 := Aside0.mk hr35
                            have HC190 := Aside0.mk (show y187.length ≤ co22 from by omega)
                            clear hr35 hC35 hroom35 hi035 hsz35
                            have KY35 := Aside0.mk hy35
                            clear hy35
                            have KL35 := Aside0.mk (show ((ji29) : Int).toNat ≤ t171.length from by omega)
                            replace q35 := eq_true q35
                            go_wp2_with (first | ((with_reducible refine gate_callee (f := 13) rfl ?_); refine goesL_ (some 87) rfl rfl Try.func13 (by kernel_rfl) rfl #[.slice Ao22 y187.length co22, .int .i64 (l0.length : Int)] rfl (by (try simp only [List.map_toArray, List.map_cons, List.map_nil]); first | done | rfl | (simp only [List.length_drop, List.length_take]; rfl)) ?_; (with_reducible refine (wire_Take.calls kj17 _ _ y187 (l0.length : Int) t191 t192 t193 _ ?side1 ?side2 A32.out).mono ?_); (case side1 => repeat (first | exact (by repeat (first | (with_reducible exact HR190.out) | (with_reducible refine Kd.C_alloc ?_ _) | (with_reducible refine Kd.C_drewN ?_ _) | (with_reducible refine Kd.C_drew ?_) | exact HR190.out)) | (with_reducible refine Kd.C_alloc ?_ _) | (with_reducible refine Kd.C_drewN ?_ _) | (with_reducible refine Kd.C_drew ?_))); (case side2 => exact HC190.out); rintro e w' ⟨rfl, ⟨nd, rfl⟩⟩; refine ⟨_, rfl, ?_⟩))
                            go_ret
                            exact ⟨by first | rfl | (simp [errW_none, errW_some] <;> rfl) | (simp only [← hji29]; first | rfl | (simp [errW_none, errW_some] <;> rfl)) | (simp [*, errW_none, errW_some] <;> rfl), by repeat (first | (with_reducible first | exact HB.out | apply below_alloc | apply pw_below_drewN | apply below_drew1) | exact HB.out)⟩
                        · rw [if_neg c31] at H
                          exact absurd H (by simp)
                      · rw [if_neg c30] at H
                        exact absurd H (by simp)
              · rw [if_neg c16] at H
                exact absurd H (by simp)
            · rw [if_neg c15] at H
              exact absurd H (by simp)
          · rw [if_neg c14] at H
            have c14b0 : (t172 == 0) = false := beq_eq_false_iff_ne.mpr c14
            have c14b1 : (t172 != 0) = true := bne_iff_ne.mpr c14
            (first | rw [c14b0] | (simp only [i64_w, i32_w]; rw [c14b0]) | skip)
            by_cases c36 : (t171.length : Int) = 0
            · rw [if_pos c36] at H
              have c36b0 : ((t171.length : Int) == 0) = true := beq_iff_eq.mpr c36
              have c36b1 : ((t171.length : Int) != 0) = false := bne_eq_false_iff_eq.mpr c36
              clear c36
              by_cases c37 : t172 = 2
              · rw [if_pos c37] at H
                have c37b0 : (t172 == 2) = true := beq_iff_eq.mpr c37
                have c37b1 : (t172 != 2) = false := bne_eq_false_iff_eq.mpr c37
                clear c37
                have H' := Aside0.mk H
                clear H
                obtain ⟨Ao38, co38, eo38⟩ := Kd.R_slice HO174.out
                subst eo38
                go_wp2
                go_meet
                case rel => exact ⟨_, H', ⟨by have := HJ4.out; first | omega | exact Nat.le_refl _⟩, ⟨by repeat (first | (with_reducible first | exact HB.out | apply below_alloc | apply pw_below_drewN | apply below_drew1) | exact HB.out)⟩⟩
              · rw [if_neg c37] at H
                have c37b0 : (t172 == 2) = false := beq_eq_false_iff_ne.mpr c37
                have c37b1 : (t172 != 2) = true := bne_iff_ne.mpr c37
                obtain rfl := Option.some.inj H
                obtain ⟨Ao39, co39, eo39⟩ := Kd.R_slice HO174.out
                subst eo39
                go_wp2
                go_ret
                exact ⟨by first | rfl | (simp [errW_none, errW_some] <;> rfl) | (simp [*, errW_none, errW_some] <;> rfl), by repeat (first | (with_reducible first | exact HB.out | apply below_alloc | apply pw_below_drewN | apply below_drew1) | exact HB.out)⟩
            · rw [if_neg c36] at H
              have c36b0 : ((t171.length : Int) == 0) = false := beq_eq_false_iff_ne.mpr c36
              have c36b1 : ((t171.length : Int) != 0) = true := bne_iff_ne.mpr c36
              have c36b2 : ¬ (t171 = []) := fun h_ => c36 (by rw [h_]; rfl)
              obtain rfl := Option.some.inj H
              obtain ⟨Ao40, co40, eo40⟩ := Kd.R_slice HO174.out
              subst eo40
              go_wp2
              go_ret
              exact ⟨by first | rfl | (simp [errW_none, errW_some] <;> rfl) | (simp [*, errW_none, errW_some] <;> rfl), by repeat (first | (with_reducible first | exact HB.out | apply below_alloc | apply pw_below_drewN | apply below_drew1) | exact HB.out)⟩
        case rest =>
          clear HC12
          try clear c1
          try clear c2
          try clear p2
          try clear c3
          try clear q3
          try clear c5
          try clear c6
          try clear c6b0
          try clear c6b1
          try clear p6
          try clear c7
          try clear c7b0
          try clear c7b1
          try clear c8
          try clear c9
          try clear c13
          try clear c14
          try clear c14b0
          try clear c14b1
          try clear c15
          try clear c16
          try clear c25
          try clear c25b0
          try clear c25b1
          try clear c26
          try clear c26b0
          try clear c26b1
          try clear c27
          try clear c27b0
          try clear c27b1
          try clear c28
          try clear c30
          try clear c30b0
          try clear c30b1
          try clear c31
          try clear c31b0
          try clear c31b1
          try clear c33
          try clear c33b0
          try clear c33b1
          try clear q34
          try clear q35
          try clear c36
          try clear c36b0
          try clear c36b1
          try clear c36b2
          try clear c37
          try clear c37b0
          try clear c37b1
          try clear p2
          try clear q34
          try clear q35
          obtain ⟨kq, HA, HJ11, HB⟩ := hcut
          cases kq with
          | zero => exact absurd HA.out (by simp [argosylaw08_WireBack.j2])
          | succ kj11 =>
            have H := HA.out
            clear HA
            simp only [argosylaw08_WireBack.j2] at H
            replace H := Option.bind_eq_some_iff.mp H
            obtain ⟨⟨t194, t195⟩, A410, H⟩ := H
            replace H : (if t195 = 0 then ((some (([] : List Int) : List Int)).bind fun y199 => (if y199.length + t194.length < 140737488355328 then ((some (y199 ++ t194 : List Int)).bind fun y202 => (if y202.length + l3.length < 140737488355328 then ((wire_Takes.f kj11 (y202 ++ l3) (l0.length : Int)).bind fun bt208 => ((argosyref01_Same.f kj11 bt208.1 l2).bind fun t213 => (if t213 = true then (if bt208.2.1 = (t194.length : Int) then (if bt208.2.2 = 0 then (argosylaw08_WireBack.j3 kj11 l0 t194 (decide ((t194.length : Int) ≤ (l0.length : Int)))) else (argosylaw08_WireBack.j3 kj11 l0 t194 true)) else (argosylaw08_WireBack.j3 kj11 l0 t194 true)) else (argosylaw08_WireBack.j3 kj11 l0 t194 true)))) else (none))) else (none))) else (if (t194.length : Int) = 0 then ((argosylaw08_lives.f kj11).bind fun t198 => (some t198)) else (some false))) = some r := H
            have A41 := Aside0.mk A410
            clear A410
            by_cases c42 : t195 = 0
            · rw [if_pos c42] at H
              have c42b0 : (t195 == 0) = true := beq_iff_eq.mpr c42
              have c42b1 : (t195 != 0) = false := bne_eq_false_iff_eq.mpr c42
              clear c42
              obtain ⟨y199, hy199⟩ : ∃ y_ : List Int, y_ = (([] : List Int)) := ⟨_, rfl⟩
              replace H : (if y199.length + t194.length < 140737488355328 then ((some (y199 ++ t194 : List Int)).bind fun y202 => (if y202.length + l3.length < 140737488355328 then ((wire_Takes.f kj11 (y202 ++ l3) (l0.length : Int)).bind fun bt208 => ((argosyref01_Same.f kj11 bt208.1 l2).bind fun t213 => (if t213 = true then (if bt208.2.1 = (t194.length : Int) then (if bt208.2.2 = 0 then (argosylaw08_WireBack.j3 kj11 l0 t194 (decide ((t194.length : Int) ≤ (l0.length : Int)))) else (argosylaw08_WireBack.j3 kj11 l0 t194 true)) else (argosylaw08_WireBack.j3 kj11 l0 t194 true)) else (argosylaw08_WireBack.j3 kj11 l0 t194 true)))) else (none))) else (none)) = some r := by first | (rw [hy199]; with_reducible exact H) | (have H2_ := (Option.bind_some _ _).symm.trans H; rw [hy199]; with_reducible exact H2_) | (have H2_ := (Option.bind_some _ _).symm.trans H; with_reducible exact H2_) | with_reducible exact H | (rw [hy199]; exact H) | exact H
              have Ny199 := Aside0.mk hy199
              clear hy199
              by_cases c43 : y199.length + t194.length < 140737488355328
              · rw [if_pos c43] at H
                have LMc43 := Aside0.mk c43
                clear c43
                obtain ⟨y202, hy202⟩ : ∃ y_ : List Int, y_ = (y199 ++ t194) := ⟨_, rfl⟩
                replace H : (if y202.length + l3.length < 140737488355328 then ((wire_Takes.f kj11 (y202 ++ l3) (l0.length : Int)).bind fun bt208 => ((argosyref01_Same.f kj11 bt208.1 l2).bind fun t213 => (if t213 = true then (if bt208.2.1 = (t194.length : Int) then (if bt208.2.2 = 0 then (argosylaw08_WireBack.j3 kj11 l0 t194 (decide ((t194.length : Int) ≤ (l0.length : Int)))) else (argosylaw08_WireBack.j3 kj11 l0 t194 true)) else (argosylaw08_WireBack.j3 kj11 l0 t194 true)) else (argosylaw08_WireBack.j3 kj11 l0 t194 true)))) else (none)) = some r := by first | (rw [hy202]; with_reducible exact H) | (have H2_ := (Option.bind_some _ _).symm.trans H; rw [hy202]; with_reducible exact H2_) | (have H2_ := (Option.bind_some _ _).symm.trans H; with_reducible exact H2_) | with_reducible exact H | (rw [hy202]; exact H) | exact H
                have Ny202 := Aside0.mk hy202
                clear hy202
                by_cases c44 : y202.length + l3.length < 140737488355328
                · rw [if_pos c44] at H
                  have LMc44 := Aside0.mk c44
                  clear c44
                  obtain ⟨y205, hy205⟩ : ∃ y_ : List Int, y_ = (y202 ++ l3) := ⟨_, rfl⟩
                  replace H : ((wire_Takes.f kj11 y205 (l0.length : Int)).bind fun bt208 => ((argosyref01_Same.f kj11 bt208.1 l2).bind fun t213 => (if t213 = true then (if bt208.2.1 = (t194.length : Int) then (if bt208.2.2 = 0 then (argosylaw08_WireBack.j3 kj11 l0 t194 (decide ((t194.length : Int) ≤ (l0.length : Int)))) else (argosylaw08_WireBack.j3 kj11 l0 t194 true)) else (argosylaw08_WireBack.j3 kj11 l0 t194 true)) else (argosylaw08_WireBack.j3 kj11 l0 t194 true)))) = some r := by first | (rw [hy205]; with_reducible exact H) | (have H2_ := (Option.bind_some _ _).symm.trans H; rw [hy205]; with_reducible exact H2_) | (have H2_ := (Option.bind_some _ _).symm.trans H; with_reducible exact H2_) | with_reducible exact H | (rw [hy205]; exact H) | exact H
                  have Ny205 := Aside0.mk hy205
                  clear hy205
                  replace H := Option.bind_eq_some_iff.mp H
                  obtain ⟨⟨t208, t209, t210⟩, A450, H⟩ := H
                  replace H : ((argosyref01_Same.f kj11 t208 l2).bind fun t213 => (if t213 = true then (if t209 = (t194.length : Int) then (if t210 = 0 then (argosylaw08_WireBack.j3 kj11 l0 t194 (decide ((t194.length : Int) ≤ (l0.length : Int)))) else (argosylaw08_WireBack.j3 kj11 l0 t194 true)) else (argosylaw08_WireBack.j3 kj11 l0 t194 true)) else (argosylaw08_WireBack.j3 kj11 l0 t194 true))) = some r := H
                  have A45 := Aside0.mk A450
                  clear A450
                  have HC46 := Aside0.mk H
                  clear H
                  go_upto_region 17 with (first | ((with_reducible refine gate_callee (f := 11) rfl ?_); refine goesL_ (some 103) rfl rfl Try.func11 (by kernel_rfl) rfl #[.slice A0 l0.length c0, .slice A2 l2.length c2] rfl (by (try simp only [List.map_toArray, List.map_cons, List.map_nil]); first | done | rfl | (simp only [List.length_drop, List.length_take]; rfl)) ?_; (with_reducible refine (wire_Puts.calls kj11 _ _ l0 _ _ l2 t194 t195 _ ?side1 ?side2 ?side3 ?side4 A41.out).mono ?_); (case side1 => repeat (first | exact (Kd.C_below HR0.out HB.out) | (with_reducible refine Kd.C_alloc ?_ _) | (with_reducible refine Kd.C_drewN ?_ _) | (with_reducible refine Kd.C_drew ?_))); (case side2 => exact HC0.out); (case side3 => repeat (first | exact (Kd.C_below HR2.out HB.out) | (with_reducible refine Kd.C_alloc ?_ _) | (with_reducible refine Kd.C_drewN ?_ _) | (with_reducible refine Kd.C_drew ?_))); (case side4 => exact HC2.out); rintro e w47 ⟨v196, rfl, ho0, hb⟩; refine ⟨_, rfl, ?_⟩; have n0_ := Aside0.mk (Kd.R_lower ho0 (below_size (by repeat (first | (with_reducible first | exact HB.out | apply below_alloc | apply pw_below_drewN | apply below_drew1) | exact HB.out)))); have n1_ := Aside0.mk (below_step (by repeat (first | (with_reducible first | exact HB.out | apply below_alloc | apply pw_below_drewN | apply below_drew1) | exact HB.out)) hb); clear HB; have HO197 := n0_; have HB := n1_; clear n0_ n1_; (try clear hb); (try clear hb2); (try clear hk); (try clear hi); (try clear ho0)) | ((with_reducible refine gate_dst (N := 115) rfl ?_); (try (refine gate_guard (by rfl) ?_; dsimp only)); refine Kd.R_lit (Kd.int .u8) _ 5 ?hg (N := 115) ?hd (xs := ([] : List Int)) (inner := []) (ok := fun _ => True) (okp := fun _ => True) ?hr ?hp (fun _ hk => hk) trivial (Below.refl _ _) (Nat.le_refl _) (by simp) ?_; (case hd => rfl); (case hg => rfl); (case hr => first | (go_simp; done) | (go_simp; rfl)); (case hp => exact (Reps.none _ _)); intro v200 w48 ho49 hb hg_ hnew_; clear hg_ hnew_; (first | rw [← Ny199.out] at ho49 | (simp only [Int.reduceToNat] at ho49; rw [← Ny199.out] at ho49)); have n0_ := Aside0.mk (Kd.R_elder' (by (with_reducible repeat (first | apply Kd.R_alloc | apply Kd.R_drewN | apply Kd.R_drew)); exact HO197.out) (Kd.R_base ho49) hb); have n1_ := Aside0.mk (Kd.R_lower (Kd.R_new' ho49 (Kd.R_lt (by (with_reducible repeat (first | apply Kd.R_alloc | apply Kd.R_drewN | apply Kd.R_drew)); exact HO197.out))) (below_size (by repeat (first | (with_reducible first | exact HB.out | apply below_alloc | apply pw_below_drewN | apply below_drew1) | exact HB.out)))); have n2_ := Aside0.mk (below_step (by repeat (first | (with_reducible first | exact HB.out | apply below_alloc | apply pw_below_drewN | apply below_drew1) | exact HB.out)) hb); clear HO197; clear HB; have HO197 := n0_; have HO201 := n1_; have HB := n2_; clear n0_ n1_ n2_; clear hb ho49; obtain ⟨Ao51, co51, eo51⟩ := Kd.R_slice HO197.out; subst eo51) | ((with_reducible refine gate_builtin (b := .append) (xs := #[.tmp 115, .tmp 116]) rfl ?_); (try (refine gate_guard (by rfl) ?_; dsimp only)); at_builtin; refine Kd.R_append_rows (Kd.int .u8) (w0 := w) w.heap.size rfl (.tmp 115) (.tmp 116) 22 5 (.int .u8 0) 1 rfl Try.underlying22 info5 rfl (by decide) (by omega) v200 y199 t194 _ _ _ (fun k_ => some k_ ≠ (.slice Ao51 t194.length co51 : Value).ownBlock) (fun _ => False) rfl rfl ?aO ?aR (fun _ _ h => h) (fun _ h => h.elim) ?aF ?aB ?aS ?aL ?_; (case aR => repeat (first | exact (Kd.R_reads' HO197.out).2.2 | (with_reducible refine Kd.C_alloc ?_ _) | (with_reducible refine Kd.C_drewN ?_ _) | (with_reducible refine Kd.C_drew ?_))); (case aB => exact (by repeat (first | (with_reducible first | exact HB.out | apply below_alloc | apply pw_below_drewN | apply below_drew1) | exact HB.out))); (case aF => exact (fun k_ hk => Kd.fresh' (Kd.R_lt (by (with_reducible repeat (first | apply Kd.R_alloc | apply Kd.R_drewN | apply Kd.R_drew)); exact HO197.out)) k_ hk)); (case aO => exact (by (with_reducible repeat (first | apply Kd.R_alloc | apply Kd.R_drewN | apply Kd.R_drew)); exact Kd.R_mono HO201.out (fun _ hk => hk.2))); (case aS => exact (below_size (by repeat (first | (with_reducible first | exact HB.out | apply below_alloc | apply pw_below_drewN | apply below_drew1) | exact HB.out)))); (case aL => have := LMc43.out; omega); intro v203 w50 ho hb hg hat; rw [← Ny202.out] at ho; have n0_ := Aside0.mk (Kd.R_after (ok := (fun _ => True)) (by (with_reducible repeat (first | apply Kd.R_alloc | apply Kd.R_drewN | apply Kd.R_drew)); exact HO197.out) hg hat); have n1_ := Aside0.mk (hb); have n2_ := Aside0.mk (ho); clear HO197; clear HB; clear HO201; have HO197 := n0_; have HB := n1_; have HO204 := n2_; clear n0_ n1_ n2_; clear ho hb hg hat) | ((with_reducible refine gate_builtin (b := .append) (xs := #[.tmp 117, .tmp 118]) rfl ?_); (try (refine gate_guard (by rfl) ?_; dsimp only)); at_builtin; refine Kd.R_append_rows (Kd.int .u8) (w0 := w) w.heap.size rfl (.tmp 117) (.tmp 118) 22 5 (.int .u8 0) 1 rfl Try.underlying22 info5 rfl (by decide) (by omega) v203 y202 l3 _ _ _ (fun k_ => some k_ ≠ (.slice Ao51 t194.length co51 : Value).ownBlock) (fun _ => False) rfl rfl ?aO ?aR (fun _ _ h => h) (fun _ h => h.elim) ?aF ?aB ?aS ?aL ?_; (case aR => repeat (first | exact (Kd.C_below HR3.out HB.out) | (with_reducible refine Kd.C_alloc ?_ _) | (with_reducible refine Kd.C_drewN ?_ _) | (with_reducible refine Kd.C_drew ?_))); (case aB => exact (by repeat (first | (with_reducible first | exact HB.out | apply below_alloc | apply pw_below_drewN | apply below_drew1) | exact HB.out))); (case aF => exact (fun k_ hk => Kd.fresh' (Kd.R_lt (by (with_reducible repeat (first | apply Kd.R_alloc | apply Kd.R_drewN | apply Kd.R_drew)); exact HO197.out)) k_ hk)); (case aO => exact (by (with_reducible repeat (first | apply Kd.R_alloc | apply Kd.R_drewN | apply Kd.R_drew)); exact HO204.out)); (case aS => exact (below_size (by repeat (first | (with_reducible first | exact HB.out | apply below_alloc | apply pw_below_drewN | apply below_drew1) | exact HB.out)))); (case aL => have := LMc44.out; omega); intro v206 w52 ho hb hg hat; rw [← Ny205.out] at ho; have n0_ := Aside0.mk (Kd.R_after (ok := (fun _ => True)) (by (with_reducible repeat (first | apply Kd.R_alloc | apply Kd.R_drewN | apply Kd.R_drew)); exact HO197.out) hg hat); have n1_ := Aside0.mk (hb); have n2_ := Aside0.mk (ho); clear HO197; clear HB; clear HO204; have HO197 := n0_; have HB := n1_; have HO207 := n2_; clear n0_ n1_ n2_; clear ho hb hg hat; obtain ⟨Ao53, co53, eo53⟩ := Kd.R_slice HO207.out; subst eo53) | ((with_reducible refine gate_callee (f := 15) rfl ?_); refine goesL_ (some 122) rfl rfl Try.func15 (by kernel_rfl) rfl #[.slice Ao53 y205.length co53, .int .i64 (l0.length : Int)] rfl (by (try simp only [List.map_toArray, List.map_cons, List.map_nil]); first | done | rfl | (simp only [List.length_drop, List.length_take]; rfl)) ?_; (with_reducible refine (wire_Takes.calls kj11 _ _ y205 (l0.length : Int) t208 t209 t210 _ ?side1 ?side2 A45.out).mono ?_); (case side1 => repeat (first | exact (Kd.R_reads' HO207.out).2.2 | (with_reducible refine Kd.C_alloc ?_ _) | (with_reducible refine Kd.C_drewN ?_ _) | (with_reducible refine Kd.C_drew ?_))); (case side2 => exact (Kd.R_reads' HO207.out).2.1); rintro e w54 ⟨v211, rfl, ho0, hb⟩; refine ⟨_, rfl, ?_⟩; have n0_ := Aside0.mk (Kd.R_below (by (with_reducible repeat (first | apply Kd.R_alloc | apply Kd.R_drewN | apply Kd.R_drew)); exact HO197.out) hb); have n1_ := Aside0.mk (Kd.R_below (by (with_reducible repeat (first | apply Kd.R_alloc | apply Kd.R_drewN | apply Kd.R_drew)); exact HO207.out) hb); have n2_ := Aside0.mk (Kd.R_lower ho0 (below_size (by repeat (first | (with_reducible first | exact HB.out | apply below_alloc | apply pw_below_drewN | apply below_drew1) | exact HB.out)))); have n3_ := Aside0.mk (below_step (by repeat (first | (with_reducible first | exact HB.out | apply below_alloc | apply pw_below_drewN | apply below_drew1) | exact HB.out)) hb); clear HO197; clear HO207; clear HB; have HO197 := n0_; have HO207 := n1_; have HO212 := n2_; have HB := n3_; clear n0_ n1_ n2_ n3_; (try clear hb); (try clear hb2); (try clear hk); (try clear hi); (try clear ho0)))
                  (try simp only [Act.put, List.setIfInBounds_toArray, List.set_cons_zero, List.set_cons_succ])
                  go_cut [146] (fun v146 wc => ∃ (kq : Nat) (x146_45 : Bool), v146 = .bool x146_45 ∧ Aside0 (argosylaw08_WireBack.j3 kq l0 t194 x146_45 = some r) ∧ Aside0 (kq ≤ kj11) ∧ Aside0 (Kd.R (Kd.int .u8) 5 wc w.heap.size (fun _ => True) (.slice Ao51 t194.length co51) t194) ∧ Aside0 (Below w.heap.size w wc))
                  case first =>
                    have H := HC46.out
                    clear HC46
                    replace H := Option.bind_eq_some_iff.mp H
                    obtain ⟨t213, A550, H⟩ := H
                    replace H : (if t213 = true then (if t209 = (t194.length : Int) then (if t210 = 0 then (argosylaw08_WireBack.j3 kj11 l0 t194 (decide ((t194.length : Int) ≤ (l0.length : Int)))) else (argosylaw08_WireBack.j3 kj11 l0 t194 true)) else (argosylaw08_WireBack.j3 kj11 l0 t194 true)) else (argosylaw08_WireBack.j3 kj11 l0 t194 true)) = some r := H
                    have A55 := Aside0.mk A550
                    clear A550
                    by_cases c56 : t213 = true
                    · subst c56
                      have H1 : (if t209 = (t194.length : Int) then (if t210 = 0 then (argosylaw08_WireBack.j3 kj11 l0 t194 (decide ((t194.length : Int) ≤ (l0.length : Int)))) else (argosylaw08_WireBack.j3 kj11 l0 t194 true)) else (argosylaw08_WireBack.j3 kj11 l0 t194 true)) = some r := by rw [if_pos rfl] at H; exact H
                      clear H
                      have H := H1
                      clear H1
                      by_cases c57 : t209 = (t194.length : Int)
                      · rw [if_pos c57] at H
                        have c57b0 : (t209 == (t194.length : Int)) = true := beq_iff_eq.mpr c57
                        have c57b1 : (t209 != (t194.length : Int)) = false := bne_eq_false_iff_eq.mpr c57
                        clear c57
                        (first | rw [c57b0] | (simp only [i64_w, i32_w]; rw [c57b0]) | skip)
                        by_cases c58 : t210 = 0
                        · rw [if_pos c58] at H
                          have c58b0 : (t210 == 0) = true := beq_iff_eq.mpr c58
                          have c58b1 : (t210 != 0) = false := bne_eq_false_iff_eq.mpr c58
                          clear c58
                          have H' := Aside0.mk H
                          clear H
                          obtain ⟨Ao59, co59, eo59⟩ := Kd.R_slice HO212.out
                          subst eo59
                          go_wp2_with (first | ((with_reducible refine gate_callee (f := 17) rfl ?_); refine goesL_ (some 128) rfl rfl Try.func17 (by kernel_rfl) rfl #[.slice Ao59 t208.length co59, .slice A2 l2.length c2] rfl (by (try simp only [List.map_toArray, List.map_cons, List.map_nil]); first | done | rfl | (simp only [List.length_drop, List.length_take]; rfl)) ?_; (with_reducible refine (argosyref01_Same.calls kj11 _ _ t208 _ _ l2 true _ ?side1 ?side2 ?side3 ?side4 A55.out).mono ?_); (case side1 => repeat (first | exact (Kd.R_reads' HO212.out).2.2 | (with_reducible refine Kd.C_alloc ?_ _) | (with_reducible refine Kd.C_drewN ?_ _) | (with_reducible refine Kd.C_drew ?_))); (case side2 => exact (Kd.R_reads' HO212.out).2.1); (case side3 => repeat (first | exact (Kd.C_below HR2.out HB.out) | (with_reducible refine Kd.C_alloc ?_ _) | (with_reducible refine Kd.C_drewN ?_ _) | (with_reducible refine Kd.C_drew ?_))); (case side4 => exact HC2.out); rintro e w' ⟨rfl, ⟨nd, rfl⟩⟩; refine ⟨_, rfl, ?_⟩))
                          go_meet
                          case rel => exact ⟨_, (decide ((t194.length : Int) ≤ (l0.length : Int))), (by first | rfl | (simp; done) | (simp [*]; done)), H', ⟨by have := HJ4.out; have := HJ11.out; first | omega | exact Nat.le_refl _⟩, ⟨by (with_reducible repeat (first | apply Kd.R_alloc | apply Kd.R_drewN | apply Kd.R_drew)); exact Kd.R_mono HO197.out (fun _ hk => trivial)⟩, ⟨by repeat (first | (with_reducible first | exact HB.out | apply below_alloc | apply pw_below_drewN | apply below_drew1) | exact HB.out)⟩⟩
                        · rw [if_neg c58] at H
                          have c58b0 : (t210 == 0) = false := beq_eq_false_iff_ne.mpr c58
                          have c58b1 : (t210 != 0) = true := bne_iff_ne.mpr c58
                          have H' := Aside0.mk H
                          clear H
                          obtain ⟨Ao60, co60, eo60⟩ := Kd.R_slice HO212.out
                          subst eo60
                          go_wp2_with (first | ((with_reducible refine gate_callee (f := 17) rfl ?_); refine goesL_ (some 128) rfl rfl Try.func17 (by kernel_rfl) rfl #[.slice Ao60 t208.length co60, .slice A2 l2.length c2] rfl (by (try simp only [List.map_toArray, List.map_cons, List.map_nil]); first | done | rfl | (simp only [List.length_drop, List.length_take]; rfl)) ?_; (with_reducible refine (argosyref01_Same.calls kj11 _ _ t208 _ _ l2 true _ ?side1 ?side2 ?side3 ?side4 A55.out).mono ?_); (case side1 => repeat (first | exact (Kd.R_reads' HO212.out).2.2 | (with_reducible refine Kd.C_alloc ?_ _) | (with_reducible refine Kd.C_drewN ?_ _) | (with_reducible refine Kd.C_drew ?_))); (case side2 => exact (Kd.R_reads' HO212.out).2.1); (case side3 => repeat (first | exact (Kd.C_below HR2.out HB.out) | (with_reducible refine Kd.C_alloc ?_ _) | (with_reducible refine Kd.C_drewN ?_ _) | (with_reducible refine Kd.C_drew ?_))); (case side4 => exact HC2.out); rintro e w' ⟨rfl, ⟨nd, rfl⟩⟩; refine ⟨_, rfl, ?_⟩))
                          go_meet
                          case rel => exact ⟨_, (true), (by first | rfl | (simp; done) | (simp [*]; done)), H', ⟨by have := HJ4.out; have := HJ11.out; first | omega | exact Nat.le_refl _⟩, ⟨by (with_reducible repeat (first | apply Kd.R_alloc | apply Kd.R_drewN | apply Kd.R_drew)); exact Kd.R_mono HO197.out (fun _ hk => trivial)⟩, ⟨by repeat (first | (with_reducible first | exact HB.out | apply below_alloc | apply pw_below_drewN | apply below_drew1) | exact HB.out)⟩⟩
                      · rw [if_neg c57] at H
                        have c57b0 : (t209 == (t194.length : Int)) = false := beq_eq_false_iff_ne.mpr c57
                        have c57b1 : (t209 != (t194.length : Int)) = true := bne_iff_ne.mpr c57
                        (first | rw [c57b0] | (simp only [i64_w, i32_w]; rw [c57b0]) | skip)
                        have H' := Aside0.mk H
                        clear H
                        obtain ⟨Ao61, co61, eo61⟩ := Kd.R_slice HO212.out
                        subst eo61
                        go_wp2_with (first | ((with_reducible refine gate_callee (f := 17) rfl ?_); refine goesL_ (some 128) rfl rfl Try.func17 (by kernel_rfl) rfl #[.slice Ao61 t208.length co61, .slice A2 l2.length c2] rfl (by (try simp only [List.map_toArray, List.map_cons, List.map_nil]); first | done | rfl | (simp only [List.length_drop, List.length_take]; rfl)) ?_; (with_reducible refine (argosyref01_Same.calls kj11 _ _ t208 _ _ l2 true _ ?side1 ?side2 ?side3 ?side4 A55.out).mono ?_); (case side1 => repeat (first | exact (Kd.R_reads' HO212.out).2.2 | (with_reducible refine Kd.C_alloc ?_ _) | (with_reducible refine Kd.C_drewN ?_ _) | (with_reducible refine Kd.C_drew ?_))); (case side2 => exact (Kd.R_reads' HO212.out).2.1); (case side3 => repeat (first | exact (Kd.C_below HR2.out HB.out) | (with_reducible refine Kd.C_alloc ?_ _) | (with_reducible refine Kd.C_drewN ?_ _) | (with_reducible refine Kd.C_drew ?_))); (case side4 => exact HC2.out); rintro e w' ⟨rfl, ⟨nd, rfl⟩⟩; refine ⟨_, rfl, ?_⟩))
                        go_meet
                        case rel => exact ⟨_, (true), (by first | rfl | (simp; done) | (simp [*]; done)), H', ⟨by have := HJ4.out; have := HJ11.out; first | omega | exact Nat.le_refl _⟩, ⟨by (with_reducible repeat (first | apply Kd.R_alloc | apply Kd.R_drewN | apply Kd.R_drew)); exact Kd.R_mono HO197.out (fun _ hk => trivial)⟩, ⟨by repeat (first | (with_reducible first | exact HB.out | apply below_alloc | apply pw_below_drewN | apply below_drew1) | exact HB.out)⟩⟩
                    · replace c56 := Bool.eq_false_iff.mpr c56
                      subst c56
                      have H1 : (argosylaw08_WireBack.j3 kj11 l0 t194 true) = some r := by rw [if_neg (show ¬ (false = true) by decide)] at H; exact H
                      clear H
                      have H := H1
                      clear H1
                      have H' := Aside0.mk H
                      clear H
                      obtain ⟨Ao62, co62, eo62⟩ := Kd.R_slice HO212.out
                      subst eo62
                      go_wp2_with (first | ((with_reducible refine gate_callee (f := 17) rfl ?_); refine goesL_ (some 128) rfl rfl Try.func17 (by kernel_rfl) rfl #[.slice Ao62 t208.length co62, .slice A2 l2.length c2] rfl (by (try simp only [List.map_toArray, List.map_cons, List.map_nil]); first | done | rfl | (simp only [List.length_drop, List.length_take]; rfl)) ?_; (with_reducible refine (argosyref01_Same.calls kj11 _ _ t208 _ _ l2 false _ ?side1 ?side2 ?side3 ?side4 A55.out).mono ?_); (case side1 => repeat (first | exact (Kd.R_reads' HO212.out).2.2 | (with_reducible refine Kd.C_alloc ?_ _) | (with_reducible refine Kd.C_drewN ?_ _) | (with_reducible refine Kd.C_drew ?_))); (case side2 => exact (Kd.R_reads' HO212.out).2.1); (case side3 => repeat (first | exact (Kd.C_below HR2.out HB.out) | (with_reducible refine Kd.C_alloc ?_ _) | (with_reducible refine Kd.C_drewN ?_ _) | (with_reducible refine Kd.C_drew ?_))); (case side4 => exact HC2.out); rintro e w' ⟨rfl, ⟨nd, rfl⟩⟩; refine ⟨_, rfl, ?_⟩))
                      go_meet
                      case rel => exact ⟨_, (true), (by first | rfl | (simp; done) | (simp [*]; done)), H', ⟨by have := HJ4.out; have := HJ11.out; first | omega | exact Nat.le_refl _⟩, ⟨by (with_reducible repeat (first | apply Kd.R_alloc | apply Kd.R_drewN | apply Kd.R_drew)); exact Kd.R_mono HO197.out (fun _ hk => trivial)⟩, ⟨by repeat (first | (with_reducible first | exact HB.out | apply below_alloc | apply pw_below_drewN | apply below_drew1) | exact HB.out)⟩⟩
                  case rest =>
                    clear HC46
                    try clear c1
                    try clear c2
                    try clear p2
                    try clear c3
                    try clear q3
                    try clear c4
                    try clear c5
                    try clear c6
                    try clear c6b0
                    try clear c6b1
                    try clear p6
                    try clear c7
                    try clear c7b0
                    try clear c7b1
                    try clear c8
                    try clear c9
                    try clear c11
                    try clear c13
                    try clear c14
                    try clear c14b0
                    try clear c14b1
                    try clear c15
                    try clear c16
                    try clear c17
                    try clear c25
                    try clear c25b0
                    try clear c25b1
                    try clear c26
                    try clear c26b0
                    try clear c26b1
                    try clear c27
                    try clear c27b0
                    try clear c27b1
                    try clear c28
                    try clear c30
                    try clear c30b0
                    try clear c30b1
                    try clear c31
                    try clear c31b0
                    try clear c31b1
                    try clear c33
                    try clear c33b0
                    try clear c33b1
                    try clear q34
                    try clear q35
                    try clear c36
                    try clear c36b0
                    try clear c36b1
                    try clear c36b2
                    try clear c37
                    try clear c37b0
                    try clear c37b1
                    try clear c42
                    try clear c42b0
                    try clear c42b1
                    try clear c43
                    try clear c44
                    try clear c56
                    try clear c57
                    try clear c57b0
                    try clear c57b1
                    try clear c58
                    try clear c58b0
                    try clear c58b1
                    try clear p2
                    try clear p6
                    try clear q3
                    try clear q34
                    try clear q35
                    obtain ⟨kq, x146_45, rfl, HA, HJ45, HO_17, HB⟩ := hcut
                    cases kq with
                    | zero => exact absurd HA.out (by simp [argosylaw08_WireBack.j3])
                    | succ kj45 =>
                      have H := HA.out
                      clear HA
                      simp only [argosylaw08_WireBack.j3] at H
                      by_cases c63 : x146_45 = true
                      · subst c63
                        have H1 : (some false) = some r := by rw [if_pos rfl] at H; exact H
                        clear H
                        have H := H1
                        clear H1
                        obtain rfl := Option.some.inj H
                        go_wp2
                        go_ret
                        exact ⟨by first | rfl | (simp [errW_none, errW_some] <;> rfl) | (simp [*, errW_none, errW_some] <;> rfl), by repeat (first | (with_reducible first | exact HB.out | apply below_alloc | apply pw_below_drewN | apply below_drew1) | exact HB.out)⟩
                      · replace c63 := Bool.eq_false_iff.mpr c63
                        subst c63
                        have H1 : (if 0 ≤ (wrap64 ((t194.length : Int) - 1)) then (if (wrap64 ((t194.length : Int) - 1)) ≤ (t194.length : Int) then ((wire_Takes.f kj45 (t194.take ((wrap64 ((t194.length : Int) - 1)) : Int).toNat) (l0.length : Int)).bind fun bt218 => (if bt218.2.2 = 3 then ((argosylaw08_lives.f kj45).bind fun t223 => (some t223)) else (some false))) else (none)) else (none)) = some r := by rw [if_neg (show ¬ (false = true) by decide)] at H; exact H
                        clear H
                        have H := H1
                        clear H1
                        obtain ⟨ji64, hji64⟩ : ∃ j_ : Int, (wrap64 ((t194.length : Int) - 1)) = j_ := ⟨_, rfl⟩
                        replace H : (if 0 ≤ (ji64) then (if (ji64) ≤ (t194.length : Int) then ((wire_Takes.f kj45 (t194.take ((ji64) : Int).toNat) (l0.length : Int)).bind fun bt218 => (if bt218.2.2 = 3 then ((argosylaw08_lives.f kj45).bind fun t223 => (some t223)) else (some false))) else (none)) else (none)) = some r := by first | (rw [hji64] at H; exact H) | (simp only [hji64] at H ⊢; exact H)
                        have hji64w : (IntKind.i64.wrap ((t194.length : Int) - 1)) = ji64 := (i64_w _).trans hji64
                        by_cases c65 : 0 ≤ (ji64)
                        · rw [if_pos c65] at H
                          have c65b0 := eq_true c65
                          have c65b1 : decide (0 ≤ (ji64)) = true := decide_eq_true c65
                          clear c65
                          by_cases c66 : (ji64) ≤ (t194.length : Int)
                          · rw [if_pos c66] at H
                            have c66b0 := eq_true c66
                            have c66b1 : decide ((ji64) ≤ (t194.length : Int)) = true := decide_eq_true c66
                            clear c66
                            obtain ⟨y214, hy214⟩ : ∃ y_ : List Int, y_ = (t194.take ((ji64) : Int).toNat) := ⟨_, rfl⟩
                            replace H : ((wire_Takes.f kj45 y214 (l0.length : Int)).bind fun bt218 => (if bt218.2.2 = 3 then ((argosylaw08_lives.f kj45).bind fun t223 => (some t223)) else (some false))) = some r := by first | (rw [hy214]; with_reducible exact H) | (have H2_ := (Option.bind_some _ _).symm.trans H; rw [hy214]; with_reducible exact H2_) | (have H2_ := (Option.bind_some _ _).symm.trans H; with_reducible exact H2_) | with_reducible exact H | (rw [hy214]; exact H) | exact H
                            have Ny214 := Aside0.mk hy214
                            clear hy214
                            replace H := Option.bind_eq_some_iff.mp H
                            obtain ⟨⟨t218, t219, t220⟩, A670, H⟩ := H
                            replace H : (if t220 = 3 then ((argosylaw08_lives.f kj45).bind fun t223 => (some t223)) else (some false)) = some r := H
                            have A67 := Aside0.mk A670
                            clear A670
                            by_cases c68 : t220 = 3
                            · rw [if_pos c68] at H
                              have c68b0 : (t220 == 3) = true := beq_iff_eq.mpr c68
                              have c68b1 : (t220 != 3) = false := bne_eq_false_iff_eq.mpr c68
                              clear c68
                              replace H := Option.bind_eq_some_iff.mp H
                              obtain ⟨t223, A690, H⟩ := H
                              replace H : (some t223) = some r := H
                              have A69 := Aside0.mk A690
                              clear A690
                              obtain rfl := Option.some.inj H
                              have q70 : ((ji64) : Int) ≤ ((t194.length : Int) : Int) := of_decide_eq_true (by first | (with_reducible assumption) | assumption)
                              obtain ⟨i070, hi070, _, hsz70, _⟩ := info_parts info5
                              have hroom70 : t194.length ≤ co51 := (Kd.R_reads' HO_17.out).2.1
                              have hC70 : Kd.C (Kd.int .u8) _ Ao51 t194.length t194 := (Kd.R_reads' HO_17.out).2.2
                              have hcut70 := cut_to (P := Try.prog) 22 5 .i64 Try.underlying22 hi070 Ao51 t194.length co51 (ji64) (of_decide_eq_true (by first | (with_reducible assumption) | assumption)) q70 hroom70
                              have hr70 := Kd.C_take (m := ((ji64) : Int).toNat) hC70 (by omega)
                              have hy70 : y214.length = ((ji64) : Int).toNat := (by rw [Ny214.out, List.length_take]; omega)
                              rw [← Ny214.out] at hr70
                              rw [← hy70] at hcut70
                              have HR217 := Aside0.mk hr70
                              have HC217 := Aside0.mk (show y214.length ≤ co51 from by omega)
                              clear hr70 hC70 hroom70 hi070 hsz70
                              have KY70 := Aside0.mk hy70
                              clear hy70
                              have KL70 := Aside0.mk (show ((ji64) : Int).toNat ≤ t194.length from by omega)
                              replace q70 := eq_true q70
                              go_wp2_with (first | ((with_reducible refine gate_callee (f := 15) rfl ?_); refine goesL_ (some 155) rfl rfl Try.func15 (by kernel_rfl) rfl #[.slice Ao51 y214.length co51, .int .i64 (l0.length : Int)] rfl (by (try simp only [List.map_toArray, List.map_cons, List.map_nil]); first | done | rfl | (simp only [List.length_drop, List.length_take]; rfl)) ?_; (with_reducible refine (wire_Takes.calls kj45 _ _ y214 (l0.length : Int) t218 t219 t220 _ ?side1 ?side2 A67.out).mono ?_); (case side1 => repeat (first | exact (by repeat (first | (with_reducible exact HR217.out) | (with_reducible refine Kd.C_alloc ?_ _) | (with_reducible refine Kd.C_drewN ?_ _) | (with_reducible refine Kd.C_drew ?_) | exact HR217.out)) | (with_reducible refine Kd.C_alloc ?_ _) | (with_reducible refine Kd.C_drewN ?_ _) | (with_reducible refine Kd.C_drew ?_))); (case side2 => exact HC217.out); rintro e w71 ⟨v221, rfl, ho0, hb⟩; refine ⟨_, rfl, ?_⟩; have n0_ := Aside0.mk (Kd.R_below (by (with_reducible repeat (first | apply Kd.R_alloc | apply Kd.R_drewN | apply Kd.R_drew)); exact HO_17.out) hb); have n1_ := Aside0.mk (Kd.R_lower ho0 (below_size (by repeat (first | (with_reducible first | exact HB.out | apply below_alloc | apply pw_below_drewN | apply below_drew1) | exact HB.out)))); have n2_ := Aside0.mk (Kd.C_below (by repeat (first | (with_reducible exact HR217.out) | (with_reducible refine Kd.C_alloc ?_ _) | (with_reducible refine Kd.C_drewN ?_ _) | (with_reducible refine Kd.C_drew ?_) | exact HR217.out)) hb); have n3_ := Aside0.mk (below_step (by repeat (first | (with_reducible first | exact HB.out | apply below_alloc | apply pw_below_drewN | apply below_drew1) | exact HB.out)) hb); clear HO_17; clear HR217; clear HB; have HO_17 := n0_; have HO222 := n1_; have HR217 := n2_; have HB := n3_; clear n0_ n1_ n2_ n3_; (try clear hb); (try clear hb2); (try clear hk); (try clear hi); (try clear ho0)) | (go_at_call 8; (with_reducible refine (argosylaw08_lives.calls kj45  t223 _ A69.out).mono ?_); rintro e w72 ⟨rfl, hb⟩; have n0_ := Aside0.mk (Kd.R_below (by (with_reducible repeat (first | apply Kd.R_alloc | apply Kd.R_drewN | apply Kd.R_drew)); exact HO_17.out) hb); have n1_ := Aside0.mk (Kd.R_below (by (with_reducible repeat (first | apply Kd.R_alloc | apply Kd.R_drewN | apply Kd.R_drew)); exact HO222.out) hb); have n2_ := Aside0.mk (Kd.C_below (by repeat (first | (with_reducible exact HR217.out) | (with_reducible refine Kd.C_alloc ?_ _) | (with_reducible refine Kd.C_drewN ?_ _) | (with_reducible refine Kd.C_drew ?_) | exact HR217.out)) hb); have n3_ := Aside0.mk (below_step (by repeat (first | (with_reducible first | exact HB.out | apply below_alloc | apply pw_below_drewN | apply below_drew1) | exact HB.out)) hb); clear HO_17; clear HO222; clear HR217; clear HB; have HO_17 := n0_; have HO222 := n1_; have HR217 := n2_; have HB := n3_; clear n0_ n1_ n2_ n3_; (try clear hb); (try clear hb2); (try clear hk); (try clear hi)))
                              go_ret
                              exact ⟨by first | rfl | (simp [errW_none, errW_some] <;> rfl) | (simp only [← hji64]; first | rfl | (simp [errW_none, errW_some] <;> rfl)) | (simp [*, errW_none, errW_some] <;> rfl), by repeat (first | (with_reducible first | exact HB.out | apply below_alloc | apply pw_below_drewN | apply below_drew1) | exact HB.out)⟩
                            · rw [if_neg c68] at H
                              have c68b0 : (t220 == 3) = false := beq_eq_false_iff_ne.mpr c68
                              have c68b1 : (t220 != 3) = true := bne_iff_ne.mpr c68
                              obtain rfl := Option.some.inj H
                              have q73 : ((ji64) : Int) ≤ ((t194.length : Int) : Int) := of_decide_eq_true (by first | (with_reducible assumption) | assumption)
                              obtain ⟨i073, hi073, _, hsz73, _⟩ := info_parts info5
                              have hroom73 : t194.length ≤ co51 := (Kd.R_reads' HO_17.out).2.1
                              have hC73 : Kd.C (Kd.int .u8) _ Ao51 t194.length t194 := (Kd.R_reads' HO_17.out).2.2
                              have hcut73 := cut_to (P := Try.prog) 22 5 .i64 Try.underlying22 hi073 Ao51 t194.length co51 (ji64) (of_decide_eq_true (by first | (with_reducible assumption) | assumption)) q73 hroom73
                              have hr73 := Kd.C_take (m := ((ji64) : Int).toNat) hC73 (by omega)
                              have hy73 : y214.length = ((ji64) : Int).toNat := (by rw [Ny214.out, List.length_take]; omega)
                              rw [← Ny214.out] at hr73
                              rw [← hy73] at hcut73
                              have HR217 := Aside0.mk hr73
                              have HC217 := Aside0.mk (show y214.length ≤ co51 from by omega)
                              clear hr73 hC73 hroom73 hi073 hsz73
                              have KY73 := Aside0.mk hy73
                              clear hy73
                              have KL73 := Aside0.mk (show ((ji64) : Int).toNat ≤ t194.length from by omega)
                              replace q73 := eq_true q73
                              go_wp2_with (first | ((with_reducible refine gate_callee (f := 15) rfl ?_); refine goesL_ (some 155) rfl rfl Try.func15 (by kernel_rfl) rfl #[.slice Ao51 y214.length co51, .int .i64 (l0.length : Int)] rfl (by (try simp only [List.map_toArray, List.map_cons, List.map_nil]); first | done | rfl | (simp only [List.length_drop, List.length_take]; rfl)) ?_; (with_reducible refine (wire_Takes.calls kj45 _ _ y214 (l0.length : Int) t218 t219 t220 _ ?side1 ?side2 A67.out).mono ?_); (case side1 => repeat (first | exact (by repeat (first | (with_reducible exact HR217.out) | (with_reducible refine Kd.C_alloc ?_ _) | (with_reducible refine Kd.C_drewN ?_ _) | (with_reducible refine Kd.C_drew ?_) | exact HR217.out)) | (with_reducible refine Kd.C_alloc ?_ _) | (with_reducible refine Kd.C_drewN ?_ _) | (with_reducible refine Kd.C_drew ?_))); (case side2 => exact HC217.out); rintro e w74 ⟨v221, rfl, ho0, hb⟩; refine ⟨_, rfl, ?_⟩; have n0_ := Aside0.mk (Kd.R_below (by (with_reducible repeat (first | apply Kd.R_alloc | apply Kd.R_drewN | apply Kd.R_drew)); exact HO_17.out) hb); have n1_ := Aside0.mk (Kd.R_lower ho0 (below_size (by repeat (first | (with_reducible first | exact HB.out | apply below_alloc | apply pw_below_drewN | apply below_drew1) | exact HB.out)))); have n2_ := Aside0.mk (Kd.C_below (by repeat (first | (with_reducible exact HR217.out) | (with_reducible refine Kd.C_alloc ?_ _) | (with_reducible refine Kd.C_drewN ?_ _) | (with_reducible refine Kd.C_drew ?_) | exact HR217.out)) hb); have n3_ := Aside0.mk (below_step (by repeat (first | (with_reducible first | exact HB.out | apply below_alloc | apply pw_below_drewN | apply below_drew1) | exact HB.out)) hb); clear HO_17; clear HR217; clear HB; have HO_17 := n0_; have HO222 := n1_; have HR217 := n2_; have HB := n3_; clear n0_ n1_ n2_ n3_; (try clear hb); (try clear hb2); (try clear hk); (try clear hi); (try clear ho0)))
                              go_ret
                              exact ⟨by first | rfl | (simp [errW_none, errW_some] <;> rfl) | (simp only [← hji64]; first | rfl | (simp [errW_none, errW_some] <;> rfl)) | (simp [*, errW_none, errW_some] <;> rfl), by repeat (first | (with_reducible first | exact HB.out | apply below_alloc | apply pw_below_drewN | apply below_drew1) | exact HB.out)⟩
                          · rw [if_neg c66] at H
                            exact absurd H (by simp)
                        · rw [if_neg c65] at H
                          exact absurd H (by simp)
                · rw [if_neg c44] at H
                  exact absurd H (by simp)
              · rw [if_neg c43] at H
                exact absurd H (by simp)
            · rw [if_neg c42] at H
              have c42b0 : (t195 == 0) = false := beq_eq_false_iff_ne.mpr c42
              have c42b1 : (t195 != 0) = true := bne_iff_ne.mpr c42
              by_cases c75 : (t194.length : Int) = 0
              · rw [if_pos c75] at H
                have c75b0 : ((t194.length : Int) == 0) = true := beq_iff_eq.mpr c75
                have c75b1 : ((t194.length : Int) != 0) = false := bne_eq_false_iff_eq.mpr c75
                clear c75
                replace H := Option.bind_eq_some_iff.mp H
                obtain ⟨t198, A760, H⟩ := H
                replace H : (some t198) = some r := H
                have A76 := Aside0.mk A760
                clear A760
                obtain rfl := Option.some.inj H
                go_wp2_with (first | ((with_reducible refine gate_callee (f := 11) rfl ?_); refine goesL_ (some 103) rfl rfl Try.func11 (by kernel_rfl) rfl #[.slice A0 l0.length c0, .slice A2 l2.length c2] rfl (by (try simp only [List.map_toArray, List.map_cons, List.map_nil]); first | done | rfl | (simp only [List.length_drop, List.length_take]; rfl)) ?_; (with_reducible refine (wire_Puts.calls kj11 _ _ l0 _ _ l2 t194 t195 _ ?side1 ?side2 ?side3 ?side4 A41.out).mono ?_); (case side1 => repeat (first | exact (Kd.C_below HR0.out HB.out) | (with_reducible refine Kd.C_alloc ?_ _) | (with_reducible refine Kd.C_drewN ?_ _) | (with_reducible refine Kd.C_drew ?_))); (case side2 => exact HC0.out); (case side3 => repeat (first | exact (Kd.C_below HR2.out HB.out) | (with_reducible refine Kd.C_alloc ?_ _) | (with_reducible refine Kd.C_drewN ?_ _) | (with_reducible refine Kd.C_drew ?_))); (case side4 => exact HC2.out); rintro e w77 ⟨v196, rfl, ho0, hb⟩; refine ⟨_, rfl, ?_⟩; have n0_ := Aside0.mk (Kd.R_lower ho0 (below_size (by repeat (first | (with_reducible first | exact HB.out | apply below_alloc | apply pw_below_drewN | apply below_drew1) | exact HB.out)))); have n1_ := Aside0.mk (below_step (by repeat (first | (with_reducible first | exact HB.out | apply below_alloc | apply pw_below_drewN | apply below_drew1) | exact HB.out)) hb); clear HB; have HO197 := n0_; have HB := n1_; clear n0_ n1_; (try clear hb); (try clear hb2); (try clear hk); (try clear hi); (try clear ho0); obtain ⟨Ao78, co78, eo78⟩ := Kd.R_slice HO197.out; subst eo78) | (go_at_call 8; (with_reducible refine (argosylaw08_lives.calls kj11  t198 _ A76.out).mono ?_); rintro e w79 ⟨rfl, hb⟩; have n0_ := Aside0.mk (Kd.R_below (by (with_reducible repeat (first | apply Kd.R_alloc | apply Kd.R_drewN | apply Kd.R_drew)); exact HO197.out) hb); have n1_ := Aside0.mk (below_step (by repeat (first | (with_reducible first | exact HB.out | apply below_alloc | apply pw_below_drewN | apply below_drew1) | exact HB.out)) hb); clear HO197; clear HB; have HO197 := n0_; have HB := n1_; clear n0_ n1_; (try clear hb); (try clear hb2); (try clear hk); (try clear hi)))
                go_ret
                exact ⟨by first | rfl | (simp [errW_none, errW_some] <;> rfl) | (simp [*, errW_none, errW_some] <;> rfl), by repeat (first | (with_reducible first | exact HB.out | apply below_alloc | apply pw_below_drewN | apply below_drew1) | exact HB.out)⟩
              · rw [if_neg c75] at H
                have c75b0 : ((t194.length : Int) == 0) = false := beq_eq_false_iff_ne.mpr c75
                have c75b1 : ((t194.length : Int) != 0) = true := bne_iff_ne.mpr c75
                have c75b2 : ¬ (t194 = []) := fun h_ => c75 (by rw [h_]; rfl)
                obtain rfl := Option.some.inj H
                go_wp2_with (first | ((with_reducible refine gate_callee (f := 11) rfl ?_); refine goesL_ (some 103) rfl rfl Try.func11 (by kernel_rfl) rfl #[.slice A0 l0.length c0, .slice A2 l2.length c2] rfl (by (try simp only [List.map_toArray, List.map_cons, List.map_nil]); first | done | rfl | (simp only [List.length_drop, List.length_take]; rfl)) ?_; (with_reducible refine (wire_Puts.calls kj11 _ _ l0 _ _ l2 t194 t195 _ ?side1 ?side2 ?side3 ?side4 A41.out).mono ?_); (case side1 => repeat (first | exact (Kd.C_below HR0.out HB.out) | (with_reducible refine Kd.C_alloc ?_ _) | (with_reducible refine Kd.C_drewN ?_ _) | (with_reducible refine Kd.C_drew ?_))); (case side2 => exact HC0.out); (case side3 => repeat (first | exact (Kd.C_below HR2.out HB.out) | (with_reducible refine Kd.C_alloc ?_ _) | (with_reducible refine Kd.C_drewN ?_ _) | (with_reducible refine Kd.C_drew ?_))); (case side4 => exact HC2.out); rintro e w80 ⟨v196, rfl, ho0, hb⟩; refine ⟨_, rfl, ?_⟩; have n0_ := Aside0.mk (Kd.R_lower ho0 (below_size (by repeat (first | (with_reducible first | exact HB.out | apply below_alloc | apply pw_below_drewN | apply below_drew1) | exact HB.out)))); have n1_ := Aside0.mk (below_step (by repeat (first | (with_reducible first | exact HB.out | apply below_alloc | apply pw_below_drewN | apply below_drew1) | exact HB.out)) hb); clear HB; have HO197 := n0_; have HB := n1_; clear n0_ n1_; (try clear hb); (try clear hb2); (try clear hk); (try clear hi); (try clear ho0); obtain ⟨Ao81, co81, eo81⟩ := Kd.R_slice HO197.out; subst eo81))
                go_ret
                exact ⟨by first | rfl | (simp [errW_none, errW_some] <;> rfl) | (simp [*, errW_none, errW_some] <;> rfl), by repeat (first | (with_reducible first | exact HB.out | apply below_alloc | apply pw_below_drewN | apply below_drew1) | exact HB.out)⟩

/-- THE ONE PURE STATEMENT of argosylaw08_WireBack: yours. -/
def argosylaw08_WireBack.Pure : Prop := ∀ (l0 : List Int) (a1 : Int) (l2 : List Int) (l3 : List Int), l0.length ≤ maxLen → l0.length * 1 ≤ 140737488351232 → (∀ x ∈ l0, (Lit.int .u8 x).wf = true) → (Lit.int .i64 a1).wf = true → l2.length ≤ maxLen → l2.length * 8 ≤ 140737488351232 → (∀ x ∈ l2, (Lit.int .i64 x).wf = true) → l3.length ≤ maxLen → l3.length * 1 ≤ 140737488351232 → (∀ x ∈ l3, (Lit.int .u8 x).wf = true) → ∃ k, argosylaw08_WireBack.f k l0 a1 l2 l3 = some true
theorem argosylaw08_WireBack.walk (P : argosylaw08_WireBack.Pure) (a0 : Option Addr) (len0 cap0 : Nat) (z0 : List Int) (a1 : Int) (a2 : Option Addr) (len2 cap2 : Nat) (z2 : List Int) (a3 : Option Addr) (len3 cap3 : Nat) (z3 : List Int) (w : World) (w0 : (a0 = none ∧ len0 = 0 ∧ cap0 = 0 ∧ z0 = []) ∨ ∃ x, a0 = some x ∧ len0 ≤ cap0 ∧ cap0 ≤ maxLen ∧ z0.length = cap0 ∧ (∀ i, i < z0.length → w.cell? (x.add i) = some (.int .u8 (z0.getD i 0))) ∧ ∀ n ∈ z0, (Lit.int .u8 n).wf = true) (y0 : len0 * 1 ≤ 140737488351232) (w1 : (Lit.int .i64 a1).wf = true) (w2 : (a2 = none ∧ len2 = 0 ∧ cap2 = 0 ∧ z2 = []) ∨ ∃ x, a2 = some x ∧ len2 ≤ cap2 ∧ cap2 ≤ maxLen ∧ z2.length = cap2 ∧ (∀ i, i < z2.length → w.cell? (x.add i) = some (.int .i64 (z2.getD i 0))) ∧ ∀ n ∈ z2, (Lit.int .i64 n).wf = true) (y2 : len2 * 8 ≤ 140737488351232) (w3 : (a3 = none ∧ len3 = 0 ∧ cap3 = 0 ∧ z3 = []) ∨ ∃ x, a3 = some x ∧ len3 ≤ cap3 ∧ cap3 ≤ maxLen ∧ z3.length = cap3 ∧ (∀ i, i < z3.length → w.cell? (x.add i) = some (.int .u8 (z3.getD i 0))) ∧ ∀ n ∈ z3, (Lit.int .u8 n).wf = true) (y3 : len3 * 1 ≤ 140737488351232) :
    Calls Try.prog 5 #[.slice a0 len0 cap0, .int .i64 a1, .slice a2 len2 cap2, .slice a3 len3 cap3] w fun e w' => e = .returned (.bool true) ∧ Below w.heap.size w w' := by
  obtain ⟨l0, rfl, hr0, hm0, hw0, hc0⟩ := ReadsInt.ofRowC w0
  obtain ⟨l2, rfl, hr2, hm2, hw2, hc2⟩ := ReadsInt.ofRowC w2
  obtain ⟨l3, rfl, hr3, hm3, hw3, hc3⟩ := ReadsInt.ofRowC w3
  obtain ⟨k, h⟩ := P l0 a1 l2 l3 hm0 y0 hw0 w1 hm2 y2 hw2 hm3 y3 hw3
  refine (argosylaw08_WireBack.calls k _ _ l0 a1 _ _ l2 _ _ l3 true w (Kd.C_of_reads (d := (0 : Int)) (h1 := fun _ => rfl) hr0) hc0 (Kd.C_of_reads (d := (0 : Int)) (h1 := fun _ => rfl) hr2) hc2 (Kd.C_of_reads (d := (0 : Int)) (h1 := fun _ => rfl) hr3) hc3 h).mono ?_
  rintro e w' ⟨rfl, hd⟩
  exact ⟨rfl, hd⟩

end Go.Proofs.Ytinfaefnobokgaa.PWireBack
