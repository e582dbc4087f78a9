-- Written by a patched print (wip/mkprint.py), for this claim.
import Derived.Test.YtclkdnpfiolahaaDoorPEventPutsx0
import Derived.Test.YtclkdnpfiolahaaDoorPEventPutsx2
import Derived.Test.YtclkdnpfiolahaaDoorPEventPutsx5
import Derived.Test.YtclkdnpfiolahaaDoorPEventPutsx7
namespace Go.Proofs.YtclkdnpfiolahaaDoor.PEventPuts
open Go.RowKit Go.Proofs.YtclkdnpfiolahaaDoorW.PrintWords Go.Proofs.YtclkdnpfiolahaaDoorW.PrintLast Go.Proofs.YtclkdnpfiolahaaDoorW.PrintMore
attribute [local go_sem] max2_int min2_int max_two min_two max_three min_three max_four min_four   -- for this text's walks alone
set_option linter.unusedVariables false
set_option linter.unusedSimpArgs false

/-! ### argosyref10_Text: function 16 -/
mutual
def argosyref10_Text.j0 : Nat → ByteArray → Int → Int → Int → List Int → Option (ByteArray)
  | 0, _, _, _, _, _ => none
  | k + 1, x3, x230000, x230001, x230002, x230003 => argosyref10_Text.l0 k x3 0 x230000 x230001 x230002 x230003
def argosyref10_Text.l0 : Nat → ByteArray → Int → Int → Int → Int → List Int → Option (ByteArray)
  | 0, _, _, _, _, _, _ => none
  | k + 1, x3, x4, x230000, x230001, x230002, x230003 => if x4 < (x230003.length : Int) then (if x3.size + 1 ≤ 9223372036854775807 then (if 0 ≤ x4 then ((argosyref10_Digits.f k (rd x230003 x4)).bind fun t238 => (if (x3 ++ (⟨#[32]⟩ : ByteArray)).size + t238.size ≤ 9223372036854775807 then (argosyref10_Text.l0 k ((x3 ++ (⟨#[32]⟩ : ByteArray)) ++ t238) (wrap64 (x4 + 1)) x230000 x230001 x230002 x230003) else (none))) else (none)) else (none)) else (some x3)
end
def argosyref10_Text.f (k : Nat) (a0_0 : Int) (a0_1 : Int) (a0_2 : Int) (l0_3 : List Int) : Option (ByteArray) := (argosyref10_Right.f k a0_0 a0_1 a0_2 l0_3).bind fun t230 => (if t230 = true then ((some (([(⟨#[]⟩ : ByteArray), (⟨#[115, 116, 97, 114, 116]⟩ : ByteArray), (⟨#[111, 107]⟩ : ByteArray), (⟨#[102, 97, 105, 108]⟩ : ByteArray), (⟨#[117, 110, 100, 111]⟩ : ByteArray), (⟨#[117, 110, 100, 111, 110, 101]⟩ : ByteArray), (⟨#[115, 108, 105, 112]⟩ : ByteArray)] : List ByteArray) : List ByteArray)).bind fun y231 => (if 0 ≤ a0_0 then (if a0_0 < (y231.length : Int) then (if (rdOf ByteArray.empty y231 a0_0).size + 1 ≤ 9223372036854775807 then ((argosyref10_Digits.f k a0_1).bind fun t235 => (if ((rdOf ByteArray.empty y231 a0_0) ++ (⟨#[32]⟩ : ByteArray)).size + t235.size ≤ 9223372036854775807 then (if a0_0 > 3 then (if (((rdOf ByteArray.empty y231 a0_0) ++ (⟨#[32]⟩ : ByteArray)) ++ t235).size + 1 ≤ 9223372036854775807 then ((argosyref10_Digits.f k a0_2).bind fun t236 => (if ((((rdOf ByteArray.empty y231 a0_0) ++ (⟨#[32]⟩ : ByteArray)) ++ t235) ++ (⟨#[46]⟩ : ByteArray)).size + t236.size ≤ 9223372036854775807 then (argosyref10_Text.j0 k (((((rdOf ByteArray.empty y231 a0_0) ++ (⟨#[32]⟩ : ByteArray)) ++ t235) ++ (⟨#[46]⟩ : ByteArray)) ++ t236) a0_0 a0_1 a0_2 l0_3) else (none))) else (none)) else (argosyref10_Text.j0 k (((rdOf ByteArray.empty y231 a0_0) ++ (⟨#[32]⟩ : ByteArray)) ++ t235) a0_0 a0_1 a0_2 l0_3)) else (none))) else (none)) else (none)) else (none))) else (some (⟨#[]⟩ : ByteArray)))
theorem argosyref10_Text.mono_l : ∀ k, (∀ y0 y1 y2 y3 y4, LeO (argosyref10_Text.j0 k y0 y1 y2 y3 y4) (argosyref10_Text.j0 (k + 1) y0 y1 y2 y3 y4)) ∧ (∀ y0 y1 y2 y3 y4 y5, LeO (argosyref10_Text.l0 k y0 y1 y2 y3 y4 y5) (argosyref10_Text.l0 (k + 1) y0 y1 y2 y3 y4 y5))
  | 0 => ⟨fun _ _ _ _ _ r h => by simp [argosyref10_Text.j0] at h, fun _ _ _ _ _ _ r h => by simp [argosyref10_Text.l0] at h⟩
  | k + 1 => by
    obtain ⟨ih0, ih1⟩ := argosyref10_Text.mono_l k
    refine ⟨?_, ?_⟩
    · intro y0 y1 y2 y3 y4
      unfold argosyref10_Text.j0
      repeat' first
      | (with_reducible exact ih0 _ _ _ _ _)
      | (with_reducible exact ih1 _ _ _ _ _ _)
      | (with_reducible exact argosyref10_Digits.mono _ _)
      | (with_reducible exact argosyref10_Right.mono _ _ _ _ _)
      | (with_reducible exact LeO.refl _)
      | (with_reducible exact LeO.none _)
      | (with_reducible refine LeO.ite ?_ ?_)
      | (with_reducible refine LeO.bind ?_ (fun _ => ?_))
      | exact ih0 _ _ _ _ _
      | exact ih1 _ _ _ _ _ _
      | exact argosyref10_Digits.mono _ _
      | exact argosyref10_Right.mono _ _ _ _ _
      | exact LeO.none _
      | refine LeO.ite ?_ ?_
      | refine LeO.bind ?_ (fun _ => ?_)
    · intro y0 y1 y2 y3 y4 y5
      unfold argosyref10_Text.l0
      repeat' first
      | (with_reducible exact ih0 _ _ _ _ _)
      | (with_reducible exact ih1 _ _ _ _ _ _)
      | (with_reducible exact argosyref10_Digits.mono _ _)
      | (with_reducible exact argosyref10_Right.mono _ _ _ _ _)
      | (with_reducible exact LeO.refl _)
      | (with_reducible exact LeO.none _)
      | (with_reducible refine LeO.ite ?_ ?_)
      | (with_reducible refine LeO.bind ?_ (fun _ => ?_))
      | exact ih0 _ _ _ _ _
      | exact ih1 _ _ _ _ _ _
      | exact argosyref10_Digits.mono _ _
      | exact argosyref10_Right.mono _ _ _ _ _
      | exact LeO.none _
      | refine LeO.ite ?_ ?_
      | refine LeO.bind ?_ (fun _ => ?_)
theorem argosyref10_Text.mono : ∀ a0 a1 a2 a3 k, LeO (argosyref10_Text.f k a0 a1 a2 a3) (argosyref10_Text.f (k + 1) a0 a1 a2 a3) := by
  intro a0 a1 a2 a3 k
  obtain ⟨ih0, ih1⟩ := argosyref10_Text.mono_l k
  unfold argosyref10_Text.f
  repeat' first
      | (with_reducible exact ih0 _ _ _ _ _)
      | (with_reducible exact ih1 _ _ _ _ _ _)
      | (with_reducible exact argosyref10_Digits.mono _ _)
      | (with_reducible exact argosyref10_Right.mono _ _ _ _ _)
      | (with_reducible exact LeO.refl _)
      | (with_reducible exact LeO.none _)
      | (with_reducible refine LeO.ite ?_ ?_)
      | (with_reducible refine LeO.bind ?_ (fun _ => ?_))
      | exact ih0 _ _ _ _ _
      | exact ih1 _ _ _ _ _ _
      | exact argosyref10_Digits.mono _ _
      | exact argosyref10_Right.mono _ _ _ _ _
      | exact LeO.none _
      | refine LeO.ite ?_ ?_
      | refine LeO.bind ?_ (fun _ => ?_)
def argosyref10_Text.T3 : Bool × List (List Nat × List Nat) := (true, [([], []), ([], []), ([1], [1]), ([0, 2], [0, 2]), ([3], [3]), ([4], [4]), ([], []), ([6], [6]), ([7], [7]), ([5, 8], [5, 8]), ([9, 8, 0, 1, 2, 3, 4, 5, 6, 7, 8, 9], [9])])
def argosyref10_Text.B3 : List Nat := [0, 0, 2, 7, 15, 31, 0, 64, 192, 511, 1023]
theorem argosyref10_Text.tab3 : rtab .any (opsOf Tryd.f16 3) = argosyref10_Text.T3 := by kernel_rfl
theorem argosyref10_Text.bits3 : waitsOk argosyref10_Text.T3.2 argosyref10_Text.B3 = true := by kernel_rfl
set_option maxHeartbeats 8000000 in
set_option maxRecDepth 100000 in
theorem argosyref10_Text.calls (k : Nat) (a0_0 : Int) (a0_1 : Int) (a0_2 : Int) (A0_3 : Option Addr) (c0_3 : Nat) (l0_3 : List Int) (r : ByteArray) (w : World) (hr0_3 : Kd.C (Kd.int .i64) w A0_3 l0_3.length l0_3) (hc0_3 : l0_3.length ≤ c0_3) (h : argosyref10_Text.f k a0_0 a0_1 a0_2 l0_3 = some r) :
    Calls Tryd.prog 16 #[.agg #[.int .i64 a0_0, .int .i64 a0_1, .int .i64 a0_2, .slice A0_3 l0_3.length c0_3]] w fun e w' => e = .returned (.string r) ∧ Below w.heap.size w w' := by
  have hu27 := Tryd.underlying27
  have HR0_3 := Aside0.mk hr0_3
  have HC0_3 := Aside0.mk hc0_3
  clear hr0_3 hc0_3
  have HB := Aside0.mk (Below.refl w.heap.size w)
  have H : ((argosyref10_Right.f k a0_0 a0_1 a0_2 l0_3).bind fun t230 => (if t230 = true then ((some (([(⟨#[]⟩ : ByteArray), (⟨#[115, 116, 97, 114, 116]⟩ : ByteArray), (⟨#[111, 107]⟩ : ByteArray), (⟨#[102, 97, 105, 108]⟩ : ByteArray), (⟨#[117, 110, 100, 111]⟩ : ByteArray), (⟨#[117, 110, 100, 111, 110, 101]⟩ : ByteArray), (⟨#[115, 108, 105, 112]⟩ : ByteArray)] : List ByteArray) : List ByteArray)).bind fun y231 => (if 0 ≤ a0_0 then (if a0_0 < (y231.length : Int) then (if (rdOf ByteArray.empty y231 a0_0).size + 1 ≤ 9223372036854775807 then ((argosyref10_Digits.f k a0_1).bind fun t235 => (if ((rdOf ByteArray.empty y231 a0_0) ++ (⟨#[32]⟩ : ByteArray)).size + t235.size ≤ 9223372036854775807 then (if a0_0 > 3 then (if (((rdOf ByteArray.empty y231 a0_0) ++ (⟨#[32]⟩ : ByteArray)) ++ t235).size + 1 ≤ 9223372036854775807 then ((argosyref10_Digits.f k a0_2).bind fun t236 => (if ((((rdOf ByteArray.empty y231 a0_0) ++ (⟨#[32]⟩ : ByteArray)) ++ t235) ++ (⟨#[46]⟩ : ByteArray)).size + t236.size ≤ 9223372036854775807 then (argosyref10_Text.j0 k (((((rdOf ByteArray.empty y231 a0_0) ++ (⟨#[32]⟩ : ByteArray)) ++ t235) ++ (⟨#[46]⟩ : ByteArray)) ++ t236) a0_0 a0_1 a0_2 l0_3) else (none))) else (none)) else (argosyref10_Text.j0 k (((rdOf ByteArray.empty y231 a0_0) ++ (⟨#[32]⟩ : ByteArray)) ++ t235) a0_0 a0_1 a0_2 l0_3)) else (none))) else (none)) else (none)) else (none))) else (some (⟨#[]⟩ : ByteArray)))) = some r := h
  clear h
  replace H := Option.bind_eq_some_iff.mp H
  obtain ⟨t230, A20, H⟩ := H
  replace H : (if t230 = true then ((some (([(⟨#[]⟩ : ByteArray), (⟨#[115, 116, 97, 114, 116]⟩ : ByteArray), (⟨#[111, 107]⟩ : ByteArray), (⟨#[102, 97, 105, 108]⟩ : ByteArray), (⟨#[117, 110, 100, 111]⟩ : ByteArray), (⟨#[117, 110, 100, 111, 110, 101]⟩ : ByteArray), (⟨#[115, 108, 105, 112]⟩ : ByteArray)] : List ByteArray) : List ByteArray)).bind fun y231 => (if 0 ≤ a0_0 then (if a0_0 < (y231.length : Int) then (if (rdOf ByteArray.empty y231 a0_0).size + 1 ≤ 9223372036854775807 then ((argosyref10_Digits.f k a0_1).bind fun t235 => (if ((rdOf ByteArray.empty y231 a0_0) ++ (⟨#[32]⟩ : ByteArray)).size + t235.size ≤ 9223372036854775807 then (if a0_0 > 3 then (if (((rdOf ByteArray.empty y231 a0_0) ++ (⟨#[32]⟩ : ByteArray)) ++ t235).size + 1 ≤ 9223372036854775807 then ((argosyref10_Digits.f k a0_2).bind fun t236 => (if ((((rdOf ByteArray.empty y231 a0_0) ++ (⟨#[32]⟩ : ByteArray)) ++ t235) ++ (⟨#[46]⟩ : ByteArray)).size + t236.size ≤ 9223372036854775807 then (argosyref10_Text.j0 k (((((rdOf ByteArray.empty y231 a0_0) ++ (⟨#[32]⟩ : ByteArray)) ++ t235) ++ (⟨#[46]⟩ : ByteArray)) ++ t236) a0_0 a0_1 a0_2 l0_3) else (none))) else (none)) else (argosyref10_Text.j0 k (((rdOf ByteArray.empty y231 a0_0) ++ (⟨#[32]⟩ : ByteArray)) ++ t235) a0_0 a0_1 a0_2 l0_3)) else (none))) else (none)) else (none)) else (none))) else (some (⟨#[]⟩ : ByteArray))) = some r := H
  have A2 := Aside0.mk A20
  clear A20
  by_cases c3 : t230 = true
  · subst c3
    have H1 : ((some (([(⟨#[]⟩ : ByteArray), (⟨#[115, 116, 97, 114, 116]⟩ : ByteArray), (⟨#[111, 107]⟩ : ByteArray), (⟨#[102, 97, 105, 108]⟩ : ByteArray), (⟨#[117, 110, 100, 111]⟩ : ByteArray), (⟨#[117, 110, 100, 111, 110, 101]⟩ : ByteArray), (⟨#[115, 108, 105, 112]⟩ : ByteArray)] : List ByteArray) : List ByteArray)).bind fun y231 => (if 0 ≤ a0_0 then (if a0_0 < (y231.length : Int) then (if (rdOf ByteArray.empty y231 a0_0).size + 1 ≤ 9223372036854775807 then ((argosyref10_Digits.f k a0_1).bind fun t235 => (if ((rdOf ByteArray.empty y231 a0_0) ++ (⟨#[32]⟩ : ByteArray)).size + t235.size ≤ 9223372036854775807 then (if a0_0 > 3 then (if (((rdOf ByteArray.empty y231 a0_0) ++ (⟨#[32]⟩ : ByteArray)) ++ t235).size + 1 ≤ 9223372036854775807 then ((argosyref10_Digits.f k a0_2).bind fun t236 => (if ((((rdOf ByteArray.empty y231 a0_0) ++ (⟨#[32]⟩ : ByteArray)) ++ t235) ++ (⟨#[46]⟩ : ByteArray)).size + t236.size ≤ 9223372036854775807 then (argosyref10_Text.j0 k (((((rdOf ByteArray.empty y231 a0_0) ++ (⟨#[32]⟩ : ByteArray)) ++ t235) ++ (⟨#[46]⟩ : ByteArray)) ++ t236) a0_0 a0_1 a0_2 l0_3) else (none))) else (none)) else (argosyref10_Text.j0 k (((rdOf ByteArray.empty y231 a0_0) ++ (⟨#[32]⟩ : ByteArray)) ++ t235) a0_0 a0_1 a0_2 l0_3)) else (none))) else (none)) else (none)) else (none))) = some r := by rw [if_pos rfl] at H; exact H
    clear H
    have H := H1
    clear H1
    obtain ⟨y231, hy231⟩ : ∃ y_ : List ByteArray, y_ = (([(⟨#[]⟩ : ByteArray), (⟨#[115, 116, 97, 114, 116]⟩ : ByteArray), (⟨#[111, 107]⟩ : ByteArray), (⟨#[102, 97, 105, 108]⟩ : ByteArray), (⟨#[117, 110, 100, 111]⟩ : ByteArray), (⟨#[117, 110, 100, 111, 110, 101]⟩ : ByteArray), (⟨#[115, 108, 105, 112]⟩ : ByteArray)] : List ByteArray)) := ⟨_, rfl⟩
    replace H : (if 0 ≤ a0_0 then (if a0_0 < (y231.length : Int) then (if (rdOf ByteArray.empty y231 a0_0).size + 1 ≤ 9223372036854775807 then ((argosyref10_Digits.f k a0_1).bind fun t235 => (if ((rdOf ByteArray.empty y231 a0_0) ++ (⟨#[32]⟩ : ByteArray)).size + t235.size ≤ 9223372036854775807 then (if a0_0 > 3 then (if (((rdOf ByteArray.empty y231 a0_0) ++ (⟨#[32]⟩ : ByteArray)) ++ t235).size + 1 ≤ 9223372036854775807 then ((argosyref10_Digits.f k a0_2).bind fun t236 => (if ((((rdOf ByteArray.empty y231 a0_0) ++ (⟨#[32]⟩ : ByteArray)) ++ t235) ++ (⟨#[46]⟩ : ByteArray)).size + t236.size ≤ 9223372036854775807 then (argosyref10_Text.j0 k (((((rdOf ByteArray.empty y231 a0_0) ++ (⟨#[32]⟩ : ByteArray)) ++ t235) ++ (⟨#[46]⟩ : ByteArray)) ++ t236) a0_0 a0_1 a0_2 l0_3) else (none))) else (none)) else (argosyref10_Text.j0 k (((rdOf ByteArray.empty y231 a0_0) ++ (⟨#[32]⟩ : ByteArray)) ++ t235) a0_0 a0_1 a0_2 l0_3)) else (none))) else (none)) else (none)) else (none)) = some r := by first | (rw [hy231]; with_reducible exact H) | (have H2_ := (Option.bind_some _ _).symm.trans H; rw [hy231]; with_reducible exact H2_) | (have H2_ := (Option.bind_some _ _).symm.trans H; with_reducible exact H2_) | with_reducible exact H | (rw [hy231]; exact H) | exact H
    have Ny231 := Aside0.mk hy231
    clear hy231
    by_cases c4 : 0 ≤ a0_0
    · rw [if_pos c4] at H
      have c4b0 : decide (0 ≤ a0_0) = true := decide_eq_true c4
      clear c4
      by_cases c5 : a0_0 < (y231.length : Int)
      · rw [if_pos c5] at H
        have c5b0 : decide (a0_0 < (y231.length : Int)) = true := decide_eq_true c5
        clear c5
        by_cases c6 : (rdOf ByteArray.empty y231 a0_0).size + 1 ≤ 9223372036854775807
        · rw [if_pos c6] at H
          have c6b0 := eq_true c6
          have c6b1 : decide ((rdOf ByteArray.empty y231 a0_0).size + 1 ≤ 9223372036854775807) = true := decide_eq_true c6
          try have c6b2 : (9223372036854775807 < (rdOf ByteArray.empty y231 a0_0).size + 1) = False := eq_false (Nat.not_lt.2 c6)
          try (have c6b3 := c6b2; simp only [ByteArray.size_append] at c6b3)
          clear c6
          replace H := Option.bind_eq_some_iff.mp H
          obtain ⟨t235, A70, H⟩ := H
          replace H : (if ((rdOf ByteArray.empty y231 a0_0) ++ (⟨#[32]⟩ : ByteArray)).size + t235.size ≤ 9223372036854775807 then (if a0_0 > 3 then (if (((rdOf ByteArray.empty y231 a0_0) ++ (⟨#[32]⟩ : ByteArray)) ++ t235).size + 1 ≤ 9223372036854775807 then ((argosyref10_Digits.f k a0_2).bind fun t236 => (if ((((rdOf ByteArray.empty y231 a0_0) ++ (⟨#[32]⟩ : ByteArray)) ++ t235) ++ (⟨#[46]⟩ : ByteArray)).size + t236.size ≤ 9223372036854775807 then (argosyref10_Text.j0 k (((((rdOf ByteArray.empty y231 a0_0) ++ (⟨#[32]⟩ : ByteArray)) ++ t235) ++ (⟨#[46]⟩ : ByteArray)) ++ t236) a0_0 a0_1 a0_2 l0_3) else (none))) else (none)) else (argosyref10_Text.j0 k (((rdOf ByteArray.empty y231 a0_0) ++ (⟨#[32]⟩ : ByteArray)) ++ t235) a0_0 a0_1 a0_2 l0_3)) else (none)) = some r := H
          have A7 := Aside0.mk A70
          clear A70
          by_cases c8 : ((rdOf ByteArray.empty y231 a0_0) ++ (⟨#[32]⟩ : ByteArray)).size + t235.size ≤ 9223372036854775807
          · rw [if_pos c8] at H
            have c8b0 := eq_true c8
            have c8b1 : decide (((rdOf ByteArray.empty y231 a0_0) ++ (⟨#[32]⟩ : ByteArray)).size + t235.size ≤ 9223372036854775807) = true := decide_eq_true c8
            try have c8b2 : (9223372036854775807 < ((rdOf ByteArray.empty y231 a0_0) ++ (⟨#[32]⟩ : ByteArray)).size + t235.size) = False := eq_false (Nat.not_lt.2 c8)
            try (have c8b3 := c8b2; simp only [ByteArray.size_append] at c8b3)
            try (have c8b4 := c8b3; simp only [show (⟨#[32]⟩ : ByteArray).size = 1 from rfl] at c8b4)
            clear c8
            have HC9 := Aside0.mk H
            clear H
            go_enter Tryd.func16, Tryd.ntmps16
            try go_wp2_with (first | ((with_reducible refine gate_dst (N := 1) rfl ?_); refine box_event ?hg (N := 1) ?hd (cs := #[.int .i64 a0_0, .int .i64 a0_1, .int .i64 a0_2, .slice A0_3 l0_3.length c0_3]) (t := 27) ?hr ?_; (case hd => rfl); (case hg => rfl); (case hr => first | (go_simp; done) | (go_simp; rfl) | (simp only [pf_or128]; go_simp; done) | (simp only [pf_or128]; go_simp; rfl)); intro gb229 hg w10 hbox hb; have n0_ := Aside0.mk (below_step (by repeat (first | (with_reducible first | exact HB.out | apply below_alloc | apply pw_below_drewN | apply below_drew1) | exact HB.out)) hb); have n1_ := Aside0.mk (hbox); have n2_ := Aside0.mk ((by rw [hg]; exact (below_size (by repeat (first | (with_reducible first | exact HB.out | apply below_alloc | apply pw_below_drewN | apply below_drew1) | exact HB.out))) : w.heap.size ≤ gb229)); have n3_ := Aside0.mk ((by rw [hg]; exact (below_size (by repeat (first | (with_reducible first | exact HB.out | apply below_alloc | apply pw_below_drewN | apply below_drew1) | exact HB.out))) : w.heap.size ≤ gb229)); clear HB; have HB := n0_; have BK229 := n1_; have GW229 := n2_; have GE229 := n3_; clear n0_ n1_ n2_ n3_; clear hb hbox hg; have hcz11_0 : w10.cell? ⟨gb229, 0, none⟩ = some (.int .i64 a0_0) := (blk_cell BK229.out 0).trans rfl; have hcz11_1 : w10.cell? ⟨gb229, 1, none⟩ = some (.int .i64 a0_1) := (blk_cell BK229.out 1).trans rfl; have hcz11_2 : w10.cell? ⟨gb229, 2, none⟩ = some (.int .i64 a0_2) := (blk_cell BK229.out 2).trans rfl; have hcz11_3 : w10.cell? ⟨gb229, 3, none⟩ = some (.slice A0_3 l0_3.length c0_3) := (blk_cell BK229.out 3).trans rfl; have hfz11_0 := blk_frozen BK229.out 0; have hfz11_1 := blk_frozen BK229.out 1; have hfz11_2 := blk_frozen BK229.out 2; have hfz11_3 := blk_frozen BK229.out 3) | ((with_reducible refine gate_callee (f := 26) rfl ?_); refine goesL_ (some 6) rfl rfl Tryd.func26 (by kernel_rfl) rfl #[.agg #[.int .i64 a0_0, .int .i64 a0_1, .int .i64 a0_2, .slice A0_3 l0_3.length c0_3]] rfl (by (try simp only [List.map_toArray, List.map_cons, List.map_nil]); first | done | rfl | (simp only [List.length_drop, List.length_take]; rfl)) ?_; (with_reducible refine (argosyref10_Right.calls k a0_0 a0_1 a0_2 _ _ l0_3 true _ ?side1 ?side2 A2.out).mono ?_); (case side1 => repeat (first | exact (Kd.C_below HR0_3.out HB.out) | (with_reducible refine Kd.C_alloc ?_ _) | (with_reducible refine Kd.C_drewN ?_ _) | (with_reducible refine Kd.C_drew ?_))); (case side2 => exact HC0_3.out); rintro e w12 ⟨rfl, hb⟩; refine ⟨_, rfl, ?_⟩; have n0_ := Aside0.mk (blk_below (g := gb229) (o := .cells #[.int .i64 a0_0, .int .i64 a0_1, .int .i64 a0_2, .slice A0_3 l0_3.length c0_3] 27 (0, 0)) (by (with_reducible repeat (first | refine blk_drewN ?_ _ | refine blk_drew ?_ | refine blk_alloc ?_ _)); exact BK229.out) hb); have n1_ := Aside0.mk (below_step (by repeat (first | (with_reducible first | exact HB.out | apply below_alloc | apply pw_below_drewN | apply below_drew1 | refine below_set ?_ GE229.out) | exact HB.out)) hb); clear BK229; clear HB; have BK229 := n0_; have HB := n1_; clear n0_ n1_; (try clear hb); (try clear hb2); (try clear hk); (try clear hi)))
            have pi234 : (0 ≤ (a0_0 : Int)) = True := eq_true (of_decide_eq_true (by first | (with_reducible assumption) | assumption))
            have qi234 : (a0_0 < (y231.length : Int)) = True := eq_true (of_decide_eq_true (by first | (with_reducible assumption) | assumption))
            have n0_ := Aside0.mk (blk_drew BK229.out)
            have n1_ := Aside0.mk (below_drew1 HB.out)
            clear BK229
            clear HB
            have BK229 := n0_
            have HB := n1_
            clear n0_ n1_
            refine start_ (n := 11) (S := fun w' => True) (ds := []) #[false, false, false, false, false, false, false, false, false, false, false] (by kernel_rfl) rfl rfl trivial (fun hHeld => ?_); refine with_tabW argosyref10_Text.tab3 argosyref10_Text.bits3 (fun HT_ HW_ => ?_)
            generalize w12.drew = w13 at BK229 HB hHeld ⊢
            refine pure_ (i := 1) (N := some 9) (v := ?_) (a' := ?_) #[false, true, false, false, false, false, false, false, false, false, false] rfl rfl (any_of HT_.out (by kernel_rfl)) (fun _ _ _ h => h) (Or.inl ⟨by rfl, ?_⟩) ?_ ?_
            rotate_left
            · intro w'
              go_simp
              with_reducible rfl
            rotate_left
            · simp only [Act.put, List.setIfInBounds_toArray, List.set_cons_zero, List.set_cons_succ, i64_w, i32_w, IntKind.wrap_u8, IntKind.wrap_u32]
              rfl
            refine pure_ (i := 6) (N := some 14) (v := ?_) (a' := ?_) #[false, true, false, false, false, false, true, false, false, false, false] rfl rfl (any_of HT_.out (by kernel_rfl)) (fun _ _ _ h => h) (Or.inl ⟨by rfl, ?_⟩) ?_ ?_
            rotate_left
            · intro w'
              go_simp
              with_reducible rfl
            rotate_left
            · simp only [Act.put, List.setIfInBounds_toArray, List.set_cons_zero, List.set_cons_succ, i64_w, i32_w, IntKind.wrap_u8, IntKind.wrap_u32]
              rfl
            refine inv_at [0, 2, 3, 4, 5, 7, 8, 9, 10] (fun a0_ b a w' => ∃ (v232 : Value) (adz_v232 : Addr) (m3_ : Value), a = putSel a0_ b [(0, 8, v232), (2, 10, .int .i64 a0_0), (3, 11, m3_), (4, 12, .string (rdOf ByteArray.empty y231 a0_0)), (5, 13, .string ((rdOf ByteArray.empty y231 a0_0) ++ (⟨#[32]⟩ : ByteArray))), (7, 15, .int .i64 a0_1), (8, 16, .string t235), (9, 17, .string (((rdOf ByteArray.empty y231 a0_0) ++ (⟨#[32]⟩ : ByteArray)) ++ t235)), (10, 3, .string (((rdOf ByteArray.empty y231 a0_0) ++ (⟨#[32]⟩ : ByteArray)) ++ t235))] ∧ (w'.heap[gb229]? = some (.cells #[.int .i64 a0_0, .int .i64 a0_1, .int .i64 a0_2, .slice A0_3 l0_3.length c0_3] 27 (0, 0))) ∧ (Below w.heap.size w w') ∧ (b 0 = true → Kd.R Kd.string 9 w' w.heap.size (fun _ => True) v232 y231) ∧ (b 0 = true → ∃ c_, (v232 : Value) = .slice (some adz_v232) y231.length c_) ∧ (b 3 = true → (m3_ : Value) = .pointer (some (adz_v232.add (a0_0).toNat)))) HT_.out HW_.out (by kernel_rfl) (by kernel_rfl) ?_ ?_ ?_
            · exact ⟨.bool false, ⟨0, 0, none⟩, .bool false, by simp only [putSel, Bool.false_eq_true, if_false], BK229.out, HB.out, fun h_ => absurd h_ (by decide), fun h_ => absurd h_ (by decide), fun h_ => absurd h_ (by decide)⟩
            · skip
              clear BK229 HB
              refine steps_cons ?_ ?_
              · rintro b a w' ⟨v232, adz_v232, m3_, ha, Q_BK229, Q_HB, Q_HO233, Q_HA_HO233, Q_X3_⟩ hb_ hon hoff
                refine ⟨_, rfl, fun K hK => ?_⟩
                replace ha := Aside0.mk ha
                have BK229 := Aside0.mk Q_BK229
                have HB := Aside0.mk Q_HB
                refine Kd.R_lit_step Kd.string _ 9 ?hg (N := 8) ?hd (xs := ([(⟨#[]⟩ : ByteArray), (⟨#[115, 116, 97, 114, 116]⟩ : ByteArray), (⟨#[111, 107]⟩ : ByteArray), (⟨#[102, 97, 105, 108]⟩ : ByteArray), (⟨#[117, 110, 100, 111]⟩ : ByteArray), (⟨#[117, 110, 100, 111, 110, 101]⟩ : ByteArray), (⟨#[115, 108, 105, 112]⟩ : ByteArray)] : List ByteArray)) (inner := [.string (⟨#[]⟩ : ByteArray), .string (⟨#[115, 116, 97, 114, 116]⟩ : ByteArray), .string (⟨#[111, 107]⟩ : ByteArray), .string (⟨#[102, 97, 105, 108]⟩ : ByteArray), .string (⟨#[117, 110, 100, 111]⟩ : ByteArray), .string (⟨#[117, 110, 100, 111, 110, 101]⟩ : ByteArray), .string (⟨#[115, 108, 105, 112]⟩ : ByteArray)]) (ok := fun _ => True) (okp := fun _ => True) ?hr ?hp (fun _ hk => hk) trivial (Below.refl _ _) (Nat.le_refl _) (by simp) ?_; (case hd => rfl); (case hg => rfl); (case hr => first | (go_simp; done) | (go_simp; rfl) | (simp only [pf_or128]; go_simp; done) | (simp only [pf_or128]; go_simp; rfl)); (case hp => exact (Reps.one (show Kd.M Kd.string _ _ _ (⟨#[]⟩ : ByteArray) [.string (⟨#[]⟩ : ByteArray)] from rfl) (Reps.one (show Kd.M Kd.string _ _ _ (⟨#[115, 116, 97, 114, 116]⟩ : ByteArray) [.string (⟨#[115, 116, 97, 114, 116]⟩ : ByteArray)] from rfl) (Reps.one (show Kd.M Kd.string _ _ _ (⟨#[111, 107]⟩ : ByteArray) [.string (⟨#[111, 107]⟩ : ByteArray)] from rfl) (Reps.one (show Kd.M Kd.string _ _ _ (⟨#[102, 97, 105, 108]⟩ : ByteArray) [.string (⟨#[102, 97, 105, 108]⟩ : ByteArray)] from rfl) (Reps.one (show Kd.M Kd.string _ _ _ (⟨#[117, 110, 100, 111]⟩ : ByteArray) [.string (⟨#[117, 110, 100, 111]⟩ : ByteArray)] from rfl) (Reps.one (show Kd.M Kd.string _ _ _ (⟨#[117, 110, 100, 111, 110, 101]⟩ : ByteArray) [.string (⟨#[117, 110, 100, 111, 110, 101]⟩ : ByteArray)] from rfl) (Reps.one (show Kd.M Kd.string _ _ _ (⟨#[115, 108, 105, 112]⟩ : ByteArray) [.string (⟨#[115, 108, 105, 112]⟩ : ByteArray)] from rfl) (Reps.none _ _)))))))))
                intro v232 w14 ho15 hb hg_ hnew_
                clear hg_ hnew_
                (first | rw [← Ny231.out] at ho15 | (simp only [Int.reduceToNat] at ho15; rw [← Ny231.out] at ho15))
                have n0_ := Aside0.mk (Kd.R_lower ho15 (below_size (by repeat (first | (with_reducible first | exact HB.out | apply below_alloc | apply pw_below_drewN | apply below_drew1 | refine below_set ?_ GE229.out) | exact HB.out))))
                have n1_ := Aside0.mk (blk_below (g := gb229) (o := .cells #[.int .i64 a0_0, .int .i64 a0_1, .int .i64 a0_2, .slice A0_3 l0_3.length c0_3] 27 (0, 0)) (by (with_reducible repeat (first | refine blk_drewN ?_ _ | refine blk_drew ?_ | refine blk_alloc ?_ _)); exact BK229.out) hb)
                have n2_ := Aside0.mk (below_step (by repeat (first | (with_reducible first | exact HB.out | apply below_alloc | apply pw_below_drewN | apply below_drew1 | refine below_set ?_ GE229.out) | exact HB.out)) hb)
                clear BK229
                clear HB
                have HO233 := n0_
                have BK229 := n1_
                have HB := n2_
                clear n0_ n1_ n2_
                clear hb ho15
                obtain ⟨Ao16, co16, eo16⟩ := Kd.R_slice HO233.out
                subst eo16
                obtain ⟨ado16, fo16, _⟩ := Kd.at_string (Kd.R_reads' HO233.out).2.2 0 (by decide) (by rw [Ny231.out]; simp)
                cases fo16
                refine hK.out _ _ ⟨.slice (some ado16) y231.length co16, ado16, m3_, (by rw [ha.out]; exact putSel_upk 0 hb_ rfl rfl rfl), (by (with_reducible repeat (first | refine blk_drewN ?_ _ | refine blk_drew ?_ | refine blk_alloc ?_ _)); exact BK229.out), (by repeat (first | (with_reducible first | exact HB.out | apply below_alloc | apply pw_below_drewN | apply below_drew1 | refine below_set ?_ GE229.out) | exact HB.out)), fun _ => (by (with_reducible repeat (first | apply Kd.R_alloc | apply Kd.R_drewN | apply Kd.R_drew)); exact HO233.out), fun _ => ⟨_, rfl⟩, fun h0_ => absurd ((hoff 3 (by kernel_rfl)).symm.trans h0_) (by decide)⟩
              refine steps_cons ?_ ?_
              · rintro b a w' ⟨v232, adz_v232, m3_, ha, Q_BK229, Q_HB, Q_HO233, Q_HA_HO233, Q_X3_⟩ hb_ hon hoff
                refine ⟨_, rfl, fun K hK => ?_⟩
                have e9 : a.tmps[9]? = some (.pointer (some ⟨gb229, 0, none⟩)) := by rw [ha]; exact (putSel_off rfl).trans rfl
                replace ha := Aside0.mk ha
                have BK229 := Aside0.mk Q_BK229
                have HB := Aside0.mk Q_HB
                have hc0_ : w'.cell? ⟨gb229, 0, none⟩ = some (.int .i64 a0_0) := (blk_cell BK229.out 0).trans rfl
                have hc1_ : w'.cell? ⟨gb229, 1, none⟩ = some (.int .i64 a0_1) := (blk_cell BK229.out 1).trans rfl
                have hc2_ : w'.cell? ⟨gb229, 2, none⟩ = some (.int .i64 a0_2) := (blk_cell BK229.out 2).trans rfl
                have hc3_ : w'.cell? ⟨gb229, 3, none⟩ = some (.slice A0_3 l0_3.length c0_3) := (blk_cell BK229.out 3).trans rfl
                refine value_ (w1 := w') (v := .int .i64 a0_0) (by rfl) rfl ?_ ?_
                · go_simp
                  (try simp only [i64_w])
                  try rfl
                refine hK.out _ _ ⟨v232, adz_v232, m3_, (by rw [ha.out]; exact putSel_upk 1 hb_ rfl rfl rfl), Q_BK229, Q_HB, Q_HO233, Q_HA_HO233, fun h0_ => absurd ((hoff 3 (by kernel_rfl)).symm.trans h0_) (by decide)⟩
              refine steps_cons ?_ ?_
              · rintro b a w' ⟨v232, adz_v232, m3_, ha, Q_BK229, Q_HB, Q_HO233, Q_HA_HO233, Q_X3_⟩ hb_ hon hoff
                refine ⟨_, rfl, fun K hK => ?_⟩
                have e8 : a.tmps[8]? = some (v232) := by rw [ha]; exact putSel_on (e := (0, 8, v232)) 0 rfl rfl (hon 0 (by kernel_rfl)) rfl
                have e10 : a.tmps[10]? = some (.int .i64 a0_0) := by rw [ha]; exact putSel_on (e := (2, 10, .int .i64 a0_0)) 1 rfl rfl (hon 2 (by kernel_rfl)) rfl
                replace ha := Aside0.mk ha
                have BK229 := Aside0.mk Q_BK229
                have HB := Aside0.mk Q_HB
                have HO233 := Aside0.mk (Q_HO233 (hon 0 (by kernel_rfl)))
                have HA_HO233 := Aside0.mk (Q_HA_HO233 (hon 0 (by kernel_rfl)))
                obtain ⟨c_, hv_⟩ := HA_HO233.out
                rw [hv_] at e8
                refine value_ (w1 := w') (v := .pointer (some (adz_v232.add (a0_0).toNat))) (by rfl) rfl ?_ ?_
                · go_simp
                  (try simp only [i64_w])
                  try rfl
                refine hK.out _ _ ⟨v232, adz_v232, (.pointer (some (adz_v232.add (a0_0).toNat))), (by rw [ha.out]; exact putSel_upk 2 hb_ rfl rfl rfl), Q_BK229, Q_HB, Q_HO233, Q_HA_HO233, fun _ => rfl⟩
              refine steps_cons ?_ ?_
              · rintro b a w' ⟨v232, adz_v232, m3_, ha, Q_BK229, Q_HB, Q_HO233, Q_HA_HO233, Q_X3_⟩ hb_ hon hoff
                refine ⟨_, rfl, fun K hK => ?_⟩
                have e11 : a.tmps[11]? = some (m3_) := by rw [ha]; exact putSel_on (e := (3, 11, m3_)) 2 rfl rfl (hon 3 (by kernel_rfl)) rfl
                rw [Q_X3_ (hon 3 (by kernel_rfl))] at e11
                replace ha := Aside0.mk ha
                have BK229 := Aside0.mk Q_BK229
                have HB := Aside0.mk Q_HB
                have HO233 := Aside0.mk (Q_HO233 (hon 0 (by kernel_rfl)))
                have HA_HO233 := Aside0.mk (Q_HA_HO233 (hon 0 (by kernel_rfl)))
                obtain ⟨c_, hv_⟩ := HA_HO233.out
                have hF_ := HO233.out
                rw [hv_] at hF_
                obtain ⟨ad_, ea_, hx_⟩ := Kd.at_string (Kd.R_reads' hF_).2.2 a0_0 (of_eq_true pi234) (of_eq_true qi234)
                cases ea_
                refine value_ (w1 := w') (v := .string (rdOf ByteArray.empty y231 a0_0)) (by rfl) rfl ?_ ?_
                · go_simp
                  (try simp only [i64_w])
                  try rfl
                refine hK.out _ _ ⟨v232, adz_v232, m3_, (by rw [ha.out]; exact putSel_upk 3 hb_ rfl rfl rfl), Q_BK229, Q_HB, Q_HO233, Q_HA_HO233, Q_X3_⟩
              refine steps_cons ?_ ?_
              · rintro b a w' ⟨v232, adz_v232, m3_, ha, Q_BK229, Q_HB, Q_HO233, Q_HA_HO233, Q_X3_⟩ hb_ hon hoff
                refine ⟨_, rfl, fun K hK => ?_⟩
                have e12 : a.tmps[12]? = some (.string (rdOf ByteArray.empty y231 a0_0)) := by rw [ha]; exact putSel_on (e := (4, 12, .string (rdOf ByteArray.empty y231 a0_0))) 3 rfl rfl (hon 4 (by kernel_rfl)) rfl
                replace ha := Aside0.mk ha
                have BK229 := Aside0.mk Q_BK229
                have HB := Aside0.mk Q_HB
                have HO233 := Aside0.mk (Q_HO233 (hon 0 (by kernel_rfl)))
                have HA_HO233 := Aside0.mk (Q_HA_HO233 (hon 0 (by kernel_rfl)))
                refine value_ (w1 := w') (v := .string ((rdOf ByteArray.empty y231 a0_0) ++ (⟨#[32]⟩ : ByteArray))) (by rfl) rfl ?_ ?_
                · go_simp
                  (try simp only [i64_w])
                  try rfl
                refine hK.out _ _ ⟨v232, adz_v232, m3_, (by rw [ha.out]; exact putSel_upk 4 hb_ rfl rfl rfl), Q_BK229, Q_HB, Q_HO233, Q_HA_HO233, Q_X3_⟩
              refine steps_cons ?_ ?_
              · rintro b a w' ⟨v232, adz_v232, m3_, ha, Q_BK229, Q_HB, Q_HO233, Q_HA_HO233, Q_X3_⟩ hb_ hon hoff
                refine ⟨_, rfl, fun K hK => ?_⟩
                have e14 : a.tmps[14]? = some (.pointer (some ⟨gb229, 1, none⟩)) := by rw [ha]; exact (putSel_off rfl).trans rfl
                replace ha := Aside0.mk ha
                have BK229 := Aside0.mk Q_BK229
                have HB := Aside0.mk Q_HB
                have hc0_ : w'.cell? ⟨gb229, 0, none⟩ = some (.int .i64 a0_0) := (blk_cell BK229.out 0).trans rfl
                have hc1_ : w'.cell? ⟨gb229, 1, none⟩ = some (.int .i64 a0_1) := (blk_cell BK229.out 1).trans rfl
                have hc2_ : w'.cell? ⟨gb229, 2, none⟩ = some (.int .i64 a0_2) := (blk_cell BK229.out 2).trans rfl
                have hc3_ : w'.cell? ⟨gb229, 3, none⟩ = some (.slice A0_3 l0_3.length c0_3) := (blk_cell BK229.out 3).trans rfl
                refine value_ (w1 := w') (v := .int .i64 a0_1) (by rfl) rfl ?_ ?_
                · go_simp
                  (try simp only [i64_w])
                  try rfl
                refine hK.out _ _ ⟨v232, adz_v232, m3_, (by rw [ha.out]; exact putSel_upk 5 hb_ rfl rfl rfl), Q_BK229, Q_HB, Q_HO233, Q_HA_HO233, Q_X3_⟩
              refine steps_cons ?_ ?_
              · rintro b a w' ⟨v232, adz_v232, m3_, ha, Q_BK229, Q_HB, Q_HO233, Q_HA_HO233, Q_X3_⟩ hb_ hon hoff
                refine ⟨_, rfl, fun K hK => ?_⟩
                have e15 : a.tmps[15]? = some (.int .i64 a0_1) := by rw [ha]; exact putSel_on (e := (7, 15, .int .i64 a0_1)) 5 rfl rfl (hon 7 (by kernel_rfl)) rfl
                replace ha := Aside0.mk ha
                have BK229 := Aside0.mk Q_BK229
                have HB := Aside0.mk Q_HB
                refine goes_ Tryd.func36 (by kernel_rfl) rfl #[.int .i64 a0_1] (by rfl) rfl rfl (by first | (simp only [List.map_toArray, List.map_cons, List.map_nil, Act.eval, Array.getD_eq_getD_getElem?, Option.getD_some, e15]; done) | (simp only [List.map_toArray, List.map_cons, List.map_nil, Act.eval, Array.getD_eq_getD_getElem?, Option.getD_some, e15]; rfl)) ?_
                with_reducible refine (argosyref10_Digits.calls k a0_1 t235 _ A7.out).mono ?_
                rintro e w14 ⟨rfl, hb⟩
                refine ⟨_, rfl, ?_⟩
                have n0_ := Aside0.mk (blk_below (g := gb229) (o := .cells #[.int .i64 a0_0, .int .i64 a0_1, .int .i64 a0_2, .slice A0_3 l0_3.length c0_3] 27 (0, 0)) (by (with_reducible repeat (first | refine blk_drewN ?_ _ | refine blk_drew ?_ | refine blk_alloc ?_ _)); exact BK229.out) hb)
                have n1_ := Aside0.mk (below_step (by repeat (first | (with_reducible first | exact HB.out | apply below_alloc | apply pw_below_drewN | apply below_drew1 | refine below_set ?_ GE229.out) | exact HB.out)) hb)
                have z_HO233 := fun (h0_ : b 0 = true) => (show Kd.R Kd.string 9 w14 w.heap.size (fun _ => True) v232 y231 from by first | exact (Kd.R_below (by (with_reducible repeat (first | apply Kd.R_alloc | apply Kd.R_drewN | apply Kd.R_drew)); exact (Q_HO233 h0_)) hb) | exact Kd.R_mono (Kd.R_below (by (with_reducible repeat (first | apply Kd.R_alloc | apply Kd.R_drewN | apply Kd.R_drew)); exact (Q_HO233 h0_)) hb) (fun _ h_ => by first | trivial | exact h_ | exact h_.1))
                clear BK229
                clear HB
                have BK229 := n0_
                have HB := n1_
                clear n0_ n1_
                (try clear hb)
                (try clear hb2)
                (try clear hk)
                (try clear hi)
                refine hK.out _ _ ⟨v232, adz_v232, m3_, (by rw [ha.out]; exact putSel_upk 6 hb_ rfl rfl rfl), (by (with_reducible repeat (first | refine blk_drewN ?_ _ | refine blk_drew ?_ | refine blk_alloc ?_ _)); exact BK229.out), (by repeat (first | (with_reducible first | exact HB.out | apply below_alloc | apply pw_below_drewN | apply below_drew1 | refine below_set ?_ GE229.out) | exact HB.out)), z_HO233, Q_HA_HO233, Q_X3_⟩
              refine steps_cons ?_ ?_
              · rintro b a w' ⟨v232, adz_v232, m3_, ha, Q_BK229, Q_HB, Q_HO233, Q_HA_HO233, Q_X3_⟩ hb_ hon hoff
                refine ⟨_, rfl, fun K hK => ?_⟩
                have e13 : a.tmps[13]? = some (.string ((rdOf ByteArray.empty y231 a0_0) ++ (⟨#[32]⟩ : ByteArray))) := by rw [ha]; exact putSel_on (e := (5, 13, .string ((rdOf ByteArray.empty y231 a0_0) ++ (⟨#[32]⟩ : ByteArray)))) 4 rfl rfl (hon 5 (by kernel_rfl)) rfl
                have e16 : a.tmps[16]? = some (.string t235) := by rw [ha]; exact putSel_on (e := (8, 16, .string t235)) 6 rfl rfl (hon 8 (by kernel_rfl)) rfl
                replace ha := Aside0.mk ha
                have BK229 := Aside0.mk Q_BK229
                have HB := Aside0.mk Q_HB
                have HO233 := Aside0.mk (Q_HO233 (hon 0 (by kernel_rfl)))
                have HA_HO233 := Aside0.mk (Q_HA_HO233 (hon 0 (by kernel_rfl)))
                refine value_ (w1 := w') (v := .string (((rdOf ByteArray.empty y231 a0_0) ++ (⟨#[32]⟩ : ByteArray)) ++ t235)) (by rfl) rfl ?_ ?_
                · go_simp
                  (try simp only [i64_w])
                  try rfl
                refine hK.out _ _ ⟨v232, adz_v232, m3_, (by rw [ha.out]; exact putSel_upk 7 hb_ rfl rfl rfl), Q_BK229, Q_HB, Q_HO233, Q_HA_HO233, Q_X3_⟩
              refine steps_cons ?_ ?_
              · rintro b a w' ⟨v232, adz_v232, m3_, ha, Q_BK229, Q_HB, Q_HO233, Q_HA_HO233, Q_X3_⟩ hb_ hon hoff
                refine ⟨_, rfl, fun K hK => ?_⟩
                have e17 : a.tmps[17]? = some (.string (((rdOf ByteArray.empty y231 a0_0) ++ (⟨#[32]⟩ : ByteArray)) ++ t235)) := by rw [ha]; exact putSel_on (e := (9, 17, .string (((rdOf ByteArray.empty y231 a0_0) ++ (⟨#[32]⟩ : ByteArray)) ++ t235))) 7 rfl rfl (hon 9 (by kernel_rfl)) rfl
                replace ha := Aside0.mk ha
                have BK229 := Aside0.mk Q_BK229
                have HB := Aside0.mk Q_HB
                have HO233 := Aside0.mk (Q_HO233 (hon 0 (by kernel_rfl)))
                have HA_HO233 := Aside0.mk (Q_HA_HO233 (hon 0 (by kernel_rfl)))
                refine value_ (w1 := w') (v := .string (((rdOf ByteArray.empty y231 a0_0) ++ (⟨#[32]⟩ : ByteArray)) ++ t235)) (by rfl) rfl ?_ ?_
                · go_simp
                  (try simp only [i64_w])
                  try rfl
                refine hK.out _ _ ⟨v232, adz_v232, m3_, (by rw [ha.out]; exact putSel_upk 8 hb_ rfl rfl rfl), Q_BK229, Q_HB, Q_HO233, Q_HA_HO233, Q_X3_⟩
              exact steps_nil
            rintro b a w18 hall ⟨v232, adz_v232, m3_, ha, Q_BK229, Q_HB, Q_HO233, Q_HA_HO233, Q_X3_⟩
            clear BK229 HB
            have hb0_ := hall 0 (by kernel_rfl)
            have hb2_ := hall 2 (by kernel_rfl)
            have hb3_ := hall 3 (by kernel_rfl)
            have hb4_ := hall 4 (by kernel_rfl)
            have hb5_ := hall 5 (by kernel_rfl)
            have hb7_ := hall 7 (by kernel_rfl)
            have hb8_ := hall 8 (by kernel_rfl)
            have hb9_ := hall 9 (by kernel_rfl)
            have hb10_ := hall 10 (by kernel_rfl)
            subst ha
            obtain rfl := Q_X3_ hb3_
            simp only [putSel, hb0_, hb2_, hb3_, hb4_, hb5_, hb7_, hb8_, hb9_, hb10_, if_true, Act.put, List.setIfInBounds_toArray, List.set_cons_zero, List.set_cons_succ]
            have BK229 := Aside0.mk Q_BK229
            clear Q_BK229
            have HB := Aside0.mk Q_HB
            clear Q_HB
            have HO233 := Aside0.mk (Q_HO233 hb0_)
            clear Q_HO233
            have HA_HO233 := Aside0.mk (Q_HA_HO233 hb0_)
            clear Q_HA_HO233
            clear hall hb0_ hb2_ hb3_ hb4_ hb5_ hb7_ hb8_ hb9_ hb10_
            obtain ⟨co19, eo19⟩ := HA_HO233.out
            clear HA_HO233
            subst eo19
            have hcz20_0 : w18.cell? ⟨gb229, 0, none⟩ = some (.int .i64 a0_0) := (blk_cell BK229.out 0).trans rfl
            have hcz20_1 : w18.cell? ⟨gb229, 1, none⟩ = some (.int .i64 a0_1) := (blk_cell BK229.out 1).trans rfl
            have hcz20_2 : w18.cell? ⟨gb229, 2, none⟩ = some (.int .i64 a0_2) := (blk_cell BK229.out 2).trans rfl
            have hcz20_3 : w18.cell? ⟨gb229, 3, none⟩ = some (.slice A0_3 l0_3.length c0_3) := (blk_cell BK229.out 3).trans rfl
            have hfz20_0 := blk_frozen BK229.out 0
            have hfz20_1 := blk_frozen BK229.out 1
            have hfz20_2 := blk_frozen BK229.out 2
            have hfz20_3 := blk_frozen BK229.out 3
            go_upto_if 20 with (fail)
            go_cut [3] (fun v3 wc => ∃ (kq : Nat) (x3_8 : ByteArray), v3 = .string x3_8 ∧ Aside0 (argosyref10_Text.j0 kq x3_8 a0_0 a0_1 a0_2 l0_3 = some r) ∧ Aside0 (kq ≤ k) ∧ Aside0 (wc.heap[gb229]? = some (.cells #[.int .i64 a0_0, .int .i64 a0_1, .int .i64 a0_2, (.slice A0_3 l0_3.length c0_3)] 27 (0, 0))) ∧ Aside0 (Below w.heap.size w wc))
            case first =>
              have H := HC9.out
              clear HC9
              by_cases c21 : a0_0 > 3
              · rw [if_pos c21] at H
                have c21b0 : decide (3 < a0_0) = true := decide_eq_true c21
                clear c21
                (first | rw [c21b0] | (simp only [i64_w, i32_w]; rw [c21b0]) | skip)
                by_cases c22 : (((rdOf ByteArray.empty y231 a0_0) ++ (⟨#[32]⟩ : ByteArray)) ++ t235).size + 1 ≤ 9223372036854775807
                · rw [if_pos c22] at H
                  have c22b0 := eq_true c22
                  have c22b1 : decide ((((rdOf ByteArray.empty y231 a0_0) ++ (⟨#[32]⟩ : ByteArray)) ++ t235).size + 1 ≤ 9223372036854775807) = true := decide_eq_true c22
                  try have c22b2 : (9223372036854775807 < (((rdOf ByteArray.empty y231 a0_0) ++ (⟨#[32]⟩ : ByteArray)) ++ t235).size + 1) = False := eq_false (Nat.not_lt.2 c22)
                  try (have c22b3 := c22b2; simp only [ByteArray.size_append] at c22b3)
                  try (have c22b4 := c22b3; simp only [show (⟨#[32]⟩ : ByteArray).size = 1 from rfl] at c22b4)
                  clear c22
                  replace H := Option.bind_eq_some_iff.mp H
                  obtain ⟨t236, A230, H⟩ := H
                  replace H : (if ((((rdOf ByteArray.empty y231 a0_0) ++ (⟨#[32]⟩ : ByteArray)) ++ t235) ++ (⟨#[46]⟩ : ByteArray)).size + t236.size ≤ 9223372036854775807 then (argosyref10_Text.j0 k (((((rdOf ByteArray.empty y231 a0_0) ++ (⟨#[32]⟩ : ByteArray)) ++ t235) ++ (⟨#[46]⟩ : ByteArray)) ++ t236) a0_0 a0_1 a0_2 l0_3) else (none)) = some r := H
                  have A23 := Aside0.mk A230
                  clear A230
                  by_cases c24 : ((((rdOf ByteArray.empty y231 a0_0) ++ (⟨#[32]⟩ : ByteArray)) ++ t235) ++ (⟨#[46]⟩ : ByteArray)).size + t236.size ≤ 9223372036854775807
                  · rw [if_pos c24] at H
                    have c24b0 := eq_true c24
                    have c24b1 : decide (((((rdOf ByteArray.empty y231 a0_0) ++ (⟨#[32]⟩ : ByteArray)) ++ t235) ++ (⟨#[46]⟩ : ByteArray)).size + t236.size ≤ 9223372036854775807) = true := decide_eq_true c24
                    try have c24b2 : (9223372036854775807 < ((((rdOf ByteArray.empty y231 a0_0) ++ (⟨#[32]⟩ : ByteArray)) ++ t235) ++ (⟨#[46]⟩ : ByteArray)).size + t236.size) = False := eq_false (Nat.not_lt.2 c24)
                    try (have c24b3 := c24b2; simp only [ByteArray.size_append] at c24b3)
                    try (have c24b4 := c24b3; simp only [show (⟨#[32]⟩ : ByteArray).size = 1 from rfl, show (⟨#[46]⟩ : ByteArray).size = 1 from rfl] at c24b4)
                    clear c24
                    have H' := Aside0.mk H
                    clear H
                    have hcz25_0 : w18.cell? ⟨gb229, 0, none⟩ = some (.int .i64 a0_0) := (blk_cell BK229.out 0).trans rfl
                    have hcz25_1 : w18.cell? ⟨gb229, 1, none⟩ = some (.int .i64 a0_1) := (blk_cell BK229.out 1).trans rfl
                    have hcz25_2 : w18.cell? ⟨gb229, 2, none⟩ = some (.int .i64 a0_2) := (blk_cell BK229.out 2).trans rfl
                    have hcz25_3 : w18.cell? ⟨gb229, 3, none⟩ = some (.slice A0_3 l0_3.length c0_3) := (blk_cell BK229.out 3).trans rfl
                    have hfz25_0 := blk_frozen BK229.out 0
                    have hfz25_1 := blk_frozen BK229.out 1
                    have hfz25_2 := blk_frozen BK229.out 2
                    have hfz25_3 := blk_frozen BK229.out 3
                    go_wp2_with (first | ((with_reducible refine gate_callee (f := 36) rfl ?_); refine goesL_ (some 25) rfl rfl Tryd.func36 (by kernel_rfl) rfl #[.int .i64 a0_2] rfl (by (try simp only [List.map_toArray, List.map_cons, List.map_nil]); first | done | rfl | (simp only [List.length_drop, List.length_take]; rfl)) ?_; (with_reducible refine (argosyref10_Digits.calls k a0_2 t236 _ A23.out).mono ?_); rintro e w26 ⟨rfl, hb⟩; refine ⟨_, rfl, ?_⟩; have n0_ := Aside0.mk (Kd.R_below (by (with_reducible repeat (first | apply Kd.R_alloc | apply Kd.R_drewN | apply Kd.R_drew)); exact HO233.out) hb); have n1_ := Aside0.mk (blk_below (g := gb229) (o := .cells #[.int .i64 a0_0, .int .i64 a0_1, .int .i64 a0_2, .slice A0_3 l0_3.length c0_3] 27 (0, 0)) (by (with_reducible repeat (first | refine blk_drewN ?_ _ | refine blk_drew ?_ | refine blk_alloc ?_ _)); exact BK229.out) hb); have n2_ := Aside0.mk (below_step (by repeat (first | (with_reducible first | exact HB.out | apply below_alloc | apply pw_below_drewN | apply below_drew1 | refine below_set ?_ GE229.out) | exact HB.out)) hb); clear HO233; clear BK229; clear HB; have HO233 := n0_; have BK229 := n1_; have HB := n2_; clear n0_ n1_ n2_; (try clear hb); (try clear hb2); (try clear hk); (try clear hi)))
                    go_meet
                    case rel => exact ⟨_, (((((rdOf ByteArray.empty y231 a0_0) ++ (⟨#[32]⟩ : ByteArray)) ++ t235) ++ (⟨#[46]⟩ : ByteArray)) ++ t236), (by first | rfl | (simp; done) | (simp [*]; done)), H', ⟨by first | omega | exact Nat.le_refl _⟩, ⟨by (with_reducible repeat (first | refine blk_drewN ?_ _ | refine blk_drew ?_ | refine blk_alloc ?_ _)); exact BK229.out⟩, ⟨by repeat (first | (with_reducible first | exact HB.out | apply below_alloc | apply pw_below_drewN | apply below_drew1 | refine below_set ?_ GE229.out) | exact HB.out)⟩⟩
                  · rw [if_neg c24] at H
                    exact absurd H (by simp)
                · rw [if_neg c22] at H
                  exact absurd H (by simp)
              · rw [if_neg c21] at H
                have c21b0 : decide (3 < a0_0) = false := decide_eq_false c21
                clear c21
                (first | rw [c21b0] | (simp only [i64_w, i32_w]; rw [c21b0]) | skip)
                have H' := Aside0.mk H
                clear H
                go_wp2
                go_meet
                case rel => exact ⟨_, (((rdOf ByteArray.empty y231 a0_0) ++ (⟨#[32]⟩ : ByteArray)) ++ t235), (by first | rfl | (simp; done) | (simp [*]; done)), H', ⟨by first | omega | exact Nat.le_refl _⟩, ⟨by (with_reducible repeat (first | refine blk_drewN ?_ _ | refine blk_drew ?_ | refine blk_alloc ?_ _)); exact BK229.out⟩, ⟨by repeat (first | (with_reducible first | exact HB.out | apply below_alloc | apply pw_below_drewN | apply below_drew1 | refine below_set ?_ GE229.out) | exact HB.out)⟩⟩
            case rest =>
              clear HC9
              try clear c1
              try clear c2
              try clear p2
              try clear qi2
              try clear c3
              try clear c4
              try clear c4b0
              try clear c5
              try clear c5b0
              try clear c6
              try clear c6b0
              try clear c6b1
              try clear c6b2
              try clear c8
              try clear c8b0
              try clear c8b1
              try clear c8b2
              try clear c16
              try clear c21
              try clear c21b0
              try clear c22
              try clear c22b0
              try clear c22b1
              try clear c22b2
              try clear qi23
              try clear c24
              try clear c24b0
              try clear c24b1
              try clear c24b2
              try clear c26
              try clear hcz11_0
              try clear hcz11_1
              try clear hcz11_2
              try clear hcz11_3
              try clear hcz20_0
              try clear hcz20_1
              try clear hcz20_2
              try clear hcz20_3
              try clear hcz25_0
              try clear hcz25_1
              try clear hcz25_2
              try clear hcz25_3
              try clear hfz11_0
              try clear hfz11_1
              try clear hfz11_2
              try clear hfz11_3
              try clear hfz20_0
              try clear hfz20_1
              try clear hfz20_2
              try clear hfz20_3
              try clear hfz25_0
              try clear hfz25_1
              try clear hfz25_2
              try clear hfz25_3
              obtain ⟨kq, x3_8, rfl, HA, HJ8, BK229, HB⟩ := hcut
              cases kq with
              | zero => exact absurd HA.out (by simp [argosyref10_Text.j0])
              | succ kj8 =>
                have H := HA.out
                clear HA
                simp only [argosyref10_Text.j0] at H
                have H' := Aside0.mk H
                clear H
                go_wp2
                go_loopg [3, 4] kj8 (fun kq v3 v4 w' => ∃ (x3_2 : ByteArray) (x4_2 : Int), v3 = .string x3_2 ∧ v4 = .int .i64 x4_2 ∧ Aside0 (argosyref10_Text.l0 kq x3_2 x4_2 a0_0 a0_1 a0_2 l0_3 = some r) ∧ Aside0 (kq ≤ kj8) ∧ Aside0 (w'.heap[gb229]? = some (.cells #[.int .i64 a0_0, .int .i64 a0_1, .int .i64 a0_2, (.slice A0_3 l0_3.length c0_3)] 27 (0, 0))) ∧ Aside0 (Below w.heap.size w w'))
                case atStart => exact ⟨(x3_8), (0), (by first | rfl | (simp; done) | (simp [*]; done)), (by first | rfl | (simp; done) | (simp [*]; done)), H', ⟨Nat.le_refl _⟩, ⟨by (with_reducible repeat (first | refine blk_drewN ?_ _ | refine blk_drew ?_ | refine blk_alloc ?_ _)); exact BK229.out⟩, ⟨by repeat (first | (with_reducible first | exact HB.out | apply below_alloc | apply pw_below_drewN | apply below_drew1 | refine below_set ?_ GE229.out) | exact HB.out)⟩⟩
                case round =>
                  clear H'
                  try clear c1
                  try clear c2
                  try clear p2
                  try clear qi2
                  try clear c3
                  try clear c4
                  try clear c4b0
                  try clear c5
                  try clear c5b0
                  try clear c6
                  try clear c6b0
                  try clear c6b1
                  try clear c6b2
                  try clear c8
                  try clear c8b0
                  try clear c8b1
                  try clear c8b2
                  try clear c16
                  try clear c21
                  try clear c21b0
                  try clear c22
                  try clear c22b0
                  try clear c22b1
                  try clear c22b2
                  try clear qi23
                  try clear c24
                  try clear c24b0
                  try clear c24b1
                  try clear c24b2
                  try clear c26
                  try clear hcz11_0
                  try clear hcz11_1
                  try clear hcz11_2
                  try clear hcz11_3
                  try clear hcz20_0
                  try clear hcz20_1
                  try clear hcz20_2
                  try clear hcz20_3
                  try clear hcz25_0
                  try clear hcz25_1
                  try clear hcz25_2
                  try clear hcz25_3
                  try clear hfz11_0
                  try clear hfz11_1
                  try clear hfz11_2
                  try clear hfz11_3
                  try clear hfz20_0
                  try clear hfz20_1
                  try clear hfz20_2
                  try clear hfz20_3
                  try clear hfz25_0
                  try clear hfz25_1
                  try clear hfz25_2
                  try clear hfz25_3
                  try clear p2
                  obtain ⟨x3_2, x4_2, rfl, rfl, HA, HK2, BK229, HB⟩ := hrel
                  cases gk with
                  | zero => exact absurd HA.out (by simp [argosyref10_Text.l0])
                  | succ k2 =>
                    have H := HA.out
                    clear HA
                    simp only [argosyref10_Text.l0] at H
                    by_cases c27 : x4_2 < (l0_3.length : Int)
                    · rw [if_pos c27] at H
                      have c27b0 : decide (x4_2 < (l0_3.length : Int)) = true := decide_eq_true c27
                      clear c27
                      by_cases c28 : x3_2.size + 1 ≤ 9223372036854775807
                      · rw [if_pos c28] at H
                        have c28b0 := eq_true c28
                        have c28b1 : decide (x3_2.size + 1 ≤ 9223372036854775807) = true := decide_eq_true c28
                        try have c28b2 : (9223372036854775807 < x3_2.size + 1) = False := eq_false (Nat.not_lt.2 c28)
                        try (have c28b3 := c28b2; simp only [ByteArray.size_append] at c28b3)
                        clear c28
                        by_cases c29 : 0 ≤ x4_2
                        · rw [if_pos c29] at H
                          have c29b0 : decide (0 ≤ x4_2) = true := decide_eq_true c29
                          clear c29
                          replace H := Option.bind_eq_some_iff.mp H
                          obtain ⟨t238, A300, H⟩ := H
                          replace H : (if (x3_2 ++ (⟨#[32]⟩ : ByteArray)).size + t238.size ≤ 9223372036854775807 then (argosyref10_Text.l0 k2 ((x3_2 ++ (⟨#[32]⟩ : ByteArray)) ++ t238) (wrap64 (x4_2 + 1)) a0_0 a0_1 a0_2 l0_3) else (none)) = some r := H
                          have A30 := Aside0.mk A300
                          clear A300
                          by_cases c31 : (x3_2 ++ (⟨#[32]⟩ : ByteArray)).size + t238.size ≤ 9223372036854775807
                          · rw [if_pos c31] at H
                            have c31b0 := eq_true c31
                            have c31b1 : decide ((x3_2 ++ (⟨#[32]⟩ : ByteArray)).size + t238.size ≤ 9223372036854775807) = true := decide_eq_true c31
                            try have c31b2 : (9223372036854775807 < (x3_2 ++ (⟨#[32]⟩ : ByteArray)).size + t238.size) = False := eq_false (Nat.not_lt.2 c31)
                            try (have c31b3 := c31b2; simp only [ByteArray.size_append] at c31b3)
                            try (have c31b4 := c31b3; simp only [show (⟨#[32]⟩ : ByteArray).size = 1 from rfl] at c31b4)
                            clear c31
                            have H' := Aside0.mk H
                            clear H
                            have hcz32_0 : wr.cell? ⟨gb229, 0, none⟩ = some (.int .i64 a0_0) := (blk_cell BK229.out 0).trans rfl
                            have hcz32_1 : wr.cell? ⟨gb229, 1, none⟩ = some (.int .i64 a0_1) := (blk_cell BK229.out 1).trans rfl
                            have hcz32_2 : wr.cell? ⟨gb229, 2, none⟩ = some (.int .i64 a0_2) := (blk_cell BK229.out 2).trans rfl
                            have hcz32_3 : wr.cell? ⟨gb229, 3, none⟩ = some (.slice A0_3 l0_3.length c0_3) := (blk_cell BK229.out 3).trans rfl
                            have hfz32_0 := blk_frozen BK229.out 0
                            have hfz32_1 := blk_frozen BK229.out 1
                            have hfz32_2 := blk_frozen BK229.out 2
                            have hfz32_3 := blk_frozen BK229.out 3
                            have p237 : 0 ≤ (x4_2 : Int) := of_decide_eq_true (by first | (with_reducible assumption) | assumption)
                            have q237 : x4_2 < (l0_3.length : Int) := of_decide_eq_true (by first | (with_reducible assumption) | assumption)
                            obtain ⟨ad237, e237, hx237_0⟩ := Kd.at_int HR0_3.out x4_2 p237 q237
                            cases e237
                            replace hx237_0 := (HB.out.cell (World.block_lt_of_cell? w _ hx237_0)).trans hx237_0
                            replace p237 := eq_true p237
                            replace q237 := eq_true q237
                            go_wp2_with (first | ((with_reducible refine gate_callee (f := 36) rfl ?_); refine goesL_ (some 41) rfl rfl Tryd.func36 (by kernel_rfl) rfl #[.int .i64 (rd l0_3 x4_2)] rfl (by (try simp only [List.map_toArray, List.map_cons, List.map_nil]); first | done | rfl | (simp only [List.length_drop, List.length_take]; rfl)) ?_; (with_reducible refine (argosyref10_Digits.calls k2 (rd l0_3 x4_2) t238 _ A30.out).mono ?_); rintro e w33 ⟨rfl, hb⟩; refine ⟨_, rfl, ?_⟩; have n0_ := Aside0.mk (blk_below (g := gb229) (o := .cells #[.int .i64 a0_0, .int .i64 a0_1, .int .i64 a0_2, .slice (some ad237) l0_3.length c0_3] 27 (0, 0)) (by (with_reducible repeat (first | refine blk_drewN ?_ _ | refine blk_drew ?_ | refine blk_alloc ?_ _)); exact BK229.out) hb); have n1_ := Aside0.mk (below_step (by repeat (first | (with_reducible first | exact HB.out | apply below_alloc | apply pw_below_drewN | apply below_drew1 | refine below_set ?_ GE229.out) | exact HB.out)) hb); clear BK229; clear HB; have BK229 := n0_; have HB := n1_; clear n0_ n1_; (try clear hb); (try clear hb2); (try clear hk); (try clear hi)))
                            go_roundg k2
                            case measure => have := HJ8.out; have := HK2.out; omega
                            case rel => exact ⟨((x3_2 ++ (⟨#[32]⟩ : ByteArray)) ++ t238), (wrap64 (x4_2 + 1)), (by first | rfl | (simp; done) | (simp [*]; done)), (by first | rfl | (simp; done) | (simp [*]; done)), H', ⟨by have := HJ8.out; have := HK2.out; omega⟩, ⟨by (with_reducible repeat (first | refine blk_drewN ?_ _ | refine blk_drew ?_ | refine blk_alloc ?_ _)); exact BK229.out⟩, ⟨by repeat (first | (with_reducible first | exact HB.out | apply below_alloc | apply pw_below_drewN | apply below_drew1 | refine below_set ?_ GE229.out) | exact HB.out)⟩⟩
                          · rw [if_neg c31] at H
                            exact absurd H (by simp)
                        · rw [if_neg c29] at H
                          exact absurd H (by simp)
                      · rw [if_neg c28] at H
                        exact absurd H (by simp)
                    · rw [if_neg c27] at H
                      have c27b0 : decide (x4_2 < (l0_3.length : Int)) = false := decide_eq_false c27
                      clear c27
                      obtain rfl := Option.some.inj H
                      have hcz34_0 : wr.cell? ⟨gb229, 0, none⟩ = some (.int .i64 a0_0) := (blk_cell BK229.out 0).trans rfl
                      have hcz34_1 : wr.cell? ⟨gb229, 1, none⟩ = some (.int .i64 a0_1) := (blk_cell BK229.out 1).trans rfl
                      have hcz34_2 : wr.cell? ⟨gb229, 2, none⟩ = some (.int .i64 a0_2) := (blk_cell BK229.out 2).trans rfl
                      have hcz34_3 : wr.cell? ⟨gb229, 3, none⟩ = some (.slice A0_3 l0_3.length c0_3) := (blk_cell BK229.out 3).trans rfl
                      have hfz34_0 := blk_frozen BK229.out 0
                      have hfz34_1 := blk_frozen BK229.out 1
                      have hfz34_2 := blk_frozen BK229.out 2
                      have hfz34_3 := blk_frozen BK229.out 3
                      go_wp2
                      go_ret
                      exact ⟨by first | rfl | (simp [errW_none, errW_some] <;> rfl) | (simp [*, errW_none, errW_some] <;> rfl), by repeat (first | (with_reducible first | exact HB.out | apply below_alloc | apply pw_below_drewN | apply below_drew1 | refine below_set ?_ GE229.out) | exact HB.out)⟩
          · rw [if_neg c8] at H
            exact absurd H (by simp)
        · rw [if_neg c6] at H
          exact absurd H (by simp)
      · rw [if_neg c5] at H
        exact absurd H (by simp)
    · rw [if_neg c4] at H
      exact absurd H (by simp)
  · replace c3 := Bool.eq_false_iff.mpr c3
    subst c3
    have H1 : (some (⟨#[]⟩ : ByteArray)) = some r := by rw [if_neg (show ¬ (false = true) by decide)] at H; exact H
    clear H
    have H := H1
    clear H1
    obtain rfl := Option.some.inj H
    go_enter Tryd.func16, Tryd.ntmps16
    go_wp2_with (first | ((with_reducible refine gate_dst (N := 1) rfl ?_); refine box_event ?hg (N := 1) ?hd (cs := #[.int .i64 a0_0, .int .i64 a0_1, .int .i64 a0_2, .slice A0_3 l0_3.length c0_3]) (t := 27) ?hr ?_; (case hd => rfl); (case hg => rfl); (case hr => first | (go_simp; done) | (go_simp; rfl) | (simp only [pf_or128]; go_simp; done) | (simp only [pf_or128]; go_simp; rfl)); intro gb229 hg w35 hbox hb; have n0_ := Aside0.mk (below_step (by repeat (first | (with_reducible first | exact HB.out | apply below_alloc | apply pw_below_drewN | apply below_drew1) | exact HB.out)) hb); have n1_ := Aside0.mk (hbox); have n2_ := Aside0.mk ((by rw [hg]; exact (below_size (by repeat (first | (with_reducible first | exact HB.out | apply below_alloc | apply pw_below_drewN | apply below_drew1) | exact HB.out))) : w.heap.size ≤ gb229)); have n3_ := Aside0.mk ((by rw [hg]; exact (below_size (by repeat (first | (with_reducible first | exact HB.out | apply below_alloc | apply pw_below_drewN | apply below_drew1) | exact HB.out))) : w.heap.size ≤ gb229)); clear HB; have HB := n0_; have BK229 := n1_; have GW229 := n2_; have GE229 := n3_; clear n0_ n1_ n2_ n3_; clear hb hbox hg; have hcz36_0 : w35.cell? ⟨gb229, 0, none⟩ = some (.int .i64 a0_0) := (blk_cell BK229.out 0).trans rfl; have hcz36_1 : w35.cell? ⟨gb229, 1, none⟩ = some (.int .i64 a0_1) := (blk_cell BK229.out 1).trans rfl; have hcz36_2 : w35.cell? ⟨gb229, 2, none⟩ = some (.int .i64 a0_2) := (blk_cell BK229.out 2).trans rfl; have hcz36_3 : w35.cell? ⟨gb229, 3, none⟩ = some (.slice A0_3 l0_3.length c0_3) := (blk_cell BK229.out 3).trans rfl; have hfz36_0 := blk_frozen BK229.out 0; have hfz36_1 := blk_frozen BK229.out 1; have hfz36_2 := blk_frozen BK229.out 2; have hfz36_3 := blk_frozen BK229.out 3) | ((with_reducible refine gate_callee (f := 26) rfl ?_); refine goesL_ (some 6) rfl rfl Tryd.func26 (by kernel_rfl) rfl #[.agg #[.int .i64 a0_0, .int .i64 a0_1, .int .i64 a0_2, .slice A0_3 l0_3.length c0_3]] rfl (by (try simp only [List.map_toArray, List.map_cons, List.map_nil]); first | done | rfl | (simp only [List.length_drop, List.length_take]; rfl)) ?_; (with_reducible refine (argosyref10_Right.calls k a0_0 a0_1 a0_2 _ _ l0_3 false _ ?side1 ?side2 A2.out).mono ?_); (case side1 => repeat (first | exact (Kd.C_below HR0_3.out HB.out) | (with_reducible refine Kd.C_alloc ?_ _) | (with_reducible refine Kd.C_drewN ?_ _) | (with_reducible refine Kd.C_drew ?_))); (case side2 => exact HC0_3.out); rintro e w37 ⟨rfl, hb⟩; refine ⟨_, rfl, ?_⟩; have n0_ := Aside0.mk (blk_below (g := gb229) (o := .cells #[.int .i64 a0_0, .int .i64 a0_1, .int .i64 a0_2, .slice A0_3 l0_3.length c0_3] 27 (0, 0)) (by (with_reducible repeat (first | refine blk_drewN ?_ _ | refine blk_drew ?_ | refine blk_alloc ?_ _)); exact BK229.out) hb); have n1_ := Aside0.mk (below_step (by repeat (first | (with_reducible first | exact HB.out | apply below_alloc | apply pw_below_drewN | apply below_drew1 | refine below_set ?_ GE229.out) | exact HB.out)) hb); clear BK229; clear HB; have BK229 := n0_; have HB := n1_; clear n0_ n1_; (try clear hb); (try clear hb2); (try clear hk); (try clear hi)))
    go_ret
    exact ⟨by first | rfl | (simp [errW_none, errW_some] <;> rfl) | (simp [*, errW_none, errW_some] <;> rfl), by repeat (first | (with_reducible first | exact HB.out | apply below_alloc | apply pw_below_drewN | apply below_drew1 | refine below_set ?_ GE229.out) | exact HB.out)⟩

/-! ### event_Key: function 17 -/
def event_Key.f (a0_0 : Int) (a0_1 : Int) (a0_2 : Int) (l0_3 : List Int) : Option (Int × Bool × Int) := (event_tries.f a0_0).bind fun t241 => (some (a0_1, t241, a0_2))
def event_Key.T1 : Bool × List (List Nat × List Nat) := (true, [([], []), ([0], [0]), ([], []), ([2], [2]), ([3], [3]), ([], []), ([5], [5]), ([1, 4, 6], [1, 4, 6]), ([7, 4, 0, 1, 2, 3, 4, 5, 6, 7], [7])])
def event_Key.B1 : List Nat := [0, 1, 0, 4, 12, 0, 32, 127, 255]
theorem event_Key.tab1 : rtab .any (opsOf Tryd.f17 1) = event_Key.T1 := by kernel_rfl
theorem event_Key.bits1 : waitsOk event_Key.T1.2 event_Key.B1 = true := by kernel_rfl
set_option maxHeartbeats 8000000 in
set_option maxRecDepth 100000 in
theorem event_Key.calls (a0_0 : Int) (a0_1 : Int) (a0_2 : Int) (A0_3 : Option Addr) (c0_3 : Nat) (l0_3 : List Int) (r1 : Int) (r2 : Bool) (r3 : Int) (w : World) (hr0_3 : Kd.C (Kd.int .i64) w A0_3 l0_3.length l0_3) (hc0_3 : l0_3.length ≤ c0_3) (h : event_Key.f a0_0 a0_1 a0_2 l0_3 = some (r1, r2, r3)) :
    Calls Tryd.prog 17 #[.agg #[.int .i64 a0_0, .int .i64 a0_1, .int .i64 a0_2, .slice A0_3 l0_3.length c0_3]] w fun e w' => e = .returned (.agg #[.int .i64 r1, .bool r2, .int .i64 r3]) ∧ Below w.heap.size w w' := by
  have hu27 := Tryd.underlying27
  have hu44 := Tryd.underlying44
  have HR0_3 := Aside0.mk hr0_3
  have HC0_3 := Aside0.mk hc0_3
  clear hr0_3 hc0_3
  have HB := Aside0.mk (Below.refl w.heap.size w)
  have H : ((event_tries.f a0_0).bind fun t241 => (some (a0_1, t241, a0_2))) = some (r1, r2, r3) := h
  clear h
  replace H := Option.bind_eq_some_iff.mp H
  obtain ⟨t241, A20, H⟩ := H
  replace H : (some (a0_1, t241, a0_2)) = some (r1, r2, r3) := H
  have A2 := Aside0.mk A20
  clear A20
  simp only [Option.some.injEq, Prod.mk.injEq] at H
  obtain ⟨rfl, rfl, rfl⟩ := H
  go_enter Tryd.func17, Tryd.ntmps17
  try go_wp2_with (first | ((with_reducible refine gate_dst (N := 1) rfl ?_); refine box_event ?hg (N := 1) ?hd (cs := #[.int .i64 a0_0, .int .i64 a0_1, .int .i64 a0_2, .slice A0_3 l0_3.length c0_3]) (t := 27) ?hr ?_; (case hd => rfl); (case hg => rfl); (case hr => first | (go_simp; done) | (go_simp; rfl) | (simp only [pf_or128]; go_simp; done) | (simp only [pf_or128]; go_simp; rfl)); intro gb239 hg w3 hbox hb; have n0_ := Aside0.mk (below_step (by repeat (first | (with_reducible first | exact HB.out | apply below_alloc | apply pw_below_drewN | apply below_drew1) | exact HB.out)) hb); have n1_ := Aside0.mk (hbox); have n2_ := Aside0.mk ((by rw [hg]; exact (below_size (by repeat (first | (with_reducible first | exact HB.out | apply below_alloc | apply pw_below_drewN | apply below_drew1) | exact HB.out))) : w.heap.size ≤ gb239)); have n3_ := Aside0.mk ((by rw [hg]; exact (below_size (by repeat (first | (with_reducible first | exact HB.out | apply below_alloc | apply pw_below_drewN | apply below_drew1) | exact HB.out))) : w.heap.size ≤ gb239)); clear HB; have HB := n0_; have BK239 := n1_; have GW239 := n2_; have GE239 := n3_; clear n0_ n1_ n2_ n3_; clear hb hbox hg) | ((with_reducible refine gate_dst (N := 2) rfl ?_); refine box_event ?hg (N := 2) ?hd (cs := #[.int .i64 0, .bool false, .int .i64 0]) (t := 44) ?hr ?_; (case hd => rfl); (case hg => rfl); (case hr => first | (go_simp; done) | (go_simp; rfl) | (simp only [pf_or128]; go_simp; done) | (simp only [pf_or128]; go_simp; rfl)); intro gb240 hg w4 hbox hb; have n0_ := Aside0.mk (blk_below (g := gb239) (o := .cells #[.int .i64 a0_0, .int .i64 a0_1, .int .i64 a0_2, .slice A0_3 l0_3.length c0_3] 27 (0, 0)) (by (with_reducible repeat (first | refine blk_drewN ?_ _ | refine blk_drew ?_ | refine blk_alloc ?_ _)); exact BK239.out) hb); have n1_ := Aside0.mk (below_step (by repeat (first | (with_reducible first | exact HB.out | apply below_alloc | apply pw_below_drewN | apply below_drew1 | refine below_set ?_ GE239.out) | exact HB.out)) hb); have n2_ := Aside0.mk (hbox); have n3_ := Aside0.mk ((by rw [hg]; exact (below_size (by repeat (first | (with_reducible first | exact HB.out | apply below_alloc | apply pw_below_drewN | apply below_drew1 | refine below_set ?_ GE239.out) | exact HB.out))) : w.heap.size ≤ gb240)); have n4_ := Aside0.mk ((by rw [hg]; exact (below_size (by repeat (first | (with_reducible first | exact HB.out | apply below_alloc | apply pw_below_drewN | apply below_drew1 | refine below_set ?_ GE239.out) | exact HB.out))) : w.heap.size ≤ gb240)); have n5_ := Aside0.mk ((by rw [hg]; exact Nat.ne_of_lt (blk_lt (g := gb239) (o := .cells #[.int .i64 a0_0, .int .i64 a0_1, .int .i64 a0_2, .slice A0_3 l0_3.length c0_3] 27 (0, 0)) (by (with_reducible repeat (first | refine blk_drewN ?_ _ | refine blk_drew ?_ | refine blk_alloc ?_ _)); exact BK239.out)) : gb239 ≠ gb240)); have n6_ := Aside0.mk ((by rw [hg]; exact Nat.ne_of_gt (blk_lt (g := gb239) (o := .cells #[.int .i64 a0_0, .int .i64 a0_1, .int .i64 a0_2, .slice A0_3 l0_3.length c0_3] 27 (0, 0)) (by (with_reducible repeat (first | refine blk_drewN ?_ _ | refine blk_drew ?_ | refine blk_alloc ?_ _)); exact BK239.out)) : gb240 ≠ gb239)); clear BK239; clear HB; have BK239 := n0_; have HB := n1_; have BK240 := n2_; have GW240 := n3_; have GE240 := n4_; have NB239_240 := n5_; have NB240_239 := n6_; clear n0_ n1_ n2_ n3_ n4_ n5_ n6_; clear hb hbox hg))
  have n0_ := Aside0.mk (blk_drew BK239.out)
  have n1_ := Aside0.mk (blk_drew BK240.out)
  have n2_ := Aside0.mk (below_drew1 HB.out)
  clear BK239
  clear BK240
  clear HB
  have BK239 := n0_
  have BK240 := n1_
  have HB := n2_
  clear n0_ n1_ n2_
  refine start_ (n := 9) (S := fun w' => w'.cell? ⟨gb239, 0, none⟩ = some (.int .i64 a0_0) ∧ w'.cell? ⟨gb239, 1, none⟩ = some (.int .i64 a0_1) ∧ w'.cell? ⟨gb239, 2, none⟩ = some (.int .i64 a0_2) ∧ w'.cell? ⟨gb239, 3, none⟩ = some (.slice A0_3 l0_3.length c0_3)) (ds := []) #[false, false, false, false, false, false, false, false, false] (by kernel_rfl) rfl rfl ⟨(blk_cell BK239.out 0).trans rfl, (blk_cell BK239.out 1).trans rfl, (blk_cell BK239.out 2).trans rfl, (blk_cell BK239.out 3).trans rfl⟩ (fun hHeld => ?_); refine with_tabW event_Key.tab1 event_Key.bits1 (fun HT_ HW_ => ?_)
  generalize w4.drew = w5 at BK239 BK240 HB hHeld ⊢
  refine pure_ (i := 0) (N := some 3) (v := ?_) (a' := ?_) #[true, false, false, false, false, false, false, false, false] rfl rfl (any_of HT_.out (by kernel_rfl)) (fun _ _ _ h => h) (Or.inl ⟨by rfl, ?_⟩) ?_ ?_
  rotate_left
  · intro w'
    go_simp
    with_reducible rfl
  rotate_left
  · simp only [Act.put, List.setIfInBounds_toArray, List.set_cons_zero, List.set_cons_succ, i64_w, i32_w, IntKind.wrap_u8, IntKind.wrap_u32]
    rfl
  refine pure_ (i := 2) (N := some 5) (v := ?_) (a' := ?_) #[true, false, true, false, false, false, false, false, false] rfl rfl (any_of HT_.out (by kernel_rfl)) (fun _ _ _ h => h) (Or.inl ⟨by rfl, ?_⟩) ?_ ?_
  rotate_left
  · intro w'
    go_simp
    with_reducible rfl
  rotate_left
  · simp only [Act.put, List.setIfInBounds_toArray, List.set_cons_zero, List.set_cons_succ, i64_w, i32_w, IntKind.wrap_u8, IntKind.wrap_u32]
    rfl
  refine pure_ (i := 5) (N := some 8) (v := ?_) (a' := ?_) #[true, false, true, false, false, true, false, false, false] rfl rfl (any_of HT_.out (by kernel_rfl)) (fun _ _ _ h => h) (Or.inl ⟨by rfl, ?_⟩) ?_ ?_
  rotate_left
  · intro w'
    go_simp
    with_reducible rfl
  rotate_left
  · simp only [Act.put, List.setIfInBounds_toArray, List.set_cons_zero, List.set_cons_succ, i64_w, i32_w, IntKind.wrap_u8, IntKind.wrap_u32]
    rfl
  refine take_ (i := 1) (N := some 4) (v := ?_) (a' := ?_) #[true, true, true, false, false, true, false, false, false] rfl rfl (take_ofW HT_.out HW_.out (by kernel_rfl)) (fun _ _ _ h => h) (Or.inl ⟨by rfl, ?_⟩) hHeld ?_ ?_
  rotate_left
  · rintro w' ⟨s0, s1, s2, s3⟩
    go_simp
    with_reducible rfl
  rotate_left
  · simp only [Act.put, List.setIfInBounds_toArray, List.set_cons_zero, List.set_cons_succ, i64_w, i32_w, IntKind.wrap_u8, IntKind.wrap_u32]
    rfl
  refine take_ (i := 3) (N := some 6) (v := ?_) (a' := ?_) #[true, true, true, true, false, true, false, false, false] rfl rfl (take_ofW HT_.out HW_.out (by kernel_rfl)) (fun _ _ _ h => h) (Or.inl ⟨by rfl, ?_⟩) hHeld ?_ ?_
  rotate_left
  · rintro w' ⟨s0, s1, s2, s3⟩
    go_simp
    with_reducible rfl
  rotate_left
  · simp only [Act.put, List.setIfInBounds_toArray, List.set_cons_zero, List.set_cons_succ, i64_w, i32_w, IntKind.wrap_u8, IntKind.wrap_u32]
    rfl
  refine take_ (i := 6) (N := some 9) (v := ?_) (a' := ?_) #[true, true, true, true, false, true, true, false, false] rfl rfl (take_ofW HT_.out HW_.out (by kernel_rfl)) (fun _ _ _ h => h) (Or.inl ⟨by rfl, ?_⟩) hHeld ?_ ?_
  rotate_left
  · rintro w' ⟨s0, s1, s2, s3⟩
    go_simp
    with_reducible rfl
  rotate_left
  · simp only [Act.put, List.setIfInBounds_toArray, List.set_cons_zero, List.set_cons_succ, i64_w, i32_w, IntKind.wrap_u8, IntKind.wrap_u32]
    rfl
  refine one_ (i := 4) (N := some 7) #[true, true, true, true, true, true, true, false, false] rfl rfl (one_of HT_.out (by kernel_rfl)) (by decide) (fun K hK => ?_)
  refine goes_ Tryd.func22 (by kernel_rfl) rfl #[.int .i64 a0_0] (by rfl) rfl rfl (by (try simp only [List.map_toArray, List.map_cons, List.map_nil]); first | done | rfl | (simp only [List.length_drop, List.length_take]; rfl)) ?_
  with_reducible refine (event_tries.calls a0_0 t241 _ A2.out).mono ?_
  rintro e w' ⟨rfl, ⟨nd, rfl⟩⟩
  refine ⟨_, rfl, ?_⟩
  refine hK.out _ _ ⟨(blk_cell BK239.out 0).trans rfl, (blk_cell BK239.out 1).trans rfl, (blk_cell BK239.out 2).trans rfl, (blk_cell BK239.out 3).trans rfl⟩ (fun hHeld => ?_)
  clear hK K
  refine norm_ (a' := ?_) ?_ ?_
  rotate_left
  · show Act.put _ (some 7) _ = _
    simp only [Act.put, List.setIfInBounds_toArray, List.set_cons_zero, List.set_cons_succ, i64_w, i32_w, IntKind.wrap_u8, IntKind.wrap_u32]
    rfl
  refine pure_ (i := 7) (N := some 10) (v := ?_) (a' := ?_) #[true, true, true, true, true, true, true, true, false] rfl rfl (any_of HT_.out (by kernel_rfl)) (fun _ _ _ h => h) (Or.inl ⟨by rfl, ?_⟩) ?_ ?_
  rotate_left
  · intro w'
    go_simp
    with_reducible rfl
  rotate_left
  · simp only [Act.put, List.setIfInBounds_toArray, List.set_cons_zero, List.set_cons_succ, i64_w, i32_w, IntKind.wrap_u8, IntKind.wrap_u32]
    rfl
  refine one_ (i := 8) (N := none) #[true, true, true, true, true, true, true, true, true] rfl rfl (one_of HT_.out (by kernel_rfl)) (by decide) (fun K hK => ?_)
  have hs6 : w5.cell? ⟨gb240, 0, none⟩ = some (.int .i64 0) := (blk_cell BK240.out 0).trans rfl
  have hfs6 := blk_frozen BK240.out 0
  have hns6_0 := NB239_240.out
  have hms6_0 := NB240_239.out
  have hs7 : w5.cell? ⟨gb240, 1, none⟩ = some (.bool false) := (blk_cell BK240.out 1).trans rfl
  have hfs7 := blk_frozen BK240.out 1
  have hns7_0 := NB239_240.out
  have hms7_0 := NB240_239.out
  have hs8 : w5.cell? ⟨gb240, 2, none⟩ = some (.int .i64 0) := (blk_cell BK240.out 2).trans rfl
  have hfs8 := blk_frozen BK240.out 2
  have hns8_0 := NB239_240.out
  have hms8_0 := NB240_239.out
  refine skip_ (w1 := ?_) (by rfl) rfl ?_ ?_
  rotate_left
  · go_simp
    rfl
  refine hK.out _ _ ⟨((cell_far (p := ⟨gb240, _, none⟩) NB239_240.out _).trans (((cell_far (p := ⟨gb240, _, none⟩) NB239_240.out _).trans (((cell_far (p := ⟨gb240, _, none⟩) NB239_240.out _).trans (hHeld.1)))))), ((cell_far (p := ⟨gb240, _, none⟩) NB239_240.out _).trans (((cell_far (p := ⟨gb240, _, none⟩) NB239_240.out _).trans (((cell_far (p := ⟨gb240, _, none⟩) NB239_240.out _).trans (hHeld.2.1)))))), ((cell_far (p := ⟨gb240, _, none⟩) NB239_240.out _).trans (((cell_far (p := ⟨gb240, _, none⟩) NB239_240.out _).trans (((cell_far (p := ⟨gb240, _, none⟩) NB239_240.out _).trans (hHeld.2.2.1)))))), ((cell_far (p := ⟨gb240, _, none⟩) NB239_240.out _).trans (((cell_far (p := ⟨gb240, _, none⟩) NB239_240.out _).trans (((cell_far (p := ⟨gb240, _, none⟩) NB239_240.out _).trans (hHeld.2.2.2))))))⟩ (fun hHeld => ?_)
  clear hK K
  refine done_ (done_of HT_.out (by kernel_rfl)) ?_
  try go_wp2
  refine bodyPost_ret (results_cell_row rfl _ _ gb240 44 #[.int .i64 a0_1, .bool t241, .int .i64 a0_2] (0, 0) _ rfl (by (with_reducible repeat (first | refine blk_drewN ?_ _ | refine blk_drew ?_ | refine blk_alloc ?_ _)); refine blk_put (cs := #[.int .i64 a0_1, .bool t241, .int .i64 0]) ?_ 2 _ rfl; (with_reducible repeat (first | refine blk_drewN ?_ _ | refine blk_drew ?_ | refine blk_alloc ?_ _)); refine blk_put (cs := #[.int .i64 a0_1, .bool false, .int .i64 0]) ?_ 1 _ rfl; (with_reducible repeat (first | refine blk_drewN ?_ _ | refine blk_drew ?_ | refine blk_alloc ?_ _)); refine blk_put (cs := #[.int .i64 0, .bool false, .int .i64 0]) ?_ 0 _ rfl; (with_reducible repeat (first | refine blk_drewN ?_ _ | refine blk_drew ?_ | refine blk_alloc ?_ _)); exact BK240.out) Tryd.underlying44 rfl (by kernel_rfl)) rfl ?_
  exact ⟨by first | rfl | (simp [errW_none, errW_some] <;> rfl) | (simp [*, errW_none, errW_some] <;> rfl), by repeat (first | (with_reducible first | exact HB.out | apply below_alloc | apply pw_below_drewN | apply below_drew1 | refine below_set ?_ GE239.out | refine below_set ?_ GE240.out) | exact HB.out)⟩

/-! ### argosyref10_Key: function 18 -/
def argosyref10_Key.f (a0_0 : Int) (a0_1 : Int) (a0_2 : Int) (l0_3 : List Int) : Option (Int × Bool × Int) := some (a0_1, decide (a0_0 > 3), a0_2)
set_option maxHeartbeats 8000000 in
set_option maxRecDepth 100000 in
theorem argosyref10_Key.calls (a0_0 : Int) (a0_1 : Int) (a0_2 : Int) (A0_3 : Option Addr) (c0_3 : Nat) (l0_3 : List Int) (r1 : Int) (r2 : Bool) (r3 : Int) (w : World) (hr0_3 : Kd.C (Kd.int .i64) w A0_3 l0_3.length l0_3) (hc0_3 : l0_3.length ≤ c0_3) (h : argosyref10_Key.f a0_0 a0_1 a0_2 l0_3 = some (r1, r2, r3)) :
    Calls Tryd.prog 18 #[.agg #[.int .i64 a0_0, .int .i64 a0_1, .int .i64 a0_2, .slice A0_3 l0_3.length c0_3]] w fun e w' => e = .returned (.agg #[.int .i64 r1, .bool r2, .int .i64 r3]) ∧ Below w.heap.size w w' := by
  have hu27 := Tryd.underlying27
  have hu44 := Tryd.underlying44
  have HR0_3 := Aside0.mk hr0_3
  have HC0_3 := Aside0.mk hc0_3
  clear hr0_3 hc0_3
  have HB := Aside0.mk (Below.refl w.heap.size w)
  have H : (some (a0_1, decide (a0_0 > 3), a0_2)) = some (r1, r2, r3) := h
  clear h
  simp only [Option.some.injEq, Prod.mk.injEq] at H
  obtain ⟨rfl, rfl, rfl⟩ := H
  go_enter Tryd.func18, Tryd.ntmps18
  go_wp2_with (first | ((with_reducible refine gate_dst (N := 1) rfl ?_); refine box_event ?hg (N := 1) ?hd (cs := #[.int .i64 a0_0, .int .i64 a0_1, .int .i64 a0_2, .slice A0_3 l0_3.length c0_3]) (t := 27) ?hr ?_; (case hd => rfl); (case hg => rfl); (case hr => first | (go_simp; done) | (go_simp; rfl) | (simp only [pf_or128]; go_simp; done) | (simp only [pf_or128]; go_simp; rfl)); intro gb242 hg w2 hbox hb; have n0_ := Aside0.mk (below_step (by repeat (first | (with_reducible first | exact HB.out | apply below_alloc | apply pw_below_drewN | apply below_drew1) | exact HB.out)) hb); have n1_ := Aside0.mk (hbox); have n2_ := Aside0.mk ((by rw [hg]; exact (below_size (by repeat (first | (with_reducible first | exact HB.out | apply below_alloc | apply pw_below_drewN | apply below_drew1) | exact HB.out))) : w.heap.size ≤ gb242)); have n3_ := Aside0.mk ((by rw [hg]; exact (below_size (by repeat (first | (with_reducible first | exact HB.out | apply below_alloc | apply pw_below_drewN | apply below_drew1) | exact HB.out))) : w.heap.size ≤ gb242)); clear HB; have HB := n0_; have BK242 := n1_; have GW242 := n2_; have GE242 := n3_; clear n0_ n1_ n2_ n3_; clear hb hbox hg) | ((with_reducible refine gate_dst (N := 2) rfl ?_); refine box_event ?hg (N := 2) ?hd (cs := #[.int .i64 0, .bool false, .int .i64 0]) (t := 44) ?hr ?_; (case hd => rfl); (case hg => rfl); (case hr => first | (go_simp; done) | (go_simp; rfl) | (simp only [pf_or128]; go_simp; done) | (simp only [pf_or128]; go_simp; rfl)); intro gb243 hg w3 hbox hb; have n0_ := Aside0.mk (blk_below (g := gb242) (o := .cells #[.int .i64 a0_0, .int .i64 a0_1, .int .i64 a0_2, .slice A0_3 l0_3.length c0_3] 27 (0, 0)) (by (with_reducible repeat (first | refine blk_drewN ?_ _ | refine blk_drew ?_ | refine blk_alloc ?_ _)); exact BK242.out) hb); have n1_ := Aside0.mk (below_step (by repeat (first | (with_reducible first | exact HB.out | apply below_alloc | apply pw_below_drewN | apply below_drew1 | refine below_set ?_ GE242.out) | exact HB.out)) hb); have n2_ := Aside0.mk (hbox); have n3_ := Aside0.mk ((by rw [hg]; exact (below_size (by repeat (first | (with_reducible first | exact HB.out | apply below_alloc | apply pw_below_drewN | apply below_drew1 | refine below_set ?_ GE242.out) | exact HB.out))) : w.heap.size ≤ gb243)); have n4_ := Aside0.mk ((by rw [hg]; exact (below_size (by repeat (first | (with_reducible first | exact HB.out | apply below_alloc | apply pw_below_drewN | apply below_drew1 | refine below_set ?_ GE242.out) | exact HB.out))) : w.heap.size ≤ gb243)); have n5_ := Aside0.mk ((by rw [hg]; exact Nat.ne_of_lt (blk_lt (g := gb242) (o := .cells #[.int .i64 a0_0, .int .i64 a0_1, .int .i64 a0_2, .slice A0_3 l0_3.length c0_3] 27 (0, 0)) (by (with_reducible repeat (first | refine blk_drewN ?_ _ | refine blk_drew ?_ | refine blk_alloc ?_ _)); exact BK242.out)) : gb242 ≠ gb243)); have n6_ := Aside0.mk ((by rw [hg]; exact Nat.ne_of_gt (blk_lt (g := gb242) (o := .cells #[.int .i64 a0_0, .int .i64 a0_1, .int .i64 a0_2, .slice A0_3 l0_3.length c0_3] 27 (0, 0)) (by (with_reducible repeat (first | refine blk_drewN ?_ _ | refine blk_drew ?_ | refine blk_alloc ?_ _)); exact BK242.out)) : gb243 ≠ gb242)); clear BK242; clear HB; have BK242 := n0_; have HB := n1_; have BK243 := n2_; have GW243 := n3_; have GE243 := n4_; have NB242_243 := n5_; have NB243_242 := n6_; clear n0_ n1_ n2_ n3_ n4_ n5_ n6_; clear hb hbox hg; have hnb4 := NB242_243.out; have hnc4 := NB243_242.out; have hcz5_0 : w3.cell? ⟨gb242, 0, none⟩ = some (.int .i64 a0_0) := (blk_cell BK242.out 0).trans rfl; have hcz5_1 : w3.cell? ⟨gb242, 1, none⟩ = some (.int .i64 a0_1) := (blk_cell BK242.out 1).trans rfl; have hcz5_2 : w3.cell? ⟨gb242, 2, none⟩ = some (.int .i64 a0_2) := (blk_cell BK242.out 2).trans rfl; have hcz5_3 : w3.cell? ⟨gb242, 3, none⟩ = some (.slice A0_3 l0_3.length c0_3) := (blk_cell BK242.out 3).trans rfl; have hfz5_0 := blk_frozen BK242.out 0; have hfz5_1 := blk_frozen BK242.out 1; have hfz5_2 := blk_frozen BK242.out 2; have hfz5_3 := blk_frozen BK242.out 3; have hcz6_0 : w3.cell? ⟨gb243, 0, none⟩ = some (.int .i64 0) := (blk_cell BK243.out 0).trans rfl; have hcz6_1 : w3.cell? ⟨gb243, 1, none⟩ = some (.bool false) := (blk_cell BK243.out 1).trans rfl; have hcz6_2 : w3.cell? ⟨gb243, 2, none⟩ = some (.int .i64 0) := (blk_cell BK243.out 2).trans rfl; have hfz6_0 := blk_frozen BK243.out 0; have hfz6_1 := blk_frozen BK243.out 1; have hfz6_2 := blk_frozen BK243.out 2))
  refine bodyPost_ret (results_cell_row rfl _ _ gb243 44 #[.int .i64 a0_1, .bool (decide (a0_0 > 3)), .int .i64 a0_2] (0, 0) _ rfl (by (with_reducible repeat (first | refine blk_drewN ?_ _ | refine blk_drew ?_ | refine blk_alloc ?_ _)); refine blk_put (cs := #[.int .i64 a0_1, .bool (decide (a0_0 > 3)), .int .i64 0]) ?_ 2 _ rfl; (with_reducible repeat (first | refine blk_drewN ?_ _ | refine blk_drew ?_ | refine blk_alloc ?_ _)); refine blk_put (cs := #[.int .i64 a0_1, .bool false, .int .i64 0]) ?_ 1 _ rfl; (with_reducible repeat (first | refine blk_drewN ?_ _ | refine blk_drew ?_ | refine blk_alloc ?_ _)); refine blk_put (cs := #[.int .i64 0, .bool false, .int .i64 0]) ?_ 0 _ rfl; (with_reducible repeat (first | refine blk_drewN ?_ _ | refine blk_drew ?_ | refine blk_alloc ?_ _)); exact BK243.out) Tryd.underlying44 rfl (by kernel_rfl)) rfl ?_
  exact ⟨by first | rfl | (simp [errW_none, errW_some] <;> rfl) | (simp [*, errW_none, errW_some] <;> rfl), by repeat (first | (with_reducible first | exact HB.out | apply below_alloc | apply pw_below_drewN | apply below_drew1 | refine below_set ?_ GE242.out | refine below_set ?_ GE243.out) | exact HB.out)⟩

/-! ### argosyref10_Opens: function 20 -/
def argosyref10_Opens.f (a0 : Int) : Option (Bool) := if a0 = 1 then (some true) else (some (a0 == 4))
set_option maxHeartbeats 8000000 in
set_option maxRecDepth 100000 in
theorem argosyref10_Opens.calls (a0 : Int) (r : Bool) (w : World) (h : argosyref10_Opens.f a0 = some r) :
    Calls Tryd.prog 20 #[.int .i64 a0] w fun e w' => e = .returned (.bool r) ∧ Drawn0 w w' := by
  have H : (if a0 = 1 then (some true) else (some (a0 == 4))) = some r := h
  clear h
  by_cases c2 : a0 = 1
  · rw [if_pos c2] at H
    have c2b0 : (a0 == 1) = true := beq_iff_eq.mpr c2
    have c2b1 : (a0 != 1) = false := bne_eq_false_iff_eq.mpr c2
    clear c2
    obtain rfl := Option.some.inj H
    go_enter Tryd.func20, Tryd.ntmps20
    go_wp2
    go_ret
    exact ⟨by first | rfl | (simp; done) | (simp [*]; done), by repeat (first | exact Drawn0.refl _ | apply Drawn0.step)⟩
  · rw [if_neg c2] at H
    have c2b0 : (a0 == 1) = false := beq_eq_false_iff_ne.mpr c2
    have c2b1 : (a0 != 1) = true := bne_iff_ne.mpr c2
    obtain rfl := Option.some.inj H
    go_enter Tryd.func20, Tryd.ntmps20
    go_wp2
    go_ret
    exact ⟨by first | rfl | (simp; done) | (simp [*]; done), by repeat (first | exact Drawn0.refl _ | apply Drawn0.step)⟩

end Go.Proofs.YtclkdnpfiolahaaDoor.PEventPuts
