-- Written by a patched print (wip/mkprint.py), for this claim.
import Derived.Test.YtbkdogijkfampaaPMergeMergesx0
import Derived.Test.YtbkdogijkfampaaPMergeMergesx1
import Derived.Test.YtbkdogijkfampaaPMergeMergesx2
import Derived.Test.YtbkdogijkfampaaPMergeMergesx3
import Derived.Test.YtbkdogijkfampaaPMergeMergesx5
import Derived.Test.YtbkdogijkfampaaPMergeMergesx6
namespace Go.Proofs.Ytbkdogijkfampaa.PMergeMerges
open Go.RowKit Go.Proofs.YtbkdogijkfampaaW.PrintWords Go.Proofs.YtbkdogijkfampaaW.PrintLast Go.Proofs.YtbkdogijkfampaaW.PrintMore
attribute [local go_sem] max2_int min2_int max_two min_two max_three min_three max_four min_four   -- for this text's walks alone
set_option linter.unusedVariables false
set_option linter.unusedSimpArgs false

/-! ### argosyref12_Merge: function 12 -/
mutual
def argosyref12_Merge.j0 : Nat → List (List (S45)) → Int → Bool → Option ((List (S45)) × List Int)
  | 0, _, _, _ => none
  | k + 1, x0, x4, x20 => if x20 = true then (some (([] : List (S45)), ([] : List Int))) else (if 0 ≤ x4 then (if (x4 : Int).toNat ≤ 35184372088832 then (argosyref12_Merge.l0 k x0 x4 (List.replicate (x4 : Int).toNat 0) 0 0) else (none)) else (none))
def argosyref12_Merge.l0 : Nat → List (List (S45)) → Int → List Int → Int → Int → Option ((List (S45)) × List Int)
  | 0, _, _, _, _, _ => none
  | k + 1, x0, x4, x5, x6, x7 => if x7 < x4 then (if 0 ≤ x7 then (if x7 < (x0.length : Int) then (argosyref12_Merge.l0 k x0 x4 x5 (wrap64 (x6 + ((rd_L3 x0 x7).length : Int))) (wrap64 (x7 + 1))) else (none)) else (none)) else (argosyref12_Merge.l1 k x0 x4 x5 x6 ([] : List (S45)))
def argosyref12_Merge.l1 : Nat → List (List (S45)) → Int → List Int → Int → List (S45) → Option ((List (S45)) × List Int)
  | 0, _, _, _, _, _ => none
  | k + 1, x0, x4, x5, x6, x8 => if (x8.length : Int) < x6 then (argosyref12_Merge.l2 k x0 x4 x5 x6 x8 (-1) (wrap64 (x4 - 1))) else (some (x8, x5))
def argosyref12_Merge.l2 : Nat → List (List (S45)) → Int → List Int → Int → List (S45) → Int → Int → Option ((List (S45)) × List Int)
  | 0, _, _, _, _, _, _, _ => none
  | k + 1, x0, x4, x5, x6, x8, x9, x10 => if x10 ≥ 0 then (if 0 ≤ x10 then (if x10 < (x5.length : Int) then (if x10 < (x0.length : Int) then (if (rd x5 x10) < ((rd_L3 x0 x10).length : Int) then (if 0 ≤ (rd x5 x10) then ((argosyref12_next.f k x5 ((rd_T45 (rd_L3 x0 x10) (rd x5 x10)).f0) ((rd_T45 (rd_L3 x0 x10) (rd x5 x10)).f1) ((rd_T45 (rd_L3 x0 x10) (rd x5 x10)).f2) ((rd_T45 (rd_L3 x0 x10) (rd x5 x10)).f3) x10).bind fun t267 => (if t267 = true then (argosyref12_Merge.l2 k x0 x4 x5 x6 x8 x10 (wrap64 (x10 - 1))) else (argosyref12_Merge.l2 k x0 x4 x5 x6 x8 x9 (wrap64 (x10 - 1))))) else (none)) else (argosyref12_Merge.l2 k x0 x4 x5 x6 x8 x9 (wrap64 (x10 - 1)))) else (none)) else (none)) else (none)) else (if x9 < 0 then (some (x8, x5)) else (if 0 ≤ x9 then (if x9 < (x5.length : Int) then (if x9 < (x0.length : Int) then (if 0 ≤ (rd x5 x9) then (if (rd x5 x9) < ((rd_L3 x0 x9).length : Int) then (if x8.length < 2932031007402 then (argosyref12_Merge.l1 k x0 x4 (x5.set (x9 : Int).toNat (wrap64 ((rd x5 x9) + 1))) x6 (x8 ++ [(⟨(rd_T45 (rd_L3 x0 x9) (rd x5 x9)).f0, (rd_T45 (rd_L3 x0 x9) (rd x5 x9)).f1, (rd_T45 (rd_L3 x0 x9) (rd x5 x9)).f2, (rd_T45 (rd_L3 x0 x9) (rd x5 x9)).f3⟩ : S45)])) else (none)) else (none)) else (none)) else (none)) else (none)) else (none)))
end
def argosyref12_Merge.f (k : Nat) (l0 : List (List (S45))) : Option ((List (S45)) × List Int) := if (l0.length : Int) < 1 then (argosyref12_Merge.j0 k l0 (l0.length : Int) true) else (argosyref12_Merge.j0 k l0 (l0.length : Int) (decide ((l0.length : Int) > 64)))
theorem argosyref12_Merge.mono_l : ∀ k, (∀ y0 y1 y2, LeO (argosyref12_Merge.j0 k y0 y1 y2) (argosyref12_Merge.j0 (k + 1) y0 y1 y2)) ∧ (∀ y0 y1 y2 y3 y4, LeO (argosyref12_Merge.l0 k y0 y1 y2 y3 y4) (argosyref12_Merge.l0 (k + 1) y0 y1 y2 y3 y4)) ∧ (∀ y0 y1 y2 y3 y4, LeO (argosyref12_Merge.l1 k y0 y1 y2 y3 y4) (argosyref12_Merge.l1 (k + 1) y0 y1 y2 y3 y4)) ∧ (∀ y0 y1 y2 y3 y4 y5 y6, LeO (argosyref12_Merge.l2 k y0 y1 y2 y3 y4 y5 y6) (argosyref12_Merge.l2 (k + 1) y0 y1 y2 y3 y4 y5 y6))
  | 0 => ⟨fun _ _ _ r h => by simp [argosyref12_Merge.j0] at h, fun _ _ _ _ _ r h => by simp [argosyref12_Merge.l0] at h, fun _ _ _ _ _ r h => by simp [argosyref12_Merge.l1] at h, fun _ _ _ _ _ _ _ r h => by simp [argosyref12_Merge.l2] at h⟩
  | k + 1 => by
    obtain ⟨ih0, ih1, ih2, ih3⟩ := argosyref12_Merge.mono_l k
    refine ⟨?_, ?_, ?_, ?_⟩
    · intro y0 y1 y2
      unfold argosyref12_Merge.j0
      repeat' first
      | (with_reducible exact ih0 _ _ _)
      | (with_reducible exact ih1 _ _ _ _ _)
      | (with_reducible exact ih2 _ _ _ _ _)
      | (with_reducible exact ih3 _ _ _ _ _ _ _)
      | (with_reducible exact argosyref12_next.mono _ _ _ _ _ _ _)
      | (with_reducible exact LeO.refl _)
      | (with_reducible exact LeO.none _)
      | (with_reducible refine LeO.ite ?_ ?_)
      | (with_reducible refine LeO.bind ?_ (fun _ => ?_))
      | exact ih0 _ _ _
      | exact ih1 _ _ _ _ _
      | exact ih2 _ _ _ _ _
      | exact ih3 _ _ _ _ _ _ _
      | exact argosyref12_next.mono _ _ _ _ _ _ _
      | exact LeO.none _
      | refine LeO.ite ?_ ?_
      | refine LeO.bind ?_ (fun _ => ?_)
    · intro y0 y1 y2 y3 y4
      unfold argosyref12_Merge.l0
      repeat' first
      | (with_reducible exact ih0 _ _ _)
      | (with_reducible exact ih1 _ _ _ _ _)
      | (with_reducible exact ih2 _ _ _ _ _)
      | (with_reducible exact ih3 _ _ _ _ _ _ _)
      | (with_reducible exact argosyref12_next.mono _ _ _ _ _ _ _)
      | (with_reducible exact LeO.refl _)
      | (with_reducible exact LeO.none _)
      | (with_reducible refine LeO.ite ?_ ?_)
      | (with_reducible refine LeO.bind ?_ (fun _ => ?_))
      | exact ih0 _ _ _
      | exact ih1 _ _ _ _ _
      | exact ih2 _ _ _ _ _
      | exact ih3 _ _ _ _ _ _ _
      | exact argosyref12_next.mono _ _ _ _ _ _ _
      | exact LeO.none _
      | refine LeO.ite ?_ ?_
      | refine LeO.bind ?_ (fun _ => ?_)
    · intro y0 y1 y2 y3 y4
      unfold argosyref12_Merge.l1
      repeat' first
      | (with_reducible exact ih0 _ _ _)
      | (with_reducible exact ih1 _ _ _ _ _)
      | (with_reducible exact ih2 _ _ _ _ _)
      | (with_reducible exact ih3 _ _ _ _ _ _ _)
      | (with_reducible exact argosyref12_next.mono _ _ _ _ _ _ _)
      | (with_reducible exact LeO.refl _)
      | (with_reducible exact LeO.none _)
      | (with_reducible refine LeO.ite ?_ ?_)
      | (with_reducible refine LeO.bind ?_ (fun _ => ?_))
      | exact ih0 _ _ _
      | exact ih1 _ _ _ _ _
      | exact ih2 _ _ _ _ _
      | exact ih3 _ _ _ _ _ _ _
      | exact argosyref12_next.mono _ _ _ _ _ _ _
      | exact LeO.none _
      | refine LeO.ite ?_ ?_
      | refine LeO.bind ?_ (fun _ => ?_)
    · intro y0 y1 y2 y3 y4 y5 y6
      unfold argosyref12_Merge.l2
      repeat' first
      | (with_reducible exact ih0 _ _ _)
      | (with_reducible exact ih1 _ _ _ _ _)
      | (with_reducible exact ih2 _ _ _ _ _)
      | (with_reducible exact ih3 _ _ _ _ _ _ _)
      | (with_reducible exact argosyref12_next.mono _ _ _ _ _ _ _)
      | (with_reducible exact LeO.refl _)
      | (with_reducible exact LeO.none _)
      | (with_reducible refine LeO.ite ?_ ?_)
      | (with_reducible refine LeO.bind ?_ (fun _ => ?_))
      | exact ih0 _ _ _
      | exact ih1 _ _ _ _ _
      | exact ih2 _ _ _ _ _
      | exact ih3 _ _ _ _ _ _ _
      | exact argosyref12_next.mono _ _ _ _ _ _ _
      | exact LeO.none _
      | refine LeO.ite ?_ ?_
      | refine LeO.bind ?_ (fun _ => ?_)
theorem argosyref12_Merge.mono : ∀ a0 k, LeO (argosyref12_Merge.f k a0) (argosyref12_Merge.f (k + 1) a0) := by
  intro a0 k
  obtain ⟨ih0, ih1, ih2, ih3⟩ := argosyref12_Merge.mono_l k
  unfold argosyref12_Merge.f
  repeat' first
      | (with_reducible exact ih0 _ _ _)
      | (with_reducible exact ih1 _ _ _ _ _)
      | (with_reducible exact ih2 _ _ _ _ _)
      | (with_reducible exact ih3 _ _ _ _ _ _ _)
      | (with_reducible exact argosyref12_next.mono _ _ _ _ _ _ _)
      | (with_reducible exact LeO.refl _)
      | (with_reducible exact LeO.none _)
      | (with_reducible refine LeO.ite ?_ ?_)
      | (with_reducible refine LeO.bind ?_ (fun _ => ?_))
      | exact ih0 _ _ _
      | exact ih1 _ _ _ _ _
      | exact ih2 _ _ _ _ _
      | exact ih3 _ _ _ _ _ _ _
      | exact argosyref12_next.mono _ _ _ _ _ _ _
      | exact LeO.none _
      | refine LeO.ite ?_ ?_
      | refine LeO.bind ?_ (fun _ => ?_)
set_option maxHeartbeats 8000000 in
set_option maxRecDepth 100000 in
theorem argosyref12_Merge.calls (k : Nat) (P0_ : Nat → Prop) (A0 : Option Addr) (c0 : Nat) (l0 : List (List (S45))) (r1 : List (S45)) (r2 : List Int) (w : World) (hs0 : Kd.V (Kd.slice 45 k45) 25 w w.heap.size (fun k_ => P0_ k_) (.slice A0 l0.length c0) l0) (h : argosyref12_Merge.f k l0 = some (r1, r2)) :
    Calls Try.prog 12 #[.slice A0 l0.length c0] w fun e w' => ∃ v0_ v1_ : Value, e = .returned (.tuple #[v0_, v1_]) ∧ Kd.N k45 45 w' w.heap.size (fun k_ => (P0_ k_ ∨ w.heap.size ≤ k_) ∧ some k_ ≠ (v1_ : Value).ownBlock) v0_ r1 ∧ Kd.R (Kd.int .i64) 3 w' w.heap.size (fun k_ => (w.heap.size ≤ k_)) v1_ r2 ∧ Below w.heap.size w w' := by
  have hu45 := Try.underlying45
  have HO0 := Aside0.mk (show Kd.V (Kd.slice 45 k45) 25 w w.heap.size (fun k_ => (P0_ k_ ∨ w.heap.size ≤ k_)) (.slice A0 l0.length c0) l0 from Kd.V_mono hs0 (fun k_ hk => .inl hk))
  have HB := Aside0.mk (Below.refl w.heap.size w)
  have H : (if (l0.length : Int) < 1 then (argosyref12_Merge.j0 k l0 (l0.length : Int) true) else (argosyref12_Merge.j0 k l0 (l0.length : Int) (decide ((l0.length : Int) > 64)))) = some (r1, r2) := h
  clear h
  have HC2 := Aside0.mk H
  clear H
  go_enter Try.func12, Try.ntmps12
  go_upto_region 2 with (fail)
  go_cut [20] (fun v20 wc => ∃ (kq : Nat) (x20_1 : Bool), v20 = .bool x20_1 ∧ Aside0 (argosyref12_Merge.j0 kq l0 (l0.length : Int) x20_1 = some (r1, r2)) ∧ Aside0 (kq ≤ k) ∧ Aside0 (Kd.V (Kd.slice 45 k45) 25 wc w.heap.size (fun k_ => (P0_ k_ ∨ w.heap.size ≤ k_)) (.slice A0 l0.length c0) l0) ∧ Aside0 (Below w.heap.size w wc))
  case first =>
    have H := HC2.out
    clear HC2
    by_cases c3 : (l0.length : Int) < 1
    · rw [if_pos c3] at H
      have c3b0 : decide ((l0.length : Int) < 1) = true := decide_eq_true c3
      have c3b1 : decide (l0.length < 1) = true := decide_eq_true (by omega)
      clear c3
      (first | rw [c3b0] | (simp only [i64_w, i32_w]; rw [c3b0]) | skip)
      have H' := Aside0.mk H
      clear H
      go_wp2
      go_meet
      case rel => exact ⟨_, (true), (by first | rfl | (simp; done) | (simp [*]; done)), H', ⟨by first | omega | exact Nat.le_refl _⟩, ⟨by (with_reducible repeat (first | apply Kd.V_alloc | apply Kd.V_drewN | apply Kd.V_drew)); exact HO0.out⟩, ⟨by repeat (first | (with_reducible first | exact HB.out | apply below_alloc | apply pw_below_drewN | apply below_drew1) | exact HB.out)⟩⟩
    · rw [if_neg c3] at H
      have c3b0 : decide ((l0.length : Int) < 1) = false := decide_eq_false c3
      have c3b1 : decide (l0.length < 1) = false := decide_eq_false (by omega)
      clear c3
      (first | rw [c3b0] | (simp only [i64_w, i32_w]; rw [c3b0]) | skip)
      have H' := Aside0.mk H
      clear H
      go_wp2
      go_meet
      case rel => exact ⟨_, (decide ((l0.length : Int) > 64)), (by first | rfl | (simp; done) | (simp [*]; done)), H', ⟨by first | omega | exact Nat.le_refl _⟩, ⟨by (with_reducible repeat (first | apply Kd.V_alloc | apply Kd.V_drewN | apply Kd.V_drew)); exact HO0.out⟩, ⟨by repeat (first | (with_reducible first | exact HB.out | apply below_alloc | apply pw_below_drewN | apply below_drew1) | exact HB.out)⟩⟩
  case rest =>
    clear HC2
    try clear c1
    try clear p2
    try clear c3
    try clear c3b0
    try clear c3b1
    obtain ⟨kq, x20_1, rfl, HA, HJ1, HO_0, HB⟩ := hcut
    cases kq with
    | zero => exact absurd HA.out (by simp [argosyref12_Merge.j0])
    | succ kj1 =>
      have H := HA.out
      clear HA
      simp only [argosyref12_Merge.j0] at H
      by_cases c4 : x20_1 = true
      · subst c4
        have H1 : (some (([] : List (S45)), ([] : List Int))) = some (r1, r2) := by rw [if_pos rfl] at H; exact H
        clear H
        have H := H1
        clear H1
        simp only [Option.some.injEq, Prod.mk.injEq] at H
        obtain ⟨rfl, rfl⟩ := H
        go_wp2
        go_ret2
        exact ⟨_, _, by first | rfl | (simp [errW_none, errW_some] <;> rfl) | (simp [*, errW_none, errW_some] <;> rfl), by first | exact Kd.S_nil _ _ _ _ _ | exact Kd.N_nil _ _ _ _ _ | exact Kd.V_nil _ _ _ _ _ | exact Kd.Q_nil _ _ _ _ _ | exact Kd.R_nil _ _ _ _ _, by first | exact Kd.R_nil _ _ _ _ _ | exact Kd.N_nil _ _ _ _ _ | exact Kd.V_nil _ _ _ _ _ | exact Kd.Q_nil _ _ _ _ _ | exact Kd.S_nil _ _ _ _ _, by repeat (first | (with_reducible first | exact HB.out | apply below_alloc | apply pw_below_drewN | apply below_drew1) | exact HB.out)⟩
      · replace c4 := Bool.eq_false_iff.mpr c4
        subst c4
        have H1 : (if 0 ≤ (l0.length : Int) then (if ((l0.length : Int) : Int).toNat ≤ 35184372088832 then (argosyref12_Merge.l0 kj1 l0 (l0.length : Int) (List.replicate ((l0.length : Int) : Int).toNat 0) 0 0) else (none)) else (none)) = some (r1, r2) := by rw [if_neg (show ¬ (false = true) by decide)] at H; exact H
        clear H
        have H := H1
        clear H1
        by_cases c5 : 0 ≤ (l0.length : Int)
        · rw [if_pos c5] at H
          have c5b0 := eq_true c5
          have c5b1 : decide (0 ≤ (l0.length : Int)) = true := decide_eq_true c5
          clear c5
          by_cases c6 : ((l0.length : Int) : Int).toNat ≤ 35184372088832
          · rw [if_pos c6] at H
            have c6b0 := eq_true c6
            have c6b1 : decide (((l0.length : Int) : Int).toNat ≤ 35184372088832) = true := decide_eq_true c6
            clear c6
            obtain ⟨y259, hy259⟩ : ∃ y_ : List Int, y_ = (List.replicate ((l0.length : Int) : Int).toNat 0) := ⟨_, rfl⟩
            replace H : (argosyref12_Merge.l0 kj1 l0 (l0.length : Int) y259 0 0) = some (r1, r2) := by first | (rw [hy259]; with_reducible exact H) | (have H2_ := (Option.bind_some _ _).symm.trans H; rw [hy259]; with_reducible exact H2_) | (have H2_ := (Option.bind_some _ _).symm.trans H; with_reducible exact H2_) | with_reducible exact H | (rw [hy259]; exact H) | exact H
            have Ny259 := Aside0.mk hy259
            clear hy259
            have H' := Aside0.mk H
            clear H
            go_wp2_with (first | ((with_reducible refine gate_dst (N := 22) rfl ?_); refine Kd.R_make (Kd.int .i64) _ 3 rfl (N := 22) rfl 26 _ _ rfl (l0.length : Int) rfl rfl Try.underlying26 (.int .i64 0) 8 info3 rfl (by decide) (by omega) 0 (ok := fun _ => True) (okp := fun _ => True) rfl (fun _ hk => hk) trivial (of_decide_eq_true (by first | (with_reducible assumption) | assumption)) (Nat.le_trans (Nat.mul_le_mul_right _ (of_decide_eq_true (by first | (with_reducible assumption) | assumption) : (l0.length : Int).toNat ≤ 35184372088832)) (by omega)) (Below.refl _ _) (Nat.le_refl _) ?_; intro v260 w7 ho8 hb hg_ hnew_; clear hg_ hnew_; (first | rw [← Ny259.out] at ho8 | (simp only [Int.reduceToNat] at ho8; rw [← Ny259.out] at ho8)); have n0_ := Aside0.mk (Kd.V_elder' (by (with_reducible repeat (first | apply Kd.V_alloc | apply Kd.V_drewN | apply Kd.V_drew)); exact HO_0.out) (Kd.R_base ho8) hb); have n1_ := Aside0.mk (Kd.R_lower (Kd.R_newM (M := fun k_ => (w.heap.size ≤ k_)) ho8 (below_size (by repeat (first | (with_reducible first | exact HB.out | apply below_alloc | apply pw_below_drewN | apply below_drew1) | exact HB.out))) (fun k_ h_ => h_)) (below_size (by repeat (first | (with_reducible first | exact HB.out | apply below_alloc | apply pw_below_drewN | apply below_drew1) | exact HB.out)))); have n2_ := Aside0.mk (below_step (by repeat (first | (with_reducible first | exact HB.out | apply below_alloc | apply pw_below_drewN | apply below_drew1) | exact HB.out)) hb); clear HO_0; clear HB; have HO_0 := n0_; have HO261 := n1_; have HB := n2_; clear n0_ n1_ n2_; clear hb ho8))
            go_loopg [6, 7] kj1 (fun kq v6 v7 w' => ∃ (x6_2 : Int) (x7_2 : Int), v6 = .int .i64 x6_2 ∧ v7 = .int .i64 x7_2 ∧ Aside0 (argosyref12_Merge.l0 kq l0 (l0.length : Int) y259 x6_2 x7_2 = some (r1, r2)) ∧ Aside0 (kq ≤ kj1) ∧ Aside0 (Kd.V (Kd.slice 45 k45) 25 w' w.heap.size (fun k_ => (P0_ k_ ∨ w.heap.size ≤ k_) ∧ some k_ ≠ (v260 : Value).ownBlock) (.slice A0 l0.length c0) l0) ∧ Aside0 (Kd.R (Kd.int .i64) 3 w' w.heap.size (fun k_ => (w.heap.size ≤ k_)) v260 y259) ∧ Aside0 (Below w.heap.size w w'))
            case atStart => exact ⟨(0), (0), (by first | rfl | (simp; done) | (simp [*]; done)), (by first | rfl | (simp; done) | (simp [*]; done)), H', ⟨Nat.le_refl _⟩, ⟨by (with_reducible repeat (first | apply Kd.V_alloc | apply Kd.V_drewN | apply Kd.V_drew)); exact HO_0.out⟩, ⟨by (with_reducible repeat (first | apply Kd.R_alloc | apply Kd.R_drewN | apply Kd.R_drew)); exact Kd.R_mono HO261.out (fun _ hk => hk.1)⟩, ⟨by repeat (first | (with_reducible first | exact HB.out | apply below_alloc | apply pw_below_drewN | apply below_drew1) | exact HB.out)⟩⟩
            case round =>
              clear H'
              try clear c1
              try clear p2
              try clear c3
              try clear c3b0
              try clear c3b1
              try clear c4
              try clear c5
              try clear c5b0
              try clear c5b1
              try clear c6
              try clear c6b0
              try clear c6b1
              try clear p2
              obtain ⟨x6_2, x7_2, rfl, rfl, HA, HK2, HO_0, HO_5, HB⟩ := hrel
              cases gk with
              | zero => exact absurd HA.out (by simp [argosyref12_Merge.l0])
              | succ k2 =>
                have H := HA.out
                clear HA
                simp only [argosyref12_Merge.l0] at H
                by_cases c9 : x7_2 < (l0.length : Int)
                · rw [if_pos c9] at H
                  have c9b0 : decide (x7_2 < (l0.length : Int)) = true := decide_eq_true c9
                  clear c9
                  by_cases c10 : 0 ≤ x7_2
                  · rw [if_pos c10] at H
                    have c10b0 : decide (0 ≤ x7_2) = true := decide_eq_true c10
                    clear c10
                    by_cases c11 : x7_2 < (l0.length : Int)
                    · rw [if_pos c11] at H
                      have c11b0 : decide (x7_2 < (l0.length : Int)) = true := decide_eq_true c11
                      clear c11
                      have H' := Aside0.mk H
                      clear H
                      have p262 : 0 ≤ (x7_2 : Int) := of_decide_eq_true (by first | (with_reducible assumption) | assumption)
                      have q262 : x7_2 < (l0.length : Int) := of_decide_eq_true (by first | (with_reducible assumption) | assumption)
                      obtain ⟨ad262, A262_0, c262_0, e262, hx262_0, hl262_0, hi262_0⟩ := at_L3 (Kd.V_reads' HO_0.out).2.2 x7_2 p262 q262
                      cases e262
                      obtain ⟨ce262, hce262, hMe262, hcc262⟩ := Kd.V_get HO_0.out [] x7_2 p262 (by first | exact q262 | exact of_decide_eq_true (by first | (with_reducible assumption) | assumption) | (have e_ := (Kd.V_reads' HO_0.out).1; omega))
                      obtain ⟨ua262_0, uc262_0, rfl, ul262_0, ge262_0⟩ := Kd.FK_slice_open hMe262
                      have hv262_0 := hcc262 0 _ rfl
                      rw [Nat.add_zero, show ((Kd.slice 45 k45)).sz = 1 from rfl, Nat.mul_one] at hv262_0
                      replace hv262_0 := Option.some.inj (hv262_0.symm.trans hx262_0)
                      injection hv262_0 with hva_ hvn_ hvc_
                      rw [hva_] at ge262_0
                      rw [hvc_] at ul262_0
                      have HL262_0 := Aside0.mk (show Kd.V k45 45 _ w.heap.size _ _ (rd_L3 l0 x7_2) from Kd.V_mk ul262_0 ge262_0)
                      clear hva_ hvn_ hvc_ ge262_0 ul262_0
                      clear hcc262 hce262
                      have HR262_0 := Aside0.mk hi262_0
                      have HC262_0 := Aside0.mk hl262_0
                      clear hi262_0 hl262_0
                      replace p262 := eq_true p262
                      replace q262 := eq_true q262
                      go_wp2
                      go_roundg k2
                      case measure => have := HJ1.out; have := HK2.out; omega
                      case rel => exact ⟨(wrap64 (x6_2 + ((rd_L3 l0 x7_2).length : Int))), (wrap64 (x7_2 + 1)), (by first | rfl | (simp; done) | (simp [*]; done)), (by first | rfl | (simp; done) | (simp [*]; done)), H', ⟨by have := HJ1.out; have := HK2.out; omega⟩, ⟨by (with_reducible repeat (first | apply Kd.V_alloc | apply Kd.V_drewN | apply Kd.V_drew)); exact HO_0.out⟩, ⟨by (with_reducible repeat (first | apply Kd.R_alloc | apply Kd.R_drewN | apply Kd.R_drew)); exact HO_5.out⟩, ⟨by repeat (first | (with_reducible first | exact HB.out | apply below_alloc | apply pw_below_drewN | apply below_drew1) | exact HB.out)⟩⟩
                    · rw [if_neg c11] at H
                      exact absurd H (by simp)
                  · rw [if_neg c10] at H
                    exact absurd H (by simp)
                · rw [if_neg c9] at H
                  have c9b0 : decide (x7_2 < (l0.length : Int)) = false := decide_eq_false c9
                  clear c9
                  have H' := Aside0.mk H
                  clear H
                  go_wp2
                  go_loopg [8] k2 (fun kq v8 w' => ∃ (x5_3 : List Int) (x8_3 : List (S45)), Aside0 (argosyref12_Merge.l1 kq l0 (l0.length : Int) x5_3 x6_2 x8_3 = some (r1, r2)) ∧ Aside0 (kq ≤ k2) ∧ Aside0 (Kd.V (Kd.slice 45 k45) 25 w' w.heap.size (fun k_ => (P0_ k_ ∨ w.heap.size ≤ k_) ∧ some k_ ≠ (v260 : Value).ownBlock ∧ some k_ ≠ (v8 : Value).ownBlock) (.slice A0 l0.length c0) l0) ∧ Aside0 (Kd.R (Kd.int .i64) 3 w' w.heap.size (fun k_ => (w.heap.size ≤ k_)) v260 x5_3) ∧ Aside0 (Kd.N k45 45 w' w.heap.size (fun k_ => (P0_ k_ ∨ w.heap.size ≤ k_) ∧ some k_ ≠ (v260 : Value).ownBlock) v8 x8_3) ∧ Aside0 (Below w.heap.size w w'))
                  case atStart => exact ⟨(y259), (([] : List (S45))), H', ⟨Nat.le_refl _⟩, ⟨by (with_reducible repeat (first | apply Kd.V_alloc | apply Kd.V_drewN | apply Kd.V_drew)); exact Kd.V_mono HO_0.out (fun _ hk => ⟨hk.1, ⟨hk.2, (by simp [Value.ownBlock])⟩⟩)⟩, ⟨by (with_reducible repeat (first | apply Kd.R_alloc | apply Kd.R_drewN | apply Kd.R_drew)); exact HO_5.out⟩, ⟨by first | exact Kd.S_nil _ _ _ _ _ | exact Kd.N_nil _ _ _ _ _ | exact Kd.V_nil _ _ _ _ _ | exact Kd.Q_nil _ _ _ _ _ | exact Kd.R_nil _ _ _ _ _⟩, ⟨by repeat (first | (with_reducible first | exact HB.out | apply below_alloc | apply pw_below_drewN | apply below_drew1) | exact HB.out)⟩⟩
                  case round =>
                    clear H'
                    try clear c1
                    try clear c2
                    try clear p2
                    try clear q2
                    try clear hx2
                    try clear c3
                    try clear c3b0
                    try clear c3b1
                    try clear c4
                    try clear c5
                    try clear c5b0
                    try clear c5b1
                    try clear c6
                    try clear c6b0
                    try clear c6b1
                    try clear p6
                    try clear c9
                    try clear c9b0
                    try clear c10
                    try clear c10b0
                    try clear c11
                    try clear c11b0
                    try clear hx262_0
                    try clear p2
                    try clear p262
                    try clear q262
                    obtain ⟨x5_3, x8_3, HA, HK3, HO_0, HO_5, HO_8, HB⟩ := hrel
                    cases gk with
                    | zero => exact absurd HA.out (by simp [argosyref12_Merge.l1])
                    | succ k3 =>
                      have H := HA.out
                      clear HA
                      simp only [argosyref12_Merge.l1] at H
                      by_cases c12 : (x8_3.length : Int) < x6_2
                      · rw [if_pos c12] at H
                        have c12b0 : decide ((x8_3.length : Int) < x6_2) = true := decide_eq_true c12
                        clear c12
                        have H' := Aside0.mk H
                        clear H
                        obtain ⟨Ao13, co13, eo13⟩ := Kd.N_slice HO_8.out
                        subst eo13
                        go_wp2
                        go_loopg [9, 10] k3 (fun kq v9 v10 w' => ∃ (x9_4 : Int) (x10_4 : Int), v9 = .int .i64 x9_4 ∧ v10 = .int .i64 x10_4 ∧ Aside0 (argosyref12_Merge.l2 kq l0 (l0.length : Int) x5_3 x6_2 x8_3 x9_4 x10_4 = some (r1, r2)) ∧ Aside0 (kq ≤ k3) ∧ Aside0 (Kd.V (Kd.slice 45 k45) 25 w' w.heap.size (fun k_ => (P0_ k_ ∨ w.heap.size ≤ k_) ∧ some k_ ≠ (v260 : Value).ownBlock ∧ some k_ ≠ ((.slice Ao13 x8_3.length co13) : Value).ownBlock) (.slice A0 l0.length c0) l0) ∧ Aside0 (Kd.R (Kd.int .i64) 3 w' w.heap.size (fun k_ => (w.heap.size ≤ k_)) v260 x5_3) ∧ Aside0 (Kd.N k45 45 w' w.heap.size (fun k_ => (P0_ k_ ∨ w.heap.size ≤ k_) ∧ some k_ ≠ (v260 : Value).ownBlock) (.slice Ao13 x8_3.length co13) x8_3) ∧ Aside0 (Below w.heap.size w w'))
                        case atStart => exact ⟨((-1)), (wrap64 ((l0.length : Int) - 1)), (by first | rfl | (simp; done) | (simp [*]; done)), (by first | rfl | (simp; done) | (simp [*]; done)), H', ⟨Nat.le_refl _⟩, ⟨by (with_reducible repeat (first | apply Kd.V_alloc | apply Kd.V_drewN | apply Kd.V_drew)); exact HO_0.out⟩, ⟨by (with_reducible repeat (first | apply Kd.R_alloc | apply Kd.R_drewN | apply Kd.R_drew)); exact HO_5.out⟩, ⟨by (with_reducible repeat (first | apply Kd.N_alloc | apply Kd.N_drewN | apply Kd.N_drew)); exact HO_8.out⟩, ⟨by repeat (first | (with_reducible first | exact HB.out | apply below_alloc | apply pw_below_drewN | apply below_drew1) | exact HB.out)⟩⟩
                        case round =>
                          clear H'
                          try clear c1
                          try clear c2
                          try clear p2
                          try clear q2
                          try clear hx2
                          try clear c3
                          try clear c3b0
                          try clear c3b1
                          try clear c4
                          try clear c5
                          try clear c5b0
                          try clear c5b1
                          try clear c6
                          try clear c6b0
                          try clear c6b1
                          try clear p6
                          try clear c9
                          try clear c9b0
                          try clear c10
                          try clear c10b0
                          try clear c11
                          try clear c11b0
                          try clear c12
                          try clear c12b0
                          try clear hx262_0
                          try clear p2
                          try clear p262
                          try clear p6
                          try clear q2
                          try clear q262
                          obtain ⟨x9_4, x10_4, rfl, rfl, HA, HK4, HO_0, HO_5, HO_8, HB⟩ := hrel
                          cases gk with
                          | zero => exact absurd HA.out (by simp [argosyref12_Merge.l2])
                          | succ k4 =>
                            have H := HA.out
                            clear HA
                            simp only [argosyref12_Merge.l2] at H
                            by_cases c14 : x10_4 ≥ 0
                            · rw [if_pos c14] at H
                              have c14b0 : decide (0 ≤ x10_4) = true := decide_eq_true c14
                              clear c14
                              by_cases c15 : 0 ≤ x10_4
                              · rw [if_pos c15] at H
                                have c15b0 : decide (0 ≤ x10_4) = true := decide_eq_true c15
                                clear c15
                                by_cases c16 : x10_4 < (x5_3.length : Int)
                                · rw [if_pos c16] at H
                                  have c16b0 : decide (x10_4 < (x5_3.length : Int)) = true := decide_eq_true c16
                                  clear c16
                                  by_cases c17 : x10_4 < (l0.length : Int)
                                  · rw [if_pos c17] at H
                                    have c17b0 : decide (x10_4 < (l0.length : Int)) = true := decide_eq_true c17
                                    clear c17
                                    by_cases c18 : (rd x5_3 x10_4) < ((rd_L3 l0 x10_4).length : Int)
                                    · rw [if_pos c18] at H
                                      have c18b0 : decide ((rd x5_3 x10_4) < ((rd_L3 l0 x10_4).length : Int)) = true := decide_eq_true c18
                                      clear c18
                                      by_cases c19 : 0 ≤ (rd x5_3 x10_4)
                                      · rw [if_pos c19] at H
                                        have c19b0 : decide (0 ≤ (rd x5_3 x10_4)) = true := decide_eq_true c19
                                        clear c19
                                        replace H := Option.bind_eq_some_iff.mp H
                                        obtain ⟨t267, A200, H⟩ := H
                                        replace H : (if t267 = true then (argosyref12_Merge.l2 k4 l0 (l0.length : Int) x5_3 x6_2 x8_3 x10_4 (wrap64 (x10_4 - 1))) else (argosyref12_Merge.l2 k4 l0 (l0.length : Int) x5_3 x6_2 x8_3 x9_4 (wrap64 (x10_4 - 1)))) = some (r1, r2) := H
                                        have A20 := Aside0.mk A200
                                        clear A200
                                        by_cases c21 : t267 = true
                                        · subst c21
                                          have H1 : (argosyref12_Merge.l2 k4 l0 (l0.length : Int) x5_3 x6_2 x8_3 x10_4 (wrap64 (x10_4 - 1))) = some (r1, r2) := by rw [if_pos rfl] at H; exact H
                                          clear H
                                          have H := H1
                                          clear H1
                                          have H' := Aside0.mk H
                                          clear H
                                          obtain ⟨Ao22, co22, eo22⟩ := Kd.R_slice HO_5.out
                                          subst eo22
                                          have p263 : 0 ≤ (x10_4 : Int) := of_decide_eq_true (by first | (with_reducible assumption) | assumption)
                                          have q263 : x10_4 < (x5_3.length : Int) := of_decide_eq_true (by first | (with_reducible assumption) | assumption)
                                          obtain ⟨ad263, e263, hx263_0⟩ := Kd.at_int (Kd.R_reads' HO_5.out).2.2 x10_4 p263 q263
                                          cases e263
                                          replace p263 := eq_true p263
                                          replace q263 := eq_true q263
                                          have p264 : 0 ≤ (x10_4 : Int) := of_decide_eq_true (by first | (with_reducible assumption) | assumption)
                                          have q264 : x10_4 < (l0.length : Int) := of_decide_eq_true (by first | (with_reducible assumption) | assumption)
                                          obtain ⟨ad264, A264_0, c264_0, e264, hx264_0, hl264_0, hi264_0⟩ := at_L3 (Kd.V_reads' HO_0.out).2.2 x10_4 p264 q264
                                          cases e264
                                          obtain ⟨ce264, hce264, hMe264, hcc264⟩ := Kd.V_get HO_0.out [] x10_4 p264 (by first | exact q264 | exact of_decide_eq_true (by first | (with_reducible assumption) | assumption) | (have e_ := (Kd.V_reads' HO_0.out).1; omega))
                                          obtain ⟨ua264_0, uc264_0, rfl, ul264_0, ge264_0⟩ := Kd.FK_slice_open hMe264
                                          have hv264_0 := hcc264 0 _ rfl
                                          rw [Nat.add_zero, show ((Kd.slice 45 k45)).sz = 1 from rfl, Nat.mul_one] at hv264_0
                                          replace hv264_0 := Option.some.inj (hv264_0.symm.trans hx264_0)
                                          injection hv264_0 with hva_ hvn_ hvc_
                                          rw [hva_] at ge264_0
                                          rw [hvc_] at ul264_0
                                          have HL264_0 := Aside0.mk (show Kd.V k45 45 _ w.heap.size _ _ (rd_L3 l0 x10_4) from Kd.V_mk ul264_0 ge264_0)
                                          clear hva_ hvn_ hvc_ ge264_0 ul264_0
                                          clear hcc264 hce264
                                          have HR264_0 := Aside0.mk hi264_0
                                          have HC264_0 := Aside0.mk hl264_0
                                          clear hi264_0 hl264_0
                                          replace p264 := eq_true p264
                                          replace q264 := eq_true q264
                                          have p265 : 0 ≤ (x10_4 : Int) := of_decide_eq_true (by first | (with_reducible assumption) | assumption)
                                          have q265 : x10_4 < (l0.length : Int) := of_decide_eq_true (by first | (with_reducible assumption) | assumption)
                                          obtain ⟨ad265, A265_0, c265_0, e265, hx265_0, hl265_0, hi265_0⟩ := at_L3 (Kd.V_reads' HO_0.out).2.2 x10_4 p265 q265
                                          obtain rfl : ad264 = ad265 := (by injection e265)
                                          obtain ⟨ce265, hce265, hMe265, hcc265⟩ := Kd.V_get HO_0.out [] x10_4 p265 (by first | exact q265 | exact of_decide_eq_true (by first | (with_reducible assumption) | assumption) | (have e_ := (Kd.V_reads' HO_0.out).1; omega))
                                          obtain ⟨ua265_0, uc265_0, rfl, ul265_0, ge265_0⟩ := Kd.FK_slice_open hMe265
                                          have hv265_0 := hcc265 0 _ rfl
                                          rw [Nat.add_zero, show ((Kd.slice 45 k45)).sz = 1 from rfl, Nat.mul_one] at hv265_0
                                          replace hv265_0 := Option.some.inj (hv265_0.symm.trans hx265_0)
                                          injection hv265_0 with hva_ hvn_ hvc_
                                          rw [hva_] at ge265_0
                                          rw [hvc_] at ul265_0
                                          have HL265_0 := Aside0.mk (show Kd.V k45 45 _ w.heap.size _ _ (rd_L3 l0 x10_4) from Kd.V_mk ul265_0 ge265_0)
                                          clear hva_ hvn_ hvc_ ge265_0 ul265_0
                                          clear hcc265 hce265
                                          have HR265_0 := Aside0.mk hi265_0
                                          have HC265_0 := Aside0.mk hl265_0
                                          clear hi265_0 hl265_0
                                          replace p265 := eq_true p265
                                          replace q265 := eq_true q265
                                          have ea_ := Option.some.inj (hx264_0.symm.trans hx265_0)
                                          injection ea_ with ea_ en_ ec_
                                          subst ea_
                                          subst ec_
                                          clear en_
                                          have p266 : 0 ≤ ((rd x5_3 x10_4) : Int) := of_decide_eq_true (by first | (with_reducible assumption) | assumption)
                                          have q266 : (rd x5_3 x10_4) < ((rd_L3 l0 x10_4).length : Int) := of_decide_eq_true (by first | (with_reducible assumption) | assumption)
                                          obtain ⟨ad266, A266_3, c266_3, e266, hx266_0, hx266_1, hx266_2, hx266_3, hl266_3, hi266_3⟩ := at_T45 (by repeat (first | (with_reducible exact HR265_0.out) | (with_reducible refine Kd.C_alloc ?_ _) | (with_reducible refine Kd.C_drewN ?_ _) | (with_reducible refine Kd.C_drew ?_) | exact HR265_0.out)) (rd x5_3 x10_4) p266 q266
                                          cases e266
                                          obtain ⟨ce266, hce266, hMe266, hcc266⟩ := Kd.V_get HL265_0.out z45 (rd x5_3 x10_4) p266 (by first | exact q266 | exact of_decide_eq_true (by first | (with_reducible assumption) | assumption) | (have e_ := (Kd.V_reads' HL265_0.out).1; omega))
                                          obtain ⟨ua266_3, uc266_3, rfl, ul266_3, ge266_3⟩ := k45_openF hMe266
                                          have hv266_3 := hcc266 3 _ rfl
                                          rw [add_field _ _ 3 (by omega)] at hv266_3
                                          replace hv266_3 := Option.some.inj (hv266_3.symm.trans hx266_3)
                                          injection hv266_3 with hva_ hvn_ hvc_
                                          rw [hva_] at ge266_3
                                          rw [hvc_] at ul266_3
                                          have HL266_3 := Aside0.mk (show Kd.V (Kd.int .i64) 3 _ w.heap.size _ _ ((rd_T45 (rd_L3 l0 x10_4) (rd x5_3 x10_4)).f3) from Kd.V_mk ul266_3 ge266_3)
                                          clear hva_ hvn_ hvc_ ge266_3 ul266_3
                                          clear hcc266 hce266
                                          have HR266_3 := Aside0.mk hi266_3
                                          have HC266_3 := Aside0.mk hl266_3
                                          clear hi266_3 hl266_3
                                          replace p266 := eq_true p266
                                          replace q266 := eq_true q266
                                          go_wp2_with (first | (go_at_call 26; (with_reducible refine (argosyref12_next.calls k4 _ _ x5_3 ((rd_T45 (rd_L3 l0 x10_4) (rd x5_3 x10_4)).f0) ((rd_T45 (rd_L3 l0 x10_4) (rd x5_3 x10_4)).f1) ((rd_T45 (rd_L3 l0 x10_4) (rd x5_3 x10_4)).f2) _ _ ((rd_T45 (rd_L3 l0 x10_4) (rd x5_3 x10_4)).f3) x10_4 true _ ?side1 ?side2 ?side3 ?side4 A20.out).mono ?_); (case side1 => repeat (first | exact (Kd.R_reads' HO_5.out).2.2 | (with_reducible refine Kd.C_alloc ?_ _) | (with_reducible refine Kd.C_drewN ?_ _) | (with_reducible refine Kd.C_drew ?_))); (case side2 => exact (Kd.R_reads' HO_5.out).2.1); (case side3 => repeat (first | exact (by repeat (first | (with_reducible exact HR266_3.out) | (with_reducible refine Kd.C_alloc ?_ _) | (with_reducible refine Kd.C_drewN ?_ _) | (with_reducible refine Kd.C_drew ?_) | exact HR266_3.out)) | (with_reducible refine Kd.C_alloc ?_ _) | (with_reducible refine Kd.C_drewN ?_ _) | (with_reducible refine Kd.C_drew ?_))); (case side4 => exact HC266_3.out); rintro e w23 ⟨rfl, hb⟩; have n0_ := Aside0.mk (Kd.V_below (by (with_reducible repeat (first | apply Kd.V_alloc | apply Kd.V_drewN | apply Kd.V_drew)); exact HO_0.out) hb); have n1_ := Aside0.mk (Kd.R_below (by (with_reducible repeat (first | apply Kd.R_alloc | apply Kd.R_drewN | apply Kd.R_drew)); exact HO_5.out) hb); have n2_ := Aside0.mk (Kd.N_below (by (with_reducible repeat (first | apply Kd.N_alloc | apply Kd.N_drewN | apply Kd.N_drew)); exact HO_8.out) hb); have n3_ := Aside0.mk (Kd.V_below (by (with_reducible repeat (first | apply Kd.V_alloc | apply Kd.V_drewN | apply Kd.V_drew)); exact HL264_0.out) hb); have n4_ := Aside0.mk (Kd.V_below (by (with_reducible repeat (first | apply Kd.V_alloc | apply Kd.V_drewN | apply Kd.V_drew)); exact HL265_0.out) hb); have n5_ := Aside0.mk (Kd.V_below (by (with_reducible repeat (first | apply Kd.V_alloc | apply Kd.V_drewN | apply Kd.V_drew)); exact HL266_3.out) hb); have n6_ := Aside0.mk (Kd.C_below (by repeat (first | (with_reducible exact HR264_0.out) | (with_reducible refine Kd.C_alloc ?_ _) | (with_reducible refine Kd.C_drewN ?_ _) | (with_reducible refine Kd.C_drew ?_) | exact HR264_0.out)) hb); have n7_ := Aside0.mk (Kd.C_below (by repeat (first | (with_reducible exact HR265_0.out) | (with_reducible refine Kd.C_alloc ?_ _) | (with_reducible refine Kd.C_drewN ?_ _) | (with_reducible refine Kd.C_drew ?_) | exact HR265_0.out)) hb); have n8_ := Aside0.mk (Kd.C_below (by repeat (first | (with_reducible exact HR266_3.out) | (with_reducible refine Kd.C_alloc ?_ _) | (with_reducible refine Kd.C_drewN ?_ _) | (with_reducible refine Kd.C_drew ?_) | exact HR266_3.out)) hb); have n9_ := Aside0.mk (below_step (by repeat (first | (with_reducible first | exact HB.out | apply below_alloc | apply pw_below_drewN | apply below_drew1) | exact HB.out)) hb); clear HO_0; clear HO_5; clear HO_8; clear HL264_0; clear HL265_0; clear HL266_3; clear HR264_0; clear HR265_0; clear HR266_3; clear HB; have HO_0 := n0_; have HO_5 := n1_; have HO_8 := n2_; have HL264_0 := n3_; have HL265_0 := n4_; have HL266_3 := n5_; have HR264_0 := n6_; have HR265_0 := n7_; have HR266_3 := n8_; have HB := n9_; clear n0_ n1_ n2_ n3_ n4_ n5_ n6_ n7_ n8_ n9_; (try clear hb); (try clear hb2); (try clear hk); (try clear hi)))
                                          go_roundg k4
                                          case measure => have := HJ1.out; have := HK2.out; have := HK3.out; have := HK4.out; omega
                                          case rel => exact ⟨(x10_4), (wrap64 (x10_4 - 1)), (by first | rfl | (simp; done) | (simp [*]; done)), (by first | rfl | (simp; done) | (simp [*]; done)), H', ⟨by have := HJ1.out; have := HK2.out; have := HK3.out; have := HK4.out; omega⟩, ⟨by (with_reducible repeat (first | apply Kd.V_alloc | apply Kd.V_drewN | apply Kd.V_drew)); exact HO_0.out⟩, ⟨by (with_reducible repeat (first | apply Kd.R_alloc | apply Kd.R_drewN | apply Kd.R_drew)); exact HO_5.out⟩, ⟨by (with_reducible repeat (first | apply Kd.N_alloc | apply Kd.N_drewN | apply Kd.N_drew)); exact HO_8.out⟩, ⟨by repeat (first | (with_reducible first | exact HB.out | apply below_alloc | apply pw_below_drewN | apply below_drew1) | exact HB.out)⟩⟩
                                        · replace c21 := Bool.eq_false_iff.mpr c21
                                          subst c21
                                          have H1 : (argosyref12_Merge.l2 k4 l0 (l0.length : Int) x5_3 x6_2 x8_3 x9_4 (wrap64 (x10_4 - 1))) = some (r1, r2) := by rw [if_neg (show ¬ (false = true) by decide)] at H; exact H
                                          clear H
                                          have H := H1
                                          clear H1
                                          have H' := Aside0.mk H
                                          clear H
                                          obtain ⟨Ao24, co24, eo24⟩ := Kd.R_slice HO_5.out
                                          subst eo24
                                          have p263 : 0 ≤ (x10_4 : Int) := of_decide_eq_true (by first | (with_reducible assumption) | assumption)
                                          have q263 : x10_4 < (x5_3.length : Int) := of_decide_eq_true (by first | (with_reducible assumption) | assumption)
                                          obtain ⟨ad263, e263, hx263_0⟩ := Kd.at_int (Kd.R_reads' HO_5.out).2.2 x10_4 p263 q263
                                          cases e263
                                          replace p263 := eq_true p263
                                          replace q263 := eq_true q263
                                          have p264 : 0 ≤ (x10_4 : Int) := of_decide_eq_true (by first | (with_reducible assumption) | assumption)
                                          have q264 : x10_4 < (l0.length : Int) := of_decide_eq_true (by first | (with_reducible assumption) | assumption)
                                          obtain ⟨ad264, A264_0, c264_0, e264, hx264_0, hl264_0, hi264_0⟩ := at_L3 (Kd.V_reads' HO_0.out).2.2 x10_4 p264 q264
                                          cases e264
                                          obtain ⟨ce264, hce264, hMe264, hcc264⟩ := Kd.V_get HO_0.out [] x10_4 p264 (by first | exact q264 | exact of_decide_eq_true (by first | (with_reducible assumption) | assumption) | (have e_ := (Kd.V_reads' HO_0.out).1; omega))
                                          obtain ⟨ua264_0, uc264_0, rfl, ul264_0, ge264_0⟩ := Kd.FK_slice_open hMe264
                                          have hv264_0 := hcc264 0 _ rfl
                                          rw [Nat.add_zero, show ((Kd.slice 45 k45)).sz = 1 from rfl, Nat.mul_one] at hv264_0
                                          replace hv264_0 := Option.some.inj (hv264_0.symm.trans hx264_0)
                                          injection hv264_0 with hva_ hvn_ hvc_
                                          rw [hva_] at ge264_0
                                          rw [hvc_] at ul264_0
                                          have HL264_0 := Aside0.mk (show Kd.V k45 45 _ w.heap.size _ _ (rd_L3 l0 x10_4) from Kd.V_mk ul264_0 ge264_0)
                                          clear hva_ hvn_ hvc_ ge264_0 ul264_0
                                          clear hcc264 hce264
                                          have HR264_0 := Aside0.mk hi264_0
                                          have HC264_0 := Aside0.mk hl264_0
                                          clear hi264_0 hl264_0
                                          replace p264 := eq_true p264
                                          replace q264 := eq_true q264
                                          have p265 : 0 ≤ (x10_4 : Int) := of_decide_eq_true (by first | (with_reducible assumption) | assumption)
                                          have q265 : x10_4 < (l0.length : Int) := of_decide_eq_true (by first | (with_reducible assumption) | assumption)
                                          obtain ⟨ad265, A265_0, c265_0, e265, hx265_0, hl265_0, hi265_0⟩ := at_L3 (Kd.V_reads' HO_0.out).2.2 x10_4 p265 q265
                                          obtain rfl : ad264 = ad265 := (by injection e265)
                                          obtain ⟨ce265, hce265, hMe265, hcc265⟩ := Kd.V_get HO_0.out [] x10_4 p265 (by first | exact q265 | exact of_decide_eq_true (by first | (with_reducible assumption) | assumption) | (have e_ := (Kd.V_reads' HO_0.out).1; omega))
                                          obtain ⟨ua265_0, uc265_0, rfl, ul265_0, ge265_0⟩ := Kd.FK_slice_open hMe265
                                          have hv265_0 := hcc265 0 _ rfl
                                          rw [Nat.add_zero, show ((Kd.slice 45 k45)).sz = 1 from rfl, Nat.mul_one] at hv265_0
                                          replace hv265_0 := Option.some.inj (hv265_0.symm.trans hx265_0)
                                          injection hv265_0 with hva_ hvn_ hvc_
                                          rw [hva_] at ge265_0
                                          rw [hvc_] at ul265_0
                                          have HL265_0 := Aside0.mk (show Kd.V k45 45 _ w.heap.size _ _ (rd_L3 l0 x10_4) from Kd.V_mk ul265_0 ge265_0)
                                          clear hva_ hvn_ hvc_ ge265_0 ul265_0
                                          clear hcc265 hce265
                                          have HR265_0 := Aside0.mk hi265_0
                                          have HC265_0 := Aside0.mk hl265_0
                                          clear hi265_0 hl265_0
                                          replace p265 := eq_true p265
                                          replace q265 := eq_true q265
                                          have ea_ := Option.some.inj (hx264_0.symm.trans hx265_0)
                                          injection ea_ with ea_ en_ ec_
                                          subst ea_
                                          subst ec_
                                          clear en_
                                          have p266 : 0 ≤ ((rd x5_3 x10_4) : Int) := of_decide_eq_true (by first | (with_reducible assumption) | assumption)
                                          have q266 : (rd x5_3 x10_4) < ((rd_L3 l0 x10_4).length : Int) := of_decide_eq_true (by first | (with_reducible assumption) | assumption)
                                          obtain ⟨ad266, A266_3, c266_3, e266, hx266_0, hx266_1, hx266_2, hx266_3, hl266_3, hi266_3⟩ := at_T45 (by repeat (first | (with_reducible exact HR265_0.out) | (with_reducible refine Kd.C_alloc ?_ _) | (with_reducible refine Kd.C_drewN ?_ _) | (with_reducible refine Kd.C_drew ?_) | exact HR265_0.out)) (rd x5_3 x10_4) p266 q266
                                          cases e266
                                          obtain ⟨ce266, hce266, hMe266, hcc266⟩ := Kd.V_get HL265_0.out z45 (rd x5_3 x10_4) p266 (by first | exact q266 | exact of_decide_eq_true (by first | (with_reducible assumption) | assumption) | (have e_ := (Kd.V_reads' HL265_0.out).1; omega))
                                          obtain ⟨ua266_3, uc266_3, rfl, ul266_3, ge266_3⟩ := k45_openF hMe266
                                          have hv266_3 := hcc266 3 _ rfl
                                          rw [add_field _ _ 3 (by omega)] at hv266_3
                                          replace hv266_3 := Option.some.inj (hv266_3.symm.trans hx266_3)
                                          injection hv266_3 with hva_ hvn_ hvc_
                                          rw [hva_] at ge266_3
                                          rw [hvc_] at ul266_3
                                          have HL266_3 := Aside0.mk (show Kd.V (Kd.int .i64) 3 _ w.heap.size _ _ ((rd_T45 (rd_L3 l0 x10_4) (rd x5_3 x10_4)).f3) from Kd.V_mk ul266_3 ge266_3)
                                          clear hva_ hvn_ hvc_ ge266_3 ul266_3
                                          clear hcc266 hce266
                                          have HR266_3 := Aside0.mk hi266_3
                                          have HC266_3 := Aside0.mk hl266_3
                                          clear hi266_3 hl266_3
                                          replace p266 := eq_true p266
                                          replace q266 := eq_true q266
                                          go_wp2_with (first | (go_at_call 26; (with_reducible refine (argosyref12_next.calls k4 _ _ x5_3 ((rd_T45 (rd_L3 l0 x10_4) (rd x5_3 x10_4)).f0) ((rd_T45 (rd_L3 l0 x10_4) (rd x5_3 x10_4)).f1) ((rd_T45 (rd_L3 l0 x10_4) (rd x5_3 x10_4)).f2) _ _ ((rd_T45 (rd_L3 l0 x10_4) (rd x5_3 x10_4)).f3) x10_4 false _ ?side1 ?side2 ?side3 ?side4 A20.out).mono ?_); (case side1 => repeat (first | exact (Kd.R_reads' HO_5.out).2.2 | (with_reducible refine Kd.C_alloc ?_ _) | (with_reducible refine Kd.C_drewN ?_ _) | (with_reducible refine Kd.C_drew ?_))); (case side2 => exact (Kd.R_reads' HO_5.out).2.1); (case side3 => repeat (first | exact (by repeat (first | (with_reducible exact HR266_3.out) | (with_reducible refine Kd.C_alloc ?_ _) | (with_reducible refine Kd.C_drewN ?_ _) | (with_reducible refine Kd.C_drew ?_) | exact HR266_3.out)) | (with_reducible refine Kd.C_alloc ?_ _) | (with_reducible refine Kd.C_drewN ?_ _) | (with_reducible refine Kd.C_drew ?_))); (case side4 => exact HC266_3.out); rintro e w25 ⟨rfl, hb⟩; have n0_ := Aside0.mk (Kd.V_below (by (with_reducible repeat (first | apply Kd.V_alloc | apply Kd.V_drewN | apply Kd.V_drew)); exact HO_0.out) hb); have n1_ := Aside0.mk (Kd.R_below (by (with_reducible repeat (first | apply Kd.R_alloc | apply Kd.R_drewN | apply Kd.R_drew)); exact HO_5.out) hb); have n2_ := Aside0.mk (Kd.N_below (by (with_reducible repeat (first | apply Kd.N_alloc | apply Kd.N_drewN | apply Kd.N_drew)); exact HO_8.out) hb); have n3_ := Aside0.mk (Kd.V_below (by (with_reducible repeat (first | apply Kd.V_alloc | apply Kd.V_drewN | apply Kd.V_drew)); exact HL264_0.out) hb); have n4_ := Aside0.mk (Kd.V_below (by (with_reducible repeat (first | apply Kd.V_alloc | apply Kd.V_drewN | apply Kd.V_drew)); exact HL265_0.out) hb); have n5_ := Aside0.mk (Kd.V_below (by (with_reducible repeat (first | apply Kd.V_alloc | apply Kd.V_drewN | apply Kd.V_drew)); exact HL266_3.out) hb); have n6_ := Aside0.mk (Kd.C_below (by repeat (first | (with_reducible exact HR264_0.out) | (with_reducible refine Kd.C_alloc ?_ _) | (with_reducible refine Kd.C_drewN ?_ _) | (with_reducible refine Kd.C_drew ?_) | exact HR264_0.out)) hb); have n7_ := Aside0.mk (Kd.C_below (by repeat (first | (with_reducible exact HR265_0.out) | (with_reducible refine Kd.C_alloc ?_ _) | (with_reducible refine Kd.C_drewN ?_ _) | (with_reducible refine Kd.C_drew ?_) | exact HR265_0.out)) hb); have n8_ := Aside0.mk (Kd.C_below (by repeat (first | (with_reducible exact HR266_3.out) | (with_reducible refine Kd.C_alloc ?_ _) | (with_reducible refine Kd.C_drewN ?_ _) | (with_reducible refine Kd.C_drew ?_) | exact HR266_3.out)) hb); have n9_ := Aside0.mk (below_step (by repeat (first | (with_reducible first | exact HB.out | apply below_alloc | apply pw_below_drewN | apply below_drew1) | exact HB.out)) hb); clear HO_0; clear HO_5; clear HO_8; clear HL264_0; clear HL265_0; clear HL266_3; clear HR264_0; clear HR265_0; clear HR266_3; clear HB; have HO_0 := n0_; have HO_5 := n1_; have HO_8 := n2_; have HL264_0 := n3_; have HL265_0 := n4_; have HL266_3 := n5_; have HR264_0 := n6_; have HR265_0 := n7_; have HR266_3 := n8_; have HB := n9_; clear n0_ n1_ n2_ n3_ n4_ n5_ n6_ n7_ n8_ n9_; (try clear hb); (try clear hb2); (try clear hk); (try clear hi)))
                                          go_roundg k4
                                          case measure => have := HJ1.out; have := HK2.out; have := HK3.out; have := HK4.out; omega
                                          case rel => exact ⟨(x9_4), (wrap64 (x10_4 - 1)), (by first | rfl | (simp; done) | (simp [*]; done)), (by first | rfl | (simp; done) | (simp [*]; done)), H', ⟨by have := HJ1.out; have := HK2.out; have := HK3.out; have := HK4.out; omega⟩, ⟨by (with_reducible repeat (first | apply Kd.V_alloc | apply Kd.V_drewN | apply Kd.V_drew)); exact HO_0.out⟩, ⟨by (with_reducible repeat (first | apply Kd.R_alloc | apply Kd.R_drewN | apply Kd.R_drew)); exact HO_5.out⟩, ⟨by (with_reducible repeat (first | apply Kd.N_alloc | apply Kd.N_drewN | apply Kd.N_drew)); exact HO_8.out⟩, ⟨by repeat (first | (with_reducible first | exact HB.out | apply below_alloc | apply pw_below_drewN | apply below_drew1) | exact HB.out)⟩⟩
                                      · rw [if_neg c19] at H
                                        exact absurd H (by simp)
                                    · rw [if_neg c18] at H
                                      have c18b0 : decide ((rd x5_3 x10_4) < ((rd_L3 l0 x10_4).length : Int)) = false := decide_eq_false c18
                                      clear c18
                                      have H' := Aside0.mk H
                                      clear H
                                      obtain ⟨Ao26, co26, eo26⟩ := Kd.R_slice HO_5.out
                                      subst eo26
                                      have p263 : 0 ≤ (x10_4 : Int) := of_decide_eq_true (by first | (with_reducible assumption) | assumption)
                                      have q263 : x10_4 < (x5_3.length : Int) := of_decide_eq_true (by first | (with_reducible assumption) | assumption)
                                      obtain ⟨ad263, e263, hx263_0⟩ := Kd.at_int (Kd.R_reads' HO_5.out).2.2 x10_4 p263 q263
                                      cases e263
                                      replace p263 := eq_true p263
                                      replace q263 := eq_true q263
                                      have p264 : 0 ≤ (x10_4 : Int) := of_decide_eq_true (by first | (with_reducible assumption) | assumption)
                                      have q264 : x10_4 < (l0.length : Int) := of_decide_eq_true (by first | (with_reducible assumption) | assumption)
                                      obtain ⟨ad264, A264_0, c264_0, e264, hx264_0, hl264_0, hi264_0⟩ := at_L3 (Kd.V_reads' HO_0.out).2.2 x10_4 p264 q264
                                      cases e264
                                      obtain ⟨ce264, hce264, hMe264, hcc264⟩ := Kd.V_get HO_0.out [] x10_4 p264 (by first | exact q264 | exact of_decide_eq_true (by first | (with_reducible assumption) | assumption) | (have e_ := (Kd.V_reads' HO_0.out).1; omega))
                                      obtain ⟨ua264_0, uc264_0, rfl, ul264_0, ge264_0⟩ := Kd.FK_slice_open hMe264
                                      have hv264_0 := hcc264 0 _ rfl
                                      rw [Nat.add_zero, show ((Kd.slice 45 k45)).sz = 1 from rfl, Nat.mul_one] at hv264_0
                                      replace hv264_0 := Option.some.inj (hv264_0.symm.trans hx264_0)
                                      injection hv264_0 with hva_ hvn_ hvc_
                                      rw [hva_] at ge264_0
                                      rw [hvc_] at ul264_0
                                      have HL264_0 := Aside0.mk (show Kd.V k45 45 _ w.heap.size _ _ (rd_L3 l0 x10_4) from Kd.V_mk ul264_0 ge264_0)
                                      clear hva_ hvn_ hvc_ ge264_0 ul264_0
                                      clear hcc264 hce264
                                      have HR264_0 := Aside0.mk hi264_0
                                      have HC264_0 := Aside0.mk hl264_0
                                      clear hi264_0 hl264_0
                                      replace p264 := eq_true p264
                                      replace q264 := eq_true q264
                                      go_wp2
                                      go_roundg k4
                                      case measure => have := HJ1.out; have := HK2.out; have := HK3.out; have := HK4.out; omega
                                      case rel => exact ⟨(x9_4), (wrap64 (x10_4 - 1)), (by first | rfl | (simp; done) | (simp [*]; done)), (by first | rfl | (simp; done) | (simp [*]; done)), H', ⟨by have := HJ1.out; have := HK2.out; have := HK3.out; have := HK4.out; omega⟩, ⟨by (with_reducible repeat (first | apply Kd.V_alloc | apply Kd.V_drewN | apply Kd.V_drew)); exact HO_0.out⟩, ⟨by (with_reducible repeat (first | apply Kd.R_alloc | apply Kd.R_drewN | apply Kd.R_drew)); exact HO_5.out⟩, ⟨by (with_reducible repeat (first | apply Kd.N_alloc | apply Kd.N_drewN | apply Kd.N_drew)); exact HO_8.out⟩, ⟨by repeat (first | (with_reducible first | exact HB.out | apply below_alloc | apply pw_below_drewN | apply below_drew1) | exact HB.out)⟩⟩
                                  · rw [if_neg c17] at H
                                    exact absurd H (by simp)
                                · rw [if_neg c16] at H
                                  exact absurd H (by simp)
                              · rw [if_neg c15] at H
                                exact absurd H (by simp)
                            · rw [if_neg c14] at H
                              have c14b0 : decide (0 ≤ x10_4) = false := decide_eq_false c14
                              clear c14
                              by_cases c27 : x9_4 < 0
                              · rw [if_pos c27] at H
                                have c27b0 : decide (x9_4 < 0) = true := decide_eq_true c27
                                clear c27
                                simp only [Option.some.injEq, Prod.mk.injEq] at H
                                obtain ⟨rfl, rfl⟩ := H
                                go_wp2
                                go_ret2
                                exact ⟨_, _, by first | rfl | (simp [errW_none, errW_some] <;> rfl) | (simp [*, errW_none, errW_some] <;> rfl), by (with_reducible repeat (first | apply Kd.N_alloc | apply Kd.N_drewN | apply Kd.N_drew)); exact HO_8.out, by (with_reducible repeat (first | apply Kd.R_alloc | apply Kd.R_drewN | apply Kd.R_drew)); exact HO_5.out, by repeat (first | (with_reducible first | exact HB.out | apply below_alloc | apply pw_below_drewN | apply below_drew1) | exact HB.out)⟩
                              · rw [if_neg c27] at H
                                have c27b0 : decide (x9_4 < 0) = false := decide_eq_false c27
                                clear c27
                                by_cases c28 : 0 ≤ x9_4
                                · rw [if_pos c28] at H
                                  have c28b0 : decide (0 ≤ x9_4) = true := decide_eq_true c28
                                  clear c28
                                  by_cases c29 : x9_4 < (x5_3.length : Int)
                                  · rw [if_pos c29] at H
                                    have c29b0 : decide (x9_4 < (x5_3.length : Int)) = true := decide_eq_true c29
                                    clear c29
                                    by_cases c30 : x9_4 < (l0.length : Int)
                                    · rw [if_pos c30] at H
                                      have c30b0 : decide (x9_4 < (l0.length : Int)) = true := decide_eq_true c30
                                      clear c30
                                      by_cases c31 : 0 ≤ (rd x5_3 x9_4)
                                      · rw [if_pos c31] at H
                                        have c31b0 : decide (0 ≤ (rd x5_3 x9_4)) = true := decide_eq_true c31
                                        clear c31
                                        by_cases c32 : (rd x5_3 x9_4) < ((rd_L3 l0 x9_4).length : Int)
                                        · rw [if_pos c32] at H
                                          have c32b0 : decide ((rd x5_3 x9_4) < ((rd_L3 l0 x9_4).length : Int)) = true := decide_eq_true c32
                                          clear c32
                                          by_cases c33 : x8_3.length < 2932031007402
                                          · rw [if_pos c33] at H
                                            have LMc33 := Aside0.mk c33
                                            clear c33
                                            obtain ⟨y271, hy271⟩ : ∃ y_ : List (S45), y_ = (x8_3 ++ [(⟨(rd_T45 (rd_L3 l0 x9_4) (rd x5_3 x9_4)).f0, (rd_T45 (rd_L3 l0 x9_4) (rd x5_3 x9_4)).f1, (rd_T45 (rd_L3 l0 x9_4) (rd x5_3 x9_4)).f2, (rd_T45 (rd_L3 l0 x9_4) (rd x5_3 x9_4)).f3⟩ : S45)]) := ⟨_, rfl⟩
                                            replace H : (argosyref12_Merge.l1 k4 l0 (l0.length : Int) (x5_3.set (x9_4 : Int).toNat (wrap64 ((rd x5_3 x9_4) + 1))) x6_2 y271) = some (r1, r2) := by first | (rw [hy271]; with_reducible exact H) | (have H2_ := (Option.bind_some _ _).symm.trans H; rw [hy271]; with_reducible exact H2_) | (have H2_ := (Option.bind_some _ _).symm.trans H; with_reducible exact H2_) | with_reducible exact H | (rw [hy271]; exact H) | exact H
                                            have Ny271 := Aside0.mk hy271
                                            clear hy271
                                            obtain ⟨y274, hy274⟩ : ∃ y_ : List Int, y_ = (x5_3.set (x9_4 : Int).toNat (wrap64 ((rd x5_3 x9_4) + 1))) := ⟨_, rfl⟩
                                            replace H : (argosyref12_Merge.l1 k4 l0 (l0.length : Int) y274 x6_2 y271) = some (r1, r2) := by first | (rw [hy274]; with_reducible exact H) | (have H2_ := (Option.bind_some _ _).symm.trans H; rw [hy274]; with_reducible exact H2_) | (have H2_ := (Option.bind_some _ _).symm.trans H; with_reducible exact H2_) | with_reducible exact H | (rw [hy274]; exact H) | exact H
                                            have Ny274 := Aside0.mk hy274
                                            clear hy274
                                            have H' := Aside0.mk H
                                            clear H
                                            obtain ⟨Ao35, co35, eo35⟩ := Kd.R_slice HO_5.out
                                            subst eo35
                                            have p268 : 0 ≤ (x9_4 : Int) := of_decide_eq_true (by first | (with_reducible assumption) | assumption)
                                            have q268 : x9_4 < (x5_3.length : Int) := of_decide_eq_true (by first | (with_reducible assumption) | assumption)
                                            obtain ⟨ad268, e268, hx268_0⟩ := Kd.at_int (Kd.R_reads' HO_5.out).2.2 x9_4 p268 q268
                                            cases e268
                                            replace p268 := eq_true p268
                                            replace q268 := eq_true q268
                                            have p269 : 0 ≤ (x9_4 : Int) := of_decide_eq_true (by first | (with_reducible assumption) | assumption)
                                            have q269 : x9_4 < (l0.length : Int) := of_decide_eq_true (by first | (with_reducible assumption) | assumption)
                                            obtain ⟨ad269, A269_0, c269_0, e269, hx269_0, hl269_0, hi269_0⟩ := at_L3 (Kd.V_reads' HO_0.out).2.2 x9_4 p269 q269
                                            cases e269
                                            obtain ⟨ce269, hce269, hMe269, hcc269⟩ := Kd.V_get HO_0.out [] x9_4 p269 (by first | exact q269 | exact of_decide_eq_true (by first | (with_reducible assumption) | assumption) | (have e_ := (Kd.V_reads' HO_0.out).1; omega))
                                            obtain ⟨ua269_0, uc269_0, rfl, ul269_0, ge269_0⟩ := Kd.FK_slice_open hMe269
                                            have hv269_0 := hcc269 0 _ rfl
                                            rw [Nat.add_zero, show ((Kd.slice 45 k45)).sz = 1 from rfl, Nat.mul_one] at hv269_0
                                            replace hv269_0 := Option.some.inj (hv269_0.symm.trans hx269_0)
                                            injection hv269_0 with hva_ hvn_ hvc_
                                            rw [hva_] at ge269_0
                                            rw [hvc_] at ul269_0
                                            have HL269_0 := Aside0.mk (show Kd.V k45 45 _ w.heap.size _ _ (rd_L3 l0 x9_4) from Kd.V_mk ul269_0 ge269_0)
                                            clear hva_ hvn_ hvc_ ge269_0 ul269_0
                                            clear hcc269 hce269
                                            have HR269_0 := Aside0.mk hi269_0
                                            have HC269_0 := Aside0.mk hl269_0
                                            clear hi269_0 hl269_0
                                            replace p269 := eq_true p269
                                            replace q269 := eq_true q269
                                            have p270 : 0 ≤ ((rd x5_3 x9_4) : Int) := of_decide_eq_true (by first | (with_reducible assumption) | assumption)
                                            have q270 : (rd x5_3 x9_4) < ((rd_L3 l0 x9_4).length : Int) := of_decide_eq_true (by first | (with_reducible assumption) | assumption)
                                            obtain ⟨ad270, A270_3, c270_3, e270, hx270_0, hx270_1, hx270_2, hx270_3, hl270_3, hi270_3⟩ := at_T45 (by repeat (first | (with_reducible exact HR269_0.out) | (with_reducible refine Kd.C_alloc ?_ _) | (with_reducible refine Kd.C_drewN ?_ _) | (with_reducible refine Kd.C_drew ?_) | exact HR269_0.out)) (rd x5_3 x9_4) p270 q270
                                            cases e270
                                            obtain ⟨ce270, hce270, hMe270, hcc270⟩ := Kd.V_get HL269_0.out z45 (rd x5_3 x9_4) p270 (by first | exact q270 | exact of_decide_eq_true (by first | (with_reducible assumption) | assumption) | (have e_ := (Kd.V_reads' HL269_0.out).1; omega))
                                            obtain ⟨ua270_3, uc270_3, rfl, ul270_3, ge270_3⟩ := k45_openF hMe270
                                            have hv270_3 := hcc270 3 _ rfl
                                            rw [add_field _ _ 3 (by omega)] at hv270_3
                                            replace hv270_3 := Option.some.inj (hv270_3.symm.trans hx270_3)
                                            injection hv270_3 with hva_ hvn_ hvc_
                                            rw [hva_] at ge270_3
                                            rw [hvc_] at ul270_3
                                            have HL270_3 := Aside0.mk (show Kd.V (Kd.int .i64) 3 _ w.heap.size _ _ ((rd_T45 (rd_L3 l0 x9_4) (rd x5_3 x9_4)).f3) from Kd.V_mk ul270_3 ge270_3)
                                            clear hva_ hvn_ hvc_ ge270_3 ul270_3
                                            clear hcc270 hce270
                                            have HR270_3 := Aside0.mk hi270_3
                                            have HC270_3 := Aside0.mk hl270_3
                                            clear hi270_3 hl270_3
                                            replace p270 := eq_true p270
                                            replace q270 := eq_true q270
                                            go_wp2_with (first | ((with_reducible refine gate_builtin (b := .append) (xs := #[.tmp 77, .tmp 85]) rfl ?_); at_builtin; refine Kd.N_append k45 (w0 := w) w.heap.size rfl (.tmp 77) (.tmp 85) 25 45 (.agg #[(.int .i64 0), (.int .i64 0), (.int .i64 0), (.slice none 0 0)]) 48 rfl Try.underlying25 info45 rfl (by decide) (by omega) (.slice Ao13 x8_3.length co13) x8_3 (⟨(rd_T45 (rd_L3 l0 x9_4) (rd x5_3 x9_4)).f0, (rd_T45 (rd_L3 l0 x9_4) (rd x5_3 x9_4)).f1, (rd_T45 (rd_L3 l0 x9_4) (rd x5_3 x9_4)).f2, (rd_T45 (rd_L3 l0 x9_4) (rd x5_3 x9_4)).f3⟩ : S45) [.int .i64 ((rd_T45 (rd_L3 l0 x9_4) (rd x5_3 x9_4)).f0), .int .i64 ((rd_T45 (rd_L3 l0 x9_4) (rd x5_3 x9_4)).f1), .int .i64 ((rd_T45 (rd_L3 l0 x9_4) (rd x5_3 x9_4)).f2), .slice A270_3 ((rd_T45 (rd_L3 l0 x9_4) (rd x5_3 x9_4)).f3).length c270_3] (fun k_ => (P0_ k_ ∨ w.heap.size ≤ k_) ∧ some k_ ≠ (.slice (some ad268) x5_3.length co35 : Value).ownBlock) (fun k_ => ((fun k_ => (P0_ k_ ∨ w.heap.size ≤ k_) ∧ some k_ ≠ (.slice (some ad268) x5_3.length co35 : Value).ownBlock)) k_ ∧ some k_ ≠ (.slice Ao13 x8_3.length co13 : Value).ownBlock) rfl rfl ?aP (fun _ hk => hk) ?aF ?aO ?aB ?aS ?aL ?_; (case aP => exact (k45_mkF _ _ (⟨(rd_T45 (rd_L3 l0 x9_4) (rd x5_3 x9_4)).f0, (rd_T45 (rd_L3 l0 x9_4) (rd x5_3 x9_4)).f1, (rd_T45 (rd_L3 l0 x9_4) (rd x5_3 x9_4)).f2, (rd_T45 (rd_L3 l0 x9_4) (rd x5_3 x9_4)).f3⟩ : S45) (Kd.V_reads' (Kd.V_mono (ok' := (fun k_ => ((fun k_ => (P0_ k_ ∨ w.heap.size ≤ k_) ∧ some k_ ≠ (.slice (some ad268) x5_3.length co35 : Value).ownBlock)) k_ ∧ some k_ ≠ (.slice Ao13 x8_3.length co13 : Value).ownBlock)) (HL270_3.out) (fun k_ hk => ⟨⟨hk.1, hk.2.1⟩, hk.2.2⟩))).2.1 (Kd.V_F (Kd.V_mono (ok' := (fun k_ => ((fun k_ => (P0_ k_ ∨ w.heap.size ≤ k_) ∧ some k_ ≠ (.slice (some ad268) x5_3.length co35 : Value).ownBlock)) k_ ∧ some k_ ≠ (.slice Ao13 x8_3.length co13 : Value).ownBlock)) (HL270_3.out) (fun k_ hk => ⟨⟨hk.1, hk.2.1⟩, hk.2.2⟩))))); (case aB => exact (by repeat (first | (with_reducible first | exact HB.out | apply below_alloc | apply pw_below_drewN | apply below_drew1) | exact HB.out))); (case aF => exact (fun k_ hk => ⟨(.inr (Nat.le_trans (below_size (by repeat (first | (with_reducible first | exact HB.out | apply below_alloc | apply pw_below_drewN | apply below_drew1) | exact HB.out))) hk)), Kd.fresh' (Kd.R_lt (by (with_reducible repeat (first | apply Kd.R_alloc | apply Kd.R_drewN | apply Kd.R_drew)); exact HO_5.out)) k_ hk⟩)); (case aO => exact (by (with_reducible repeat (first | apply Kd.N_alloc | apply Kd.N_drewN | apply Kd.N_drew)); exact HO_8.out)); (case aS => exact (below_size (by repeat (first | (with_reducible first | exact HB.out | apply below_alloc | apply pw_below_drewN | apply below_drew1) | exact HB.out)))); (case aL => have := LMc33.out; omega); intro v272 w36 ho hb hg hat; rw [← Ny271.out] at ho; have n0_ := Aside0.mk (Kd.V_afterv (ok := (fun k_ => (P0_ k_ ∨ w.heap.size ≤ k_) ∧ some k_ ≠ (.slice (some ad268) x5_3.length co35 : Value).ownBlock)) (by (with_reducible repeat (first | apply Kd.V_alloc | apply Kd.V_drewN | apply Kd.V_drew)); exact Kd.V_mono HO_0.out (fun _ hk => ⟨⟨hk.1, hk.2.1⟩, hk.2.2⟩)) hg hat); have n1_ := Aside0.mk (Kd.R_over' (by (with_reducible repeat (first | apply Kd.R_alloc | apply Kd.R_drewN | apply Kd.R_drew)); exact HO_5.out) (Kd.N_typed (by (with_reducible repeat (first | apply Kd.N_alloc | apply Kd.N_drewN | apply Kd.N_drew)); exact HO_8.out)) (by decide) hg); have n2_ := Aside0.mk (Kd.V_afterv (ok := (fun k_ => (P0_ k_ ∨ w.heap.size ≤ k_) ∧ some k_ ≠ (.slice (some ad268) x5_3.length co35 : Value).ownBlock)) (by (with_reducible repeat (first | apply Kd.V_alloc | apply Kd.V_drewN | apply Kd.V_drew)); exact Kd.V_mono HL269_0.out (fun _ hk => ⟨⟨hk.1, hk.2.1⟩, hk.2.2⟩)) hg hat); have n3_ := Aside0.mk (Kd.V_afterv (ok := (fun k_ => (P0_ k_ ∨ w.heap.size ≤ k_) ∧ some k_ ≠ (.slice (some ad268) x5_3.length co35 : Value).ownBlock)) (by (with_reducible repeat (first | apply Kd.V_alloc | apply Kd.V_drewN | apply Kd.V_drew)); exact Kd.V_mono HL270_3.out (fun _ hk => ⟨⟨hk.1, hk.2.1⟩, hk.2.2⟩)) hg hat); have n4_ := Aside0.mk (hb); have n5_ := Aside0.mk (ho); clear HO_0; clear HO_5; clear HL269_0; clear HL270_3; clear HB; clear HO_8; have HO_0 := n0_; have HO_5 := n1_; have HL269_0 := n2_; have HL270_3 := n3_; have HB := n4_; have HO273 := n5_; clear n0_ n1_ n2_ n3_ n4_ n5_; clear ho hb hg hat; have p34 : 0 ≤ (x9_4 : Int) := of_decide_eq_true (by first | (with_reducible assumption) | assumption); have q34 : (x9_4 : Int) < ((x5_3.length : Int) : Int) := of_decide_eq_true (by first | (with_reducible assumption) | assumption); obtain ⟨go34, co34, eo34, gb34, gl34, cl34, HG34⟩ := Kd.R_form HO_5.out (by omega); (first | cases eo34 | (injection eo34 with ea_ en_ ec_; (first | subst ea_ | (injection ea_ with ea_; subst ea_)); subst ec_; clear en_)); have GB34 := Aside0.mk gb34; have GG34 := Aside0.mk HG34; clear gb34 gl34 HG34; (first | simp only [add_plain] at hx268_0 | skip); obtain ⟨hx34_0, hf34_0⟩ := Kd.R_celln 0 HO_5.out (x9_4 : Int) p34 q34; replace p34 := eq_true p34; replace q34 := eq_true q34; obtain ⟨hy37_, hz37_⟩ := Kd.R_celln 0 HO_5.out (x9_4 : Int) (of_decide_eq_true (by first | (with_reducible assumption) | assumption)) (of_decide_eq_true (by first | (with_reducible assumption) | assumption)); have HP37 := Kd.R_putg HO_5.out (x9_4 : Int) (wrap64 ((rd x5_3 x9_4) + 1))) | ((with_reducible refine gate_store (t := 3) (p := 91) rfl ?_); refine store_event (t := 3) (p := 91) (v := ?vo_w38) (w1 := (w36.setCell ⟨go34, (x9_4 : Int).toNat, none⟩ (.int .i64 (wrap64 ((rd x5_3 x9_4) + 1))))) ?hg ?ho ?hn ?hr ?_; (case ho => rfl); (case hg => rfl); (case hn => rfl); (case hr => first | (go_simp; done) | (go_simp; rfl) | (simp only [pf_or128]; go_simp; done) | (simp only [pf_or128]; go_simp; rfl)); intro w38 hw; have hg : w36.grownBy w38 (some go34) := (by rw [hw]; exact HP37.2); have hp_ : Kd.R (Kd.int .i64) 3 w38 w.heap.size (fun k_ => (w.heap.size ≤ k_)) (.slice (some ⟨go34, 0, none⟩) x5_3.length co35) y274 := (by rw [hw, Ny274.out]; exact HP37.1); clear HP37; have n0_ := Aside0.mk (Kd.V_afterv (v := (.slice (some ⟨go34, 0, none⟩) x5_3.length co35)) (v1 := (.slice (some ⟨go34, 0, none⟩) x5_3.length co35)) (ok := (fun k_ => (P0_ k_ ∨ w.heap.size ≤ k_) ∧ some k_ ≠ (v272 : Value).ownBlock)) (by (with_reducible repeat (first | apply Kd.V_alloc | apply Kd.V_drewN | apply Kd.V_drew)); exact Kd.V_mono HO_0.out (fun _ hk => ⟨⟨hk.1.1, hk.2⟩, hk.1.2⟩)) hg (.inl rfl)); have n1_ := Aside0.mk (hp_); have n2_ := Aside0.mk (Kd.V_afterv (v := (.slice (some ⟨go34, 0, none⟩) x5_3.length co35)) (v1 := (.slice (some ⟨go34, 0, none⟩) x5_3.length co35)) (ok := (fun k_ => (P0_ k_ ∨ w.heap.size ≤ k_) ∧ some k_ ≠ (v272 : Value).ownBlock)) (by (with_reducible repeat (first | apply Kd.V_alloc | apply Kd.V_drewN | apply Kd.V_drew)); exact Kd.V_mono HL269_0.out (fun _ hk => ⟨⟨hk.1.1, hk.2⟩, hk.1.2⟩)) hg (.inl rfl)); have n3_ := Aside0.mk (Kd.V_afterv (v := (.slice (some ⟨go34, 0, none⟩) x5_3.length co35)) (v1 := (.slice (some ⟨go34, 0, none⟩) x5_3.length co35)) (ok := (fun k_ => (P0_ k_ ∨ w.heap.size ≤ k_) ∧ some k_ ≠ (v272 : Value).ownBlock)) (by (with_reducible repeat (first | apply Kd.V_alloc | apply Kd.V_drewN | apply Kd.V_drew)); exact Kd.V_mono HL270_3.out (fun _ hk => ⟨⟨hk.1.1, hk.2⟩, hk.1.2⟩)) hg (.inl rfl)); have n4_ := Aside0.mk (Kd.N_afterv (v := (.slice (some ⟨go34, 0, none⟩) x5_3.length co35)) (v1 := (.slice (some ⟨go34, 0, none⟩) x5_3.length co35)) (ok := (fun k_ => (P0_ k_ ∨ w.heap.size ≤ k_))) (by (with_reducible repeat (first | apply Kd.N_alloc | apply Kd.N_drewN | apply Kd.N_drew)); exact HO273.out) hg (.inl rfl)); have n5_ := Aside0.mk ((by rw [hw]; exact below_set (HB.out) GB34.out : Below w.heap.size w w38)); clear HO_0; clear HO_5; clear HL269_0; clear HL270_3; clear HO273; clear HB; have HO_0 := n0_; have HO_5 := n1_; have HL269_0 := n2_; have HL270_3 := n3_; have HO273 := n4_; have HB := n5_; clear n0_ n1_ n2_ n3_ n4_ n5_; clear hg hw hp_))
                                            go_roundg k4
                                            case measure => have := HJ1.out; have := HK2.out; have := HK3.out; have := HK4.out; omega
                                            case rel => exact ⟨(y274), (y271), H', ⟨by have := HJ1.out; have := HK2.out; have := HK3.out; have := HK4.out; omega⟩, ⟨by (with_reducible repeat (first | apply Kd.V_alloc | apply Kd.V_drewN | apply Kd.V_drew)); exact Kd.V_mono HO_0.out (fun _ hk => ⟨hk.1.1, ⟨hk.2, hk.1.2⟩⟩)⟩, ⟨by (with_reducible repeat (first | apply Kd.R_alloc | apply Kd.R_drewN | apply Kd.R_drew)); exact HO_5.out⟩, ⟨by (with_reducible repeat (first | apply Kd.N_alloc | apply Kd.N_drewN | apply Kd.N_drew)); exact HO273.out⟩, ⟨by repeat (first | (with_reducible first | exact HB.out | apply below_alloc | apply pw_below_drewN | apply below_drew1) | exact HB.out)⟩⟩
                                          · rw [if_neg c33] at H
                                            exact absurd H (by simp)
                                        · rw [if_neg c32] at H
                                          exact absurd H (by simp)
                                      · rw [if_neg c31] at H
                                        exact absurd H (by simp)
                                    · rw [if_neg c30] at H
                                      exact absurd H (by simp)
                                  · rw [if_neg c29] at H
                                    exact absurd H (by simp)
                                · rw [if_neg c28] at H
                                  exact absurd H (by simp)
                      · rw [if_neg c12] at H
                        have c12b0 : decide ((x8_3.length : Int) < x6_2) = false := decide_eq_false c12
                        clear c12
                        simp only [Option.some.injEq, Prod.mk.injEq] at H
                        obtain ⟨rfl, rfl⟩ := H
                        obtain ⟨Ao39, co39, eo39⟩ := Kd.N_slice HO_8.out
                        subst eo39
                        go_wp2
                        go_ret2
                        exact ⟨_, _, by first | rfl | (simp [errW_none, errW_some] <;> rfl) | (simp [*, errW_none, errW_some] <;> rfl), by (with_reducible repeat (first | apply Kd.N_alloc | apply Kd.N_drewN | apply Kd.N_drew)); exact HO_8.out, by (with_reducible repeat (first | apply Kd.R_alloc | apply Kd.R_drewN | apply Kd.R_drew)); exact HO_5.out, by repeat (first | (with_reducible first | exact HB.out | apply below_alloc | apply pw_below_drewN | apply below_drew1) | exact HB.out)⟩
          · rw [if_neg c6] at H
            exact absurd H (by simp)
        · rw [if_neg c5] at H
          exact absurd H (by simp)

/-! ### argosylaw12_MergeMerges: function 3 -/
def argosylaw12_MergeMerges.f (k : Nat) (l0 : List (List (S45))) : Option (Bool) := (argosylaw12_few.f k l0).bind fun t275 => (if t275 = true then ((merge_Merge.f k l0).bind fun bt277 => ((argosyref12_Merge.f k l0).bind fun bt283 => ((argosyref10_SameAll.f k bt277.1 bt283.1).bind fun t289 => (if t289 = true then ((argosyref01_Same.f k bt277.2 bt283.2).bind fun t290 => (if t290 = true then ((argosylaw12_lives.f k).bind fun t291 => (some t291)) else (none))) else (none))))) else ((argosylaw12_lives.f k).bind fun t276 => (some t276)))
theorem argosylaw12_MergeMerges.mono : ∀ a0 k, LeO (argosylaw12_MergeMerges.f k a0) (argosylaw12_MergeMerges.f (k + 1) a0) := by
  intro a0 k
  unfold argosylaw12_MergeMerges.f
  repeat' first
      | (with_reducible exact argosylaw12_few.mono _ _)
      | (with_reducible exact argosylaw12_lives.mono _)
      | (with_reducible exact argosyref01_Same.mono _ _ _)
      | (with_reducible exact argosyref10_SameAll.mono _ _ _)
      | (with_reducible exact argosyref12_Merge.mono _ _)
      | (with_reducible exact merge_Merge.mono _ _)
      | (with_reducible exact LeO.refl _)
      | (with_reducible exact LeO.none _)
      | (with_reducible refine LeO.ite ?_ ?_)
      | (with_reducible refine LeO.bind ?_ (fun _ => ?_))
      | exact argosylaw12_few.mono _ _
      | exact argosylaw12_lives.mono _
      | exact argosyref01_Same.mono _ _ _
      | exact argosyref10_SameAll.mono _ _ _
      | exact argosyref12_Merge.mono _ _
      | exact merge_Merge.mono _ _
      | exact LeO.none _
      | refine LeO.ite ?_ ?_
      | refine LeO.bind ?_ (fun _ => ?_)
set_option maxHeartbeats 8000000 in
set_option maxRecDepth 100000 in
theorem argosylaw12_MergeMerges.calls (k : Nat) (A0 : Option Addr) (c0 : Nat) (l0 : List (List (S45))) (r : Bool) (w : World) (hr0 : Kd.C (Kd.slice 45 k45) w A0 l0.length l0) (hc0 : l0.length ≤ c0) (h : argosylaw12_MergeMerges.f k l0 = some r) :
    Calls Try.prog 3 #[.slice A0 l0.length c0] w fun e w' => e = .returned (.bool r) ∧ Below w.heap.size w w' := by
  have HR0 := Aside0.mk hr0
  have HC0 := Aside0.mk hc0
  clear hr0 hc0
  have HB := Aside0.mk (Below.refl w.heap.size w)
  have H : ((argosylaw12_few.f k l0).bind fun t275 => (if t275 = true then ((merge_Merge.f k l0).bind fun bt277 => ((argosyref12_Merge.f k l0).bind fun bt283 => ((argosyref10_SameAll.f k bt277.1 bt283.1).bind fun t289 => (if t289 = true then ((argosyref01_Same.f k bt277.2 bt283.2).bind fun t290 => (if t290 = true then ((argosylaw12_lives.f k).bind fun t291 => (some t291)) else (none))) else (none))))) else ((argosylaw12_lives.f k).bind fun t276 => (some t276)))) = some r := h
  clear h
  replace H := Option.bind_eq_some_iff.mp H
  obtain ⟨t275, A20, H⟩ := H
  replace H : (if t275 = true then ((merge_Merge.f k l0).bind fun bt277 => ((argosyref12_Merge.f k l0).bind fun bt283 => ((argosyref10_SameAll.f k bt277.1 bt283.1).bind fun t289 => (if t289 = true then ((argosyref01_Same.f k bt277.2 bt283.2).bind fun t290 => (if t290 = true then ((argosylaw12_lives.f k).bind fun t291 => (some t291)) else (none))) else (none))))) else ((argosylaw12_lives.f k).bind fun t276 => (some t276))) = some r := H
  have A2 := Aside0.mk A20
  clear A20
  by_cases c3 : t275 = true
  · subst c3
    have H1 : ((merge_Merge.f k l0).bind fun bt277 => ((argosyref12_Merge.f k l0).bind fun bt283 => ((argosyref10_SameAll.f k bt277.1 bt283.1).bind fun t289 => (if t289 = true then ((argosyref01_Same.f k bt277.2 bt283.2).bind fun t290 => (if t290 = true then ((argosylaw12_lives.f k).bind fun t291 => (some t291)) else (none))) else (none))))) = some r := by rw [if_pos rfl] at H; exact H
    clear H
    have H := H1
    clear H1
    replace H := Option.bind_eq_some_iff.mp H
    obtain ⟨⟨t277, t280⟩, A40, H⟩ := H
    replace H : ((argosyref12_Merge.f k l0).bind fun bt283 => ((argosyref10_SameAll.f k t277 bt283.1).bind fun t289 => (if t289 = true then ((argosyref01_Same.f k t280 bt283.2).bind fun t290 => (if t290 = true then ((argosylaw12_lives.f k).bind fun t291 => (some t291)) else (none))) else (none)))) = some r := H
    have A4 := Aside0.mk A40
    clear A40
    replace H := Option.bind_eq_some_iff.mp H
    obtain ⟨⟨t283, t286⟩, A50, H⟩ := H
    replace H : ((argosyref10_SameAll.f k t277 t283).bind fun t289 => (if t289 = true then ((argosyref01_Same.f k t280 t286).bind fun t290 => (if t290 = true then ((argosylaw12_lives.f k).bind fun t291 => (some t291)) else (none))) else (none))) = some r := H
    have A5 := Aside0.mk A50
    clear A50
    replace H := Option.bind_eq_some_iff.mp H
    obtain ⟨t289, A60, H⟩ := H
    replace H : (if t289 = true then ((argosyref01_Same.f k t280 t286).bind fun t290 => (if t290 = true then ((argosylaw12_lives.f k).bind fun t291 => (some t291)) else (none))) else (none)) = some r := H
    have A6 := Aside0.mk A60
    clear A60
    by_cases c7 : t289 = true
    · subst c7
      have H1 : ((argosyref01_Same.f k t280 t286).bind fun t290 => (if t290 = true then ((argosylaw12_lives.f k).bind fun t291 => (some t291)) else (none))) = some r := by rw [if_pos rfl] at H; exact H
      clear H
      have H := H1
      clear H1
      replace H := Option.bind_eq_some_iff.mp H
      obtain ⟨t290, A80, H⟩ := H
      replace H : (if t290 = true then ((argosylaw12_lives.f k).bind fun t291 => (some t291)) else (none)) = some r := H
      have A8 := Aside0.mk A80
      clear A80
      by_cases c9 : t290 = true
      · subst c9
        have H1 : ((argosylaw12_lives.f k).bind fun t291 => (some t291)) = some r := by rw [if_pos rfl] at H; exact H
        clear H
        have H := H1
        clear H1
        replace H := Option.bind_eq_some_iff.mp H
        obtain ⟨t291, A100, H⟩ := H
        replace H : (some t291) = some r := H
        have A10 := Aside0.mk A100
        clear A100
        obtain rfl := Option.some.inj H
        go_enter Try.func3, Try.ntmps3
        go_wp2_with (first | ((with_reducible refine gate_callee (f := 9) rfl ?_); refine goesL_ (some 8) rfl rfl Try.func9 (by kernel_rfl) rfl #[.slice A0 l0.length c0] rfl (by (try simp only [List.map_toArray, List.map_cons, List.map_nil]); first | done | rfl | (simp only [List.length_drop, List.length_take]; rfl)) ?_; (with_reducible refine (argosylaw12_few.calls k _ _ l0 true _ ?side1 ?side2 A2.out).mono ?_); (case side1 => repeat (first | exact HR0.out | (with_reducible refine Kd.C_alloc ?_ _) | (with_reducible refine Kd.C_drewN ?_ _) | (with_reducible refine Kd.C_drew ?_))); (case side2 => exact HC0.out); rintro e w' ⟨rfl, ⟨nd, rfl⟩⟩; refine ⟨_, rfl, ?_⟩) | ((with_reducible refine gate_callee (f := 11) rfl ?_); refine goesL_ (some 13) rfl rfl Try.func11 (by kernel_rfl) rfl #[.slice A0 l0.length c0] rfl (by (try simp only [List.map_toArray, List.map_cons, List.map_nil]); first | done | rfl | (simp only [List.length_drop, List.length_take]; rfl)) ?_; (with_reducible refine (merge_Merge.calls k (fun k_ => k_ < w.heap.size) _ _ l0 t277 t280 _ ?side1 A4.out).mono ?_); (case side1 => exact Kd.V_mk HC0.out (Kd.F_below (Kd.C_F (Kd.heap_slice 45 k45_heap) HR0.out) (by repeat (first | (with_reducible first | exact HB.out | apply below_alloc | apply pw_below_drewN | apply below_drew1) | exact HB.out)))); rintro e w11 ⟨v278, v281, rfl, ho0, ho1, hb⟩; refine ⟨_, rfl, ?_⟩; have n0_ := Aside0.mk (Kd.N_lower (Kd.N_mono (ok' := fun k_ => some k_ ≠ (v281 : Value).ownBlock) ho0 (fun k_ hk_ => hk_.2)) (below_size (by repeat (first | (with_reducible first | exact HB.out | apply below_alloc | apply pw_below_drewN | apply below_drew1) | exact HB.out)))); have n1_ := Aside0.mk (Kd.R_lower (Kd.R_mono (ok' := fun k_ => True) ho1 (fun _ hk_ => trivial)) (below_size (by repeat (first | (with_reducible first | exact HB.out | apply below_alloc | apply pw_below_drewN | apply below_drew1) | exact HB.out)))); have n2_ := Aside0.mk (below_step (by repeat (first | (with_reducible first | exact HB.out | apply below_alloc | apply pw_below_drewN | apply below_drew1) | exact HB.out)) hb); clear HB; have HO279 := n0_; have HO282 := n1_; have HB := n2_; clear n0_ n1_ n2_; (try clear hb); (try clear hb2); (try clear hk); (try clear hi); (try clear ho0); (try clear ho1)) | ((with_reducible refine gate_callee (f := 12) rfl ?_); refine goesL_ (some 18) rfl rfl Try.func12 (by kernel_rfl) rfl #[.slice A0 l0.length c0] rfl (by (try simp only [List.map_toArray, List.map_cons, List.map_nil]); first | done | rfl | (simp only [List.length_drop, List.length_take]; rfl)) ?_; (with_reducible refine (argosyref12_Merge.calls k (fun k_ => k_ < w.heap.size) _ _ l0 t283 t286 _ ?side1 A5.out).mono ?_); (case side1 => exact Kd.V_mk HC0.out (Kd.F_below (Kd.C_F (Kd.heap_slice 45 k45_heap) HR0.out) (by repeat (first | (with_reducible first | exact HB.out | apply below_alloc | apply pw_below_drewN | apply below_drew1) | exact HB.out)))); rintro e w12 ⟨v284, v287, rfl, ho0, ho1, hb⟩; refine ⟨_, rfl, ?_⟩; have n0_ := Aside0.mk (Kd.N_mono (Kd.N_told (Kd.N_told (Kd.N_old (by (with_reducible repeat (first | apply Kd.N_alloc | apply Kd.N_drewN | apply Kd.N_drew)); exact HO279.out) hb) (Kd.N_base ho0)) (Kd.R_base ho1)) (fun _ h_ => h_.1)); have n1_ := Aside0.mk (Kd.R_elder' (by (with_reducible repeat (first | apply Kd.R_alloc | apply Kd.R_drewN | apply Kd.R_drew)); exact HO282.out) (Kd.R_base ho1) hb); have n2_ := Aside0.mk (Kd.N_lower (Kd.N_mono (ok' := fun k_ => some k_ ≠ (v287 : Value).ownBlock ∧ some k_ ≠ (v278 : Value).ownBlock ∧ some k_ ≠ (v281 : Value).ownBlock) ho0 (fun k_ hk_ => ⟨hk_.2, Or.elim hk_.1 (fun hs_ => fun e_ => Nat.not_le.2 hs_ (Kd.N_base HO279.out k_ e_.symm)) (fun hn_ => (Kd.fresh' (Kd.N_lt (by (with_reducible repeat (first | apply Kd.N_alloc | apply Kd.N_drewN | apply Kd.N_drew)); exact HO279.out)) k_ hn_)), Or.elim hk_.1 (fun hs_ => fun e_ => Nat.not_le.2 hs_ (Kd.R_base HO282.out k_ e_.symm)) (fun hn_ => (Kd.fresh' (Kd.R_lt (by (with_reducible repeat (first | apply Kd.R_alloc | apply Kd.R_drewN | apply Kd.R_drew)); exact HO282.out)) k_ hn_))⟩)) (below_size (by repeat (first | (with_reducible first | exact HB.out | apply below_alloc | apply pw_below_drewN | apply below_drew1) | exact HB.out)))); have n3_ := Aside0.mk (Kd.R_lower (Kd.R_new' (Kd.R_mono (ok' := fun k_ => True) ho1 (fun _ hk_ => trivial)) (Kd.R_lt (by (with_reducible repeat (first | apply Kd.R_alloc | apply Kd.R_drewN | apply Kd.R_drew)); exact HO282.out))) (below_size (by repeat (first | (with_reducible first | exact HB.out | apply below_alloc | apply pw_below_drewN | apply below_drew1) | exact HB.out)))); have n4_ := Aside0.mk (below_step (by repeat (first | (with_reducible first | exact HB.out | apply below_alloc | apply pw_below_drewN | apply below_drew1) | exact HB.out)) hb); clear HO279; clear HO282; clear HB; have HO279 := n0_; have HO282 := n1_; have HO285 := n2_; have HO288 := n3_; have HB := n4_; clear n0_ n1_ n2_ n3_ n4_; (try clear hb); (try clear hb2); (try clear hk); (try clear hi); (try clear ho0); (try clear ho1); obtain ⟨Ao13, co13, eo13⟩ := Kd.N_slice HO279.out; subst eo13; obtain ⟨Ao14, co14, eo14⟩ := Kd.N_slice HO285.out; subst eo14) | ((with_reducible refine gate_callee (f := 13) rfl ?_); refine goesL_ (some 23) rfl rfl Try.func13 (by kernel_rfl) rfl #[.slice Ao13 t277.length co13, .slice Ao14 t283.length co14] rfl (by (try simp only [List.map_toArray, List.map_cons, List.map_nil]); first | done | rfl | (simp only [List.length_drop, List.length_take]; rfl)) ?_; (with_reducible refine (argosyref10_SameAll.calls k _ _ t277 _ _ t283 true _ ?side1 ?side2 ?side3 ?side4 A6.out).mono ?_); (case side1 => repeat (first | exact (Kd.N_reads' HO279.out).2.2 | (with_reducible refine Kd.C_alloc ?_ _) | (with_reducible refine Kd.C_drewN ?_ _) | (with_reducible refine Kd.C_drew ?_))); (case side2 => exact (Kd.N_reads' HO279.out).2.1); (case side3 => repeat (first | exact (Kd.N_reads' HO285.out).2.2 | (with_reducible refine Kd.C_alloc ?_ _) | (with_reducible refine Kd.C_drewN ?_ _) | (with_reducible refine Kd.C_drew ?_))); (case side4 => exact (Kd.N_reads' HO285.out).2.1); rintro e w15 ⟨rfl, hb⟩; refine ⟨_, rfl, ?_⟩; have n0_ := Aside0.mk (Kd.N_below (by (with_reducible repeat (first | apply Kd.N_alloc | apply Kd.N_drewN | apply Kd.N_drew)); exact HO279.out) hb); have n1_ := Aside0.mk (Kd.R_below (by (with_reducible repeat (first | apply Kd.R_alloc | apply Kd.R_drewN | apply Kd.R_drew)); exact HO282.out) hb); have n2_ := Aside0.mk (Kd.N_below (by (with_reducible repeat (first | apply Kd.N_alloc | apply Kd.N_drewN | apply Kd.N_drew)); exact HO285.out) hb); have n3_ := Aside0.mk (Kd.R_below (by (with_reducible repeat (first | apply Kd.R_alloc | apply Kd.R_drewN | apply Kd.R_drew)); exact HO288.out) hb); have n4_ := Aside0.mk (below_step (by repeat (first | (with_reducible first | exact HB.out | apply below_alloc | apply pw_below_drewN | apply below_drew1) | exact HB.out)) hb); clear HO279; clear HO282; clear HO285; clear HO288; clear HB; have HO279 := n0_; have HO282 := n1_; have HO285 := n2_; have HO288 := n3_; have HB := n4_; clear n0_ n1_ n2_ n3_ n4_; (try clear hb); (try clear hb2); (try clear hk); (try clear hi); obtain ⟨Ao16, co16, eo16⟩ := Kd.R_slice HO282.out; subst eo16; obtain ⟨Ao17, co17, eo17⟩ := Kd.R_slice HO288.out; subst eo17) | (go_at_call 14; (with_reducible refine (argosyref01_Same.calls k _ _ t280 _ _ t286 true _ ?side1 ?side2 ?side3 ?side4 A8.out).mono ?_); (case side1 => repeat (first | exact (Kd.R_reads' HO282.out).2.2 | (with_reducible refine Kd.C_alloc ?_ _) | (with_reducible refine Kd.C_drewN ?_ _) | (with_reducible refine Kd.C_drew ?_))); (case side2 => exact (Kd.R_reads' HO282.out).2.1); (case side3 => repeat (first | exact (Kd.R_reads' HO288.out).2.2 | (with_reducible refine Kd.C_alloc ?_ _) | (with_reducible refine Kd.C_drewN ?_ _) | (with_reducible refine Kd.C_drew ?_))); (case side4 => exact (Kd.R_reads' HO288.out).2.1); rintro e w' ⟨rfl, ⟨nd, rfl⟩⟩) | (go_at_call 10; (with_reducible refine (argosylaw12_lives.calls k  t291 _ A10.out).mono ?_); rintro e w18 ⟨rfl, hb⟩; have n0_ := Aside0.mk (Kd.N_below (by (with_reducible repeat (first | apply Kd.N_alloc | apply Kd.N_drewN | apply Kd.N_drew)); exact HO279.out) hb); have n1_ := Aside0.mk (Kd.R_below (by (with_reducible repeat (first | apply Kd.R_alloc | apply Kd.R_drewN | apply Kd.R_drew)); exact HO282.out) hb); have n2_ := Aside0.mk (Kd.N_below (by (with_reducible repeat (first | apply Kd.N_alloc | apply Kd.N_drewN | apply Kd.N_drew)); exact HO285.out) hb); have n3_ := Aside0.mk (Kd.R_below (by (with_reducible repeat (first | apply Kd.R_alloc | apply Kd.R_drewN | apply Kd.R_drew)); exact HO288.out) hb); have n4_ := Aside0.mk (below_step (by repeat (first | (with_reducible first | exact HB.out | apply below_alloc | apply pw_below_drewN | apply below_drew1) | exact HB.out)) hb); clear HO279; clear HO282; clear HO285; clear HO288; clear HB; have HO279 := n0_; have HO282 := n1_; have HO285 := n2_; have HO288 := n3_; have HB := n4_; clear n0_ n1_ n2_ n3_ n4_; (try clear hb); (try clear hb2); (try clear hk); (try clear hi)))
        go_ret
        exact ⟨by first | rfl | (simp [errW_none, errW_some] <;> rfl) | (simp [*, errW_none, errW_some] <;> rfl), by repeat (first | (with_reducible first | exact HB.out | apply below_alloc | apply pw_below_drewN | apply below_drew1) | exact HB.out)⟩
      · replace c9 := Bool.eq_false_iff.mpr c9
        subst c9
        have H1 : (none) = some r := by rw [if_neg (show ¬ (false = true) by decide)] at H; exact H
        clear H
        have H := H1
        clear H1
        exact absurd H (by simp)
    · replace c7 := Bool.eq_false_iff.mpr c7
      subst c7
      have H1 : (none) = some r := by rw [if_neg (show ¬ (false = true) by decide)] at H; exact H
      clear H
      have H := H1
      clear H1
      exact absurd H (by simp)
  · replace c3 := Bool.eq_false_iff.mpr c3
    subst c3
    have H1 : ((argosylaw12_lives.f k).bind fun t276 => (some t276)) = some r := by rw [if_neg (show ¬ (false = true) by decide)] at H; exact H
    clear H
    have H := H1
    clear H1
    replace H := Option.bind_eq_some_iff.mp H
    obtain ⟨t276, A190, H⟩ := H
    replace H : (some t276) = some r := H
    have A19 := Aside0.mk A190
    clear A190
    obtain rfl := Option.some.inj H
    go_enter Try.func3, Try.ntmps3
    go_wp2_with (first | ((with_reducible refine gate_callee (f := 9) rfl ?_); refine goesL_ (some 8) rfl rfl Try.func9 (by kernel_rfl) rfl #[.slice A0 l0.length c0] rfl (by (try simp only [List.map_toArray, List.map_cons, List.map_nil]); first | done | rfl | (simp only [List.length_drop, List.length_take]; rfl)) ?_; (with_reducible refine (argosylaw12_few.calls k _ _ l0 false _ ?side1 ?side2 A2.out).mono ?_); (case side1 => repeat (first | exact HR0.out | (with_reducible refine Kd.C_alloc ?_ _) | (with_reducible refine Kd.C_drewN ?_ _) | (with_reducible refine Kd.C_drew ?_))); (case side2 => exact HC0.out); rintro e w' ⟨rfl, ⟨nd, rfl⟩⟩; refine ⟨_, rfl, ?_⟩) | ((with_reducible refine gate_callee (f := 10) rfl ?_); refine goesL_ (some 10) rfl rfl Try.func10 (by kernel_rfl) rfl #[] rfl (by (try simp only [List.map_toArray, List.map_cons, List.map_nil]); first | done | rfl | (simp only [List.length_drop, List.length_take]; rfl)) ?_; (with_reducible refine (argosylaw12_lives.calls k  t276 _ A19.out).mono ?_); rintro e w20 ⟨rfl, hb⟩; refine ⟨_, rfl, ?_⟩; have n0_ := Aside0.mk (below_step (by repeat (first | (with_reducible first | exact HB.out | apply below_alloc | apply pw_below_drewN | apply below_drew1) | exact HB.out)) hb); clear HB; have HB := n0_; clear n0_; (try clear hb); (try clear hb2); (try clear hk); (try clear hi)))
    go_ret
    exact ⟨by first | rfl | (simp [errW_none, errW_some] <;> rfl) | (simp [*, errW_none, errW_some] <;> rfl), by repeat (first | (with_reducible first | exact HB.out | apply below_alloc | apply pw_below_drewN | apply below_drew1) | exact HB.out)⟩
theorem argosylaw12_MergeMerges_k45_opens {H : Type} {enc : TypeId × Value → H} {w : World} {spare : Nat → Bool} {held : Bool} : pfOpens enc Try.prog w spare held k45 45 (fun x : S45 => ((Lit.int .i64 x.f0).wf = true ∧ (Lit.int .i64 x.f1).wf = true ∧ (Lit.int .i64 x.f2).wf = true ∧ (x.f3.length * 8 ≤ 140737488351232 ∧ ∀ y0 ∈ x.f3, (Lit.int .i64 y0).wf = true))) := by
  intro fuel cs x h hw
  obtain ⟨hl, n, hf⟩ := pf_fields Try.underlying45 (by kernel_rfl) (by kernel_rfl) h hw
  match cs, hl with
  | [v0, v1, v2, v3], _ =>
    obtain ⟨_, h0, g0⟩ := hf 0 _ v0 rfl rfl
    obtain ⟨_, h1, g1⟩ := hf 1 _ v1 rfl rfl
    obtain ⟨_, h2, g2⟩ := hf 2 _ v2 rfl rfl
    obtain ⟨_, h3, g3⟩ := hf 3 _ v3 rfl rfl
    obtain ⟨x0, e0, q0⟩ := (pfOpens_int .i64 (by kernel_rfl)) _ _ _ h0 g0
    obtain ⟨x1, e1, q1⟩ := (pfOpens_int .i64 (by kernel_rfl)) _ _ _ h1 g1
    obtain ⟨x2, e2, q2⟩ := (pfOpens_int .i64 (by kernel_rfl)) _ _ _ h2 g2
    obtain ⟨x3, e3, q3⟩ := (pfOpens_slice (0 : Int) 8 (by kernel_rfl) (by kernel_rfl) (by kernel_rfl) (pfOpens_int .i64 (by kernel_rfl))) _ _ _ h3 g3
    exact ⟨⟨x0, x1, x2, x3⟩, ⟨[v0], _, rfl, e0, [v1], _, rfl, e1, [v2], _, rfl, e2, e3⟩, q0, q1, q2, q3⟩

/-- THE ONE PURE STATEMENT of argosylaw12_MergeMerges: yours. -/
def argosylaw12_MergeMerges.Pure : Prop := ∀ (l0 : List (List (S45))), l0.length * 24 ≤ 140737488351232 → (∀ s ∈ l0, (s.length * 48 ≤ 140737488351232 ∧ ∀ y0 ∈ s, ((Lit.int .i64 y0.f0).wf = true ∧ (Lit.int .i64 y0.f1).wf = true ∧ (Lit.int .i64 y0.f2).wf = true ∧ (y0.f3.length * 8 ≤ 140737488351232 ∧ ∀ y1 ∈ y0.f3, (Lit.int .i64 y1).wf = true)))) → ∃ k, argosylaw12_MergeMerges.f k l0 = some true
theorem argosylaw12_MergeMerges.walk (P : argosylaw12_MergeMerges.Pure) (a0 : Option Addr) (cap0 : Nat) (l0 : List (List (S45))) (w : World) (hr0 : Kd.C (Kd.slice 45 k45) w a0 l0.length l0) (hc0 : l0.length ≤ cap0) (hm0 : l0.length * 24 ≤ 140737488351232) (hs0 : ∀ s ∈ l0, (s.length * 48 ≤ 140737488351232 ∧ ∀ y0 ∈ s, ((Lit.int .i64 y0.f0).wf = true ∧ (Lit.int .i64 y0.f1).wf = true ∧ (Lit.int .i64 y0.f2).wf = true ∧ (y0.f3.length * 8 ≤ 140737488351232 ∧ ∀ y1 ∈ y0.f3, (Lit.int .i64 y1).wf = true)))) :
    Calls Try.prog 3 #[.slice a0 l0.length cap0] w fun e w' => e = .returned (.bool true) ∧ Below w.heap.size w w' := by
  obtain ⟨k, h⟩ := P l0 hm0 hs0
  refine (argosylaw12_MergeMerges.calls k _ _ l0 true w hr0 hc0 h).mono ?_
  rintro e w' ⟨rfl, hd⟩
  exact ⟨rfl, hd⟩

end Go.Proofs.Ytbkdogijkfampaa.PMergeMerges
