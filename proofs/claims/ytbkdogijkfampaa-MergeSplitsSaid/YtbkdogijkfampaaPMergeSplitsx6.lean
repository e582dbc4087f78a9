-- Written by a patched print (wip/mkprint.py), for this claim.
import Derived.Test.YtbkdogijkfampaaPMergeSplitsx0
import Derived.Test.YtbkdogijkfampaaPMergeSplitsx1
import Derived.Test.YtbkdogijkfampaaPMergeSplitsx3
import Derived.Test.YtbkdogijkfampaaPMergeSplitsx5
namespace Go.Proofs.Ytbkdogijkfampaa.PMergeSplits
open Go.RowKit Go.Proofs.YtbkdogijkfampaaW.PrintWords Go.Proofs.YtbkdogijkfampaaW.PrintLast Go.Proofs.YtbkdogijkfampaaW.PrintMore
attribute [local go_sem] max2_int min2_int max_two min_two max_three min_three max_four min_four   -- for this text's walks alone
set_option linter.unusedVariables false
set_option linter.unusedSimpArgs false

/-! ### argosyref12_Branches: function 29 -/
mutual
def argosyref12_Branches.j0 : Nat → List (S45) → Int → Bool → Option (List Int × Bool)
  | 0, _, _, _ => none
  | k + 1, x0, x1, x16 => if x16 = true then (some (([] : List Int), false)) else (if 0 ≤ x1 then (if (x1 : Int).toNat ≤ 35184372088832 then (argosyref12_Branches.l0 k x0 x1 (List.replicate (x1 : Int).toNat 0) ([] : List Int) 0) else (none)) else (none))
def argosyref12_Branches.l0 : Nat → List (S45) → Int → List Int → List Int → Int → Option (List Int × Bool)
  | 0, _, _, _, _, _ => none
  | k + 1, x0, x1, x6, x7, x8 => if x8 < (x0.length : Int) then (argosyref12_Branches.l1 k x0 x1 x6 x7 x8 (-1) 0) else (some (x7, true))
def argosyref12_Branches.l1 : Nat → List (S45) → Int → List Int → List Int → Int → Int → Int → Option (List Int × Bool)
  | 0, _, _, _, _, _, _, _ => none
  | k + 1, x0, x1, x6, x7, x8, x9, x10 => if x10 < x1 then (if 0 ≤ x8 then (if x8 < (x0.length : Int) then ((argosyref12_next.f k x6 ((rd_T45 x0 x8).f0) ((rd_T45 x0 x8).f1) ((rd_T45 x0 x8).f2) ((rd_T45 x0 x8).f3) x10).bind fun t262 => (if t262 = true then (argosyref12_Branches.l1 k x0 x1 x6 x7 x8 x10 (wrap64 (x10 + 1))) else (argosyref12_Branches.l1 k x0 x1 x6 x7 x8 x9 (wrap64 (x10 + 1))))) else (none)) else (none)) else (if x9 < 0 then (some (([] : List Int), false)) else (if 0 ≤ x9 then (if x9 < (x6.length : Int) then (if x7.length < 17592186044416 then (argosyref12_Branches.l0 k x0 x1 (x6.set (x9 : Int).toNat (wrap64 ((rd x6 x9) + 1))) (x7 ++ [x9]) (wrap64 (x8 + 1))) else (none)) else (none)) else (none)))
end
def argosyref12_Branches.f (k : Nat) (l0 : List (S45)) (a1 : Int) : Option (List Int × Bool) := if a1 < 1 then (argosyref12_Branches.j0 k l0 a1 true) else (argosyref12_Branches.j0 k l0 a1 (decide (a1 > 64)))
theorem argosyref12_Branches.mono_l : ∀ k, (∀ y0 y1 y2, LeO (argosyref12_Branches.j0 k y0 y1 y2) (argosyref12_Branches.j0 (k + 1) y0 y1 y2)) ∧ (∀ y0 y1 y2 y3 y4, LeO (argosyref12_Branches.l0 k y0 y1 y2 y3 y4) (argosyref12_Branches.l0 (k + 1) y0 y1 y2 y3 y4)) ∧ (∀ y0 y1 y2 y3 y4 y5 y6, LeO (argosyref12_Branches.l1 k y0 y1 y2 y3 y4 y5 y6) (argosyref12_Branches.l1 (k + 1) y0 y1 y2 y3 y4 y5 y6))
  | 0 => ⟨fun _ _ _ r h => by simp [argosyref12_Branches.j0] at h, fun _ _ _ _ _ r h => by simp [argosyref12_Branches.l0] at h, fun _ _ _ _ _ _ _ r h => by simp [argosyref12_Branches.l1] at h⟩
  | k + 1 => by
    obtain ⟨ih0, ih1, ih2⟩ := argosyref12_Branches.mono_l k
    refine ⟨?_, ?_, ?_⟩
    · intro y0 y1 y2
      unfold argosyref12_Branches.j0
      repeat' first
      | (with_reducible exact ih0 _ _ _)
      | (with_reducible exact ih1 _ _ _ _ _)
      | (with_reducible exact ih2 _ _ _ _ _ _ _)
      | (with_reducible exact argosyref12_next.mono _ _ _ _ _ _ _)
      | (with_reducible exact LeO.refl _)
      | (with_reducible exact LeO.none _)
      | (with_reducible refine LeO.ite ?_ ?_)
      | (with_reducible refine LeO.bind ?_ (fun _ => ?_))
      | exact ih0 _ _ _
      | exact ih1 _ _ _ _ _
      | exact ih2 _ _ _ _ _ _ _
      | exact argosyref12_next.mono _ _ _ _ _ _ _
      | exact LeO.none _
      | refine LeO.ite ?_ ?_
      | refine LeO.bind ?_ (fun _ => ?_)
    · intro y0 y1 y2 y3 y4
      unfold argosyref12_Branches.l0
      repeat' first
      | (with_reducible exact ih0 _ _ _)
      | (with_reducible exact ih1 _ _ _ _ _)
      | (with_reducible exact ih2 _ _ _ _ _ _ _)
      | (with_reducible exact argosyref12_next.mono _ _ _ _ _ _ _)
      | (with_reducible exact LeO.refl _)
      | (with_reducible exact LeO.none _)
      | (with_reducible refine LeO.ite ?_ ?_)
      | (with_reducible refine LeO.bind ?_ (fun _ => ?_))
      | exact ih0 _ _ _
      | exact ih1 _ _ _ _ _
      | exact ih2 _ _ _ _ _ _ _
      | exact argosyref12_next.mono _ _ _ _ _ _ _
      | exact LeO.none _
      | refine LeO.ite ?_ ?_
      | refine LeO.bind ?_ (fun _ => ?_)
    · intro y0 y1 y2 y3 y4 y5 y6
      unfold argosyref12_Branches.l1
      repeat' first
      | (with_reducible exact ih0 _ _ _)
      | (with_reducible exact ih1 _ _ _ _ _)
      | (with_reducible exact ih2 _ _ _ _ _ _ _)
      | (with_reducible exact argosyref12_next.mono _ _ _ _ _ _ _)
      | (with_reducible exact LeO.refl _)
      | (with_reducible exact LeO.none _)
      | (with_reducible refine LeO.ite ?_ ?_)
      | (with_reducible refine LeO.bind ?_ (fun _ => ?_))
      | exact ih0 _ _ _
      | exact ih1 _ _ _ _ _
      | exact ih2 _ _ _ _ _ _ _
      | exact argosyref12_next.mono _ _ _ _ _ _ _
      | exact LeO.none _
      | refine LeO.ite ?_ ?_
      | refine LeO.bind ?_ (fun _ => ?_)
theorem argosyref12_Branches.mono : ∀ a0 a1 k, LeO (argosyref12_Branches.f k a0 a1) (argosyref12_Branches.f (k + 1) a0 a1) := by
  intro a0 a1 k
  obtain ⟨ih0, ih1, ih2⟩ := argosyref12_Branches.mono_l k
  unfold argosyref12_Branches.f
  repeat' first
      | (with_reducible exact ih0 _ _ _)
      | (with_reducible exact ih1 _ _ _ _ _)
      | (with_reducible exact ih2 _ _ _ _ _ _ _)
      | (with_reducible exact argosyref12_next.mono _ _ _ _ _ _ _)
      | (with_reducible exact LeO.refl _)
      | (with_reducible exact LeO.none _)
      | (with_reducible refine LeO.ite ?_ ?_)
      | (with_reducible refine LeO.bind ?_ (fun _ => ?_))
      | exact ih0 _ _ _
      | exact ih1 _ _ _ _ _
      | exact ih2 _ _ _ _ _ _ _
      | exact argosyref12_next.mono _ _ _ _ _ _ _
      | exact LeO.none _
      | refine LeO.ite ?_ ?_
      | refine LeO.bind ?_ (fun _ => ?_)
set_option maxHeartbeats 8000000 in
set_option maxRecDepth 100000 in
theorem argosyref12_Branches.calls (k : Nat) (A0 : Option Addr) (c0 : Nat) (l0 : List (S45)) (a1 : Int) (r1 : List Int) (r2 : Bool) (w : World) (hr0 : Kd.C k45 w A0 l0.length l0) (hc0 : l0.length ≤ c0) (h : argosyref12_Branches.f k l0 a1 = some (r1, r2)) :
    Calls Try.prog 29 #[.slice A0 l0.length c0, .int .i64 a1] w fun e w' => ∃ v0_ : Value, e = .returned (.tuple #[v0_, .bool r2]) ∧ Kd.R (Kd.int .i64) 3 w' w.heap.size (fun _ => True) v0_ r1 ∧ Below w.heap.size w w' := by
  have hu45 := Try.underlying45
  have HR0 := Aside0.mk hr0
  have HC0 := Aside0.mk hc0
  clear hr0 hc0
  have HB := Aside0.mk (Below.refl w.heap.size w)
  have H : (if a1 < 1 then (argosyref12_Branches.j0 k l0 a1 true) else (argosyref12_Branches.j0 k l0 a1 (decide (a1 > 64)))) = some (r1, r2) := h
  clear h
  have HC3 := Aside0.mk H
  clear H
  go_enter Try.func29, Try.ntmps29
  go_upto_region 1 with (fail)
  go_cut [16] (fun v16 wc => ∃ (kq : Nat) (x16_2 : Bool), v16 = .bool x16_2 ∧ Aside0 (argosyref12_Branches.j0 kq l0 a1 x16_2 = some (r1, r2)) ∧ Aside0 (kq ≤ k) ∧ Aside0 (Below w.heap.size w wc))
  case first =>
    have H := HC3.out
    clear HC3
    by_cases c4 : a1 < 1
    · rw [if_pos c4] at H
      have c4b0 : decide (a1 < 1) = true := decide_eq_true c4
      clear c4
      (first | rw [c4b0] | (simp only [i64_w, i32_w]; rw [c4b0]) | skip)
      have H' := Aside0.mk H
      clear H
      go_wp2
      go_meet
      case rel => exact ⟨_, (true), (by first | rfl | (simp; done) | (simp [*]; done)), H', ⟨by first | omega | exact Nat.le_refl _⟩, ⟨by repeat (first | (with_reducible first | exact HB.out | apply below_alloc | apply pw_below_drewN | apply below_drew1) | exact HB.out)⟩⟩
    · rw [if_neg c4] at H
      have c4b0 : decide (a1 < 1) = false := decide_eq_false c4
      clear c4
      (first | rw [c4b0] | (simp only [i64_w, i32_w]; rw [c4b0]) | skip)
      have H' := Aside0.mk H
      clear H
      go_wp2
      go_meet
      case rel => exact ⟨_, (decide (a1 > 64)), (by first | rfl | (simp; done) | (simp [*]; done)), H', ⟨by first | omega | exact Nat.le_refl _⟩, ⟨by repeat (first | (with_reducible first | exact HB.out | apply below_alloc | apply pw_below_drewN | apply below_drew1) | exact HB.out)⟩⟩
  case rest =>
    clear HC3
    try clear c2
    try clear p2
    try clear c4
    try clear c4b0
    obtain ⟨kq, x16_2, rfl, HA, HJ2, HB⟩ := hcut
    cases kq with
    | zero => exact absurd HA.out (by simp [argosyref12_Branches.j0])
    | succ kj2 =>
      have H := HA.out
      clear HA
      simp only [argosyref12_Branches.j0] at H
      by_cases c5 : x16_2 = true
      · subst c5
        have H1 : (some (([] : List Int), false)) = some (r1, r2) := by rw [if_pos rfl] at H; exact H
        clear H
        have H := H1
        clear H1
        simp only [Option.some.injEq, Prod.mk.injEq] at H
        obtain ⟨rfl, rfl⟩ := H
        go_wp2
        go_ret2
        exact ⟨_, by first | rfl | (simp [errW_none, errW_some] <;> rfl) | (simp [*, errW_none, errW_some] <;> rfl), by first | exact Kd.R_nil _ _ _ _ _ | exact Kd.N_nil _ _ _ _ _ | exact Kd.V_nil _ _ _ _ _ | exact Kd.Q_nil _ _ _ _ _ | exact Kd.S_nil _ _ _ _ _, by repeat (first | (with_reducible first | exact HB.out | apply below_alloc | apply pw_below_drewN | apply below_drew1) | exact HB.out)⟩
      · replace c5 := Bool.eq_false_iff.mpr c5
        subst c5
        have H1 : (if 0 ≤ a1 then (if (a1 : Int).toNat ≤ 35184372088832 then (argosyref12_Branches.l0 kj2 l0 a1 (List.replicate (a1 : Int).toNat 0) ([] : List Int) 0) else (none)) else (none)) = some (r1, r2) := by rw [if_neg (show ¬ (false = true) by decide)] at H; exact H
        clear H
        have H := H1
        clear H1
        by_cases c6 : 0 ≤ a1
        · rw [if_pos c6] at H
          have c6b0 := eq_true c6
          have c6b1 : decide (0 ≤ a1) = true := decide_eq_true c6
          clear c6
          by_cases c7 : (a1 : Int).toNat ≤ 35184372088832
          · rw [if_pos c7] at H
            have c7b0 := eq_true c7
            have c7b1 : decide ((a1 : Int).toNat ≤ 35184372088832) = true := decide_eq_true c7
            clear c7
            obtain ⟨y258, hy258⟩ : ∃ y_ : List Int, y_ = (List.replicate (a1 : Int).toNat 0) := ⟨_, rfl⟩
            replace H : (argosyref12_Branches.l0 kj2 l0 a1 y258 ([] : List Int) 0) = some (r1, r2) := by first | (rw [hy258]; with_reducible exact H) | (have H2_ := (Option.bind_some _ _).symm.trans H; rw [hy258]; with_reducible exact H2_) | (have H2_ := (Option.bind_some _ _).symm.trans H; with_reducible exact H2_) | with_reducible exact H | (rw [hy258]; exact H) | exact H
            have Ny258 := Aside0.mk hy258
            clear hy258
            have H' := Aside0.mk H
            clear H
            go_wp2_with (first | ((with_reducible refine gate_dst (N := 18) rfl ?_); refine Kd.R_make (Kd.int .i64) _ 3 rfl (N := 18) rfl 26 _ _ rfl a1 rfl rfl Try.underlying26 (.int .i64 0) 8 info3 rfl (by decide) (by omega) 0 (ok := fun _ => True) (okp := fun _ => True) rfl (fun _ hk => hk) trivial (of_decide_eq_true (by first | (with_reducible assumption) | assumption)) (Nat.le_trans (Nat.mul_le_mul_right _ (of_decide_eq_true (by first | (with_reducible assumption) | assumption) : a1.toNat ≤ 35184372088832)) (by omega)) (Below.refl _ _) (Nat.le_refl _) ?_; intro v259 w8 ho9 hb hg_ hnew_; clear hg_ hnew_; (first | rw [← Ny258.out] at ho9 | (simp only [Int.reduceToNat] at ho9; rw [← Ny258.out] at ho9)); have n0_ := Aside0.mk (Kd.R_lower ho9 (below_size (by repeat (first | (with_reducible first | exact HB.out | apply below_alloc | apply pw_below_drewN | apply below_drew1) | exact HB.out)))); have n1_ := Aside0.mk (below_step (by repeat (first | (with_reducible first | exact HB.out | apply below_alloc | apply pw_below_drewN | apply below_drew1) | exact HB.out)) hb); clear HB; have HO260 := n0_; have HB := n1_; clear n0_ n1_; clear hb ho9))
            go_loopg [7, 8] kj2 (fun kq v7 v8 w' => ∃ (x6_2 : List Int) (x7_2 : List Int) (x8_2 : Int), v8 = .int .i64 x8_2 ∧ Aside0 (argosyref12_Branches.l0 kq l0 a1 x6_2 x7_2 x8_2 = some (r1, r2)) ∧ Aside0 (kq ≤ kj2) ∧ Aside0 (Kd.R (Kd.int .i64) 3 w' w.heap.size (fun k_ => some k_ ≠ (v7 : Value).ownBlock) v259 x6_2) ∧ Aside0 (Kd.R (Kd.int .i64) 3 w' w.heap.size (fun k_ => some k_ ≠ (v259 : Value).ownBlock) v7 x7_2) ∧ Aside0 (Below w.heap.size w w'))
            case atStart => exact ⟨(y258), (([] : List Int)), (0), (by first | rfl | (simp; done) | (simp [*]; done)), H', ⟨Nat.le_refl _⟩, ⟨by (with_reducible repeat (first | apply Kd.R_alloc | apply Kd.R_drewN | apply Kd.R_drew)); exact Kd.R_mono HO260.out (fun _ hk => (by simp [Value.ownBlock]))⟩, ⟨by first | exact Kd.R_nil _ _ _ _ _ | exact Kd.N_nil _ _ _ _ _ | exact Kd.V_nil _ _ _ _ _ | exact Kd.Q_nil _ _ _ _ _ | exact Kd.S_nil _ _ _ _ _⟩, ⟨by repeat (first | (with_reducible first | exact HB.out | apply below_alloc | apply pw_below_drewN | apply below_drew1) | exact HB.out)⟩⟩
            case round =>
              clear H'
              try clear c2
              try clear p2
              try clear c4
              try clear c4b0
              try clear c5
              try clear c6
              try clear c6b0
              try clear c6b1
              try clear c7
              try clear c7b0
              try clear c7b1
              try clear p2
              obtain ⟨x6_2, x7_2, x8_2, rfl, HA, HK2, HO_6, HO_7, HB⟩ := hrel
              cases gk with
              | zero => exact absurd HA.out (by simp [argosyref12_Branches.l0])
              | succ k2 =>
                have H := HA.out
                clear HA
                simp only [argosyref12_Branches.l0] at H
                by_cases c10 : x8_2 < (l0.length : Int)
                · rw [if_pos c10] at H
                  have c10b0 : decide (x8_2 < (l0.length : Int)) = true := decide_eq_true c10
                  clear c10
                  have H' := Aside0.mk H
                  clear H
                  go_wp2
                  go_loopg [9, 10] k2 (fun kq v9 v10 w' => ∃ (x9_3 : Int) (x10_3 : Int), v9 = .int .i64 x9_3 ∧ v10 = .int .i64 x10_3 ∧ Aside0 (argosyref12_Branches.l1 kq l0 a1 x6_2 x7_2 x8_2 x9_3 x10_3 = some (r1, r2)) ∧ Aside0 (kq ≤ k2) ∧ Aside0 (Kd.R (Kd.int .i64) 3 w' w.heap.size (fun k_ => some k_ ≠ (u7 : Value).ownBlock) v259 x6_2) ∧ Aside0 (Kd.R (Kd.int .i64) 3 w' w.heap.size (fun k_ => some k_ ≠ (v259 : Value).ownBlock) u7 x7_2) ∧ Aside0 (Below w.heap.size w w'))
                  case atStart => exact ⟨((-1)), (0), (by first | rfl | (simp; done) | (simp [*]; done)), (by first | rfl | (simp; done) | (simp [*]; done)), H', ⟨Nat.le_refl _⟩, ⟨by (with_reducible repeat (first | apply Kd.R_alloc | apply Kd.R_drewN | apply Kd.R_drew)); exact HO_6.out⟩, ⟨by (with_reducible repeat (first | apply Kd.R_alloc | apply Kd.R_drewN | apply Kd.R_drew)); exact HO_7.out⟩, ⟨by repeat (first | (with_reducible first | exact HB.out | apply below_alloc | apply pw_below_drewN | apply below_drew1) | exact HB.out)⟩⟩
                  case round =>
                    clear H'
                    try clear c1
                    try clear c2
                    try clear p2
                    try clear c4
                    try clear c4b0
                    try clear c5
                    try clear c6
                    try clear c6b0
                    try clear c6b1
                    try clear c7
                    try clear c7b0
                    try clear c7b1
                    try clear c10
                    try clear c10b0
                    try clear p2
                    obtain ⟨x9_3, x10_3, rfl, rfl, HA, HK3, HO_6, HO_7, HB⟩ := hrel
                    cases gk with
                    | zero => exact absurd HA.out (by simp [argosyref12_Branches.l1])
                    | succ k3 =>
                      have H := HA.out
                      clear HA
                      simp only [argosyref12_Branches.l1] at H
                      by_cases c11 : x10_3 < a1
                      · rw [if_pos c11] at H
                        have c11b0 : decide (x10_3 < a1) = true := decide_eq_true c11
                        clear c11
                        by_cases c12 : 0 ≤ x8_2
                        · rw [if_pos c12] at H
                          have c12b0 : decide (0 ≤ x8_2) = true := decide_eq_true c12
                          clear c12
                          by_cases c13 : x8_2 < (l0.length : Int)
                          · rw [if_pos c13] at H
                            have c13b0 : decide (x8_2 < (l0.length : Int)) = true := decide_eq_true c13
                            clear c13
                            replace H := Option.bind_eq_some_iff.mp H
                            obtain ⟨t262, A140, H⟩ := H
                            replace H : (if t262 = true then (argosyref12_Branches.l1 k3 l0 a1 x6_2 x7_2 x8_2 x10_3 (wrap64 (x10_3 + 1))) else (argosyref12_Branches.l1 k3 l0 a1 x6_2 x7_2 x8_2 x9_3 (wrap64 (x10_3 + 1)))) = some (r1, r2) := H
                            have A14 := Aside0.mk A140
                            clear A140
                            by_cases c15 : t262 = true
                            · subst c15
                              have H1 : (argosyref12_Branches.l1 k3 l0 a1 x6_2 x7_2 x8_2 x10_3 (wrap64 (x10_3 + 1))) = some (r1, r2) := by rw [if_pos rfl] at H; exact H
                              clear H
                              have H := H1
                              clear H1
                              have H' := Aside0.mk H
                              clear H
                              have p261 : 0 ≤ (x8_2 : Int) := of_decide_eq_true (by first | (with_reducible assumption) | assumption)
                              have q261 : x8_2 < (l0.length : Int) := of_decide_eq_true (by first | (with_reducible assumption) | assumption)
                              obtain ⟨ad261, A261_3, c261_3, e261, hx261_0, hx261_1, hx261_2, hx261_3, hl261_3, hi261_3⟩ := at_T45 HR0.out x8_2 p261 q261
                              cases e261
                              replace hx261_0 := (HB.out.cell (World.block_lt_of_cell? w _ hx261_0)).trans hx261_0
                              replace hx261_1 := (HB.out.cell (World.block_lt_of_cell? w _ hx261_1)).trans hx261_1
                              replace hx261_2 := (HB.out.cell (World.block_lt_of_cell? w _ hx261_2)).trans hx261_2
                              replace hx261_3 := (HB.out.cell (World.block_lt_of_cell? w _ hx261_3)).trans hx261_3
                              have HR261_3 := Aside0.mk hi261_3
                              have HC261_3 := Aside0.mk hl261_3
                              clear hi261_3 hl261_3
                              replace p261 := eq_true p261
                              replace q261 := eq_true q261
                              obtain ⟨Ao16, co16, eo16⟩ := Kd.R_slice HO_6.out
                              subst eo16
                              go_wp2_with (first | ((with_reducible refine gate_callee (f := 26) rfl ?_); refine goesL_ (some 36) rfl rfl Try.func26 (by kernel_rfl) rfl #[.slice Ao16 x6_2.length co16, .agg #[.int .i64 ((rd_T45 l0 x8_2).f0), .int .i64 ((rd_T45 l0 x8_2).f1), .int .i64 ((rd_T45 l0 x8_2).f2), .slice A261_3 ((rd_T45 l0 x8_2).f3).length c261_3], .int .i64 x10_3] rfl (by (try simp only [List.map_toArray, List.map_cons, List.map_nil]); first | done | rfl | (simp only [List.length_drop, List.length_take]; rfl)) ?_; (with_reducible refine (argosyref12_next.calls k3 _ _ x6_2 ((rd_T45 l0 x8_2).f0) ((rd_T45 l0 x8_2).f1) ((rd_T45 l0 x8_2).f2) _ _ ((rd_T45 l0 x8_2).f3) x10_3 true _ ?side1 ?side2 ?side3 ?side4 A14.out).mono ?_); (case side1 => repeat (first | exact (Kd.R_reads' HO_6.out).2.2 | (with_reducible refine Kd.C_alloc ?_ _) | (with_reducible refine Kd.C_drewN ?_ _) | (with_reducible refine Kd.C_drew ?_))); (case side2 => exact (Kd.R_reads' HO_6.out).2.1); (case side3 => repeat (first | exact (Kd.C_below HR261_3.out HB.out) | (with_reducible refine Kd.C_alloc ?_ _) | (with_reducible refine Kd.C_drewN ?_ _) | (with_reducible refine Kd.C_drew ?_))); (case side4 => exact HC261_3.out); rintro e w17 ⟨rfl, hb⟩; refine ⟨_, rfl, ?_⟩; have n0_ := Aside0.mk (Kd.R_below (by (with_reducible repeat (first | apply Kd.R_alloc | apply Kd.R_drewN | apply Kd.R_drew)); exact HO_6.out) hb); have n1_ := Aside0.mk (Kd.R_below (by (with_reducible repeat (first | apply Kd.R_alloc | apply Kd.R_drewN | apply Kd.R_drew)); exact HO_7.out) hb); have n2_ := Aside0.mk (below_step (by repeat (first | (with_reducible first | exact HB.out | apply below_alloc | apply pw_below_drewN | apply below_drew1) | exact HB.out)) hb); clear HO_6; clear HO_7; clear HB; have HO_6 := n0_; have HO_7 := n1_; have HB := n2_; clear n0_ n1_ n2_; (try clear hb); (try clear hb2); (try clear hk); (try clear hi)))
                              go_roundg k3
                              case measure => have := HJ2.out; have := HK2.out; have := HK3.out; omega
                              case rel => exact ⟨(x10_3), (wrap64 (x10_3 + 1)), (by first | rfl | (simp; done) | (simp [*]; done)), (by first | rfl | (simp; done) | (simp [*]; done)), H', ⟨by have := HJ2.out; have := HK2.out; have := HK3.out; omega⟩, ⟨by (with_reducible repeat (first | apply Kd.R_alloc | apply Kd.R_drewN | apply Kd.R_drew)); exact HO_6.out⟩, ⟨by (with_reducible repeat (first | apply Kd.R_alloc | apply Kd.R_drewN | apply Kd.R_drew)); exact HO_7.out⟩, ⟨by repeat (first | (with_reducible first | exact HB.out | apply below_alloc | apply pw_below_drewN | apply below_drew1) | exact HB.out)⟩⟩
                            · replace c15 := Bool.eq_false_iff.mpr c15
                              subst c15
                              have H1 : (argosyref12_Branches.l1 k3 l0 a1 x6_2 x7_2 x8_2 x9_3 (wrap64 (x10_3 + 1))) = some (r1, r2) := by rw [if_neg (show ¬ (false = true) by decide)] at H; exact H
                              clear H
                              have H := H1
                              clear H1
                              have H' := Aside0.mk H
                              clear H
                              have p261 : 0 ≤ (x8_2 : Int) := of_decide_eq_true (by first | (with_reducible assumption) | assumption)
                              have q261 : x8_2 < (l0.length : Int) := of_decide_eq_true (by first | (with_reducible assumption) | assumption)
                              obtain ⟨ad261, A261_3, c261_3, e261, hx261_0, hx261_1, hx261_2, hx261_3, hl261_3, hi261_3⟩ := at_T45 HR0.out x8_2 p261 q261
                              cases e261
                              replace hx261_0 := (HB.out.cell (World.block_lt_of_cell? w _ hx261_0)).trans hx261_0
                              replace hx261_1 := (HB.out.cell (World.block_lt_of_cell? w _ hx261_1)).trans hx261_1
                              replace hx261_2 := (HB.out.cell (World.block_lt_of_cell? w _ hx261_2)).trans hx261_2
                              replace hx261_3 := (HB.out.cell (World.block_lt_of_cell? w _ hx261_3)).trans hx261_3
                              have HR261_3 := Aside0.mk hi261_3
                              have HC261_3 := Aside0.mk hl261_3
                              clear hi261_3 hl261_3
                              replace p261 := eq_true p261
                              replace q261 := eq_true q261
                              obtain ⟨Ao18, co18, eo18⟩ := Kd.R_slice HO_6.out
                              subst eo18
                              go_wp2_with (first | ((with_reducible refine gate_callee (f := 26) rfl ?_); refine goesL_ (some 36) rfl rfl Try.func26 (by kernel_rfl) rfl #[.slice Ao18 x6_2.length co18, .agg #[.int .i64 ((rd_T45 l0 x8_2).f0), .int .i64 ((rd_T45 l0 x8_2).f1), .int .i64 ((rd_T45 l0 x8_2).f2), .slice A261_3 ((rd_T45 l0 x8_2).f3).length c261_3], .int .i64 x10_3] rfl (by (try simp only [List.map_toArray, List.map_cons, List.map_nil]); first | done | rfl | (simp only [List.length_drop, List.length_take]; rfl)) ?_; (with_reducible refine (argosyref12_next.calls k3 _ _ x6_2 ((rd_T45 l0 x8_2).f0) ((rd_T45 l0 x8_2).f1) ((rd_T45 l0 x8_2).f2) _ _ ((rd_T45 l0 x8_2).f3) x10_3 false _ ?side1 ?side2 ?side3 ?side4 A14.out).mono ?_); (case side1 => repeat (first | exact (Kd.R_reads' HO_6.out).2.2 | (with_reducible refine Kd.C_alloc ?_ _) | (with_reducible refine Kd.C_drewN ?_ _) | (with_reducible refine Kd.C_drew ?_))); (case side2 => exact (Kd.R_reads' HO_6.out).2.1); (case side3 => repeat (first | exact (Kd.C_below HR261_3.out HB.out) | (with_reducible refine Kd.C_alloc ?_ _) | (with_reducible refine Kd.C_drewN ?_ _) | (with_reducible refine Kd.C_drew ?_))); (case side4 => exact HC261_3.out); rintro e w19 ⟨rfl, hb⟩; refine ⟨_, rfl, ?_⟩; have n0_ := Aside0.mk (Kd.R_below (by (with_reducible repeat (first | apply Kd.R_alloc | apply Kd.R_drewN | apply Kd.R_drew)); exact HO_6.out) hb); have n1_ := Aside0.mk (Kd.R_below (by (with_reducible repeat (first | apply Kd.R_alloc | apply Kd.R_drewN | apply Kd.R_drew)); exact HO_7.out) hb); have n2_ := Aside0.mk (below_step (by repeat (first | (with_reducible first | exact HB.out | apply below_alloc | apply pw_below_drewN | apply below_drew1) | exact HB.out)) hb); clear HO_6; clear HO_7; clear HB; have HO_6 := n0_; have HO_7 := n1_; have HB := n2_; clear n0_ n1_ n2_; (try clear hb); (try clear hb2); (try clear hk); (try clear hi)))
                              go_roundg k3
                              case measure => have := HJ2.out; have := HK2.out; have := HK3.out; omega
                              case rel => exact ⟨(x9_3), (wrap64 (x10_3 + 1)), (by first | rfl | (simp; done) | (simp [*]; done)), (by first | rfl | (simp; done) | (simp [*]; done)), H', ⟨by have := HJ2.out; have := HK2.out; have := HK3.out; omega⟩, ⟨by (with_reducible repeat (first | apply Kd.R_alloc | apply Kd.R_drewN | apply Kd.R_drew)); exact HO_6.out⟩, ⟨by (with_reducible repeat (first | apply Kd.R_alloc | apply Kd.R_drewN | apply Kd.R_drew)); exact HO_7.out⟩, ⟨by repeat (first | (with_reducible first | exact HB.out | apply below_alloc | apply pw_below_drewN | apply below_drew1) | exact HB.out)⟩⟩
                          · rw [if_neg c13] at H
                            exact absurd H (by simp)
                        · rw [if_neg c12] at H
                          exact absurd H (by simp)
                      · rw [if_neg c11] at H
                        have c11b0 : decide (x10_3 < a1) = false := decide_eq_false c11
                        clear c11
                        by_cases c20 : x9_3 < 0
                        · rw [if_pos c20] at H
                          have c20b0 : decide (x9_3 < 0) = true := decide_eq_true c20
                          clear c20
                          simp only [Option.some.injEq, Prod.mk.injEq] at H
                          obtain ⟨rfl, rfl⟩ := H
                          go_wp2
                          go_ret2
                          exact ⟨_, by first | rfl | (simp [errW_none, errW_some] <;> rfl) | (simp [*, errW_none, errW_some] <;> rfl), by first | exact Kd.R_nil _ _ _ _ _ | exact Kd.N_nil _ _ _ _ _ | exact Kd.V_nil _ _ _ _ _ | exact Kd.Q_nil _ _ _ _ _ | exact Kd.S_nil _ _ _ _ _, by repeat (first | (with_reducible first | exact HB.out | apply below_alloc | apply pw_below_drewN | apply below_drew1) | exact HB.out)⟩
                        · rw [if_neg c20] at H
                          have c20b0 : decide (x9_3 < 0) = false := decide_eq_false c20
                          clear c20
                          by_cases c21 : 0 ≤ x9_3
                          · rw [if_pos c21] at H
                            have c21b0 : decide (0 ≤ x9_3) = true := decide_eq_true c21
                            clear c21
                            by_cases c22 : x9_3 < (x6_2.length : Int)
                            · rw [if_pos c22] at H
                              have c22b0 : decide (x9_3 < (x6_2.length : Int)) = true := decide_eq_true c22
                              clear c22
                              obtain ⟨y264, hy264⟩ : ∃ y_ : List Int, y_ = (x6_2.set (x9_3 : Int).toNat (wrap64 ((rd x6_2 x9_3) + 1))) := ⟨_, rfl⟩
                              replace H : (if x7_2.length < 17592186044416 then (argosyref12_Branches.l0 k3 l0 a1 y264 (x7_2 ++ [x9_3]) (wrap64 (x8_2 + 1))) else (none)) = some (r1, r2) := by first | (rw [hy264]; with_reducible exact H) | (have H2_ := (Option.bind_some _ _).symm.trans H; rw [hy264]; with_reducible exact H2_) | (have H2_ := (Option.bind_some _ _).symm.trans H; with_reducible exact H2_) | with_reducible exact H | (rw [hy264]; exact H) | exact H
                              have Ny264 := Aside0.mk hy264
                              clear hy264
                              by_cases c24 : x7_2.length < 17592186044416
                              · rw [if_pos c24] at H
                                have LMc24 := Aside0.mk c24
                                clear c24
                                obtain ⟨y265, hy265⟩ : ∃ y_ : List Int, y_ = (x7_2 ++ [x9_3]) := ⟨_, rfl⟩
                                replace H : (argosyref12_Branches.l0 k3 l0 a1 y264 y265 (wrap64 (x8_2 + 1))) = some (r1, r2) := by first | (rw [hy265]; with_reducible exact H) | (have H2_ := (Option.bind_some _ _).symm.trans H; rw [hy265]; with_reducible exact H2_) | (have H2_ := (Option.bind_some _ _).symm.trans H; with_reducible exact H2_) | with_reducible exact H | (rw [hy265]; exact H) | exact H
                                have Ny265 := Aside0.mk hy265
                                clear hy265
                                have H' := Aside0.mk H
                                clear H
                                obtain ⟨Ao25, co25, eo25⟩ := Kd.R_slice HO_6.out
                                subst eo25
                                have p263 : 0 ≤ (x9_3 : Int) := of_decide_eq_true (by first | (with_reducible assumption) | assumption)
                                have q263 : x9_3 < (x6_2.length : Int) := of_decide_eq_true (by first | (with_reducible assumption) | assumption)
                                obtain ⟨ad263, e263, hx263_0⟩ := Kd.at_int (Kd.R_reads' HO_6.out).2.2 x9_3 p263 q263
                                cases e263
                                replace p263 := eq_true p263
                                replace q263 := eq_true q263
                                have p23 : 0 ≤ (x9_3 : Int) := of_decide_eq_true (by first | (with_reducible assumption) | assumption)
                                have q23 : (x9_3 : Int) < ((x6_2.length : Int) : Int) := of_decide_eq_true (by first | (with_reducible assumption) | assumption)
                                obtain ⟨go23, co23, eo23, gb23, gl23, cl23, HG23⟩ := Kd.R_form HO_6.out (by omega)
                                (first | cases eo23 | (injection eo23 with ea_ en_ ec_; (first | subst ea_ | (injection ea_ with ea_; subst ea_)); subst ec_; clear en_))
                                have GB23 := Aside0.mk gb23
                                have GG23 := Aside0.mk HG23
                                clear gb23 gl23 HG23
                                (first | simp only [add_plain] at hx263_0 | skip)
                                obtain ⟨hx23_0, hf23_0⟩ := Kd.R_celln 0 HO_6.out (x9_3 : Int) p23 q23
                                replace p23 := eq_true p23
                                replace q23 := eq_true q23
                                have HP26 := Kd.R_putg HO_6.out (x9_3 : Int) (wrap64 ((rd x6_2 x9_3) + 1))
                                go_wp2_with (first | ((with_reducible refine gate_store (t := 3) (p := 47) rfl ?_); refine store_event (t := 3) (p := 47) (v := ?vo_w27) (w1 := (wr.setCell ⟨go23, (x9_3 : Int).toNat, none⟩ (.int .i64 (wrap64 ((rd x6_2 x9_3) + 1))))) ?hg ?ho ?hn ?hr ?_; (case ho => rfl); (case hg => rfl); (case hn => rfl); (case hr => first | (go_simp; done) | (go_simp; rfl) | (simp only [pf_or128]; go_simp; done) | (simp only [pf_or128]; go_simp; rfl)); intro w27 hw; have hg : wr.grownBy w27 (some go23) := (by rw [hw]; exact HP26.2); have hp_ : Kd.R (Kd.int .i64) 3 w27 w.heap.size (fun k_ => some k_ ≠ (u7 : Value).ownBlock) (.slice (some ⟨go23, 0, none⟩) x6_2.length co25) y264 := (by rw [hw, Ny264.out]; exact HP26.1); clear HP26; have n0_ := Aside0.mk (hp_); have n1_ := Aside0.mk (Kd.R_after (v := (.slice (some ⟨go23, 0, none⟩) x6_2.length co25)) (v1 := (.slice (some ⟨go23, 0, none⟩) x6_2.length co25)) (ok := (fun _ => True)) (by (with_reducible repeat (first | apply Kd.R_alloc | apply Kd.R_drewN | apply Kd.R_drew)); exact Kd.R_mono HO_7.out (fun _ hk => ⟨trivial, hk⟩)) hg (.inl rfl)); have n2_ := Aside0.mk ((by rw [hw]; exact below_set (HB.out) GB23.out : Below w.heap.size w w27)); clear HO_6; clear HO_7; clear HB; have HO_6 := n0_; have HO_7 := n1_; have HB := n2_; clear n0_ n1_ n2_; clear hg hw hp_) | ((with_reducible refine gate_builtin (b := .append) (xs := #[.tmp 48, .tmp 50]) rfl ?_); at_builtin; refine Kd.R_append (Kd.int .i64) (w0 := w) w.heap.size rfl (.tmp 48) (.tmp 50) 26 3 (.int .i64 0) 8 rfl Try.underlying26 info3 rfl (by decide) (by omega) u7 x7_2 x9_3 [.int .i64 x9_3] (fun k_ => some k_ ≠ (.slice (some ⟨go23, 0, none⟩) x6_2.length co25 : Value).ownBlock) (fun _ => False) rfl rfl ?aP (fun _ hk => hk.elim) ?aF ?aO ?aB ?aS ?aL ?_; (case aP => exact rfl); (case aB => exact (by repeat (first | (with_reducible first | exact HB.out | apply below_alloc | apply pw_below_drewN | apply below_drew1) | exact HB.out))); (case aF => exact (fun k_ hk => Kd.fresh' (Kd.R_lt (by (with_reducible repeat (first | apply Kd.R_alloc | apply Kd.R_drewN | apply Kd.R_drew)); exact HO_6.out)) k_ hk)); (case aO => exact (by (with_reducible repeat (first | apply Kd.R_alloc | apply Kd.R_drewN | apply Kd.R_drew)); exact Kd.R_mono HO_7.out (fun _ hk => hk.2))); (case aS => exact (below_size (by repeat (first | (with_reducible first | exact HB.out | apply below_alloc | apply pw_below_drewN | apply below_drew1) | exact HB.out)))); (case aL => have := LMc24.out; omega); intro v266 w28 ho hb hg hat; rw [← Ny265.out] at ho; have n0_ := Aside0.mk (Kd.R_after (ok := (fun _ => True)) (by (with_reducible repeat (first | apply Kd.R_alloc | apply Kd.R_drewN | apply Kd.R_drew)); exact Kd.R_mono HO_6.out (fun _ hk => ⟨trivial, hk⟩)) hg hat); have n1_ := Aside0.mk (hb); have n2_ := Aside0.mk (ho); clear HO_6; clear HB; clear HO_7; have HO_6 := n0_; have HB := n1_; have HO267 := n2_; clear n0_ n1_ n2_; clear ho hb hg hat))
                                go_roundg k3
                                case measure => have := HJ2.out; have := HK2.out; have := HK3.out; omega
                                case rel => exact ⟨(y264), (y265), (wrap64 (x8_2 + 1)), (by first | rfl | (simp; done) | (simp [*]; done)), H', ⟨by have := HJ2.out; have := HK2.out; have := HK3.out; omega⟩, ⟨by (with_reducible repeat (first | apply Kd.R_alloc | apply Kd.R_drewN | apply Kd.R_drew)); exact Kd.R_mono HO_6.out (fun _ hk => hk.2)⟩, ⟨by (with_reducible repeat (first | apply Kd.R_alloc | apply Kd.R_drewN | apply Kd.R_drew)); exact HO267.out⟩, ⟨by repeat (first | (with_reducible first | exact HB.out | apply below_alloc | apply pw_below_drewN | apply below_drew1) | exact HB.out)⟩⟩
                              · rw [if_neg c24] at H
                                exact absurd H (by simp)
                            · rw [if_neg c22] at H
                              exact absurd H (by simp)
                          · rw [if_neg c21] at H
                            exact absurd H (by simp)
                · rw [if_neg c10] at H
                  have c10b0 : decide (x8_2 < (l0.length : Int)) = false := decide_eq_false c10
                  clear c10
                  simp only [Option.some.injEq, Prod.mk.injEq] at H
                  obtain ⟨rfl, rfl⟩ := H
                  go_wp2
                  go_ret2
                  exact ⟨_, by first | rfl | (simp [errW_none, errW_some] <;> rfl) | (simp [*, errW_none, errW_some] <;> rfl), by (with_reducible repeat (first | apply Kd.R_alloc | apply Kd.R_drewN | apply Kd.R_drew)); exact Kd.R_mono HO_7.out (fun _ hk => trivial), by repeat (first | (with_reducible first | exact HB.out | apply below_alloc | apply pw_below_drewN | apply below_drew1) | exact HB.out)⟩
          · rw [if_neg c7] at H
            exact absurd H (by simp)
        · rw [if_neg c6] at H
          exact absurd H (by simp)

/-! ### argosyref12_Split: function 17 -/
section
open Go.Shelf
attribute [local go_sem] Oper.semAt_some
/-- The loop's state of the document's split: b the events' branches (a row of the call's own), out the rows. -/
structure RInv (P0_ : Nat → Prop) (w : World) (vb : Value) (b : List Int) (ob cap2 n : Nat) (vs : List SV) (rows : List (List S45)) (W : World) : Prop where
  vl : vs.length = n
  rl : rows.length = n
  had : Kd.R (Kd.int .i64) 3 W w.heap.size (fun k => some k = vb.ownBlock) vb b
  out : Kd.R kSV 25 W w.heap.size (fun k => k = ob) (.slice (some ⟨ob, 0, none⟩) vs.length cap2) vs
  row : ∀ (i : Nat) (s : SV) (xs : List S45), vs[i]? = some s → rows[i]? = some xs → rowS P0_ w.heap.size W (encSV s) xs
  apart : ∀ (i j : Nat) (s t : SV) (b : Nat), i ≠ j → vs[i]? = some s → vs[j]? = some t → (encSV s).ownBlock = some b → (encSV t).ownBlock ≠ some b
  away : ∀ (i : Nat) (s : SV) (b : Nat), vs[i]? = some s → (encSV s).ownBlock = some b → vb.ownBlock ≠ some b ∧ b ≠ ob
  below : Below w.heap.size w W
theorem RInv_N {P0_ : Nat → Prop} {w : World} {vb : Value} {b : List Int} {ob cap2 n : Nat} {vs : List SV} {rows : List (List S45)} {W : World} (h : RInv P0_ w vb b ob cap2 n vs rows W) :
    Kd.N (Kd.slice 45 k45) 25 W w.heap.size (fun k_ => P0_ k_ ∨ w.heap.size ≤ k_) (.slice (some ⟨ob, 0, none⟩) vs.length cap2) rows := by
  have hob : w.heap.size ≤ ob := Kd.R_base h.out ob rfl
  obtain ⟨h0, rv, hl, hR, hf⟩ := Kd.R_N h.out
  refine ⟨fun k e => .inr (Kd.R_base h.out k e), rv, by rw [hl, h.vl, h.rl], hR, fun j xs c hx hc => ?_⟩
  have hj : j < vs.length := by
    have := (List.getElem?_eq_some_iff.1 hx).1
    have := h.vl
    have := h.rl
    omega
  have hs : vs[j]? = some vs[j] := List.getElem?_eq_getElem hj
  have hr := h.row j _ xs hs hx
  obtain ⟨A, c', e⟩ := rowS_slice hr
  have hK := Kd.FK_now (hf j _ c hs hc)
  have hc2 : c = [.slice A xs.length c'] := by rw [← e]; exact hK
  rw [hc2]
  have hN := rowS_N hr (fun k => (P0_ k ∨ w.heap.size ≤ k) ∧ some k ≠ (Value.slice (some ⟨ob, 0, none⟩) vs.length cap2).ownBlock) (fun k hk => by
    rcases hk with hk | hk
    · refine ⟨.inl hk.1, fun e2 => ?_⟩
      have : k = ob := by simpa [Value.ownBlock] using e2
      omega
    · refine ⟨.inr (rowS_base hr k hk).1, fun e2 => ?_⟩
      have : k = ob := by simpa [Value.ownBlock] using e2
      exact (h.away j _ k hs hk).2 this)
  rw [e] at hN
  have hV := Kd.N_V (base' := 0) hN
  exact Kd.FK_slice_mk (Kd.V_at hV).2.1 (Kd.V_at hV).2.2
theorem RInv_below {P0_ : Nat → Prop} {w : World} {vb : Value} {b : List Int} {ob cap2 n : Nat} {vs : List SV} {rows : List (List S45)} {W W1 : World} (h : RInv P0_ w vb b ob cap2 n vs rows W) (hb : Below W.heap.size W W1) : RInv P0_ w vb b ob cap2 n vs rows W1 :=
  ⟨h.vl, h.rl, Kd.R_below h.had hb, Kd.R_below h.out hb, fun i s xs hs hx => rowS_step (h.row i s xs hs hx) (fun k _ hlt => hb.block k hlt), h.apart, h.away, h.below.trans (hb.mono h.below.size)⟩
theorem RInv_app {P0_ : Nat → Prop} {w : World} {vb : Value} {b : List Int} {ob cap2 n : Nat} {vs : List SV} {rows : List (List S45)} {W w1 : World} (h : RInv P0_ w vb b ob cap2 n vs rows W) (hgob : vb.ownBlock ≠ some ob) (hob : w.heap.size ≤ ob) (o : Int) (s s1 : SV) (xs1 : List S45) (hs : vs[o.toNat]? = some s)
    (hr1 : rowS P0_ w.heap.size w1 (encSV s1) xs1) (hb1 : Below w.heap.size w w1) (hg1 : W.grownBy w1 (encSV s).ownBlock) (hat : (encSV s1).ownBlock = (encSV s).ownBlock ∨ ∃ b, (encSV s1).ownBlock = some b ∧ W.heap.size ≤ b) :
    RInv P0_ w vb b ob cap2 n (vs.set o.toNat s1) (rows.set o.toNat xs1) (w1.setCell ⟨ob, o.toNat, none⟩ (encSV s1)) := by
  have hsg : ∀ k, (encSV s).ownBlock = some k → vb.ownBlock ≠ some k ∧ k ≠ ob := fun k e => h.away _ s k hs e
  have hglt : ∀ k, vb.ownBlock = some k → k < W.heap.size := fun k e => Kd.R_lt h.had k e
  have hoblt : ob < W.heap.size := Kd.R_lt h.out ob rfl
  have hs1 : ∀ k, (encSV s1).ownBlock = some k → vb.ownBlock ≠ some k ∧ k ≠ ob := fun k e => by
    rcases hat with hat | ⟨b, hb, hle⟩
    · exact hsg k (hat ▸ e)
    · rw [hb] at e
      obtain rfl := Option.some.inj e
      exact ⟨fun e2 => by have := hglt _ e2; omega, by omega⟩
  have hH1 := Kd.R_grown h.had hg1 (fun k hk e => (hsg k e.symm).1 hk.symm)
  have hO1 := Kd.R_grown h.out hg1 (fun k hk e => (hsg k e.symm).2 hk)
  obtain ⟨hO2, hgr⟩ := Kd.R_put hO1 o s1
  have far : ∀ k, k ≠ ob → k < w1.heap.size → (w1.setCell ⟨ob, o.toNat, none⟩ (encSV s1)).heap[k]? = w1.heap[k]? := fun k hk hlt => hgr.block k hlt (fun e => hk (Option.some.inj e))
  have hrl : ∀ (i : Nat) (t : SV) (k : Nat), vs[i]? = some t → (encSV t).ownBlock = some k → w.heap.size ≤ k ∧ k < W.heap.size := by
    intro i t k ht e
    have hi : i < vs.length := (List.getElem?_eq_some_iff.1 ht).1
    have h2 := h.vl
    have h3 := h.rl
    exact rowS_base (h.row i t rows[i] ht (List.getElem?_eq_getElem (by omega))) k e
  have set_at : ∀ {β : Type} (l : List β) (i : Nat) (y t : β), (l.set o.toNat y)[i]? = some t → (i = o.toNat ∧ t = y) ∨ (i ≠ o.toNat ∧ l[i]? = some t) := by
    intro β l i y t ht
    rw [List.getElem?_set] at ht
    by_cases hi : o.toNat = i
    · rw [if_pos hi] at ht
      split at ht
      · exact .inl ⟨hi.symm, (Option.some.inj ht).symm⟩
      · cases ht
    · rw [if_neg hi] at ht
      exact .inr ⟨fun e => hi e.symm, ht⟩
  refine ⟨by rw [List.length_set]; exact h.vl, by rw [List.length_set]; exact h.rl, Kd.R_step hH1 (fun k hk hlt => far k (fun e => hgob (by rw [← e]; exact hk.symm)) hlt), by rw [List.length_set]; exact hO2, ?_, ?_, ?_, hb1.grown hgr hb1.size (fun k e => by cases e; exact hob)⟩
  · intro i t xs ht hx
    rcases set_at _ _ _ _ ht with ⟨hi, rfl⟩ | ⟨hi, ht⟩
    · rcases set_at _ _ _ _ hx with ⟨_, rfl⟩ | ⟨hi2, _⟩
      · refine rowS_step hr1 (fun k hk hlt => far k ?_ hlt)
        rcases hk with hk | hk
        · omega
        · exact (hs1 k hk).2
      · exact absurd hi hi2
    · rcases set_at _ _ _ _ hx with ⟨hi2, _⟩ | ⟨_, hx⟩
      · exact absurd hi2 hi
      · refine rowS_step (rowS_step (h.row i t xs ht hx) (fun k hk hlt => hg1.block k hlt (fun e => ?_))) (fun k hk hlt => far k ?_ hlt)
        · rcases hk with hk | hk
          · have := (hrl _ s k hs e.symm).1
            omega
          · exact h.apart i o.toNat t s k hi ht hs hk e.symm
        · rcases hk with hk | hk
          · omega
          · exact (h.away i t k ht hk).2
  · intro i j t u b hij ht hu e
    rcases set_at _ _ _ _ ht with ⟨hi, rfl⟩ | ⟨hi, ht⟩
    · rcases set_at _ _ _ _ hu with ⟨hj, rfl⟩ | ⟨hj, hu⟩
      · exact absurd (hi.trans hj.symm) hij
      · intro e2
        have h5 := (hrl _ _ _ hu e2).2
        rcases hat with hat | ⟨b', hb', hle⟩
        · exact h.apart o.toNat j s u b (fun e => hj e.symm) hs hu (hat ▸ e) e2
        · rw [hb'] at e
          obtain rfl := Option.some.inj e
          omega
    · rcases set_at _ _ _ _ hu with ⟨hj, hq⟩ | ⟨hj, hu⟩
      · intro e2
        rw [hq] at e2
        have h5 := (hrl _ _ _ ht e).2
        rcases hat with hat | ⟨b', hb', hle⟩
        · exact h.apart i o.toNat t s b hi ht hs e (hat ▸ e2)
        · rw [hb'] at e2
          obtain rfl := Option.some.inj e2
          omega
      · exact h.apart i j t u b hij ht hu e
  · intro i t b ht e
    rcases set_at _ _ _ _ ht with ⟨hi, rfl⟩ | ⟨hi, ht⟩
    · exact hs1 b e
    · exact h.away i t b ht e
/-- Each event to its branch's row. -/
def refM (b : List Int) : List S45 → Nat → List (List S45) → Option (List (List S45))
  | [], _, rows => some rows
  | e :: es, j, rows => if j < b.length ∧ 0 ≤ rd b (j : Int) ∧ (rd b (j : Int)).toNat < rows.length then if (rowsAt rows (rd b (j : Int))).length < 2932031007402 then refM b es (j + 1) (rows.set (rd b (j : Int)).toNat (rowsAt rows (rd b (j : Int)) ++ [e])) else none else none
def refF (k : Nat) (l0 : List S45) (n : Int) : Option (List (List S45) × Int) :=
  (argosyref12_Branches.f k l0 n).bind fun p => if p.2 = true then (if 1 ≤ n ∧ n ≤ 64 then (refM p.1 l0 0 (List.replicate n.toNat [])).bind fun rows => some (rows, 0) else none) else some ([], 2)
end
section
open Go.Shelf
attribute [local go_sem] Oper.semAt_some
def ref_Split.T9 : Bool × List (List Nat × List Nat) := (true, [([], []), ([], []), ([], []), ([], []), ([2, 3], [2, 3]), ([4], [4]), ([], []), ([], []), ([6, 7], [6, 7]), ([8], [8]), ([9], [9]), ([5, 10], [5, 10]), ([0, 1, 0, 1, 2, 3, 4, 5, 6, 7, 8, 9, 10, 11], [0, 1]), ([12, 11, 11, 0, 1, 2, 3, 4, 5, 6, 7, 8, 9, 10, 11], [11, 12])])
def ref_Split.B9 : List Nat := [0, 0, 0, 0, 12, 28, 0, 0, 192, 448, 960, 2044, 4095, 8191]
theorem ref_Split.tab9 : rtab .any (opsOf Try.f17 9) = ref_Split.T9 := by kernel_rfl
theorem ref_Split.bits9 : waitsOk ref_Split.T9.2 ref_Split.B9 = true := by kernel_rfl
set_option maxRecDepth 100000 in
set_option maxHeartbeats 4000000 in
theorem own_RefSplit (k : Nat) (P0_ : Nat → Prop) (A0 : Option Addr) (c0 : Nat) (l0 : List S45) (n : Int) (r1 : List (List S45)) (r2 : Int) (w : World) (hs0 : Kd.V k45 45 w w.heap.size (fun k_ => P0_ k_) (.slice A0 l0.length c0) l0) (h : refF k l0 n = some (r1, r2)) :
    Calls Try.prog 17 #[.slice A0 l0.length c0, .int .i64 n] w fun e w' => ∃ v0_ : Value, e = .returned (.tuple #[v0_, .int .i64 r2]) ∧ Kd.N (Kd.slice 45 k45) 25 w' w.heap.size (fun k_ => P0_ k_ ∨ w.heap.size ≤ k_) v0_ r1 ∧ Below w.heap.size w w' := by
  have HV := Aside0.mk hs0
  have hcL := (Kd.V_at hs0).2.1
  have hCL := (Kd.V_reads' hs0).2.2
  unfold refF at h
  obtain ⟨⟨b, ok⟩, hB, h⟩ := Option.bind_eq_some_iff.mp h
  have HBr := Aside0.mk hB
  have HCL := Aside0.mk hCL
  have HLC := Aside0.mk hcL
  clear hs0 hB hCL hcL
  cases ok with
  | false =>
    rw [if_neg (by simp)] at h
    simp only [Option.some.injEq, Prod.mk.injEq] at h
    obtain ⟨rfl, rfl⟩ := h
    go_enter Try.func17, Try.ntmps17
    go_wp2_with (go_at_call 29; (with_reducible refine (argosyref12_Branches.calls k _ _ l0 n b false _ ?s1 HLC.out HBr.out).mono ?_); (case s1 => repeat (first | exact HCL.out | (with_reducible refine Kd.C_drewN ?_ _) | (with_reducible refine Kd.C_drew ?_))); rintro e w' ⟨v0, rfl, hoB, hb⟩; have HB := Aside0.mk hb; clear hb hoB)
    go_ret2
    exact ⟨_, rfl, Kd.N_nil _ _ _ _ _, HB.out⟩
  | true =>
    rw [if_pos rfl] at h
    by_cases hn : 1 ≤ n ∧ n ≤ 64
    · rw [if_pos hn] at h
      obtain ⟨R, hR, h⟩ := Option.bind_eq_some_iff.mp h
      simp only [Option.some.injEq, Prod.mk.injEq] at h
      obtain ⟨rfl, rfl⟩ := h
      have HP := Aside0.mk hR
      clear hR
      go_enter Try.func17, Try.ntmps17
      go_wp2_with (first | (go_at_call 29; (with_reducible refine (argosyref12_Branches.calls k _ _ l0 n b true _ ?s1 HLC.out HBr.out).mono ?_); (case s1 => repeat (first | exact HCL.out | (with_reducible refine Kd.C_drewN ?_ _) | (with_reducible refine Kd.C_drew ?_))); rintro e w1 ⟨v0, rfl, hoB, hb⟩; obtain ⟨Ab, cb, rfl⟩ := Kd.R_slice hoB; have HO := Aside0.mk hoB; have HB := Aside0.mk hb; clear hb hoB) | ((with_reducible refine gate_dst (N := 20) rfl ?_); refine Kd.R_make kSV (w0 := w) w.heap.size 25 rfl (N := 20) rfl 22 _ _ rfl n rfl rfl Try.underlying22 (.slice none 0 0) 24 info25S rfl (by decide) (by omega) ((none, 0, 0) : SV) (ok := fun _ => True) (okp := fun _ => True) rfl (fun _ hk => hk) trivial ?n1 ?n2 ?n3 ?n4 ?_; (case n1 => omega); (case n2 => omega); (case n3 => exact HB.out); (case n4 => exact HB.out.size); intro v2 w2 ho2 hb2 hgr2 hnew2; obtain ⟨ob, cap2, rfl, ho1, ho3, ho4⟩ := Kd.R_form ho2 (by simp; omega); have HO2 := Aside0.mk ho2; have HB2 := Aside0.mk hb2; have HG2 := Aside0.mk hgr2; have HN2 := Aside0.mk hnew2; clear ho2 hb2 hgr2 hnew2 ho4))
      have hgob : (Value.slice Ab b.length cb).ownBlock ≠ some ob := by
        intro e
        obtain ⟨q, hb1, hb2⟩ := HN2.out
        have : ob = q := by simpa [Value.ownBlock] using hb1
        have := Kd.R_lt (Kd.R_of_own (h1 := fun _ => rfl) (Kd.own_of_R HO.out) (fun _ hk => hk)) ob e
        omega
      have hI0 : RInv P0_ w (.slice Ab b.length cb) b ob cap2 n.toNat (List.replicate n.toNat ((none, 0, 0) : SV)) (List.replicate n.toNat []) w2 := by
        refine ⟨by simp, by simp, ?_, ?_, ?_, ?_, ?_, HB2.out⟩
        · exact Kd.R_of_own (h1 := fun _ => rfl) (Kd.own_of_R (Kd.R_grown HO.out HG2.out (fun k _ e => by cases e))) (fun k e => e.symm)
        · exact Kd.R_of_own (h1 := fun _ => rfl) (Kd.own_of_R HO2.out) (fun k e => by simp [Value.ownBlock] at e; exact e.symm)
        · intro i s xs hs hx
          rw [List.getElem?_replicate] at hs hx
          split at hs
          · rename_i hlt
            rw [if_pos hlt] at hx
            obtain rfl := Option.some.inj hs
            obtain rfl := Option.some.inj hx
            exact rowS_nil _ _ _
          · cases hs
        · intro i j s t b _ hs _ e
          rw [List.getElem?_replicate] at hs
          split at hs
          · obtain rfl := Option.some.inj hs
            simp [encSV, Value.ownBlock] at e
          · cases hs
        · intro i s b hs e
          rw [List.getElem?_replicate] at hs
          split at hs
          · obtain rfl := Option.some.inj hs
            simp [encSV, Value.ownBlock] at e
          · cases hs
      have HI0 := Aside0.mk hI0
      clear HO HB HO2 HB2 HG2 HN2 hI0 ho3
      go_loopg [9] l0.length (fun d v9 wx => ∃ (j : Nat) (vs : List SV) (rows : List (List S45)), v9 = .int .i64 (j : Int) ∧ j + d = l0.length ∧ Aside0 (refM b (l0.drop j) j rows = some R) ∧ Aside0 (RInv P0_ w (.slice Ab b.length cb) b ob cap2 n.toNat vs rows wx))
      case atStart => exact ⟨0, _, _, rfl, by omega, HP, HI0⟩
      case round =>
        clear HP HI0
        obtain ⟨j, vs, rows, rfl, hj, HP, HI⟩ := hrel
        by_cases hlt : j < l0.length
        · obtain ⟨d, rfl⟩ : ∃ d, gk = d + 1 := ⟨gk - 1, by omega⟩
          have hp := HP.out
          rw [List.drop_eq_getElem_cons hlt] at hp
          simp only [refM] at hp
          have hx : l0[j] = rd_T45 l0 (j : Int) := by unfold rd_T45; rw [List.getD_eq_getElem?_getD, Int.toNat_natCast, List.getElem?_eq_getElem hlt]; rfl
          rw [hx] at hp
          by_cases hok : j < b.length ∧ 0 ≤ rd b (j : Int) ∧ (rd b (j : Int)).toNat < rows.length
          · rw [if_pos hok] at hp
            obtain ⟨hjb, hob0, hob1⟩ := hok
            obtain ⟨ad, A3, c3, e1, j0, j1, j2, j3, hl3, hC3, hFx⟩ := ev1_at (Kd.V_old HV.out (Below.refl _ _)) (j : Int) (by omega) (by omega)
            have HFX := Aside0.mk hFx
            clear hFx hC3
            generalize rd_T45 l0 (j : Int) = x at *
            subst e1
            have k0 := cell_b HI.out.below j0
            have k1 := cell_b HI.out.below j1
            have k2 := cell_b HI.out.below j2
            have k3 := cell_b HI.out.below j3
            rw [Int.toNat_natCast] at k0 k1 k2 k3
            obtain ⟨adb, eb, hcb⟩ := Kd.at_int (Kd.R_reads' HI.out.had).2.2 (j : Int) (by omega) (by omega)
            subst eb
            rw [Int.toNat_natCast] at hcb
            generalize ho : rd b (j : Int) = o at *
            split at hp
            case isFalse => cases hp
            case isTrue hol =>
            have hrl := HI.out.rl
            have HP2 := Aside0.mk hp
            have HOL := Aside0.mk hol
            have HOR := Aside0.mk (show o < (n.toNat : Int) by omega)
            have HNEG := Aside0.mk hob0
            have hb1 : decide ((j : Int) < (l0.length : Int)) = true := decide_eq_true (by omega)
            have hb2 : decide (j < l0.length) = true := decide_eq_true hlt
            have i0 := eq_true (show (0 : Int) ≤ (j : Int) by omega)
            have i1 := eq_true (show (j : Int) < (l0.length : Int) by omega)
            have i2 := eq_true (show (j : Int) < (b.length : Int) by omega)
            have o1 := eq_true hob0
            have o2 := eq_true (show o < max n 0 by omega)
            clear hp hol hx HP j0 j1 j2 j3 hob0 hob1 hjb hrl ho
            go_wp2
            have hI4 := RInv_below HI.out (below_drew1 (Below.refl _ _))
            have hF4 := Kd.FK_below HFX.out hI4.below
            obtain ⟨s, hs⟩ : ∃ s, vs[o.toNat]? = some s := ⟨_, List.getElem?_eq_getElem (by have := HOR.out; have := HNEG.out; have := HI.out.vl; omega)⟩
            have hrx : rows[o.toNat]? = some (rowsAt rows o) := by
              have : o.toNat < rows.length := by have := HOR.out; have := HNEG.out; have := HI.out.rl; omega
              unfold rowsAt
              rw [List.getD_eq_getElem?_getD, List.getElem?_eq_getElem this]; rfl
            have hrw := hI4.row o.toNat s _ hs hrx
            have hown : ∀ k, (encSV s).ownBlock = some k → w.heap.size ≤ k := fun k e => (rowS_base hrw k e).1
            obtain ⟨rw0, hl0, hR0, hFR⟩ := hrw
            have hs0 := (Kd.R_cell ((none, 0, 0) : SV) hI4.out o (by have := HNEG.out; omega) (by have := HOR.out; have := HI.out.vl; omega)).1
            have hrd : rdOf ((none, 0, 0) : SV) vs o = s := by unfold rdOf; rw [List.getD_eq_getElem?_getD, hs]; rfl
            rw [hrd] at hs0
            have hs0 : wr.drew.cell? ⟨ob, o.toNat, none⟩ = some (.slice s.1 s.2.1 s.2.2) := hs0
            have HB4 := Aside0.mk hI4.below
            have HI4 := Aside0.mk hI4
            have HF4 := Aside0.mk hF4
            have HS := Aside0.mk hs
            have HOWN := Aside0.mk hown
            have HL0 := Aside0.mk hl0
            have HR0 := Aside0.mk hR0
            have HFR := Aside0.mk hFR
            clear hI4 hF4 hs hown hl0 hR0 hFR hrx hrd HI HFX
            refine start_ (n := 14) (S := fun w' => w'.cell? ⟨ob, o.toNat, none⟩ = some (.slice s.1 s.2.1 s.2.2) ∧ w'.cell? (ad.add (j * 4)) = some (.int .i64 x.f0) ∧ w'.cell? ⟨(ad.add (j * 4)).block, (ad.add (j * 4)).off + 1, none⟩ = some (.int .i64 x.f1) ∧ w'.cell? ⟨(ad.add (j * 4)).block, (ad.add (j * 4)).off + 2, none⟩ = some (.int .i64 x.f2) ∧ w'.cell? ⟨(ad.add (j * 4)).block, (ad.add (j * 4)).off + 3, none⟩ = some (.slice A3 x.f3.length c3)) (ds := [11, 13]) #[false, false, false, false, false, false, false, false, false, false, false, false, false, false] (by kernel_rfl) rfl rfl ⟨hs0, k0, k1, k2, k3⟩ (fun hHeld => ?_)
            refine with_tabW ref_Split.tab9 ref_Split.bits9 (fun HT_ HW_ => ?_)
            refine pure_ (i := 0) (N := some 31) (v := ?_) (a' := ?_) #[true, false, false, false, false, false, false, false, false, false, false, false, false, false] rfl rfl (any_of HT_.out (by kernel_rfl)) (fun _ _ _ h => h) (Or.inl ⟨by rfl, ?_⟩) ?_ ?_
            rotate_left
            · intro w'
              go_simp
              with_reducible rfl
            rotate_left
            · simp only [Act.put, List.setIfInBounds_toArray, List.set_cons_zero, List.set_cons_succ, i64_w, i32_w, IntKind.wrap_u8, IntKind.wrap_u32]
              rfl
            refine pure_ (i := 1) (N := some 32) (v := ?_) (a' := ?_) #[true, true, false, false, false, false, false, false, false, false, false, false, false, false] rfl rfl (any_of HT_.out (by kernel_rfl)) (fun _ _ _ h => h) (Or.inl ⟨by rfl, ?_⟩) ?_ ?_
            rotate_left
            · intro w'
              go_simp
              with_reducible rfl
            rotate_left
            · simp only [Act.put, List.setIfInBounds_toArray, List.set_cons_zero, List.set_cons_succ, i64_w, i32_w, IntKind.wrap_u8, IntKind.wrap_u32]
              rfl
            refine pure_ (i := 2) (N := some 33) (v := ?_) (a' := ?_) #[true, true, true, false, false, false, false, false, false, false, false, false, false, false] rfl rfl (any_of HT_.out (by kernel_rfl)) (fun _ _ _ h => h) (Or.inl ⟨by rfl, ?_⟩) ?_ ?_
            rotate_left
            · intro w'
              go_simp
              with_reducible rfl
            rotate_left
            · simp only [Act.put, List.setIfInBounds_toArray, List.set_cons_zero, List.set_cons_succ, i64_w, i32_w, IntKind.wrap_u8, IntKind.wrap_u32]
              rfl
            refine pure_ (i := 3) (N := some 34) (v := ?_) (a' := ?_) #[true, true, true, true, false, false, false, false, false, false, false, false, false, false] rfl rfl (any_of HT_.out (by kernel_rfl)) (fun _ _ _ h => h) (Or.inl ⟨by rfl, ?_⟩) ?_ ?_
            rotate_left
            · intro w'
              go_simp
              with_reducible rfl
            rotate_left
            · simp only [Act.put, List.setIfInBounds_toArray, List.set_cons_zero, List.set_cons_succ, i64_w, i32_w, IntKind.wrap_u8, IntKind.wrap_u32]
              rfl
            refine pure_ (i := 4) (N := some 35) (v := ?_) (a' := ?_) #[true, true, true, true, true, false, false, false, false, false, false, false, false, false] rfl rfl (any_of HT_.out (by kernel_rfl)) (fun _ _ _ h => h) (Or.inl ⟨by rfl, ?_⟩) ?_ ?_
            rotate_left
            · intro w'
              go_simp
              with_reducible rfl
            rotate_left
            · simp only [Act.put, List.setIfInBounds_toArray, List.set_cons_zero, List.set_cons_succ, i64_w, i32_w, IntKind.wrap_u8, IntKind.wrap_u32]
              rfl
            refine pure_ (i := 6) (N := some 37) (v := ?_) (a' := ?_) #[true, true, true, true, true, false, true, false, false, false, false, false, false, false] rfl rfl (any_of HT_.out (by kernel_rfl)) (fun _ _ _ h => h) (Or.inl ⟨by rfl, ?_⟩) ?_ ?_
            rotate_left
            · intro w'
              go_simp
              with_reducible rfl
            rotate_left
            · simp only [Act.put, List.setIfInBounds_toArray, List.set_cons_zero, List.set_cons_succ, i64_w, i32_w, IntKind.wrap_u8, IntKind.wrap_u32]
              rfl
            refine pure_ (i := 7) (N := some 38) (v := ?_) (a' := ?_) #[true, true, true, true, true, false, true, true, false, false, false, false, false, false] rfl rfl (any_of HT_.out (by kernel_rfl)) (fun _ _ _ h => h) (Or.inl ⟨by rfl, ?_⟩) ?_ ?_
            rotate_left
            · intro w'
              go_simp
              with_reducible rfl
            rotate_left
            · simp only [Act.put, List.setIfInBounds_toArray, List.set_cons_zero, List.set_cons_succ, i64_w, i32_w, IntKind.wrap_u8, IntKind.wrap_u32]
              rfl
            refine pure_ (i := 8) (N := some 39) (v := ?_) (a' := ?_) #[true, true, true, true, true, false, true, true, true, false, false, false, false, false] rfl rfl (any_of HT_.out (by kernel_rfl)) (fun _ _ _ h => h) (Or.inl ⟨by rfl, ?_⟩) ?_ ?_
            rotate_left
            · intro w'
              go_simp
              with_reducible rfl
            rotate_left
            · simp only [Act.put, List.setIfInBounds_toArray, List.set_cons_zero, List.set_cons_succ, i64_w, i32_w, IntKind.wrap_u8, IntKind.wrap_u32]
              rfl
            refine take_ (i := 5) (N := some 36) (v := ?_) (a' := ?_) #[true, true, true, true, true, true, true, true, true, false, false, false, false, false] rfl rfl (take_ofW HT_.out HW_.out (by kernel_rfl)) (fun _ _ _ h => h) (Or.inl ⟨by rfl, ?_⟩) hHeld ?_ ?_
            rotate_left
            · rintro w' ⟨s0, s1, s2, s3, s4⟩
              go_simp
              with_reducible rfl
            rotate_left
            · simp only [Act.put, List.setIfInBounds_toArray, List.set_cons_zero, List.set_cons_succ, i64_w, i32_w, IntKind.wrap_u8, IntKind.wrap_u32]
              rfl
            refine take_ (i := 9) (N := some 40) (v := ?_) (a' := ?_) #[true, true, true, true, true, true, true, true, true, true, false, false, false, false] rfl rfl (take_ofW HT_.out HW_.out (by kernel_rfl)) (fun _ _ _ h => h) (Or.inl ⟨by rfl, ?_⟩) hHeld ?_ ?_
            rotate_left
            · rintro w' ⟨s0, s1, s2, s3, s4⟩
              go_simp
              with_reducible rfl
            rotate_left
            · simp only [Act.put, List.setIfInBounds_toArray, List.set_cons_zero, List.set_cons_succ, i64_w, i32_w, IntKind.wrap_u8, IntKind.wrap_u32]
              rfl
            refine one_ (i := 10) (N := some 41) #[true, true, true, true, true, true, true, true, true, true, true, false, false, false] rfl rfl (one_of HT_.out (by kernel_rfl)) (by decide) (fun K hK => ?_)
            refine value_ (w1 := ?_) (v := ?_) (by rfl) rfl ?_ ?_
            rotate_left 2
            · go_simp
              constructor
              · rfl
              · rfl
            refine hK.out _ _ ⟨(World.cell?_alloc_lt _ _ _ (World.block_lt_of_cell? _ _ (hHeld.1))).trans (hHeld.1), (World.cell?_alloc_lt _ _ _ (World.block_lt_of_cell? _ _ (hHeld.2.1))).trans (hHeld.2.1), (World.cell?_alloc_lt _ _ _ (World.block_lt_of_cell? _ _ (hHeld.2.2.1))).trans (hHeld.2.2.1), (World.cell?_alloc_lt _ _ _ (World.block_lt_of_cell? _ _ (hHeld.2.2.2.1))).trans (hHeld.2.2.2.1), (World.cell?_alloc_lt _ _ _ (World.block_lt_of_cell? _ _ (hHeld.2.2.2.2))).trans (hHeld.2.2.2.2)⟩ (fun hHeld => ?_)
            clear hK K
            refine norm_ (a' := ?_) ?_ ?_
            rotate_left
            · show Act.put _ (some 41) _ = _
              simp only [Act.put, List.setIfInBounds_toArray, List.set_cons_zero, List.set_cons_succ, i64_w, i32_w, IntKind.wrap_u8, IntKind.wrap_u32]
              rfl
            refine last_ (i := 11) (N := some 42) #[true, true, true, true, true, true, true, true, true, true, true, true, false, false] rfl rfl (one_of HT_.out (by kernel_rfl)) (by decide) (fun K hK => ?_)
            refine Kd.R_append_step (Kd.raw k45.sz) (w0 := w) w.heap.size (by rfl) (.tmp 36) (.tmp 41) 25 45 (.agg #[(.int .i64 0), (.int .i64 0), (.int .i64 0), (.slice none 0 0)]) 48 rfl Try.underlying25 info45 rfl (by decide) (by omega) (encSV s) rw0 [.int .i64 x.f0, .int .i64 x.f1, .int .i64 x.f2, .slice A3 x.f3.length c3] [.int .i64 x.f0, .int .i64 x.f1, .int .i64 x.f2, .slice A3 x.f3.length c3] (fun _ => True) (fun _ => False) rfl rfl (Kd.FK_raw HF4.out) (fun _ hk => hk.elim) (fun _ _ => trivial) (Kd.raw_any HR0.out) HB4.out HB4.out.size (by have := HOL.out; have := HL0.out; omega) ?_
            intro v1 w1 hr1 hb1 hg1 hat1
            obtain ⟨A1, c1, rfl⟩ := Kd.R_slice hr1
            have HRW := Aside0.mk (rowS_appended HL0.out HFR.out HF4.out HB4.out.size HOWN.out hr1 hg1)
            have HB5 := Aside0.mk hb1
            have HG5 := Aside0.mk hg1
            have HAT := Aside0.mk hat1
            have HO5 := Kd.R_cell ((none, 0, 0) : SV) (Kd.R_grown HI4.out.out HG5.out (fun k hk e => (HI4.out.away o.toNat s k HS.out e.symm).2 hk)) o (by have := HNEG.out; omega) (by have := HOR.out; have := HI4.out.vl; omega)
            have cO5 := HO5.1
            have fO5 := HO5.2
            clear HO5 hr1 hb1 hg1 hat1
            refine hK.out _ _ ?_
            clear hK K
            refine norm_ (a' := ?_) ?_ ?_
            rotate_left
            · show Act.put _ (some 42) _ = _
              simp only [Act.put, List.setIfInBounds_toArray, List.set_cons_zero, List.set_cons_succ, i64_w, i32_w, IntKind.wrap_u8, IntKind.wrap_u32]
              rfl
            refine pure_ (i := 12) (N := some 43) (v := ?_) (a' := ?_) #[true, true, true, true, true, true, true, true, true, true, true, true, true, false] rfl rfl (any_of HT_.out (by kernel_rfl)) (fun _ _ _ h => h) (Or.inl ⟨by rfl, ?_⟩) ?_ ?_
            rotate_left
            · intro w'
              go_simp
              with_reducible rfl
            rotate_left
            · simp only [Act.put, List.setIfInBounds_toArray, List.set_cons_zero, List.set_cons_succ, i64_w, i32_w, IntKind.wrap_u8, IntKind.wrap_u32]
              rfl
            refine last_ (i := 13) (N := none) #[true, true, true, true, true, true, true, true, true, true, true, true, true, true] rfl rfl (one_of HT_.out (by kernel_rfl)) (by decide) (fun K hK => ?_)
            refine skip_ (w1 := ?_) (by rfl) rfl ?_ ?_
            rotate_left
            · go_simp
              rfl
            refine hK.out _ _ ?_
            clear hK K
            refine done_ (done_of HT_.out (by kernel_rfl)) ?_
            have hRW := HRW.out
            have hAT := HAT.out
            rw [List.length_append] at hRW hAT
            have hI6 := RInv_app HI4.out hgob ho1 o s (A1, rw0.length + 1, c1) (rowsAt rows o ++ [x]) HS.out hRW HB5.out HG5.out hAT
            have HI6 := Aside0.mk hI6
            have HMX := Aside0.mk (Kd.C_max HCL.out)
            clear hI6 hRW hAT HI4 HRW HB5 HG5 HAT cO5 fO5 hs0 k0 k1 k2 k3
            go_wp2
            go_roundg d
            case measure => omega
            case rel => exact ⟨j + 1, _, _, by have := HMX.out; first | rfl | (congr 1; omega) | (congr 1; unfold wrap64; omega), by omega, HP2, HI6⟩
          · rw [if_neg hok] at hp; cases hp
        · obtain rfl : gk = 0 := by omega
          have hp := HP.out
          rw [List.drop_eq_nil_of_le (by omega)] at hp
          simp only [refM, Option.some.injEq] at hp
          subst hp
          have hjb : decide ((j : Int) < (l0.length : Int)) = false := decide_eq_false (by omega)
          have hjb2 : decide (j < l0.length) = false := decide_eq_false (by omega)
          clear HP hj hlt
          go_wp2
          go_ret2
          exact ⟨_, rfl, by have := RInv_N HI.out; rw [HI.out.vl] at this; exact this, HI.out.below⟩
    · rw [if_neg hn] at h; cases h
end
def argosyref12_Split.f (k : Nat) (l0 : List S45) (a1 : Int) : Option (List (List S45) × Int) := refF k l0 a1
theorem argosyref12_Split.mono : ∀ a0 a1 k, LeO (argosyref12_Split.f k a0 a1) (argosyref12_Split.f (k + 1) a0 a1) := fun a0 a1 k => by
  unfold argosyref12_Split.f refF
  exact LeO.bind (argosyref12_Branches.mono _ _ k) (fun _ => LeO.refl _)
theorem argosyref12_Split.calls (k : Nat) (P0_ : Nat → Prop) (A0 : Option Addr) (c0 : Nat) (l0 : List S45) (a1 : Int) (r1 : List (List S45)) (r2 : Int) (w : World) (hs0 : Kd.V k45 45 w w.heap.size (fun k_ => P0_ k_) (.slice A0 l0.length c0) l0) (h : argosyref12_Split.f k l0 a1 = some (r1, r2)) :
    Calls Try.prog 17 #[.slice A0 l0.length c0, .int .i64 a1] w fun e w' => ∃ v0_ : Value, e = .returned (.tuple #[v0_, .int .i64 r2]) ∧ Kd.N (Kd.slice 45 k45) 25 w' w.heap.size (fun k_ => P0_ k_ ∨ w.heap.size ≤ k_) v0_ r1 ∧ Below w.heap.size w w' := own_RefSplit k P0_ A0 c0 l0 a1 r1 r2 w hs0 h

end Go.Proofs.Ytbkdogijkfampaa.PMergeSplits
