-- Written by a patched print (wip/mkprint.py), for this claim.
import Derived.Test.YtclkdnpfiolahaaDoorPEventBackx0
import Derived.Test.YtclkdnpfiolahaaDoorPEventBackx1
namespace Go.Proofs.YtclkdnpfiolahaaDoor.PEventBack
open Go.RowKit Go.Proofs.YtclkdnpfiolahaaDoorW.PrintWords Go.Proofs.YtclkdnpfiolahaaDoorW.PrintLast Go.Proofs.YtclkdnpfiolahaaDoorW.PrintMore
attribute [local go_sem] max2_int min2_int max_two min_two max_three min_three max_four min_four   -- for this text's walks alone
set_option linter.unusedVariables false
set_option linter.unusedSimpArgs false

/-! ### wire_put: function 44 -/
def wire_put.l0 : Nat → List Int → Int → Option (List Int)
  | 0, _, _ => none
  | k + 1, x0, x1 => if x1 ≥ 128 then (if x0.length < 140737488355328 then (wire_put.l0 k (x0 ++ [(Go.bits .or .i64 (Go.bits .and .i64 x1 127) 128) % 256]) (x1 / 128)) else (none)) else (if x0.length < 140737488355328 then (some (x0 ++ [(x1) % 256])) else (none))
def wire_put.f (k : Nat) (l0 : List Int) (a1 : Int) : Option (List Int) := wire_put.l0 k l0 a1
theorem wire_put.mono_l : ∀ k, (∀ y0 y1, LeO (wire_put.l0 k y0 y1) (wire_put.l0 (k + 1) y0 y1))
  | 0 => fun _ _ r h => by simp [wire_put.l0] at h
  | k + 1 => by
    have ih0 := wire_put.mono_l k
    · intro y0 y1
      unfold wire_put.l0
      repeat' first
      | (with_reducible exact ih0 _ _)
      | (with_reducible exact LeO.refl _)
      | (with_reducible exact LeO.none _)
      | (with_reducible refine LeO.ite ?_ ?_)
      | (with_reducible refine LeO.bind ?_ (fun _ => ?_))
      | exact ih0 _ _
      | exact LeO.none _
      | refine LeO.ite ?_ ?_
      | refine LeO.bind ?_ (fun _ => ?_)
theorem wire_put.mono : ∀ a0 a1 k, LeO (wire_put.f k a0 a1) (wire_put.f (k + 1) a0 a1) := by
  intro a0 a1 k
  have ih0 := wire_put.mono_l k
  unfold wire_put.f
  repeat' first
      | (with_reducible exact ih0 _ _)
      | (with_reducible exact LeO.refl _)
      | (with_reducible exact LeO.none _)
      | (with_reducible refine LeO.ite ?_ ?_)
      | (with_reducible refine LeO.bind ?_ (fun _ => ?_))
      | exact ih0 _ _
      | exact LeO.none _
      | refine LeO.ite ?_ ?_
      | refine LeO.bind ?_ (fun _ => ?_)
set_option maxHeartbeats 8000000 in
set_option maxRecDepth 100000 in
theorem wire_put.calls (k : Nat) (P0_ : Nat → Prop) (u9000_ : Value) (l0 : List Int) (a1 : Int) (r : List Int) (w0 w : World) (hB : Below w0.heap.size w0 w) (ho0 : Kd.R (Kd.int .u8) 5 w w0.heap.size P0_ u9000_ l0) (h : wire_put.f k l0 a1 = some r) :
    Calls Tryd.prog 44 #[u9000_, .int .i64 a1] w fun e w' => ∃ v0_ : Value, e = .returned (v0_) ∧ Kd.R (Kd.int .u8) 5 w' w0.heap.size (fun k_ => (P0_ k_ ∨ w.heap.size ≤ k_)) v0_ r ∧ Below w0.heap.size w0 w' ∧ Kept w w' (fun k_ => P0_ k_) := by
  have HO0 := Aside0.mk (show Kd.R (Kd.int .u8) 5 w w0.heap.size (fun k_ => (P0_ k_ ∨ w.heap.size ≤ k_)) u9000_ l0 from Kd.R_mono ho0 (fun k_ hk => (.inl hk)))
  have HK := Aside0.mk (Kept.refl w (fun k_ => P0_ k_))
  have HW0 := Aside0.mk hB.size
  have HB := Aside0.mk hB
  clear hB
  have H : (wire_put.l0 k l0 a1) = some r := h
  clear h
  have H' := Aside0.mk H
  clear H
  go_enter Tryd.func44, Tryd.ntmps44
  go_wp2
  go_loopg [0, 1] k (fun kq v0 v1 w' => ∃ (x0_1 : List Int) (x1_1 : Int), v1 = .int .i64 x1_1 ∧ Aside0 (wire_put.l0 kq x0_1 x1_1 = some r) ∧ Aside0 (kq ≤ k) ∧ Aside0 (Kd.R (Kd.int .u8) 5 w' w0.heap.size (fun k_ => (P0_ k_ ∨ w.heap.size ≤ k_)) v0 x0_1) ∧ Aside0 (Kept w w' (fun k_ => P0_ k_)) ∧ Aside0 (Below w0.heap.size w0 w'))
  case atStart => exact ⟨(l0), (a1), (by first | rfl | (simp; done) | (simp [*]; done)), H', ⟨Nat.le_refl _⟩, ⟨by (with_reducible repeat (first | apply Kd.R_alloc | apply Kd.R_drewN | apply Kd.R_drew)); exact HO0.out⟩, ⟨by repeat (first | (with_reducible first | exact HK.out | apply Kept.alloc | apply Kept.drewN | apply Kept.drew) | exact HK.out)⟩, ⟨by repeat (first | (with_reducible first | exact HB.out | apply below_alloc | apply pw_below_drewN | apply below_drew1) | exact HB.out)⟩⟩
  case round =>
    clear H'
    try clear p2
    obtain ⟨x0_1, x1_1, rfl, HA, HK1, HO_0, HK, HB⟩ := hrel
    cases gk with
    | zero => exact absurd HA.out (by simp [wire_put.l0])
    | succ k1 =>
      have H := HA.out
      clear HA
      simp only [wire_put.l0] at H
      by_cases c3 : x1_1 ≥ 128
      · rw [if_pos c3] at H
        have c3b0 : decide (128 ≤ x1_1) = true := decide_eq_true c3
        clear c3
        by_cases c4 : x0_1.length < 140737488355328
        · rw [if_pos c4] at H
          have LMc4 := Aside0.mk c4
          clear c4
          obtain ⟨y143, hy143⟩ : ∃ y_ : List Int, y_ = (x0_1 ++ [(Go.bits .or .i64 (Go.bits .and .i64 x1_1 127) 128) % 256]) := ⟨_, rfl⟩
          replace H : (wire_put.l0 k1 y143 (x1_1 / 128)) = some r := by first | (rw [hy143]; with_reducible exact H) | (have H2_ := (Option.bind_some _ _).symm.trans H; rw [hy143]; with_reducible exact H2_) | (have H2_ := (Option.bind_some _ _).symm.trans H; with_reducible exact H2_) | with_reducible exact H | (rw [hy143]; exact H) | exact H
          have Ny143 := Aside0.mk hy143
          clear hy143
          have H' := Aside0.mk H
          clear H
          go_wp2_with (first | ((with_reducible refine gate_builtin (b := .append) (xs := #[.tmp 9, .tmp 14]) rfl ?_); at_builtin; refine Kd.R_append (Kd.int .u8) (w0 := w0) w0.heap.size rfl (.tmp 9) (.tmp 14) 22 5 (.int .u8 0) 1 rfl Tryd.underlying22 info5 rfl (by decide) (by omega) u0 x0_1 ((Go.bits .or .i64 (Go.bits .and .i64 x1_1 127) 128) % 256) [.int .u8 ((Go.bits .or .i64 (Go.bits .and .i64 x1_1 127) 128) % 256)] (fun k_ => (P0_ k_ ∨ w.heap.size ≤ k_)) (fun _ => False) rfl rfl ?aP (fun _ hk => hk.elim) ?aF ?aO ?aB ?aS ?aL ?_; (case aP => exact rfl); (case aB => exact (by repeat (first | (with_reducible first | exact HB.out | apply below_alloc | apply pw_below_drewN | apply below_drew1) | exact HB.out))); (case aF => exact (fun k_ hk => (.inr (Nat.le_trans (by first | exact HK.out.1 | exact (show Kept w _ (fun k_ => P0_ k_) from by repeat (first | (with_reducible first | exact HK.out | apply Kept.alloc | apply Kept.drewN | apply Kept.drew) | exact HK.out)).1) hk)))); (case aO => exact (by (with_reducible repeat (first | apply Kd.R_alloc | apply Kd.R_drewN | apply Kd.R_drew)); exact HO_0.out)); (case aS => exact (below_size (by repeat (first | (with_reducible first | exact HB.out | apply below_alloc | apply pw_below_drewN | apply below_drew1) | exact HB.out)))); (case aL => have := LMc4.out; omega); intro v144 w5 ho hb hg hat; rw [← Ny143.out] at ho; have n0_ := Aside0.mk (hb); have n1_ := Aside0.mk (Kept.of_grown (S := (fun k_ => P0_ k_)) hg (by repeat (first | (with_reducible first | exact HK.out | apply Kept.alloc | apply Kept.drewN | apply Kept.drew) | exact HK.out)) (fun k_ e_ => (HO_0.out.1 k_ e_))); have n2_ := Aside0.mk (ho); clear HB; clear HK; clear HO_0; have HB := n0_; have HK := n1_; have HO145 := n2_; clear n0_ n1_ n2_; clear ho hb hg hat))
          go_roundg k1
          case measure => have := HK1.out; omega
          case rel => exact ⟨(y143), (x1_1 / 128), (by first | rfl | (simp; done) | (simp [*]; done)), H', ⟨by have := HK1.out; omega⟩, ⟨by (with_reducible repeat (first | apply Kd.R_alloc | apply Kd.R_drewN | apply Kd.R_drew)); exact HO145.out⟩, ⟨by repeat (first | (with_reducible first | exact HK.out | apply Kept.alloc | apply Kept.drewN | apply Kept.drew) | exact HK.out)⟩, ⟨by repeat (first | (with_reducible first | exact HB.out | apply below_alloc | apply pw_below_drewN | apply below_drew1) | exact HB.out)⟩⟩
        · rw [if_neg c4] at H
          exact absurd H (by simp)
      · rw [if_neg c3] at H
        have c3b0 : decide (128 ≤ x1_1) = false := decide_eq_false c3
        clear c3
        by_cases c6 : x0_1.length < 140737488355328
        · rw [if_pos c6] at H
          have LMc6 := Aside0.mk c6
          clear c6
          obtain ⟨y146, hy146⟩ : ∃ y_ : List Int, y_ = (x0_1 ++ [(x1_1) % 256]) := ⟨_, rfl⟩
          replace H : (some y146) = some r := by first | (rw [hy146]; with_reducible exact H) | (have H2_ := (Option.bind_some _ _).symm.trans H; rw [hy146]; with_reducible exact H2_) | (have H2_ := (Option.bind_some _ _).symm.trans H; with_reducible exact H2_) | with_reducible exact H | (rw [hy146]; exact H) | exact H
          have Ny146 := Aside0.mk hy146
          clear hy146
          obtain rfl := Option.some.inj H
          go_wp2_with (first | ((with_reducible refine gate_builtin (b := .append) (xs := #[.tmp 16, .tmp 19]) rfl ?_); at_builtin; refine Kd.R_append (Kd.int .u8) (w0 := w0) w0.heap.size rfl (.tmp 16) (.tmp 19) 22 5 (.int .u8 0) 1 rfl Tryd.underlying22 info5 rfl (by decide) (by omega) u0 x0_1 ((x1_1) % 256) [.int .u8 ((x1_1) % 256)] (fun k_ => (P0_ k_ ∨ w.heap.size ≤ k_)) (fun _ => False) rfl rfl ?aP (fun _ hk => hk.elim) ?aF ?aO ?aB ?aS ?aL ?_; (case aP => exact rfl); (case aB => exact (by repeat (first | (with_reducible first | exact HB.out | apply below_alloc | apply pw_below_drewN | apply below_drew1) | exact HB.out))); (case aF => exact (fun k_ hk => (.inr (Nat.le_trans (by first | exact HK.out.1 | exact (show Kept w _ (fun k_ => P0_ k_) from by repeat (first | (with_reducible first | exact HK.out | apply Kept.alloc | apply Kept.drewN | apply Kept.drew) | exact HK.out)).1) hk)))); (case aO => exact (by (with_reducible repeat (first | apply Kd.R_alloc | apply Kd.R_drewN | apply Kd.R_drew)); exact HO_0.out)); (case aS => exact (below_size (by repeat (first | (with_reducible first | exact HB.out | apply below_alloc | apply pw_below_drewN | apply below_drew1) | exact HB.out)))); (case aL => have := LMc6.out; omega); intro v147 w7 ho hb hg hat; rw [← Ny146.out] at ho; have n0_ := Aside0.mk (hb); have n1_ := Aside0.mk (Kept.of_grown (S := (fun k_ => P0_ k_)) hg (by repeat (first | (with_reducible first | exact HK.out | apply Kept.alloc | apply Kept.drewN | apply Kept.drew) | exact HK.out)) (fun k_ e_ => (HO_0.out.1 k_ e_))); have n2_ := Aside0.mk (ho); clear HB; clear HK; clear HO_0; have HB := n0_; have HK := n1_; have HO148 := n2_; clear n0_ n1_ n2_; clear ho hb hg hat))
          go_ret
          exact ⟨_, by first | rfl | (simp [errW_none, errW_some] <;> rfl) | (simp [*, errW_none, errW_some] <;> rfl), by (with_reducible repeat (first | apply Kd.R_alloc | apply Kd.R_drewN | apply Kd.R_drew)); exact HO148.out, by repeat (first | (with_reducible first | exact HB.out | apply below_alloc | apply pw_below_drewN | apply below_drew1) | exact HB.out), by repeat (first | (with_reducible first | exact HK.out | apply Kept.alloc | apply Kept.drewN | apply Kept.drew) | exact HK.out)⟩
        · rw [if_neg c6] at H
          exact absurd H (by simp)

def wire_putF.f (k : Nat) (l0 : List Int) (a1 : Int) : Option (List Int) := wire_put.f k l0 a1
theorem wire_putF.mono : ∀ a0 a1 k, LeO (wire_putF.f k a0 a1) (wire_putF.f (k + 1) a0 a1) := wire_put.mono
set_option maxHeartbeats 8000000 in
set_option maxRecDepth 100000 in
theorem wire_putF.calls (k : Nat) (A0 : Option Addr) (c0 : Nat) (l0 : List Int) (a1 : Int) (r : List Int) (w : World) (hr0 : Kd.C (Kd.int .u8) w A0 l0.length l0) (hc0 : l0.length ≤ l0.length) (h : wire_putF.f k l0 a1 = some r) :
    Calls Tryd.prog 44 #[.slice A0 l0.length l0.length, .int .i64 a1] w fun e w' => ∃ v0_ : Value, e = .returned (v0_) ∧ Kd.R (Kd.int .u8) 5 w' w.heap.size (fun _ => True) v0_ r ∧ Below w.heap.size w w' := by
  have HB := Aside0.mk (Below.refl w.heap.size w)
  have HO0 := Aside0.mk (show pf_RF .u8 5 w w (fun _ => True) (.slice A0 l0.length l0.length) l0 from .inr ⟨A0, rfl, hr0⟩)
  clear hr0 hc0
  have H : (wire_put.l0 k l0 a1) = some r := h
  clear h
  have H' := Aside0.mk H
  clear H
  go_enter Tryd.func44, Tryd.ntmps44
  go_wp2
  go_loopg [0, 1] k (fun kq v0 v1 w' => ∃ (x0_1 : List Int) (x1_1 : Int), v1 = .int .i64 x1_1 ∧ Aside0 (wire_put.l0 kq x0_1 x1_1 = some r) ∧ Aside0 (kq ≤ k) ∧ Aside0 (pf_RF .u8 5 w w' (fun _ => True) v0 x0_1) ∧ Aside0 (Below w.heap.size w w'))
  case atStart => exact ⟨(l0), (a1), rfl, H', ⟨Nat.le_refl _⟩, HO0, HB⟩
  case round =>
    clear H' HO0 HB
    obtain ⟨x0_1, x1_1, rfl, HA, HK1, HO_0, HB⟩ := hrel
    cases gk with
    | zero => exact absurd HA.out (by simp [wire_put.l0])
    | succ k1 =>
      have H := HA.out
      clear HA
      simp only [wire_put.l0] at H
      by_cases c3 : x1_1 ≥ 128
      · rw [if_pos c3] at H
        have c3b0 : decide (128 ≤ x1_1) = true := decide_eq_true c3
        clear c3
        by_cases c4 : x0_1.length < 140737488355328
        · rw [if_pos c4] at H
          have LMc4 := Aside0.mk c4
          clear c4
          have H' := Aside0.mk H
          clear H
          go_wp2_with ((with_reducible refine gate_builtin (b := .append) (xs := #[.tmp 9, .tmp 14]) rfl ?_); at_builtin; refine pf_RF_append .u8 rfl (.tmp 9) (.tmp 14) 22 5 1 rfl Tryd.underlying22 info5 (by decide) u0 x0_1 ((Go.bits .or .i64 (Go.bits .and .i64 x1_1 127) 128) % 256) rfl rfl HO_0.out HB.out (by have := LMc4.out; omega) ?_; intro v102 w5 ho hb; have n0_ := Aside0.mk (hb); have n1_ := Aside0.mk ho; clear HB HO_0 ho hb; have HB := n0_; have HO103 := n1_; clear n0_ n1_)
          go_roundg k1
          case measure => have := HK1.out; omega
          case rel => exact ⟨_, (x1_1 / 128), (by first | rfl | (simp; done) | (simp [*]; done)), H', ⟨by have := HK1.out; omega⟩, ⟨.inl HO103.out⟩, HB⟩
        · rw [if_neg c4] at H
          exact absurd H (by simp)
      · rw [if_neg c3] at H
        have c3b0 : decide (128 ≤ x1_1) = false := decide_eq_false c3
        clear c3
        by_cases c6 : x0_1.length < 140737488355328
        · rw [if_pos c6] at H
          have LMc6 := Aside0.mk c6
          clear c6
          obtain rfl := Option.some.inj H
          go_wp2_with ((with_reducible refine gate_builtin (b := .append) (xs := #[.tmp 16, .tmp 19]) rfl ?_); at_builtin; refine pf_RF_append .u8 rfl (.tmp 16) (.tmp 19) 22 5 1 rfl Tryd.underlying22 info5 (by decide) u0 x0_1 ((x1_1) % 256) rfl rfl HO_0.out HB.out (by have := LMc6.out; omega) ?_; intro v105 w7 ho hb; have n0_ := Aside0.mk (hb); have n1_ := Aside0.mk ho; clear HB HO_0 ho hb; have HB := n0_; have HO106 := n1_; clear n0_ n1_)
          go_ret
          exact ⟨_, rfl, HO106.out, HB.out⟩
        · rw [if_neg c6] at H
          exact absurd H (by simp)

/-! ### wire_Put: function 30 -/
def wire_Put.f (k : Nat) (l0 : List Int) (a1 : Int) : Option (List Int × Int) := (wire_is.f a1).bind fun t149 => (if t149 = true then (if 0 ≤ (l0.length : Int) then (if (l0.length : Int) ≤ (l0.length : Int) then ((wire_putF.f k (l0.take ((l0.length : Int) : Int).toNat) a1).bind fun t154 => (some (t154, 0))) else (none)) else (none)) else (some (([] : List Int), 2)))
theorem wire_Put.mono : ∀ a0 a1 k, LeO (wire_Put.f k a0 a1) (wire_Put.f (k + 1) a0 a1) := by
  intro a0 a1 k
  unfold wire_Put.f
  repeat' first
      | (with_reducible exact wire_putF.mono _ _ _)
      | (with_reducible exact LeO.refl _)
      | (with_reducible exact LeO.none _)
      | (with_reducible refine LeO.ite ?_ ?_)
      | (with_reducible refine LeO.bind ?_ (fun _ => ?_))
      | exact wire_putF.mono _ _ _
      | exact LeO.none _
      | refine LeO.ite ?_ ?_
      | refine LeO.bind ?_ (fun _ => ?_)
set_option maxHeartbeats 8000000 in
set_option maxRecDepth 100000 in
theorem wire_Put.calls (k : Nat) (A0 : Option Addr) (c0 : Nat) (l0 : List Int) (a1 : Int) (r1 : List Int) (r2 : Int) (w : World) (hr0 : Kd.C (Kd.int .u8) w A0 l0.length l0) (hc0 : l0.length ≤ c0) (h : wire_Put.f k l0 a1 = some (r1, r2)) :
    Calls Tryd.prog 30 #[.slice A0 l0.length c0, .int .i64 a1] w fun e w' => ∃ v0_ : Value, e = .returned (.tuple #[v0_, .int .i64 r2]) ∧ Kd.R (Kd.int .u8) 5 w' w.heap.size (fun _ => True) v0_ r1 ∧ Below w.heap.size w w' := by
  have HR0 := Aside0.mk hr0
  have HC0 := Aside0.mk hc0
  clear hr0 hc0
  have HB := Aside0.mk (Below.refl w.heap.size w)
  have H : ((wire_is.f a1).bind fun t149 => (if t149 = true then (if 0 ≤ (l0.length : Int) then (if (l0.length : Int) ≤ (l0.length : Int) then ((wire_putF.f k (l0.take ((l0.length : Int) : Int).toNat) a1).bind fun t154 => (some (t154, 0))) else (none)) else (none)) else (some (([] : List Int), 2)))) = some (r1, r2) := h
  clear h
  replace H := Option.bind_eq_some_iff.mp H
  obtain ⟨t149, A30, H⟩ := H
  replace H : (if t149 = true then (if 0 ≤ (l0.length : Int) then (if (l0.length : Int) ≤ (l0.length : Int) then ((wire_putF.f k (l0.take ((l0.length : Int) : Int).toNat) a1).bind fun t154 => (some (t154, 0))) else (none)) else (none)) else (some (([] : List Int), 2))) = some (r1, r2) := H
  have A3 := Aside0.mk A30
  clear A30
  by_cases c4 : t149 = true
  · subst c4
    have H1 : (if 0 ≤ (l0.length : Int) then (if (l0.length : Int) ≤ (l0.length : Int) then ((wire_putF.f k (l0.take ((l0.length : Int) : Int).toNat) a1).bind fun t154 => (some (t154, 0))) else (none)) else (none)) = some (r1, r2) := by rw [if_pos rfl] at H; exact H
    clear H
    have H := H1
    clear H1
    by_cases c5 : 0 ≤ (l0.length : Int)
    · rw [if_pos c5] at H
      have c5b0 := eq_true c5
      have c5b1 : decide (0 ≤ (l0.length : Int)) = true := decide_eq_true c5
      clear c5
      by_cases c6 : (l0.length : Int) ≤ (l0.length : Int)
      · rw [if_pos c6] at H
        have c6b0 := eq_true c6
        have c6b1 : decide ((l0.length : Int) ≤ (l0.length : Int)) = true := decide_eq_true c6
        clear c6
        obtain ⟨y150, hy150⟩ : ∃ y_ : List Int, y_ = (l0.take ((l0.length : Int) : Int).toNat) := ⟨_, rfl⟩
        replace H : ((wire_putF.f k y150 a1).bind fun t154 => (some (t154, 0))) = some (r1, r2) := by first | (rw [hy150]; with_reducible exact H) | (have H2_ := (Option.bind_some _ _).symm.trans H; rw [hy150]; with_reducible exact H2_) | (have H2_ := (Option.bind_some _ _).symm.trans H; with_reducible exact H2_) | with_reducible exact H | (rw [hy150]; exact H) | exact H
        have Ny150 := Aside0.mk hy150
        clear hy150
        replace H := Option.bind_eq_some_iff.mp H
        obtain ⟨t154, A70, H⟩ := H
        replace H : (some (t154, 0)) = some (r1, r2) := H
        have A7 := Aside0.mk A70
        clear A70
        simp only [Option.some.injEq, Prod.mk.injEq] at H
        obtain ⟨rfl, rfl⟩ := H
        go_enter Tryd.func30, Tryd.ntmps30
        go_wp2_with (first | ((with_reducible refine gate_callee (f := 37) rfl ?_); refine goesL_ (some 7) rfl rfl Tryd.func37 (by kernel_rfl) rfl #[.int .i64 a1] rfl (by (try simp only [List.map_toArray, List.map_cons, List.map_nil]); first | done | rfl | (simp only [List.length_drop, List.length_take]; rfl)) ?_; (with_reducible refine (wire_is.calls a1 true _ A3.out).mono ?_); rintro e w' ⟨rfl, ⟨nd, rfl⟩⟩; refine ⟨_, rfl, ?_⟩; obtain ⟨i08, hi08, _, hsz8, _⟩ := info_parts info5; obtain ⟨hcut8, hA8, hC8⟩ := print_take_ofM (P := Tryd.prog) (Value.int .u8) 0 22 5 .i64 .i64 Tryd.underlying22 hi08 hsz8 A0 c0 l0 (l0.length : Int) (of_decide_eq_true (by first | (with_reducible assumption) | assumption)) (of_decide_eq_true (by first | (with_reducible assumption) | assumption)) HC0.out; (try simp only [Int.reduceToNat] at hcut8 hA8 hC8); rw [← Ny150.out] at hcut8 hA8 hC8; have HR153 := Aside0.mk (Kd.C_of_reads (h1 := fun _ => rfl) (hA8 _ (Kd.reads_of_C HR0.out))); have HC153 := Aside0.mk hC8; clear hA8 hC8 hi08 hsz8) | ((with_reducible refine gate_callee (f := 44) rfl ?_); refine goesL_ (some 16) rfl rfl Tryd.func44 (by kernel_rfl) rfl #[.slice A0 y150.length (y150.length), .int .i64 a1] rfl (by (try simp only [List.map_toArray, List.map_cons, List.map_nil]); first | done | rfl | (simp only [List.length_drop, List.length_take]; rfl)) ?_; (with_reducible refine (wire_putF.calls k _ 0 y150 a1 t154 _ ?side1 ?side2 A7.out).mono ?_); (case side1 => repeat (first | exact HR153.out | (with_reducible refine Kd.C_alloc ?_ _) | (with_reducible refine Kd.C_drewN ?_ _) | (with_reducible refine Kd.C_drew ?_))); (case side2 => exact HC153.out); rintro e w9 ⟨v155, rfl, ho0, hb⟩; refine ⟨_, rfl, ?_⟩; have n0_ := Aside0.mk (Kd.R_lower ho0 (below_size (by repeat (first | (with_reducible first | exact HB.out | apply below_alloc | apply pw_below_drewN | apply below_drew1) | exact HB.out)))); have n1_ := Aside0.mk (below_step (by repeat (first | (with_reducible first | exact HB.out | apply below_alloc | apply pw_below_drewN | apply below_drew1) | exact HB.out)) hb); clear HB; have HO156 := n0_; have HB := n1_; clear n0_ n1_; (try clear hb); (try clear hb2); (try clear hk); (try clear hi); (try clear ho0)))
        go_ret2
        exact ⟨_, by first | rfl | (simp [errW_none, errW_some] <;> rfl) | (simp [*, errW_none, errW_some] <;> rfl), by (with_reducible repeat (first | apply Kd.R_alloc | apply Kd.R_drewN | apply Kd.R_drew)); exact HO156.out, by repeat (first | (with_reducible first | exact HB.out | apply below_alloc | apply pw_below_drewN | apply below_drew1) | exact HB.out)⟩
      · rw [if_neg c6] at H
        exact absurd H (by simp)
    · rw [if_neg c5] at H
      exact absurd H (by simp)
  · replace c4 := Bool.eq_false_iff.mpr c4
    subst c4
    have H1 : (some (([] : List Int), 2)) = some (r1, r2) := by rw [if_neg (show ¬ (false = true) by decide)] at H; exact H
    clear H
    have H := H1
    clear H1
    simp only [Option.some.injEq, Prod.mk.injEq] at H
    obtain ⟨rfl, rfl⟩ := H
    go_enter Tryd.func30, Tryd.ntmps30
    go_wp2_with (first | ((with_reducible refine gate_callee (f := 37) rfl ?_); refine goesL_ (some 7) rfl rfl Tryd.func37 (by kernel_rfl) rfl #[.int .i64 a1] rfl (by (try simp only [List.map_toArray, List.map_cons, List.map_nil]); first | done | rfl | (simp only [List.length_drop, List.length_take]; rfl)) ?_; (with_reducible refine (wire_is.calls a1 false _ A3.out).mono ?_); rintro e w' ⟨rfl, ⟨nd, rfl⟩⟩; refine ⟨_, rfl, ?_⟩))
    go_ret2
    exact ⟨_, by first | rfl | (simp [errW_none, errW_some] <;> rfl) | (simp [*, errW_none, errW_some] <;> rfl), by first | exact Kd.R_nil _ _ _ _ _ | exact Kd.N_nil _ _ _ _ _ | exact Kd.V_nil _ _ _ _ _ | exact Kd.Q_nil _ _ _ _ _ | exact Kd.S_nil _ _ _ _ _, by repeat (first | (with_reducible first | exact HB.out | apply below_alloc | apply pw_below_drewN | apply below_drew1) | exact HB.out)⟩

/-! ### wire_Puts: function 45 -/
def wire_Puts.l0 : Nat → List Int → List Int → Int → Int → Option (List Int × Int)
  | 0, _, _, _, _ => none
  | k + 1, x6, x21, x22, x23 => if x23 < x22 then (if 0 ≤ x23 then (if x23 < (x21.length : Int) then ((wire_is.f (rd x21 x23)).bind fun t165 => (if t165 = true then ((wire_put.f k x6 (rd x21 x23)).bind fun t166 => (wire_Puts.l0 k t166 x21 x22 (wrap64 (x23 + 1)))) else (some (([] : List Int), 2)))) else (none)) else (none)) else (some (x6, 0))
def wire_Puts.f (k : Nat) (l0 : List Int) (l1 : List Int) : Option (List Int × Int) := if (l1.length : Int) > 255 then (some (([] : List Int), 5)) else (if 0 ≤ (l0.length : Int) then (if (l0.length : Int) ≤ (l0.length : Int) then ((wire_putF.f k (l0.take ((l0.length : Int) : Int).toNat) (l1.length : Int)).bind fun t161 => (wire_Puts.l0 k t161 l1 (l1.length : Int) 0)) else (none)) else (none))
theorem wire_Puts.mono_l : ∀ k, (∀ y0 y1 y2 y3, LeO (wire_Puts.l0 k y0 y1 y2 y3) (wire_Puts.l0 (k + 1) y0 y1 y2 y3))
  | 0 => fun _ _ _ _ r h => by simp [wire_Puts.l0] at h
  | k + 1 => by
    have ih0 := wire_Puts.mono_l k
    · intro y0 y1 y2 y3
      unfold wire_Puts.l0
      repeat' first
      | (with_reducible exact ih0 _ _ _ _)
      | (with_reducible exact wire_put.mono _ _ _)
      | (with_reducible exact wire_putF.mono _ _ _)
      | (with_reducible exact LeO.refl _)
      | (with_reducible exact LeO.none _)
      | (with_reducible refine LeO.ite ?_ ?_)
      | (with_reducible refine LeO.bind ?_ (fun _ => ?_))
      | exact ih0 _ _ _ _
      | exact wire_put.mono _ _ _
      | exact wire_putF.mono _ _ _
      | exact LeO.none _
      | refine LeO.ite ?_ ?_
      | refine LeO.bind ?_ (fun _ => ?_)
theorem wire_Puts.mono : ∀ a0 a1 k, LeO (wire_Puts.f k a0 a1) (wire_Puts.f (k + 1) a0 a1) := by
  intro a0 a1 k
  have ih0 := wire_Puts.mono_l k
  unfold wire_Puts.f
  repeat' first
      | (with_reducible exact ih0 _ _ _ _)
      | (with_reducible exact wire_put.mono _ _ _)
      | (with_reducible exact wire_putF.mono _ _ _)
      | (with_reducible exact LeO.refl _)
      | (with_reducible exact LeO.none _)
      | (with_reducible refine LeO.ite ?_ ?_)
      | (with_reducible refine LeO.bind ?_ (fun _ => ?_))
      | exact ih0 _ _ _ _
      | exact wire_put.mono _ _ _
      | exact wire_putF.mono _ _ _
      | exact LeO.none _
      | refine LeO.ite ?_ ?_
      | refine LeO.bind ?_ (fun _ => ?_)
set_option maxHeartbeats 8000000 in
set_option maxRecDepth 100000 in
theorem wire_Puts.calls (k : Nat) (A0 : Option Addr) (c0 : Nat) (l0 : List Int) (A1 : Option Addr) (c1 : Nat) (l1 : List Int) (r1 : List Int) (r2 : Int) (w : World) (hr0 : Kd.C (Kd.int .u8) w A0 l0.length l0) (hc0 : l0.length ≤ c0) (hr1 : Kd.C (Kd.int .i64) w A1 l1.length l1) (hc1 : l1.length ≤ c1) (h : wire_Puts.f k l0 l1 = some (r1, r2)) :
    Calls Tryd.prog 45 #[.slice A0 l0.length c0, .slice A1 l1.length c1] w fun e w' => ∃ v0_ : Value, e = .returned (.tuple #[v0_, .int .i64 r2]) ∧ Kd.R (Kd.int .u8) 5 w' w.heap.size (fun _ => True) v0_ r1 ∧ Below w.heap.size w w' := by
  have HR0 := Aside0.mk hr0
  have HC0 := Aside0.mk hc0
  clear hr0 hc0
  have HR1 := Aside0.mk hr1
  have HC1 := Aside0.mk hc1
  clear hr1 hc1
  have HB := Aside0.mk (Below.refl w.heap.size w)
  have H : (if (l1.length : Int) > 255 then (some (([] : List Int), 5)) else (if 0 ≤ (l0.length : Int) then (if (l0.length : Int) ≤ (l0.length : Int) then ((wire_putF.f k (l0.take ((l0.length : Int) : Int).toNat) (l1.length : Int)).bind fun t161 => (wire_Puts.l0 k t161 l1 (l1.length : Int) 0)) else (none)) else (none))) = some (r1, r2) := h
  clear h
  by_cases c3 : (l1.length : Int) > 255
  · rw [if_pos c3] at H
    have c3b0 : decide (255 < (l1.length : Int)) = true := decide_eq_true c3
    have c3b1 : decide (255 < l1.length) = true := decide_eq_true (by omega)
    clear c3
    simp only [Option.some.injEq, Prod.mk.injEq] at H
    obtain ⟨rfl, rfl⟩ := H
    go_enter Tryd.func45, Tryd.ntmps45
    go_wp2
    go_ret2
    exact ⟨_, by first | rfl | (simp [errW_none, errW_some] <;> rfl) | (simp [*, errW_none, errW_some] <;> rfl), by first | exact Kd.R_nil _ _ _ _ _ | exact Kd.N_nil _ _ _ _ _ | exact Kd.V_nil _ _ _ _ _ | exact Kd.Q_nil _ _ _ _ _ | exact Kd.S_nil _ _ _ _ _, by repeat (first | (with_reducible first | exact HB.out | apply below_alloc | apply pw_below_drewN | apply below_drew1) | exact HB.out)⟩
  · rw [if_neg c3] at H
    have c3b0 : decide (255 < (l1.length : Int)) = false := decide_eq_false c3
    have c3b1 : decide (255 < l1.length) = false := decide_eq_false (by omega)
    clear c3
    by_cases c4 : 0 ≤ (l0.length : Int)
    · rw [if_pos c4] at H
      have c4b0 := eq_true c4
      have c4b1 : decide (0 ≤ (l0.length : Int)) = true := decide_eq_true c4
      clear c4
      by_cases c5 : (l0.length : Int) ≤ (l0.length : Int)
      · rw [if_pos c5] at H
        have c5b0 := eq_true c5
        have c5b1 : decide ((l0.length : Int) ≤ (l0.length : Int)) = true := decide_eq_true c5
        clear c5
        obtain ⟨y157, hy157⟩ : ∃ y_ : List Int, y_ = (l0.take ((l0.length : Int) : Int).toNat) := ⟨_, rfl⟩
        replace H : ((wire_putF.f k y157 (l1.length : Int)).bind fun t161 => (wire_Puts.l0 k t161 l1 (l1.length : Int) 0)) = some (r1, r2) := by first | (rw [hy157]; with_reducible exact H) | (have H2_ := (Option.bind_some _ _).symm.trans H; rw [hy157]; with_reducible exact H2_) | (have H2_ := (Option.bind_some _ _).symm.trans H; with_reducible exact H2_) | with_reducible exact H | (rw [hy157]; exact H) | exact H
        have Ny157 := Aside0.mk hy157
        clear hy157
        replace H := Option.bind_eq_some_iff.mp H
        obtain ⟨t161, A60, H⟩ := H
        replace H : (wire_Puts.l0 k t161 l1 (l1.length : Int) 0) = some (r1, r2) := H
        have A6 := Aside0.mk A60
        clear A60
        have H' := Aside0.mk H
        clear H
        obtain ⟨i07, hi07, _, hsz7, _⟩ := info_parts info5
        obtain ⟨hcut7, hA7, hC7⟩ := print_take_ofM (P := Tryd.prog) (Value.int .u8) 0 22 5 .i64 .i64 Tryd.underlying22 hi07 hsz7 A0 c0 l0 (l0.length : Int) (of_decide_eq_true (by first | (with_reducible assumption) | assumption)) (of_decide_eq_true (by first | (with_reducible assumption) | assumption)) HC0.out
        (try simp only [Int.reduceToNat] at hcut7 hA7 hC7)
        rw [← Ny157.out] at hcut7 hA7 hC7
        have HR160 := Aside0.mk (Kd.C_of_reads (h1 := fun _ => rfl) (hA7 _ (Kd.reads_of_C HR0.out)))
        have HC160 := Aside0.mk hC7
        clear hA7 hC7 hi07 hsz7
        go_enter Tryd.func45, Tryd.ntmps45
        go_wp2_with (first | ((with_reducible refine gate_callee (f := 44) rfl ?_); refine goesL_ (some 20) rfl rfl Tryd.func44 (by kernel_rfl) rfl #[.slice A0 y157.length (y157.length), .int .i64 (l1.length : Int)] rfl (by (try simp only [List.map_toArray, List.map_cons, List.map_nil]); first | done | rfl | (simp only [List.length_drop, List.length_take]; rfl)) ?_; (with_reducible refine (wire_putF.calls k _ 0 y157 (l1.length : Int) t161 _ ?side1 ?side2 A6.out).mono ?_); (case side1 => repeat (first | exact HR160.out | (with_reducible refine Kd.C_alloc ?_ _) | (with_reducible refine Kd.C_drewN ?_ _) | (with_reducible refine Kd.C_drew ?_))); (case side2 => exact HC160.out); rintro e w8 ⟨v162, rfl, ho0, hb⟩; refine ⟨_, rfl, ?_⟩; have n0_ := Aside0.mk (Kd.R_lower ho0 (below_size (by repeat (first | (with_reducible first | exact HB.out | apply below_alloc | apply pw_below_drewN | apply below_drew1) | exact HB.out)))); have n1_ := Aside0.mk (below_step (by repeat (first | (with_reducible first | exact HB.out | apply below_alloc | apply pw_below_drewN | apply below_drew1) | exact HB.out)) hb); clear HB; have HO163 := n0_; have HB := n1_; clear n0_ n1_; (try clear hb); (try clear hb2); (try clear hk); (try clear hi); (try clear ho0)))
        go_loopg [6, 23] k (fun kq v6 v23 w' => ∃ (x6_1 : List Int) (x23_1 : Int), v23 = .int .i64 x23_1 ∧ Aside0 (wire_Puts.l0 kq x6_1 l1 (l1.length : Int) x23_1 = some (r1, r2)) ∧ Aside0 (kq ≤ k) ∧ Aside0 (Kd.R (Kd.int .u8) 5 w' w.heap.size (fun _ => True) v6 x6_1) ∧ Aside0 (Below w.heap.size w w'))
        case atStart => exact ⟨(t161), (0), (by first | rfl | (simp; done) | (simp [*]; done)), H', ⟨Nat.le_refl _⟩, ⟨by (with_reducible repeat (first | apply Kd.R_alloc | apply Kd.R_drewN | apply Kd.R_drew)); exact HO163.out⟩, ⟨by repeat (first | (with_reducible first | exact HB.out | apply below_alloc | apply pw_below_drewN | apply below_drew1) | exact HB.out)⟩⟩
        case round =>
          clear H'
          try clear c1
          try clear p2
          try clear c3
          try clear c3b0
          try clear c3b1
          try clear c4
          try clear c4b0
          try clear c4b1
          try clear c5
          try clear c5b0
          try clear c5b1
          obtain ⟨x6_1, x23_1, rfl, HA, HK1, HO_6, HB⟩ := hrel
          cases gk with
          | zero => exact absurd HA.out (by simp [wire_Puts.l0])
          | succ k1 =>
            have H := HA.out
            clear HA
            simp only [wire_Puts.l0] at H
            by_cases c9 : x23_1 < (l1.length : Int)
            · rw [if_pos c9] at H
              have c9b0 : decide (x23_1 < (l1.length : Int)) = true := decide_eq_true c9
              clear c9
              by_cases c10 : 0 ≤ x23_1
              · rw [if_pos c10] at H
                have c10b0 : decide (0 ≤ x23_1) = true := decide_eq_true c10
                clear c10
                by_cases c11 : x23_1 < (l1.length : Int)
                · rw [if_pos c11] at H
                  have c11b0 : decide (x23_1 < (l1.length : Int)) = true := decide_eq_true c11
                  clear c11
                  replace H := Option.bind_eq_some_iff.mp H
                  obtain ⟨t165, A120, H⟩ := H
                  replace H : (if t165 = true then ((wire_put.f k1 x6_1 (rd l1 x23_1)).bind fun t166 => (wire_Puts.l0 k1 t166 l1 (l1.length : Int) (wrap64 (x23_1 + 1)))) else (some (([] : List Int), 2))) = some (r1, r2) := H
                  have A12 := Aside0.mk A120
                  clear A120
                  by_cases c13 : t165 = true
                  · subst c13
                    have H1 : ((wire_put.f k1 x6_1 (rd l1 x23_1)).bind fun t166 => (wire_Puts.l0 k1 t166 l1 (l1.length : Int) (wrap64 (x23_1 + 1)))) = some (r1, r2) := by rw [if_pos rfl] at H; exact H
                    clear H
                    have H := H1
                    clear H1
                    replace H := Option.bind_eq_some_iff.mp H
                    obtain ⟨t166, A140, H⟩ := H
                    replace H : (wire_Puts.l0 k1 t166 l1 (l1.length : Int) (wrap64 (x23_1 + 1))) = some (r1, r2) := H
                    have A14 := Aside0.mk A140
                    clear A140
                    have H' := Aside0.mk H
                    clear H
                    have p164 : 0 ≤ (x23_1 : Int) := of_decide_eq_true (by first | (with_reducible assumption) | assumption)
                    have q164 : x23_1 < (l1.length : Int) := of_decide_eq_true (by first | (with_reducible assumption) | assumption)
                    obtain ⟨ad164, e164, hx164_0⟩ := Kd.at_int HR1.out x23_1 p164 q164
                    cases e164
                    replace hx164_0 := (HB.out.cell (World.block_lt_of_cell? w _ hx164_0)).trans hx164_0
                    replace p164 := eq_true p164
                    replace q164 := eq_true q164
                    go_wp2_with (first | ((with_reducible refine gate_callee (f := 37) rfl ?_); refine goesL_ (some 28) rfl rfl Tryd.func37 (by kernel_rfl) rfl #[.int .i64 (rd l1 x23_1)] rfl (by (try simp only [List.map_toArray, List.map_cons, List.map_nil]); first | done | rfl | (simp only [List.length_drop, List.length_take]; rfl)) ?_; (with_reducible refine (wire_is.calls (rd l1 x23_1) true _ A12.out).mono ?_); rintro e w' ⟨rfl, ⟨nd, rfl⟩⟩; refine ⟨_, rfl, ?_⟩; obtain ⟨Ao15, co15, eo15⟩ := Kd.R_slice HO_6.out; subst eo15) | ((with_reducible refine gate_callee (f := 44) rfl ?_); refine goesL_ (some 32) rfl rfl Tryd.func44 (by kernel_rfl) rfl #[.slice Ao15 x6_1.length co15, .int .i64 (rd l1 x23_1)] rfl (by (try simp only [List.map_toArray, List.map_cons, List.map_nil]); first | done | rfl | (simp only [List.length_drop, List.length_take]; rfl)) ?_; (with_reducible refine (wire_put.calls k1 (fun k_ => some k_ = (.slice Ao15 x6_1.length co15 : Value).ownBlock) (.slice Ao15 x6_1.length co15) x6_1 (rd l1 x23_1) t166 w _ ?side1 ?side2 A14.out).mono ?_); (case side1 => repeat (first | (with_reducible first | exact HB.out | apply below_alloc | apply pw_below_drewN | apply below_drew1) | exact HB.out)); (case side2 => exact Kd.R_tight rfl HO_6.out); rintro e w16 ⟨v167, rfl, ho0, hb, hkp⟩; refine ⟨_, rfl, ?_⟩; have n0_ := Aside0.mk (Kd.R_mono (ok' := fun k_ => True) ho0 (fun k_ hk_ => trivial)); have n1_ := Aside0.mk (hb); clear HB; clear HO_6; have HO168 := n0_; have HB := n1_; clear n0_ n1_; (try clear hb); (try clear hkp); (try clear ho0)))
                    go_roundg k1
                    case measure => have := HK1.out; omega
                    case rel => exact ⟨(t166), (wrap64 (x23_1 + 1)), (by first | rfl | (simp; done) | (simp [*]; done)), H', ⟨by have := HK1.out; omega⟩, ⟨by (with_reducible repeat (first | apply Kd.R_alloc | apply Kd.R_drewN | apply Kd.R_drew)); exact HO168.out⟩, ⟨by repeat (first | (with_reducible first | exact HB.out | apply below_alloc | apply pw_below_drewN | apply below_drew1) | exact HB.out)⟩⟩
                  · replace c13 := Bool.eq_false_iff.mpr c13
                    subst c13
                    have H1 : (some (([] : List Int), 2)) = some (r1, r2) := by rw [if_neg (show ¬ (false = true) by decide)] at H; exact H
                    clear H
                    have H := H1
                    clear H1
                    simp only [Option.some.injEq, Prod.mk.injEq] at H
                    obtain ⟨rfl, rfl⟩ := H
                    have p164 : 0 ≤ (x23_1 : Int) := of_decide_eq_true (by first | (with_reducible assumption) | assumption)
                    have q164 : x23_1 < (l1.length : Int) := of_decide_eq_true (by first | (with_reducible assumption) | assumption)
                    obtain ⟨ad164, e164, hx164_0⟩ := Kd.at_int HR1.out x23_1 p164 q164
                    cases e164
                    replace hx164_0 := (HB.out.cell (World.block_lt_of_cell? w _ hx164_0)).trans hx164_0
                    replace p164 := eq_true p164
                    replace q164 := eq_true q164
                    go_wp2_with (first | ((with_reducible refine gate_callee (f := 37) rfl ?_); refine goesL_ (some 28) rfl rfl Tryd.func37 (by kernel_rfl) rfl #[.int .i64 (rd l1 x23_1)] rfl (by (try simp only [List.map_toArray, List.map_cons, List.map_nil]); first | done | rfl | (simp only [List.length_drop, List.length_take]; rfl)) ?_; (with_reducible refine (wire_is.calls (rd l1 x23_1) false _ A12.out).mono ?_); rintro e w' ⟨rfl, ⟨nd, rfl⟩⟩; refine ⟨_, rfl, ?_⟩))
                    go_ret2
                    exact ⟨_, by first | rfl | (simp [errW_none, errW_some] <;> rfl) | (simp [*, errW_none, errW_some] <;> rfl), by first | exact Kd.R_nil _ _ _ _ _ | exact Kd.N_nil _ _ _ _ _ | exact Kd.V_nil _ _ _ _ _ | exact Kd.Q_nil _ _ _ _ _ | exact Kd.S_nil _ _ _ _ _, by repeat (first | (with_reducible first | exact HB.out | apply below_alloc | apply pw_below_drewN | apply below_drew1) | exact HB.out)⟩
                · rw [if_neg c11] at H
                  exact absurd H (by simp)
              · rw [if_neg c10] at H
                exact absurd H (by simp)
            · rw [if_neg c9] at H
              have c9b0 : decide (x23_1 < (l1.length : Int)) = false := decide_eq_false c9
              clear c9
              simp only [Option.some.injEq, Prod.mk.injEq] at H
              obtain ⟨rfl, rfl⟩ := H
              go_wp2
              go_ret2
              exact ⟨_, by first | rfl | (simp [errW_none, errW_some] <;> rfl) | (simp [*, errW_none, errW_some] <;> rfl), by (with_reducible repeat (first | apply Kd.R_alloc | apply Kd.R_drewN | apply Kd.R_drew)); exact HO_6.out, by repeat (first | (with_reducible first | exact HB.out | apply below_alloc | apply pw_below_drewN | apply below_drew1) | exact HB.out)⟩
      · rw [if_neg c5] at H
        exact absurd H (by simp)
    · rw [if_neg c4] at H
      exact absurd H (by simp)

/-! ### stamp_Bytes: function 31 -/
def stamp_Bytes.f (k : Nat) (l0 : List Int) (l1 : List Int) : Option (List Int × Int) := (stamp_Check.f l1).bind fun t169 => (if t169 = 0 then ((wire_Puts.f k l0 l1).bind fun bt170 => (some (bt170.1, bt170.2))) else (some (([] : List Int), t169)))
theorem stamp_Bytes.mono : ∀ a0 a1 k, LeO (stamp_Bytes.f k a0 a1) (stamp_Bytes.f (k + 1) a0 a1) := by
  intro a0 a1 k
  unfold stamp_Bytes.f
  repeat' first
      | (with_reducible exact wire_Puts.mono _ _ _)
      | (with_reducible exact LeO.refl _)
      | (with_reducible exact LeO.none _)
      | (with_reducible refine LeO.ite ?_ ?_)
      | (with_reducible refine LeO.bind ?_ (fun _ => ?_))
      | exact wire_Puts.mono _ _ _
      | exact LeO.none _
      | refine LeO.ite ?_ ?_
      | refine LeO.bind ?_ (fun _ => ?_)
set_option maxHeartbeats 8000000 in
set_option maxRecDepth 100000 in
theorem stamp_Bytes.calls (k : Nat) (A0 : Option Addr) (c0 : Nat) (l0 : List Int) (A1 : Option Addr) (c1 : Nat) (l1 : List Int) (r1 : List Int) (r2 : Int) (w : World) (hr0 : Kd.C (Kd.int .u8) w A0 l0.length l0) (hc0 : l0.length ≤ c0) (hr1 : Kd.C (Kd.int .i64) w A1 l1.length l1) (hc1 : l1.length ≤ c1) (h : stamp_Bytes.f k l0 l1 = some (r1, r2)) :
    Calls Tryd.prog 31 #[.slice A0 l0.length c0, .slice A1 l1.length c1] w fun e w' => ∃ v0_ : Value, e = .returned (.tuple #[v0_, .int .i64 r2]) ∧ Kd.R (Kd.int .u8) 5 w' w.heap.size (fun _ => True) v0_ r1 ∧ Below w.heap.size w w' := by
  have HR0 := Aside0.mk hr0
  have HC0 := Aside0.mk hc0
  clear hr0 hc0
  have HR1 := Aside0.mk hr1
  have HC1 := Aside0.mk hc1
  clear hr1 hc1
  have HB := Aside0.mk (Below.refl w.heap.size w)
  have H : ((stamp_Check.f l1).bind fun t169 => (if t169 = 0 then ((wire_Puts.f k l0 l1).bind fun bt170 => (some (bt170.1, bt170.2))) else (some (([] : List Int), t169)))) = some (r1, r2) := h
  clear h
  replace H := Option.bind_eq_some_iff.mp H
  obtain ⟨t169, A30, H⟩ := H
  replace H : (if t169 = 0 then ((wire_Puts.f k l0 l1).bind fun bt170 => (some (bt170.1, bt170.2))) else (some (([] : List Int), t169))) = some (r1, r2) := H
  have A3 := Aside0.mk A30
  clear A30
  by_cases c4 : t169 = 0
  · rw [if_pos c4] at H
    have c4b0 : (t169 == 0) = true := beq_iff_eq.mpr c4
    have c4b1 : (t169 != 0) = false := bne_eq_false_iff_eq.mpr c4
    clear c4
    replace H := Option.bind_eq_some_iff.mp H
    obtain ⟨⟨t170, t171⟩, A50, H⟩ := H
    replace H : (some (t170, t171)) = some (r1, r2) := H
    have A5 := Aside0.mk A50
    clear A50
    simp only [Option.some.injEq, Prod.mk.injEq] at H
    obtain ⟨rfl, rfl⟩ := H
    go_enter Tryd.func31, Tryd.ntmps31
    go_wp2_with (first | ((with_reducible refine gate_callee (f := 35) rfl ?_); refine goesL_ (some 8) rfl rfl Tryd.func35 (by kernel_rfl) rfl #[.slice A1 l1.length c1] rfl (by (try simp only [List.map_toArray, List.map_cons, List.map_nil]); first | done | rfl | (simp only [List.length_drop, List.length_take]; rfl)) ?_; (with_reducible refine (stamp_Check.calls _ _ l1 t169 _ ?side1 ?side2 A3.out).mono ?_); (case side1 => repeat (first | exact HR1.out | (with_reducible refine Kd.C_alloc ?_ _) | (with_reducible refine Kd.C_drewN ?_ _) | (with_reducible refine Kd.C_drew ?_))); (case side2 => exact HC1.out); rintro e w' ⟨rfl, ⟨nd, rfl⟩⟩; refine ⟨_, rfl, ?_⟩) | ((with_reducible refine gate_callee (f := 45) rfl ?_); refine goesL_ (some 14) rfl rfl Tryd.func45 (by kernel_rfl) rfl #[.slice A0 l0.length c0, .slice A1 l1.length c1] rfl (by (try simp only [List.map_toArray, List.map_cons, List.map_nil]); first | done | rfl | (simp only [List.length_drop, List.length_take]; rfl)) ?_; (with_reducible refine (wire_Puts.calls k _ _ l0 _ _ l1 t170 t171 _ ?side1 ?side2 ?side3 ?side4 A5.out).mono ?_); (case side1 => repeat (first | exact HR0.out | (with_reducible refine Kd.C_alloc ?_ _) | (with_reducible refine Kd.C_drewN ?_ _) | (with_reducible refine Kd.C_drew ?_))); (case side2 => exact HC0.out); (case side3 => repeat (first | exact HR1.out | (with_reducible refine Kd.C_alloc ?_ _) | (with_reducible refine Kd.C_drewN ?_ _) | (with_reducible refine Kd.C_drew ?_))); (case side4 => exact HC1.out); rintro e w6 ⟨v172, rfl, ho0, hb⟩; refine ⟨_, rfl, ?_⟩; have n0_ := Aside0.mk (Kd.R_lower ho0 (below_size (by repeat (first | (with_reducible first | exact HB.out | apply below_alloc | apply pw_below_drewN | apply below_drew1) | exact HB.out)))); have n1_ := Aside0.mk (below_step (by repeat (first | (with_reducible first | exact HB.out | apply below_alloc | apply pw_below_drewN | apply below_drew1) | exact HB.out)) hb); clear HB; have HO173 := n0_; have HB := n1_; clear n0_ n1_; (try clear hb); (try clear hb2); (try clear hk); (try clear hi); (try clear ho0)))
    go_ret2
    exact ⟨_, by first | rfl | (simp [errW_none, errW_some] <;> rfl) | (simp [*, errW_none, errW_some] <;> rfl), by (with_reducible repeat (first | apply Kd.R_alloc | apply Kd.R_drewN | apply Kd.R_drew)); exact HO173.out, by repeat (first | (with_reducible first | exact HB.out | apply below_alloc | apply pw_below_drewN | apply below_drew1) | exact HB.out)⟩
  · rw [if_neg c4] at H
    have c4b0 : (t169 == 0) = false := beq_eq_false_iff_ne.mpr c4
    have c4b1 : (t169 != 0) = true := bne_iff_ne.mpr c4
    simp only [Option.some.injEq, Prod.mk.injEq] at H
    obtain ⟨rfl, rfl⟩ := H
    go_enter Tryd.func31, Tryd.ntmps31
    go_wp2_with (first | ((with_reducible refine gate_callee (f := 35) rfl ?_); refine goesL_ (some 8) rfl rfl Tryd.func35 (by kernel_rfl) rfl #[.slice A1 l1.length c1] rfl (by (try simp only [List.map_toArray, List.map_cons, List.map_nil]); first | done | rfl | (simp only [List.length_drop, List.length_take]; rfl)) ?_; (with_reducible refine (stamp_Check.calls _ _ l1 t169 _ ?side1 ?side2 A3.out).mono ?_); (case side1 => repeat (first | exact HR1.out | (with_reducible refine Kd.C_alloc ?_ _) | (with_reducible refine Kd.C_drewN ?_ _) | (with_reducible refine Kd.C_drew ?_))); (case side2 => exact HC1.out); rintro e w' ⟨rfl, ⟨nd, rfl⟩⟩; refine ⟨_, rfl, ?_⟩))
    go_ret2
    exact ⟨_, by first | rfl | (simp [errW_none, errW_some] <;> rfl) | (simp [*, errW_none, errW_some] <;> rfl), by first | exact Kd.R_nil _ _ _ _ _ | exact Kd.N_nil _ _ _ _ _ | exact Kd.V_nil _ _ _ _ _ | exact Kd.Q_nil _ _ _ _ _ | exact Kd.S_nil _ _ _ _ _, by repeat (first | (with_reducible first | exact HB.out | apply below_alloc | apply pw_below_drewN | apply below_drew1) | exact HB.out)⟩

/-! ### event_Bytes: function 11 -/
section
attribute [local go_sem] ta61_72 ta64_72 ta72_72 ta61_61 ta64_61 ta64_64 ta61_64
/-- A new row of bytes, just laid: it reads. -/
theorem C_newB (W : World) (g : Nat) (hg : g = W.heap.size) (xs : List Int) (hm : xs.length ≤ 9223372036854775807) : Kd.C (Kd.int .u8) (W.alloc (.cells (encs (Value.int .u8) xs).toArray 5)) (some ⟨g, 0, none⟩) xs.length xs := by
  subst hg
  have h : Kd.R (Kd.int .u8) 5 (W.alloc (.cells (encs (Value.int .u8) xs).toArray 5)) 0 (fun _ => True) (.slice (some ⟨W.heap.size, 0, none⟩) xs.length xs.length) xs := ⟨fun _ _ => trivial, OwnRow.lit W 0 (Kd.reps_scalar xs) (Nat.zero_le _) hm⟩
  exact (Kd.R_reads' h).2.2
def event_Bytes.f (k : Nat) (a0_0 a0_1 a0_2 : Int) (l0_3 : List Int) : Option (List Int × Int) := (event_Check.f a0_0 a0_1 a0_2 l0_3).bind fun c => if c = 0 then (wire_Put.f k [a0_0 % 256] a0_1).bind fun p => (if isUndo a0_0 a0_1 a0_2 then (wire_Put.f k p.1 a0_2).bind fun q => stamp_Bytes.f k q.1 l0_3 else stamp_Bytes.f k p.1 l0_3) else some ([], c)
theorem event_Bytes.mono : ∀ a0 a1 a2 a3 k, LeO (event_Bytes.f k a0 a1 a2 a3) (event_Bytes.f (k + 1) a0 a1 a2 a3) := fun a0 a1 a2 a3 k => by
  unfold event_Bytes.f
  exact LeO.bind (LeO.refl _) fun _ => LeO.ite (LeO.bind (wire_Put.mono _ _ _) fun _ => LeO.ite (LeO.bind (wire_Put.mono _ _ _) fun _ => stamp_Bytes.mono _ _ _) (stamp_Bytes.mono _ _ _)) (LeO.refl _)
set_option maxHeartbeats 8000000 in
set_option maxRecDepth 100000 in
theorem own_Bytes_bad (n : Nat) (k i t : Int) (A : Option Addr) (c : Nat) (l : List Int) (r : Int) (w : World) (hC : Kd.C (Kd.int .i64) w A l.length l) (hc : l.length ≤ c) (h : event_Check.f k i t l = some r) (hr : r ≠ 0) :
    Calls Tryd.prog 11 #[.agg #[.int .i64 k, .int .i64 i, .int .i64 t, .slice A l.length c]] w fun e w' => ∃ v0_ : Value, e = .returned (.tuple #[v0_, .int .i64 r]) ∧ Kd.R (Kd.int .u8) 5 w' w.heap.size (fun _ => True) v0_ [] ∧ Below w.heap.size w w' := by
  have HC := Aside0.mk hC
  have HL := Aside0.mk hc
  have HH := Aside0.mk h
  clear hC hc h
  have d1 : (r == 0) = false := beq_eq_false_iff_ne.mpr hr
  have d2 : (r != 0) = true := bne_iff_ne.mpr hr
  clear hr
  go_enter Tryd.func11, Tryd.ntmps11
  go_wp2_with (first | (go_at_call 14; (refine (event_Check.calls k i t A c l r _ (by (with_reducible repeat (first | apply Kd.C_alloc | apply Kd.C_drewN | apply Kd.C_drew)); exact HC.out) HL.out HH.out).mono ?_); rintro e w1 ⟨rfl, hb⟩; have hbx := (hb.block w.heap.size (by simp)).trans (heap_newE w (.cells _ 27)); have kb0 := blk_cell hbx 0; have kb1 := blk_cell hbx 1; have kb2 := blk_cell hbx 2; have kb3 := blk_cell hbx 3; have fb0 := blk_frozen hbx 0; have fb1 := blk_frozen hbx 1; have fb2 := blk_frozen hbx 2; have fb3 := blk_frozen hbx 3; have HB := Aside0.mk (below_step (below_alloc (Below.refl _ _) _) hb); have HX := Aside0.mk hbx; have HC1 := Aside0.mk (Kd.C_below HC.out HB.out); clear HC; have HC := HC1; clear HC1; have hlt : w.heap.size < w1.heap.size := blk_lt hbx; have hne : (w.heap.size = w1.heap.size) = False := eq_false (by omega); have hne2 : (w1.heap.size = w.heap.size) = False := eq_false (by omega); clear hb hbx))
  go_ret2
  exact ⟨_, rfl, Kd.R_nil _ _ _ _ _, (by repeat (first | exact HB.out | apply below_alloc | apply pw_below_drewN | apply below_drew1 | refine below_set ?_ (Nat.le_refl _) | refine below_set ?_ (Nat.le_of_lt (by first | exact hlt | omega))))⟩
set_option maxHeartbeats 8000000 in
set_option maxRecDepth 100000 in
theorem own_Bytes_step (n : Nat) (k i t : Int) (A : Option Addr) (c : Nat) (l : List Int) (p1 : List Int) (p2 : Int) (r1 : List Int) (r2 : Int) (w : World) (hC : Kd.C (Kd.int .i64) w A l.length l) (hc : l.length ≤ c) (h : event_Check.f k i t l = some 0) (hV : ofV k i t = .iface 61 (.agg #[.int .i64 i])) (hp : wire_Put.f n [k % 256] i = some (p1, p2)) (hs : stamp_Bytes.f n p1 l = some (r1, r2)) :
    Calls Tryd.prog 11 #[.agg #[.int .i64 k, .int .i64 i, .int .i64 t, .slice A l.length c]] w fun e w' => ∃ v0_ : Value, e = .returned (.tuple #[v0_, .int .i64 r2]) ∧ Kd.R (Kd.int .u8) 5 w' w.heap.size (fun _ => True) v0_ r1 ∧ Below w.heap.size w w' := by
  have HC := Aside0.mk hC
  have HL := Aside0.mk hc
  have HH := Aside0.mk h
  clear hC hc h
  have HV := Aside0.mk hV
  have HP := Aside0.mk hp
  have HS := Aside0.mk hs
  clear hV hp hs
  go_enter Tryd.func11, Tryd.ntmps11
  go_wp2_with (first | (go_at_call 14; (refine (event_Check.calls k i t A c l 0 _ (by (with_reducible repeat (first | apply Kd.C_alloc | apply Kd.C_drewN | apply Kd.C_drew)); exact HC.out) HL.out HH.out).mono ?_); rintro e w1 ⟨rfl, hb⟩; have hbx := (hb.block w.heap.size (by simp)).trans (heap_newE w (.cells _ 27)); have kb0 := blk_cell hbx 0; have kb1 := blk_cell hbx 1; have kb2 := blk_cell hbx 2; have kb3 := blk_cell hbx 3; have fb0 := blk_frozen hbx 0; have fb1 := blk_frozen hbx 1; have fb2 := blk_frozen hbx 2; have fb3 := blk_frozen hbx 3; have HB := Aside0.mk (below_step (below_alloc (Below.refl _ _) _) hb); have HX := Aside0.mk hbx; have HC1 := Aside0.mk (Kd.C_below HC.out HB.out); clear HC; have HC := HC1; clear HC1; have hlt : w.heap.size < w1.heap.size := blk_lt hbx; have hne : (w.heap.size = w1.heap.size) = False := eq_false (by omega); have hne2 : (w1.heap.size = w.heap.size) = False := eq_false (by omega); clear hb hbx) | (go_at_call 29; (refine (own_ofB k i t _ rfl _ HV.out).mono ?_); rintro e w2 ⟨rfl, hb⟩; have hbx : w2.heap[w.heap.size]? = some (Obj.cells #[.int .i64 k, .int .i64 i, .int .i64 t, .slice A l.length c] 27 (0, 0)) := (hb.block w.heap.size (blk_lt (show _ = some (Obj.cells #[.int .i64 k, .int .i64 i, .int .i64 t, .slice A l.length c] 27 (0, 0)) from (by (with_reducible repeat (first | refine blk_drewN ?_ _ | refine blk_drew ?_ | refine blk_alloc ?_ _)); exact HX.out)))).trans (show _ = some (Obj.cells #[.int .i64 k, .int .i64 i, .int .i64 t, .slice A l.length c] 27 (0, 0)) from (by (with_reducible repeat (first | refine blk_drewN ?_ _ | refine blk_drew ?_ | refine blk_alloc ?_ _)); exact HX.out)); clear kb0 kb1 kb2 kb3 fb0 fb1 fb2 fb3; have kb0 := blk_cell hbx 0; have kb1 := blk_cell hbx 1; have kb2 := blk_cell hbx 2; have kb3 := blk_cell hbx 3; have fb0 := blk_frozen hbx 0; have fb1 := blk_frozen hbx 1; have fb2 := blk_frozen hbx 2; have fb3 := blk_frozen hbx 3; have n0_ := Aside0.mk (below_step (by repeat (first | exact HB.out | apply below_alloc | apply pw_below_drewN | apply below_drew1 | refine below_set ?_ (Nat.le_refl _) | refine below_set ?_ (Nat.le_of_lt (by first | exact hlt | omega)))) hb); have n1_ := Aside0.mk hbx; have n2_ := Aside0.mk (Kd.C_below (by (with_reducible repeat (first | apply Kd.C_alloc | apply Kd.C_drewN | apply Kd.C_drew)); exact HC.out) hb); have HR := Aside0.mk (Kd.C_below (C_newB w1 w1.heap.size rfl [k % 256] (by simp)) hb); have hlt2 : w1.heap.size < w2.heap.size := Nat.lt_of_lt_of_le (by simp) hb.size; clear HB HX HC; have HB := n0_; have HX := n1_; have HC := n2_; clear n0_ n1_ n2_ hb hbx; have hlt3 : w.heap.size < w2.heap.size := blk_lt HX.out; have hne3 : (w.heap.size = w2.heap.size) = False := eq_false (by omega); have hne4 : (w2.heap.size = w.heap.size) = False := eq_false (by omega)) | (go_at_call 30; have h_ := HP; clear h_; (refine (wire_Put.calls n (some ⟨w1.heap.size, 0, none⟩) 1 [k % 256] i p1 p2 _ (by (with_reducible repeat (first | apply Kd.C_alloc | apply Kd.C_drewN | apply Kd.C_drew)); exact HR.out) (Nat.le_refl _) HP.out).mono ?_); rintro e w3 ⟨v, rfl, ho, hb⟩; have hbx : w3.heap[w.heap.size]? = some (Obj.cells #[.int .i64 k, .int .i64 i, .int .i64 t, .slice A l.length c] 27 (0, 0)) := (hb.block w.heap.size (blk_lt (show _ = some (Obj.cells #[.int .i64 k, .int .i64 i, .int .i64 t, .slice A l.length c] 27 (0, 0)) from (by (with_reducible repeat (first | refine blk_drewN ?_ _ | refine blk_drew ?_ | refine blk_alloc ?_ _)); exact HX.out)))).trans (show _ = some (Obj.cells #[.int .i64 k, .int .i64 i, .int .i64 t, .slice A l.length c] 27 (0, 0)) from (by (with_reducible repeat (first | refine blk_drewN ?_ _ | refine blk_drew ?_ | refine blk_alloc ?_ _)); exact HX.out)); clear kb0 kb1 kb2 kb3 fb0 fb1 fb2 fb3; have kb0 := blk_cell hbx 0; have kb1 := blk_cell hbx 1; have kb2 := blk_cell hbx 2; have kb3 := blk_cell hbx 3; have fb0 := blk_frozen hbx 0; have fb1 := blk_frozen hbx 1; have fb2 := blk_frozen hbx 2; have fb3 := blk_frozen hbx 3; have n0_ := Aside0.mk (below_step (by repeat (first | exact HB.out | apply below_alloc | apply pw_below_drewN | apply below_drew1 | refine below_set ?_ (Nat.le_refl _) | refine below_set ?_ (Nat.le_of_lt (by first | exact hlt | omega)))) hb); have n1_ := Aside0.mk hbx; have n2_ := Aside0.mk (Kd.C_below (by (with_reducible repeat (first | apply Kd.C_alloc | apply Kd.C_drewN | apply Kd.C_drew)); exact HC.out) hb); obtain ⟨A3, c3, rfl⟩ := Kd.R_slice ho; have hq := Kd.R_reads' ho; have HR3 := Aside0.mk hq.2.2; have HL3 := Aside0.mk hq.2.1;  clear hq ho HP; clear HB HX HC; have HB := n0_; have HX := n1_; have HC := n2_; clear n0_ n1_ n2_ hb hbx) | (go_at_call 31; (refine (stamp_Bytes.calls n A3 c3 p1 A c l r1 r2 _ (by (with_reducible repeat (first | apply Kd.C_alloc | apply Kd.C_drewN | apply Kd.C_drew)); exact HR3.out) HL3.out (by (with_reducible repeat (first | apply Kd.C_alloc | apply Kd.C_drewN | apply Kd.C_drew)); exact HC.out) HL.out HS.out).mono ?_); rintro e w5 ⟨v, rfl, ho, hb⟩; have HO := Aside0.mk (Kd.R_lower ho (below_size (by repeat (first | exact HB.out | apply below_alloc | apply pw_below_drewN | apply below_drew1 | refine below_set ?_ (Nat.le_refl _) | refine below_set ?_ (Nat.le_of_lt (by first | exact hlt | omega)))))); have n0_ := Aside0.mk (below_step (by repeat (first | exact HB.out | apply below_alloc | apply pw_below_drewN | apply below_drew1 | refine below_set ?_ (Nat.le_refl _) | refine below_set ?_ (Nat.le_of_lt (by first | exact hlt | omega)))) hb); clear HB; have HB := n0_; clear n0_ ho hb))
  go_ret2
  exact ⟨_, rfl, by (with_reducible repeat (first | apply Kd.R_alloc | apply Kd.R_drewN | apply Kd.R_drew)); exact HO.out, (by repeat (first | exact HB.out | apply below_alloc | apply pw_below_drewN | apply below_drew1 | refine below_set ?_ (Nat.le_refl _) | refine below_set ?_ (Nat.le_of_lt (by first | exact hlt | omega))))⟩
set_option maxHeartbeats 8000000 in
set_option maxRecDepth 100000 in
theorem own_Bytes_undo (n : Nat) (k i t : Int) (A : Option Addr) (c : Nat) (l : List Int) (p1 : List Int) (p2 : Int) (q1 : List Int) (q2 : Int) (r1 : List Int) (r2 : Int) (w : World) (hC : Kd.C (Kd.int .i64) w A l.length l) (hc : l.length ≤ c) (h : event_Check.f k i t l = some 0) (hV : ofV k i t = .iface 64 (.agg #[.int .i64 i, .int .i64 t])) (hp : wire_Put.f n [k % 256] i = some (p1, p2)) (hq : wire_Put.f n p1 t = some (q1, q2)) (hs : stamp_Bytes.f n q1 l = some (r1, r2)) :
    Calls Tryd.prog 11 #[.agg #[.int .i64 k, .int .i64 i, .int .i64 t, .slice A l.length c]] w fun e w' => ∃ v0_ : Value, e = .returned (.tuple #[v0_, .int .i64 r2]) ∧ Kd.R (Kd.int .u8) 5 w' w.heap.size (fun _ => True) v0_ r1 ∧ Below w.heap.size w w' := by
  have HC := Aside0.mk hC
  have HL := Aside0.mk hc
  have HH := Aside0.mk h
  clear hC hc h
  have HV := Aside0.mk hV
  have HP := Aside0.mk hp
  have HQ := Aside0.mk hq
  have HS := Aside0.mk hs
  clear hV hp hq hs
  go_enter Tryd.func11, Tryd.ntmps11
  go_wp2_with (first | (go_at_call 14; (refine (event_Check.calls k i t A c l 0 _ (by (with_reducible repeat (first | apply Kd.C_alloc | apply Kd.C_drewN | apply Kd.C_drew)); exact HC.out) HL.out HH.out).mono ?_); rintro e w1 ⟨rfl, hb⟩; have hbx := (hb.block w.heap.size (by simp)).trans (heap_newE w (.cells _ 27)); have kb0 := blk_cell hbx 0; have kb1 := blk_cell hbx 1; have kb2 := blk_cell hbx 2; have kb3 := blk_cell hbx 3; have fb0 := blk_frozen hbx 0; have fb1 := blk_frozen hbx 1; have fb2 := blk_frozen hbx 2; have fb3 := blk_frozen hbx 3; have HB := Aside0.mk (below_step (below_alloc (Below.refl _ _) _) hb); have HX := Aside0.mk hbx; have HC1 := Aside0.mk (Kd.C_below HC.out HB.out); clear HC; have HC := HC1; clear HC1; have hlt : w.heap.size < w1.heap.size := blk_lt hbx; have hne : (w.heap.size = w1.heap.size) = False := eq_false (by omega); have hne2 : (w1.heap.size = w.heap.size) = False := eq_false (by omega); clear hb hbx) | (go_at_call 29; (refine (own_ofB k i t _ rfl _ HV.out).mono ?_); rintro e w2 ⟨rfl, hb⟩; have hbx : w2.heap[w.heap.size]? = some (Obj.cells #[.int .i64 k, .int .i64 i, .int .i64 t, .slice A l.length c] 27 (0, 0)) := (hb.block w.heap.size (blk_lt (show _ = some (Obj.cells #[.int .i64 k, .int .i64 i, .int .i64 t, .slice A l.length c] 27 (0, 0)) from (by (with_reducible repeat (first | refine blk_drewN ?_ _ | refine blk_drew ?_ | refine blk_alloc ?_ _)); exact HX.out)))).trans (show _ = some (Obj.cells #[.int .i64 k, .int .i64 i, .int .i64 t, .slice A l.length c] 27 (0, 0)) from (by (with_reducible repeat (first | refine blk_drewN ?_ _ | refine blk_drew ?_ | refine blk_alloc ?_ _)); exact HX.out)); clear kb0 kb1 kb2 kb3 fb0 fb1 fb2 fb3; have kb0 := blk_cell hbx 0; have kb1 := blk_cell hbx 1; have kb2 := blk_cell hbx 2; have kb3 := blk_cell hbx 3; have fb0 := blk_frozen hbx 0; have fb1 := blk_frozen hbx 1; have fb2 := blk_frozen hbx 2; have fb3 := blk_frozen hbx 3; have n0_ := Aside0.mk (below_step (by repeat (first | exact HB.out | apply below_alloc | apply pw_below_drewN | apply below_drew1 | refine below_set ?_ (Nat.le_refl _) | refine below_set ?_ (Nat.le_of_lt (by first | exact hlt | omega)))) hb); have n1_ := Aside0.mk hbx; have n2_ := Aside0.mk (Kd.C_below (by (with_reducible repeat (first | apply Kd.C_alloc | apply Kd.C_drewN | apply Kd.C_drew)); exact HC.out) hb); have HR := Aside0.mk (Kd.C_below (C_newB w1 w1.heap.size rfl [k % 256] (by simp)) hb); have hlt2 : w1.heap.size < w2.heap.size := Nat.lt_of_lt_of_le (by simp) hb.size; clear HB HX HC; have HB := n0_; have HX := n1_; have HC := n2_; clear n0_ n1_ n2_ hb hbx; have hlt3 : w.heap.size < w2.heap.size := blk_lt HX.out; have hne3 : (w.heap.size = w2.heap.size) = False := eq_false (by omega); have hne4 : (w2.heap.size = w.heap.size) = False := eq_false (by omega)) | (go_at_call 30; have h_ := HP; clear h_; (refine (wire_Put.calls n (some ⟨w1.heap.size, 0, none⟩) 1 [k % 256] i p1 p2 _ (by (with_reducible repeat (first | apply Kd.C_alloc | apply Kd.C_drewN | apply Kd.C_drew)); exact HR.out) (Nat.le_refl _) HP.out).mono ?_); rintro e w3 ⟨v, rfl, ho, hb⟩; have hbx : w3.heap[w.heap.size]? = some (Obj.cells #[.int .i64 k, .int .i64 i, .int .i64 t, .slice A l.length c] 27 (0, 0)) := (hb.block w.heap.size (blk_lt (show _ = some (Obj.cells #[.int .i64 k, .int .i64 i, .int .i64 t, .slice A l.length c] 27 (0, 0)) from (by (with_reducible repeat (first | refine blk_drewN ?_ _ | refine blk_drew ?_ | refine blk_alloc ?_ _)); exact HX.out)))).trans (show _ = some (Obj.cells #[.int .i64 k, .int .i64 i, .int .i64 t, .slice A l.length c] 27 (0, 0)) from (by (with_reducible repeat (first | refine blk_drewN ?_ _ | refine blk_drew ?_ | refine blk_alloc ?_ _)); exact HX.out)); clear kb0 kb1 kb2 kb3 fb0 fb1 fb2 fb3; have kb0 := blk_cell hbx 0; have kb1 := blk_cell hbx 1; have kb2 := blk_cell hbx 2; have kb3 := blk_cell hbx 3; have fb0 := blk_frozen hbx 0; have fb1 := blk_frozen hbx 1; have fb2 := blk_frozen hbx 2; have fb3 := blk_frozen hbx 3; have n0_ := Aside0.mk (below_step (by repeat (first | exact HB.out | apply below_alloc | apply pw_below_drewN | apply below_drew1 | refine below_set ?_ (Nat.le_refl _) | refine below_set ?_ (Nat.le_of_lt (by first | exact hlt | omega)))) hb); have n1_ := Aside0.mk hbx; have n2_ := Aside0.mk (Kd.C_below (by (with_reducible repeat (first | apply Kd.C_alloc | apply Kd.C_drewN | apply Kd.C_drew)); exact HC.out) hb); obtain ⟨A3, c3, rfl⟩ := Kd.R_slice ho; have hq := Kd.R_reads' ho; have HR3 := Aside0.mk hq.2.2; have HL3 := Aside0.mk hq.2.1; have c71 : w3.cell? ⟨w2.heap.size, 1, none⟩ = some (.int .i64 t) := (by rw [World.cell?_of_block (hb.block w2.heap.size (by simp))]; go_simp); clear hq ho HP; clear HB HX HC; have HB := n0_; have HX := n1_; have HC := n2_; clear n0_ n1_ n2_ hb hbx) | (go_at_call 30; have h_ := HR3; clear h_; (refine (wire_Put.calls n A3 c3 p1 t q1 q2 _ (by (with_reducible repeat (first | apply Kd.C_alloc | apply Kd.C_drewN | apply Kd.C_drew)); exact HR3.out) HL3.out HQ.out).mono ?_); rintro e w4 ⟨v, rfl, ho, hb⟩; have hbx : w4.heap[w.heap.size]? = some (Obj.cells #[.int .i64 k, .int .i64 i, .int .i64 t, .slice A l.length c] 27 (0, 0)) := (hb.block w.heap.size (blk_lt (show _ = some (Obj.cells #[.int .i64 k, .int .i64 i, .int .i64 t, .slice A l.length c] 27 (0, 0)) from (by (with_reducible repeat (first | refine blk_drewN ?_ _ | refine blk_drew ?_ | refine blk_alloc ?_ _)); exact HX.out)))).trans (show _ = some (Obj.cells #[.int .i64 k, .int .i64 i, .int .i64 t, .slice A l.length c] 27 (0, 0)) from (by (with_reducible repeat (first | refine blk_drewN ?_ _ | refine blk_drew ?_ | refine blk_alloc ?_ _)); exact HX.out)); clear kb0 kb1 kb2 kb3 fb0 fb1 fb2 fb3; have kb0 := blk_cell hbx 0; have kb1 := blk_cell hbx 1; have kb2 := blk_cell hbx 2; have kb3 := blk_cell hbx 3; have fb0 := blk_frozen hbx 0; have fb1 := blk_frozen hbx 1; have fb2 := blk_frozen hbx 2; have fb3 := blk_frozen hbx 3; have n0_ := Aside0.mk (below_step (by repeat (first | exact HB.out | apply below_alloc | apply pw_below_drewN | apply below_drew1 | refine below_set ?_ (Nat.le_refl _) | refine below_set ?_ (Nat.le_of_lt (by first | exact hlt | omega)))) hb); have n1_ := Aside0.mk hbx; have n2_ := Aside0.mk (Kd.C_below (by (with_reducible repeat (first | apply Kd.C_alloc | apply Kd.C_drewN | apply Kd.C_drew)); exact HC.out) hb); obtain ⟨A4, c4, rfl⟩ := Kd.R_slice ho; have hq := Kd.R_reads' ho; have HR4 := Aside0.mk hq.2.2; have HL4 := Aside0.mk hq.2.1; clear hq ho; clear HB HX HC; have HB := n0_; have HX := n1_; have HC := n2_; clear n0_ n1_ n2_ hb hbx) | (go_at_call 31; (refine (stamp_Bytes.calls n A4 c4 q1 A c l r1 r2 _ (by (with_reducible repeat (first | apply Kd.C_alloc | apply Kd.C_drewN | apply Kd.C_drew)); exact HR4.out) HL4.out (by (with_reducible repeat (first | apply Kd.C_alloc | apply Kd.C_drewN | apply Kd.C_drew)); exact HC.out) HL.out HS.out).mono ?_); rintro e w5 ⟨v, rfl, ho, hb⟩; have HO := Aside0.mk (Kd.R_lower ho (below_size (by repeat (first | exact HB.out | apply below_alloc | apply pw_below_drewN | apply below_drew1 | refine below_set ?_ (Nat.le_refl _) | refine below_set ?_ (Nat.le_of_lt (by first | exact hlt | omega)))))); have n0_ := Aside0.mk (below_step (by repeat (first | exact HB.out | apply below_alloc | apply pw_below_drewN | apply below_drew1 | refine below_set ?_ (Nat.le_refl _) | refine below_set ?_ (Nat.le_of_lt (by first | exact hlt | omega)))) hb); clear HB; have HB := n0_; clear n0_ ho hb))
  go_ret2
  exact ⟨_, rfl, by (with_reducible repeat (first | apply Kd.R_alloc | apply Kd.R_drewN | apply Kd.R_drew)); exact HO.out, (by repeat (first | exact HB.out | apply below_alloc | apply pw_below_drewN | apply below_drew1 | refine below_set ?_ (Nat.le_refl _) | refine below_set ?_ (Nat.le_of_lt (by first | exact hlt | omega))))⟩
theorem event_Bytes.calls (k : Nat) (a0_0 : Int) (a0_1 : Int) (a0_2 : Int) (A0_3 : Option Addr) (c0_3 : Nat) (l0_3 : List Int) (r1 : List Int) (r2 : Int) (w : World) (hr0_3 : Kd.C (Kd.int .i64) w A0_3 l0_3.length l0_3) (hc0_3 : l0_3.length ≤ c0_3) (h : event_Bytes.f k a0_0 a0_1 a0_2 l0_3 = some (r1, r2)) :
    Calls Tryd.prog 11 #[.agg #[.int .i64 a0_0, .int .i64 a0_1, .int .i64 a0_2, .slice A0_3 l0_3.length c0_3]] w fun e w' => ∃ v0_ : Value, e = .returned (.tuple #[v0_, .int .i64 r2]) ∧ Kd.R (Kd.int .u8) 5 w' w.heap.size (fun _ => True) v0_ r1 ∧ Below w.heap.size w w' := by
  unfold event_Bytes.f at h
  obtain ⟨cc, hcc, h⟩ := Option.bind_eq_some_iff.mp h
  by_cases h0 : cc = 0
  · subst h0
    rw [if_pos rfl] at h
    obtain ⟨⟨p1, p2⟩, hp, h⟩ := Option.bind_eq_some_iff.mp h
    by_cases h2 : isUndo a0_0 a0_1 a0_2
    · rw [if_pos h2] at h
      obtain ⟨⟨q1, q2⟩, hq, h⟩ := Option.bind_eq_some_iff.mp h
      have hn : ¬ isStep a0_0 a0_1 a0_2 := by unfold isStep; unfold isUndo at h2; omega
      exact own_Bytes_undo k a0_0 a0_1 a0_2 A0_3 c0_3 l0_3 p1 p2 q1 q2 r1 r2 w hr0_3 hc0_3 hcc (by unfold ofV; rw [if_neg hn, if_pos h2]) hp hq h
    · rw [if_neg h2] at h
      have h1 : isStep a0_0 a0_1 a0_2 := by
        refine Decidable.of_not_not fun hn => ?_
        unfold event_Check.f at hcc
        rw [if_neg (fun h => h.elim hn h2)] at hcc
        exact absurd hcc (by simp)
      exact own_Bytes_step k a0_0 a0_1 a0_2 A0_3 c0_3 l0_3 p1 p2 r1 r2 w hr0_3 hc0_3 hcc (by unfold ofV; rw [if_pos h1]) hp h
  · rw [if_neg h0] at h
    obtain ⟨rfl, rfl⟩ := Prod.mk.inj (Option.some.inj h)
    exact own_Bytes_bad k a0_0 a0_1 a0_2 A0_3 c0_3 l0_3 cc w hr0_3 hc0_3 hcc h0
end

/-! ### strconv_Itoa: function 32 -/
/-- The library's table of powers of ten reads as its text lays it. -/
def TabOk (w : World) : Prop := Lib.TabIs Tryd.prog w (Rows.eventReadsRow.named.getD 0 default) .u64 Lib.pow10Tab
theorem TabOk.below {w w1 : World} (h : TabOk w) (hb : Below w.heap.size w w1) : TabOk w1 := by
  unfold TabOk Lib.TabIs World.var? at h ⊢
  obtain ⟨g, hg, h⟩ := Option.bind_eq_some_iff.1 h
  rw [hg, Option.bind_some]
  have hlt : g < w.heap.size := by
    refine Decidable.of_not_not fun hn => ?_
    rw [Array.getElem?_eq_none (by omega)] at h
    cases h
  rw [hb.block g hlt]
  exact h
/-- A number's text, by the library. -/
def itoaB (n : Int) : ByteArray := ⟨(Lib.itoa n).toArray⟩
def numI (n : Int) : Bool := decide (-9223372036854775808 ≤ n) && decide (n ≤ 9223372036854775807)
def strconv_Itoa.f (a0 : Int) : Option (ByteArray) := if numI a0 = true then some (itoaB a0) else none
theorem below_grow (w : World) (k : Nat) (os : Array Obj) : Below w.heap.size w (Sort.grow (w.drewN k) os) :=
  ⟨rfl, rfl, rfl, by show w.heap.size ≤ (w.heap ++ os).size; rw [Array.size_append]; omega, fun _ hj => Sort.heap_grow_old (w.drewN k) os hj⟩
theorem strconv_Itoa.calls (a0 : Int) (r : ByteArray) (w : World) (hT : TabOk w) (h : strconv_Itoa.f a0 = some r) :
    Calls Tryd.prog 32 #[.int .i64 a0] w fun e w' => e = .returned (.string r) ∧ Below w.heap.size w w' := by
  unfold strconv_Itoa.f at h
  by_cases hn : numI a0 = true
  · rw [if_pos hn] at h
    unfold numI at hn
    simp only [Bool.and_eq_true, decide_eq_true_eq] at hn
    obtain rfl := Option.some.inj h
    refine (Any.strconv_Itoa Tryd.laysM171 a0 hn.1 hn.2 w hT).mono ?_
    rintro e w' ⟨rfl, k, os, rfl⟩
    exact ⟨rfl, below_grow _ _ _⟩
  · rw [if_neg hn] at h
    exact absurd h (by simp)


/-! ### event_word: function 33 -/
def event_word.f (a0 : Int) : Option (ByteArray) := if a0 = 1 then (some (⟨#[115, 116, 97, 114, 116]⟩ : ByteArray)) else (if a0 = 2 then (some (⟨#[111, 107]⟩ : ByteArray)) else (if a0 = 3 then (some (⟨#[102, 97, 105, 108]⟩ : ByteArray)) else (if a0 = 4 then (some (⟨#[117, 110, 100, 111]⟩ : ByteArray)) else (if a0 = 5 then (some (⟨#[117, 110, 100, 111, 110, 101]⟩ : ByteArray)) else (some (⟨#[115, 108, 105, 112]⟩ : ByteArray))))))
set_option maxHeartbeats 8000000 in
set_option maxRecDepth 100000 in
theorem event_word.calls (a0 : Int) (r : ByteArray) (w : World) (h : event_word.f a0 = some r) :
    Calls Tryd.prog 33 #[.int .i64 a0] w fun e w' => e = .returned (.string r) ∧ Drawn0 w w' := by
  have H : (if a0 = 1 then (some (⟨#[115, 116, 97, 114, 116]⟩ : ByteArray)) else (if a0 = 2 then (some (⟨#[111, 107]⟩ : ByteArray)) else (if a0 = 3 then (some (⟨#[102, 97, 105, 108]⟩ : ByteArray)) else (if a0 = 4 then (some (⟨#[117, 110, 100, 111]⟩ : ByteArray)) else (if a0 = 5 then (some (⟨#[117, 110, 100, 111, 110, 101]⟩ : ByteArray)) else (some (⟨#[115, 108, 105, 112]⟩ : ByteArray))))))) = some r := h
  clear h
  by_cases c2 : a0 = 1
  · rw [if_pos c2] at H
    have c2b0 : (a0 == 1) = true := beq_iff_eq.mpr c2
    have c2b1 : (a0 != 1) = false := bne_eq_false_iff_eq.mpr c2
    clear c2
    obtain rfl := Option.some.inj H
    go_enter Tryd.func33, Tryd.ntmps33
    go_wp2
    go_ret
    exact ⟨by first | rfl | (simp; done) | (simp [*]; done), by repeat (first | exact Drawn0.refl _ | apply Drawn0.step)⟩
  · rw [if_neg c2] at H
    have c2b0 : (a0 == 1) = false := beq_eq_false_iff_ne.mpr c2
    have c2b1 : (a0 != 1) = true := bne_iff_ne.mpr c2
    by_cases c3 : a0 = 2
    · rw [if_pos c3] at H
      have c3b0 : (a0 == 2) = true := beq_iff_eq.mpr c3
      have c3b1 : (a0 != 2) = false := bne_eq_false_iff_eq.mpr c3
      clear c3
      obtain rfl := Option.some.inj H
      go_enter Tryd.func33, Tryd.ntmps33
      go_wp2
      go_ret
      exact ⟨by first | rfl | (simp; done) | (simp [*]; done), by repeat (first | exact Drawn0.refl _ | apply Drawn0.step)⟩
    · rw [if_neg c3] at H
      have c3b0 : (a0 == 2) = false := beq_eq_false_iff_ne.mpr c3
      have c3b1 : (a0 != 2) = true := bne_iff_ne.mpr c3
      by_cases c4 : a0 = 3
      · rw [if_pos c4] at H
        have c4b0 : (a0 == 3) = true := beq_iff_eq.mpr c4
        have c4b1 : (a0 != 3) = false := bne_eq_false_iff_eq.mpr c4
        clear c4
        obtain rfl := Option.some.inj H
        go_enter Tryd.func33, Tryd.ntmps33
        go_wp2
        go_ret
        exact ⟨by first | rfl | (simp; done) | (simp [*]; done), by repeat (first | exact Drawn0.refl _ | apply Drawn0.step)⟩
      · rw [if_neg c4] at H
        have c4b0 : (a0 == 3) = false := beq_eq_false_iff_ne.mpr c4
        have c4b1 : (a0 != 3) = true := bne_iff_ne.mpr c4
        by_cases c5 : a0 = 4
        · rw [if_pos c5] at H
          have c5b0 : (a0 == 4) = true := beq_iff_eq.mpr c5
          have c5b1 : (a0 != 4) = false := bne_eq_false_iff_eq.mpr c5
          clear c5
          obtain rfl := Option.some.inj H
          go_enter Tryd.func33, Tryd.ntmps33
          go_wp2
          go_ret
          exact ⟨by first | rfl | (simp; done) | (simp [*]; done), by repeat (first | exact Drawn0.refl _ | apply Drawn0.step)⟩
        · rw [if_neg c5] at H
          have c5b0 : (a0 == 4) = false := beq_eq_false_iff_ne.mpr c5
          have c5b1 : (a0 != 4) = true := bne_iff_ne.mpr c5
          by_cases c6 : a0 = 5
          · rw [if_pos c6] at H
            have c6b0 : (a0 == 5) = true := beq_iff_eq.mpr c6
            have c6b1 : (a0 != 5) = false := bne_eq_false_iff_eq.mpr c6
            clear c6
            obtain rfl := Option.some.inj H
            go_enter Tryd.func33, Tryd.ntmps33
            go_wp2
            go_ret
            exact ⟨by first | rfl | (simp; done) | (simp [*]; done), by repeat (first | exact Drawn0.refl _ | apply Drawn0.step)⟩
          · rw [if_neg c6] at H
            have c6b0 : (a0 == 5) = false := beq_eq_false_iff_ne.mpr c6
            have c6b1 : (a0 != 5) = true := bne_iff_ne.mpr c6
            obtain rfl := Option.some.inj H
            go_enter Tryd.func33, Tryd.ntmps33
            go_wp2
            go_ret
            exact ⟨by first | rfl | (simp; done) | (simp [*]; done), by repeat (first | exact Drawn0.refl _ | apply Drawn0.step)⟩

/-! ### strings_Join: function 34 -/
/-- A call of Join: the elements, one behind the other. -/
def joinB (l : List ByteArray) (sep : ByteArray) : ByteArray := ⟨(Lib.join (l.map (·.data.toList)) sep.data.toList).toArray⟩
def strings_Join.f (l0 : List ByteArray) (a1 : ByteArray) : Option (ByteArray) := if (joinB l0 a1).size ≤ 140737488355328 ∧ l0.length ≤ 140737488355328 then some (joinB l0 a1) else none
theorem strings_Join.calls (A0 : Option Addr) (c0 : Nat) (l0 : List ByteArray) (a1 : ByteArray) (r : ByteArray) (w : World) (hr0 : Kd.C Kd.string w A0 l0.length l0) (hc0 : l0.length ≤ c0) (h : strings_Join.f l0 a1 = some r) :
    Calls Tryd.prog 34 #[.slice A0 l0.length c0, .string a1] w fun e w' => e = .returned (.string r) ∧ Below w.heap.size w w' := by
  unfold strings_Join.f at h
  by_cases hn : (joinB l0 a1).size ≤ 140737488355328 ∧ l0.length ≤ 140737488355328
  · rw [if_pos hn] at h
    obtain rfl := Option.some.inj h
    cases l0 with
    | nil =>
      refine (Tryd.strings_Join_none A0 c0 a1 w).mono ?_
      rintro e w' ⟨rfl, rfl⟩
      exact ⟨rfl, Below.refl _ _⟩
    | cons x l =>
      obtain ⟨ad, rfl, hx⟩ := Kd.at_string hr0 0 (by omega) (by simp)
      obtain ⟨b, o, rfl, hlt⟩ : ∃ b o, ad = ⟨b, o, none⟩ ∧ b < w.heap.size := by
        obtain ⟨b, o, sp⟩ := ad
        have hx1 : w.cell? ⟨b, o, sp⟩ = some (.string (rdOf ByteArray.empty (x :: l) 0)) := hx
        unfold World.cell? at hx1
        cases hb : w.heap[b]? with
        | none => simp only [hb] at hx1; exact absurd hx1 (by simp)
        | some ob =>
          have hlt := (Array.getElem?_eq_some_iff.1 hb).1
          cases sp with
          | none => exact ⟨b, o, rfl, hlt⟩
          | some k =>
            simp only [hb] at hx1
            cases ob <;> simp at hx1
      have hcells : ∀ (j : Nat) y, (x :: l)[j]? = some y → w.cell? ⟨b, o + j, none⟩ = some (.string y) := by
        intro j y hy
        obtain ⟨hj, hjy⟩ := List.getElem?_eq_some_iff.1 hy
        obtain ⟨ad2, e2, hx2⟩ := Kd.at_string hr0 (j : Int) (by omega) (by omega)
        obtain rfl := Option.some.inj e2
        rw [Int.toNat_natCast, add_at] at hx2
        rw [hx2]
        congr 2
        unfold rdOf
        rw [Int.toNat_natCast, List.getD_eq_getElem?_getD, hy]
        rfl
      refine (Tryd.strings_Join b o c0 (x :: l) a1 w hcells hlt hn.2 hc0 ?_).mono ?_
      · have := hn.1
        unfold joinB at this
        simpa [ByteArray.size] using this
      · rintro e w' ⟨rfl, hb⟩
        exact ⟨rfl, hb⟩
  · rw [if_neg hn] at h
    exact absurd h (by simp)

end Go.Proofs.YtclkdnpfiolahaaDoor.PEventBack
