-- Written by a patched print (wip/mkprint.py), for this claim.
import Derived.Test.YtbkdogijkfampaaPMergeLessx0
namespace Go.Proofs.Ytbkdogijkfampaa.PMergeLess
open Go.RowKit Go.Proofs.YtbkdogijkfampaaW.PrintWords Go.Proofs.YtbkdogijkfampaaW.PrintLast Go.Proofs.YtbkdogijkfampaaW.PrintMore
attribute [local go_sem] max2_int min2_int max_two min_two max_three min_three max_four min_four   -- for this text's walks alone
set_option linter.unusedVariables false
set_option linter.unusedSimpArgs false

/-! ### argosylaw12_few: function 9 -/
def argosylaw12_few.l0 : Nat → List (List (S45)) → Int → Int → Option (Bool)
  | 0, _, _, _ => none
  | k + 1, x0, x3, x4 => if x4 < (x0.length : Int) then (if x3 ≤ 150 then (if 0 ≤ x4 then (argosylaw12_few.l0 k x0 (wrap64 (x3 + ((rd_L3 x0 x4).length : Int))) (wrap64 (x4 + 1))) else (none)) else (some (decide (x3 ≤ 150)))) else (some (decide (x3 ≤ 150)))
def argosylaw12_few.f (k : Nat) (l0 : List (List (S45))) : Option (Bool) := if (l0.length : Int) > 70 then (some false) else (argosylaw12_few.l0 k l0 0 0)
theorem argosylaw12_few.mono_l : ∀ k, (∀ y0 y1 y2, LeO (argosylaw12_few.l0 k y0 y1 y2) (argosylaw12_few.l0 (k + 1) y0 y1 y2))
  | 0 => fun _ _ _ r h => by simp [argosylaw12_few.l0] at h
  | k + 1 => by
    have ih0 := argosylaw12_few.mono_l k
    · intro y0 y1 y2
      unfold argosylaw12_few.l0
      repeat' first
      | (with_reducible exact ih0 _ _ _)
      | (with_reducible exact LeO.refl _)
      | (with_reducible exact LeO.none _)
      | (with_reducible refine LeO.ite ?_ ?_)
      | (with_reducible refine LeO.bind ?_ (fun _ => ?_))
      | exact ih0 _ _ _
      | exact LeO.none _
      | refine LeO.ite ?_ ?_
      | refine LeO.bind ?_ (fun _ => ?_)
theorem argosylaw12_few.mono : ∀ a0 k, LeO (argosylaw12_few.f k a0) (argosylaw12_few.f (k + 1) a0) := by
  intro a0 k
  have ih0 := argosylaw12_few.mono_l k
  unfold argosylaw12_few.f
  repeat' first
      | (with_reducible exact ih0 _ _ _)
      | (with_reducible exact LeO.refl _)
      | (with_reducible exact LeO.none _)
      | (with_reducible refine LeO.ite ?_ ?_)
      | (with_reducible refine LeO.bind ?_ (fun _ => ?_))
      | exact ih0 _ _ _
      | exact LeO.none _
      | refine LeO.ite ?_ ?_
      | refine LeO.bind ?_ (fun _ => ?_)
set_option maxHeartbeats 8000000 in
set_option maxRecDepth 100000 in
theorem argosylaw12_few.calls (k : Nat) (A0 : Option Addr) (c0 : Nat) (l0 : List (List (S45))) (r : Bool) (w : World) (hr0 : Kd.C (Kd.slice 45 k45) w A0 l0.length l0) (hc0 : l0.length ≤ c0) (h : argosylaw12_few.f k l0 = some r) :
    Calls Try.prog 9 #[.slice A0 l0.length c0] w fun e w' => e = .returned (.bool r) ∧ Drawn0 w w' := by
  have HR0 := Aside0.mk hr0
  have HC0 := Aside0.mk hc0
  clear hr0 hc0
  have H : (if (l0.length : Int) > 70 then (some false) else (argosylaw12_few.l0 k l0 0 0)) = some r := h
  clear h
  by_cases c2 : (l0.length : Int) > 70
  · rw [if_pos c2] at H
    have c2b0 : decide (70 < (l0.length : Int)) = true := decide_eq_true c2
    have c2b1 : decide (70 < l0.length) = true := decide_eq_true (by omega)
    clear c2
    obtain rfl := Option.some.inj H
    go_enter Try.func9, Try.ntmps9
    go_wp2
    go_ret
    exact ⟨by first | rfl | (simp; done) | (simp [*]; done), by repeat (first | exact Drawn0.refl _ | apply Drawn0.step)⟩
  · rw [if_neg c2] at H
    have c2b0 : decide (70 < (l0.length : Int)) = false := decide_eq_false c2
    have c2b1 : decide (70 < l0.length) = false := decide_eq_false (by omega)
    clear c2
    have H' := Aside0.mk H
    clear H
    go_enter Try.func9, Try.ntmps9
    go_wp2
    go_loopg [3, 4] k (fun kq v3 v4 w' => ∃ (x3_1 : Int) (x4_1 : Int), v3 = .int .i64 x3_1 ∧ v4 = .int .i64 x4_1 ∧ Aside0 (argosylaw12_few.l0 kq l0 x3_1 x4_1 = some r) ∧ Aside0 (kq ≤ k) ∧ Drawn0 w w')
    case atStart => exact ⟨(0), (0), (by first | rfl | (simp; done) | (simp [*]; done)), (by first | rfl | (simp; done) | (simp [*]; done)), H', ⟨Nat.le_refl _⟩, by repeat (first | exact Drawn0.refl _ | apply Drawn0.step)⟩
    case round =>
      clear H'
      try clear c2
      try clear c2b0
      try clear c2b1
      try clear p2
      obtain ⟨x3_1, x4_1, rfl, rfl, HA, HK1, ⟨m1, rfl⟩⟩ := hrel
      cases gk with
      | zero => exact absurd HA.out (by simp [argosylaw12_few.l0])
      | succ k1 =>
        have H := HA.out
        clear HA
        simp only [argosylaw12_few.l0] at H
        by_cases c3 : x4_1 < (l0.length : Int)
        · rw [if_pos c3] at H
          have c3b0 : decide (x4_1 < (l0.length : Int)) = true := decide_eq_true c3
          clear c3
          by_cases c4 : x3_1 ≤ 150
          · rw [if_pos c4] at H
            have c4b0 : decide (x3_1 ≤ 150) = true := decide_eq_true c4
            clear c4
            by_cases c5 : 0 ≤ x4_1
            · rw [if_pos c5] at H
              have c5b0 : decide (0 ≤ x4_1) = true := decide_eq_true c5
              clear c5
              have H' := Aside0.mk H
              clear H
              have p101 : 0 ≤ (x4_1 : Int) := of_decide_eq_true (by first | (with_reducible assumption) | assumption)
              have q101 : x4_1 < (l0.length : Int) := of_decide_eq_true (by first | (with_reducible assumption) | assumption)
              obtain ⟨ad101, A101_0, c101_0, e101, hx101_0, hl101_0, hi101_0⟩ := at_L3 HR0.out x4_1 p101 q101
              cases e101
              have HR101_0 := Aside0.mk hi101_0
              have HC101_0 := Aside0.mk hl101_0
              clear hi101_0 hl101_0
              replace p101 := eq_true p101
              replace q101 := eq_true q101
              go_wp2
              go_roundg k1
              case measure => have := HK1.out; omega
              case rel => exact ⟨(wrap64 (x3_1 + ((rd_L3 l0 x4_1).length : Int))), (wrap64 (x4_1 + 1)), (by first | rfl | (simp; done) | (simp [*]; done)), (by first | rfl | (simp; done) | (simp [*]; done)), H', ⟨by have := HK1.out; omega⟩, by repeat (first | exact Drawn0.refl _ | apply Drawn0.step)⟩
            · rw [if_neg c5] at H
              exact absurd H (by simp)
          · rw [if_neg c4] at H
            have c4b0 : decide (x3_1 ≤ 150) = false := decide_eq_false c4
            clear c4
            obtain rfl := Option.some.inj H
            go_wp2
            go_ret
            exact ⟨by first | rfl | (simp; done) | (simp [*]; done), by repeat (first | exact Drawn0.refl _ | apply Drawn0.step)⟩
        · rw [if_neg c3] at H
          have c3b0 : decide (x4_1 < (l0.length : Int)) = false := decide_eq_false c3
          clear c3
          obtain rfl := Option.some.inj H
          go_wp2
          go_ret
          exact ⟨by first | rfl | (simp; done) | (simp [*]; done), by repeat (first | exact Drawn0.refl _ | apply Drawn0.step)⟩

/-! ### merge_is: function 24 -/
def merge_is.f (a0 : Int) : Option (Bool) := if a0 ≥ 1 then (some (decide (a0 ≤ 64))) else (some false)
set_option maxHeartbeats 8000000 in
set_option maxRecDepth 100000 in
theorem merge_is.calls (a0 : Int) (r : Bool) (w : World) (h : merge_is.f a0 = some r) :
    Calls Try.prog 24 #[.int .i64 a0] w fun e w' => e = .returned (.bool r) ∧ Drawn0 w w' := by
  have H : (if a0 ≥ 1 then (some (decide (a0 ≤ 64))) else (some false)) = some r := h
  clear h
  by_cases c2 : a0 ≥ 1
  · rw [if_pos c2] at H
    have c2b0 : decide (1 ≤ a0) = true := decide_eq_true c2
    clear c2
    obtain rfl := Option.some.inj H
    go_enter Try.func24, Try.ntmps24
    go_wp2
    go_ret
    exact ⟨by first | rfl | (simp; done) | (simp [*]; done), by repeat (first | exact Drawn0.refl _ | apply Drawn0.step)⟩
  · rw [if_neg c2] at H
    have c2b0 : decide (1 ≤ a0) = false := decide_eq_false c2
    clear c2
    obtain rfl := Option.some.inj H
    go_enter Try.func24, Try.ntmps24
    go_wp2
    go_ret
    exact ⟨by first | rfl | (simp; done) | (simp [*]; done), by repeat (first | exact Drawn0.refl _ | apply Drawn0.step)⟩

/-! ### stamp_At: function 41 -/
def stamp_At.f (l0 : List Int) (a1 : Int) : Option (Int) := if a1 < 0 then (some 0) else (if a1 ≥ (l0.length : Int) then (some 0) else (if 0 ≤ a1 then (if a1 < (l0.length : Int) then (some (rd l0 a1)) else (none)) else (none)))
set_option maxHeartbeats 8000000 in
set_option maxRecDepth 100000 in
theorem stamp_At.calls (A0 : Option Addr) (c0 : Nat) (l0 : List Int) (a1 : Int) (r : Int) (w : World) (hr0 : Kd.C (Kd.int .i64) w A0 l0.length l0) (hc0 : l0.length ≤ c0) (h : stamp_At.f l0 a1 = some r) :
    Calls Try.prog 41 #[.slice A0 l0.length c0, .int .i64 a1] w fun e w' => e = .returned (.int .i64 r) ∧ Drawn0 w w' := by
  have HR0 := Aside0.mk hr0
  have HC0 := Aside0.mk hc0
  clear hr0 hc0
  have H : (if a1 < 0 then (some 0) else (if a1 ≥ (l0.length : Int) then (some 0) else (if 0 ≤ a1 then (if a1 < (l0.length : Int) then (some (rd l0 a1)) else (none)) else (none)))) = some r := h
  clear h
  by_cases c3 : a1 < 0
  · rw [if_pos c3] at H
    have c3b0 : decide (a1 < 0) = true := decide_eq_true c3
    clear c3
    obtain rfl := Option.some.inj H
    go_enter Try.func41, Try.ntmps41
    go_wp2
    go_ret
    exact ⟨by first | rfl | (simp; done) | (simp [*]; done), by repeat (first | exact Drawn0.refl _ | apply Drawn0.step)⟩
  · rw [if_neg c3] at H
    have c3b0 : decide (a1 < 0) = false := decide_eq_false c3
    clear c3
    by_cases c4 : a1 ≥ (l0.length : Int)
    · rw [if_pos c4] at H
      have c4b0 : decide ((l0.length : Int) ≤ a1) = true := decide_eq_true c4
      clear c4
      obtain rfl := Option.some.inj H
      go_enter Try.func41, Try.ntmps41
      go_wp2
      go_ret
      exact ⟨by first | rfl | (simp; done) | (simp [*]; done), by repeat (first | exact Drawn0.refl _ | apply Drawn0.step)⟩
    · rw [if_neg c4] at H
      have c4b0 : decide ((l0.length : Int) ≤ a1) = false := decide_eq_false c4
      clear c4
      by_cases c5 : 0 ≤ a1
      · rw [if_pos c5] at H
        have c5b0 : decide (0 ≤ a1) = true := decide_eq_true c5
        clear c5
        by_cases c6 : a1 < (l0.length : Int)
        · rw [if_pos c6] at H
          have c6b0 : decide (a1 < (l0.length : Int)) = true := decide_eq_true c6
          clear c6
          obtain rfl := Option.some.inj H
          have p102 : 0 ≤ (a1 : Int) := of_decide_eq_true (by first | (with_reducible assumption) | assumption)
          have q102 : a1 < (l0.length : Int) := of_decide_eq_true (by first | (with_reducible assumption) | assumption)
          obtain ⟨ad102, e102, hx102_0⟩ := Kd.at_int HR0.out a1 p102 q102
          cases e102
          replace p102 := eq_true p102
          replace q102 := eq_true q102
          go_enter Try.func41, Try.ntmps41
          go_wp2
          go_ret
          exact ⟨by first | rfl | (simp; done) | (simp [*]; done), by repeat (first | exact Drawn0.refl _ | apply Drawn0.step)⟩
        · rw [if_neg c6] at H
          exact absurd H (by simp)
      · rw [if_neg c5] at H
        exact absurd H (by simp)

/-! ### stamp_beside: function 36 -/
section
open Go.Shelf
attribute [local go_sem] Oper.semAt_some
def atS (l : List Int) (i : Int) : Int := if 0 ≤ i ∧ i < (l.length : Int) then rd l i else 0
theorem own_At (A0 : Option Addr) (c0 : Nat) (l0 : List Int) (a1 : Int) (w : World) (hr0 : Kd.C (Kd.int .i64) w A0 l0.length l0) :
    Calls Try.prog 41 #[.slice A0 l0.length c0, .int .i64 a1] w fun e w' => e = .returned (.int .i64 (atS l0 a1)) ∧ w = w' := by
  have HR0 := Aside0.mk hr0
  clear hr0
  by_cases c3 : a1 < 0
  · have hz : atS l0 a1 = 0 := by unfold atS; rw [if_neg (by omega)]
    rw [hz]
    have c3b0 : decide (a1 < 0) = true := decide_eq_true c3
    clear c3 hz
    go_enter Try.func41, Try.ntmps41
    go_wp2
    go_ret
    exact ⟨rfl, rfl⟩
  · by_cases c4 : a1 ≥ (l0.length : Int)
    · have hz : atS l0 a1 = 0 := by unfold atS; rw [if_neg (by omega)]
      rw [hz]
      have c3b0 : decide (a1 < 0) = false := decide_eq_false c3
      have c4b0 : decide ((l0.length : Int) ≤ a1) = true := decide_eq_true c4
      clear c3 c4 hz
      go_enter Try.func41, Try.ntmps41
      go_wp2
      go_ret
      exact ⟨rfl, rfl⟩
    · have hz : atS l0 a1 = rd l0 a1 := by unfold atS; rw [if_pos (by omega)]
      rw [hz]
      have c3b0 : decide (a1 < 0) = false := decide_eq_false c3
      have c4b0 : decide ((l0.length : Int) ≤ a1) = false := decide_eq_false c4
      have p103 : 0 ≤ (a1 : Int) := by omega
      have q103 : a1 < (l0.length : Int) := by omega
      clear c3 c4 hz
      obtain ⟨ad103, e103, hx103_0⟩ := Kd.at_int HR0.out a1 p103 q103
      cases e103
      replace p103 := eq_true p103
      replace q103 := eq_true q103
      go_enter Try.func41, Try.ntmps41
      go_wp2
      go_ret
      exact ⟨rfl, rfl⟩
theorem own_beside (A0 A1 : Option Addr) (n0 c0 n1 c1 : Nat) (w : World) :
    Calls Try.prog 36 #[.slice A0 n0 c0, .slice A1 n1 c1] w fun e w' => e = .returned (.func (.func 40) #[] #[.pointer (some ⟨w.heap.size, 0, none⟩), .pointer (some ⟨w.heap.size + 1, 0, none⟩)]) ∧ (w.alloc (.cells #[.slice A0 n0 c0] 26)).alloc (.cells #[.slice A1 n1 c1] 26) = w' := by
  go_enter Try.func36, Try.ntmps36
  go_wp2
  go_ret
  exact ⟨rfl, rfl⟩

def trip (l0 l1 : List Int) (j : Nat) : Int × Int × Int := ((j : Int), atS l0 j, atS l1 j)
def upto (l0 l1 : List Int) (k : Nat) : List (Int × Int × Int) := (List.range k).map (trip l0 l1)
theorem upto_succ (l0 l1 : List Int) (k : Nat) : upto l0 l1 (k + 1) = upto l0 l1 k ++ [trip l0 l1 k] := by simp [upto, List.range_succ]
theorem upto_length (l0 l1 : List Int) (k : Nat) : (upto l0 l1 k).length = k := by simp [upto]
def encT (t : Int × Int × Int) : Array Value := #[.agg #[.int .i64 t.1, .int .i64 t.2.1, .int .i64 t.2.2]]
def besK (n₀ Ba Bb : Nat) (W W' : World) : Prop := Below n₀ W W' ∧ W'.heap[Ba]? = W.heap[Ba]? ∧ W'.heap[Bb]? = W.heap[Bb]?
theorem wide_room {n : Nat} : Fence.wide.depth.isSome = true → 1 ≤ n := fun h => by cases h
theorem yield_two {e : Ending} {p q : Prop} (h : (e = .returned (.bool true) ∧ p) ∨ (e = .returned (.bool false) ∧ q)) : ∃ b : Bool, e = .returned (.bool b) ∧ ((b = true ∧ p) ∨ (b = false ∧ q)) := by
  rcases h with ⟨h, hp⟩ | ⟨h, hq⟩
  · exact ⟨true, h, .inl ⟨rfl, hp⟩⟩
  · exact ⟨false, h, .inr ⟨rfl, hq⟩⟩
set_option maxRecDepth 100000 in
set_option maxHeartbeats 1000000 in
theorem own_beside1 (n : Nat) (l Ba Bb : Nat) (A0 A1 : Option Addr) (c0 c1 : Nat) (l0 l1 : List Int) (w0 : World) (hr0 : Kd.C (Kd.int .i64) w0 A0 l0.length l0) (hr1 : Kd.C (Kd.int .i64) w0 A1 l1.length l1)
    (hn0 : l0.length ≤ 17592186044416) (hn1 : l1.length ≤ 17592186044416) (N : Nat) (hN : N = if l0.length < l1.length then l1.length else l0.length) (J Jx : List (Int × Int × Int) → World → Prop) (W : World)
    (hJ : AbidesFrom W.heap.size J)
    (hY : ∀ pre x W1, J pre W1 → pre.length < N → YieldAt Fence.wide (n - 1) Try.prog l (encT x) W1 fun e W' =>
      (e = .returned (.bool true) ∧ J (pre ++ [x]) W' ∧ besK w0.heap.size Ba Bb W1 W') ∨ (e = .returned (.bool false) ∧ Jx (pre ++ [x]) W'))
    (hWb : Below w0.heap.size w0 W) (hBa : Boxed W Ba 26 (.slice A0 l0.length c0)) (hBb : Boxed W Bb 26 (.slice A1 l1.length c1)) (h0 : J [] W) :
    CallsIn Fence.wide n Try.prog 40 #[.func (.yield l) #[] #[], .pointer (some ⟨Ba, 0, none⟩), .pointer (some ⟨Bb, 0, none⟩)] W fun e W' => (∃ v, e = .returned v) ∧
      ((∃ ys, ys = upto l0 l1 (N) ∧ J ys W') ∨ (∃ pre, (∃ k, k ≤ N ∧ pre = upto l0 l1 k) ∧ Jx pre W')) := by
  have HR0 := Aside0.mk hr0
  have HR1 := Aside0.mk hr1
  clear hr0 hr1
  refine callsIn_of_wp Try.func40 rfl trivial ?_ rfl
  simp only [Try.ntmps40, List.size_toArray, List.length_cons, List.length_nil, Nat.reduceAdd, Nat.reduceSub, Array.replicate_succ, Array.replicate_zero, List.push_toArray, List.append_toArray, List.nil_append, List.cons_append]
  have cA := hBa.cell
  have cB := hBb.cell
  rcases Nat.lt_or_ge l0.length l1.length with h | h
  · obtain rfl : N = l1.length := by simpa [h] using hN
    clear hN
    gi_wp2
    gi_loopw [10] (fun i wr => ∃ k : Nat, k ≤ l1.length ∧ i = .int .i64 k ∧ Aside0 (J (upto l0 l1 k) wr) ∧ Aside0 (Below w0.heap.size w0 wr) ∧ wr.heap[Ba]? = some (.cells #[.slice A0 l0.length c0] 26 (0, 0)) ∧ wr.heap[Bb]? = some (.cells #[.slice A1 l1.length c1] 26 (0, 0)))
      (fun i _ => l1.length - (intOf i).toNat)
    case atStart => exact ⟨0, Nat.zero_le _, rfl, ⟨h0⟩, ⟨hWb⟩, hBa, hBb⟩
    case round =>
      clear hBa hBb cA cB h0 hWb
      obtain ⟨k, hk, rfl, hJs, hnx, bA, bB⟩ := hrel
      have cA := Boxed.cell bA
      have cB := Boxed.cell bB
      by_cases hlt : k < l1.length
      · have hJd : J (upto l0 l1 k) wr.drew := hJ _ wr wr.drew none hJs.out ⟨rfl, rfl, rfl, Nat.le_refl _, fun _ _ _ => rfl⟩ (fun r e => by cases e)
        obtain ⟨fn, tmps, assign, body, hy, hR⟩ := hY _ (trip l0 l1 k) wr.drew hJd (by rw [upto_length]; exact hlt)
        dsimp only [encT, trip] at hy
        have r0 : Kd.C (Kd.int .i64) wr.drew A0 l0.length l0 := Kd.C_drew (Kd.C_below HR0.out hnx.out)
        have r1 : Kd.C (Kd.int .i64) wr.drew A1 l1.length l1 := Kd.C_drew (Kd.C_below HR1.out hnx.out)
        have R0 := Aside0.mk r0
        have R1 := Aside0.mk r1
        have HB := Aside0.mk bA
        have HB' := Aside0.mk bB
        have HRR := Aside0.mk hR
        have hmo : Try.prog.follows .mixedOrders = true := by kernel_rfl
        clear r0 r1 bA bB hR
        gi_wp2
        gi_region_with_o (first | (refine ⟨trivial, wide_room, ?_⟩; gi_at_call 41; (with_reducible refine (CallsIn.mono (callsIn_wide.2 (own_At A0 c0 l0 (k : Int) _ R0.out)) ?_)); rintro e w' ⟨rfl, rfl⟩) | (refine ⟨trivial, wide_room, ?_⟩; gi_at_call 41; (with_reducible refine (CallsIn.mono (callsIn_wide.2 (own_At A1 c1 l1 (k : Int) _ R1.out)) ?_)); rintro e w' ⟨rfl, rfl⟩) | (refine ⟨wide_room, ?_⟩; (with_reducible refine RoundIn.mono HRR.out ?_); rintro e W3 hr3; obtain ⟨b, rfl, hr4⟩ := yield_two hr3; clear hr3; have HR4 := Aside0.mk hr4; clear hr4))
        all_goals
          rcases HR4.out with ⟨rfl, hJ3, hk3, hA3, hB3⟩ | ⟨rfl, hJx3⟩
          · gi_wp2
            go_roundw
            case rel => exact ⟨k + 1, by omega, by go_num, ⟨by rw [upto_succ]; exact hJ3⟩, ⟨hnx.out.drew.trans hk3⟩, hA3.trans HB.out, hB3.trans HB'.out⟩
            case measure => simp [intOf]; omega
          · gi_wp2
            refine bodyPost_ret (results_none rfl _ _ _) rfl ?_
            exact ⟨⟨_, rfl⟩, .inr ⟨_, ⟨k + 1, by omega, rfl⟩, by rw [upto_succ]; exact hJx3⟩⟩
      · obtain rfl : k = l1.length := by omega
        gi_wp2
        go_end0
        exact ⟨⟨_, rfl⟩, .inl ⟨_, rfl, hJs.out⟩⟩
  · obtain rfl : N = l0.length := by simpa [Nat.not_lt.2 h] using hN
    clear hN
    gi_wp2
    gi_loopw [10] (fun i wr => ∃ k : Nat, k ≤ l0.length ∧ i = .int .i64 k ∧ Aside0 (J (upto l0 l1 k) wr) ∧ Aside0 (Below w0.heap.size w0 wr) ∧ wr.heap[Ba]? = some (.cells #[.slice A0 l0.length c0] 26 (0, 0)) ∧ wr.heap[Bb]? = some (.cells #[.slice A1 l1.length c1] 26 (0, 0)))
      (fun i _ => l0.length - (intOf i).toNat)
    case atStart => exact ⟨0, Nat.zero_le _, rfl, ⟨h0⟩, ⟨hWb⟩, hBa, hBb⟩
    case round =>
      clear hBa hBb cA cB h0 hWb
      obtain ⟨k, hk, rfl, hJs, hnx, bA, bB⟩ := hrel
      have cA := Boxed.cell bA
      have cB := Boxed.cell bB
      by_cases hlt : k < l0.length
      · have hJd : J (upto l0 l1 k) wr.drew := hJ _ wr wr.drew none hJs.out ⟨rfl, rfl, rfl, Nat.le_refl _, fun _ _ _ => rfl⟩ (fun r e => by cases e)
        obtain ⟨fn, tmps, assign, body, hy, hR⟩ := hY _ (trip l0 l1 k) wr.drew hJd (by rw [upto_length]; exact hlt)
        dsimp only [encT, trip] at hy
        have r0 : Kd.C (Kd.int .i64) wr.drew A0 l0.length l0 := Kd.C_drew (Kd.C_below HR0.out hnx.out)
        have r1 : Kd.C (Kd.int .i64) wr.drew A1 l1.length l1 := Kd.C_drew (Kd.C_below HR1.out hnx.out)
        have R0 := Aside0.mk r0
        have R1 := Aside0.mk r1
        have HB := Aside0.mk bA
        have HB' := Aside0.mk bB
        have HRR := Aside0.mk hR
        have hmo : Try.prog.follows .mixedOrders = true := by kernel_rfl
        clear r0 r1 bA bB hR
        gi_wp2
        gi_region_with_o (first | (refine ⟨trivial, wide_room, ?_⟩; gi_at_call 41; (with_reducible refine (CallsIn.mono (callsIn_wide.2 (own_At A0 c0 l0 (k : Int) _ R0.out)) ?_)); rintro e w' ⟨rfl, rfl⟩) | (refine ⟨trivial, wide_room, ?_⟩; gi_at_call 41; (with_reducible refine (CallsIn.mono (callsIn_wide.2 (own_At A1 c1 l1 (k : Int) _ R1.out)) ?_)); rintro e w' ⟨rfl, rfl⟩) | (refine ⟨wide_room, ?_⟩; (with_reducible refine RoundIn.mono HRR.out ?_); rintro e W3 hr3; obtain ⟨b, rfl, hr4⟩ := yield_two hr3; clear hr3; have HR4 := Aside0.mk hr4; clear hr4))
        all_goals
          rcases HR4.out with ⟨rfl, hJ3, hk3, hA3, hB3⟩ | ⟨rfl, hJx3⟩
          · gi_wp2
            go_roundw
            case rel => exact ⟨k + 1, by omega, by go_num, ⟨by rw [upto_succ]; exact hJ3⟩, ⟨hnx.out.drew.trans hk3⟩, hA3.trans HB.out, hB3.trans HB'.out⟩
            case measure => simp [intOf]; omega
          · gi_wp2
            refine bodyPost_ret (results_none rfl _ _ _) rfl ?_
            exact ⟨⟨_, rfl⟩, .inr ⟨_, ⟨k + 1, by omega, rfl⟩, by rw [upto_succ]; exact hJx3⟩⟩
      · obtain rfl : k = l0.length := by omega
        gi_wp2
        go_end0
        exact ⟨⟨_, rfl⟩, .inl ⟨_, rfl, hJs.out⟩⟩
theorem boxed_below {w W : World} {B t v} (h : Boxed w B t v) (hb : Below w.heap.size w W) : Boxed W B t v := (hb.block B h.lt).trans h
theorem own_stops (n Ba Bb : Nat) (A0 A1 : Option Addr) (c0 c1 : Nat) (l0 l1 : List Int) (w0 w : World) (hr0 : Kd.C (Kd.int .i64) w0 A0 l0.length l0) (hr1 : Kd.C (Kd.int .i64) w0 A1 l1.length l1)
    (hn0 : l0.length ≤ 17592186044416) (hn1 : l1.length ≤ 17592186044416) (N : Nat) (hN : N = if l0.length < l1.length then l1.length else l0.length) (hw : Below w0.heap.size w0 w)
    (hBa : Boxed w Ba 26 (.slice A0 l0.length c0)) (hBb : Boxed w Bb 26 (.slice A1 l1.length c1)) :
    SeqStopsK Fence.wide n Try.prog 40 #[.pointer (some ⟨Ba, 0, none⟩), .pointer (some ⟨Bb, 0, none⟩)] encT (besK w0.heap.size Ba Bb) (fun ys => ys = upto l0 l1 N) (fun pre => ∃ k, k ≤ N ∧ pre = upto l0 l1 k) N w :=
  fun l J Jx W hW hJ hJx hY h0 => own_beside1 n l Ba Bb A0 A1 c0 c1 l0 l1 w0 hr0 hr1 hn0 hn1 N hN J Jx W hJ hY (hw.trans (hW.mono hw.size)) (boxed_below hBa hW) (boxed_below hBb hW) h0
theorem besK_t {n₀ Ba Bb : Nat} {A B C : World} (h : besK n₀ Ba Bb A B) (k : besK n₀ Ba Bb B C) : besK n₀ Ba Bb A C := ⟨h.1.trans k.1, k.2.1.trans h.2.1, k.2.2.trans h.2.2⟩
theorem besK_b {n₀ Ba Bb : Nat} {w : World} (hn : n₀ ≤ w.heap.size) (ha : Ba < w.heap.size) (hb : Bb < w.heap.size) (W : World) (l : Nat) (o o' : Obj) (hl : w.heap.size ≤ l) (h : W.heap[l]? = some o) (h1 : o.isCells = false) (h2 : o.isWalk = false) : besK n₀ Ba Bb W (W.putObj l o') :=
  ⟨belowK_b hn W l o o' hl h h1 h2, World.putObj_heap_other (by omega), World.putObj_heap_other (by omega)⟩
def tripBox (W : World) (B : Nat) (x : Int × Int × Int) : Prop := W.heap[B]? = some (.cells #[.int .i64 x.1, .int .i64 x.2.1, .int .i64 x.2.2] 67 (0, 0))
theorem tripBox.cell0 {W : World} {B : Nat} {x : Int × Int × Int} (h : tripBox W B x) : W.cell? ⟨B, 0, none⟩ = some (.int .i64 x.1) := by simp [World.cell?, show W.heap[B]? = _ from h]
theorem tripBox.cell1 {W : World} {B : Nat} {x : Int × Int × Int} (h : tripBox W B x) : W.cell? ⟨B, 1, none⟩ = some (.int .i64 x.2.1) := by simp [World.cell?, show W.heap[B]? = _ from h]
theorem tripBox.cell2 {W : World} {B : Nat} {x : Int × Int × Int} (h : tripBox W B x) : W.cell? ⟨B, 2, none⟩ = some (.int .i64 x.2.2) := by simp [World.cell?, show W.heap[B]? = _ from h]
theorem tripBox.lt {W : World} {B : Nat} {x : Int × Int × Int} (h : tripBox W B x) : B < W.heap.size := (Array.getElem?_eq_some_iff.1 h).1
theorem tripBox_own (B : Nat) (x : Int × Int × Int) : Own (fun (_ : Unit) W => tripBox W B x) := fun _ X Y row hs hg hr => by
  refine (hg.block B hs.lt (fun e => ?_)).trans hs
  obtain ⟨o, ho, hc⟩ := hr B e.symm
  rw [show X.heap[B]? = _ from hs] at ho; cases ho; cases hc
theorem tripBox.new (W : World) (x : Int × Int × Int) : tripBox (W.alloc (.cells #[.int .i64 x.1, .int .i64 x.2.1, .int .i64 x.2.2] 67)) W.heap.size x := World.alloc_heap_new W _
theorem besK_alloc {n₀ Ba Bb : Nat} {W : World} (o : Obj) (h0 : n₀ ≤ W.heap.size) (ha : Ba < W.heap.size) (hb : Bb < W.heap.size) : besK n₀ Ba Bb W (W.alloc o) :=
  ⟨(Below.refl n₀ W).alloc h0 _, Below.heap_alloc W o _ ha, Below.heap_alloc W o _ hb⟩
theorem besK_set {n₀ Ba Bb B : Nat} {W : World} (v : Value) (h0 : n₀ ≤ B) (ha : Ba ≠ B) (hb : Bb ≠ B) : besK n₀ Ba Bb W (W.setCell ⟨B, 0, none⟩ v) :=
  ⟨(Below.refl n₀ W).setCell (p := ⟨B, 0, none⟩) h0 _, Below.heap_setCell _ _ _ _ ha, Below.heap_setCell _ _ _ _ hb⟩
theorem ownFrom_size {β : Type} (B n : Nat) : OwnFrom B (fun (_ : β) W => n ≤ W.heap.size) := fun _ _ _ _ hs hg _ => Nat.le_trans hs hg.size
theorem setCell_size' (W : World) (a : Addr) (v : Value) : (W.setCell a v).heap.size = W.heap.size := by simp [World.setCell]
theorem besK_refl {n₀ Ba Bb : Nat} (W : World) : besK n₀ Ba Bb W W := ⟨Below.refl _ _, rfl, rfl⟩
def lenS (l0 l1 : List Int) : Nat := if l0.length < l1.length then l1.length else l0.length
theorem boxed_eq {W W' : World} {B t v} (h : Boxed W B t v) (h' : Boxed W' B t v) : W'.heap[B]? = W.heap[B]? := (show W'.heap[B]? = _ from h').trans (show W.heap[B]? = _ from h).symm
theorem cell_alloc_l {W : World} {a : Addr} {v : Value} (o : Obj) (h : W.cell? a = some v) : (W.alloc o).cell? a = some v := cell_kept h (World.grownBy_alloc W o none) (fun r e => by cases e)
theorem frozen_alloc_l {W : World} {a : Addr} {v : Value} (o : Obj) (h : W.cell? a = some v) (hf : W.frozen? a = false) : (W.alloc o).frozen? a = false := (frozen_kept h (World.grownBy_alloc W o none) (fun r e => by cases e)).trans hf
end

-- NOT PRINTED: function 42 (stamp_all)

/-! ### stamp_Next: function 38 -/
section
open Go.Shelf
attribute [local go_sem] Oper.semAt_some
def holdsS (i : Int) (t : Int × Int × Int) : Bool := decide (t.1 = i) || decide (t.2.2 ≤ t.2.1)
theorem own_holds (i : Int) (Bi : Nat) (x : Int × Int × Int) (w : World) (hc : w.cell? ⟨Bi, 0, none⟩ = some (.int .i64 i)) :
    Calls Try.prog 43 #[.agg #[.int .i64 x.1, .int .i64 x.2.1, .int .i64 x.2.2], .pointer (some ⟨Bi, 0, none⟩)] w fun e w' => e = .returned (.bool (holdsS i x)) ∧ w.alloc (.cells #[.int .i64 x.1, .int .i64 x.2.1, .int .i64 x.2.2] 67) = w' := by
  have hc' : (w.alloc (.cells #[.int .i64 x.1, .int .i64 x.2.1, .int .i64 x.2.2] 67)).cell? ⟨Bi, 0, none⟩ = some (.int .i64 i) := cell_alloc_l _ hc
  by_cases h : x.1 = i
  · have e : holdsS i x = true := by simp only [holdsS, decide_eq_true h, Bool.true_or]
    rw [e]
    have h0 : (x.1 == i) = true := beq_iff_eq.mpr h
    clear h e
    go_enter Try.func43, Try.ntmps43
    go_wp2
    go_ret
    exact ⟨rfl, rfl⟩
  · have h0 : (x.1 == i) = false := beq_eq_false_iff_ne.mpr h
    have e : holdsS i x = decide (x.2.2 ≤ x.2.1) := by simp only [holdsS, decide_eq_false h, Bool.false_or]
    rw [e]
    clear h e
    go_enter Try.func43, Try.ntmps43
    go_wp2
    go_ret
    exact ⟨rfl, rfl⟩
def allB (i : Int) (pre : List (Int × Int × Int)) : Bool := pre.all (holdsS i)
theorem allB_snoc (i : Int) (pre : List (Int × Int × Int)) (x : Int × Int × Int) : allB i (pre ++ [x]) = (allB i pre && holdsS i x) := by simp [allB]
theorem all_upto_false {l0 l1 : List Int} {p : Int} {k N : Nat} (hk : k ≤ N) (h : allB p (upto l0 l1 k) = false) : allB p (upto l0 l1 N) = false := by
  unfold allB at h ⊢
  rw [List.all_eq_false] at h ⊢
  obtain ⟨x, hx, hp⟩ := h
  refine ⟨x, ?_, hp⟩
  unfold upto at hx ⊢
  obtain ⟨j, hj, rfl⟩ := List.mem_map.1 hx
  exact List.mem_map.2 ⟨j, by rw [List.mem_range] at hj ⊢; omega, rfl⟩
set_option maxRecDepth 100000 in
set_option maxHeartbeats 4000000 in
theorem own_all (i : Int) (Bi : Nat) (A0 A1 : Option Addr) (c0 c1 : Nat) (l0 l1 : List Int) (w : World) (hBi : Boxed w Bi 3 (.int .i64 i)) (hr0 : Kd.C (Kd.int .i64) w A0 l0.length l0) (hr1 : Kd.C (Kd.int .i64) w A1 l1.length l1) (hn0 : l0.length ≤ 1000000) (hn1 : l1.length ≤ 1000000) :
    CallsIn Fence.wide 9 Try.prog 42 #[.slice A0 l0.length c0, .slice A1 l1.length c1, .func (.func 43) #[] #[.pointer (some ⟨Bi, 0, none⟩)]] w fun e w' => e = .returned (.bool (allB i (upto l0 l1 (lenS l0 l1)))) ∧ Below w.heap.size w w' := by
  have HR0 := Aside0.mk hr0
  have HR1 := Aside0.mk hr1
  clear hr0 hr1
  have hbl := hBi.lt
  refine callsIn_of_wp_marks Try.func42 rfl trivial ?_ rfl
  simp only [Try.ntmps42, List.size_toArray, List.length_cons, List.length_nil, Nat.reduceAdd, Nat.reduceSub, Array.replicate_succ, Array.replicate_zero, List.push_toArray, List.append_toArray, List.nil_append, List.cons_append]
  gi_wp2_with ((first | refine ⟨trivial, ?_⟩ | refine ⟨trivial, wide_room, ?_⟩); gi_at_call 36; (with_reducible refine (CallsIn.mono (callsIn_wide.2 (own_beside A0 A1 l0.length c0 l1.length c1 _)) ?_)); rintro e w' ⟨rfl, rfl⟩)
  obtain ⟨fv, hfv⟩ : ∃ fv : Value, fv = .func (.func 43) #[] #[.pointer (some ⟨Bi, 0, none⟩)] := ⟨_, rfl⟩
  have bF := (((Boxed.new w 69 fv).alloc (.cells #[.bool false] 4)).alloc (.cells #[.slice A0 l0.length c0] 26)).alloc (.cells #[.slice A1 l1.length c1] 26)
  have bR := ((Boxed.new (w.alloc (.cells #[fv] 69)) 4 (.bool false)).alloc (.cells #[.slice A0 l0.length c0] 26)).alloc (.cells #[.slice A1 l1.length c1] 26)
  have bA := (Boxed.new ((w.alloc (.cells #[fv] 69)).alloc (.cells #[.bool false] 4)) 26 (.slice A0 l0.length c0)).alloc (.cells #[.slice A1 l1.length c1] 26)
  have bB := Boxed.new (((w.alloc (.cells #[fv] 69)).alloc (.cells #[.bool false] 4)).alloc (.cells #[.slice A0 l0.length c0] 26)) 26 (.slice A1 l1.length c1)
  simp only [World.size_alloc] at bR bA bB
  have hB0 : Below w.heap.size w ((((w.alloc (.cells #[fv] 69)).alloc (.cells #[.bool false] 4)).alloc (.cells #[.slice A0 l0.length c0] 26)).alloc (.cells #[.slice A1 l1.length c1] 26)) := ((((Below.refl _ w).alloc (Nat.le_refl _) _).alloc (by simp) _).alloc (by simp; omega) _).alloc (by simp; omega) _
  have hsz : ((((w.alloc (.cells #[fv] 69)).alloc (.cells #[.bool false] 4)).alloc (.cells #[.slice A0 l0.length c0] 26)).alloc (.cells #[.slice A1 l1.length c1] 26)).heap.size = w.heap.size + 4 := by simp
  rw [hfv] at bF bR bA bB hB0 hsz
  clear hfv fv
  obtain ⟨W0, hW0⟩ : ∃ W0, (((w.alloc (.cells #[.func (.func 43) #[] #[.pointer (some ⟨Bi, 0, none⟩)]] 69)).alloc (.cells #[.bool false] 4)).alloc (.cells #[.slice A0 l0.length c0] 26)).alloc (.cells #[.slice A1 l1.length c1] 26) = W0 := ⟨_, rfl⟩
  rw [hW0] at bF bR bA bB hB0 hsz ⊢
  clear hW0
  refine wpIn_rangeFunc_ownH rfl (by omega) (gf := 40) (lb := #[.pointer (some ⟨w.heap.size + 1 + 1, 0, none⟩), .pointer (some ⟨w.heap.size + 1 + 1 + 1, 0, none⟩)]) rfl trivial (enters_of Try.func40 (by kernel_rfl) rfl)
    (own_stops (9 - 1) (w.heap.size + 1 + 1) (w.heap.size + 1 + 1 + 1) A0 A1 c0 c1 l0 l1 w W0 HR0.out HR1.out (Nat.le_trans hn0 (by decide)) (Nat.le_trans hn1 (by decide)) (lenS l0 l1) rfl hB0 bA bB) besK_t (besK_b (by omega) (by omega) (by omega)) (Below.refl _ _) (fun _ => rfl)
    (fun pre W => (((Boxed W w.heap.size 69 (.func (.func 43) #[] #[.pointer (some ⟨Bi, 0, none⟩)]) ∧ Boxed W (w.heap.size + 1) 4 (.bool false)) ∧ (fun (_ : List (Int × Int × Int)) => allB i pre = true) pre) ∧ Below w.heap.size w W) ∧ w.heap.size + 4 ≤ W.heap.size)
    (fun c pre W => ((c = .ret ∧ allB i pre = false) ∧ Boxed W (w.heap.size + 1) 4 (.bool false)) ∧ Below w.heap.size w W)
    (OwnFrom.and (OwnFrom.and (OwnFrom.and (OwnFrom.and (Own.from (boxed_own _ _ _) _) (Own.from (boxed_own _ _ _) _)) (ownFrom_pure _ _)) (ownFrom_below (Nat.le_refl _) (by omega))) (ownFrom_size _ _))
    (fun c => OwnFrom.and (OwnFrom.and (ownFrom_pure _ _) (Own.from (boxed_own _ _ _) _)) (ownFrom_below (Nat.le_refl _) (by omega)))
    ⟨⟨⟨⟨bF, bR⟩, rfl⟩, hB0⟩, by omega⟩
    (fun x a' W => ∃ Bx, w.heap.size + 3 < Bx ∧ tripBox W Bx x ∧ a' = { tmps := #[.slice A0 l0.length c0, .slice A1 l1.length c1, .func (.func 43) #[] #[.pointer (some ⟨Bi, 0, none⟩)], undef, undef, .pointer (some ⟨w.heap.size, 0, none⟩), .pointer (some ⟨w.heap.size + 1, 0, none⟩), .pointer (some ⟨Bx, 0, none⟩), .slice A0 l0.length c0, .slice A1 l1.length c1, .func (.func 40) #[] #[.pointer (some ⟨w.heap.size + 1 + 1, 0, none⟩), .pointer (some ⟨w.heap.size + 1 + 1 + 1, 0, none⟩)], .agg #[.int .i64 x.1, .int .i64 x.2.1, .int .i64 x.2.2], undef, undef, undef, undef], defers := [] })
    (fun x a' _ X Y row hs hg hr => by obtain ⟨Bx, h1, h2, h3⟩ := hs; exact ⟨Bx, h1, tripBox_own Bx x () X Y row h2 hg (fun r e => (hr r e).2), h3⟩)
    ?assign ?body ?done ?stop
  case assign =>
    rintro l pre x W K ⟨⟨⟨⟨bF1, bR1⟩, ha⟩, hB1⟩, hs1⟩ hK
    have := hB1.size
    dsimp only [encT]
    gi_wp2
    exact hK _ _ ((KeepsOthers.alloc _ _).from _) (besK_alloc _ this (by omega) (by omega)) ⟨⟨⟨⟨bF1.alloc _, bR1.alloc _⟩, ha⟩, hB1.alloc hB1.size _⟩, by simp; omega⟩ ⟨W.heap.size, by omega, tripBox.new W x, rfl⟩
  case body =>
    rintro l pre x a' W hl ⟨r, hr⟩ ⟨⟨⟨⟨bF1, bR1⟩, ha⟩, hB1⟩, hs1⟩ ⟨Bx, hBx, bX, rfl⟩ hlt
    have cF := bF1.cell
    have cR := bR1.cell
    have fR := bR1.frozen
    have k0 := bX.cell0
    have k1 := bX.cell1
    have k2 := bX.cell2
    have hci : W.cell? ⟨Bi, 0, none⟩ = some (.int .i64 i) := (boxed_below hBi hB1).cell
    have HA := Aside0.mk ha
    clear ha
    cases hh : holdsS i x with
    | true =>
      have HH := Aside0.mk hh
      clear hh
      gi_wp2_with ((first | refine ⟨trivial, ?_⟩ | refine ⟨trivial, wide_room, ?_⟩); gi_at_call 43; (with_reducible refine (CallsIn.mono (CallsIn.inRound l (callsIn_wide.2 (own_holds i Bi x W hci))) ?_)); rw [HH.out]; rintro e w' ⟨rfl, rfl⟩)
      exact ⟨(KeepsOthers.alloc _ _).from _, besK_alloc _ hB1.size (by omega) (by omega), ⟨⟨⟨bF1.alloc _, bR1.alloc _⟩, by rw [allB_snoc, HA.out, HH.out]; rfl⟩, hB1.alloc hB1.size _⟩, by simp; omega⟩
    | false =>
      have HH := Aside0.mk hh
      clear hh
      have cR' := cell_alloc_l (.cells #[.int .i64 x.1, .int .i64 x.2.1, .int .i64 x.2.2] 67) cR
      have fR' := frozen_alloc_l (.cells #[.int .i64 x.1, .int .i64 x.2.1, .int .i64 x.2.2] 67) cR fR
      gi_wp2_with ((first | refine ⟨trivial, ?_⟩ | refine ⟨trivial, wide_room, ?_⟩); gi_at_call 43; (with_reducible refine (CallsIn.mono (CallsIn.inRound l (callsIn_wide.2 (own_holds i Bi x W hci))) ?_)); rw [HH.out]; rintro e w' ⟨rfl, rfl⟩)
      exact ⟨((KeepsOthers.alloc _ _).from _).trans ((KeepsOthers.setCell _ _ _).from _), ⟨⟨rfl, by rw [allB_snoc, HH.out]; simp⟩, (bR1.alloc _).set _⟩, (hB1.alloc hB1.size _).setCell (p := ⟨w.heap.size + 1, 0, none⟩) (by simp) _⟩
  case done =>
    rintro D zs W hD rfl ⟨⟨⟨⟨bF1, bR1⟩, ha⟩, hB1⟩, hs1⟩ hK
    have cR := bR1.cell
    have fR := bR1.frozen
    have HA := Aside0.mk ha
    clear ha
    gi_wp2
    have hK' := (KeepsOthers.setCell W ⟨w.heap.size + 1, 0, none⟩ (.bool true)).same D _ hK rfl
    refine ⟨by simp, .inl ⟨_, _, rfl, run_takeDeferred hK', ?_⟩⟩
    have hc5 := cell_kept (World.cell?_setCell_same' W ⟨w.heap.size + 1, 0, none⟩ (.bool true) (by rw [cR]; rfl)) (grownBy_putObj' _ D (.deferred none)) (fun r e => by cases e; exact ⟨_, hK', rfl⟩)
    refine ⟨.bool true, ?_, by rw [HA.out], ?_⟩
    · simp [results, Try.f42, go_sem, hc5]
    · exact (hB1.setCell (p := ⟨w.heap.size + 1, 0, none⟩) (by simp) _).trans (belowK_b (w := w) (Nat.le_refl _) _ D _ _ (by omega) hK' rfl rfl)
  case stop =>
    rintro D c pre W hD ⟨k, hk, rfl⟩ ⟨⟨⟨rfl, ha⟩, bR1⟩, hB1⟩ hK
    have cR := bR1.cell
    have HA := Aside0.mk (all_upto_false hk ha)
    clear ha
    gi_wp2
    refine ⟨by simp, .inl ⟨_, _, rfl, run_takeDeferred hK, ?_⟩⟩
    have hc5 := cell_kept cR (grownBy_putObj' _ D (.deferred none)) (fun r e => by cases e; exact ⟨_, hK, rfl⟩)
    refine ⟨.bool false, ?_, by rw [HA.out], ?_⟩
    · simp [results, Try.f42, go_sem, hc5]
    · exact hB1.trans (belowK_b (w := w) (Nat.le_refl _) _ D _ _ (by omega) hK rfl rfl)
def nextS (had s : List Int) (i : Int) : Bool := if i < 0 ∨ atS had i = 9223372036854775807 ∨ atS s i ≠ wrap64 (atS had i + 1) then false else allB i (upto had s (lenS had s))
set_option maxHeartbeats 2000000 in
theorem own_Next (i : Int) (A0 A1 : Option Addr) (c0 c1 : Nat) (l0 l1 : List Int) (w : World) (hr0 : Kd.C (Kd.int .i64) w A0 l0.length l0) (hr1 : Kd.C (Kd.int .i64) w A1 l1.length l1) (hn0 : l0.length ≤ 1000000) (hn1 : l1.length ≤ 1000000) :
    Calls Try.prog 38 #[.slice A0 l0.length c0, .slice A1 l1.length c1, .int .i64 i] w fun e w' => e = .returned (.bool (nextS l0 l1 i)) ∧ Below w.heap.size w w' := by
  have HB0 := Aside0.mk ((Below.refl _ w).alloc (Nat.le_refl _) (.cells #[.int .i64 i] 3))
  have hr0' := Kd.C_below hr0 HB0.out
  have hr1' := Kd.C_below hr1 HB0.out
  have HR0 := Aside0.mk hr0'
  have HR1 := Aside0.mk hr1'
  have HX := Aside0.mk (Boxed.new w 3 (.int .i64 i))
  clear hr0 hr1 hr0' hr1'
  by_cases h : i < 0
  · have e : nextS l0 l1 i = false := by unfold nextS; rw [if_pos (.inl h)]
    rw [e]
    have h0 : decide (i < 0) = true := decide_eq_true h
    clear h e
    go_enter Try.func38, Try.ntmps38
    go_wp2_with (go_at_call 41; (with_reducible refine (own_At A0 c0 l0 i _ HR0.out).mono ?_); rintro e w' ⟨rfl, rfl⟩)
    go_ret
    exact ⟨rfl, HB0.out⟩
  · have h0 : decide (i < 0) = false := decide_eq_false h
    by_cases h2 : atS l0 i = 9223372036854775807
    · have e : nextS l0 l1 i = false := by unfold nextS; rw [if_pos (.inr (.inl h2))]
      rw [e]
      have h1 : (atS l0 i == 9223372036854775807) = true := beq_iff_eq.mpr h2
      clear h h2 e
      go_enter Try.func38, Try.ntmps38
      go_wp2_with (go_at_call 41; (with_reducible refine (own_At A0 c0 l0 i _ HR0.out).mono ?_); rintro e w' ⟨rfl, rfl⟩)
      go_ret
      exact ⟨rfl, HB0.out⟩
    · have h1 : (atS l0 i == 9223372036854775807) = false := beq_eq_false_iff_ne.mpr h2
      by_cases h3 : atS l1 i = wrap64 (atS l0 i + 1)
      · have e : nextS l0 l1 i = allB i (upto l0 l1 (lenS l0 l1)) := by unfold nextS; rw [if_neg (by rintro (hh | hh | hh) <;> contradiction)]
        rw [e]
        have h4 : (atS l1 i != wrap64 (atS l0 i + 1)) = false := bne_eq_false_iff_eq.mpr h3
        clear h h2 h3 e
        have HALL := Aside0.mk (callsIn_wide.1 (own_all i w.heap.size A0 A1 c0 c1 l0 l1 (w.alloc (.cells #[.int .i64 i] 3)) HX.out HR0.out HR1.out hn0 hn1))
        go_enter Try.func38, Try.ntmps38
        go_wp2_with (first | (go_at_call 41; (with_reducible refine (own_At A0 c0 l0 i _ HR0.out).mono ?_); rintro e w' ⟨rfl, rfl⟩) | (go_at_call 41; (with_reducible refine (own_At A1 c1 l1 i _ HR1.out).mono ?_); rintro e w' ⟨rfl, rfl⟩) | (go_at_call 42; (with_reducible refine HALL.out.mono ?_); rintro e w' ⟨rfl, hb⟩; have HB1 := Aside0.mk hb; clear hb))
        go_ret
        exact ⟨rfl, below_step HB0.out HB1.out⟩
      · have e : nextS l0 l1 i = false := by unfold nextS; rw [if_pos (.inr (.inr h3))]
        rw [e]
        have h4 : (atS l1 i != wrap64 (atS l0 i + 1)) = true := bne_iff_ne.mpr h3
        clear h h2 h3 e
        go_enter Try.func38, Try.ntmps38
        go_wp2_with (first | (go_at_call 41; (with_reducible refine (own_At A0 c0 l0 i _ HR0.out).mono ?_); rintro e w' ⟨rfl, rfl⟩) | (go_at_call 41; (with_reducible refine (own_At A1 c1 l1 i _ HR1.out).mono ?_); rintro e w' ⟨rfl, rfl⟩))
        go_ret
        exact ⟨rfl, HB0.out⟩
end
def stamp_Next.f (l0 l1 : List Int) (a2 : Int) : Option Bool := if l0.length ≤ 1000000 ∧ l1.length ≤ 1000000 then some (nextS l0 l1 a2) else none
theorem stamp_Next.calls (A0 : Option Addr) (c0 : Nat) (l0 : List Int) (A1 : Option Addr) (c1 : Nat) (l1 : List Int) (a2 : Int) (r : Bool) (w : World) (hr0 : Kd.C (Kd.int .i64) w A0 l0.length l0) (hc0 : l0.length ≤ c0) (hr1 : Kd.C (Kd.int .i64) w A1 l1.length l1) (hc1 : l1.length ≤ c1) (h : stamp_Next.f l0 l1 a2 = some r) :
    Calls Try.prog 38 #[.slice A0 l0.length c0, .slice A1 l1.length c1, .int .i64 a2] w fun e w' => e = .returned (.bool r) ∧ Below w.heap.size w w' := by
  unfold stamp_Next.f at h
  by_cases hl : l0.length ≤ 1000000 ∧ l1.length ≤ 1000000
  · rw [if_pos hl] at h
    obtain rfl := Option.some.inj h
    exact own_Next a2 A0 A1 c0 c1 l0 l1 w hr0 hr1 hl.1 hl.2
  · rw [if_neg hl] at h; cases h

/-! ### merge_next: function 34 -/
def merge_next.f (l0 : List Int) (a1_0 : Int) (a1_1 : Int) (a1_2 : Int) (l1_3 : List Int) (a2 : Int) : Option (Bool) := if (l1_3.length : Int) = (l0.length : Int) then ((stamp_Next.f l0 l1_3 a2).bind fun t104 => (some t104)) else (some false)
set_option maxHeartbeats 8000000 in
set_option maxRecDepth 100000 in
theorem merge_next.calls (A0 : Option Addr) (c0 : Nat) (l0 : List Int) (a1_0 : Int) (a1_1 : Int) (a1_2 : Int) (A1_3 : Option Addr) (c1_3 : Nat) (l1_3 : List Int) (a2 : Int) (r : Bool) (w : World) (hr0 : Kd.C (Kd.int .i64) w A0 l0.length l0) (hc0 : l0.length ≤ c0) (hr1_3 : Kd.C (Kd.int .i64) w A1_3 l1_3.length l1_3) (hc1_3 : l1_3.length ≤ c1_3) (h : merge_next.f l0 a1_0 a1_1 a1_2 l1_3 a2 = some r) :
    Calls Try.prog 34 #[.slice A0 l0.length c0, .agg #[.int .i64 a1_0, .int .i64 a1_1, .int .i64 a1_2, .slice A1_3 l1_3.length c1_3], .int .i64 a2] w fun e w' => e = .returned (.bool r) ∧ Below w.heap.size w w' := by
  have hu45 := Try.underlying45
  have HR0 := Aside0.mk hr0
  have HC0 := Aside0.mk hc0
  clear hr0 hc0
  have HR1_3 := Aside0.mk hr1_3
  have HC1_3 := Aside0.mk hc1_3
  clear hr1_3 hc1_3
  have HB := Aside0.mk (Below.refl w.heap.size w)
  have H : (if (l1_3.length : Int) = (l0.length : Int) then ((stamp_Next.f l0 l1_3 a2).bind fun t104 => (some t104)) else (some false)) = some r := h
  clear h
  by_cases c4 : (l1_3.length : Int) = (l0.length : Int)
  · rw [if_pos c4] at H
    have c4b0 : ((l1_3.length : Int) == (l0.length : Int)) = true := beq_iff_eq.mpr c4
    have c4b1 : ((l1_3.length : Int) != (l0.length : Int)) = false := bne_eq_false_iff_eq.mpr c4
    have c4b2 : (l1_3.length == l0.length) = true := by first | simpa using c4 | (simp at c4 ⊢; omega)
    clear c4
    replace H := Option.bind_eq_some_iff.mp H
    obtain ⟨t104, A50, H⟩ := H
    replace H : (some t104) = some r := H
    have A5 := Aside0.mk A50
    clear A50
    obtain rfl := Option.some.inj H
    go_enter Try.func34, Try.ntmps34
    go_wp2_with (first | ((with_reducible refine gate_dst (N := 4) rfl ?_); refine box_event ?hg (N := 4) ?hd (cs := #[.int .i64 a1_0, .int .i64 a1_1, .int .i64 a1_2, .slice A1_3 l1_3.length c1_3]) (t := 45) ?hr ?_; (case hd => rfl); (case hg => rfl); (case hr => first | (go_simp; done) | (go_simp; rfl) | (simp only [pf_or128]; go_simp; done) | (simp only [pf_or128]; go_simp; rfl)); intro gb103 hg w6 hbox hb; have n0_ := Aside0.mk (below_step (by repeat (first | (with_reducible first | exact HB.out | apply below_alloc | apply pw_below_drewN | apply below_drew1) | exact HB.out)) hb); have n1_ := Aside0.mk (hbox); have n2_ := Aside0.mk ((by rw [hg]; exact (below_size (by repeat (first | (with_reducible first | exact HB.out | apply below_alloc | apply pw_below_drewN | apply below_drew1) | exact HB.out))) : w.heap.size ≤ gb103)); have n3_ := Aside0.mk ((by rw [hg]; exact (below_size (by repeat (first | (with_reducible first | exact HB.out | apply below_alloc | apply pw_below_drewN | apply below_drew1) | exact HB.out))) : w.heap.size ≤ gb103)); clear HB; have HB := n0_; have BK103 := n1_; have GW103 := n2_; have GE103 := n3_; clear n0_ n1_ n2_ n3_; clear hb hbox hg; have hcz7_0 : w6.cell? ⟨gb103, 0, none⟩ = some (.int .i64 a1_0) := (blk_cell BK103.out 0).trans rfl; have hcz7_1 : w6.cell? ⟨gb103, 1, none⟩ = some (.int .i64 a1_1) := (blk_cell BK103.out 1).trans rfl; have hcz7_2 : w6.cell? ⟨gb103, 2, none⟩ = some (.int .i64 a1_2) := (blk_cell BK103.out 2).trans rfl; have hcz7_3 : w6.cell? ⟨gb103, 3, none⟩ = some (.slice A1_3 l1_3.length c1_3) := (blk_cell BK103.out 3).trans rfl; have hfz7_0 := blk_frozen BK103.out 0; have hfz7_1 := blk_frozen BK103.out 1; have hfz7_2 := blk_frozen BK103.out 2; have hfz7_3 := blk_frozen BK103.out 3) | (go_at_call 38; (with_reducible refine (stamp_Next.calls _ _ l0 _ _ l1_3 a2 t104 _ ?side1 ?side2 ?side3 ?side4 A5.out).mono ?_); (case side1 => repeat (first | exact (Kd.C_below HR0.out HB.out) | (with_reducible refine Kd.C_alloc ?_ _) | (with_reducible refine Kd.C_drewN ?_ _) | (with_reducible refine Kd.C_drew ?_))); (case side2 => exact HC0.out); (case side3 => repeat (first | exact (Kd.C_below HR1_3.out HB.out) | (with_reducible refine Kd.C_alloc ?_ _) | (with_reducible refine Kd.C_drewN ?_ _) | (with_reducible refine Kd.C_drew ?_))); (case side4 => exact HC1_3.out); rintro e w8 ⟨rfl, hb⟩; have n0_ := Aside0.mk (blk_below (g := gb103) (o := .cells #[.int .i64 a1_0, .int .i64 a1_1, .int .i64 a1_2, .slice A1_3 l1_3.length c1_3] 45 (0, 0)) (by (with_reducible repeat (first | refine blk_drewN ?_ _ | refine blk_drew ?_ | refine blk_alloc ?_ _)); exact BK103.out) hb); have n1_ := Aside0.mk (below_step (by repeat (first | (with_reducible first | exact HB.out | apply below_alloc | apply pw_below_drewN | apply below_drew1 | refine below_set ?_ GE103.out) | exact HB.out)) hb); clear BK103; clear HB; have BK103 := n0_; have HB := n1_; clear n0_ n1_; (try clear hb); (try clear hb2); (try clear hk); (try clear hi)))
    go_ret
    exact ⟨by first | rfl | (simp [errW_none, errW_some] <;> rfl) | (simp [*, errW_none, errW_some] <;> rfl), by repeat (first | (with_reducible first | exact HB.out | apply below_alloc | apply pw_below_drewN | apply below_drew1 | refine below_set ?_ GE103.out) | exact HB.out)⟩
  · rw [if_neg c4] at H
    have c4b0 : ((l1_3.length : Int) == (l0.length : Int)) = false := beq_eq_false_iff_ne.mpr c4
    have c4b1 : ((l1_3.length : Int) != (l0.length : Int)) = true := bne_iff_ne.mpr c4
    have c4b2 : (l1_3.length == l0.length) = false := by first | simpa using c4 | (simp at c4 ⊢; omega)
    obtain rfl := Option.some.inj H
    go_enter Try.func34, Try.ntmps34
    go_wp2_with (first | ((with_reducible refine gate_dst (N := 4) rfl ?_); refine box_event ?hg (N := 4) ?hd (cs := #[.int .i64 a1_0, .int .i64 a1_1, .int .i64 a1_2, .slice A1_3 l1_3.length c1_3]) (t := 45) ?hr ?_; (case hd => rfl); (case hg => rfl); (case hr => first | (go_simp; done) | (go_simp; rfl) | (simp only [pf_or128]; go_simp; done) | (simp only [pf_or128]; go_simp; rfl)); intro gb103 hg w9 hbox hb; have n0_ := Aside0.mk (below_step (by repeat (first | (with_reducible first | exact HB.out | apply below_alloc | apply pw_below_drewN | apply below_drew1) | exact HB.out)) hb); have n1_ := Aside0.mk (hbox); have n2_ := Aside0.mk ((by rw [hg]; exact (below_size (by repeat (first | (with_reducible first | exact HB.out | apply below_alloc | apply pw_below_drewN | apply below_drew1) | exact HB.out))) : w.heap.size ≤ gb103)); have n3_ := Aside0.mk ((by rw [hg]; exact (below_size (by repeat (first | (with_reducible first | exact HB.out | apply below_alloc | apply pw_below_drewN | apply below_drew1) | exact HB.out))) : w.heap.size ≤ gb103)); clear HB; have HB := n0_; have BK103 := n1_; have GW103 := n2_; have GE103 := n3_; clear n0_ n1_ n2_ n3_; clear hb hbox hg; have hcz10_0 : w9.cell? ⟨gb103, 0, none⟩ = some (.int .i64 a1_0) := (blk_cell BK103.out 0).trans rfl; have hcz10_1 : w9.cell? ⟨gb103, 1, none⟩ = some (.int .i64 a1_1) := (blk_cell BK103.out 1).trans rfl; have hcz10_2 : w9.cell? ⟨gb103, 2, none⟩ = some (.int .i64 a1_2) := (blk_cell BK103.out 2).trans rfl; have hcz10_3 : w9.cell? ⟨gb103, 3, none⟩ = some (.slice A1_3 l1_3.length c1_3) := (blk_cell BK103.out 3).trans rfl; have hfz10_0 := blk_frozen BK103.out 0; have hfz10_1 := blk_frozen BK103.out 1; have hfz10_2 := blk_frozen BK103.out 2; have hfz10_3 := blk_frozen BK103.out 3))
    go_ret
    exact ⟨by first | rfl | (simp [errW_none, errW_some] <;> rfl) | (simp [*, errW_none, errW_some] <;> rfl), by repeat (first | (with_reducible first | exact HB.out | apply below_alloc | apply pw_below_drewN | apply below_drew1 | refine below_set ?_ GE103.out) | exact HB.out)⟩

end Go.Proofs.Ytbkdogijkfampaa.PMergeLess
