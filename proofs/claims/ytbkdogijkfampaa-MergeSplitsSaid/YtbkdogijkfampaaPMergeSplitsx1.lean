-- Written by a patched print (wip/mkprint.py), for this claim.
import Derived.Test.YtbkdogijkfampaaPMergeSplitsx0
namespace Go.Proofs.Ytbkdogijkfampaa.PMergeSplits
open Go.RowKit Go.Proofs.YtbkdogijkfampaaW.PrintWords Go.Proofs.YtbkdogijkfampaaW.PrintLast Go.Proofs.YtbkdogijkfampaaW.PrintMore
attribute [local go_sem] max2_int min2_int max_two min_two max_three min_three max_four min_four   -- for this text's walks alone
set_option linter.unusedVariables false
set_option linter.unusedSimpArgs false

/-! ### merge_is: function 24 -/
def merge_is.f (a0 : Int) : Option (Bool) := if a0 ≥ 1 then (some (decide (a0 ≤ 64))) else (some false)
set_option maxHeartbeats 8000000 in
set_option maxRecDepth 100000 in
theorem merge_is.calls (a0 : Int) (r : Bool) (w : World) (h : merge_is.f a0 = some r) :
    Calls Try.prog 24 #[.int .i64 a0] w fun e w' => e = .returned (.bool r) ∧ Drawn0 w w' := by
  have H : (if a0 ≥ 1 then (some (decide (a0 ≤ 64))) else (some false)) = some r := h
  clear h
  by_cases c2 : a0 ≥ 1
  · rw [if_pos c2] at H
    have c2b0 : decide (1 ≤ a0) = true := decide_eq_true c2
    clear c2
    obtain rfl := Option.some.inj H
    go_enter Try.func24, Try.ntmps24
    go_wp2
    go_ret
    exact ⟨by first | rfl | (simp; done) | (simp [*]; done), by repeat (first | exact Drawn0.refl _ | apply Drawn0.step)⟩
  · rw [if_neg c2] at H
    have c2b0 : decide (1 ≤ a0) = false := decide_eq_false c2
    clear c2
    obtain rfl := Option.some.inj H
    go_enter Try.func24, Try.ntmps24
    go_wp2
    go_ret
    exact ⟨by first | rfl | (simp; done) | (simp [*]; done), by repeat (first | exact Drawn0.refl _ | apply Drawn0.step)⟩

/-! ### stamp_At: function 41 -/
def stamp_At.f (l0 : List Int) (a1 : Int) : Option (Int) := if a1 < 0 then (some 0) else (if a1 ≥ (l0.length : Int) then (some 0) else (if 0 ≤ a1 then (if a1 < (l0.length : Int) then (some (rd l0 a1)) else (none)) else (none)))
set_option maxHeartbeats 8000000 in
set_option maxRecDepth 100000 in
theorem stamp_At.calls (A0 : Option Addr) (c0 : Nat) (l0 : List Int) (a1 : Int) (r : Int) (w : World) (hr0 : Kd.C (Kd.int .i64) w A0 l0.length l0) (hc0 : l0.length ≤ c0) (h : stamp_At.f l0 a1 = some r) :
    Calls Try.prog 41 #[.slice A0 l0.length c0, .int .i64 a1] w fun e w' => e = .returned (.int .i64 r) ∧ Drawn0 w w' := by
  have HR0 := Aside0.mk hr0
  have HC0 := Aside0.mk hc0
  clear hr0 hc0
  have H : (if a1 < 0 then (some 0) else (if a1 ≥ (l0.length : Int) then (some 0) else (if 0 ≤ a1 then (if a1 < (l0.length : Int) then (some (rd l0 a1)) else (none)) else (none)))) = some r := h
  clear h
  by_cases c3 : a1 < 0
  · rw [if_pos c3] at H
    have c3b0 : decide (a1 < 0) = true := decide_eq_true c3
    clear c3
    obtain rfl := Option.some.inj H
    go_enter Try.func41, Try.ntmps41
    go_wp2
    go_ret
    exact ⟨by first | rfl | (simp; done) | (simp [*]; done), by repeat (first | exact Drawn0.refl _ | apply Drawn0.step)⟩
  · rw [if_neg c3] at H
    have c3b0 : decide (a1 < 0) = false := decide_eq_false c3
    clear c3
    by_cases c4 : a1 ≥ (l0.length : Int)
    · rw [if_pos c4] at H
      have c4b0 : decide ((l0.length : Int) ≤ a1) = true := decide_eq_true c4
      clear c4
      obtain rfl := Option.some.inj H
      go_enter Try.func41, Try.ntmps41
      go_wp2
      go_ret
      exact ⟨by first | rfl | (simp; done) | (simp [*]; done), by repeat (first | exact Drawn0.refl _ | apply Drawn0.step)⟩
    · rw [if_neg c4] at H
      have c4b0 : decide ((l0.length : Int) ≤ a1) = false := decide_eq_false c4
      clear c4
      by_cases c5 : 0 ≤ a1
      · rw [if_pos c5] at H
        have c5b0 : decide (0 ≤ a1) = true := decide_eq_true c5
        clear c5
        by_cases c6 : a1 < (l0.length : Int)
        · rw [if_pos c6] at H
          have c6b0 : decide (a1 < (l0.length : Int)) = true := decide_eq_true c6
          clear c6
          obtain rfl := Option.some.inj H
          have p101 : 0 ≤ (a1 : Int) := of_decide_eq_true (by first | (with_reducible assumption) | assumption)
          have q101 : a1 < (l0.length : Int) := of_decide_eq_true (by first | (with_reducible assumption) | assumption)
          obtain ⟨ad101, e101, hx101_0⟩ := Kd.at_int HR0.out a1 p101 q101
          cases e101
          replace p101 := eq_true p101
          replace q101 := eq_true q101
          go_enter Try.func41, Try.ntmps41
          go_wp2
          go_ret
          exact ⟨by first | rfl | (simp; done) | (simp [*]; done), by repeat (first | exact Drawn0.refl _ | apply Drawn0.step)⟩
        · rw [if_neg c6] at H
          exact absurd H (by simp)
      · rw [if_neg c5] at H
        exact absurd H (by simp)

/-! ### stamp_beside: function 36 -/
section
open Go.Shelf
attribute [local go_sem] Oper.semAt_some
def atS (l : List Int) (i : Int) : Int := if 0 ≤ i ∧ i < (l.length : Int) then rd l i else 0
theorem own_At (A0 : Option Addr) (c0 : Nat) (l0 : List Int) (a1 : Int) (w : World) (hr0 : Kd.C (Kd.int .i64) w A0 l0.length l0) :
    Calls Try.prog 41 #[.slice A0 l0.length c0, .int .i64 a1] w fun e w' => e = .returned (.int .i64 (atS l0 a1)) ∧ w = w' := by
  have HR0 := Aside0.mk hr0
  clear hr0
  by_cases c3 : a1 < 0
  · have hz : atS l0 a1 = 0 := by unfold atS; rw [if_neg (by omega)]
    rw [hz]
    have c3b0 : decide (a1 < 0) = true := decide_eq_true c3
    clear c3 hz
    go_enter Try.func41, Try.ntmps41
    go_wp2
    go_ret
    exact ⟨rfl, rfl⟩
  · by_cases c4 : a1 ≥ (l0.length : Int)
    · have hz : atS l0 a1 = 0 := by unfold atS; rw [if_neg (by omega)]
      rw [hz]
      have c3b0 : decide (a1 < 0) = false := decide_eq_false c3
      have c4b0 : decide ((l0.length : Int) ≤ a1) = true := decide_eq_true c4
      clear c3 c4 hz
      go_enter Try.func41, Try.ntmps41
      go_wp2
      go_ret
      exact ⟨rfl, rfl⟩
    · have hz : atS l0 a1 = rd l0 a1 := by unfold atS; rw [if_pos (by omega)]
      rw [hz]
      have c3b0 : decide (a1 < 0) = false := decide_eq_false c3
      have c4b0 : decide ((l0.length : Int) ≤ a1) = false := decide_eq_false c4
      have p103 : 0 ≤ (a1 : Int) := by omega
      have q103 : a1 < (l0.length : Int) := by omega
      clear c3 c4 hz
      obtain ⟨ad103, e103, hx103_0⟩ := Kd.at_int HR0.out a1 p103 q103
      cases e103
      replace p103 := eq_true p103
      replace q103 := eq_true q103
      go_enter Try.func41, Try.ntmps41
      go_wp2
      go_ret
      exact ⟨rfl, rfl⟩
theorem own_beside (A0 A1 : Option Addr) (n0 c0 n1 c1 : Nat) (w : World) :
    Calls Try.prog 36 #[.slice A0 n0 c0, .slice A1 n1 c1] w fun e w' => e = .returned (.func (.func 40) #[] #[.pointer (some ⟨w.heap.size, 0, none⟩), .pointer (some ⟨w.heap.size + 1, 0, none⟩)]) ∧ (w.alloc (.cells #[.slice A0 n0 c0] 26)).alloc (.cells #[.slice A1 n1 c1] 26) = w' := by
  go_enter Try.func36, Try.ntmps36
  go_wp2
  go_ret
  exact ⟨rfl, rfl⟩

def trip (l0 l1 : List Int) (j : Nat) : Int × Int × Int := ((j : Int), atS l0 j, atS l1 j)
def upto (l0 l1 : List Int) (k : Nat) : List (Int × Int × Int) := (List.range k).map (trip l0 l1)
theorem upto_succ (l0 l1 : List Int) (k : Nat) : upto l0 l1 (k + 1) = upto l0 l1 k ++ [trip l0 l1 k] := by simp [upto, List.range_succ]
theorem upto_length (l0 l1 : List Int) (k : Nat) : (upto l0 l1 k).length = k := by simp [upto]
def encT (t : Int × Int × Int) : Array Value := #[.agg #[.int .i64 t.1, .int .i64 t.2.1, .int .i64 t.2.2]]
def besK (n₀ Ba Bb : Nat) (W W' : World) : Prop := Below n₀ W W' ∧ W'.heap[Ba]? = W.heap[Ba]? ∧ W'.heap[Bb]? = W.heap[Bb]?
theorem wide_room {n : Nat} : Fence.wide.depth.isSome = true → 1 ≤ n := fun h => by cases h
theorem yield_two {e : Ending} {p q : Prop} (h : (e = .returned (.bool true) ∧ p) ∨ (e = .returned (.bool false) ∧ q)) : ∃ b : Bool, e = .returned (.bool b) ∧ ((b = true ∧ p) ∨ (b = false ∧ q)) := by
  rcases h with ⟨h, hp⟩ | ⟨h, hq⟩
  · exact ⟨true, h, .inl ⟨rfl, hp⟩⟩
  · exact ⟨false, h, .inr ⟨rfl, hq⟩⟩
set_option maxRecDepth 100000 in
set_option maxHeartbeats 1000000 in
theorem own_beside1 (n : Nat) (l Ba Bb : Nat) (A0 A1 : Option Addr) (c0 c1 : Nat) (l0 l1 : List Int) (w0 : World) (hr0 : Kd.C (Kd.int .i64) w0 A0 l0.length l0) (hr1 : Kd.C (Kd.int .i64) w0 A1 l1.length l1)
    (hn0 : l0.length ≤ 17592186044416) (hn1 : l1.length ≤ 17592186044416) (N : Nat) (hN : N = if l0.length < l1.length then l1.length else l0.length) (J Jx : List (Int × Int × Int) → World → Prop) (W : World)
    (hJ : AbidesFrom W.heap.size J)
    (hY : ∀ pre x W1, J pre W1 → pre.length < N → YieldAt Fence.wide (n - 1) Try.prog l (encT x) W1 fun e W' =>
      (e = .returned (.bool true) ∧ J (pre ++ [x]) W' ∧ besK w0.heap.size Ba Bb W1 W') ∨ (e = .returned (.bool false) ∧ Jx (pre ++ [x]) W'))
    (hWb : Below w0.heap.size w0 W) (hBa : Boxed W Ba 26 (.slice A0 l0.length c0)) (hBb : Boxed W Bb 26 (.slice A1 l1.length c1)) (h0 : J [] W) :
    CallsIn Fence.wide n Try.prog 40 #[.func (.yield l) #[] #[], .pointer (some ⟨Ba, 0, none⟩), .pointer (some ⟨Bb, 0, none⟩)] W fun e W' => (∃ v, e = .returned v) ∧
      ((∃ ys, ys = upto l0 l1 (N) ∧ J ys W') ∨ (∃ pre, (∃ k, k ≤ N ∧ pre = upto l0 l1 k) ∧ Jx pre W')) := by
  have HR0 := Aside0.mk hr0
  have HR1 := Aside0.mk hr1
  clear hr0 hr1
  refine callsIn_of_wp Try.func40 rfl trivial ?_ rfl
  simp only [Try.ntmps40, List.size_toArray, List.length_cons, List.length_nil, Nat.reduceAdd, Nat.reduceSub, Array.replicate_succ, Array.replicate_zero, List.push_toArray, List.append_toArray, List.nil_append, List.cons_append]
  have cA := hBa.cell
  have cB := hBb.cell
  rcases Nat.lt_or_ge l0.length l1.length with h | h
  · obtain rfl : N = l1.length := by simpa [h] using hN
    clear hN
    gi_wp2
    gi_loopw [10] (fun i wr => ∃ k : Nat, k ≤ l1.length ∧ i = .int .i64 k ∧ Aside0 (J (upto l0 l1 k) wr) ∧ Aside0 (Below w0.heap.size w0 wr) ∧ wr.heap[Ba]? = some (.cells #[.slice A0 l0.length c0] 26 (0, 0)) ∧ wr.heap[Bb]? = some (.cells #[.slice A1 l1.length c1] 26 (0, 0)))
      (fun i _ => l1.length - (intOf i).toNat)
    case atStart => exact ⟨0, Nat.zero_le _, rfl, ⟨h0⟩, ⟨hWb⟩, hBa, hBb⟩
    case round =>
      clear hBa hBb cA cB h0 hWb
      obtain ⟨k, hk, rfl, hJs, hnx, bA, bB⟩ := hrel
      have cA := Boxed.cell bA
      have cB := Boxed.cell bB
      by_cases hlt : k < l1.length
      · have hJd : J (upto l0 l1 k) wr.drew := hJ _ wr wr.drew none hJs.out ⟨rfl, rfl, rfl, Nat.le_refl _, fun _ _ _ => rfl⟩ (fun r e => by cases e)
        obtain ⟨fn, tmps, assign, body, hy, hR⟩ := hY _ (trip l0 l1 k) wr.drew hJd (by rw [upto_length]; exact hlt)
        dsimp only [encT, trip] at hy
        have r0 : Kd.C (Kd.int .i64) wr.drew A0 l0.length l0 := Kd.C_drew (Kd.C_below HR0.out hnx.out)
        have r1 : Kd.C (Kd.int .i64) wr.drew A1 l1.length l1 := Kd.C_drew (Kd.C_below HR1.out hnx.out)
        have R0 := Aside0.mk r0
        have R1 := Aside0.mk r1
        have HB := Aside0.mk bA
        have HB' := Aside0.mk bB
        have HRR := Aside0.mk hR
        have hmo : Try.prog.follows .mixedOrders = true := by kernel_rfl
        clear r0 r1 bA bB hR
        gi_wp2
        gi_region_with_o (first | (refine ⟨trivial, wide_room, ?_⟩; gi_at_call 41; (with_reducible refine (CallsIn.mono (callsIn_wide.2 (own_At A0 c0 l0 (k : Int) _ R0.out)) ?_)); rintro e w' ⟨rfl, rfl⟩) | (refine ⟨trivial, wide_room, ?_⟩; gi_at_call 41; (with_reducible refine (CallsIn.mono (callsIn_wide.2 (own_At A1 c1 l1 (k : Int) _ R1.out)) ?_)); rintro e w' ⟨rfl, rfl⟩) | (refine ⟨wide_room, ?_⟩; (with_reducible refine RoundIn.mono HRR.out ?_); rintro e W3 hr3; obtain ⟨b, rfl, hr4⟩ := yield_two hr3; clear hr3; have HR4 := Aside0.mk hr4; clear hr4))
        all_goals
          rcases HR4.out with ⟨rfl, hJ3, hk3, hA3, hB3⟩ | ⟨rfl, hJx3⟩
          · gi_wp2
            go_roundw
            case rel => exact ⟨k + 1, by omega, by go_num, ⟨by rw [upto_succ]; exact hJ3⟩, ⟨hnx.out.drew.trans hk3⟩, hA3.trans HB.out, hB3.trans HB'.out⟩
            case measure => simp [intOf]; omega
          · gi_wp2
            refine bodyPost_ret (results_none rfl _ _ _) rfl ?_
            exact ⟨⟨_, rfl⟩, .inr ⟨_, ⟨k + 1, by omega, rfl⟩, by rw [upto_succ]; exact hJx3⟩⟩
      · obtain rfl : k = l1.length := by omega
        gi_wp2
        go_end0
        exact ⟨⟨_, rfl⟩, .inl ⟨_, rfl, hJs.out⟩⟩
  · obtain rfl : N = l0.length := by simpa [Nat.not_lt.2 h] using hN
    clear hN
    gi_wp2
    gi_loopw [10] (fun i wr => ∃ k : Nat, k ≤ l0.length ∧ i = .int .i64 k ∧ Aside0 (J (upto l0 l1 k) wr) ∧ Aside0 (Below w0.heap.size w0 wr) ∧ wr.heap[Ba]? = some (.cells #[.slice A0 l0.length c0] 26 (0, 0)) ∧ wr.heap[Bb]? = some (.cells #[.slice A1 l1.length c1] 26 (0, 0)))
      (fun i _ => l0.length - (intOf i).toNat)
    case atStart => exact ⟨0, Nat.zero_le _, rfl, ⟨h0⟩, ⟨hWb⟩, hBa, hBb⟩
    case round =>
      clear hBa hBb cA cB h0 hWb
      obtain ⟨k, hk, rfl, hJs, hnx, bA, bB⟩ := hrel
      have cA := Boxed.cell bA
      have cB := Boxed.cell bB
      by_cases hlt : k < l0.length
      · have hJd : J (upto l0 l1 k) wr.drew := hJ _ wr wr.drew none hJs.out ⟨rfl, rfl, rfl, Nat.le_refl _, fun _ _ _ => rfl⟩ (fun r e => by cases e)
        obtain ⟨fn, tmps, assign, body, hy, hR⟩ := hY _ (trip l0 l1 k) wr.drew hJd (by rw [upto_length]; exact hlt)
        dsimp only [encT, trip] at hy
        have r0 : Kd.C (Kd.int .i64) wr.drew A0 l0.length l0 := Kd.C_drew (Kd.C_below HR0.out hnx.out)
        have r1 : Kd.C (Kd.int .i64) wr.drew A1 l1.length l1 := Kd.C_drew (Kd.C_below HR1.out hnx.out)
        have R0 := Aside0.mk r0
        have R1 := Aside0.mk r1
        have HB := Aside0.mk bA
        have HB' := Aside0.mk bB
        have HRR := Aside0.mk hR
        have hmo : Try.prog.follows .mixedOrders = true := by kernel_rfl
        clear r0 r1 bA bB hR
        gi_wp2
        gi_region_with_o (first | (refine ⟨trivial, wide_room, ?_⟩; gi_at_call 41; (with_reducible refine (CallsIn.mono (callsIn_wide.2 (own_At A0 c0 l0 (k : Int) _ R0.out)) ?_)); rintro e w' ⟨rfl, rfl⟩) | (refine ⟨trivial, wide_room, ?_⟩; gi_at_call 41; (with_reducible refine (CallsIn.mono (callsIn_wide.2 (own_At A1 c1 l1 (k : Int) _ R1.out)) ?_)); rintro e w' ⟨rfl, rfl⟩) | (refine ⟨wide_room, ?_⟩; (with_reducible refine RoundIn.mono HRR.out ?_); rintro e W3 hr3; obtain ⟨b, rfl, hr4⟩ := yield_two hr3; clear hr3; have HR4 := Aside0.mk hr4; clear hr4))
        all_goals
          rcases HR4.out with ⟨rfl, hJ3, hk3, hA3, hB3⟩ | ⟨rfl, hJx3⟩
          · gi_wp2
            go_roundw
            case rel => exact ⟨k + 1, by omega, by go_num, ⟨by rw [upto_succ]; exact hJ3⟩, ⟨hnx.out.drew.trans hk3⟩, hA3.trans HB.out, hB3.trans HB'.out⟩
            case measure => simp [intOf]; omega
          · gi_wp2
            refine bodyPost_ret (results_none rfl _ _ _) rfl ?_
            exact ⟨⟨_, rfl⟩, .inr ⟨_, ⟨k + 1, by omega, rfl⟩, by rw [upto_succ]; exact hJx3⟩⟩
      · obtain rfl : k = l0.length := by omega
        gi_wp2
        go_end0
        exact ⟨⟨_, rfl⟩, .inl ⟨_, rfl, hJs.out⟩⟩
theorem boxed_below {w W : World} {B t v} (h : Boxed w B t v) (hb : Below w.heap.size w W) : Boxed W B t v := (hb.block B h.lt).trans h
theorem own_stops (n Ba Bb : Nat) (A0 A1 : Option Addr) (c0 c1 : Nat) (l0 l1 : List Int) (w0 w : World) (hr0 : Kd.C (Kd.int .i64) w0 A0 l0.length l0) (hr1 : Kd.C (Kd.int .i64) w0 A1 l1.length l1)
    (hn0 : l0.length ≤ 17592186044416) (hn1 : l1.length ≤ 17592186044416) (N : Nat) (hN : N = if l0.length < l1.length then l1.length else l0.length) (hw : Below w0.heap.size w0 w)
    (hBa : Boxed w Ba 26 (.slice A0 l0.length c0)) (hBb : Boxed w Bb 26 (.slice A1 l1.length c1)) :
    SeqStopsK Fence.wide n Try.prog 40 #[.pointer (some ⟨Ba, 0, none⟩), .pointer (some ⟨Bb, 0, none⟩)] encT (besK w0.heap.size Ba Bb) (fun ys => ys = upto l0 l1 N) (fun pre => ∃ k, k ≤ N ∧ pre = upto l0 l1 k) N w :=
  fun l J Jx W hW hJ hJx hY h0 => own_beside1 n l Ba Bb A0 A1 c0 c1 l0 l1 w0 hr0 hr1 hn0 hn1 N hN J Jx W hJ hY (hw.trans (hW.mono hw.size)) (boxed_below hBa hW) (boxed_below hBb hW) h0
theorem besK_t {n₀ Ba Bb : Nat} {A B C : World} (h : besK n₀ Ba Bb A B) (k : besK n₀ Ba Bb B C) : besK n₀ Ba Bb A C := ⟨h.1.trans k.1, k.2.1.trans h.2.1, k.2.2.trans h.2.2⟩
theorem besK_b {n₀ Ba Bb : Nat} {w : World} (hn : n₀ ≤ w.heap.size) (ha : Ba < w.heap.size) (hb : Bb < w.heap.size) (W : World) (l : Nat) (o o' : Obj) (hl : w.heap.size ≤ l) (h : W.heap[l]? = some o) (h1 : o.isCells = false) (h2 : o.isWalk = false) : besK n₀ Ba Bb W (W.putObj l o') :=
  ⟨belowK_b hn W l o o' hl h h1 h2, World.putObj_heap_other (by omega), World.putObj_heap_other (by omega)⟩
def tripBox (W : World) (B : Nat) (x : Int × Int × Int) : Prop := W.heap[B]? = some (.cells #[.int .i64 x.1, .int .i64 x.2.1, .int .i64 x.2.2] 67 (0, 0))
theorem tripBox.cell0 {W : World} {B : Nat} {x : Int × Int × Int} (h : tripBox W B x) : W.cell? ⟨B, 0, none⟩ = some (.int .i64 x.1) := by simp [World.cell?, show W.heap[B]? = _ from h]
theorem tripBox.cell1 {W : World} {B : Nat} {x : Int × Int × Int} (h : tripBox W B x) : W.cell? ⟨B, 1, none⟩ = some (.int .i64 x.2.1) := by simp [World.cell?, show W.heap[B]? = _ from h]
theorem tripBox.cell2 {W : World} {B : Nat} {x : Int × Int × Int} (h : tripBox W B x) : W.cell? ⟨B, 2, none⟩ = some (.int .i64 x.2.2) := by simp [World.cell?, show W.heap[B]? = _ from h]
theorem tripBox.lt {W : World} {B : Nat} {x : Int × Int × Int} (h : tripBox W B x) : B < W.heap.size := (Array.getElem?_eq_some_iff.1 h).1
theorem tripBox_own (B : Nat) (x : Int × Int × Int) : Own (fun (_ : Unit) W => tripBox W B x) := fun _ X Y row hs hg hr => by
  refine (hg.block B hs.lt (fun e => ?_)).trans hs
  obtain ⟨o, ho, hc⟩ := hr B e.symm
  rw [show X.heap[B]? = _ from hs] at ho; cases ho; cases hc
theorem tripBox.new (W : World) (x : Int × Int × Int) : tripBox (W.alloc (.cells #[.int .i64 x.1, .int .i64 x.2.1, .int .i64 x.2.2] 67)) W.heap.size x := World.alloc_heap_new W _
theorem besK_alloc {n₀ Ba Bb : Nat} {W : World} (o : Obj) (h0 : n₀ ≤ W.heap.size) (ha : Ba < W.heap.size) (hb : Bb < W.heap.size) : besK n₀ Ba Bb W (W.alloc o) :=
  ⟨(Below.refl n₀ W).alloc h0 _, Below.heap_alloc W o _ ha, Below.heap_alloc W o _ hb⟩
theorem besK_set {n₀ Ba Bb B : Nat} {W : World} (v : Value) (h0 : n₀ ≤ B) (ha : Ba ≠ B) (hb : Bb ≠ B) : besK n₀ Ba Bb W (W.setCell ⟨B, 0, none⟩ v) :=
  ⟨(Below.refl n₀ W).setCell (p := ⟨B, 0, none⟩) h0 _, Below.heap_setCell _ _ _ _ ha, Below.heap_setCell _ _ _ _ hb⟩
theorem ownFrom_size {β : Type} (B n : Nat) : OwnFrom B (fun (_ : β) W => n ≤ W.heap.size) := fun _ _ _ _ hs hg _ => Nat.le_trans hs hg.size
theorem setCell_size' (W : World) (a : Addr) (v : Value) : (W.setCell a v).heap.size = W.heap.size := by simp [World.setCell]
theorem besK_refl {n₀ Ba Bb : Nat} (W : World) : besK n₀ Ba Bb W W := ⟨Below.refl _ _, rfl, rfl⟩
def lenS (l0 l1 : List Int) : Nat := if l0.length < l1.length then l1.length else l0.length
theorem boxed_eq {W W' : World} {B t v} (h : Boxed W B t v) (h' : Boxed W' B t v) : W'.heap[B]? = W.heap[B]? := (show W'.heap[B]? = _ from h').trans (show W.heap[B]? = _ from h).symm
theorem cell_alloc_l {W : World} {a : Addr} {v : Value} (o : Obj) (h : W.cell? a = some v) : (W.alloc o).cell? a = some v := cell_kept h (World.grownBy_alloc W o none) (fun r e => by cases e)
theorem frozen_alloc_l {W : World} {a : Addr} {v : Value} (o : Obj) (h : W.cell? a = some v) (hf : W.frozen? a = false) : (W.alloc o).frozen? a = false := (frozen_kept h (World.grownBy_alloc W o none) (fun r e => by cases e)).trans hf
end

-- NOT PRINTED: function 42 (stamp_all)

/-! ### stamp_Next: function 38 -/
section
open Go.Shelf
attribute [local go_sem] Oper.semAt_some
def holdsS (i : Int) (t : Int × Int × Int) : Bool := decide (t.1 = i) || decide (t.2.2 ≤ t.2.1)
theorem own_holds (i : Int) (Bi : Nat) (x : Int × Int × Int) (w : World) (hc : w.cell? ⟨Bi, 0, none⟩ = some (.int .i64 i)) :
    Calls Try.prog 43 #[.agg #[.int .i64 x.1, .int .i64 x.2.1, .int .i64 x.2.2], .pointer (some ⟨Bi, 0, none⟩)] w fun e w' => e = .returned (.bool (holdsS i x)) ∧ w.alloc (.cells #[.int .i64 x.1, .int .i64 x.2.1, .int .i64 x.2.2] 67) = w' := by
  have hc' : (w.alloc (.cells #[.int .i64 x.1, .int .i64 x.2.1, .int .i64 x.2.2] 67)).cell? ⟨Bi, 0, none⟩ = some (.int .i64 i) := cell_alloc_l _ hc
  by_cases h : x.1 = i
  · have e : holdsS i x = true := by simp only [holdsS, decide_eq_true h, Bool.true_or]
    rw [e]
    have h0 : (x.1 == i) = true := beq_iff_eq.mpr h
    clear h e
    go_enter Try.func43, Try.ntmps43
    go_wp2
    go_ret
    exact ⟨rfl, rfl⟩
  · have h0 : (x.1 == i) = false := beq_eq_false_iff_ne.mpr h
    have e : holdsS i x = decide (x.2.2 ≤ x.2.1) := by simp only [holdsS, decide_eq_false h, Bool.false_or]
    rw [e]
    clear h e
    go_enter Try.func43, Try.ntmps43
    go_wp2
    go_ret
    exact ⟨rfl, rfl⟩
def allB (i : Int) (pre : List (Int × Int × Int)) : Bool := pre.all (holdsS i)
theorem allB_snoc (i : Int) (pre : List (Int × Int × Int)) (x : Int × Int × Int) : allB i (pre ++ [x]) = (allB i pre && holdsS i x) := by simp [allB]
theorem all_upto_false {l0 l1 : List Int} {p : Int} {k N : Nat} (hk : k ≤ N) (h : allB p (upto l0 l1 k) = false) : allB p (upto l0 l1 N) = false := by
  unfold allB at h ⊢
  rw [List.all_eq_false] at h ⊢
  obtain ⟨x, hx, hp⟩ := h
  refine ⟨x, ?_, hp⟩
  unfold upto at hx ⊢
  obtain ⟨j, hj, rfl⟩ := List.mem_map.1 hx
  exact List.mem_map.2 ⟨j, by rw [List.mem_range] at hj ⊢; omega, rfl⟩
set_option maxRecDepth 100000 in
set_option maxHeartbeats 4000000 in
theorem own_all (i : Int) (Bi : Nat) (A0 A1 : Option Addr) (c0 c1 : Nat) (l0 l1 : List Int) (w : World) (hBi : Boxed w Bi 3 (.int .i64 i)) (hr0 : Kd.C (Kd.int .i64) w A0 l0.length l0) (hr1 : Kd.C (Kd.int .i64) w A1 l1.length l1) (hn0 : l0.length ≤ 1000000) (hn1 : l1.length ≤ 1000000) :
    CallsIn Fence.wide 9 Try.prog 42 #[.slice A0 l0.length c0, .slice A1 l1.length c1, .func (.func 43) #[] #[.pointer (some ⟨Bi, 0, none⟩)]] w fun e w' => e = .returned (.bool (allB i (upto l0 l1 (lenS l0 l1)))) ∧ Below w.heap.size w w' := by
  have HR0 := Aside0.mk hr0
  have HR1 := Aside0.mk hr1
  clear hr0 hr1
  have hbl := hBi.lt
  refine callsIn_of_wp_marks Try.func42 rfl trivial ?_ rfl
  simp only [Try.ntmps42, List.size_toArray, List.length_cons, List.length_nil, Nat.reduceAdd, Nat.reduceSub, Array.replicate_succ, Array.replicate_zero, List.push_toArray, List.append_toArray, List.nil_append, List.cons_append]
  gi_wp2_with ((first | refine ⟨trivial, ?_⟩ | refine ⟨trivial, wide_room, ?_⟩); gi_at_call 36; (with_reducible refine (CallsIn.mono (callsIn_wide.2 (own_beside A0 A1 l0.length c0 l1.length c1 _)) ?_)); rintro e w' ⟨rfl, rfl⟩)
  obtain ⟨fv, hfv⟩ : ∃ fv : Value, fv = .func (.func 43) #[] #[.pointer (some ⟨Bi, 0, none⟩)] := ⟨_, rfl⟩
  have bF := (((Boxed.new w 69 fv).alloc (.cells #[.bool false] 4)).alloc (.cells #[.slice A0 l0.length c0] 26)).alloc (.cells #[.slice A1 l1.length c1] 26)
  have bR := ((Boxed.new (w.alloc (.cells #[fv] 69)) 4 (.bool false)).alloc (.cells #[.slice A0 l0.length c0] 26)).alloc (.cells #[.slice A1 l1.length c1] 26)
  have bA := (Boxed.new ((w.alloc (.cells #[fv] 69)).alloc (.cells #[.bool false] 4)) 26 (.slice A0 l0.length c0)).alloc (.cells #[.slice A1 l1.length c1] 26)
  have bB := Boxed.new (((w.alloc (.cells #[fv] 69)).alloc (.cells #[.bool false] 4)).alloc (.cells #[.slice A0 l0.length c0] 26)) 26 (.slice A1 l1.length c1)
  simp only [World.size_alloc] at bR bA bB
  have hB0 : Below w.heap.size w ((((w.alloc (.cells #[fv] 69)).alloc (.cells #[.bool false] 4)).alloc (.cells #[.slice A0 l0.length c0] 26)).alloc (.cells #[.slice A1 l1.length c1] 26)) := ((((Below.refl _ w).alloc (Nat.le_refl _) _).alloc (by simp) _).alloc (by simp; omega) _).alloc (by simp; omega) _
  have hsz : ((((w.alloc (.cells #[fv] 69)).alloc (.cells #[.bool false] 4)).alloc (.cells #[.slice A0 l0.length c0] 26)).alloc (.cells #[.slice A1 l1.length c1] 26)).heap.size = w.heap.size + 4 := by simp
  rw [hfv] at bF bR bA bB hB0 hsz
  clear hfv fv
  obtain ⟨W0, hW0⟩ : ∃ W0, (((w.alloc (.cells #[.func (.func 43) #[] #[.pointer (some ⟨Bi, 0, none⟩)]] 69)).alloc (.cells #[.bool false] 4)).alloc (.cells #[.slice A0 l0.length c0] 26)).alloc (.cells #[.slice A1 l1.length c1] 26) = W0 := ⟨_, rfl⟩
  rw [hW0] at bF bR bA bB hB0 hsz ⊢
  clear hW0
  refine wpIn_rangeFunc_ownH rfl (by omega) (gf := 40) (lb := #[.pointer (some ⟨w.heap.size + 1 + 1, 0, none⟩), .pointer (some ⟨w.heap.size + 1 + 1 + 1, 0, none⟩)]) rfl trivial (enters_of Try.func40 (by kernel_rfl) rfl)
    (own_stops (9 - 1) (w.heap.size + 1 + 1) (w.heap.size + 1 + 1 + 1) A0 A1 c0 c1 l0 l1 w W0 HR0.out HR1.out (Nat.le_trans hn0 (by decide)) (Nat.le_trans hn1 (by decide)) (lenS l0 l1) rfl hB0 bA bB) besK_t (besK_b (by omega) (by omega) (by omega)) (Below.refl _ _) (fun _ => rfl)
    (fun pre W => (((Boxed W w.heap.size 69 (.func (.func 43) #[] #[.pointer (some ⟨Bi, 0, none⟩)]) ∧ Boxed W (w.heap.size + 1) 4 (.bool false)) ∧ (fun (_ : List (Int × Int × Int)) => allB i pre = true) pre) ∧ Below w.heap.size w W) ∧ w.heap.size + 4 ≤ W.heap.size)
    (fun c pre W => ((c = .ret ∧ allB i pre = false) ∧ Boxed W (w.heap.size + 1) 4 (.bool false)) ∧ Below w.heap.size w W)
    (OwnFrom.and (OwnFrom.and (OwnFrom.and (OwnFrom.and (Own.from (boxed_own _ _ _) _) (Own.from (boxed_own _ _ _) _)) (ownFrom_pure _ _)) (ownFrom_below (Nat.le_refl _) (by omega))) (ownFrom_size _ _))
    (fun c => OwnFrom.and (OwnFrom.and (ownFrom_pure _ _) (Own.from (boxed_own _ _ _) _)) (ownFrom_below (Nat.le_refl _) (by omega)))
    ⟨⟨⟨⟨bF, bR⟩, rfl⟩, hB0⟩, by omega⟩
    (fun x a' W => ∃ Bx, w.heap.size + 3 < Bx ∧ tripBox W Bx x ∧ a' = { tmps := #[.slice A0 l0.length c0, .slice A1 l1.length c1, .func (.func 43) #[] #[.pointer (some ⟨Bi, 0, none⟩)], undef, undef, .pointer (some ⟨w.heap.size, 0, none⟩), .pointer (some ⟨w.heap.size + 1, 0, none⟩), .pointer (some ⟨Bx, 0, none⟩), .slice A0 l0.length c0, .slice A1 l1.length c1, .func (.func 40) #[] #[.pointer (some ⟨w.heap.size + 1 + 1, 0, none⟩), .pointer (some ⟨w.heap.size + 1 + 1 + 1, 0, none⟩)], .agg #[.int .i64 x.1, .int .i64 x.2.1, .int .i64 x.2.2], undef, undef, undef, undef], defers := [] })
    (fun x a' _ X Y row hs hg hr => by obtain ⟨Bx, h1, h2, h3⟩ := hs; exact ⟨Bx, h1, tripBox_own Bx x () X Y row h2 hg (fun r e => (hr r e).2), h3⟩)
    ?assign ?body ?done ?stop
  case assign =>
    rintro l pre x W K ⟨⟨⟨⟨bF1, bR1⟩, ha⟩, hB1⟩, hs1⟩ hK
    have := hB1.size
    dsimp only [encT]
    gi_wp2
    exact hK _ _ ((KeepsOthers.alloc _ _).from _) (besK_alloc _ this (by omega) (by omega)) ⟨⟨⟨⟨bF1.alloc _, bR1.alloc _⟩, ha⟩, hB1.alloc hB1.size _⟩, by simp; omega⟩ ⟨W.heap.size, by omega, tripBox.new W x, rfl⟩
  case body =>
    rintro l pre x a' W hl ⟨r, hr⟩ ⟨⟨⟨⟨bF1, bR1⟩, ha⟩, hB1⟩, hs1⟩ ⟨Bx, hBx, bX, rfl⟩ hlt
    have cF := bF1.cell
    have cR := bR1.cell
    have fR := bR1.frozen
    have k0 := bX.cell0
    have k1 := bX.cell1
    have k2 := bX.cell2
    have hci : W.cell? ⟨Bi, 0, none⟩ = some (.int .i64 i) := (boxed_below hBi hB1).cell
    have HA := Aside0.mk ha
    clear ha
    cases hh : holdsS i x with
    | true =>
      have HH := Aside0.mk hh
      clear hh
      gi_wp2_with ((first | refine ⟨trivial, ?_⟩ | refine ⟨trivial, wide_room, ?_⟩); gi_at_call 43; (with_reducible refine (CallsIn.mono (CallsIn.inRound l (callsIn_wide.2 (own_holds i Bi x W hci))) ?_)); rw [HH.out]; rintro e w' ⟨rfl, rfl⟩)
      exact ⟨(KeepsOthers.alloc _ _).from _, besK_alloc _ hB1.size (by omega) (by omega), ⟨⟨⟨bF1.alloc _, bR1.alloc _⟩, by rw [allB_snoc, HA.out, HH.out]; rfl⟩, hB1.alloc hB1.size _⟩, by simp; omega⟩
    | false =>
      have HH := Aside0.mk hh
      clear hh
      have cR' := cell_alloc_l (.cells #[.int .i64 x.1, .int .i64 x.2.1, .int .i64 x.2.2] 67) cR
      have fR' := frozen_alloc_l (.cells #[.int .i64 x.1, .int .i64 x.2.1, .int .i64 x.2.2] 67) cR fR
      gi_wp2_with ((first | refine ⟨trivial, ?_⟩ | refine ⟨trivial, wide_room, ?_⟩); gi_at_call 43; (with_reducible refine (CallsIn.mono (CallsIn.inRound l (callsIn_wide.2 (own_holds i Bi x W hci))) ?_)); rw [HH.out]; rintro e w' ⟨rfl, rfl⟩)
      exact ⟨((KeepsOthers.alloc _ _).from _).trans ((KeepsOthers.setCell _ _ _).from _), ⟨⟨rfl, by rw [allB_snoc, HH.out]; simp⟩, (bR1.alloc _).set _⟩, (hB1.alloc hB1.size _).setCell (p := ⟨w.heap.size + 1, 0, none⟩) (by simp) _⟩
  case done =>
    rintro D zs W hD rfl ⟨⟨⟨⟨bF1, bR1⟩, ha⟩, hB1⟩, hs1⟩ hK
    have cR := bR1.cell
    have fR := bR1.frozen
    have HA := Aside0.mk ha
    clear ha
    gi_wp2
    have hK' := (KeepsOthers.setCell W ⟨w.heap.size + 1, 0, none⟩ (.bool true)).same D _ hK rfl
    refine ⟨by simp, .inl ⟨_, _, rfl, run_takeDeferred hK', ?_⟩⟩
    have hc5 := cell_kept (World.cell?_setCell_same' W ⟨w.heap.size + 1, 0, none⟩ (.bool true) (by rw [cR]; rfl)) (grownBy_putObj' _ D (.deferred none)) (fun r e => by cases e; exact ⟨_, hK', rfl⟩)
    refine ⟨.bool true, ?_, by rw [HA.out], ?_⟩
    · simp [results, Try.f42, go_sem, hc5]
    · exact (hB1.setCell (p := ⟨w.heap.size + 1, 0, none⟩) (by simp) _).trans (belowK_b (w := w) (Nat.le_refl _) _ D _ _ (by omega) hK' rfl rfl)
  case stop =>
    rintro D c pre W hD ⟨k, hk, rfl⟩ ⟨⟨⟨rfl, ha⟩, bR1⟩, hB1⟩ hK
    have cR := bR1.cell
    have HA := Aside0.mk (all_upto_false hk ha)
    clear ha
    gi_wp2
    refine ⟨by simp, .inl ⟨_, _, rfl, run_takeDeferred hK, ?_⟩⟩
    have hc5 := cell_kept cR (grownBy_putObj' _ D (.deferred none)) (fun r e => by cases e; exact ⟨_, hK, rfl⟩)
    refine ⟨.bool false, ?_, by rw [HA.out], ?_⟩
    · simp [results, Try.f42, go_sem, hc5]
    · exact hB1.trans (belowK_b (w := w) (Nat.le_refl _) _ D _ _ (by omega) hK rfl rfl)
def nextS (had s : List Int) (i : Int) : Bool := if i < 0 ∨ atS had i = 9223372036854775807 ∨ atS s i ≠ wrap64 (atS had i + 1) then false else allB i (upto had s (lenS had s))
set_option maxHeartbeats 2000000 in
theorem own_Next (i : Int) (A0 A1 : Option Addr) (c0 c1 : Nat) (l0 l1 : List Int) (w : World) (hr0 : Kd.C (Kd.int .i64) w A0 l0.length l0) (hr1 : Kd.C (Kd.int .i64) w A1 l1.length l1) (hn0 : l0.length ≤ 1000000) (hn1 : l1.length ≤ 1000000) :
    Calls Try.prog 38 #[.slice A0 l0.length c0, .slice A1 l1.length c1, .int .i64 i] w fun e w' => e = .returned (.bool (nextS l0 l1 i)) ∧ Below w.heap.size w w' := by
  have HB0 := Aside0.mk ((Below.refl _ w).alloc (Nat.le_refl _) (.cells #[.int .i64 i] 3))
  have hr0' := Kd.C_below hr0 HB0.out
  have hr1' := Kd.C_below hr1 HB0.out
  have HR0 := Aside0.mk hr0'
  have HR1 := Aside0.mk hr1'
  have HX := Aside0.mk (Boxed.new w 3 (.int .i64 i))
  clear hr0 hr1 hr0' hr1'
  by_cases h : i < 0
  · have e : nextS l0 l1 i = false := by unfold nextS; rw [if_pos (.inl h)]
    rw [e]
    have h0 : decide (i < 0) = true := decide_eq_true h
    clear h e
    go_enter Try.func38, Try.ntmps38
    go_wp2_with (go_at_call 41; (with_reducible refine (own_At A0 c0 l0 i _ HR0.out).mono ?_); rintro e w' ⟨rfl, rfl⟩)
    go_ret
    exact ⟨rfl, HB0.out⟩
  · have h0 : decide (i < 0) = false := decide_eq_false h
    by_cases h2 : atS l0 i = 9223372036854775807
    · have e : nextS l0 l1 i = false := by unfold nextS; rw [if_pos (.inr (.inl h2))]
      rw [e]
      have h1 : (atS l0 i == 9223372036854775807) = true := beq_iff_eq.mpr h2
      clear h h2 e
      go_enter Try.func38, Try.ntmps38
      go_wp2_with (go_at_call 41; (with_reducible refine (own_At A0 c0 l0 i _ HR0.out).mono ?_); rintro e w' ⟨rfl, rfl⟩)
      go_ret
      exact ⟨rfl, HB0.out⟩
    · have h1 : (atS l0 i == 9223372036854775807) = false := beq_eq_false_iff_ne.mpr h2
      by_cases h3 : atS l1 i = wrap64 (atS l0 i + 1)
      · have e : nextS l0 l1 i = allB i (upto l0 l1 (lenS l0 l1)) := by unfold nextS; rw [if_neg (by rintro (hh | hh | hh) <;> contradiction)]
        rw [e]
        have h4 : (atS l1 i != wrap64 (atS l0 i + 1)) = false := bne_eq_false_iff_eq.mpr h3
        clear h h2 h3 e
        have HALL := Aside0.mk (callsIn_wide.1 (own_all i w.heap.size A0 A1 c0 c1 l0 l1 (w.alloc (.cells #[.int .i64 i] 3)) HX.out HR0.out HR1.out hn0 hn1))
        go_enter Try.func38, Try.ntmps38
        go_wp2_with (first | (go_at_call 41; (with_reducible refine (own_At A0 c0 l0 i _ HR0.out).mono ?_); rintro e w' ⟨rfl, rfl⟩) | (go_at_call 41; (with_reducible refine (own_At A1 c1 l1 i _ HR1.out).mono ?_); rintro e w' ⟨rfl, rfl⟩) | (go_at_call 42; (with_reducible refine HALL.out.mono ?_); rintro e w' ⟨rfl, hb⟩; have HB1 := Aside0.mk hb; clear hb))
        go_ret
        exact ⟨rfl, below_step HB0.out HB1.out⟩
      · have e : nextS l0 l1 i = false := by unfold nextS; rw [if_pos (.inr (.inr h3))]
        rw [e]
        have h4 : (atS l1 i != wrap64 (atS l0 i + 1)) = true := bne_iff_ne.mpr h3
        clear h h2 h3 e
        go_enter Try.func38, Try.ntmps38
        go_wp2_with (first | (go_at_call 41; (with_reducible refine (own_At A0 c0 l0 i _ HR0.out).mono ?_); rintro e w' ⟨rfl, rfl⟩) | (go_at_call 41; (with_reducible refine (own_At A1 c1 l1 i _ HR1.out).mono ?_); rintro e w' ⟨rfl, rfl⟩))
        go_ret
        exact ⟨rfl, HB0.out⟩
end
def stamp_Next.f (l0 l1 : List Int) (a2 : Int) : Option Bool := if l0.length ≤ 1000000 ∧ l1.length ≤ 1000000 then some (nextS l0 l1 a2) else none
theorem stamp_Next.calls (A0 : Option Addr) (c0 : Nat) (l0 : List Int) (A1 : Option Addr) (c1 : Nat) (l1 : List Int) (a2 : Int) (r : Bool) (w : World) (hr0 : Kd.C (Kd.int .i64) w A0 l0.length l0) (hc0 : l0.length ≤ c0) (hr1 : Kd.C (Kd.int .i64) w A1 l1.length l1) (hc1 : l1.length ≤ c1) (h : stamp_Next.f l0 l1 a2 = some r) :
    Calls Try.prog 38 #[.slice A0 l0.length c0, .slice A1 l1.length c1, .int .i64 a2] w fun e w' => e = .returned (.bool r) ∧ Below w.heap.size w w' := by
  unfold stamp_Next.f at h
  by_cases hl : l0.length ≤ 1000000 ∧ l1.length ≤ 1000000
  · rw [if_pos hl] at h
    obtain rfl := Option.some.inj h
    exact own_Next a2 A0 A1 c0 c1 l0 l1 w hr0 hr1 hl.1 hl.2
  · rw [if_neg hl] at h; cases h

/-! ### merge_next: function 34 -/
def merge_next.f (l0 : List Int) (a1_0 : Int) (a1_1 : Int) (a1_2 : Int) (l1_3 : List Int) (a2 : Int) : Option (Bool) := if (l1_3.length : Int) = (l0.length : Int) then ((stamp_Next.f l0 l1_3 a2).bind fun t103 => (some t103)) else (some false)
set_option maxHeartbeats 8000000 in
set_option maxRecDepth 100000 in
theorem merge_next.calls (A0 : Option Addr) (c0 : Nat) (l0 : List Int) (a1_0 : Int) (a1_1 : Int) (a1_2 : Int) (A1_3 : Option Addr) (c1_3 : Nat) (l1_3 : List Int) (a2 : Int) (r : Bool) (w : World) (hr0 : Kd.C (Kd.int .i64) w A0 l0.length l0) (hc0 : l0.length ≤ c0) (hr1_3 : Kd.C (Kd.int .i64) w A1_3 l1_3.length l1_3) (hc1_3 : l1_3.length ≤ c1_3) (h : merge_next.f l0 a1_0 a1_1 a1_2 l1_3 a2 = some r) :
    Calls Try.prog 34 #[.slice A0 l0.length c0, .agg #[.int .i64 a1_0, .int .i64 a1_1, .int .i64 a1_2, .slice A1_3 l1_3.length c1_3], .int .i64 a2] w fun e w' => e = .returned (.bool r) ∧ Below w.heap.size w w' := by
  have hu45 := Try.underlying45
  have HR0 := Aside0.mk hr0
  have HC0 := Aside0.mk hc0
  clear hr0 hc0
  have HR1_3 := Aside0.mk hr1_3
  have HC1_3 := Aside0.mk hc1_3
  clear hr1_3 hc1_3
  have HB := Aside0.mk (Below.refl w.heap.size w)
  have H : (if (l1_3.length : Int) = (l0.length : Int) then ((stamp_Next.f l0 l1_3 a2).bind fun t103 => (some t103)) else (some false)) = some r := h
  clear h
  by_cases c4 : (l1_3.length : Int) = (l0.length : Int)
  · rw [if_pos c4] at H
    have c4b0 : ((l1_3.length : Int) == (l0.length : Int)) = true := beq_iff_eq.mpr c4
    have c4b1 : ((l1_3.length : Int) != (l0.length : Int)) = false := bne_eq_false_iff_eq.mpr c4
    have c4b2 : (l1_3.length == l0.length) = true := by first | simpa using c4 | (simp at c4 ⊢; omega)
    clear c4
    replace H := Option.bind_eq_some_iff.mp H
    obtain ⟨t103, A50, H⟩ := H
    replace H : (some t103) = some r := H
    have A5 := Aside0.mk A50
    clear A50
    obtain rfl := Option.some.inj H
    go_enter Try.func34, Try.ntmps34
    go_wp2_with (first | ((with_reducible refine gate_dst (N := 4) rfl ?_); refine box_event ?hg (N := 4) ?hd (cs := #[.int .i64 a1_0, .int .i64 a1_1, .int .i64 a1_2, .slice A1_3 l1_3.length c1_3]) (t := 45) ?hr ?_; (case hd => rfl); (case hg => rfl); (case hr => first | (go_simp; done) | (go_simp; rfl) | (simp only [pf_or128]; go_simp; done) | (simp only [pf_or128]; go_simp; rfl)); intro gb102 hg w6 hbox hb; have n0_ := Aside0.mk (below_step (by repeat (first | (with_reducible first | exact HB.out | apply below_alloc | apply pw_below_drewN | apply below_drew1) | exact HB.out)) hb); have n1_ := Aside0.mk (hbox); have n2_ := Aside0.mk ((by rw [hg]; exact (below_size (by repeat (first | (with_reducible first | exact HB.out | apply below_alloc | apply pw_below_drewN | apply below_drew1) | exact HB.out))) : w.heap.size ≤ gb102)); have n3_ := Aside0.mk ((by rw [hg]; exact (below_size (by repeat (first | (with_reducible first | exact HB.out | apply below_alloc | apply pw_below_drewN | apply below_drew1) | exact HB.out))) : w.heap.size ≤ gb102)); clear HB; have HB := n0_; have BK102 := n1_; have GW102 := n2_; have GE102 := n3_; clear n0_ n1_ n2_ n3_; clear hb hbox hg; have hcz7_0 : w6.cell? ⟨gb102, 0, none⟩ = some (.int .i64 a1_0) := (blk_cell BK102.out 0).trans rfl; have hcz7_1 : w6.cell? ⟨gb102, 1, none⟩ = some (.int .i64 a1_1) := (blk_cell BK102.out 1).trans rfl; have hcz7_2 : w6.cell? ⟨gb102, 2, none⟩ = some (.int .i64 a1_2) := (blk_cell BK102.out 2).trans rfl; have hcz7_3 : w6.cell? ⟨gb102, 3, none⟩ = some (.slice A1_3 l1_3.length c1_3) := (blk_cell BK102.out 3).trans rfl; have hfz7_0 := blk_frozen BK102.out 0; have hfz7_1 := blk_frozen BK102.out 1; have hfz7_2 := blk_frozen BK102.out 2; have hfz7_3 := blk_frozen BK102.out 3) | (go_at_call 38; (with_reducible refine (stamp_Next.calls _ _ l0 _ _ l1_3 a2 t103 _ ?side1 ?side2 ?side3 ?side4 A5.out).mono ?_); (case side1 => repeat (first | exact (Kd.C_below HR0.out HB.out) | (with_reducible refine Kd.C_alloc ?_ _) | (with_reducible refine Kd.C_drewN ?_ _) | (with_reducible refine Kd.C_drew ?_))); (case side2 => exact HC0.out); (case side3 => repeat (first | exact (Kd.C_below HR1_3.out HB.out) | (with_reducible refine Kd.C_alloc ?_ _) | (with_reducible refine Kd.C_drewN ?_ _) | (with_reducible refine Kd.C_drew ?_))); (case side4 => exact HC1_3.out); rintro e w8 ⟨rfl, hb⟩; have n0_ := Aside0.mk (blk_below (g := gb102) (o := .cells #[.int .i64 a1_0, .int .i64 a1_1, .int .i64 a1_2, .slice A1_3 l1_3.length c1_3] 45 (0, 0)) (by (with_reducible repeat (first | refine blk_drewN ?_ _ | refine blk_drew ?_ | refine blk_alloc ?_ _)); exact BK102.out) hb); have n1_ := Aside0.mk (below_step (by repeat (first | (with_reducible first | exact HB.out | apply below_alloc | apply pw_below_drewN | apply below_drew1 | refine below_set ?_ GE102.out) | exact HB.out)) hb); clear BK102; clear HB; have BK102 := n0_; have HB := n1_; clear n0_ n1_; (try clear hb); (try clear hb2); (try clear hk); (try clear hi)))
    go_ret
    exact ⟨by first | rfl | (simp [errW_none, errW_some] <;> rfl) | (simp [*, errW_none, errW_some] <;> rfl), by repeat (first | (with_reducible first | exact HB.out | apply below_alloc | apply pw_below_drewN | apply below_drew1 | refine below_set ?_ GE102.out) | exact HB.out)⟩
  · rw [if_neg c4] at H
    have c4b0 : ((l1_3.length : Int) == (l0.length : Int)) = false := beq_eq_false_iff_ne.mpr c4
    have c4b1 : ((l1_3.length : Int) != (l0.length : Int)) = true := bne_iff_ne.mpr c4
    have c4b2 : (l1_3.length == l0.length) = false := by first | simpa using c4 | (simp at c4 ⊢; omega)
    obtain rfl := Option.some.inj H
    go_enter Try.func34, Try.ntmps34
    go_wp2_with (first | ((with_reducible refine gate_dst (N := 4) rfl ?_); refine box_event ?hg (N := 4) ?hd (cs := #[.int .i64 a1_0, .int .i64 a1_1, .int .i64 a1_2, .slice A1_3 l1_3.length c1_3]) (t := 45) ?hr ?_; (case hd => rfl); (case hg => rfl); (case hr => first | (go_simp; done) | (go_simp; rfl) | (simp only [pf_or128]; go_simp; done) | (simp only [pf_or128]; go_simp; rfl)); intro gb102 hg w9 hbox hb; have n0_ := Aside0.mk (below_step (by repeat (first | (with_reducible first | exact HB.out | apply below_alloc | apply pw_below_drewN | apply below_drew1) | exact HB.out)) hb); have n1_ := Aside0.mk (hbox); have n2_ := Aside0.mk ((by rw [hg]; exact (below_size (by repeat (first | (with_reducible first | exact HB.out | apply below_alloc | apply pw_below_drewN | apply below_drew1) | exact HB.out))) : w.heap.size ≤ gb102)); have n3_ := Aside0.mk ((by rw [hg]; exact (below_size (by repeat (first | (with_reducible first | exact HB.out | apply below_alloc | apply pw_below_drewN | apply below_drew1) | exact HB.out))) : w.heap.size ≤ gb102)); clear HB; have HB := n0_; have BK102 := n1_; have GW102 := n2_; have GE102 := n3_; clear n0_ n1_ n2_ n3_; clear hb hbox hg; have hcz10_0 : w9.cell? ⟨gb102, 0, none⟩ = some (.int .i64 a1_0) := (blk_cell BK102.out 0).trans rfl; have hcz10_1 : w9.cell? ⟨gb102, 1, none⟩ = some (.int .i64 a1_1) := (blk_cell BK102.out 1).trans rfl; have hcz10_2 : w9.cell? ⟨gb102, 2, none⟩ = some (.int .i64 a1_2) := (blk_cell BK102.out 2).trans rfl; have hcz10_3 : w9.cell? ⟨gb102, 3, none⟩ = some (.slice A1_3 l1_3.length c1_3) := (blk_cell BK102.out 3).trans rfl; have hfz10_0 := blk_frozen BK102.out 0; have hfz10_1 := blk_frozen BK102.out 1; have hfz10_2 := blk_frozen BK102.out 2; have hfz10_3 := blk_frozen BK102.out 3))
    go_ret
    exact ⟨by first | rfl | (simp [errW_none, errW_some] <;> rfl) | (simp [*, errW_none, errW_some] <;> rfl), by repeat (first | (with_reducible first | exact HB.out | apply below_alloc | apply pw_below_drewN | apply below_drew1 | refine below_set ?_ GE102.out) | exact HB.out)⟩

/-! ### merge_all: function 25 -/
section
open Go.Shelf
attribute [local go_sem] Oper.semAt_some
/-- The end of a round of one's own. -/
def minePost (l : Nat) (r : Loop) (R : Ending → World → Prop) : Exit → Act → World → Prop
  | .normal, _, W => W.heap[l]? = some (.loop { r with state := .busy }) ∧ R (.returned (.bool true)) (W.putObj l (.loop { r with state := .ready, pending := none }))
  | .ret, _, W => W.heap[l]? = some (.loop { r with state := .busy }) ∧ R (.returned (.bool false)) (W.putObj l (.loop { r with state := .done, pending := some .ret }))
  | _, _, _ => False
theorem yieldAt_mine {F : Fence} {n : Nat} {P : Program} {l : Nat} {r : Loop} {args : Array Value} {W : World} {R : Ending → World → Prop} (hfn : F.fn r.fn) (hr : W.heap[l]? = some (.loop r)) (hst : r.state = .ready) (hs : args.size = r.params.size)
    (h : ∀ K : Act → World → Prop, (∀ a1 W1, W1.heap[l]? = some (.loop r) → r.body.wpIn (F.inRound l) n P (minePost l r R) a1 (W1.putObj l (.loop { r with state := .busy })) → K a1 W1) → r.assign.wpIn (F.inRound l) n P (Exit.then K (fun _ _ _ => False))
      { tmps := (r.params.zip args).foldl (fun t (p, v) => t.setIfInBounds p v) r.tmps, defers := [] } W) :
    YieldAt F n P l args W R := by
  refine ⟨r.fn, _, r.assign, r.body, run_yield hr hs, roundIn_of_wpIn hfn (wpIn_mono (h (fun a1 W1 => W1.heap[l]? = some (.loop r) ∧ r.body.wpIn (F.inRound l) n P (minePost l r R) a1 (W1.putObj l (.loop { r with state := .busy }))) (fun _ _ h1 h2 => ⟨h1, h2⟩)) ?_)⟩
  rintro e a1 W1 hp
  cases e with
  | normal =>
    obtain ⟨h1, h2⟩ := hp
    refine ⟨_, run_beginRound h1 hst, wpIn_mono h2 ?_⟩
    rintro e a2 W2 hq
    cases e with
    | normal =>
      obtain ⟨h3, h4⟩ := hq
      exact ⟨_, _, run_endRound none h3, h4⟩
    | ret =>
      obtain ⟨h3, h4⟩ := hq
      exact ⟨_, _, run_endRound (some .ret) h3, h4⟩
    | exit id => exact hq.elim
    | goto t => exact hq.elim
    | panic c => exact hq.elim
    | outgrown => exact hq.elim
  | _ => exact hp.elim
theorem range_mine {F : Fence} {n : Nat} {P : Program} {g : Operand} {ps : Array Tmp} {assign body : Code} {Q : Exit → Act → World → Prop} {a : Act} {w : World} (hro : F.round = none) (h1 : 1 ≤ n) {gf : Nat} {lb : Array Value}
    (hg : a.eval g = .func (.func gf) #[] lb) (hFg : F.fn gf) (eg : ∀ args w, (callFunc gf args).run P w = .ok (.enter gf args) w)
    (h : ∀ r : Loop, F.fn r.fn → r.state = .ready → r.pending = none → r.tmps = a.tmps → r.params = ps → r.assign = assign → r.body = body → CallsIn F (n - 1) P gf (#[.func (.yield (w.heap.size + 1)) #[] #[]] ++ lb) ((w.alloc (.deferred (some []))).alloc (.loop r)) fun e W =>
      (∃ v, e = .returned v) ∧ ∃ st pe, st ≠ LoopState.busy ∧ W.heap[w.heap.size + 1]? = some (.loop { r with state := st, pending := pe }) ∧
        (match pe with
         | none => Q .normal { a with defers := { target := .collected w.heap.size, args := #[] } :: a.defers } (W.putObj (w.heap.size + 1) (.loop { r with state := .exhausted, pending := pe }))
         | some c => c.wpIn F n P Q { a with defers := { target := .collected w.heap.size, args := #[] } :: a.defers } (W.putObj (w.heap.size + 1) (.loop { r with state := .exhausted, pending := pe })))) :
    (Code.rangeFunc g ps assign body).wpIn F n P Q a w := by
  refine wpIn_rangeFunc fun fn hfn => ?_
  rw [hro]
  refine ⟨w.heap.size + 1, [{ target := .collected w.heap.size, args := #[] }], ((w.alloc (.deferred (some []))).alloc (.loop { state := .ready, pending := none, fn, tmps := a.tmps, params := ps, assign, body, defers := w.heap.size })), { target := .fn (.func gf) lb, args := #[.func (.yield (w.heap.size + 1)) #[] #[]] }, ((w.alloc (.deferred (some []))).alloc (.loop { state := .ready, pending := none, fn, tmps := a.tmps, params := ps, assign, body, defers := w.heap.size })), gf, #[.func (.yield (w.heap.size + 1)) #[] #[]] ++ lb, ((w.alloc (.deferred (some []))).alloc (.loop { state := .ready, pending := none, fn, tmps := a.tmps, params := ps, assign, body, defers := w.heap.size })), run_enterLoop_outer _ _ _ _ _, ?_, ?_, ?_, fun _ => h1, ?_⟩
  · simp only [resolve, hg]
    simp [go_sem]
  · intro f' hf'; simp [Target.leads] at hf'; subst hf'; exact hFg
  · simp [invoke, go_sem, eg]
  · refine (h { state := .ready, pending := none, fn, tmps := a.tmps, params := ps, assign, body, defers := w.heap.size } hfn rfl rfl rfl rfl rfl rfl).mono ?_
    rintro e W ⟨⟨v, rfl⟩, st, pe, hst, hl, hq⟩
    exact ⟨pe, _, run_endLoop hl hst, hq⟩
def rdLL (xs : List (List S45)) (i : Int) : (List S45) := xs.getD i.toNat ([] : List S45)
theorem at_LL {w : World} {A : Option Addr} {n : Nat} {xs : List (List S45)} (h : Kd.C (Kd.slice 45 k45) w A n xs) (i : Int) (h0 : 0 ≤ i) (h1 : i < n) : ∃ ad A0 c0, A = some ad ∧ w.cell? (ad.add i.toNat) = some (.slice A0 (rdLL xs i).length c0) ∧ (rdLL xs i).length ≤ c0 ∧ k45.C w A0 (rdLL xs i).length (rdLL xs i) := by
  obtain ⟨ad, c, e, _, hK, hc0⟩ := Kd.C_get h ([] : List S45) i h0 h1
  have hc : ∀ j u, c[j]? = some u → w.cell? (ad.add (i.toNat * 1 + j)) = some u := hc0
  obtain ⟨A0, c0, rfl, l0, g0⟩ := hK
  exact ⟨ad, A0, c0, e, by have hq := hc 0 _ rfl; rwa [Nat.mul_one, Nat.add_zero] at hq, l0, g0⟩

def evM (l0 : List (List S45)) (hv : List Int) (i : Int) : S45 := rd_T45 (rdLL l0 i) (rd hv i)
def canM (l0 : List (List S45)) (hv : List Int) (i : Int) : Option Bool :=
  if rd hv i < ((rdLL l0 i).length : Int) then merge_next.f hv (evM l0 hv i).f0 (evM l0 hv i).f1 (evM l0 hv i).f2 (evM l0 hv i).f3 i else some false
def pickM (l0 : List (List S45)) (hv : List Int) : Nat → Nat → Option (Option Nat)
  | 0, _ => some none
  | d + 1, i => (canM l0 hv (i : Int)).bind fun t => if t = true then some (some i) else pickM l0 hv d (i + 1)
def genM (l0 : List (List S45)) : Nat → List Int → List S45 → Option (List S45 × List Int)
  | 0, _, _ => none
  | k + 1, hv, out => (pickM l0 hv l0.length 0).bind fun p => match p with
    | none => some (out, hv)
    | some i => if out.length < 2932031007402 then genM l0 k (hv.set i (wrap64 (rd hv (i : Int) + 1))) (out ++ [evM l0 hv (i : Int)]) else none
theorem cell_b {W0 W : World} {a : Addr} {v : Value} (hb : Below W0.heap.size W0 W) (h : W0.cell? a = some v) : W.cell? a = some v := by
  have hlt : a.block < W0.heap.size := by
    unfold World.cell? at h
    cases hx : W0.heap[a.block]? with
    | none => simp [hx] at h
    | some o => exact (Array.getElem?_eq_some_iff.1 hx).1
  rw [World.cell?_of_block (hb.block _ hlt)]
  exact h
theorem ev_at {W : World} {okV : Nat → Prop} {base : Nat} {A0 : Option Addr} {c0 : Nat} {l0 : List (List S45)} (hV : Kd.V (Kd.slice 45 k45) 25 W base okV (.slice A0 l0.length c0) l0) (i : Nat) (hi : i < l0.length) :
    ∃ ad A1 c1, A0 = some ad ∧ W.cell? (ad.add i) = some (.slice A1 (rdLL l0 (i : Int)).length c1) ∧ (rdLL l0 (i : Int)).length ≤ 9223372036854775807 ∧ (∀ j : Int, 0 ≤ j → j < ((rdLL l0 (i : Int)).length : Int) →
      ∃ ad2 A3 c3, A1 = some ad2 ∧ W.cell? (ad2.add (j.toNat * 4)) = some (.int .i64 (rd_T45 (rdLL l0 (i : Int)) j).f0) ∧ W.cell? ⟨(ad2.add (j.toNat * 4)).block, (ad2.add (j.toNat * 4)).off + 1, none⟩ = some (.int .i64 (rd_T45 (rdLL l0 (i : Int)) j).f1) ∧ W.cell? ⟨(ad2.add (j.toNat * 4)).block, (ad2.add (j.toNat * 4)).off + 2, none⟩ = some (.int .i64 (rd_T45 (rdLL l0 (i : Int)) j).f2) ∧ W.cell? ⟨(ad2.add (j.toNat * 4)).block, (ad2.add (j.toNat * 4)).off + 3, none⟩ = some (.slice A3 (rd_T45 (rdLL l0 (i : Int)) j).f3.length c3) ∧ (rd_T45 (rdLL l0 (i : Int)) j).f3.length ≤ c3 ∧ (Kd.int .i64).C W A3 (rd_T45 (rdLL l0 (i : Int)) j).f3.length (rd_T45 (rdLL l0 (i : Int)) j).f3 ∧
        Kd.FK k45 W okV (rd_T45 (rdLL l0 (i : Int)) j) [.int .i64 (rd_T45 (rdLL l0 (i : Int)) j).f0, .int .i64 (rd_T45 (rdLL l0 (i : Int)) j).f1, .int .i64 (rd_T45 (rdLL l0 (i : Int)) j).f2, .slice A3 (rd_T45 (rdLL l0 (i : Int)) j).f3.length c3]) := by
  obtain ⟨ad, A1, c1, rfl, hc1, hl1, hC1⟩ := at_LL (Kd.V_reads' hV).2.2 (i : Int) (by omega) (by omega)
  obtain ⟨cs, hcl, hF, hcc⟩ := Kd.V_get hV ([] : List S45) (i : Int) (by omega) (by omega)
  obtain ⟨A1', c1', rfl, hl', hF1⟩ := Kd.FK_slice_open hF
  have hc1' : W.cell? (ad.add (i : Int).toNat) = some (.slice A1' (l0.getD (i : Int).toNat []).length c1') := by
    have := hcc 0 _ rfl
    rwa [show (i : Int).toNat * (Kd.slice 45 k45).sz + 0 = (i : Int).toNat from by show (i : Int).toNat * 1 + 0 = _; omega] at this
  rw [hc1] at hc1'
  have e := Option.some.inj hc1'
  injection e with e1 e2 e3
  subst e1
  subst e3
  refine ⟨ad, A1, c1, rfl, by rw [Int.toNat_natCast] at hc1; exact hc1, Kd.C_max hC1, fun j h0 h1 => ?_⟩
  have hV1 : Kd.V k45 45 W base okV (.slice A1 (rdLL l0 (i : Int)).length c1) (rdLL l0 (i : Int)) := Kd.V_mk hl1 hF1
  obtain ⟨ad2, A3, c3, rfl, k0, k1, k2, k3, hl3, hC3⟩ := at_T45 (Kd.V_reads' hV1).2.2 j h0 h1
  obtain ⟨cs2, _, hF2, hcc2⟩ := Kd.V_get hV1 z45 j h0 h1
  obtain ⟨A3', c3', rfl, hl3', hF3⟩ := k45_openF hF2
  have k3' : W.cell? ⟨(ad2.add (j.toNat * 4)).block, (ad2.add (j.toNat * 4)).off + 3, none⟩ = some (.slice A3' ((rdLL l0 (i : Int)).getD j.toNat z45).f3.length c3') := by
    have := hcc2 3 _ rfl
    rw [← add_field _ _ 3 (by omega)]
    exact this
  rw [k3] at k3'
  have e := Option.some.inj k3'
  injection e with e1 e2 e3
  subst e1
  subst e3
  exact ⟨ad2, A3, c3, rfl, k0, k1, k2, k3, hl3, hC3, hF2⟩
theorem rd_set (hv : List Int) (i : Nat) (v : Int) (hi : i < hv.length) (j : Int) : rd (hv.set i v) j = if j.toNat = i then v else rd hv j := by
  unfold rd
  rw [List.getD_eq_getElem?_getD, List.getD_eq_getElem?_getD, List.getElem?_set]
  by_cases h : i = j.toNat
  · rw [if_pos h, if_pos h.symm]
    subst h
    simp [hi]
  · rw [if_neg h, if_neg (fun e => h e.symm)]
structure keepM (n0 Bl Bh g : Nat) (w0 W W' : World) : Prop where
  below : Below n0 w0 W'
  bl : W'.heap[Bl]? = W.heap[Bl]?
  bh : W'.heap[Bh]? = W.heap[Bh]?
  hg : W'.heap[g]? = W.heap[g]?
  size : W.heap.size ≤ W'.heap.size
set_option maxRecDepth 100000 in
set_option maxHeartbeats 2000000 in
theorem own_all1 (n l Bl Bh g cap : Nat) (A0 : Option Addr) (c0 : Nat) (l0 : List (List S45)) (okV : Nat → Prop) (hn : l0.length ≤ 64) (w0 : World)
    (hV : ∀ W, Below w0.heap.size w0 W → Kd.V (Kd.slice 45 k45) 25 W w0.heap.size okV (.slice A0 l0.length c0) l0)
    (J : List S45 → World → Prop) (hJb : ∀ pre W W', J pre W → Below W.heap.size W W' → J pre W') (hJw : ∀ pre W j v, J pre W → J pre (W.setCell ⟨g, j, none⟩ v))
    (hg0 : w0.heap.size ≤ g) (hBl0 : Bl ≠ g) (hBh0 : Bh ≠ g)
    (hY : ∀ pre x A3 c3 i W1, J pre W1 → Below w0.heap.size w0 W1 → pre.length < 2932031007402 → x.f3.length ≤ c3 → Kd.FK k45 W1 okV x [.int .i64 x.f0, .int .i64 x.f1, .int .i64 x.f2, .slice A3 x.f3.length c3] →
      YieldAt Fence.wide (n - 1) Try.prog l #[.agg #[.int .i64 x.f0, .int .i64 x.f1, .int .i64 x.f2, .slice A3 x.f3.length c3, .int .i64 i]] W1 fun e W' => e = .returned (.bool true) ∧ J (pre ++ [x]) W' ∧ keepM w0.heap.size Bl Bh g w0 W1 W')
    (k : Nat) (hv0 : List Int) (out0 r1 : List S45) (r2 : List Int) (W : World) (h : genM l0 k hv0 out0 = some (r1, r2)) (hlen : hv0.length = l0.length) (hpos : ∀ i, 0 ≤ rd hv0 i)
    (hJ : J out0 W) (hWb : Below w0.heap.size w0 W) (hBl : Boxed W Bl 22 (.slice A0 l0.length c0)) (hBh : Boxed W Bh 26 (.slice (some ⟨g, 0, none⟩) hv0.length cap)) (hR : Kd.R (Kd.int .i64) 3 W w0.heap.size (fun k => k = g) (.slice (some ⟨g, 0, none⟩) hv0.length cap) hv0) :
    CallsIn Fence.wide n Try.prog 33 #[.func (.yield l) #[] #[], .pointer (some ⟨Bl, 0, none⟩), .pointer (some ⟨Bh, 0, none⟩)] W fun e W' => (∃ v, e = .returned v) ∧ J r1 W' ∧ Below w0.heap.size w0 W' ∧ Kd.R (Kd.int .i64) 3 W' w0.heap.size (fun k => k = g) (.slice (some ⟨g, 0, none⟩) r2.length cap) r2 ∧ r2.length = l0.length := by
  refine callsIn_wide.2 ?_
  have HV0 := Aside0.mk hV
  have HJb := Aside0.mk hJb
  have HJw := Aside0.mk hJw
  have HY := Aside0.mk hY
  clear hV hJb hJw hY
  go_enter Try.func33, Try.ntmps33
  go_wp2
  go_step3
  go_wp2
  go_step3
  go_wp2
  go_loopg [] k (fun kq wr => ∃ (hv : List Int) (out : List S45), Aside0 (genM l0 kq hv out = some (r1, r2)) ∧ hv.length = l0.length ∧ Aside0 (∀ i, 0 ≤ rd hv i) ∧ Aside0 (J out wr) ∧ Aside0 (Below w0.heap.size w0 wr) ∧ Boxed wr Bl 22 (.slice A0 l0.length c0) ∧ Boxed wr Bh 26 (.slice (some ⟨g, 0, none⟩) hv.length cap) ∧ Aside0 (Kd.R (Kd.int .i64) 3 wr w0.heap.size (fun k => k = g) (.slice (some ⟨g, 0, none⟩) hv.length cap) hv))
  case atStart => exact ⟨hv0, out0, ⟨h⟩, hlen, ⟨hpos⟩, ⟨hJ⟩, ⟨hWb⟩, hBl, hBh, ⟨hR⟩⟩
  case round =>
    clear h hlen hpos hJ hWb hBl hBh hR
    obtain ⟨hv, out, HG, hlen, HP, HJ, HB, bL, bH, HR⟩ := hrel
    have HL := Aside0.mk hlen
    clear hlen
    cases gk with
    | zero => exact absurd HG.out (by simp [genM])
    | succ kf =>
      have H := HG.out
      clear HG
      simp only [genM] at H
      obtain ⟨p, hp, H⟩ := Option.bind_eq_some_iff.mp H
      have HP1 := Aside0.mk hp
      have HH := Aside0.mk H
      clear hp H
      have cL := bL.cell
      have cH := bH.cell
      go_wp2
      clear cL cH
      go_loopg [9] l0.length (fun d v9 wx => ∃ i : Nat, v9 = .int .i64 (i : Int) ∧ i + d = l0.length ∧ Aside0 (pickM l0 hv d i = some p) ∧ Aside0 (J out wx) ∧ Aside0 (Below w0.heap.size w0 wx) ∧ Boxed wx Bl 22 (.slice A0 l0.length c0) ∧ Boxed wx Bh 26 (.slice (some ⟨g, 0, none⟩) hv.length cap) ∧ Aside0 (Kd.R (Kd.int .i64) 3 wx w0.heap.size (fun k => k = g) (.slice (some ⟨g, 0, none⟩) hv.length cap) hv))
      case atStart => exact ⟨0, rfl, by omega, HP1, HJ, HB, bL, bH, HR⟩
      case round =>
        clear HP1 HJ HB bL bH HR
        obtain ⟨i, rfl, hid, HP1, HJ, HB, bL, bH, HR⟩ := hrel
        have cL := bL.cell
        have cH := bH.cell
        by_cases hi : i < l0.length
        · obtain ⟨d, rfl⟩ : ∃ d, gk = d + 1 := ⟨gk - 1, by omega⟩
          have H := HP1.out
          clear HP1
          simp only [pickM] at H
          obtain ⟨t, ht, H⟩ := Option.bind_eq_some_iff.mp H
          have HT := Aside0.mk ht
          have HH2 := Aside0.mk H
          clear ht H
          obtain ⟨ad, A1, c1, e1, hc0, hmax, hE⟩ := ev_at (HV0.out w0 (Below.refl _ _)) i hi
          have hc1 := cell_b HB.out hc0
          have HMX := Aside0.mk hmax
          clear hc0 hmax
          have HE := Aside0.mk hE
          clear hE
          have hdH := Kd.R_cell (0 : Int) HR.out (i : Int) (by omega) (by have := HL.out; omega)
          have hd1 : wr.cell? ⟨g, (i : Int).toNat, none⟩ = some (.int .i64 (rd hv (i : Int))) := hdH.1
          have hd2 := hdH.2
          clear hdH
          subst e1
          rw [Int.toNat_natCast] at hd1 hd2
          have i0 := eq_true (show (0 : Int) ≤ (i : Int) by omega)
          have i1 := eq_true (show (i : Int) < (l0.length : Int) by omega)
          have i2 := eq_true (show (i : Int) < (hv.length : Int) by have := HL.out; omega)
          have i1b : decide ((i : Int) < (l0.length : Int)) = true := decide_eq_true (by omega)
          by_cases hlt : rd hv (i : Int) < ((rdLL l0 (i : Int)).length : Int)
          · obtain ⟨ad2, A3, c3, e2, j0, j1, j2, j3, hl3, hC3, hF3⟩ := HE.out (rd hv (i : Int)) (HP.out _) hlt
            clear HE
            subst e2
            have ht := HT.out
            unfold canM at ht
            rw [if_pos hlt] at ht
            clear HT
            have hx : ∃ x, evM l0 hv (i : Int) = x := ⟨_, rfl⟩
            obtain ⟨x, hx⟩ := hx
            have hx2 : rd_T45 (rdLL l0 (i : Int)) (rd hv (i : Int)) = x := hx
            rw [hx2] at j0 j1 j2 j3 hl3 hC3 hF3
            have k0 := cell_b HB.out j0
            have k1 := cell_b HB.out j1
            have k2 := cell_b HB.out j2
            have k3 := cell_b HB.out j3
            have J0 := Aside0.mk j0
            have J1 := Aside0.mk j1
            have J2 := Aside0.mk j2
            have J3 := Aside0.mk j3
            clear j0 j1 j2 j3
            replace hC3 := Kd.C_below hC3 HB.out
            rw [hx] at ht
            have HT := Aside0.mk ht
            have hcap := (Kd.R_reads' HR.out).2.1
            have hCH := (Kd.R_reads' HR.out).2.2
            have p0 := eq_true (HP.out (i : Int))
            have p1 := eq_true hlt
            have hltb : decide (rd hv (i : Int) < ((rdLL l0 (i : Int)).length : Int)) = true := decide_eq_true hlt
            have HF3 := Aside0.mk hF3
            clear ht hx2 hF3
            cases t with
            | false =>
              have H := HH2.out
              rw [if_neg (by decide)] at H
              have HP1 := Aside0.mk H
              clear HH2 H hlt hx
              have hmo : Try.prog.follows .mixedOrders = true := by kernel_rfl
              refine (wpIn_wide (n := n)).1 ?_
              gi_wp2
              gi_region_with_o (first | (refine ⟨trivial, wide_room, ?_⟩; gi_at_call 34; (with_reducible refine (CallsIn.mono (callsIn_wide.2 (merge_next.calls (some ⟨g, 0, none⟩) cap hv x.f0 x.f1 x.f2 A3 c3 x.f3 (i : Int) _ _ ?s1 hcap ?s3 hl3 HT.out)) ?_)); (case s1 => repeat (first | exact hCH | (with_reducible refine Kd.C_alloc ?_ _) | (with_reducible refine Kd.C_drewN ?_ _) | (with_reducible refine Kd.C_drew ?_))); (case s3 => repeat (first | exact hC3 | (with_reducible refine Kd.C_alloc ?_ _) | (with_reducible refine Kd.C_drewN ?_ _) | (with_reducible refine Kd.C_drew ?_))); rintro e w' ⟨rfl, hb⟩; have HQ := Aside0.mk (below_step (show Below wr.heap.size wr _ from by repeat (first | (with_reducible first | exact Below.refl _ _ | apply below_alloc | apply pw_below_drewN | apply below_drew1) | exact Below.refl _ _)) hb); clear hb))
              all_goals
                gi_wp2
                go_roundg d
                case measure => omega
                case rel => exact ⟨i + 1, by first | rfl | (congr 1; omega), by omega, HP1, ⟨HJb.out _ _ _ HJ.out HQ.out⟩, ⟨HB.out.trans (HQ.out.mono HB.out.size)⟩, (HQ.out.block Bl (Array.getElem?_eq_some_iff.1 bL).1).trans bL, (HQ.out.block Bh (Array.getElem?_eq_some_iff.1 bH).1).trans bH, ⟨Kd.R_below HR.out HQ.out⟩⟩
            | true =>
              have H := HH2.out
              rw [if_pos rfl] at H
              obtain rfl := Option.some.inj H
              have H := HH.out
              simp only at H
              clear HH2 HH hlt
              by_cases hol : out.length < 2932031007402
              · rw [if_pos hol, hx] at H
                have HG := Aside0.mk H
                clear H hx
                have hmo : Try.prog.follows .mixedOrders = true := by kernel_rfl
                refine (wpIn_wide (n := n)).1 ?_
                gi_wp2
                gi_region_with_o (first | (refine ⟨trivial, wide_room, ?_⟩; gi_at_call 34; (with_reducible refine (CallsIn.mono (callsIn_wide.2 (merge_next.calls (some ⟨g, 0, none⟩) cap hv x.f0 x.f1 x.f2 A3 c3 x.f3 (i : Int) _ _ ?s1 hcap ?s3 hl3 HT.out)) ?_)); (case s1 => repeat (first | exact hCH | (with_reducible refine Kd.C_alloc ?_ _) | (with_reducible refine Kd.C_drewN ?_ _) | (with_reducible refine Kd.C_drew ?_))); (case s3 => repeat (first | exact hC3 | (with_reducible refine Kd.C_alloc ?_ _) | (with_reducible refine Kd.C_drewN ?_ _) | (with_reducible refine Kd.C_drew ?_))); rintro e w' ⟨rfl, hb⟩; have HQ := Aside0.mk (below_step (show Below wr.heap.size wr _ from by repeat (first | (with_reducible first | exact Below.refl _ _ | apply below_alloc | apply pw_below_drewN | apply below_drew1) | exact Below.refl _ _)) hb); clear hb))
                all_goals
                  have bL2 : Boxed w' Bl 22 (.slice (some ad) l0.length c0) := (HQ.out.block Bl (Array.getElem?_eq_some_iff.1 bL).1).trans bL
                  have bH2 : Boxed w' Bh 26 (.slice (some ⟨g, 0, none⟩) hv.length cap) := (HQ.out.block Bh (Array.getElem?_eq_some_iff.1 bH).1).trans bH
                  have HB2 := Aside0.mk (HB.out.trans (HQ.out.mono HB.out.size))
                  have HJ2 := Aside0.mk (HJb.out _ _ _ HJ.out HQ.out)
                  have HR2 := Aside0.mk (Kd.R_below HR.out HQ.out)
                  have hdH := Kd.R_cell (0 : Int) HR2.out (i : Int) (by omega) (by have := HL.out; omega)
                  have hd3 : w'.cell? ⟨g, (i : Int).toNat, none⟩ = some (.int .i64 (rd hv (i : Int))) := hdH.1
                  have hd4 := hdH.2
                  rw [Int.toNat_natCast] at hd3 hd4
                  have cL2 := bL2.cell
                  have cH2 := bH2.cell
                  obtain ⟨hR3, hgr⟩ := Kd.R_put HR2.out (i : Int) (wrap64 (rd hv (i : Int) + 1))
                  rw [Int.toNat_natCast] at hR3 hgr
                  clear hdH
                  have hb3 : Below w0.heap.size w0 (w'.setCell ⟨g, i, none⟩ (.int .i64 (wrap64 (rd hv (i : Int) + 1)))) := HB2.out.grown hgr HB2.out.size (fun k e => by cases e; exact hg0)
                  have HB3 := Aside0.mk hb3
                  have q0 := cell_b hb3 J0.out
                  have q1 := cell_b hb3 J1.out
                  have q2 := cell_b hb3 J2.out
                  have q3 := cell_b hb3 J3.out
                  obtain ⟨fn, tmps, assign, body, hyy, hYR⟩ := HY.out out x A3 c3 (i : Int) _ (HJw.out out w' i (.int .i64 (wrap64 (rd hv (i : Int) + 1))) HJ2.out) hb3 hol hl3 (Kd.FK_below HF3.out hb3)
                  have HYR := Aside0.mk hYR
                  have HR3 := Aside0.mk hR3
                  have HGR := Aside0.mk hgr
                  clear hYR hb3 hR3 hgr
                  gi_wp2_with (refine ⟨wide_room, ?_⟩; (with_reducible refine RoundIn.mono HYR.out ?_); rintro e W3 ⟨rfl, hJ3, hk3⟩; have HJ3 := Aside0.mk hJ3; have HK3 := Aside0.mk hk3; clear hJ3 hk3)
                  go_roundg kf
                  case measure => omega
                  case rel =>
                    have bL3 : W3.heap[Bl]? = w'.heap[Bl]? := HK3.out.bl.trans (HGR.out.block Bl (Array.getElem?_eq_some_iff.1 bL2).1 (fun e => hBl0 (Option.some.inj e)))
                    have bH3 : W3.heap[Bh]? = w'.heap[Bh]? := HK3.out.bh.trans (HGR.out.block Bh (Array.getElem?_eq_some_iff.1 bH2).1 (fun e => hBh0 (Option.some.inj e)))
                    refine ⟨hv.set i (wrap64 (rd hv (i : Int) + 1)), out ++ [x], HG, by rw [List.length_set]; exact HL.out, ⟨fun j => ?_⟩, HJ3, ⟨HK3.out.below⟩, bL3.trans bL2, by rw [List.length_set]; exact bH3.trans bH2, ⟨?_⟩⟩
                    · rw [rd_set hv i _ (by have := HL.out; omega)]
                      have h1 := HP.out (i : Int)
                      have h2 := of_eq_true p1
                      have h3 := HMX.out
                      split
                      · unfold wrap64; omega
                      · exact HP.out j
                    · rw [List.length_set]
                      exact Kd.R_step HR3.out (fun k hk _ => by subst hk; exact HK3.out.hg)
              · rw [if_neg hol] at H
                cases H
          · have ht := HT.out
            clear HT
            unfold canM at ht
            rw [if_neg hlt] at ht
            obtain rfl := Option.some.inj ht
            have H := HH2.out
            rw [if_neg (by decide)] at H
            have HP1 := Aside0.mk H
            have hltb : decide (rd hv (i : Int) < ((rdLL l0 (i : Int)).length : Int)) = false := decide_eq_false hlt
            clear HH2 H ht hlt HE
            go_wp2
            repeat (go_quiet (fail); try go_wp2)
            go_roundg d
            case measure => omega
            case rel => exact ⟨i + 1, by first | rfl | (congr 1; omega), by omega, HP1, ⟨HJb.out _ _ _ HJ.out (pw_below_drewN (Below.refl _ _) _)⟩, ⟨pw_below_drewN HB.out _⟩, bL, bH, ⟨Kd.R_drewN HR.out _⟩⟩
        · obtain rfl : gk = 0 := by omega
          have H := HP1.out
          clear HP1
          simp only [pickM] at H
          obtain rfl := Option.some.inj H
          have H := HH.out
          simp only [Option.some.injEq, Prod.mk.injEq] at H
          obtain ⟨rfl, rfl⟩ := H
          have i1b : decide ((i : Int) < (l0.length : Int)) = false := decide_eq_false (by omega)
          go_wp2
          refine bodyPost_ret (results_none rfl _ _ _) rfl ?_
          exact ⟨⟨_, rfl⟩, HJ.out, HB.out, HR.out, HL.out⟩
theorem wpListIn_N_append {α : Type} {F : Fence} {n : Nat} {P : Program} {ops : Array Oper} {rest : List Oper} {o : Oper} {a : Act} {Q : Exit → Act → World → Prop} (d : Kd α) {w0 W : World} (base : Nat) (hgd : o.guard = none) (s x : Operand) (t e : TypeId) (z : Value) (bytes : Nat)
    (ho : o.op = .call { callee := .builtin .append, args := #[s, x], argTypes := #[t, t] })
    (ht : P.underlying t = some (.slice e)) (hinfo : (P.info? e).map (fun i => (i.zero, i.size, i.bytes)) = some (some z, d.sz, bytes)) (hz : z.cells.size = d.sz) (hs0 : 0 < d.sz) (hb0 : 0 < bytes)
    (v : Value) (xs : List α) (p : α) (cs : List Value) (ok okp : Nat → Prop) (hs : a.eval s = v) (hx : a.eval x = .slice (some ⟨W.heap.size, 0, none⟩) 1 1) (hp : Kd.FK d W okp p cs) (hokp : ∀ k, okp k → ok k ∧ some k ≠ v.ownBlock) (hfresh : ∀ k, W.heap.size ≤ k → ok k)
    (HO : Kd.N d e W base ok v xs) (HB : Below base w0 W) (hbase : base ≤ W.heap.size) (hl : (xs.length + 1) * bytes ≤ 140737488355328)
    (h : ∀ v1 w1, Kd.N d e w1 base ok v1 (xs ++ [p]) → Below base w0 w1 → W.grownBy w1 v.ownBlock → (v1.ownBlock = v.ownBlock ∨ ∃ b, v1.ownBlock = some b ∧ W.heap.size ≤ b) → wpListIn F n P ops Q rest (a.put o.dst v1) w1) :
    wpListIn F n P ops Q (o :: rest) a (W.alloc (.cells cs.toArray e)) := by
  obtain ⟨h0, rows, hlr, hR, hf⟩ := HO
  obtain ⟨g0, inner, hown, hr⟩ := Kd.raw_any hR
  obtain ⟨i0, hi, hzz⟩ := Option.map_eq_some_iff.1 hinfo
  simp only [Prod.mk.injEq] at hzz
  obtain ⟨hz0, hz1, hz2⟩ := hzz
  have hcl : cs.length = d.sz := (Kd.FK_raw hp).2.1
  have hlen : rows.length + 1 ≤ 140737488355328 := by rw [hlr]; exact Nat.le_trans (Nat.le_mul_of_pos_right _ hb0) hl
  refine wpListIn_plain hgd fun K hK' => ?_
  obtain ⟨v1, w1, hrun, hown1, hg1, _, hat⟩ := run_append_own_at (P := P) (W.alloc (.cells cs.toArray e)) base t o.type e i0 z d.sz bytes ht hi hz0 hz1 hz2 hz hs0 v rows.length inner (hown.alloc _) ⟨W.heap.size, 0, none⟩ 1 1 cs (by rw [hcl]; simp)
    (by simpa using World.news_of_block (cs := cs.toArray) (t := e) (fr := (0, 0)) (heap_alloc_new W (.cells cs.toArray e))) (Kd.FK_raw hp).2.2 (by simp only [maxLen]; omega) (by rw [hlr]; exact hl) (by simp; omega)
  have hg : W.grownBy w1 v.ownBlock := World.grownBy.trans (World.grownBy_alloc W _ _) hg1
  have hat1 : v1.ownBlock = v.ownBlock ∨ ∃ b, v1.ownBlock = some b ∧ W.heap.size ≤ b := by
    rcases hat with hat | hat
    · exact .inl hat
    · exact .inr ⟨_, hat, by simp⟩
  have hr1 := Kd.R_appended (d := Kd.raw d.sz) (okp := fun _ => False) g0 hr (Kd.FK_raw hp) (fun _ hk => hk.elim) (fun _ _ => trivial) hown1 hg hat1
  have hN := Kd.N_appended h0 hlr hf (ys := [p]) (news := [cs]) rfl (fun j y c hy hc => by
    rcases j with _ | j
    · simp only [List.getElem?_cons_zero, Option.some.injEq] at hy hc
      rw [← hy, ← hc]; exact hp
    · simp at hy) hokp hfresh hr1 hg hat1
  unfold Oper.wpIn
  refine ⟨?_, ?_⟩
  · simp [Oper.about, ho, resolve, Target.leads, Sem.run_pure]
  · rw [Oper.semAt_plain F _ _ (by rw [ho]; intro c hc'; cases hc')]
    simp [execOp, ho, resolve, invoke, builtin, hs, hx, hrun, Result.andThen]
    exact hK' _ _ (h v1 w1 hN ((HB.alloc hbase _).grown hg1 (by simp; omega) (own_base hown)) hg hat1)
theorem own_allM (A0 A1 : Option Addr) (n0 c0 n1 c1 : Nat) (w : World) :
    Calls Try.prog 25 #[.slice A0 n0 c0, .slice A1 n1 c1] w fun e w' => e = .returned (.func (.func 33) #[] #[.pointer (some ⟨w.heap.size, 0, none⟩), .pointer (some ⟨w.heap.size + 1, 0, none⟩)]) ∧ (w.alloc (.cells #[.slice A0 n0 c0] 22)).alloc (.cells #[.slice A1 n1 c1] 26) = w' := by
  go_enter Try.func25, Try.ntmps25
  go_wp2
  go_ret
  exact ⟨rfl, rfl⟩
end

end Go.Proofs.Ytbkdogijkfampaa.PMergeSplits
