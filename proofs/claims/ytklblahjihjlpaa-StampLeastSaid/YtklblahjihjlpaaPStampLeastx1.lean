-- Written by a patched print (wip/mkprint.py), for this claim.
import Derived.Test.YtklblahjihjlpaaPStampLeastx0
namespace Go.Proofs.Ytklblahjihjlpaa.PStampLeast
open Go.RowKit Go.Proofs.YtklblahjihjlpaaW.PrintWords Go.Proofs.YtklblahjihjlpaaW.PrintLast Go.Proofs.YtklblahjihjlpaaW.PrintMore
attribute [local go_sem] max2_int min2_int max_two min_two max_three min_three max_four min_four   -- for this text's walks alone
set_option linter.unusedVariables false
set_option linter.unusedSimpArgs false

/-! ### argosylaw09_few: function 10 -/
def argosylaw09_few.f (l0 : List Int) : Option (Bool) := some (decide ((l0.length : Int) ≤ 300))
set_option maxHeartbeats 8000000 in
set_option maxRecDepth 100000 in
theorem argosylaw09_few.calls (A0 : Option Addr) (c0 : Nat) (l0 : List Int) (r : Bool) (w : World) (hr0 : Kd.C (Kd.int .i64) w A0 l0.length l0) (hc0 : l0.length ≤ c0) (h : argosylaw09_few.f l0 = some r) :
    Calls Try.prog 10 #[.slice A0 l0.length c0] w fun e w' => e = .returned (.bool r) ∧ Drawn0 w w' := by
  have HR0 := Aside0.mk hr0
  have HC0 := Aside0.mk hc0
  clear hr0 hc0
  have H : (some (decide ((l0.length : Int) ≤ 300))) = some r := h
  clear h
  obtain rfl := Option.some.inj H
  go_enter Try.func10, Try.ntmps10
  go_wp2
  go_ret
  exact ⟨by first | rfl | (simp; done) | (simp [*]; done), by repeat (first | exact Drawn0.refl _ | apply Drawn0.step)⟩

/-! ### stamp_beside: function 33 -/
section
open Go.Shelf
attribute [local go_sem] Oper.semAt_some
def atS (l : List Int) (i : Int) : Int := if 0 ≤ i ∧ i < (l.length : Int) then rd l i else 0
theorem own_At (A0 : Option Addr) (c0 : Nat) (l0 : List Int) (a1 : Int) (w : World) (hr0 : Kd.C (Kd.int .i64) w A0 l0.length l0) :
    Calls Try.prog 14 #[.slice A0 l0.length c0, .int .i64 a1] w fun e w' => e = .returned (.int .i64 (atS l0 a1)) ∧ w = w' := by
  have HR0 := Aside0.mk hr0
  clear hr0
  by_cases c3 : a1 < 0
  · have hz : atS l0 a1 = 0 := by unfold atS; rw [if_neg (by omega)]
    rw [hz]
    have c3b0 : decide (a1 < 0) = true := decide_eq_true c3
    clear c3 hz
    go_enter Try.func14, Try.ntmps14
    go_wp2
    go_ret
    exact ⟨rfl, rfl⟩
  · by_cases c4 : a1 ≥ (l0.length : Int)
    · have hz : atS l0 a1 = 0 := by unfold atS; rw [if_neg (by omega)]
      rw [hz]
      have c3b0 : decide (a1 < 0) = false := decide_eq_false c3
      have c4b0 : decide ((l0.length : Int) ≤ a1) = true := decide_eq_true c4
      clear c3 c4 hz
      go_enter Try.func14, Try.ntmps14
      go_wp2
      go_ret
      exact ⟨rfl, rfl⟩
    · have hz : atS l0 a1 = rd l0 a1 := by unfold atS; rw [if_pos (by omega)]
      rw [hz]
      have c3b0 : decide (a1 < 0) = false := decide_eq_false c3
      have c4b0 : decide ((l0.length : Int) ≤ a1) = false := decide_eq_false c4
      have p103 : 0 ≤ (a1 : Int) := by omega
      have q103 : a1 < (l0.length : Int) := by omega
      clear c3 c4 hz
      obtain ⟨ad103, e103, hx103_0⟩ := Kd.at_int HR0.out a1 p103 q103
      cases e103
      replace p103 := eq_true p103
      replace q103 := eq_true q103
      go_enter Try.func14, Try.ntmps14
      go_wp2
      go_ret
      exact ⟨rfl, rfl⟩
theorem own_beside (A0 A1 : Option Addr) (n0 c0 n1 c1 : Nat) (w : World) :
    Calls Try.prog 33 #[.slice A0 n0 c0, .slice A1 n1 c1] w fun e w' => e = .returned (.func (.func 44) #[] #[.pointer (some ⟨w.heap.size, 0, none⟩), .pointer (some ⟨w.heap.size + 1, 0, none⟩)]) ∧ (w.alloc (.cells #[.slice A0 n0 c0] 22)).alloc (.cells #[.slice A1 n1 c1] 22) = w' := by
  go_enter Try.func33, Try.ntmps33
  go_wp2
  go_ret
  exact ⟨rfl, rfl⟩

def trip (l0 l1 : List Int) (j : Nat) : Int × Int × Int := ((j : Int), atS l0 j, atS l1 j)
def upto (l0 l1 : List Int) (k : Nat) : List (Int × Int × Int) := (List.range k).map (trip l0 l1)
theorem upto_succ (l0 l1 : List Int) (k : Nat) : upto l0 l1 (k + 1) = upto l0 l1 k ++ [trip l0 l1 k] := by simp [upto, List.range_succ]
theorem upto_length (l0 l1 : List Int) (k : Nat) : (upto l0 l1 k).length = k := by simp [upto]
def encT (t : Int × Int × Int) : Array Value := #[.agg #[.int .i64 t.1, .int .i64 t.2.1, .int .i64 t.2.2]]
def besK (n₀ Ba Bb : Nat) (W W' : World) : Prop := Below n₀ W W' ∧ W'.heap[Ba]? = W.heap[Ba]? ∧ W'.heap[Bb]? = W.heap[Bb]?
theorem wide_room {n : Nat} : Fence.wide.depth.isSome = true → 1 ≤ n := fun h => by cases h
theorem yield_two {e : Ending} {p q : Prop} (h : (e = .returned (.bool true) ∧ p) ∨ (e = .returned (.bool false) ∧ q)) : ∃ b : Bool, e = .returned (.bool b) ∧ ((b = true ∧ p) ∨ (b = false ∧ q)) := by
  rcases h with ⟨h, hp⟩ | ⟨h, hq⟩
  · exact ⟨true, h, .inl ⟨rfl, hp⟩⟩
  · exact ⟨false, h, .inr ⟨rfl, hq⟩⟩
set_option maxRecDepth 100000 in
set_option maxHeartbeats 1000000 in
theorem own_beside1 (n : Nat) (l Ba Bb : Nat) (A0 A1 : Option Addr) (c0 c1 : Nat) (l0 l1 : List Int) (w0 : World) (hr0 : Kd.C (Kd.int .i64) w0 A0 l0.length l0) (hr1 : Kd.C (Kd.int .i64) w0 A1 l1.length l1)
    (hn0 : l0.length ≤ 1000000) (hn1 : l1.length ≤ 1000000) (N : Nat) (hN : N = if l0.length < l1.length then l1.length else l0.length) (J Jx : List (Int × Int × Int) → World → Prop) (W : World)
    (hJ : AbidesFrom W.heap.size J)
    (hY : ∀ pre x W1, J pre W1 → pre.length < N → YieldAt Fence.wide (n - 1) Try.prog l (encT x) W1 fun e W' =>
      (e = .returned (.bool true) ∧ J (pre ++ [x]) W' ∧ besK w0.heap.size Ba Bb W1 W') ∨ (e = .returned (.bool false) ∧ Jx (pre ++ [x]) W'))
    (hWb : Below w0.heap.size w0 W) (hBa : Boxed W Ba 22 (.slice A0 l0.length c0)) (hBb : Boxed W Bb 22 (.slice A1 l1.length c1)) (h0 : J [] W) :
    CallsIn Fence.wide n Try.prog 44 #[.func (.yield l) #[] #[], .pointer (some ⟨Ba, 0, none⟩), .pointer (some ⟨Bb, 0, none⟩)] W fun e W' => (∃ v, e = .returned v) ∧
      ((∃ ys, ys = upto l0 l1 (N) ∧ J ys W') ∨ (∃ pre, (∃ k, k ≤ N ∧ pre = upto l0 l1 k) ∧ Jx pre W')) := by
  have HR0 := Aside0.mk hr0
  have HR1 := Aside0.mk hr1
  clear hr0 hr1
  refine callsIn_of_wp Try.func44 rfl trivial ?_ rfl
  simp only [Try.ntmps44, List.size_toArray, List.length_cons, List.length_nil, Nat.reduceAdd, Nat.reduceSub, Array.replicate_succ, Array.replicate_zero, List.push_toArray, List.append_toArray, List.nil_append, List.cons_append]
  have cA := hBa.cell
  have cB := hBb.cell
  rcases Nat.lt_or_ge l0.length l1.length with h | h
  · obtain rfl : N = l1.length := by simpa [h] using hN
    clear hN
    gi_wp2
    gi_loopw [10] (fun i wr => ∃ k : Nat, k ≤ l1.length ∧ i = .int .i64 k ∧ Aside0 (J (upto l0 l1 k) wr) ∧ Aside0 (Below w0.heap.size w0 wr) ∧ wr.heap[Ba]? = some (.cells #[.slice A0 l0.length c0] 22 (0, 0)) ∧ wr.heap[Bb]? = some (.cells #[.slice A1 l1.length c1] 22 (0, 0)))
      (fun i _ => l1.length - (intOf i).toNat)
    case atStart => exact ⟨0, Nat.zero_le _, rfl, ⟨h0⟩, ⟨hWb⟩, hBa, hBb⟩
    case round =>
      clear hBa hBb cA cB h0 hWb
      obtain ⟨k, hk, rfl, hJs, hnx, bA, bB⟩ := hrel
      have cA := Boxed.cell bA
      have cB := Boxed.cell bB
      by_cases hlt : k < l1.length
      · have hJd : J (upto l0 l1 k) wr.drew := hJ _ wr wr.drew none hJs.out ⟨rfl, rfl, rfl, Nat.le_refl _, fun _ _ _ => rfl⟩ (fun r e => by cases e)
        obtain ⟨fn, tmps, assign, body, hy, hR⟩ := hY _ (trip l0 l1 k) wr.drew hJd (by rw [upto_length]; exact hlt)
        dsimp only [encT, trip] at hy
        have r0 : Kd.C (Kd.int .i64) wr.drew A0 l0.length l0 := Kd.C_drew (Kd.C_below HR0.out hnx.out)
        have r1 : Kd.C (Kd.int .i64) wr.drew A1 l1.length l1 := Kd.C_drew (Kd.C_below HR1.out hnx.out)
        have R0 := Aside0.mk r0
        have R1 := Aside0.mk r1
        have HB := Aside0.mk bA
        have HB' := Aside0.mk bB
        have HRR := Aside0.mk hR
        have hmo : Try.prog.follows .mixedOrders = true := by kernel_rfl
        clear r0 r1 bA bB hR
        gi_wp2
        gi_region_with_o (first | (refine ⟨trivial, wide_room, ?_⟩; gi_at_call 14; (with_reducible refine (CallsIn.mono (callsIn_wide.2 (own_At A0 c0 l0 (k : Int) _ R0.out)) ?_)); rintro e w' ⟨rfl, rfl⟩) | (refine ⟨trivial, wide_room, ?_⟩; gi_at_call 14; (with_reducible refine (CallsIn.mono (callsIn_wide.2 (own_At A1 c1 l1 (k : Int) _ R1.out)) ?_)); rintro e w' ⟨rfl, rfl⟩) | (refine ⟨wide_room, ?_⟩; (with_reducible refine RoundIn.mono HRR.out ?_); rintro e W3 hr3; obtain ⟨b, rfl, hr4⟩ := yield_two hr3; clear hr3; have HR4 := Aside0.mk hr4; clear hr4))
        all_goals
          rcases HR4.out with ⟨rfl, hJ3, hk3, hA3, hB3⟩ | ⟨rfl, hJx3⟩
          · gi_wp2
            go_roundw
            case rel => exact ⟨k + 1, by omega, by go_num, ⟨by rw [upto_succ]; exact hJ3⟩, ⟨hnx.out.drew.trans hk3⟩, hA3.trans HB.out, hB3.trans HB'.out⟩
            case measure => simp [intOf]; omega
          · gi_wp2
            refine bodyPost_ret (results_none rfl _ _ _) rfl ?_
            exact ⟨⟨_, rfl⟩, .inr ⟨_, ⟨k + 1, by omega, rfl⟩, by rw [upto_succ]; exact hJx3⟩⟩
      · obtain rfl : k = l1.length := by omega
        gi_wp2
        go_end0
        exact ⟨⟨_, rfl⟩, .inl ⟨_, rfl, hJs.out⟩⟩
  · obtain rfl : N = l0.length := by simpa [Nat.not_lt.2 h] using hN
    clear hN
    gi_wp2
    gi_loopw [10] (fun i wr => ∃ k : Nat, k ≤ l0.length ∧ i = .int .i64 k ∧ Aside0 (J (upto l0 l1 k) wr) ∧ Aside0 (Below w0.heap.size w0 wr) ∧ wr.heap[Ba]? = some (.cells #[.slice A0 l0.length c0] 22 (0, 0)) ∧ wr.heap[Bb]? = some (.cells #[.slice A1 l1.length c1] 22 (0, 0)))
      (fun i _ => l0.length - (intOf i).toNat)
    case atStart => exact ⟨0, Nat.zero_le _, rfl, ⟨h0⟩, ⟨hWb⟩, hBa, hBb⟩
    case round =>
      clear hBa hBb cA cB h0 hWb
      obtain ⟨k, hk, rfl, hJs, hnx, bA, bB⟩ := hrel
      have cA := Boxed.cell bA
      have cB := Boxed.cell bB
      by_cases hlt : k < l0.length
      · have hJd : J (upto l0 l1 k) wr.drew := hJ _ wr wr.drew none hJs.out ⟨rfl, rfl, rfl, Nat.le_refl _, fun _ _ _ => rfl⟩ (fun r e => by cases e)
        obtain ⟨fn, tmps, assign, body, hy, hR⟩ := hY _ (trip l0 l1 k) wr.drew hJd (by rw [upto_length]; exact hlt)
        dsimp only [encT, trip] at hy
        have r0 : Kd.C (Kd.int .i64) wr.drew A0 l0.length l0 := Kd.C_drew (Kd.C_below HR0.out hnx.out)
        have r1 : Kd.C (Kd.int .i64) wr.drew A1 l1.length l1 := Kd.C_drew (Kd.C_below HR1.out hnx.out)
        have R0 := Aside0.mk r0
        have R1 := Aside0.mk r1
        have HB := Aside0.mk bA
        have HB' := Aside0.mk bB
        have HRR := Aside0.mk hR
        have hmo : Try.prog.follows .mixedOrders = true := by kernel_rfl
        clear r0 r1 bA bB hR
        gi_wp2
        gi_region_with_o (first | (refine ⟨trivial, wide_room, ?_⟩; gi_at_call 14; (with_reducible refine (CallsIn.mono (callsIn_wide.2 (own_At A0 c0 l0 (k : Int) _ R0.out)) ?_)); rintro e w' ⟨rfl, rfl⟩) | (refine ⟨trivial, wide_room, ?_⟩; gi_at_call 14; (with_reducible refine (CallsIn.mono (callsIn_wide.2 (own_At A1 c1 l1 (k : Int) _ R1.out)) ?_)); rintro e w' ⟨rfl, rfl⟩) | (refine ⟨wide_room, ?_⟩; (with_reducible refine RoundIn.mono HRR.out ?_); rintro e W3 hr3; obtain ⟨b, rfl, hr4⟩ := yield_two hr3; clear hr3; have HR4 := Aside0.mk hr4; clear hr4))
        all_goals
          rcases HR4.out with ⟨rfl, hJ3, hk3, hA3, hB3⟩ | ⟨rfl, hJx3⟩
          · gi_wp2
            go_roundw
            case rel => exact ⟨k + 1, by omega, by go_num, ⟨by rw [upto_succ]; exact hJ3⟩, ⟨hnx.out.drew.trans hk3⟩, hA3.trans HB.out, hB3.trans HB'.out⟩
            case measure => simp [intOf]; omega
          · gi_wp2
            refine bodyPost_ret (results_none rfl _ _ _) rfl ?_
            exact ⟨⟨_, rfl⟩, .inr ⟨_, ⟨k + 1, by omega, rfl⟩, by rw [upto_succ]; exact hJx3⟩⟩
      · obtain rfl : k = l0.length := by omega
        gi_wp2
        go_end0
        exact ⟨⟨_, rfl⟩, .inl ⟨_, rfl, hJs.out⟩⟩
theorem boxed_below {w W : World} {B t v} (h : Boxed w B t v) (hb : Below w.heap.size w W) : Boxed W B t v := (hb.block B h.lt).trans h
theorem own_stops (n Ba Bb : Nat) (A0 A1 : Option Addr) (c0 c1 : Nat) (l0 l1 : List Int) (w0 w : World) (hr0 : Kd.C (Kd.int .i64) w0 A0 l0.length l0) (hr1 : Kd.C (Kd.int .i64) w0 A1 l1.length l1)
    (hn0 : l0.length ≤ 1000000) (hn1 : l1.length ≤ 1000000) (N : Nat) (hN : N = if l0.length < l1.length then l1.length else l0.length) (hw : Below w0.heap.size w0 w)
    (hBa : Boxed w Ba 22 (.slice A0 l0.length c0)) (hBb : Boxed w Bb 22 (.slice A1 l1.length c1)) :
    SeqStopsK Fence.wide n Try.prog 44 #[.pointer (some ⟨Ba, 0, none⟩), .pointer (some ⟨Bb, 0, none⟩)] encT (besK w0.heap.size Ba Bb) (fun ys => ys = upto l0 l1 N) (fun pre => ∃ k, k ≤ N ∧ pre = upto l0 l1 k) N w :=
  fun l J Jx W hW hJ hJx hY h0 => own_beside1 n l Ba Bb A0 A1 c0 c1 l0 l1 w0 hr0 hr1 hn0 hn1 N hN J Jx W hJ hY (hw.trans (hW.mono hw.size)) (boxed_below hBa hW) (boxed_below hBb hW) h0
theorem besK_t {n₀ Ba Bb : Nat} {A B C : World} (h : besK n₀ Ba Bb A B) (k : besK n₀ Ba Bb B C) : besK n₀ Ba Bb A C := ⟨h.1.trans k.1, k.2.1.trans h.2.1, k.2.2.trans h.2.2⟩
theorem besK_b {n₀ Ba Bb : Nat} {w : World} (hn : n₀ ≤ w.heap.size) (ha : Ba < w.heap.size) (hb : Bb < w.heap.size) (W : World) (l : Nat) (o o' : Obj) (hl : w.heap.size ≤ l) (h : W.heap[l]? = some o) (h1 : o.isCells = false) (h2 : o.isWalk = false) : besK n₀ Ba Bb W (W.putObj l o') :=
  ⟨belowK_b hn W l o o' hl h h1 h2, World.putObj_heap_other (by omega), World.putObj_heap_other (by omega)⟩
def tripBox (W : World) (B : Nat) (x : Int × Int × Int) : Prop := W.heap[B]? = some (.cells #[.int .i64 x.1, .int .i64 x.2.1, .int .i64 x.2.2] 57 (0, 0))
theorem tripBox.cell0 {W : World} {B : Nat} {x : Int × Int × Int} (h : tripBox W B x) : W.cell? ⟨B, 0, none⟩ = some (.int .i64 x.1) := by simp [World.cell?, show W.heap[B]? = _ from h]
theorem tripBox.cell1 {W : World} {B : Nat} {x : Int × Int × Int} (h : tripBox W B x) : W.cell? ⟨B, 1, none⟩ = some (.int .i64 x.2.1) := by simp [World.cell?, show W.heap[B]? = _ from h]
theorem tripBox.cell2 {W : World} {B : Nat} {x : Int × Int × Int} (h : tripBox W B x) : W.cell? ⟨B, 2, none⟩ = some (.int .i64 x.2.2) := by simp [World.cell?, show W.heap[B]? = _ from h]
theorem tripBox.lt {W : World} {B : Nat} {x : Int × Int × Int} (h : tripBox W B x) : B < W.heap.size := (Array.getElem?_eq_some_iff.1 h).1
theorem tripBox_own (B : Nat) (x : Int × Int × Int) : Own (fun (_ : Unit) W => tripBox W B x) := fun _ X Y row hs hg hr => by
  refine (hg.block B hs.lt (fun e => ?_)).trans hs
  obtain ⟨o, ho, hc⟩ := hr B e.symm
  rw [show X.heap[B]? = _ from hs] at ho; cases ho; cases hc
theorem tripBox.new (W : World) (x : Int × Int × Int) : tripBox (W.alloc (.cells #[.int .i64 x.1, .int .i64 x.2.1, .int .i64 x.2.2] 57)) W.heap.size x := World.alloc_heap_new W _
theorem besK_alloc {n₀ Ba Bb : Nat} {W : World} (o : Obj) (h0 : n₀ ≤ W.heap.size) (ha : Ba < W.heap.size) (hb : Bb < W.heap.size) : besK n₀ Ba Bb W (W.alloc o) :=
  ⟨(Below.refl n₀ W).alloc h0 _, Below.heap_alloc W o _ ha, Below.heap_alloc W o _ hb⟩
theorem besK_set {n₀ Ba Bb B : Nat} {W : World} (v : Value) (h0 : n₀ ≤ B) (ha : Ba ≠ B) (hb : Bb ≠ B) : besK n₀ Ba Bb W (W.setCell ⟨B, 0, none⟩ v) :=
  ⟨(Below.refl n₀ W).setCell (p := ⟨B, 0, none⟩) h0 _, Below.heap_setCell _ _ _ _ ha, Below.heap_setCell _ _ _ _ hb⟩
theorem ownFrom_size {β : Type} (B n : Nat) : OwnFrom B (fun (_ : β) W => n ≤ W.heap.size) := fun _ _ _ _ hs hg _ => Nat.le_trans hs hg.size
theorem setCell_size' (W : World) (a : Addr) (v : Value) : (W.setCell a v).heap.size = W.heap.size := by simp [World.setCell]
theorem besK_refl {n₀ Ba Bb : Nat} (W : World) : besK n₀ Ba Bb W W := ⟨Below.refl _ _, rfl, rfl⟩
def lenS (l0 l1 : List Int) : Nat := if l0.length < l1.length then l1.length else l0.length
theorem boxed_eq {W W' : World} {B t v} (h : Boxed W B t v) (h' : Boxed W' B t v) : W'.heap[B]? = W.heap[B]? := (show W'.heap[B]? = _ from h').trans (show W.heap[B]? = _ from h).symm
theorem cell_alloc_l {W : World} {a : Addr} {v : Value} (o : Obj) (h : W.cell? a = some v) : (W.alloc o).cell? a = some v := cell_kept h (World.grownBy_alloc W o none) (fun r e => by cases e)
theorem frozen_alloc_l {W : World} {a : Addr} {v : Value} (o : Obj) (h : W.cell? a = some v) (hf : W.frozen? a = false) : (W.alloc o).frozen? a = false := (frozen_kept h (World.grownBy_alloc W o none) (fun r e => by cases e)).trans hf
end

/-! ### stamp_Rank: function 16 -/
section
open Go.Shelf
attribute [local go_sem] Oper.semAt_some
def rankF (r : Int) (t : Int × Int × Int) : Int := if t.2.1 < t.2.2 then bits .or .i64 r 1 else if t.2.2 < t.2.1 then bits .or .i64 r 2 else r
def rankW (l : List (Int × Int × Int)) : Int := l.foldl rankF 0
theorem rankW_snoc (l : List (Int × Int × Int)) (t : Int × Int × Int) : rankW (l ++ [t]) = rankF (rankW l) t := by simp [rankW]
set_option maxRecDepth 100000 in
set_option maxHeartbeats 4000000 in
theorem own_Rank (A0 A1 : Option Addr) (c0 c1 : Nat) (l0 l1 : List Int) (w : World) (hr0 : Kd.C (Kd.int .i64) w A0 l0.length l0) (hr1 : Kd.C (Kd.int .i64) w A1 l1.length l1) (hn0 : l0.length ≤ 1000000) (hn1 : l1.length ≤ 1000000) :
    CallsIn Fence.wide 9 Try.prog 16 #[.slice A0 l0.length c0, .slice A1 l1.length c1] w fun e w' => e = .returned (.int .i64 (rankW (upto l0 l1 (lenS l0 l1)))) ∧ Below w.heap.size w w' := by
  have HR0 := Aside0.mk hr0
  have HR1 := Aside0.mk hr1
  clear hr0 hr1
  refine callsIn_of_wp_marks Try.func16 rfl trivial ?_ rfl
  simp only [Try.ntmps16, List.size_toArray, List.length_cons, List.length_nil, Nat.reduceAdd, Nat.reduceSub, Array.replicate_succ, Array.replicate_zero, List.push_toArray, List.append_toArray, List.nil_append, List.cons_append]
  gi_wp2_with ((first | refine ⟨trivial, ?_⟩ | refine ⟨trivial, wide_room, ?_⟩); gi_at_call 33; (with_reducible refine (CallsIn.mono (callsIn_wide.2 (own_beside A0 A1 l0.length c0 l1.length c1 _)) ?_)); rintro e w' ⟨rfl, rfl⟩)
  have bS := ((Boxed.new w 29 (.int .i64 0)).alloc (.cells #[.slice A0 l0.length c0] 22)).alloc (.cells #[.slice A1 l1.length c1] 22)
  have bA := (Boxed.new (w.alloc (.cells #[.int .i64 0] 29)) 22 (.slice A0 l0.length c0)).alloc (.cells #[.slice A1 l1.length c1] 22)
  have bB := Boxed.new ((w.alloc (.cells #[.int .i64 0] 29)).alloc (.cells #[.slice A0 l0.length c0] 22)) 22 (.slice A1 l1.length c1)
  simp only [World.size_alloc] at bA bB
  have hB0 : Below w.heap.size w (((w.alloc (.cells #[.int .i64 0] 29)).alloc (.cells #[.slice A0 l0.length c0] 22)).alloc (.cells #[.slice A1 l1.length c1] 22)) := (((Below.refl _ w).alloc (Nat.le_refl _) _).alloc (by simp) _).alloc (by simp; omega) _
  have hsz : (((w.alloc (.cells #[.int .i64 0] 29)).alloc (.cells #[.slice A0 l0.length c0] 22)).alloc (.cells #[.slice A1 l1.length c1] 22)).heap.size = w.heap.size + 3 := by simp
  obtain ⟨W0, hW0⟩ : ∃ W0, ((w.alloc (.cells #[.int .i64 0] 29)).alloc (.cells #[.slice A0 l0.length c0] 22)).alloc (.cells #[.slice A1 l1.length c1] 22) = W0 := ⟨_, rfl⟩
  rw [hW0] at bS bA bB hB0 hsz ⊢
  clear hW0
  refine wpIn_rangeFunc_ownH rfl (by omega) (gf := 44) (lb := #[.pointer (some ⟨w.heap.size + 1, 0, none⟩), .pointer (some ⟨w.heap.size + 1 + 1, 0, none⟩)]) rfl trivial (enters_of Try.func44 (by kernel_rfl) rfl)
    (own_stops (9 - 1) (w.heap.size + 1) (w.heap.size + 1 + 1) A0 A1 c0 c1 l0 l1 w W0 HR0.out HR1.out hn0 hn1 (lenS l0 l1) rfl hB0 bA bB) besK_t (besK_b (by omega) (by omega) (by omega)) (Below.refl _ _) (fun _ => rfl)
    (fun pre W => (Boxed W w.heap.size 29 (.int .i64 (rankW pre)) ∧ Below w.heap.size w W) ∧ w.heap.size + 3 ≤ W.heap.size)
    (fun _ _ _ => False)
    (OwnFrom.and (OwnFrom.and (Own.from (boxed_own _ _ _) _) (ownFrom_below (Nat.le_refl _) (by omega))) (ownFrom_size _ _))
    (fun _ _ _ _ _ hs _ _ => hs)
    ⟨⟨bS, hB0⟩, by omega⟩
    (fun x a' W => ∃ Bx, w.heap.size + 2 < Bx ∧ tripBox W Bx x ∧ a' = { tmps := #[.slice A0 l0.length c0, .slice A1 l1.length c1, undef, undef, .int .i64 0, .pointer (some ⟨w.heap.size, 0, none⟩), .pointer (some ⟨Bx, 0, none⟩), .slice A0 l0.length c0, .slice A1 l1.length c1, .func (.func 44) #[] #[.pointer (some ⟨w.heap.size + 1, 0, none⟩), .pointer (some ⟨w.heap.size + 1 + 1, 0, none⟩)], .agg #[.int .i64 x.1, .int .i64 x.2.1, .int .i64 x.2.2], undef, undef, undef, undef, undef, undef, undef, undef, undef, undef, undef, undef, undef, undef, undef, undef, undef], defers := [] })
    (fun x a' _ X Y row hs hg hr => by obtain ⟨Bx, h1, h2, h3⟩ := hs; exact ⟨Bx, h1, tripBox_own Bx x () X Y row h2 hg (fun r e => (hr r e).2), h3⟩)
    ?assign ?body ?done ?stop
  case assign =>
    rintro l pre x W K ⟨⟨bS1, hB1⟩, hs1⟩ hK
    have := hB1.size
    dsimp only [encT]
    gi_wp2
    exact hK _ _ ((KeepsOthers.alloc _ _).from _) (besK_alloc _ this (by omega) (by omega)) ⟨⟨bS1.alloc _, hB1.alloc hB1.size _⟩, by simp; omega⟩ ⟨W.heap.size, by omega, tripBox.new W x, rfl⟩
  case body =>
    rintro l pre x a' W hl ⟨r, hr⟩ ⟨⟨bS1, hB1⟩, hs1⟩ ⟨Bx, hBx, bX, rfl⟩ hlt
    have cS := bS1.cell
    have fS := bS1.frozen
    have c1 := bX.cell1
    have c2 := bX.cell2
    have hsc := setCell_size' W ⟨w.heap.size, 0, none⟩
    have R := rankW_snoc pre x
    have RR := Aside0.mk R
    clear R
    by_cases h1 : x.2.1 < x.2.2
    · have R : rankW (pre ++ [x]) = bits .or .i64 (rankW pre) 1 := by rw [RR.out]; unfold rankF; rw [if_pos h1]
      have RR := Aside0.mk R
      clear R hsc
      gi_wp2
      exact ⟨(KeepsOthers.setCell _ _ _).from _, besK_set _ (Nat.le_refl _) (by omega) (by omega), ⟨by rw [RR.out]; exact bS1.set _, hB1.setCell (p := ⟨w.heap.size, 0, none⟩) (Nat.le_refl _) _⟩, by rw [setCell_size']; exact hs1⟩
    · by_cases h2 : x.2.2 < x.2.1
      · have R : rankW (pre ++ [x]) = bits .or .i64 (rankW pre) 2 := by rw [RR.out]; unfold rankF; rw [if_neg h1, if_pos h2]
        have RR := Aside0.mk R
        clear R hsc
        gi_wp2
        exact ⟨(KeepsOthers.setCell _ _ _).from _, besK_set _ (Nat.le_refl _) (by omega) (by omega), ⟨by rw [RR.out]; exact bS1.set _, hB1.setCell (p := ⟨w.heap.size, 0, none⟩) (Nat.le_refl _) _⟩, by rw [setCell_size']; exact hs1⟩
      · have R : rankW (pre ++ [x]) = rankW pre := by rw [RR.out]; unfold rankF; rw [if_neg h1, if_neg h2]
        have RR := Aside0.mk R
        clear R hsc
        gi_wp2
        exact ⟨KeepsFrom.refl _ _, besK_refl _, ⟨by rw [RR.out]; exact bS1, hB1⟩, hs1⟩
  case done =>
    rintro D zs W hD rfl ⟨⟨bS1, hB1⟩, hs1⟩ hK
    have cS := bS1.cell
    gi_wp2
    refine ⟨by simp, .inl ⟨_, _, rfl, run_takeDeferred hK, ?_⟩⟩
    exact ⟨_, results_tmp rfl _ _ _, rfl, hB1.trans (belowK_b (w := w) (Nat.le_refl _) W D _ _ (by omega) hK rfl rfl)⟩
  case stop =>
    rintro D c pre W _ _ h _
    exact h.elim
end
def stamp_Rank.f (l0 l1 : List Int) : Option Int := if l0.length ≤ 1000000 ∧ l1.length ≤ 1000000 then some (rankW (upto l0 l1 (lenS l0 l1))) else none
theorem stamp_Rank.calls (A0 : Option Addr) (c0 : Nat) (l0 : List Int) (A1 : Option Addr) (c1 : Nat) (l1 : List Int) (r : Int) (w : World) (hr0 : Kd.C (Kd.int .i64) w A0 l0.length l0) (hc0 : l0.length ≤ c0) (hr1 : Kd.C (Kd.int .i64) w A1 l1.length l1) (hc1 : l1.length ≤ c1) (h : stamp_Rank.f l0 l1 = some r) :
    Calls Try.prog 16 #[.slice A0 l0.length c0, .slice A1 l1.length c1] w fun e w' => e = .returned (.int .i64 r) ∧ Below w.heap.size w w' := by
  unfold stamp_Rank.f at h
  by_cases hl : l0.length ≤ 1000000 ∧ l1.length ≤ 1000000
  · rw [if_pos hl] at h
    obtain rfl := Option.some.inj h
    exact callsIn_wide.1 (own_Rank A0 A1 c0 c1 l0 l1 w hr0 hr1 hl.1 hl.2)
  · rw [if_neg hl] at h; cases h

/-! ### argosyref01_Same: function 18 -/
def argosyref01_Same.l0 : Nat → List Int → List Int → Int → Option (Bool)
  | 0, _, _, _ => none
  | k + 1, x0, x1, x5 => if x5 < (x0.length : Int) then (if 0 ≤ x5 then (if x5 < (x1.length : Int) then (if (rd x0 x5) = (rd x1 x5) then (argosyref01_Same.l0 k x0 x1 (wrap64 (x5 + 1))) else (some false)) else (none)) else (none)) else (some true)
def argosyref01_Same.f (k : Nat) (l0 : List Int) (l1 : List Int) : Option (Bool) := if (l0.length : Int) = (l1.length : Int) then (argosyref01_Same.l0 k l0 l1 0) else (some false)
theorem argosyref01_Same.mono_l : ∀ k, (∀ y0 y1 y2, LeO (argosyref01_Same.l0 k y0 y1 y2) (argosyref01_Same.l0 (k + 1) y0 y1 y2))
  | 0 => fun _ _ _ r h => by simp [argosyref01_Same.l0] at h
  | k + 1 => by
    have ih0 := argosyref01_Same.mono_l k
    · intro y0 y1 y2
      unfold argosyref01_Same.l0
      repeat' first
      | (with_reducible exact ih0 _ _ _)
      | (with_reducible exact LeO.refl _)
      | (with_reducible exact LeO.none _)
      | (with_reducible refine LeO.ite ?_ ?_)
      | (with_reducible refine LeO.bind ?_ (fun _ => ?_))
      | exact ih0 _ _ _
      | exact LeO.none _
      | refine LeO.ite ?_ ?_
      | refine LeO.bind ?_ (fun _ => ?_)
theorem argosyref01_Same.mono : ∀ a0 a1 k, LeO (argosyref01_Same.f k a0 a1) (argosyref01_Same.f (k + 1) a0 a1) := by
  intro a0 a1 k
  have ih0 := argosyref01_Same.mono_l k
  unfold argosyref01_Same.f
  repeat' first
      | (with_reducible exact ih0 _ _ _)
      | (with_reducible exact LeO.refl _)
      | (with_reducible exact LeO.none _)
      | (with_reducible refine LeO.ite ?_ ?_)
      | (with_reducible refine LeO.bind ?_ (fun _ => ?_))
      | exact ih0 _ _ _
      | exact LeO.none _
      | refine LeO.ite ?_ ?_
      | refine LeO.bind ?_ (fun _ => ?_)
set_option maxHeartbeats 8000000 in
set_option maxRecDepth 100000 in
theorem argosyref01_Same.calls (k : Nat) (A0 : Option Addr) (c0 : Nat) (l0 : List Int) (A1 : Option Addr) (c1 : Nat) (l1 : List Int) (r : Bool) (w : World) (hr0 : Kd.C (Kd.int .i64) w A0 l0.length l0) (hc0 : l0.length ≤ c0) (hr1 : Kd.C (Kd.int .i64) w A1 l1.length l1) (hc1 : l1.length ≤ c1) (h : argosyref01_Same.f k l0 l1 = some r) :
    Calls Try.prog 18 #[.slice A0 l0.length c0, .slice A1 l1.length c1] w fun e w' => e = .returned (.bool r) ∧ Drawn0 w w' := by
  have HR0 := Aside0.mk hr0
  have HC0 := Aside0.mk hc0
  clear hr0 hc0
  have HR1 := Aside0.mk hr1
  have HC1 := Aside0.mk hc1
  clear hr1 hc1
  have H : (if (l0.length : Int) = (l1.length : Int) then (argosyref01_Same.l0 k l0 l1 0) else (some false)) = some r := h
  clear h
  by_cases c3 : (l0.length : Int) = (l1.length : Int)
  · rw [if_pos c3] at H
    have c3b0 : ((l0.length : Int) == (l1.length : Int)) = true := beq_iff_eq.mpr c3
    have c3b1 : ((l0.length : Int) != (l1.length : Int)) = false := bne_eq_false_iff_eq.mpr c3
    have c3b2 : (l0.length == l1.length) = true := by first | simpa using c3 | (simp at c3 ⊢; omega)
    clear c3
    have H' := Aside0.mk H
    clear H
    go_enter Try.func18, Try.ntmps18
    go_wp2
    repeat (go_quiet (fail); try go_wp2)
    go_loopg [5] k (fun kq v5 w' => ∃ (x5_1 : Int), v5 = .int .i64 x5_1 ∧ Aside0 (argosyref01_Same.l0 kq l0 l1 x5_1 = some r) ∧ Aside0 (kq ≤ k) ∧ Drawn0 w w')
    case atStart => exact ⟨(0), (by first | rfl | (simp; done) | (simp [*]; done)), H', ⟨Nat.le_refl _⟩, by repeat (first | exact Drawn0.refl _ | apply Drawn0.step)⟩
    case round =>
      clear H'
      try clear c1
      try clear p2
      try clear c3
      try clear c3b0
      try clear c3b1
      try clear c3b2
      obtain ⟨x5_1, rfl, HA, HK1, ⟨m1, rfl⟩⟩ := hrel
      cases gk with
      | zero => exact absurd HA.out (by simp [argosyref01_Same.l0])
      | succ k1 =>
        have H := HA.out
        clear HA
        simp only [argosyref01_Same.l0] at H
        by_cases c4 : x5_1 < (l0.length : Int)
        · rw [if_pos c4] at H
          have c4b0 : decide (x5_1 < (l0.length : Int)) = true := decide_eq_true c4
          clear c4
          by_cases c5 : 0 ≤ x5_1
          · rw [if_pos c5] at H
            have c5b0 : decide (0 ≤ x5_1) = true := decide_eq_true c5
            clear c5
            by_cases c6 : x5_1 < (l1.length : Int)
            · rw [if_pos c6] at H
              have c6b0 : decide (x5_1 < (l1.length : Int)) = true := decide_eq_true c6
              clear c6
              by_cases c7 : (rd l0 x5_1) = (rd l1 x5_1)
              · rw [if_pos c7] at H
                have c7b0 : ((rd l0 x5_1) == (rd l1 x5_1)) = true := beq_iff_eq.mpr c7
                have c7b1 : ((rd l0 x5_1) != (rd l1 x5_1)) = false := bne_eq_false_iff_eq.mpr c7
                clear c7
                have H' := Aside0.mk H
                clear H
                have p101 : 0 ≤ (x5_1 : Int) := of_decide_eq_true (by first | (with_reducible assumption) | assumption)
                have q101 : x5_1 < (l0.length : Int) := of_decide_eq_true (by first | (with_reducible assumption) | assumption)
                obtain ⟨ad101, e101, hx101_0⟩ := Kd.at_int HR0.out x5_1 p101 q101
                cases e101
                replace p101 := eq_true p101
                replace q101 := eq_true q101
                have p102 : 0 ≤ (x5_1 : Int) := of_decide_eq_true (by first | (with_reducible assumption) | assumption)
                have q102 : x5_1 < (l1.length : Int) := of_decide_eq_true (by first | (with_reducible assumption) | assumption)
                obtain ⟨ad102, e102, hx102_0⟩ := Kd.at_int HR1.out x5_1 p102 q102
                cases e102
                replace p102 := eq_true p102
                replace q102 := eq_true q102
                go_wp2
                repeat (go_quiet (fail); try go_wp2)
                go_roundg k1
                case measure => have := HK1.out; omega
                case rel => exact ⟨(wrap64 (x5_1 + 1)), (by first | rfl | (simp; done) | (simp [*]; done)), H', ⟨by have := HK1.out; omega⟩, by repeat (first | exact Drawn0.refl _ | apply Drawn0.step)⟩
              · rw [if_neg c7] at H
                have c7b0 : ((rd l0 x5_1) == (rd l1 x5_1)) = false := beq_eq_false_iff_ne.mpr c7
                have c7b1 : ((rd l0 x5_1) != (rd l1 x5_1)) = true := bne_iff_ne.mpr c7
                obtain rfl := Option.some.inj H
                have p101 : 0 ≤ (x5_1 : Int) := of_decide_eq_true (by first | (with_reducible assumption) | assumption)
                have q101 : x5_1 < (l0.length : Int) := of_decide_eq_true (by first | (with_reducible assumption) | assumption)
                obtain ⟨ad101, e101, hx101_0⟩ := Kd.at_int HR0.out x5_1 p101 q101
                cases e101
                replace p101 := eq_true p101
                replace q101 := eq_true q101
                have p102 : 0 ≤ (x5_1 : Int) := of_decide_eq_true (by first | (with_reducible assumption) | assumption)
                have q102 : x5_1 < (l1.length : Int) := of_decide_eq_true (by first | (with_reducible assumption) | assumption)
                obtain ⟨ad102, e102, hx102_0⟩ := Kd.at_int HR1.out x5_1 p102 q102
                cases e102
                replace p102 := eq_true p102
                replace q102 := eq_true q102
                go_wp2
                repeat (go_quiet (fail); try go_wp2)
                go_ret
                exact ⟨by first | rfl | (simp; done) | (simp [*]; done), by repeat (first | exact Drawn0.refl _ | apply Drawn0.step)⟩
            · rw [if_neg c6] at H
              exact absurd H (by simp)
          · rw [if_neg c5] at H
            exact absurd H (by simp)
        · rw [if_neg c4] at H
          have c4b0 : decide (x5_1 < (l0.length : Int)) = false := decide_eq_false c4
          clear c4
          obtain rfl := Option.some.inj H
          go_wp2
          repeat (go_quiet (fail); try go_wp2)
          go_ret
          exact ⟨by first | rfl | (simp; done) | (simp [*]; done), by repeat (first | exact Drawn0.refl _ | apply Drawn0.step)⟩
  · rw [if_neg c3] at H
    have c3b0 : ((l0.length : Int) == (l1.length : Int)) = false := beq_eq_false_iff_ne.mpr c3
    have c3b1 : ((l0.length : Int) != (l1.length : Int)) = true := bne_iff_ne.mpr c3
    have c3b2 : (l0.length == l1.length) = false := by first | simpa using c3 | (simp at c3 ⊢; omega)
    obtain rfl := Option.some.inj H
    go_enter Try.func18, Try.ntmps18
    go_wp2
    repeat (go_quiet (fail); try go_wp2)
    go_ret
    exact ⟨by first | rfl | (simp; done) | (simp [*]; done), by repeat (first | exact Drawn0.refl _ | apply Drawn0.step)⟩

/-! ### stamp_Join: function 19 -/
section
open Go.Shelf
attribute [local go_sem] Oper.semAt_some
def joinF (t : Int × Int × Int) : Int := if t.2.1 < t.2.2 then t.2.2 else t.2.1
def joinW (l : List (Int × Int × Int)) : List Int := l.map joinF
theorem joinW_snoc (l : List (Int × Int × Int)) (t : Int × Int × Int) : joinW (l ++ [t]) = joinW l ++ [joinF t] := by simp [joinW]
theorem joinW_length (l : List (Int × Int × Int)) : (joinW l).length = l.length := by simp [joinW]
set_option maxRecDepth 100000 in
set_option maxHeartbeats 4000000 in
theorem own_Join (A0 A1 : Option Addr) (c0 c1 : Nat) (l0 l1 : List Int) (w : World) (hr0 : Kd.C (Kd.int .i64) w A0 l0.length l0) (hr1 : Kd.C (Kd.int .i64) w A1 l1.length l1) (hn0 : l0.length ≤ 1000000) (hn1 : l1.length ≤ 1000000) :
    CallsIn Fence.wide 9 Try.prog 19 #[.slice A0 l0.length c0, .slice A1 l1.length c1] w fun e w' => ∃ v0_ : Value, e = .returned v0_ ∧ Kd.R (Kd.int .i64) 3 w' w.heap.size (fun _ => True) v0_ (joinW (upto l0 l1 (lenS l0 l1))) ∧ Below w.heap.size w w' := by
  have HR0 := Aside0.mk hr0
  have HR1 := Aside0.mk hr1
  clear hr0 hr1
  obtain ⟨i0, hi, hz0, hz1, hz2⟩ := info_parts info3
  have hlen : lenS l0 l1 ≤ 1000000 := by unfold lenS; split <;> omega
  refine callsIn_of_wp_marks Try.func19 rfl trivial ?_ rfl
  simp only [Try.ntmps19, List.size_toArray, List.length_cons, List.length_nil, Nat.reduceAdd, Nat.reduceSub, Array.replicate_succ, Array.replicate_zero, List.push_toArray, List.append_toArray, List.nil_append, List.cons_append]
  gi_wp2_with ((first | refine ⟨trivial, ?_⟩ | refine ⟨trivial, wide_room, ?_⟩); gi_at_call 33; (with_reducible refine (CallsIn.mono (callsIn_wide.2 (own_beside A0 A1 l0.length c0 l1.length c1 _)) ?_)); rintro e w' ⟨rfl, rfl⟩)
  have bS := ((Boxed.new w 22 (.slice none 0 0)).alloc (.cells #[.slice A0 l0.length c0] 22)).alloc (.cells #[.slice A1 l1.length c1] 22)
  have bA := (Boxed.new (w.alloc (.cells #[.slice none 0 0] 22)) 22 (.slice A0 l0.length c0)).alloc (.cells #[.slice A1 l1.length c1] 22)
  have bB := Boxed.new ((w.alloc (.cells #[.slice none 0 0] 22)).alloc (.cells #[.slice A0 l0.length c0] 22)) 22 (.slice A1 l1.length c1)
  simp only [World.size_alloc] at bA bB
  have hB0 : Below w.heap.size w (((w.alloc (.cells #[.slice none 0 0] 22)).alloc (.cells #[.slice A0 l0.length c0] 22)).alloc (.cells #[.slice A1 l1.length c1] 22)) := (((Below.refl _ w).alloc (Nat.le_refl _) _).alloc (by simp) _).alloc (by simp; omega) _
  have hsz : (((w.alloc (.cells #[.slice none 0 0] 22)).alloc (.cells #[.slice A0 l0.length c0] 22)).alloc (.cells #[.slice A1 l1.length c1] 22)).heap.size = w.heap.size + 3 := by simp
  obtain ⟨W0, hW0⟩ : ∃ W0, ((w.alloc (.cells #[.slice none 0 0] 22)).alloc (.cells #[.slice A0 l0.length c0] 22)).alloc (.cells #[.slice A1 l1.length c1] 22) = W0 := ⟨_, rfl⟩
  rw [hW0] at bS bA bB hB0 hsz ⊢
  clear hW0
  refine wpIn_rangeFunc_ownH rfl (by omega) (gf := 44) (lb := #[.pointer (some ⟨w.heap.size + 1, 0, none⟩), .pointer (some ⟨w.heap.size + 1 + 1, 0, none⟩)]) rfl trivial (enters_of Try.func44 (by kernel_rfl) rfl)
    (own_stops (9 - 1) (w.heap.size + 1) (w.heap.size + 1 + 1) A0 A1 c0 c1 l0 l1 w W0 HR0.out HR1.out hn0 hn1 (lenS l0 l1) rfl hB0 bA bB) besK_t (besK_b (by omega) (by omega) (by omega)) (Below.refl _ _) (fun _ => rfl)
    (fun pre W => (((∃ v, Boxed W w.heap.size 22 v ∧ W.ownsRow w.heap.size 3 1 v (joinW pre).length (encs (Value.int .i64) (joinW pre)) ∧ True) ∧ Boxed W (w.heap.size + 1) 22 (.slice A0 l0.length c0) ∧ Boxed W (w.heap.size + 1 + 1) 22 (.slice A1 l1.length c1)) ∧ Below w.heap.size w W) ∧ w.heap.size + 3 ≤ W.heap.size)
    (fun _ _ _ => False)
    (OwnFrom.and (OwnFrom.and (OwnFrom.and (Own.from (holdsRow_own w.heap.size w.heap.size 22 3 1 (fun pre => (joinW pre).length) (fun pre => encs (Value.int .i64) (joinW pre)) (fun pre v => True)) _) (OwnFrom.and (Own.from (boxed_own _ _ _) _) (Own.from (boxed_own _ _ _) _))) (ownFrom_below (Nat.le_refl _) (by omega))) (ownFrom_size _ _))
    (fun _ _ _ _ _ hs _ _ => hs)
    ⟨⟨⟨⟨_, bS, World.ownsRow_nil _ _ _ _, trivial⟩, bA, bB⟩, hB0⟩, by omega⟩
    (fun x a' W => ∃ Bx, w.heap.size + 2 < Bx ∧ tripBox W Bx x ∧ a' = { tmps := #[.slice A0 l0.length c0, .slice A1 l1.length c1, undef, undef, .slice none 0 0, .pointer (some ⟨w.heap.size, 0, none⟩), .pointer (some ⟨Bx, 0, none⟩), .slice A0 l0.length c0, .slice A1 l1.length c1, .func (.func 44) #[] #[.pointer (some ⟨w.heap.size + 1, 0, none⟩), .pointer (some ⟨w.heap.size + 1 + 1, 0, none⟩)], .agg #[.int .i64 x.1, .int .i64 x.2.1, .int .i64 x.2.2], undef, undef, undef, undef, undef, undef, undef, undef, undef], defers := [] })
    (fun x a' _ X Y row hs hg hr => by obtain ⟨Bx, h1, h2, h3⟩ := hs; exact ⟨Bx, h1, tripBox_own Bx x () X Y row h2 hg (fun r e => (hr r e).2), h3⟩)
    ?assign ?body ?done ?stop
  case assign =>
    rintro l pre x W K ⟨⟨⟨⟨v, bS1, hrow, _⟩, bA1, bB1⟩, hB1⟩, hs1⟩ hK
    have := hB1.size
    dsimp only [encT]
    gi_wp2
    exact hK _ _ ((KeepsOthers.alloc _ _).from _) (besK_alloc _ this (by omega) (by omega)) ⟨⟨⟨⟨v, bS1.alloc _, hrow.alloc _, trivial⟩, bA1.alloc _, bB1.alloc _⟩, hB1.alloc hB1.size _⟩, by simp; omega⟩ ⟨W.heap.size, by omega, tripBox.new W x, rfl⟩
  case body =>
    rintro l pre x a' W hl ⟨r, hr⟩ ⟨⟨⟨⟨v, hv, hrow, _⟩, bA1, bB1⟩, hB1⟩, hs1⟩ ⟨Bx, hBx, bX, rfl⟩ hlt
    have cS := hv.cell
    have fS := hv.frozen
    have k1 := bX.cell1
    have k2 := bX.cell2
    have hpl := joinW_length pre
    have hle : (joinW pre).length ≤ 1000000 := by omega
    clear hpl
    have nA := bA1.not_row (e := 3) (by decide) hrow
    have nB := bB1.not_row (e := 3) (by decide) hrow
    have RR := Aside0.mk (joinW_snoc pre x)
    by_cases h1 : x.2.1 < x.2.2
    · have R : joinF x = x.2.2 := by unfold joinF; rw [if_pos h1]
      rw [R] at RR
      clear R
      gi_wp2_with (gi_at_builtin; refine wpListIn_append_own _ rfl (.tmp 11) (.tmp 17) 22 rfl w.heap.size 3 i0 (.int .i64 0) 1 8 Try.underlying22 hi hz0 hz1 hz2 rfl (by decide) _ _ _ rfl (hrow.alloc _) ⟨W.heap.size, 0, none⟩ 1 1 [.int .i64 (x.2.2)] rfl rfl (cell_one_new _ _ _) (by simp [Value.oneCell']) (by unfold maxLen; omega) (by omega) (by have := hB1.size; simp; omega) ?_; intro v' w1 hown' hgrow _; obtain ⟨g', cap', rfl⟩ := ownsRow_succ hown'; obtain ⟨hv1, hv2, hr2, hk2, hb2⟩ := hv.appended (by decide) hrow hB1.size (Nat.le_refl _) hown' hgrow; have hc1 := hv1.cell; have hf1 := hv1.frozen; have GR := Aside0.mk hgrow; have OW := Aside0.mk hr2; have HV2 := Aside0.mk hv2; clear hown' hgrow hr2 hv1 hv2)
      have bA2 := ((bA1.alloc _).kept GR.out nA).other (B' := w.heap.size) (by omega) (.slice (some ⟨g', 0, none⟩) ((joinW pre).length + 1) cap')
      have bB2 := ((bB1.alloc _).kept GR.out nB).other (B' := w.heap.size) (by omega) (.slice (some ⟨g', 0, none⟩) ((joinW pre).length + 1) cap')
      have ho := OW.out
      rw [show (joinW pre).length + 1 = (joinW (pre ++ [x])).length from by rw [RR.out]; simp] at ho
      rw [show encs (Value.int .i64) (joinW pre) ++ [Value.int .i64 (x.2.2)] = encs (Value.int .i64) (joinW (pre ++ [x])) from by rw [RR.out]; simp [encs]] at ho
      have hv2 := HV2.out
      rw [show (joinW pre).length + 1 = (joinW (pre ++ [x])).length from by rw [RR.out]; simp] at hv2 bA2 bB2 hb2 hk2
      have hsum : ∃ v, Boxed (w1.setCell ⟨w.heap.size, 0, none⟩ (.slice (some ⟨g', 0, none⟩) (joinW (pre ++ [x])).length cap')) w.heap.size 22 v ∧ (w1.setCell ⟨w.heap.size, 0, none⟩ (.slice (some ⟨g', 0, none⟩) (joinW (pre ++ [x])).length cap')).ownsRow w.heap.size 3 1 v (joinW (pre ++ [x])).length (encs (Value.int .i64) (joinW (pre ++ [x]))) := ⟨_, hv2, ho⟩
      rw [show (joinW pre).length + 1 = (joinW (pre ++ [x])).length from by rw [RR.out]; simp]
      first
        | exact ⟨hk2.from _, ⟨hb2, boxed_eq bA1 bA2, boxed_eq bB1 bB2⟩, ⟨⟨hsum, bA2, bB2⟩, hB1.trans hb2⟩, Nat.le_trans hs1 hk2.size⟩
        | exact ⟨hk2.from _, ⟨hb2, boxed_eq bA1 bA2, boxed_eq bB1 bB2⟩, ⟨⟨(let ⟨v, a, b⟩ := hsum; ⟨v, a, b, trivial⟩), bA2, bB2⟩, hB1.trans hb2⟩, Nat.le_trans hs1 hk2.size⟩
    · have R : joinF x = x.2.1 := by unfold joinF; rw [if_neg h1]
      rw [R] at RR
      clear R
      gi_wp2_with (gi_at_builtin; refine wpListIn_append_own _ rfl (.tmp 11) (.tmp 17) 22 rfl w.heap.size 3 i0 (.int .i64 0) 1 8 Try.underlying22 hi hz0 hz1 hz2 rfl (by decide) _ _ _ rfl (hrow.alloc _) ⟨W.heap.size, 0, none⟩ 1 1 [.int .i64 (x.2.1)] rfl rfl (cell_one_new _ _ _) (by simp [Value.oneCell']) (by unfold maxLen; omega) (by omega) (by have := hB1.size; simp; omega) ?_; intro v' w1 hown' hgrow _; obtain ⟨g', cap', rfl⟩ := ownsRow_succ hown'; obtain ⟨hv1, hv2, hr2, hk2, hb2⟩ := hv.appended (by decide) hrow hB1.size (Nat.le_refl _) hown' hgrow; have hc1 := hv1.cell; have hf1 := hv1.frozen; have GR := Aside0.mk hgrow; have OW := Aside0.mk hr2; have HV2 := Aside0.mk hv2; clear hown' hgrow hr2 hv1 hv2)
      have bA2 := ((bA1.alloc _).kept GR.out nA).other (B' := w.heap.size) (by omega) (.slice (some ⟨g', 0, none⟩) ((joinW pre).length + 1) cap')
      have bB2 := ((bB1.alloc _).kept GR.out nB).other (B' := w.heap.size) (by omega) (.slice (some ⟨g', 0, none⟩) ((joinW pre).length + 1) cap')
      have ho := OW.out
      rw [show (joinW pre).length + 1 = (joinW (pre ++ [x])).length from by rw [RR.out]; simp] at ho
      rw [show encs (Value.int .i64) (joinW pre) ++ [Value.int .i64 (x.2.1)] = encs (Value.int .i64) (joinW (pre ++ [x])) from by rw [RR.out]; simp [encs]] at ho
      have hv2 := HV2.out
      rw [show (joinW pre).length + 1 = (joinW (pre ++ [x])).length from by rw [RR.out]; simp] at hv2 bA2 bB2 hb2 hk2
      have hsum : ∃ v, Boxed (w1.setCell ⟨w.heap.size, 0, none⟩ (.slice (some ⟨g', 0, none⟩) (joinW (pre ++ [x])).length cap')) w.heap.size 22 v ∧ (w1.setCell ⟨w.heap.size, 0, none⟩ (.slice (some ⟨g', 0, none⟩) (joinW (pre ++ [x])).length cap')).ownsRow w.heap.size 3 1 v (joinW (pre ++ [x])).length (encs (Value.int .i64) (joinW (pre ++ [x]))) := ⟨_, hv2, ho⟩
      rw [show (joinW pre).length + 1 = (joinW (pre ++ [x])).length from by rw [RR.out]; simp]
      first
        | exact ⟨hk2.from _, ⟨hb2, boxed_eq bA1 bA2, boxed_eq bB1 bB2⟩, ⟨⟨hsum, bA2, bB2⟩, hB1.trans hb2⟩, Nat.le_trans hs1 hk2.size⟩
        | exact ⟨hk2.from _, ⟨hb2, boxed_eq bA1 bA2, boxed_eq bB1 bB2⟩, ⟨⟨(let ⟨v, a, b⟩ := hsum; ⟨v, a, b, trivial⟩), bA2, bB2⟩, hB1.trans hb2⟩, Nat.le_trans hs1 hk2.size⟩
  case done =>
    rintro D zs W hD rfl ⟨⟨⟨⟨v, hv, hrow, _⟩, bA1, bB1⟩, hB1⟩, hs1⟩ hK
    have cS := hv.cell
    gi_wp2
    refine ⟨by simp, .inl ⟨_, _, rfl, run_takeDeferred hK, ?_⟩⟩
    refine ⟨_, results_tmp rfl _ _ _, v, rfl, Kd.R_of_own (h1 := fun _ => rfl) (ownsRow_putObj hrow _ hK rfl) (fun _ _ => trivial), hB1.trans (belowK_b (w := w) (Nat.le_refl _) W D _ _ (by omega) hK rfl rfl)⟩
  case stop =>
    rintro D c pre W _ _ h _
    exact h.elim
end
def stamp_Join.f (l0 l1 : List Int) : Option (List Int) := if l0.length ≤ 1000000 ∧ l1.length ≤ 1000000 then some (joinW (upto l0 l1 (lenS l0 l1))) else none
theorem stamp_Join.calls (A0 : Option Addr) (c0 : Nat) (l0 : List Int) (A1 : Option Addr) (c1 : Nat) (l1 : List Int) (r : List Int) (w : World) (hr0 : Kd.C (Kd.int .i64) w A0 l0.length l0) (hc0 : l0.length ≤ c0) (hr1 : Kd.C (Kd.int .i64) w A1 l1.length l1) (hc1 : l1.length ≤ c1) (h : stamp_Join.f l0 l1 = some r) :
    Calls Try.prog 19 #[.slice A0 l0.length c0, .slice A1 l1.length c1] w fun e w' => ∃ v0_ : Value, e = .returned (v0_) ∧ Kd.R (Kd.int .i64) 3 w' w.heap.size (fun _ => True) v0_ r ∧ Below w.heap.size w w' := by
  unfold stamp_Join.f at h
  by_cases hl : l0.length ≤ 1000000 ∧ l1.length ≤ 1000000
  · rw [if_pos hl] at h
    obtain rfl := Option.some.inj h
    exact callsIn_wide.1 (own_Join A0 A1 c0 c1 l0 l1 w hr0 hr1 hl.1 hl.2)
  · rw [if_neg hl] at h; cases h

/-! ### stamp_Check_1: function 30 -/
def stamp_Check_1.f (a0 : Int) : Option (Bool) := if a0 < 0 then (some true) else (some (decide (a0 > 1099511627776)))
set_option maxHeartbeats 8000000 in
set_option maxRecDepth 100000 in
theorem stamp_Check_1.calls (a0 : Int) (r : Bool) (w : World) (h : stamp_Check_1.f a0 = some r) :
    Calls Try.prog 30 #[.int .i64 a0] w fun e w' => e = .returned (.bool r) ∧ Drawn0 w w' := by
  have H : (if a0 < 0 then (some true) else (some (decide (a0 > 1099511627776)))) = some r := h
  clear h
  by_cases c2 : a0 < 0
  · rw [if_pos c2] at H
    have c2b0 : decide (a0 < 0) = true := decide_eq_true c2
    clear c2
    obtain rfl := Option.some.inj H
    go_enter Try.func30, Try.ntmps30
    go_wp2
    go_ret
    exact ⟨by first | rfl | (simp; done) | (simp [*]; done), by repeat (first | exact Drawn0.refl _ | apply Drawn0.step)⟩
  · rw [if_neg c2] at H
    have c2b0 : decide (a0 < 0) = false := decide_eq_false c2
    clear c2
    obtain rfl := Option.some.inj H
    go_enter Try.func30, Try.ntmps30
    go_wp2
    go_ret
    exact ⟨by first | rfl | (simp; done) | (simp [*]; done), by repeat (first | exact Drawn0.refl _ | apply Drawn0.step)⟩

-- NOT PRINTED: function 42 (slices_IndexFunc_int_int)

-- NOT PRINTED: function 31 (slices_ContainsFunc_int_int)

/-! ### stamp_Check: function 12 -/
section
open Go.Shelf
attribute [local go_sem] Oper.semAt_some
def badS (x : Int) : Bool := decide (x < 0) || decide (1099511627776 < x)
theorem own_bad (x : Int) (w : World) : Calls Try.prog 30 #[.int .i64 x] w fun e w' => e = .returned (.bool (badS x)) ∧ w = w' := by
  by_cases h : x < 0
  · have e : badS x = true := by simp [badS, h]
    rw [e]
    have h0 : decide (x < 0) = true := decide_eq_true h
    clear h e
    go_enter Try.func30, Try.ntmps30
    go_wp2
    go_ret
    exact ⟨rfl, rfl⟩
  · by_cases h2 : 1099511627776 < x
    · have e : badS x = true := by simp [badS, h2]
      rw [e]
      have h0 : decide (x < 0) = false := decide_eq_false h
      have h1 : decide (1099511627776 < x) = true := decide_eq_true h2
      clear h h2 e
      go_enter Try.func30, Try.ntmps30
      go_wp2
      go_ret
      exact ⟨rfl, rfl⟩
    · have e : badS x = false := by simp [badS, h2, h]
      rw [e]
      have h0 : decide (x < 0) = false := decide_eq_false h
      have h1 : decide (1099511627776 < x) = false := decide_eq_false h2
      clear h h2 e
      go_enter Try.func30, Try.ntmps30
      go_wp2
      go_ret
      exact ⟨rfl, rfl⟩
def IdxIs (l : List Int) (e : Ending) : Prop := ∃ n : Int, e = .returned (.int .i64 n) ∧ decide (0 ≤ n) = l.any badS
theorem any_none {l : List Int} (h : ∀ j, j < l.length → badS (l.getD j 0) = false) : l.any badS = false := by
  rw [List.any_eq_false]
  intro x hx
  obtain ⟨j, hj, rfl⟩ := List.mem_iff_getElem.1 hx
  have := h j hj
  rw [List.getD_eq_getElem?_getD, List.getElem?_eq_getElem hj] at this
  simpa using this
theorem any_at {l : List Int} {j : Nat} (hj : j < l.length) (h : badS (l.getD j 0) = true) : l.any badS = true := by
  rw [List.any_eq_true]
  rw [List.getD_eq_getElem?_getD, List.getElem?_eq_getElem hj] at h
  exact ⟨l[j], List.getElem_mem hj, by simpa using h⟩
set_option maxHeartbeats 1000000 in
theorem own_Index (A0 : Option Addr) (c0 : Nat) (l0 : List Int) (w : World) (hr0 : Kd.C (Kd.int .i64) w A0 l0.length l0) (hn : l0.length ≤ 1000000) :
    Calls Try.prog 42 #[.slice A0 l0.length c0, .func (.func 30) #[] #[]] w fun e w' => IdxIs l0 e ∧ w = w' := by
  have HR0 := Aside0.mk hr0
  clear hr0
  go_enter Try.func42, Try.ntmps42
  go_wp2
  go_loop [8] (fun i => ∃ k : Nat, k ≤ l0.length ∧ i = .int .i64 k ∧ Aside0 (∀ j, j < k → badS (l0.getD j 0) = false)) (fun i => l0.length - (intOf i).toNat)
  case atStart => exact ⟨0, Nat.zero_le _, rfl, ⟨fun j hj => absurd hj (Nat.not_lt_zero _)⟩⟩
  case round =>
    obtain ⟨k, hk, rfl, hA⟩ := hrel
    by_cases hlt : k < l0.length
    · obtain ⟨ad, e0, hx⟩ := Kd.at_int HR0.out (k : Int) (by omega) (by omega)
      cases e0
      rw [Int.toNat_natCast] at hx
      have hrd : rd l0 (k : Int) = l0.getD k 0 := by unfold rd; simp
      cases hb : badS (rd l0 (k : Int)) with
      | true =>
        have HBT := Aside0.mk hb
        have HRD := Aside0.mk hrd
        clear hrd
        go_wp2_with (go_at_call 30; (with_reducible refine (own_bad _ _).mono ?_); rintro e w' ⟨rfl, rfl⟩)
        go_ret
        exact ⟨⟨_, rfl, by rw [any_at hlt (by rw [← HRD.out]; exact HBT.out)]; simp⟩, rfl⟩
      | false =>
        have HBT := Aside0.mk hb
        have HRD := Aside0.mk hrd
        clear hrd
        go_wp2_with (go_at_call 30; (with_reducible refine (own_bad _ _).mono ?_); rintro e w' ⟨rfl, rfl⟩)
        go_round
        case rel => exact ⟨k + 1, by omega, by go_num, ⟨fun j hj => by
          rcases Nat.lt_or_ge j k with h | h
          · exact hA.out j h
          · obtain rfl : j = k := by omega
            rw [← HRD.out]; exact HBT.out⟩⟩
        case measure => simp [intOf]; omega
    · obtain rfl : k = l0.length := by omega
      go_wp2
      go_ret
      exact ⟨⟨_, rfl, by rw [any_none hA.out]; simp⟩, rfl⟩
theorem own_Contains (A0 : Option Addr) (c0 : Nat) (l0 : List Int) (w : World) (hr0 : Kd.C (Kd.int .i64) w A0 l0.length l0) (hn : l0.length ≤ 1000000) :
    Calls Try.prog 31 #[.slice A0 l0.length c0, .func (.func 30) #[] #[]] w fun e w' => e = .returned (.bool (l0.any badS)) ∧ w = w' := by
  have HR0 := Aside0.mk hr0
  clear hr0
  go_enter Try.func31, Try.ntmps31
  go_wp2_with (go_at_call 42; (with_reducible refine (own_Index _ _ l0 _ HR0.out hn).mono ?_); rintro e w' ⟨⟨n, rfl, hx⟩, rfl⟩; have HX := Aside0.mk hx; clear hx)
  go_ret
  exact ⟨by rw [← HX.out]; rfl, rfl⟩
def chkS (l : List Int) : Bool := decide (l.length < 1) || decide (64 < l.length) || l.any badS
theorem own_Check (A0 : Option Addr) (c0 : Nat) (l0 : List Int) (w : World) (hr0 : Kd.C (Kd.int .i64) w A0 l0.length l0) (hn : l0.length ≤ 1000000) :
    Calls Try.prog 12 #[.slice A0 l0.length c0] w fun e w' => e = .returned (.int .i64 (if chkS l0 = true then 2 else 0)) ∧ w = w' := by
  have HR0 := Aside0.mk hr0
  clear hr0
  by_cases h : l0.length < 1
  · have e : chkS l0 = true := by simp only [chkS, decide_eq_true h, Bool.true_or]
    rw [if_pos e]
    have h0 : decide ((l0.length : Int) < 1) = true := decide_eq_true (by omega)
    clear h e
    go_enter Try.func12, Try.ntmps12
    go_wp2
    go_ret
    exact ⟨rfl, rfl⟩
  · by_cases h2 : 64 < l0.length
    · have e : chkS l0 = true := by simp only [chkS, decide_eq_true h2, Bool.true_or, Bool.or_true]
      rw [if_pos e]
      have h0 : decide ((l0.length : Int) < 1) = false := decide_eq_false (by omega)
      have h1 : decide ((64 : Int) < (l0.length : Int)) = true := decide_eq_true (by omega)
      clear h h2 e
      go_enter Try.func12, Try.ntmps12
      go_wp2
      go_ret
      exact ⟨rfl, rfl⟩
    · have e : chkS l0 = l0.any badS := by simp only [chkS, decide_eq_false h, decide_eq_false h2, Bool.false_or]
      rw [e]
      have h0 : decide ((l0.length : Int) < 1) = false := decide_eq_false (by omega)
      have h1 : decide ((64 : Int) < (l0.length : Int)) = false := decide_eq_false (by omega)
      clear h h2 e
      cases hb : l0.any badS with
      | true =>
        have HB := Aside0.mk hb
        clear hb
        go_enter Try.func12, Try.ntmps12
        go_wp2_with (go_at_call 31; (with_reducible refine (own_Contains _ _ l0 _ HR0.out hn).mono ?_); rw [HB.out]; rintro e w' ⟨rfl, rfl⟩)
        go_ret
        exact ⟨rfl, rfl⟩
      | false =>
        have HB := Aside0.mk hb
        clear hb
        go_enter Try.func12, Try.ntmps12
        go_wp2_with (go_at_call 31; (with_reducible refine (own_Contains _ _ l0 _ HR0.out hn).mono ?_); rw [HB.out]; rintro e w' ⟨rfl, rfl⟩)
        go_ret
        exact ⟨rfl, rfl⟩
end
def stamp_Check.f (l0 : List Int) : Option Int := if l0.length ≤ 1000000 then some (if chkS l0 = true then 2 else 0) else none
theorem stamp_Check.calls (A0 : Option Addr) (c0 : Nat) (l0 : List Int) (r : Int) (w : World) (hr0 : Kd.C (Kd.int .i64) w A0 l0.length l0) (hc0 : l0.length ≤ c0) (h : stamp_Check.f l0 = some r) :
    Calls Try.prog 12 #[.slice A0 l0.length c0] w fun e w' => e = .returned (.int .i64 r) ∧ Drawn0 w w' := by
  unfold stamp_Check.f at h
  by_cases hl : l0.length ≤ 1000000
  · rw [if_pos hl] at h
    obtain rfl := Option.some.inj h
    refine (own_Check A0 c0 l0 w hr0 hl).mono ?_
    rintro e w' ⟨rfl, rfl⟩
    exact ⟨rfl, Drawn0.refl _⟩
  · rw [if_neg hl] at h; cases h

/-! ### slices_Clone_int_int: function 35 -/
section
open Go.Shelf
attribute [local go_sem] Oper.semAt_some
theorem own_Clone (A0 : Option Addr) (c0 : Nat) (l0 : List Int) (w : World) (hr0 : Kd.C (Kd.int .i64) w A0 l0.length l0) (hc0 : l0.length ≤ c0) (hn : l0.length < 17592186044416) :
    Calls Try.prog 35 #[.slice A0 l0.length c0] w fun e w' => ∃ v0_ : Value, e = .returned v0_ ∧ Kd.R (Kd.int .i64) 3 w' w.heap.size (fun _ => True) v0_ l0 ∧ Below w.heap.size w w' := by
  have qT : ∀ (w : World) (a : Option Addr) (n c n' c' : Nat), (binOp .eql 22 (.slice a n c) (.slice none n' c')).run Try.prog w = .ok (.bool a.isNone) w := fun w a n c n' c' => Lib.run_eql_slice_nil w _ _ a n c n' c' Try.underlying22
  have HR0 := Aside0.mk hr0
  clear hr0
  cases A0 with
  | none =>
    have hl : l0 = [] := by
      rcases Nat.eq_zero_or_pos l0.length with h | h
      · exact List.length_eq_zero_iff.1 h
      · obtain ⟨ad, e, _⟩ := Kd.at_int HR0.out 0 (by omega) (by omega)
        cases e
    subst hl
    go_enter Try.func35, Try.ntmps35
    go_wp2
    go_ret
    exact ⟨_, rfl, Kd.R_nil _ _ _ _ _, Below.refl _ _⟩
  | some ad =>
    have HB := Aside0.mk (Below.refl w.heap.size w)
    go_enter Try.func35, Try.ntmps35
    go_wp2_with (first | ((with_reducible refine gate_dst (N := 5) rfl ?_); (try (refine gate_guard (by rfl) ?_; dsimp only)); refine Kd.R_lit (Kd.int .i64) _ 3 ?hg (N := 5) ?hd (xs := ([] : List Int)) (inner := []) (ok := fun _ => True) (okp := fun _ => True) ?hr ?hp (fun _ hk => hk) trivial (Below.refl _ _) (Nat.le_refl _) (by simp) ?_; (case hd => rfl); (case hg => rfl); (case hr => first | (go_simp; done) | (go_simp; rfl)); (case hp => exact (Reps.none _ _)); intro v112 w13 ho14 hb hg_ hnew_; clear hg_ hnew_; have n0_ := Aside0.mk (Kd.R_lower ho14 (below_size (by repeat (first | (with_reducible first | exact HB.out | apply below_alloc | apply pw_below_drewN | apply below_drew1) | exact HB.out)))); have n1_ := Aside0.mk (below_step (by repeat (first | (with_reducible first | exact HB.out | apply below_alloc | apply pw_below_drewN | apply below_drew1) | exact HB.out)) hb); clear HB; have HO113 := n0_; have HB := n1_; clear n0_ n1_; clear hb ho14) | ((with_reducible refine gate_builtin (b := .append) (xs := #[.tmp 5, .tmp 6]) rfl ?_); (try (refine gate_guard (by rfl) ?_; dsimp only)); at_builtin; refine Kd.R_append_rows (Kd.int .i64) (w0 := w) w.heap.size rfl (.tmp 5) (.tmp 6) 22 3 (.int .i64 0) 8 rfl Try.underlying22 info3 rfl (by decide) (by omega) v112 ([] : List Int) l0 _ _ _ (fun _ => True) (fun _ => False) rfl rfl ?aO ?aR (fun _ _ h => h) (fun _ h => h.elim) ?aF ?aB ?aS ?aL ?_; (case aR => repeat (first | exact (Kd.C_below HR0.out HB.out) | (with_reducible refine Kd.C_alloc ?_ _) | (with_reducible refine Kd.C_drewN ?_ _) | (with_reducible refine Kd.C_drew ?_))); (case aB => exact (by repeat (first | (with_reducible first | exact HB.out | apply below_alloc | apply pw_below_drewN | apply below_drew1) | exact HB.out))); (case aF => exact (fun _ _ => trivial)); (case aO => exact (by (with_reducible repeat (first | apply Kd.R_alloc | apply Kd.R_drewN | apply Kd.R_drew)); exact HO113.out)); (case aS => exact (below_size (by repeat (first | (with_reducible first | exact HB.out | apply below_alloc | apply pw_below_drewN | apply below_drew1) | exact HB.out)))); (case aL => simp only [List.length_nil]; omega); intro v115 w15 ho hb hg hat; have n0_ := Aside0.mk (hb); have n1_ := Aside0.mk (ho); clear HB; clear HO113; have HB := n0_; have HO116 := n1_; clear n0_ n1_; clear ho hb hg hat))
    go_ret
    exact ⟨_, rfl, by simpa using HO116.out, HB.out⟩
end
def slices_Clone_int_int.f (l0 : List Int) : Option (List Int) := if l0.length < 17592186044416 then some l0 else none
theorem slices_Clone_int_int.calls (A0 : Option Addr) (c0 : Nat) (l0 : List Int) (r : List Int) (w : World) (hr0 : Kd.C (Kd.int .i64) w A0 l0.length l0) (hc0 : l0.length ≤ c0) (h : slices_Clone_int_int.f l0 = some r) :
    Calls Try.prog 35 #[.slice A0 l0.length c0] w fun e w' => ∃ v0_ : Value, e = .returned (v0_) ∧ Kd.R (Kd.int .i64) 3 w' w.heap.size (fun _ => True) v0_ r ∧ Below w.heap.size w w' := by
  unfold slices_Clone_int_int.f at h
  by_cases hl : l0.length < 17592186044416
  · rw [if_pos hl] at h
    obtain rfl := Option.some.inj h
    exact own_Clone A0 c0 l0 w hr0 hc0 hl
  · rw [if_neg hl] at h; cases h

/-! ### stamp_Tick: function 21 -/
def stamp_Tick.f (l0 : List Int) (a1 : Int) : Option (List Int × Int) := (stamp_Check.f l0).bind fun t103 => (if t103 = 0 then (if a1 < 0 then (some (([] : List Int), 2)) else (if a1 ≥ (l0.length : Int) then (some (([] : List Int), 2)) else (if 0 ≤ a1 then (if a1 < (l0.length : Int) then (if (rd l0 a1) = 1099511627776 then (some (([] : List Int), 2)) else ((slices_Clone_int_int.f l0).bind fun t105 => (if a1 < (t105.length : Int) then (some ((t105.set (a1 : Int).toNat (wrap64 ((rd t105 a1) + 1))), 0)) else (none)))) else (none)) else (none)))) else (some (([] : List Int), 2)))
set_option maxHeartbeats 8000000 in
set_option maxRecDepth 100000 in
theorem stamp_Tick.calls (A0 : Option Addr) (c0 : Nat) (l0 : List Int) (a1 : Int) (r1 : List Int) (r2 : Int) (w : World) (hr0 : Kd.C (Kd.int .i64) w A0 l0.length l0) (hc0 : l0.length ≤ c0) (h : stamp_Tick.f l0 a1 = some (r1, r2)) :
    Calls Try.prog 21 #[.slice A0 l0.length c0, .int .i64 a1] w fun e w' => ∃ v0_ : Value, e = .returned (.tuple #[v0_, .int .i64 r2]) ∧ Kd.R (Kd.int .i64) 3 w' w.heap.size (fun _ => True) v0_ r1 ∧ Below w.heap.size w w' := by
  have HR0 := Aside0.mk hr0
  have HC0 := Aside0.mk hc0
  clear hr0 hc0
  have HB := Aside0.mk (Below.refl w.heap.size w)
  have H : ((stamp_Check.f l0).bind fun t103 => (if t103 = 0 then (if a1 < 0 then (some (([] : List Int), 2)) else (if a1 ≥ (l0.length : Int) then (some (([] : List Int), 2)) else (if 0 ≤ a1 then (if a1 < (l0.length : Int) then (if (rd l0 a1) = 1099511627776 then (some (([] : List Int), 2)) else ((slices_Clone_int_int.f l0).bind fun t105 => (if a1 < (t105.length : Int) then (some ((t105.set (a1 : Int).toNat (wrap64 ((rd t105 a1) + 1))), 0)) else (none)))) else (none)) else (none)))) else (some (([] : List Int), 2)))) = some (r1, r2) := h
  clear h
  replace H := Option.bind_eq_some_iff.mp H
  obtain ⟨t103, A30, H⟩ := H
  replace H : (if t103 = 0 then (if a1 < 0 then (some (([] : List Int), 2)) else (if a1 ≥ (l0.length : Int) then (some (([] : List Int), 2)) else (if 0 ≤ a1 then (if a1 < (l0.length : Int) then (if (rd l0 a1) = 1099511627776 then (some (([] : List Int), 2)) else ((slices_Clone_int_int.f l0).bind fun t105 => (if a1 < (t105.length : Int) then (some ((t105.set (a1 : Int).toNat (wrap64 ((rd t105 a1) + 1))), 0)) else (none)))) else (none)) else (none)))) else (some (([] : List Int), 2))) = some (r1, r2) := H
  have A3 := Aside0.mk A30
  clear A30
  by_cases c4 : t103 = 0
  · rw [if_pos c4] at H
    have c4b0 : (t103 == 0) = true := beq_iff_eq.mpr c4
    have c4b1 : (t103 != 0) = false := bne_eq_false_iff_eq.mpr c4
    clear c4
    by_cases c5 : a1 < 0
    · rw [if_pos c5] at H
      have c5b0 : decide (a1 < 0) = true := decide_eq_true c5
      clear c5
      simp only [Option.some.injEq, Prod.mk.injEq] at H
      obtain ⟨rfl, rfl⟩ := H
      go_enter Try.func21, Try.ntmps21
      go_wp2_with (first | ((with_reducible refine gate_callee (f := 12) rfl ?_); refine goesL_ (some 8) rfl rfl Try.func12 (by kernel_rfl) rfl #[.slice A0 l0.length c0] rfl (by (try simp only [List.map_toArray, List.map_cons, List.map_nil]); first | done | rfl | (simp only [List.length_drop, List.length_take]; rfl)) ?_; (with_reducible refine (stamp_Check.calls _ _ l0 t103 _ ?side1 ?side2 A3.out).mono ?_); (case side1 => repeat (first | exact HR0.out | (with_reducible refine Kd.C_alloc ?_ _) | (with_reducible refine Kd.C_drewN ?_ _) | (with_reducible refine Kd.C_drew ?_))); (case side2 => exact HC0.out); rintro e w' ⟨rfl, ⟨nd, rfl⟩⟩; refine ⟨_, rfl, ?_⟩))
      go_ret2
      exact ⟨_, by first | rfl | (simp [errW_none, errW_some] <;> rfl) | (simp [*, errW_none, errW_some] <;> rfl), by first | exact Kd.R_nil _ _ _ _ _ | exact Kd.N_nil _ _ _ _ _ | exact Kd.V_nil _ _ _ _ _ | exact Kd.Q_nil _ _ _ _ _ | exact Kd.S_nil _ _ _ _ _, by repeat (first | (with_reducible first | exact HB.out | apply below_alloc | apply pw_below_drewN | apply below_drew1) | exact HB.out)⟩
    · rw [if_neg c5] at H
      have c5b0 : decide (a1 < 0) = false := decide_eq_false c5
      clear c5
      by_cases c6 : a1 ≥ (l0.length : Int)
      · rw [if_pos c6] at H
        have c6b0 : decide ((l0.length : Int) ≤ a1) = true := decide_eq_true c6
        clear c6
        simp only [Option.some.injEq, Prod.mk.injEq] at H
        obtain ⟨rfl, rfl⟩ := H
        go_enter Try.func21, Try.ntmps21
        go_wp2_with (first | ((with_reducible refine gate_callee (f := 12) rfl ?_); refine goesL_ (some 8) rfl rfl Try.func12 (by kernel_rfl) rfl #[.slice A0 l0.length c0] rfl (by (try simp only [List.map_toArray, List.map_cons, List.map_nil]); first | done | rfl | (simp only [List.length_drop, List.length_take]; rfl)) ?_; (with_reducible refine (stamp_Check.calls _ _ l0 t103 _ ?side1 ?side2 A3.out).mono ?_); (case side1 => repeat (first | exact HR0.out | (with_reducible refine Kd.C_alloc ?_ _) | (with_reducible refine Kd.C_drewN ?_ _) | (with_reducible refine Kd.C_drew ?_))); (case side2 => exact HC0.out); rintro e w' ⟨rfl, ⟨nd, rfl⟩⟩; refine ⟨_, rfl, ?_⟩))
        go_ret2
        exact ⟨_, by first | rfl | (simp [errW_none, errW_some] <;> rfl) | (simp [*, errW_none, errW_some] <;> rfl), by first | exact Kd.R_nil _ _ _ _ _ | exact Kd.N_nil _ _ _ _ _ | exact Kd.V_nil _ _ _ _ _ | exact Kd.Q_nil _ _ _ _ _ | exact Kd.S_nil _ _ _ _ _, by repeat (first | (with_reducible first | exact HB.out | apply below_alloc | apply pw_below_drewN | apply below_drew1) | exact HB.out)⟩
      · rw [if_neg c6] at H
        have c6b0 : decide ((l0.length : Int) ≤ a1) = false := decide_eq_false c6
        clear c6
        by_cases c7 : 0 ≤ a1
        · rw [if_pos c7] at H
          have c7b0 : decide (0 ≤ a1) = true := decide_eq_true c7
          clear c7
          by_cases c8 : a1 < (l0.length : Int)
          · rw [if_pos c8] at H
            have c8b0 : decide (a1 < (l0.length : Int)) = true := decide_eq_true c8
            clear c8
            by_cases c9 : (rd l0 a1) = 1099511627776
            · rw [if_pos c9] at H
              have c9b0 : ((rd l0 a1) == 1099511627776) = true := beq_iff_eq.mpr c9
              have c9b1 : ((rd l0 a1) != 1099511627776) = false := bne_eq_false_iff_eq.mpr c9
              clear c9
              simp only [Option.some.injEq, Prod.mk.injEq] at H
              obtain ⟨rfl, rfl⟩ := H
              go_enter Try.func21, Try.ntmps21
              go_wp2_with (first | ((with_reducible refine gate_callee (f := 12) rfl ?_); refine goesL_ (some 8) rfl rfl Try.func12 (by kernel_rfl) rfl #[.slice A0 l0.length c0] rfl (by (try simp only [List.map_toArray, List.map_cons, List.map_nil]); first | done | rfl | (simp only [List.length_drop, List.length_take]; rfl)) ?_; (with_reducible refine (stamp_Check.calls _ _ l0 t103 _ ?side1 ?side2 A3.out).mono ?_); (case side1 => repeat (first | exact HR0.out | (with_reducible refine Kd.C_alloc ?_ _) | (with_reducible refine Kd.C_drewN ?_ _) | (with_reducible refine Kd.C_drew ?_))); (case side2 => exact HC0.out); rintro e w' ⟨rfl, ⟨nd, rfl⟩⟩; refine ⟨_, rfl, ?_⟩; have p104 : 0 ≤ (a1 : Int) := of_decide_eq_true (by first | (with_reducible assumption) | assumption); have q104 : a1 < (l0.length : Int) := of_decide_eq_true (by first | (with_reducible assumption) | assumption); obtain ⟨ad104, e104, hx104_0⟩ := Kd.at_int HR0.out a1 p104 q104; cases e104; replace p104 := eq_true p104; replace q104 := eq_true q104))
              go_ret2
              exact ⟨_, by first | rfl | (simp [errW_none, errW_some] <;> rfl) | (simp [*, errW_none, errW_some] <;> rfl), by first | exact Kd.R_nil _ _ _ _ _ | exact Kd.N_nil _ _ _ _ _ | exact Kd.V_nil _ _ _ _ _ | exact Kd.Q_nil _ _ _ _ _ | exact Kd.S_nil _ _ _ _ _, by repeat (first | (with_reducible first | exact HB.out | apply below_alloc | apply pw_below_drewN | apply below_drew1) | exact HB.out)⟩
            · rw [if_neg c9] at H
              have c9b0 : ((rd l0 a1) == 1099511627776) = false := beq_eq_false_iff_ne.mpr c9
              have c9b1 : ((rd l0 a1) != 1099511627776) = true := bne_iff_ne.mpr c9
              replace H := Option.bind_eq_some_iff.mp H
              obtain ⟨t105, A100, H⟩ := H
              replace H : (if a1 < (t105.length : Int) then (some ((t105.set (a1 : Int).toNat (wrap64 ((rd t105 a1) + 1))), 0)) else (none)) = some (r1, r2) := H
              have A10 := Aside0.mk A100
              clear A100
              by_cases c11 : a1 < (t105.length : Int)
              · rw [if_pos c11] at H
                have c11b0 : decide (a1 < (t105.length : Int)) = true := decide_eq_true c11
                clear c11
                obtain ⟨y109, hy109⟩ : ∃ y_ : List Int, y_ = (t105.set (a1 : Int).toNat (wrap64 ((rd t105 a1) + 1))) := ⟨_, rfl⟩
                replace H : (some (y109, 0)) = some (r1, r2) := by first | (rw [hy109]; with_reducible exact H) | (have H2_ := (Option.bind_some _ _).symm.trans H; rw [hy109]; with_reducible exact H2_) | (have H2_ := (Option.bind_some _ _).symm.trans H; with_reducible exact H2_) | with_reducible exact H | (rw [hy109]; exact H) | exact H
                have Ny109 := Aside0.mk hy109
                clear hy109
                simp only [Option.some.injEq, Prod.mk.injEq] at H
                obtain ⟨rfl, rfl⟩ := H
                go_enter Try.func21, Try.ntmps21
                go_wp2_with (first | ((with_reducible refine gate_callee (f := 12) rfl ?_); refine goesL_ (some 8) rfl rfl Try.func12 (by kernel_rfl) rfl #[.slice A0 l0.length c0] rfl (by (try simp only [List.map_toArray, List.map_cons, List.map_nil]); first | done | rfl | (simp only [List.length_drop, List.length_take]; rfl)) ?_; (with_reducible refine (stamp_Check.calls _ _ l0 t103 _ ?side1 ?side2 A3.out).mono ?_); (case side1 => repeat (first | exact HR0.out | (with_reducible refine Kd.C_alloc ?_ _) | (with_reducible refine Kd.C_drewN ?_ _) | (with_reducible refine Kd.C_drew ?_))); (case side2 => exact HC0.out); rintro e w' ⟨rfl, ⟨nd, rfl⟩⟩; refine ⟨_, rfl, ?_⟩; have p104 : 0 ≤ (a1 : Int) := of_decide_eq_true (by first | (with_reducible assumption) | assumption); have q104 : a1 < (l0.length : Int) := of_decide_eq_true (by first | (with_reducible assumption) | assumption); obtain ⟨ad104, e104, hx104_0⟩ := Kd.at_int HR0.out a1 p104 q104; cases e104; replace p104 := eq_true p104; replace q104 := eq_true q104) | ((with_reducible refine gate_callee (f := 35) rfl ?_); refine goesL_ (some 28) rfl rfl Try.func35 (by kernel_rfl) rfl #[.slice (some ad104) l0.length c0] rfl (by (try simp only [List.map_toArray, List.map_cons, List.map_nil]); first | done | rfl | (simp only [List.length_drop, List.length_take]; rfl)) ?_; (with_reducible refine (slices_Clone_int_int.calls _ _ l0 t105 _ ?side1 ?side2 A10.out).mono ?_); (case side1 => repeat (first | exact HR0.out | (with_reducible refine Kd.C_alloc ?_ _) | (with_reducible refine Kd.C_drewN ?_ _) | (with_reducible refine Kd.C_drew ?_))); (case side2 => exact HC0.out); rintro e w13 ⟨v106, rfl, ho0, hb⟩; refine ⟨_, rfl, ?_⟩; have n0_ := Aside0.mk (Kd.R_lower ho0 (below_size (by repeat (first | (with_reducible first | exact HB.out | apply below_alloc | apply pw_below_drewN | apply below_drew1) | exact HB.out)))); have n1_ := Aside0.mk (below_step (by repeat (first | (with_reducible first | exact HB.out | apply below_alloc | apply pw_below_drewN | apply below_drew1) | exact HB.out)) hb); clear HB; have HO107 := n0_; have HB := n1_; clear n0_ n1_; (try clear hb); (try clear hb2); (try clear hk); (try clear hi); (try clear ho0); obtain ⟨Ao14, co14, eo14⟩ := Kd.R_slice HO107.out; subst eo14; have p108 : 0 ≤ (a1 : Int) := of_decide_eq_true (by first | (with_reducible assumption) | assumption); have q108 : a1 < (t105.length : Int) := of_decide_eq_true (by first | (with_reducible assumption) | assumption); obtain ⟨ad108, e108, hx108_0⟩ := Kd.at_int (Kd.R_reads' HO107.out).2.2 a1 p108 q108; cases e108; replace p108 := eq_true p108; replace q108 := eq_true q108; have p12 : 0 ≤ (a1 : Int) := of_decide_eq_true (by first | (with_reducible assumption) | assumption); have q12 : (a1 : Int) < ((t105.length : Int) : Int) := of_decide_eq_true (by first | (with_reducible assumption) | assumption); obtain ⟨go12, co12, eo12, gb12, gl12, cl12, HG12⟩ := Kd.R_form HO107.out (by omega); (first | cases eo12 | (injection eo12 with ea_ en_ ec_; (first | subst ea_ | (injection ea_ with ea_; subst ea_)); subst ec_; clear en_)); have GB12 := Aside0.mk gb12; have GG12 := Aside0.mk HG12; clear gb12 gl12 HG12; (first | simp only [add_plain] at hx108_0 | skip); obtain ⟨hx12_0, hf12_0⟩ := Kd.R_celln 0 HO107.out (a1 : Int) p12 q12; replace p12 := eq_true p12; replace q12 := eq_true q12; obtain ⟨hy15_, hz15_⟩ := Kd.R_celln 0 HO107.out (a1 : Int) (of_decide_eq_true (by first | (with_reducible assumption) | assumption)) (of_decide_eq_true (by first | (with_reducible assumption) | assumption)); have HP15 := Kd.R_putg HO107.out (a1 : Int) (wrap64 ((rd t105 a1) + 1))) | ((with_reducible refine gate_store (t := 3) (p := 34) rfl ?_); refine store_event (t := 3) (p := 34) (v := ?vo_w16) (w1 := (w13.setCell ⟨go12, (a1 : Int).toNat, none⟩ (.int .i64 (wrap64 ((rd t105 a1) + 1))))) ?hg ?ho ?hn ?hr ?_; (case ho => rfl); (case hg => rfl); (case hn => rfl); (case hr => first | (go_simp; done) | (go_simp; rfl)); intro w16 hw; have hg : w13.grownBy w16 (some go12) := (by rw [hw]; exact HP15.2); have hp_ : Kd.R (Kd.int .i64) 3 w16 w.heap.size (fun _ => True) (.slice (some ⟨go12, 0, none⟩) t105.length co14) y109 := (by rw [hw, Ny109.out]; exact HP15.1); clear HP15; have n0_ := Aside0.mk (hp_); have n1_ := Aside0.mk ((by rw [hw]; exact below_set (HB.out) GB12.out : Below w.heap.size w w16)); clear HO107; clear HB; have HO107 := n0_; have HB := n1_; clear n0_ n1_; clear hg hw hp_))
                go_ret2
                exact ⟨_, by first | rfl | (simp [errW_none, errW_some] <;> rfl) | (simp [*, errW_none, errW_some] <;> rfl), by (with_reducible repeat (first | apply Kd.R_alloc | apply Kd.R_drewN | apply Kd.R_drew)); exact HO107.out, by repeat (first | (with_reducible first | exact HB.out | apply below_alloc | apply pw_below_drewN | apply below_drew1) | exact HB.out)⟩
              · rw [if_neg c11] at H
                exact absurd H (by simp)
          · rw [if_neg c8] at H
            exact absurd H (by simp)
        · rw [if_neg c7] at H
          exact absurd H (by simp)
  · rw [if_neg c4] at H
    have c4b0 : (t103 == 0) = false := beq_eq_false_iff_ne.mpr c4
    have c4b1 : (t103 != 0) = true := bne_iff_ne.mpr c4
    simp only [Option.some.injEq, Prod.mk.injEq] at H
    obtain ⟨rfl, rfl⟩ := H
    go_enter Try.func21, Try.ntmps21
    go_wp2_with (first | ((with_reducible refine gate_callee (f := 12) rfl ?_); refine goesL_ (some 8) rfl rfl Try.func12 (by kernel_rfl) rfl #[.slice A0 l0.length c0] rfl (by (try simp only [List.map_toArray, List.map_cons, List.map_nil]); first | done | rfl | (simp only [List.length_drop, List.length_take]; rfl)) ?_; (with_reducible refine (stamp_Check.calls _ _ l0 t103 _ ?side1 ?side2 A3.out).mono ?_); (case side1 => repeat (first | exact HR0.out | (with_reducible refine Kd.C_alloc ?_ _) | (with_reducible refine Kd.C_drewN ?_ _) | (with_reducible refine Kd.C_drew ?_))); (case side2 => exact HC0.out); rintro e w' ⟨rfl, ⟨nd, rfl⟩⟩; refine ⟨_, rfl, ?_⟩))
    go_ret2
    exact ⟨_, by first | rfl | (simp [errW_none, errW_some] <;> rfl) | (simp [*, errW_none, errW_some] <;> rfl), by first | exact Kd.R_nil _ _ _ _ _ | exact Kd.N_nil _ _ _ _ _ | exact Kd.V_nil _ _ _ _ _ | exact Kd.Q_nil _ _ _ _ _ | exact Kd.S_nil _ _ _ _ _, by repeat (first | (with_reducible first | exact HB.out | apply below_alloc | apply pw_below_drewN | apply below_drew1) | exact HB.out)⟩

end Go.Proofs.Ytklblahjihjlpaa.PStampLeast
