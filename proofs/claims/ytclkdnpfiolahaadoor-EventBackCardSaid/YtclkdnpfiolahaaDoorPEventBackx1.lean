-- Written by a patched print (wip/mkprint.py), for this claim.
import Derived.Test.YtclkdnpfiolahaaDoorPEventBackx0
namespace Go.Proofs.YtclkdnpfiolahaaDoor.PEventBack
open Go.RowKit Go.Proofs.YtclkdnpfiolahaaDoorW.PrintWords Go.Proofs.YtclkdnpfiolahaaDoorW.PrintLast Go.Proofs.YtclkdnpfiolahaaDoorW.PrintMore
attribute [local go_sem] max2_int min2_int max_two min_two max_three min_three max_four min_four   -- for this text's walks alone
set_option linter.unusedVariables false
set_option linter.unusedSimpArgs false

/-! ### stamp_Check_1: function 50 -/
def stamp_Check_1.f (a0 : Int) : Option (Bool) := if a0 < 0 then (some true) else (some (decide (a0 > 1099511627776)))
set_option maxHeartbeats 8000000 in
set_option maxRecDepth 100000 in
theorem stamp_Check_1.calls (a0 : Int) (r : Bool) (w : World) (h : stamp_Check_1.f a0 = some r) :
    Calls Tryd.prog 50 #[.int .i64 a0] w fun e w' => e = .returned (.bool r) ∧ Drawn0 w w' := by
  have H : (if a0 < 0 then (some true) else (some (decide (a0 > 1099511627776)))) = some r := h
  clear h
  by_cases c2 : a0 < 0
  · rw [if_pos c2] at H
    have c2b0 : decide (a0 < 0) = true := decide_eq_true c2
    clear c2
    obtain rfl := Option.some.inj H
    go_enter Tryd.func50, Tryd.ntmps50
    go_wp2
    go_ret
    exact ⟨by first | rfl | (simp; done) | (simp [*]; done), by repeat (first | exact Drawn0.refl _ | apply Drawn0.step)⟩
  · rw [if_neg c2] at H
    have c2b0 : decide (a0 < 0) = false := decide_eq_false c2
    clear c2
    obtain rfl := Option.some.inj H
    go_enter Tryd.func50, Tryd.ntmps50
    go_wp2
    go_ret
    exact ⟨by first | rfl | (simp; done) | (simp [*]; done), by repeat (first | exact Drawn0.refl _ | apply Drawn0.step)⟩

-- NOT PRINTED: function 56 (slices_IndexFunc_int_int)

-- NOT PRINTED: function 51 (slices_ContainsFunc_int_int)

/-! ### stamp_Check: function 35 -/
section
open Go.Shelf
attribute [local go_sem] Oper.semAt_some
def badS (x : Int) : Bool := decide (x < 0) || decide (1099511627776 < x)
theorem own_bad (x : Int) (w : World) : Calls Tryd.prog 50 #[.int .i64 x] w fun e w' => e = .returned (.bool (badS x)) ∧ w = w' := by
  by_cases h : x < 0
  · have e : badS x = true := by simp [badS, h]
    rw [e]
    have h0 : decide (x < 0) = true := decide_eq_true h
    clear h e
    go_enter Tryd.func50, Tryd.ntmps50
    go_wp2
    go_ret
    exact ⟨rfl, rfl⟩
  · by_cases h2 : 1099511627776 < x
    · have e : badS x = true := by simp [badS, h2]
      rw [e]
      have h0 : decide (x < 0) = false := decide_eq_false h
      have h1 : decide (1099511627776 < x) = true := decide_eq_true h2
      clear h h2 e
      go_enter Tryd.func50, Tryd.ntmps50
      go_wp2
      go_ret
      exact ⟨rfl, rfl⟩
    · have e : badS x = false := by simp [badS, h2, h]
      rw [e]
      have h0 : decide (x < 0) = false := decide_eq_false h
      have h1 : decide (1099511627776 < x) = false := decide_eq_false h2
      clear h h2 e
      go_enter Tryd.func50, Tryd.ntmps50
      go_wp2
      go_ret
      exact ⟨rfl, rfl⟩
def IdxIs (l : List Int) (e : Ending) : Prop := ∃ n : Int, e = .returned (.int .i64 n) ∧ decide (0 ≤ n) = l.any badS
theorem any_none {l : List Int} (h : ∀ j, j < l.length → badS (l.getD j 0) = false) : l.any badS = false := by
  rw [List.any_eq_false]
  intro x hx
  obtain ⟨j, hj, rfl⟩ := List.mem_iff_getElem.1 hx
  have := h j hj
  rw [List.getD_eq_getElem?_getD, List.getElem?_eq_getElem hj] at this
  simpa using this
theorem any_at {l : List Int} {j : Nat} (hj : j < l.length) (h : badS (l.getD j 0) = true) : l.any badS = true := by
  rw [List.any_eq_true]
  rw [List.getD_eq_getElem?_getD, List.getElem?_eq_getElem hj] at h
  exact ⟨l[j], List.getElem_mem hj, by simpa using h⟩
set_option maxHeartbeats 1000000 in
theorem own_Index (A0 : Option Addr) (c0 : Nat) (l0 : List Int) (w : World) (hr0 : Kd.C (Kd.int .i64) w A0 l0.length l0) (hn : l0.length ≤ 1000000) :
    Calls Tryd.prog 56 #[.slice A0 l0.length c0, .func (.func 50) #[] #[]] w fun e w' => IdxIs l0 e ∧ w = w' := by
  have HR0 := Aside0.mk hr0
  clear hr0
  go_enter Tryd.func56, Tryd.ntmps56
  go_wp2
  go_loop [8] (fun i => ∃ k : Nat, k ≤ l0.length ∧ i = .int .i64 k ∧ Aside0 (∀ j, j < k → badS (l0.getD j 0) = false)) (fun i => l0.length - (intOf i).toNat)
  case atStart => exact ⟨0, Nat.zero_le _, rfl, ⟨fun j hj => absurd hj (Nat.not_lt_zero _)⟩⟩
  case round =>
    obtain ⟨k, hk, rfl, hA⟩ := hrel
    by_cases hlt : k < l0.length
    · obtain ⟨ad, e0, hx⟩ := Kd.at_int HR0.out (k : Int) (by omega) (by omega)
      cases e0
      rw [Int.toNat_natCast] at hx
      have hrd : rd l0 (k : Int) = l0.getD k 0 := by unfold rd; simp
      cases hb : badS (rd l0 (k : Int)) with
      | true =>
        have HBT := Aside0.mk hb
        have HRD := Aside0.mk hrd
        clear hrd
        go_wp2_with (go_at_call 50; (with_reducible refine (own_bad _ _).mono ?_); rintro e w' ⟨rfl, rfl⟩)
        go_ret
        exact ⟨⟨_, rfl, by rw [any_at hlt (by rw [← HRD.out]; exact HBT.out)]; simp⟩, rfl⟩
      | false =>
        have HBT := Aside0.mk hb
        have HRD := Aside0.mk hrd
        clear hrd
        go_wp2_with (go_at_call 50; (with_reducible refine (own_bad _ _).mono ?_); rintro e w' ⟨rfl, rfl⟩)
        go_round
        case rel => exact ⟨k + 1, by omega, by go_num, ⟨fun j hj => by
          rcases Nat.lt_or_ge j k with h | h
          · exact hA.out j h
          · obtain rfl : j = k := by omega
            rw [← HRD.out]; exact HBT.out⟩⟩
        case measure => simp [intOf]; omega
    · obtain rfl : k = l0.length := by omega
      go_wp2
      go_ret
      exact ⟨⟨_, rfl, by rw [any_none hA.out]; simp⟩, rfl⟩
theorem own_Contains (A0 : Option Addr) (c0 : Nat) (l0 : List Int) (w : World) (hr0 : Kd.C (Kd.int .i64) w A0 l0.length l0) (hn : l0.length ≤ 1000000) :
    Calls Tryd.prog 51 #[.slice A0 l0.length c0, .func (.func 50) #[] #[]] w fun e w' => e = .returned (.bool (l0.any badS)) ∧ w = w' := by
  have HR0 := Aside0.mk hr0
  clear hr0
  go_enter Tryd.func51, Tryd.ntmps51
  go_wp2_with (go_at_call 56; (with_reducible refine (own_Index _ _ l0 _ HR0.out hn).mono ?_); rintro e w' ⟨⟨n, rfl, hx⟩, rfl⟩; have HX := Aside0.mk hx; clear hx)
  go_ret
  exact ⟨by rw [← HX.out]; rfl, rfl⟩
def chkS (l : List Int) : Bool := decide (l.length < 1) || decide (64 < l.length) || l.any badS
theorem own_Check (A0 : Option Addr) (c0 : Nat) (l0 : List Int) (w : World) (hr0 : Kd.C (Kd.int .i64) w A0 l0.length l0) (hn : l0.length ≤ 1000000) :
    Calls Tryd.prog 35 #[.slice A0 l0.length c0] w fun e w' => e = .returned (.int .i64 (if chkS l0 = true then 2 else 0)) ∧ w = w' := by
  have HR0 := Aside0.mk hr0
  clear hr0
  by_cases h : l0.length < 1
  · have e : chkS l0 = true := by simp only [chkS, decide_eq_true h, Bool.true_or]
    rw [if_pos e]
    have h0 : decide ((l0.length : Int) < 1) = true := decide_eq_true (by omega)
    clear h e
    go_enter Tryd.func35, Tryd.ntmps35
    go_wp2
    go_ret
    exact ⟨rfl, rfl⟩
  · by_cases h2 : 64 < l0.length
    · have e : chkS l0 = true := by simp only [chkS, decide_eq_true h2, Bool.true_or, Bool.or_true]
      rw [if_pos e]
      have h0 : decide ((l0.length : Int) < 1) = false := decide_eq_false (by omega)
      have h1 : decide ((64 : Int) < (l0.length : Int)) = true := decide_eq_true (by omega)
      clear h h2 e
      go_enter Tryd.func35, Tryd.ntmps35
      go_wp2
      go_ret
      exact ⟨rfl, rfl⟩
    · have e : chkS l0 = l0.any badS := by simp only [chkS, decide_eq_false h, decide_eq_false h2, Bool.false_or]
      rw [e]
      have h0 : decide ((l0.length : Int) < 1) = false := decide_eq_false (by omega)
      have h1 : decide ((64 : Int) < (l0.length : Int)) = false := decide_eq_false (by omega)
      clear h h2 e
      cases hb : l0.any badS with
      | true =>
        have HB := Aside0.mk hb
        clear hb
        go_enter Tryd.func35, Tryd.ntmps35
        go_wp2_with (go_at_call 51; (with_reducible refine (own_Contains _ _ l0 _ HR0.out hn).mono ?_); rw [HB.out]; rintro e w' ⟨rfl, rfl⟩)
        go_ret
        exact ⟨rfl, rfl⟩
      | false =>
        have HB := Aside0.mk hb
        clear hb
        go_enter Tryd.func35, Tryd.ntmps35
        go_wp2_with (go_at_call 51; (with_reducible refine (own_Contains _ _ l0 _ HR0.out hn).mono ?_); rw [HB.out]; rintro e w' ⟨rfl, rfl⟩)
        go_ret
        exact ⟨rfl, rfl⟩
end
def stamp_Check.f (l0 : List Int) : Option Int := if l0.length ≤ 1000000 then some (if chkS l0 = true then 2 else 0) else none
theorem stamp_Check.calls (A0 : Option Addr) (c0 : Nat) (l0 : List Int) (r : Int) (w : World) (hr0 : Kd.C (Kd.int .i64) w A0 l0.length l0) (hc0 : l0.length ≤ c0) (h : stamp_Check.f l0 = some r) :
    Calls Tryd.prog 35 #[.slice A0 l0.length c0] w fun e w' => e = .returned (.int .i64 r) ∧ Drawn0 w w' := by
  unfold stamp_Check.f at h
  by_cases hl : l0.length ≤ 1000000
  · rw [if_pos hl] at h
    obtain rfl := Option.some.inj h
    refine (own_Check A0 c0 l0 w hr0 hl).mono ?_
    rintro e w' ⟨rfl, rfl⟩
    exact ⟨rfl, Drawn0.refl _⟩
  · rw [if_neg hl] at h; cases h

/-! ### event_Check: function 14 -/
section
def isStep (k i t : Int) : Prop := (k = 1 ∨ k = 2 ∨ k = 3) ∧ (0 < i ∧ i < 64) ∧ t = 0
def isUndo (k i t : Int) : Prop := (k = 4 ∨ k = 5 ∨ k = 6) ∧ (0 < i ∧ i < 64) ∧ (0 ≤ t ∧ t ≤ 3)
instance (k i t : Int) : Decidable (isStep k i t) := by unfold isStep; infer_instance
instance (k i t : Int) : Decidable (isUndo k i t) := by unfold isUndo; infer_instance
/-- What an event is of: a value of one of three types. -/
def ofV (k i t : Int) : Value := if isStep k i t then .iface 61 (.agg #[.int .i64 i]) else if isUndo k i t then .iface 64 (.agg #[.int .i64 i, .int .i64 t]) else .iface 72 (.agg #[])
set_option maxHeartbeats 8000000 in
set_option maxRecDepth 100000 in
theorem own_of (k i t : Int) (v3 : Value) (h3 : v3.oneCell' = true) (w : World) :
    Calls Tryd.prog 29 #[.agg #[.int .i64 k, .int .i64 i, .int .i64 t, v3]] w fun e w' => e = .returned (ofV k i t) ∧ Below w.heap.size w w' := by
  go_enter Tryd.func29, Tryd.ntmps29
  go_wp2
  all_goals (try simp only [beq_iff_eq, beq_eq_false_iff_ne, ne_eq] at *)
  all_goals go_ret
  all_goals refine ⟨congrArg Ending.returned ?_, by repeat (first | exact Below.refl _ _ | apply below_alloc | apply pw_below_drewN | apply below_drew1)⟩
  all_goals unfold ofV
  all_goals first | (rw [if_pos (by unfold isStep; omega)]; rfl) | (rw [if_neg (by unfold isStep; omega), if_pos (by unfold isUndo; omega)]; rfl) | (rw [if_neg (by unfold isStep; omega), if_neg (by unfold isUndo; omega)]; rfl)
end
theorem heap_newE (w : World) (o : Obj) : (w.alloc o).heap[w.heap.size]? = some o := Array.getElem?_push_size
theorem ta_no {P : Program} {t xT T : TypeId} {fs : Array Field} {v z : Value} {w : World} (hu : P.underlying T = some (.struct fs)) (hne : t ≠ T) (hz : (P.info? T).map (·.zero) = some (some z)) : (Instr.typeAssert (.iface t v) xT T true).run P w = .ok (.tuple #[z, .bool false]) w := by
  obtain ⟨j, hj, hz'⟩ := Option.map_eq_some_iff.1 hz
  simp [Instr.typeAssert, run_underlying hu, zeroValue, typeInfo, hj, hz', hne]
theorem ta_yes {P : Program} {xT T : TypeId} {fs : Array Field} {v : Value} {w : World} (hu : P.underlying T = some (.struct fs)) : (Instr.typeAssert (.iface T v) xT T true).run P w = .ok (.tuple #[v, .bool true]) w := by
  simp [Instr.typeAssert, run_underlying hu]
theorem ta61_72 (v : Value) (w : World) : (Instr.typeAssert (.iface 61 v) 58 72 true).run Tryd.prog w = .ok (.tuple #[.agg #[], .bool false]) w := ta_no Tryd.underlying72 (by decide) (by kernel_rfl)
theorem ta64_72 (v : Value) (w : World) : (Instr.typeAssert (.iface 64 v) 58 72 true).run Tryd.prog w = .ok (.tuple #[.agg #[], .bool false]) w := ta_no Tryd.underlying72 (by decide) (by kernel_rfl)
theorem ta72_72 (v : Value) (w : World) : (Instr.typeAssert (.iface 72 v) 58 72 true).run Tryd.prog w = .ok (.tuple #[v, .bool true]) w := ta_yes Tryd.underlying72
theorem ta61_61 (v : Value) (w : World) : (Instr.typeAssert (.iface 61 v) 58 61 true).run Tryd.prog w = .ok (.tuple #[v, .bool true]) w := ta_yes Tryd.underlying61
theorem ta64_61 (v : Value) (w : World) : (Instr.typeAssert (.iface 64 v) 58 61 true).run Tryd.prog w = .ok (.tuple #[.agg #[.int .i64 0], .bool false]) w := ta_no Tryd.underlying61 (by decide) (by kernel_rfl)
theorem ta64_64 (v : Value) (w : World) : (Instr.typeAssert (.iface 64 v) 58 64 true).run Tryd.prog w = .ok (.tuple #[v, .bool true]) w := ta_yes Tryd.underlying64
theorem ta61_64 (v : Value) (w : World) : (Instr.typeAssert (.iface 61 v) 58 64 true).run Tryd.prog w = .ok (.tuple #[.agg #[.int .i64 0, .int .i64 0], .bool false]) w := ta_no Tryd.underlying64 (by decide) (by kernel_rfl)
section
attribute [local go_sem] ta61_72 ta64_72 ta72_72 ta61_61 ta64_61 ta64_64 ta61_64
theorem own_ofB (k i t : Int) (v3 : Value) (h3 : v3.oneCell' = true) (w : World) {V : Value} (hV : ofV k i t = V) :
    Calls Tryd.prog 29 #[.agg #[.int .i64 k, .int .i64 i, .int .i64 t, v3]] w fun e w' => e = .returned V ∧ Below w.heap.size w w' := hV ▸ own_of k i t v3 h3 w
def event_Check.f (a0_0 a0_1 a0_2 : Int) (l0_3 : List Int) : Option (Int) := if isStep a0_0 a0_1 a0_2 ∨ isUndo a0_0 a0_1 a0_2 then (stamp_Check.f l0_3).bind fun r => some (if r = 0 then 0 else 2) else some 2
set_option maxHeartbeats 8000000 in
set_option maxRecDepth 100000 in
theorem own_Check_step (k i t : Int) (A : Option Addr) (c : Nat) (l : List Int) (r0 : Int) (w : World) (hC : Kd.C (Kd.int .i64) w A l.length l) (hc : l.length ≤ c) (hV : ofV k i t = .iface 61 (.agg #[.int .i64 i])) (h : stamp_Check.f l = some r0) :
    Calls Tryd.prog 14 #[.agg #[.int .i64 k, .int .i64 i, .int .i64 t, .slice A l.length c]] w fun e w' => e = .returned (.int .i64 (if r0 = 0 then 0 else 2)) ∧ Below w.heap.size w w' := by
  have HC := Aside0.mk hC
  have HV := Aside0.mk hV
  have HL := Aside0.mk hc
  clear hC hV hc
  have HH := Aside0.mk h
  clear h
  by_cases hr : r0 = 0
  · subst hr
    rw [if_pos rfl]
    go_enter Tryd.func14, Tryd.ntmps14
    go_wp2_with (first | (go_at_call 29; (with_reducible refine (own_ofB _ _ _ _ rfl _ HV.out).mono ?_); rintro e w1 ⟨rfl, hb⟩; have hbx := (hb.block w.heap.size (by simp)).trans (heap_newE w (.cells _ 27)); have kb0 := blk_cell hbx 0; have kb1 := blk_cell hbx 1; have kb2 := blk_cell hbx 2; have kb3 := blk_cell hbx 3; have fb0 := blk_frozen hbx 0; have fb1 := blk_frozen hbx 1; have fb2 := blk_frozen hbx 2; have fb3 := blk_frozen hbx 3; have HB := Aside0.mk (below_step (below_alloc (Below.refl _ _) _) hb); have HX := Aside0.mk hbx; have HC1 := Aside0.mk (Kd.C_below HC.out HB.out); have hlt : w.heap.size < w1.heap.size := blk_lt hbx; have hne : (w.heap.size = w1.heap.size) = False := eq_false (by omega); have hne2 : (w1.heap.size = w.heap.size) = False := eq_false (by omega); clear hb hbx) | (go_at_call 35; (with_reducible refine (stamp_Check.calls A c l 0 _ (by (with_reducible repeat (first | apply Kd.C_alloc | apply Kd.C_drewN | apply Kd.C_drew)); exact HC1.out) HL.out HH.out).mono ?_); rintro e w2 ⟨rfl, ⟨nd, rfl⟩⟩))
    go_ret
    exact ⟨rfl, by repeat (first | exact HB.out | apply below_alloc | apply pw_below_drewN | apply below_drew1 | refine below_set ?_ (Nat.le_of_lt hlt) | refine below_set ?_ (Nat.le_refl _))⟩
  · rw [if_neg hr]
    have d1 : (r0 == 0) = false := beq_eq_false_iff_ne.mpr hr
    have d2 : (r0 != 0) = true := bne_iff_ne.mpr hr
    clear hr
    go_enter Tryd.func14, Tryd.ntmps14
    go_wp2_with (first | (go_at_call 29; (with_reducible refine (own_ofB _ _ _ _ rfl _ HV.out).mono ?_); rintro e w1 ⟨rfl, hb⟩; have hbx := (hb.block w.heap.size (by simp)).trans (heap_newE w (.cells _ 27)); have kb0 := blk_cell hbx 0; have kb1 := blk_cell hbx 1; have kb2 := blk_cell hbx 2; have kb3 := blk_cell hbx 3; have fb0 := blk_frozen hbx 0; have fb1 := blk_frozen hbx 1; have fb2 := blk_frozen hbx 2; have fb3 := blk_frozen hbx 3; have HB := Aside0.mk (below_step (below_alloc (Below.refl _ _) _) hb); have HX := Aside0.mk hbx; have HC1 := Aside0.mk (Kd.C_below HC.out HB.out); have hlt : w.heap.size < w1.heap.size := blk_lt hbx; have hne : (w.heap.size = w1.heap.size) = False := eq_false (by omega); have hne2 : (w1.heap.size = w.heap.size) = False := eq_false (by omega); clear hb hbx) | (go_at_call 35; (with_reducible refine (stamp_Check.calls A c l r0 _ (by (with_reducible repeat (first | apply Kd.C_alloc | apply Kd.C_drewN | apply Kd.C_drew)); exact HC1.out) HL.out HH.out).mono ?_); rintro e w2 ⟨rfl, ⟨nd, rfl⟩⟩))
    go_ret
    exact ⟨rfl, by repeat (first | exact HB.out | apply below_alloc | apply pw_below_drewN | apply below_drew1 | refine below_set ?_ (Nat.le_of_lt hlt) | refine below_set ?_ (Nat.le_refl _))⟩
set_option maxHeartbeats 8000000 in
set_option maxRecDepth 100000 in
theorem own_Check_undo (k i t : Int) (A : Option Addr) (c : Nat) (l : List Int) (r0 : Int) (w : World) (hC : Kd.C (Kd.int .i64) w A l.length l) (hc : l.length ≤ c) (hV : ofV k i t = .iface 64 (.agg #[.int .i64 i, .int .i64 t])) (h : stamp_Check.f l = some r0) :
    Calls Tryd.prog 14 #[.agg #[.int .i64 k, .int .i64 i, .int .i64 t, .slice A l.length c]] w fun e w' => e = .returned (.int .i64 (if r0 = 0 then 0 else 2)) ∧ Below w.heap.size w w' := by
  have HC := Aside0.mk hC
  have HV := Aside0.mk hV
  have HL := Aside0.mk hc
  clear hC hV hc
  have HH := Aside0.mk h
  clear h
  by_cases hr : r0 = 0
  · subst hr
    rw [if_pos rfl]
    go_enter Tryd.func14, Tryd.ntmps14
    go_wp2_with (first | (go_at_call 29; (with_reducible refine (own_ofB _ _ _ _ rfl _ HV.out).mono ?_); rintro e w1 ⟨rfl, hb⟩; have hbx := (hb.block w.heap.size (by simp)).trans (heap_newE w (.cells _ 27)); have kb0 := blk_cell hbx 0; have kb1 := blk_cell hbx 1; have kb2 := blk_cell hbx 2; have kb3 := blk_cell hbx 3; have fb0 := blk_frozen hbx 0; have fb1 := blk_frozen hbx 1; have fb2 := blk_frozen hbx 2; have fb3 := blk_frozen hbx 3; have HB := Aside0.mk (below_step (below_alloc (Below.refl _ _) _) hb); have HX := Aside0.mk hbx; have HC1 := Aside0.mk (Kd.C_below HC.out HB.out); have hlt : w.heap.size < w1.heap.size := blk_lt hbx; have hne : (w.heap.size = w1.heap.size) = False := eq_false (by omega); have hne2 : (w1.heap.size = w.heap.size) = False := eq_false (by omega); clear hb hbx) | (go_at_call 35; (with_reducible refine (stamp_Check.calls A c l 0 _ (by (with_reducible repeat (first | apply Kd.C_alloc | apply Kd.C_drewN | apply Kd.C_drew)); exact HC1.out) HL.out HH.out).mono ?_); rintro e w2 ⟨rfl, ⟨nd, rfl⟩⟩))
    go_ret
    exact ⟨rfl, by repeat (first | exact HB.out | apply below_alloc | apply pw_below_drewN | apply below_drew1 | refine below_set ?_ (Nat.le_of_lt hlt) | refine below_set ?_ (Nat.le_refl _))⟩
  · rw [if_neg hr]
    have d1 : (r0 == 0) = false := beq_eq_false_iff_ne.mpr hr
    have d2 : (r0 != 0) = true := bne_iff_ne.mpr hr
    clear hr
    go_enter Tryd.func14, Tryd.ntmps14
    go_wp2_with (first | (go_at_call 29; (with_reducible refine (own_ofB _ _ _ _ rfl _ HV.out).mono ?_); rintro e w1 ⟨rfl, hb⟩; have hbx := (hb.block w.heap.size (by simp)).trans (heap_newE w (.cells _ 27)); have kb0 := blk_cell hbx 0; have kb1 := blk_cell hbx 1; have kb2 := blk_cell hbx 2; have kb3 := blk_cell hbx 3; have fb0 := blk_frozen hbx 0; have fb1 := blk_frozen hbx 1; have fb2 := blk_frozen hbx 2; have fb3 := blk_frozen hbx 3; have HB := Aside0.mk (below_step (below_alloc (Below.refl _ _) _) hb); have HX := Aside0.mk hbx; have HC1 := Aside0.mk (Kd.C_below HC.out HB.out); have hlt : w.heap.size < w1.heap.size := blk_lt hbx; have hne : (w.heap.size = w1.heap.size) = False := eq_false (by omega); have hne2 : (w1.heap.size = w.heap.size) = False := eq_false (by omega); clear hb hbx) | (go_at_call 35; (with_reducible refine (stamp_Check.calls A c l r0 _ (by (with_reducible repeat (first | apply Kd.C_alloc | apply Kd.C_drewN | apply Kd.C_drew)); exact HC1.out) HL.out HH.out).mono ?_); rintro e w2 ⟨rfl, ⟨nd, rfl⟩⟩))
    go_ret
    exact ⟨rfl, by repeat (first | exact HB.out | apply below_alloc | apply pw_below_drewN | apply below_drew1 | refine below_set ?_ (Nat.le_of_lt hlt) | refine below_set ?_ (Nat.le_refl _))⟩
set_option maxHeartbeats 8000000 in
set_option maxRecDepth 100000 in
theorem own_Check_none (k i t : Int) (A : Option Addr) (c : Nat) (l : List Int) (w : World) (hC : Kd.C (Kd.int .i64) w A l.length l) (hc : l.length ≤ c) (hV : ofV k i t = .iface 72 (.agg #[])) :
    Calls Tryd.prog 14 #[.agg #[.int .i64 k, .int .i64 i, .int .i64 t, .slice A l.length c]] w fun e w' => e = .returned (.int .i64 2) ∧ Below w.heap.size w w' := by
  have HC := Aside0.mk hC
  have HV := Aside0.mk hV
  have HL := Aside0.mk hc
  clear hC hV hc
  go_enter Tryd.func14, Tryd.ntmps14
  go_wp2_with (first | (go_at_call 29; (with_reducible refine (own_ofB _ _ _ _ rfl _ HV.out).mono ?_); rintro e w1 ⟨rfl, hb⟩; have hbx := (hb.block w.heap.size (by simp)).trans (heap_newE w (.cells _ 27)); have kb0 := blk_cell hbx 0; have kb1 := blk_cell hbx 1; have kb2 := blk_cell hbx 2; have kb3 := blk_cell hbx 3; have fb0 := blk_frozen hbx 0; have fb1 := blk_frozen hbx 1; have fb2 := blk_frozen hbx 2; have fb3 := blk_frozen hbx 3; have HB := Aside0.mk (below_step (below_alloc (Below.refl _ _) _) hb); have HX := Aside0.mk hbx; have HC1 := Aside0.mk (Kd.C_below HC.out HB.out); have hlt : w.heap.size < w1.heap.size := blk_lt hbx; have hne : (w.heap.size = w1.heap.size) = False := eq_false (by omega); have hne2 : (w1.heap.size = w.heap.size) = False := eq_false (by omega); clear hb hbx))
  go_ret
  exact ⟨rfl, by repeat (first | exact HB.out | apply below_alloc | apply pw_below_drewN | apply below_drew1 | refine below_set ?_ (Nat.le_of_lt hlt) | refine below_set ?_ (Nat.le_refl _))⟩
theorem event_Check.calls (a0_0 : Int) (a0_1 : Int) (a0_2 : Int) (A0_3 : Option Addr) (c0_3 : Nat) (l0_3 : List Int) (r : Int) (w : World) (hr0_3 : Kd.C (Kd.int .i64) w A0_3 l0_3.length l0_3) (hc0_3 : l0_3.length ≤ c0_3) (h : event_Check.f a0_0 a0_1 a0_2 l0_3 = some r) :
    Calls Tryd.prog 14 #[.agg #[.int .i64 a0_0, .int .i64 a0_1, .int .i64 a0_2, .slice A0_3 l0_3.length c0_3]] w fun e w' => e = .returned (.int .i64 r) ∧ Below w.heap.size w w' := by
  unfold event_Check.f at h
  by_cases h1 : isStep a0_0 a0_1 a0_2
  · rw [if_pos (.inl h1)] at h
    obtain ⟨r0, hr0, h⟩ := Option.bind_eq_some_iff.mp h
    obtain rfl := Option.some.inj h
    exact own_Check_step a0_0 a0_1 a0_2 A0_3 c0_3 l0_3 r0 w hr0_3 hc0_3 (by unfold ofV; rw [if_pos h1]) hr0
  · by_cases h2 : isUndo a0_0 a0_1 a0_2
    · rw [if_pos (.inr h2)] at h
      obtain ⟨r0, hr0, h⟩ := Option.bind_eq_some_iff.mp h
      obtain rfl := Option.some.inj h
      exact own_Check_undo a0_0 a0_1 a0_2 A0_3 c0_3 l0_3 r0 w hr0_3 hc0_3 (by unfold ofV; rw [if_neg h1, if_pos h2]) hr0
    · rw [if_neg (fun h => h.elim h1 h2)] at h
      obtain rfl := Option.some.inj h
      exact own_Check_none a0_0 a0_1 a0_2 A0_3 c0_3 l0_3 w hr0_3 hc0_3 (by unfold ofV; rw [if_neg h1, if_neg h2])
end

/-! ### wire_is: function 37 -/
def wire_is.f (a0 : Int) : Option (Bool) := if a0 ≥ 0 then (some (decide (a0 ≤ 1099511627776))) else (some false)
set_option maxHeartbeats 8000000 in
set_option maxRecDepth 100000 in
theorem wire_is.calls (a0 : Int) (r : Bool) (w : World) (h : wire_is.f a0 = some r) :
    Calls Tryd.prog 37 #[.int .i64 a0] w fun e w' => e = .returned (.bool r) ∧ Drawn0 w w' := by
  have H : (if a0 ≥ 0 then (some (decide (a0 ≤ 1099511627776))) else (some false)) = some r := h
  clear h
  by_cases c2 : a0 ≥ 0
  · rw [if_pos c2] at H
    have c2b0 : decide (0 ≤ a0) = true := decide_eq_true c2
    clear c2
    obtain rfl := Option.some.inj H
    go_enter Tryd.func37, Tryd.ntmps37
    go_wp2
    go_ret
    exact ⟨by first | rfl | (simp; done) | (simp [*]; done), by repeat (first | exact Drawn0.refl _ | apply Drawn0.step)⟩
  · rw [if_neg c2] at H
    have c2b0 : decide (0 ≤ a0) = false := decide_eq_false c2
    clear c2
    obtain rfl := Option.some.inj H
    go_enter Tryd.func37, Tryd.ntmps37
    go_wp2
    go_ret
    exact ⟨by first | rfl | (simp; done) | (simp [*]; done), by repeat (first | exact Drawn0.refl _ | apply Drawn0.step)⟩

/-! ### wire_Take: function 21 -/
mutual
def wire_Take.j0 : Nat → List Int → Int → Bool → Option (Int × Int × Int)
  | 0, _, _, _ => none
  | k + 1, x0, x1, x17 => if x17 = true then (some (0, 0, 2)) else (if 0 ≤ x1 then (if x1 ≤ (x0.length : Int) then ((some (x0.drop (x1 : Int).toNat : List Int)).bind fun y101 => (wire_Take.l0 k x0 x1 0 y101 (y101.length : Int) 0)) else (none)) else (none))
def wire_Take.l0 : Nat → List Int → Int → Int → List Int → Int → Int → Option (Int × Int × Int)
  | 0, _, _, _, _, _, _ => none
  | k + 1, x0, x1, x7, x20, x21, x22 => if x22 < x21 then (if 0 ≤ x22 then (if x22 < (x20.length : Int) then (if 0 ≤ (wrap64 (7 * x22)) then (if (rd x20 x22) < 128 then ((wire_is.f (Go.bits .or .i64 x7 (shl .i64 (wrap64 (Go.bits .and .u8 (rd x20 x22) 127)) (wrap64 (7 * x22))))).bind fun t106 => (if t106 = true then (if x22 > 0 then (wire_Take.j2 k x0 x1 (Go.bits .or .i64 x7 (shl .i64 (wrap64 (Go.bits .and .u8 (rd x20 x22) 127)) (wrap64 (7 * x22)))) x22 (rd x20 x22) x20 x21 x22 ((rd x20 x22) == 0)) else (wire_Take.j2 k x0 x1 (Go.bits .or .i64 x7 (shl .i64 (wrap64 (Go.bits .and .u8 (rd x20 x22) 127)) (wrap64 (7 * x22)))) x22 (rd x20 x22) x20 x21 x22 false)) else (wire_Take.j2 k x0 x1 (Go.bits .or .i64 x7 (shl .i64 (wrap64 (Go.bits .and .u8 (rd x20 x22) 127)) (wrap64 (7 * x22)))) x22 (rd x20 x22) x20 x21 x22 true))) else (wire_Take.j2 k x0 x1 (Go.bits .or .i64 x7 (shl .i64 (wrap64 (Go.bits .and .u8 (rd x20 x22) 127)) (wrap64 (7 * x22)))) x22 (rd x20 x22) x20 x21 x22 false)) else (none)) else (none)) else (none)) else (if (wrap64 ((x0.length : Int) - x1)) ≥ 6 then (some (0, 0, 4)) else (some (0, 0, 3)))
def wire_Take.j2 : Nat → List Int → Int → Int → Int → Int → List Int → Int → Int → Bool → Option (Int × Int × Int)
  | 0, _, _, _, _, _, _, _, _, _ => none
  | k + 1, x0, x1, x7, x8, x9, x20, x21, x22, x35 => if x35 = true then (some (0, 0, 4)) else (if x9 < 128 then (some (x7, wrap64 ((wrap64 (x1 + x8)) + 1), 0)) else (if x8 = 5 then (if (wrap64 ((x0.length : Int) - x1)) ≥ 6 then (some (0, 0, 4)) else (some (0, 0, 3))) else (wire_Take.l0 k x0 x1 x7 x20 x21 (wrap64 (x22 + 1)))))
end
def wire_Take.f (k : Nat) (l0 : List Int) (a1 : Int) : Option (Int × Int × Int) := if a1 < 0 then (wire_Take.j0 k l0 a1 true) else (wire_Take.j0 k l0 a1 (decide (a1 > (l0.length : Int))))
theorem wire_Take.mono_l : ∀ k, (∀ y0 y1 y2, LeO (wire_Take.j0 k y0 y1 y2) (wire_Take.j0 (k + 1) y0 y1 y2)) ∧ (∀ y0 y1 y2 y3 y4 y5, LeO (wire_Take.l0 k y0 y1 y2 y3 y4 y5) (wire_Take.l0 (k + 1) y0 y1 y2 y3 y4 y5)) ∧ (∀ y0 y1 y2 y3 y4 y5 y6 y7 y8, LeO (wire_Take.j2 k y0 y1 y2 y3 y4 y5 y6 y7 y8) (wire_Take.j2 (k + 1) y0 y1 y2 y3 y4 y5 y6 y7 y8))
  | 0 => ⟨fun _ _ _ r h => by simp [wire_Take.j0] at h, fun _ _ _ _ _ _ r h => by simp [wire_Take.l0] at h, fun _ _ _ _ _ _ _ _ _ r h => by simp [wire_Take.j2] at h⟩
  | k + 1 => by
    obtain ⟨ih0, ih1, ih2⟩ := wire_Take.mono_l k
    refine ⟨?_, ?_, ?_⟩
    · intro y0 y1 y2
      unfold wire_Take.j0
      repeat' first
      | (with_reducible exact ih0 _ _ _)
      | (with_reducible exact ih1 _ _ _ _ _ _)
      | (with_reducible exact ih2 _ _ _ _ _ _ _ _ _)
      | (with_reducible exact LeO.refl _)
      | (with_reducible exact LeO.none _)
      | (with_reducible refine LeO.ite ?_ ?_)
      | (with_reducible refine LeO.bind ?_ (fun _ => ?_))
      | exact ih0 _ _ _
      | exact ih1 _ _ _ _ _ _
      | exact ih2 _ _ _ _ _ _ _ _ _
      | exact LeO.none _
      | refine LeO.ite ?_ ?_
      | refine LeO.bind ?_ (fun _ => ?_)
    · intro y0 y1 y2 y3 y4 y5
      unfold wire_Take.l0
      repeat' first
      | (with_reducible exact ih0 _ _ _)
      | (with_reducible exact ih1 _ _ _ _ _ _)
      | (with_reducible exact ih2 _ _ _ _ _ _ _ _ _)
      | (with_reducible exact LeO.refl _)
      | (with_reducible exact LeO.none _)
      | (with_reducible refine LeO.ite ?_ ?_)
      | (with_reducible refine LeO.bind ?_ (fun _ => ?_))
      | exact ih0 _ _ _
      | exact ih1 _ _ _ _ _ _
      | exact ih2 _ _ _ _ _ _ _ _ _
      | exact LeO.none _
      | refine LeO.ite ?_ ?_
      | refine LeO.bind ?_ (fun _ => ?_)
    · intro y0 y1 y2 y3 y4 y5 y6 y7 y8
      unfold wire_Take.j2
      repeat' first
      | (with_reducible exact ih0 _ _ _)
      | (with_reducible exact ih1 _ _ _ _ _ _)
      | (with_reducible exact ih2 _ _ _ _ _ _ _ _ _)
      | (with_reducible exact LeO.refl _)
      | (with_reducible exact LeO.none _)
      | (with_reducible refine LeO.ite ?_ ?_)
      | (with_reducible refine LeO.bind ?_ (fun _ => ?_))
      | exact ih0 _ _ _
      | exact ih1 _ _ _ _ _ _
      | exact ih2 _ _ _ _ _ _ _ _ _
      | exact LeO.none _
      | refine LeO.ite ?_ ?_
      | refine LeO.bind ?_ (fun _ => ?_)
theorem wire_Take.mono : ∀ a0 a1 k, LeO (wire_Take.f k a0 a1) (wire_Take.f (k + 1) a0 a1) := by
  intro a0 a1 k
  obtain ⟨ih0, ih1, ih2⟩ := wire_Take.mono_l k
  unfold wire_Take.f
  repeat' first
      | (with_reducible exact ih0 _ _ _)
      | (with_reducible exact ih1 _ _ _ _ _ _)
      | (with_reducible exact ih2 _ _ _ _ _ _ _ _ _)
      | (with_reducible exact LeO.refl _)
      | (with_reducible exact LeO.none _)
      | (with_reducible refine LeO.ite ?_ ?_)
      | (with_reducible refine LeO.bind ?_ (fun _ => ?_))
      | exact ih0 _ _ _
      | exact ih1 _ _ _ _ _ _
      | exact ih2 _ _ _ _ _ _ _ _ _
      | exact LeO.none _
      | refine LeO.ite ?_ ?_
      | refine LeO.bind ?_ (fun _ => ?_)
set_option maxHeartbeats 8000000 in
set_option maxRecDepth 100000 in
theorem wire_Take.calls (k : Nat) (A0 : Option Addr) (c0 : Nat) (l0 : List Int) (a1 : Int) (r1 : Int) (r2 : Int) (r3 : Int) (w : World) (hr0 : Kd.C (Kd.int .u8) w A0 l0.length l0) (hc0 : l0.length ≤ c0) (h : wire_Take.f k l0 a1 = some (r1, r2, r3)) :
    Calls Tryd.prog 21 #[.slice A0 l0.length c0, .int .i64 a1] w fun e w' => e = .returned (.tuple #[.int .i64 r1, .int .i64 r2, .int .i64 r3]) ∧ Drawn0 w w' := by
  have HR0 := Aside0.mk hr0
  have HC0 := Aside0.mk hc0
  clear hr0 hc0
  have H : (if a1 < 0 then (wire_Take.j0 k l0 a1 true) else (wire_Take.j0 k l0 a1 (decide (a1 > (l0.length : Int))))) = some (r1, r2, r3) := h
  clear h
  have HC3 := Aside0.mk H
  clear H
  go_enter Tryd.func21, Tryd.ntmps21
  (try go_step3)
  go_upto_region 1 with (go_step3)
  go_cut [17] (fun v17 wc => ∃ (kq : Nat) (x17_2 : Bool), v17 = .bool x17_2 ∧ Aside0 (wire_Take.j0 kq l0 a1 x17_2 = some (r1, r2, r3)) ∧ Aside0 (kq ≤ k) ∧ Drawn0 w wc)
  case first =>
    have H := HC3.out
    clear HC3
    by_cases c4 : a1 < 0
    · rw [if_pos c4] at H
      have c4b0 : decide (a1 < 0) = true := decide_eq_true c4
      clear c4
      (first | rw [c4b0] | (simp only [i64_w, i32_w]; rw [c4b0]) | skip)
      have H' := Aside0.mk H
      clear H
      go_wp2_with (go_step3)
      go_meet
      case rel => exact ⟨_, (true), (by first | rfl | (simp; done) | (simp [*]; done)), H', ⟨by first | omega | exact Nat.le_refl _⟩, by repeat (first | exact Drawn0.refl _ | apply Drawn0.step)⟩
    · rw [if_neg c4] at H
      have c4b0 : decide (a1 < 0) = false := decide_eq_false c4
      clear c4
      (first | rw [c4b0] | (simp only [i64_w, i32_w]; rw [c4b0]) | skip)
      have H' := Aside0.mk H
      clear H
      go_wp2_with (go_step3)
      go_meet
      case rel => exact ⟨_, (decide (a1 > (l0.length : Int))), (by first | rfl | (simp; done) | (simp [*]; done)), H', ⟨by first | omega | exact Nat.le_refl _⟩, by repeat (first | exact Drawn0.refl _ | apply Drawn0.step)⟩
  case rest =>
    clear HC3
    try clear c2
    try clear p2
    try clear c4
    try clear c4b0
    obtain ⟨kq, x17_2, rfl, HA, HJ2, ⟨mc2, rfl⟩⟩ := hcut
    cases kq with
    | zero => exact absurd HA.out (by simp [wire_Take.j0])
    | succ kj2 =>
      have H := HA.out
      clear HA
      simp only [wire_Take.j0] at H
      by_cases c5 : x17_2 = true
      · subst c5
        have H1 : (some (0, 0, 2)) = some (r1, r2, r3) := by rw [if_pos rfl] at H; exact H
        clear H
        have H := H1
        clear H1
        simp only [Option.some.injEq, Prod.mk.injEq] at H
        obtain ⟨rfl, rfl, rfl⟩ := H
        go_wp2_with (go_step3)
        ((try rw [Exit.noGoto_ret]); go_ret3)
        exact ⟨by first | rfl | (simp; done) | (simp [*]; done), by repeat (first | exact Drawn0.refl _ | apply Drawn0.step)⟩
      · replace c5 := Bool.eq_false_iff.mpr c5
        subst c5
        have H1 : (if 0 ≤ a1 then (if a1 ≤ (l0.length : Int) then ((some (l0.drop (a1 : Int).toNat : List Int)).bind fun y101 => (wire_Take.l0 kj2 l0 a1 0 y101 (y101.length : Int) 0)) else (none)) else (none)) = some (r1, r2, r3) := by rw [if_neg (show ¬ (false = true) by decide)] at H; exact H
        clear H
        have H := H1
        clear H1
        by_cases c6 : 0 ≤ a1
        · rw [if_pos c6] at H
          have c6b0 := eq_true c6
          have c6b1 : decide (0 ≤ a1) = true := decide_eq_true c6
          clear c6
          by_cases c7 : a1 ≤ (l0.length : Int)
          · rw [if_pos c7] at H
            have c7b0 := eq_true c7
            have c7b1 : decide (a1 ≤ (l0.length : Int)) = true := decide_eq_true c7
            clear c7
            obtain ⟨y101, hy101⟩ : ∃ y_ : List Int, y_ = (l0.drop (a1 : Int).toNat) := ⟨_, rfl⟩
            replace H : (wire_Take.l0 kj2 l0 a1 0 y101 (y101.length : Int) 0) = some (r1, r2, r3) := by first | (rw [hy101]; with_reducible exact H) | (have H2_ := (Option.bind_some _ _).symm.trans H; rw [hy101]; with_reducible exact H2_) | (have H2_ := (Option.bind_some _ _).symm.trans H; with_reducible exact H2_) | with_reducible exact H | (rw [hy101]; exact H) | exact H
            have Ny101 := Aside0.mk hy101
            clear hy101
            have H' := Aside0.mk H
            clear H
            obtain ⟨i08, hi08, _, hsz8, _⟩ := info_parts info5
            obtain ⟨A8, hcut8, hA8, hC8⟩ := print_drop_of (P := Tryd.prog) (Value.int .u8) 0 22 5 .i64 Tryd.underlying22 hi08 hsz8 A0 c0 l0 a1 (of_decide_eq_true (by first | (with_reducible assumption) | assumption)) (of_decide_eq_true (by first | (with_reducible assumption) | assumption)) HC0.out
            (try simp only [Int.reduceToNat] at hcut8 hA8 hC8)
            rw [← Ny101.out] at hcut8 hA8 hC8
            have HR104 := Aside0.mk (Kd.C_of_reads (h1 := fun _ => rfl) (hA8 _ (Kd.reads_of_C HR0.out)))
            have HC104 := Aside0.mk hC8
            clear hA8 hC8 hi08 hsz8
            go_wp2_with (go_step3)
            go_loopg [7, 22] kj2 (fun kq v7 v22 w' => ∃ (x7_2 : Int) (x22_2 : Int), v7 = .int .i64 x7_2 ∧ v22 = .int .i64 x22_2 ∧ Aside0 (wire_Take.l0 kq l0 a1 x7_2 y101 (y101.length : Int) x22_2 = some (r1, r2, r3)) ∧ Aside0 (kq ≤ kj2) ∧ Drawn0 w w')
            case atStart => exact ⟨(0), (0), (by first | rfl | (simp; done) | (simp [*]; done)), (by first | rfl | (simp; done) | (simp [*]; done)), H', ⟨Nat.le_refl _⟩, by repeat (first | exact Drawn0.refl _ | apply Drawn0.step)⟩
            case round =>
              clear H'
              try clear c2
              try clear p2
              try clear c4
              try clear c4b0
              try clear c5
              try clear c6
              try clear c6b0
              try clear c6b1
              try clear c7
              try clear c7b0
              try clear c7b1
              try clear p2
              obtain ⟨x7_2, x22_2, rfl, rfl, HA, HK2, ⟨m2, rfl⟩⟩ := hrel
              cases gk with
              | zero => exact absurd HA.out (by simp [wire_Take.l0])
              | succ k2 =>
                have H := HA.out
                clear HA
                simp only [wire_Take.l0] at H
                by_cases c9 : x22_2 < (y101.length : Int)
                · rw [if_pos c9] at H
                  have c9b0 : decide (x22_2 < (y101.length : Int)) = true := decide_eq_true c9
                  clear c9
                  by_cases c10 : 0 ≤ x22_2
                  · rw [if_pos c10] at H
                    have c10b0 : decide (0 ≤ x22_2) = true := decide_eq_true c10
                    clear c10
                    by_cases c11 : x22_2 < (y101.length : Int)
                    · rw [if_pos c11] at H
                      have c11b0 : decide (x22_2 < (y101.length : Int)) = true := decide_eq_true c11
                      clear c11
                      obtain ⟨ji12, hji12⟩ : ∃ j_ : Int, (wrap64 (7 * x22_2)) = j_ := ⟨_, rfl⟩
                      replace H : (if 0 ≤ (ji12) then (if (rd y101 x22_2) < 128 then ((wire_is.f (Go.bits .or .i64 x7_2 (shl .i64 (wrap64 (Go.bits .and .u8 (rd y101 x22_2) 127)) (ji12)))).bind fun t106 => (if t106 = true then (if x22_2 > 0 then (wire_Take.j2 k2 l0 a1 (Go.bits .or .i64 x7_2 (shl .i64 (wrap64 (Go.bits .and .u8 (rd y101 x22_2) 127)) (ji12))) x22_2 (rd y101 x22_2) y101 (y101.length : Int) x22_2 ((rd y101 x22_2) == 0)) else (wire_Take.j2 k2 l0 a1 (Go.bits .or .i64 x7_2 (shl .i64 (wrap64 (Go.bits .and .u8 (rd y101 x22_2) 127)) (ji12))) x22_2 (rd y101 x22_2) y101 (y101.length : Int) x22_2 false)) else (wire_Take.j2 k2 l0 a1 (Go.bits .or .i64 x7_2 (shl .i64 (wrap64 (Go.bits .and .u8 (rd y101 x22_2) 127)) (ji12))) x22_2 (rd y101 x22_2) y101 (y101.length : Int) x22_2 true))) else (wire_Take.j2 k2 l0 a1 (Go.bits .or .i64 x7_2 (shl .i64 (wrap64 (Go.bits .and .u8 (rd y101 x22_2) 127)) (ji12))) x22_2 (rd y101 x22_2) y101 (y101.length : Int) x22_2 false)) else (none)) = some (r1, r2, r3) := by first | (rw [hji12] at H; exact H) | (simp only [hji12] at H ⊢; exact H)
                      have hji12w : (IntKind.i64.wrap (7 * x22_2)) = ji12 := (i64_w _).trans hji12
                      by_cases c13 : 0 ≤ (ji12)
                      · rw [if_pos c13] at H
                        have c13b0 := eq_true c13
                        have c13b1 : decide (0 ≤ (ji12)) = true := decide_eq_true c13
                        clear c13
                        obtain ⟨ji14, hji14⟩ : ∃ j_ : Int, (shl .i64 (wrap64 (Go.bits .and .u8 (rd y101 x22_2) 127)) (ji12)) = j_ := ⟨_, rfl⟩
                        replace H : (if (rd y101 x22_2) < 128 then ((wire_is.f (Go.bits .or .i64 x7_2 (ji14))).bind fun t106 => (if t106 = true then (if x22_2 > 0 then (wire_Take.j2 k2 l0 a1 (Go.bits .or .i64 x7_2 (ji14)) x22_2 (rd y101 x22_2) y101 (y101.length : Int) x22_2 ((rd y101 x22_2) == 0)) else (wire_Take.j2 k2 l0 a1 (Go.bits .or .i64 x7_2 (ji14)) x22_2 (rd y101 x22_2) y101 (y101.length : Int) x22_2 false)) else (wire_Take.j2 k2 l0 a1 (Go.bits .or .i64 x7_2 (ji14)) x22_2 (rd y101 x22_2) y101 (y101.length : Int) x22_2 true))) else (wire_Take.j2 k2 l0 a1 (Go.bits .or .i64 x7_2 (ji14)) x22_2 (rd y101 x22_2) y101 (y101.length : Int) x22_2 false)) = some (r1, r2, r3) := by first | (rw [hji14] at H; exact H) | (simp only [hji14] at H ⊢; exact H)
                        have hji14_ : (IntKind.i64.wrap ((wrap64 (Go.bits .and .u8 (rd y101 x22_2) 127)) * 2 ^ min (ji12).toNat 64)) = ji14 := hji14
                        have hji14z : (ji12) ≤ 64 → (IntKind.i64.wrap ((wrap64 (Go.bits .and .u8 (rd y101 x22_2) 127)) * 2 ^ (ji12).toNat)) = ji14 := shl_small hji14
                        have hji14y : (wrap64 ((wrap64 (Go.bits .and .u8 (rd y101 x22_2) 127)) * 2 ^ min (ji12).toNat 64)) = ji14 := (i64_w _).symm.trans hji14_
                        have hji14x : (ji12) ≤ 64 → (wrap64 ((wrap64 (Go.bits .and .u8 (rd y101 x22_2) 127)) * 2 ^ (ji12).toNat)) = ji14 := fun h_ => (i64_w _).symm.trans (hji14z h_)
                        have HC15 := Aside0.mk H
                        clear H
                        have p105 : 0 ≤ (x22_2 : Int) := of_decide_eq_true (by first | (with_reducible assumption) | assumption)
                        have q105 : x22_2 < (y101.length : Int) := of_decide_eq_true (by first | (with_reducible assumption) | assumption)
                        obtain ⟨ad105, e105, hx105_0⟩ := Kd.at_int HR104.out x22_2 p105 q105
                        cases e105
                        replace p105 := eq_true p105
                        replace q105 := eq_true q105
                        go_upto_region 8 with (go_step3)
                        go_cut [35] (fun v35 wc => ∃ (kq : Nat) (x35_14 : Bool), v35 = .bool x35_14 ∧ Aside0 (wire_Take.j2 kq l0 a1 (Go.bits .or .i64 x7_2 (ji14)) x22_2 (rd y101 x22_2) y101 (y101.length : Int) x22_2 x35_14 = some (r1, r2, r3)) ∧ Aside0 (kq ≤ k2) ∧ Drawn0 w wc)
                        case first =>
                          have H := HC15.out
                          clear HC15
                          by_cases c16 : (rd y101 x22_2) < 128
                          · rw [if_pos c16] at H
                            have c16b0 : decide ((rd y101 x22_2) < 128) = true := decide_eq_true c16
                            clear c16
                            (first | rw [c16b0] | (simp only [i64_w, i32_w]; rw [c16b0]) | skip)
                            replace H := Option.bind_eq_some_iff.mp H
                            obtain ⟨t106, A170, H⟩ := H
                            replace H : (if t106 = true then (if x22_2 > 0 then (wire_Take.j2 k2 l0 a1 (Go.bits .or .i64 x7_2 (ji14)) x22_2 (rd y101 x22_2) y101 (y101.length : Int) x22_2 ((rd y101 x22_2) == 0)) else (wire_Take.j2 k2 l0 a1 (Go.bits .or .i64 x7_2 (ji14)) x22_2 (rd y101 x22_2) y101 (y101.length : Int) x22_2 false)) else (wire_Take.j2 k2 l0 a1 (Go.bits .or .i64 x7_2 (ji14)) x22_2 (rd y101 x22_2) y101 (y101.length : Int) x22_2 true)) = some (r1, r2, r3) := H
                            have A17 := Aside0.mk A170
                            clear A170
                            by_cases c18 : t106 = true
                            · subst c18
                              have H1 : (if x22_2 > 0 then (wire_Take.j2 k2 l0 a1 (Go.bits .or .i64 x7_2 (ji14)) x22_2 (rd y101 x22_2) y101 (y101.length : Int) x22_2 ((rd y101 x22_2) == 0)) else (wire_Take.j2 k2 l0 a1 (Go.bits .or .i64 x7_2 (ji14)) x22_2 (rd y101 x22_2) y101 (y101.length : Int) x22_2 false)) = some (r1, r2, r3) := by rw [if_pos rfl] at H; exact H
                              clear H
                              have H := H1
                              clear H1
                              by_cases c19 : x22_2 > 0
                              · rw [if_pos c19] at H
                                have c19b0 : decide (0 < x22_2) = true := decide_eq_true c19
                                clear c19
                                have H' := Aside0.mk H
                                clear H
                                go_wp2_with (first | (go_step3) | (go_at_call 37; (with_reducible refine (wire_is.calls (Go.bits .or .i64 x7_2 (ji14)) true _ A17.out).mono ?_); rintro e w' ⟨rfl, ⟨nd, rfl⟩⟩))
                                go_meet
                                case rel => exact ⟨_, (((rd y101 x22_2) == 0)), (by first | rfl | (simp; done) | (simp [*]; done)), H', ⟨by have := HJ2.out; have := HK2.out; first | omega | exact Nat.le_refl _⟩, by repeat (first | exact Drawn0.refl _ | apply Drawn0.step)⟩
                              · rw [if_neg c19] at H
                                have c19b0 : decide (0 < x22_2) = false := decide_eq_false c19
                                clear c19
                                have H' := Aside0.mk H
                                clear H
                                go_wp2_with (first | (go_step3) | (go_at_call 37; (with_reducible refine (wire_is.calls (Go.bits .or .i64 x7_2 (ji14)) true _ A17.out).mono ?_); rintro e w' ⟨rfl, ⟨nd, rfl⟩⟩))
                                go_meet
                                case rel => exact ⟨_, (false), (by first | rfl | (simp; done) | (simp [*]; done)), H', ⟨by have := HJ2.out; have := HK2.out; first | omega | exact Nat.le_refl _⟩, by repeat (first | exact Drawn0.refl _ | apply Drawn0.step)⟩
                            · replace c18 := Bool.eq_false_iff.mpr c18
                              subst c18
                              have H1 : (wire_Take.j2 k2 l0 a1 (Go.bits .or .i64 x7_2 (ji14)) x22_2 (rd y101 x22_2) y101 (y101.length : Int) x22_2 true) = some (r1, r2, r3) := by rw [if_neg (show ¬ (false = true) by decide)] at H; exact H
                              clear H
                              have H := H1
                              clear H1
                              have H' := Aside0.mk H
                              clear H
                              go_wp2_with (first | (go_step3) | (go_at_call 37; (with_reducible refine (wire_is.calls (Go.bits .or .i64 x7_2 (ji14)) false _ A17.out).mono ?_); rintro e w' ⟨rfl, ⟨nd, rfl⟩⟩))
                              go_meet
                              case rel => exact ⟨_, (true), (by first | rfl | (simp; done) | (simp [*]; done)), H', ⟨by have := HJ2.out; have := HK2.out; first | omega | exact Nat.le_refl _⟩, by repeat (first | exact Drawn0.refl _ | apply Drawn0.step)⟩
                          · rw [if_neg c16] at H
                            have c16b0 : decide ((rd y101 x22_2) < 128) = false := decide_eq_false c16
                            clear c16
                            (first | rw [c16b0] | (simp only [i64_w, i32_w]; rw [c16b0]) | skip)
                            have H' := Aside0.mk H
                            clear H
                            go_wp2_with (go_step3)
                            go_meet
                            case rel => exact ⟨_, (false), (by first | rfl | (simp; done) | (simp [*]; done)), H', ⟨by have := HJ2.out; have := HK2.out; first | omega | exact Nat.le_refl _⟩, by repeat (first | exact Drawn0.refl _ | apply Drawn0.step)⟩
                        case rest =>
                          clear HC15
                          try clear c1
                          try clear p1
                          try clear q1
                          try clear hx1
                          try clear c2
                          try clear p2
                          try clear c4
                          try clear c4b0
                          try clear c5
                          try clear c6
                          try clear c6b0
                          try clear c6b1
                          try clear p6
                          try clear c7
                          try clear c7b0
                          try clear c7b1
                          try clear c9
                          try clear c9b0
                          try clear c10
                          try clear c10b0
                          try clear p10
                          try clear q10
                          try clear hx10
                          try clear c11
                          try clear c11b0
                          try clear c13
                          try clear c13b0
                          try clear c13b1
                          try clear c16
                          try clear c16b0
                          try clear c18
                          try clear c19
                          try clear c19b0
                          try clear hx105_0
                          try clear p105
                          try clear p2
                          try clear q105
                          obtain ⟨kq, x35_14, rfl, HA, HJ14, ⟨mc14, rfl⟩⟩ := hcut
                          cases kq with
                          | zero => exact absurd HA.out (by simp [wire_Take.j2])
                          | succ kj14 =>
                            have H := HA.out
                            clear HA
                            simp only [wire_Take.j2] at H
                            by_cases c20 : x35_14 = true
                            · subst c20
                              have H1 : (some (0, 0, 4)) = some (r1, r2, r3) := by rw [if_pos rfl] at H; exact H
                              clear H
                              have H := H1
                              clear H1
                              simp only [Option.some.injEq, Prod.mk.injEq] at H
                              obtain ⟨rfl, rfl, rfl⟩ := H
                              go_wp2_with (go_step3)
                              ((try rw [Exit.noGoto_ret]); go_ret3)
                              exact ⟨by first | rfl | (simp; done) | (simp only [← hji12, ← hji14] <;> (first | rfl | simp)) | (simp [*]; done), by repeat (first | exact Drawn0.refl _ | apply Drawn0.step)⟩
                            · replace c20 := Bool.eq_false_iff.mpr c20
                              subst c20
                              have H1 : (if (rd y101 x22_2) < 128 then (some ((Go.bits .or .i64 x7_2 (ji14)), wrap64 ((wrap64 (a1 + x22_2)) + 1), 0)) else (if x22_2 = 5 then (if (wrap64 ((l0.length : Int) - a1)) ≥ 6 then (some (0, 0, 4)) else (some (0, 0, 3))) else (wire_Take.l0 kj14 l0 a1 (Go.bits .or .i64 x7_2 (ji14)) y101 (y101.length : Int) (wrap64 (x22_2 + 1))))) = some (r1, r2, r3) := by rw [if_neg (show ¬ (false = true) by decide)] at H; exact H
                              clear H
                              have H := H1
                              clear H1
                              by_cases c21 : (rd y101 x22_2) < 128
                              · rw [if_pos c21] at H
                                have c21b0 : decide ((rd y101 x22_2) < 128) = true := decide_eq_true c21
                                clear c21
                                simp only [Option.some.injEq, Prod.mk.injEq] at H
                                obtain ⟨rfl, rfl, rfl⟩ := H
                                go_wp2_with (go_step3)
                                ((try rw [Exit.noGoto_ret]); go_ret3)
                                exact ⟨by first | rfl | (simp; done) | (simp only [← hji12, ← hji14] <;> (first | rfl | simp)) | (simp [*]; done), by repeat (first | exact Drawn0.refl _ | apply Drawn0.step)⟩
                              · rw [if_neg c21] at H
                                have c21b0 : decide ((rd y101 x22_2) < 128) = false := decide_eq_false c21
                                clear c21
                                by_cases c22 : x22_2 = 5
                                · rw [if_pos c22] at H
                                  have c22b0 : (x22_2 == 5) = true := beq_iff_eq.mpr c22
                                  have c22b1 : (x22_2 != 5) = false := bne_eq_false_iff_eq.mpr c22
                                  clear c22
                                  by_cases c23 : (wrap64 ((l0.length : Int) - a1)) ≥ 6
                                  · rw [if_pos c23] at H
                                    have c23b0 : decide (6 ≤ (wrap64 ((l0.length : Int) - a1))) = true := decide_eq_true c23
                                    clear c23
                                    simp only [Option.some.injEq, Prod.mk.injEq] at H
                                    obtain ⟨rfl, rfl, rfl⟩ := H
                                    go_wp2_with (go_step3)
                                    ((try rw [Exit.noGoto_ret]); go_ret3)
                                    exact ⟨by first | rfl | (simp; done) | (simp only [← hji12, ← hji14] <;> (first | rfl | simp)) | (simp [*]; done), by repeat (first | exact Drawn0.refl _ | apply Drawn0.step)⟩
                                  · rw [if_neg c23] at H
                                    have c23b0 : decide (6 ≤ (wrap64 ((l0.length : Int) - a1))) = false := decide_eq_false c23
                                    clear c23
                                    simp only [Option.some.injEq, Prod.mk.injEq] at H
                                    obtain ⟨rfl, rfl, rfl⟩ := H
                                    go_wp2_with (go_step3)
                                    ((try rw [Exit.noGoto_ret]); go_ret3)
                                    exact ⟨by first | rfl | (simp; done) | (simp only [← hji12, ← hji14] <;> (first | rfl | simp)) | (simp [*]; done), by repeat (first | exact Drawn0.refl _ | apply Drawn0.step)⟩
                                · rw [if_neg c22] at H
                                  have c22b0 : (x22_2 == 5) = false := beq_eq_false_iff_ne.mpr c22
                                  have c22b1 : (x22_2 != 5) = true := bne_iff_ne.mpr c22
                                  have H' := Aside0.mk H
                                  clear H
                                  go_wp2_with (go_step3)
                                  go_roundg kj14
                                  case measure => have := HJ2.out; have := HK2.out; have := HJ14.out; omega
                                  case rel => exact ⟨((Go.bits .or .i64 x7_2 (ji14))), (wrap64 (x22_2 + 1)), (by first | rfl | (simp; done) | (simp only [← hji14] <;> (first | rfl | simp)) | (simp [*]; done)), (by first | rfl | (simp; done) | (simp [*]; done)), H', ⟨by have := HJ2.out; have := HK2.out; have := HJ14.out; omega⟩, by repeat (first | exact Drawn0.refl _ | apply Drawn0.step)⟩
                      · rw [if_neg c13] at H
                        exact absurd H (by simp)
                    · rw [if_neg c11] at H
                      exact absurd H (by simp)
                  · rw [if_neg c10] at H
                    exact absurd H (by simp)
                · rw [if_neg c9] at H
                  have c9b0 : decide (x22_2 < (y101.length : Int)) = false := decide_eq_false c9
                  clear c9
                  by_cases c24 : (wrap64 ((l0.length : Int) - a1)) ≥ 6
                  · rw [if_pos c24] at H
                    have c24b0 : decide (6 ≤ (wrap64 ((l0.length : Int) - a1))) = true := decide_eq_true c24
                    clear c24
                    simp only [Option.some.injEq, Prod.mk.injEq] at H
                    obtain ⟨rfl, rfl, rfl⟩ := H
                    go_wp2_with (go_step3)
                    ((try rw [Exit.noGoto_ret]); go_ret3)
                    exact ⟨by first | rfl | (simp; done) | (simp [*]; done), by repeat (first | exact Drawn0.refl _ | apply Drawn0.step)⟩
                  · rw [if_neg c24] at H
                    have c24b0 : decide (6 ≤ (wrap64 ((l0.length : Int) - a1))) = false := decide_eq_false c24
                    clear c24
                    simp only [Option.some.injEq, Prod.mk.injEq] at H
                    obtain ⟨rfl, rfl, rfl⟩ := H
                    go_wp2_with (go_step3)
                    ((try rw [Exit.noGoto_ret]); go_ret3)
                    exact ⟨by first | rfl | (simp; done) | (simp [*]; done), by repeat (first | exact Drawn0.refl _ | apply Drawn0.step)⟩
          · rw [if_neg c7] at H
            exact absurd H (by simp)
        · rw [if_neg c6] at H
          exact absurd H (by simp)

/-! ### event_tries: function 22 -/
def event_tries.f (a0 : Int) : Option (Bool) := some (decide (a0 > 3))
set_option maxHeartbeats 8000000 in
set_option maxRecDepth 100000 in
theorem event_tries.calls (a0 : Int) (r : Bool) (w : World) (h : event_tries.f a0 = some r) :
    Calls Tryd.prog 22 #[.int .i64 a0] w fun e w' => e = .returned (.bool r) ∧ Drawn0 w w' := by
  have H : (some (decide (a0 > 3))) = some r := h
  clear h
  obtain rfl := Option.some.inj H
  go_enter Tryd.func22, Tryd.ntmps22
  go_wp2
  go_ret
  exact ⟨by first | rfl | (simp; done) | (simp [*]; done), by repeat (first | exact Drawn0.refl _ | apply Drawn0.step)⟩

end Go.Proofs.YtclkdnpfiolahaaDoor.PEventBack
