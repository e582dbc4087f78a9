-- Written by a patched print (wip/mkprint.py), for this claim.
import Derived.Test.YtfmbdmkiamedeaaDoorPScenePrintsx0
import Derived.Test.YtfmbdmkiamedeaaDoorPScenePrintsx6
import Derived.Test.YtfmbdmkiamedeaaDoorPScenePrintsx7
namespace Go.Proofs.YtfmbdmkiamedeaaDoor.PScenePrints
open Go.RowKit Go.Proofs.YtfmbdmkiamedeaaDoorW.PrintWords Go.Proofs.YtfmbdmkiamedeaaDoorW.PrintLast Go.Proofs.YtfmbdmkiamedeaaDoorW.PrintMore
attribute [local go_sem] max2_int min2_int max_two min_two max_three min_three max_four min_four   -- for this text's walks alone
set_option linter.unusedVariables false
set_option linter.unusedSimpArgs false

/-! ### argosyref27_text: function 19 -/
def textGo (k : Nat) : List Int → ByteArray → Option ByteArray
  | [], s => if s.size + 3 ≤ 9223372036854775807 then some (s ++ (⟨#[32, 59, 10]⟩ : ByteArray)) else none
  | x :: l, s => if s.size + 1 ≤ 9223372036854775807 then (argosyref27_Digits.f k x).bind fun t => if (s ++ (⟨#[32]⟩ : ByteArray)).size + t.size ≤ 9223372036854775807 then textGo k l ((s ++ (⟨#[32]⟩ : ByteArray)) ++ t) else none else none
theorem textGo_mono (k : Nat) : ∀ (l : List Int) (s : ByteArray), LeO (textGo k l s) (textGo (k + 1) l s)
  | [], s => LeO.refl _
  | x :: l, s => by
    unfold textGo
    refine LeO.ite (LeO.bind (argosyref27_Digits.mono _ _) (fun _ => LeO.ite (textGo_mono k l _) (LeO.none _))) (LeO.none _)
def wordT (n : Int) : ByteArray := if n = 1 then ⟨#[116, 105, 99, 107]⟩ else if n = 2 then ⟨#[99, 114, 97, 115, 104]⟩ else if n = 3 then ⟨#[111, 112, 101, 110]⟩ else if n = 4 then ⟨#[97, 114, 109]⟩ else if n = 5 then ⟨#[103, 114, 111, 119]⟩ else ⟨#[]⟩
def textNums (a0 a1 a2 : Int) (l : List Int) : List Int := if a0 = 1 then [a1, a2] else if a0 = 4 then [a1] else if a0 = 5 then [a1] else l
def textF (k : Nat) (a0 a1 a2 : Int) (l : List Int) : Option ByteArray := if 0 ≤ a0 ∧ a0 < 6 then textGo k (textNums a0 a1 a2 l) (wordT a0) else none
/-- A new row of numbers, just laid: it reads. -/
theorem C_new (W : World) (g : Nat) (hg : g = W.heap.size) (xs : List Int) (hm : xs.length ≤ 9223372036854775807) : Kd.C (Kd.int .i64) (W.alloc (.cells (encs (Value.int .i64) xs).toArray 3)) (some ⟨g, 0, none⟩) xs.length xs := by
  subst hg
  exact (Kd.V_C22 (Kd.R_V (base := 0) (base' := 0) (ok := fun _ => True) ⟨fun _ _ => trivial, OwnRow.lit W 0 (Kd.reps_scalar xs) (Nat.zero_le _) hm⟩)).2
theorem rd_drop {L : List Int} {j : Nat} (h : j < L.length) : L.drop j = rd L (j : Int) :: L.drop (j + 1) := by
  rw [List.drop_eq_getElem_cons h]
  congr 1
  unfold rd
  rw [Int.toNat_natCast, List.getD_eq_getElem?_getD, List.getElem?_eq_getElem h, Option.getD_some]
set_option maxHeartbeats 8000000 in
set_option maxRecDepth 100000 in
theorem own_text0 (k : Nat) (a1 a2 : Int) (A : Option Addr) (c : Nat) (l : List Int) (r : ByteArray) (w : World) (hC : Kd.C (Kd.int .i64) w A l.length l) (hc : l.length ≤ c) (h : textGo k l (wordT 0) = some r) :
    Calls Tryd.prog 19 #[.agg #[.int .i64 0, .int .i64 a1, .int .i64 a2, .slice A l.length c]] w fun e w' => e = .returned (.string r) ∧ Below w.heap.size w w' := by
  have hlb : l.length ≤ 9223372036854775807 := Kd.C_max hC
  have hLN : (l : List Int).length = l.length := rfl
  have HC := Aside0.mk hC
  have HH := Aside0.mk h
  clear hC h
  go_enter Tryd.func19, Tryd.ntmps19
  go_wp2
  go_loopg [3, 5] l.length (fun d v3 v5 w' => ∃ (s : ByteArray) (j : Nat), v3 = .string s ∧ v5 = .int .i64 (j : Int) ∧ Aside0 (j + d = l.length) ∧ Aside0 (textGo k ((l).drop j) s = some r) ∧ Aside0 (Kd.C (Kd.int .i64) w' A (l).length (l)) ∧ Aside0 (Below w.heap.size w w'))
  case atStart => exact ⟨_, 0, rfl, rfl, ⟨by omega⟩, HH, ⟨by (with_reducible repeat (first | apply Kd.C_alloc | apply Kd.C_drewN | apply Kd.C_drew)); exact HC.out⟩, ⟨by repeat (first | exact Below.refl _ _ | apply below_alloc | apply pw_below_drewN | apply below_drew1)⟩⟩
  case round =>
    obtain ⟨s, j, rfl, rfl, HD, HA, HR, HB⟩ := hrel
    clear HC HH
    have hd := HD.out
    clear HD
    by_cases hj : j < (l).length
    · obtain ⟨k2, rfl⟩ : ∃ m, gk = m + 1 := ⟨gk - 1, by omega⟩
      have H := HA.out
      clear HA
      rw [rd_drop hj] at H
      unfold textGo at H
      by_cases c1 : s.size + 1 ≤ 9223372036854775807
      · rw [if_pos c1] at H
        obtain ⟨t, hA, H⟩ := Option.bind_eq_some_iff.mp H
        by_cases c2 : (s ++ (⟨#[32]⟩ : ByteArray)).size + t.size ≤ 9223372036854775807
        · rw [if_pos c2] at H
          have HT := Aside0.mk H
          have HX := Aside0.mk hA
          obtain ⟨ad, e1, hx⟩ := Kd.at_int HR.out (j : Int) (by omega) (by omega)
          subst e1
          have b1 : (9223372036854775807 < s.size + 1) = False := eq_false (by omega)
          have b2 : (9223372036854775807 < (s ++ (⟨#[32]⟩ : ByteArray)).size + t.size) = False := eq_false (by omega)
          have b3 := b2
          simp only [ByteArray.size_append] at b3
          have b4 := b3
          simp only [show (⟨#[32]⟩ : ByteArray).size = 1 from rfl] at b4
          have p1 : decide ((j : Int) < (l.length : Int)) = true := decide_eq_true (by omega)
          have p1b : decide (j < l.length) = true := decide_eq_true (by omega)
          have p2 : ((0 : Int) ≤ (j : Int)) = True := eq_true (by omega)
          have p3 : ((j : Int) < (l.length : Int)) = True := eq_true (by omega)
          have pw : wrap64 ((j : Int) + 1) = ((j + 1 : Nat) : Int) := by unfold wrap64; omega
          have HJ := Aside0.mk hd
          have HL := Aside0.mk hlb
          rw [Int.toNat_natCast] at hx
          clear H hA c1 c2 hj hd hLN hlb
          generalize hq : rd (l) (j : Int) = q at *
          clear hq
          go_wp2_with (go_at_call 32; (with_reducible refine (argosyref27_Digits.calls k q t _ HX.out).mono ?_); rintro e w1 ⟨rfl, hb⟩; have n0_ := Aside0.mk (Kd.C_below (by (with_reducible repeat (first | apply Kd.C_alloc | apply Kd.C_drewN | apply Kd.C_drew)); exact HR.out) hb); have n1_ := Aside0.mk (below_step (by repeat (first | exact HB.out | apply below_alloc | apply pw_below_drewN | apply below_drew1)) hb); clear HR HB hb; have HR := n0_; have HB := n1_; clear n0_ n1_)
          go_roundg k2
          case measure => omega
          case rel => exact ⟨_, j + 1, rfl, by (try rw [pw]), ⟨by have := HJ.out; omega⟩, HT, ⟨by (with_reducible repeat (first | apply Kd.C_alloc | apply Kd.C_drewN | apply Kd.C_drew)); exact HR.out⟩, ⟨by repeat (first | exact HB.out | apply below_alloc | apply pw_below_drewN | apply below_drew1)⟩⟩
        · rw [if_neg c2] at H
          exact absurd H (by simp)
      · rw [if_neg c1] at H
        exact absurd H (by simp)
    · have H := HA.out
      clear HA
      rw [List.drop_eq_nil_of_le (by omega)] at H
      unfold textGo at H
      by_cases c1 : s.size + 3 ≤ 9223372036854775807
      · rw [if_pos c1] at H
        obtain rfl := Option.some.inj H
        have b1 : (9223372036854775807 < s.size + 3) = False := eq_false (by omega)
        have p1 : decide ((j : Int) < (l.length : Int)) = false := decide_eq_false (by omega)
        have p1b : decide (j < l.length) = false := decide_eq_false (by omega)
        clear c1 hj hd hLN hlb
        go_wp2
        go_ret
        exact ⟨rfl, by repeat (first | exact HB.out | apply below_alloc | apply pw_below_drewN | apply below_drew1)⟩
      · rw [if_neg c1] at H
        exact absurd H (by simp)
set_option maxHeartbeats 8000000 in
set_option maxRecDepth 100000 in
theorem own_text1 (k : Nat) (a1 a2 : Int) (A : Option Addr) (c : Nat) (l : List Int) (r : ByteArray) (w : World) (hC : Kd.C (Kd.int .i64) w A l.length l) (hc : l.length ≤ c) (h : textGo k [a1, a2] (wordT 1) = some r) :
    Calls Tryd.prog 19 #[.agg #[.int .i64 1, .int .i64 a1, .int .i64 a2, .slice A l.length c]] w fun e w' => e = .returned (.string r) ∧ Below w.heap.size w w' := by
  have hlb : l.length ≤ 9223372036854775807 := Kd.C_max hC
  have hLN : ([a1, a2] : List Int).length = 2 := rfl
  have HC := Aside0.mk hC
  have HH := Aside0.mk h
  clear hC h
  go_enter Tryd.func19, Tryd.ntmps19
  go_wp2
  go_loopg [3, 5] 2 (fun d v3 v5 w' => ∃ (s : ByteArray) (j : Nat), v3 = .string s ∧ v5 = .int .i64 (j : Int) ∧ Aside0 (j + d = 2) ∧ Aside0 (textGo k (([a1, a2]).drop j) s = some r) ∧ Aside0 (Kd.C (Kd.int .i64) w' (some ⟨w.heap.size + 1 + 1, 0, none⟩) ([a1, a2]).length ([a1, a2])) ∧ Aside0 (Below w.heap.size w w'))
  case atStart => exact ⟨_, 0, rfl, rfl, ⟨by omega⟩, HH, ⟨C_new ((w.alloc _).alloc _) (w.heap.size + 1 + 1) (by simp) [a1, a2] (by simp)⟩, ⟨by repeat (first | exact Below.refl _ _ | apply below_alloc | apply pw_below_drewN | apply below_drew1)⟩⟩
  case round =>
    obtain ⟨s, j, rfl, rfl, HD, HA, HR, HB⟩ := hrel
    clear HC HH
    have hd := HD.out
    clear HD
    by_cases hj : j < ([a1, a2]).length
    · obtain ⟨k2, rfl⟩ : ∃ m, gk = m + 1 := ⟨gk - 1, by omega⟩
      have H := HA.out
      clear HA
      rw [rd_drop hj] at H
      unfold textGo at H
      by_cases c1 : s.size + 1 ≤ 9223372036854775807
      · rw [if_pos c1] at H
        obtain ⟨t, hA, H⟩ := Option.bind_eq_some_iff.mp H
        by_cases c2 : (s ++ (⟨#[32]⟩ : ByteArray)).size + t.size ≤ 9223372036854775807
        · rw [if_pos c2] at H
          have HT := Aside0.mk H
          have HX := Aside0.mk hA
          obtain ⟨ad, e1, hx⟩ := Kd.at_int HR.out (j : Int) (by omega) (by omega)
          obtain rfl := Option.some.inj e1
          have b1 : (9223372036854775807 < s.size + 1) = False := eq_false (by omega)
          have b2 : (9223372036854775807 < (s ++ (⟨#[32]⟩ : ByteArray)).size + t.size) = False := eq_false (by omega)
          have b3 := b2
          simp only [ByteArray.size_append] at b3
          have b4 := b3
          simp only [show (⟨#[32]⟩ : ByteArray).size = 1 from rfl] at b4
          have p1 : decide ((j : Int) < (2 : Int)) = true := decide_eq_true (by omega)
          have p1b : decide (j < 2) = true := decide_eq_true (by omega)
          have p2 : ((0 : Int) ≤ (j : Int)) = True := eq_true (by omega)
          have p3 : ((j : Int) < (2 : Int)) = True := eq_true (by omega)
          have pw : wrap64 ((j : Int) + 1) = ((j + 1 : Nat) : Int) := by unfold wrap64; omega
          have HJ := Aside0.mk hd
          have HL := Aside0.mk hlb
          rw [Int.toNat_natCast, add_plain] at hx
          clear H hA c1 c2 hj hd hLN hlb
          generalize hq : rd ([a1, a2]) (j : Int) = q at *
          clear hq
          go_wp2_with (go_at_call 32; (with_reducible refine (argosyref27_Digits.calls k q t _ HX.out).mono ?_); rintro e w1 ⟨rfl, hb⟩; have n0_ := Aside0.mk (Kd.C_below (by (with_reducible repeat (first | apply Kd.C_alloc | apply Kd.C_drewN | apply Kd.C_drew)); exact HR.out) hb); have n1_ := Aside0.mk (below_step (by repeat (first | exact HB.out | apply below_alloc | apply pw_below_drewN | apply below_drew1)) hb); clear HR HB hb; have HR := n0_; have HB := n1_; clear n0_ n1_)
          go_roundg k2
          case measure => omega
          case rel => exact ⟨_, j + 1, rfl, by (try rw [pw]), ⟨by have := HJ.out; omega⟩, HT, ⟨by (with_reducible repeat (first | apply Kd.C_alloc | apply Kd.C_drewN | apply Kd.C_drew)); exact HR.out⟩, ⟨by repeat (first | exact HB.out | apply below_alloc | apply pw_below_drewN | apply below_drew1)⟩⟩
        · rw [if_neg c2] at H
          exact absurd H (by simp)
      · rw [if_neg c1] at H
        exact absurd H (by simp)
    · have H := HA.out
      clear HA
      rw [List.drop_eq_nil_of_le (by omega)] at H
      unfold textGo at H
      by_cases c1 : s.size + 3 ≤ 9223372036854775807
      · rw [if_pos c1] at H
        obtain rfl := Option.some.inj H
        have b1 : (9223372036854775807 < s.size + 3) = False := eq_false (by omega)
        have p1 : decide ((j : Int) < (2 : Int)) = false := decide_eq_false (by omega)
        have p1b : decide (j < 2) = false := decide_eq_false (by omega)
        clear c1 hj hd hLN hlb
        go_wp2
        go_ret
        exact ⟨rfl, by repeat (first | exact HB.out | apply below_alloc | apply pw_below_drewN | apply below_drew1)⟩
      · rw [if_neg c1] at H
        exact absurd H (by simp)
set_option maxHeartbeats 8000000 in
set_option maxRecDepth 100000 in
theorem own_text2 (k : Nat) (a1 a2 : Int) (A : Option Addr) (c : Nat) (l : List Int) (r : ByteArray) (w : World) (hC : Kd.C (Kd.int .i64) w A l.length l) (hc : l.length ≤ c) (h : textGo k l (wordT 2) = some r) :
    Calls Tryd.prog 19 #[.agg #[.int .i64 2, .int .i64 a1, .int .i64 a2, .slice A l.length c]] w fun e w' => e = .returned (.string r) ∧ Below w.heap.size w w' := by
  have hlb : l.length ≤ 9223372036854775807 := Kd.C_max hC
  have hLN : (l : List Int).length = l.length := rfl
  have HC := Aside0.mk hC
  have HH := Aside0.mk h
  clear hC h
  go_enter Tryd.func19, Tryd.ntmps19
  go_wp2
  go_loopg [3, 5] l.length (fun d v3 v5 w' => ∃ (s : ByteArray) (j : Nat), v3 = .string s ∧ v5 = .int .i64 (j : Int) ∧ Aside0 (j + d = l.length) ∧ Aside0 (textGo k ((l).drop j) s = some r) ∧ Aside0 (Kd.C (Kd.int .i64) w' A (l).length (l)) ∧ Aside0 (Below w.heap.size w w'))
  case atStart => exact ⟨_, 0, rfl, rfl, ⟨by omega⟩, HH, ⟨by (with_reducible repeat (first | apply Kd.C_alloc | apply Kd.C_drewN | apply Kd.C_drew)); exact HC.out⟩, ⟨by repeat (first | exact Below.refl _ _ | apply below_alloc | apply pw_below_drewN | apply below_drew1)⟩⟩
  case round =>
    obtain ⟨s, j, rfl, rfl, HD, HA, HR, HB⟩ := hrel
    clear HC HH
    have hd := HD.out
    clear HD
    by_cases hj : j < (l).length
    · obtain ⟨k2, rfl⟩ : ∃ m, gk = m + 1 := ⟨gk - 1, by omega⟩
      have H := HA.out
      clear HA
      rw [rd_drop hj] at H
      unfold textGo at H
      by_cases c1 : s.size + 1 ≤ 9223372036854775807
      · rw [if_pos c1] at H
        obtain ⟨t, hA, H⟩ := Option.bind_eq_some_iff.mp H
        by_cases c2 : (s ++ (⟨#[32]⟩ : ByteArray)).size + t.size ≤ 9223372036854775807
        · rw [if_pos c2] at H
          have HT := Aside0.mk H
          have HX := Aside0.mk hA
          obtain ⟨ad, e1, hx⟩ := Kd.at_int HR.out (j : Int) (by omega) (by omega)
          subst e1
          have b1 : (9223372036854775807 < s.size + 1) = False := eq_false (by omega)
          have b2 : (9223372036854775807 < (s ++ (⟨#[32]⟩ : ByteArray)).size + t.size) = False := eq_false (by omega)
          have b3 := b2
          simp only [ByteArray.size_append] at b3
          have b4 := b3
          simp only [show (⟨#[32]⟩ : ByteArray).size = 1 from rfl] at b4
          have p1 : decide ((j : Int) < (l.length : Int)) = true := decide_eq_true (by omega)
          have p1b : decide (j < l.length) = true := decide_eq_true (by omega)
          have p2 : ((0 : Int) ≤ (j : Int)) = True := eq_true (by omega)
          have p3 : ((j : Int) < (l.length : Int)) = True := eq_true (by omega)
          have pw : wrap64 ((j : Int) + 1) = ((j + 1 : Nat) : Int) := by unfold wrap64; omega
          have HJ := Aside0.mk hd
          have HL := Aside0.mk hlb
          rw [Int.toNat_natCast] at hx
          clear H hA c1 c2 hj hd hLN hlb
          generalize hq : rd (l) (j : Int) = q at *
          clear hq
          go_wp2_with (go_at_call 32; (with_reducible refine (argosyref27_Digits.calls k q t _ HX.out).mono ?_); rintro e w1 ⟨rfl, hb⟩; have n0_ := Aside0.mk (Kd.C_below (by (with_reducible repeat (first | apply Kd.C_alloc | apply Kd.C_drewN | apply Kd.C_drew)); exact HR.out) hb); have n1_ := Aside0.mk (below_step (by repeat (first | exact HB.out | apply below_alloc | apply pw_below_drewN | apply below_drew1)) hb); clear HR HB hb; have HR := n0_; have HB := n1_; clear n0_ n1_)
          go_roundg k2
          case measure => omega
          case rel => exact ⟨_, j + 1, rfl, by (try rw [pw]), ⟨by have := HJ.out; omega⟩, HT, ⟨by (with_reducible repeat (first | apply Kd.C_alloc | apply Kd.C_drewN | apply Kd.C_drew)); exact HR.out⟩, ⟨by repeat (first | exact HB.out | apply below_alloc | apply pw_below_drewN | apply below_drew1)⟩⟩
        · rw [if_neg c2] at H
          exact absurd H (by simp)
      · rw [if_neg c1] at H
        exact absurd H (by simp)
    · have H := HA.out
      clear HA
      rw [List.drop_eq_nil_of_le (by omega)] at H
      unfold textGo at H
      by_cases c1 : s.size + 3 ≤ 9223372036854775807
      · rw [if_pos c1] at H
        obtain rfl := Option.some.inj H
        have b1 : (9223372036854775807 < s.size + 3) = False := eq_false (by omega)
        have p1 : decide ((j : Int) < (l.length : Int)) = false := decide_eq_false (by omega)
        have p1b : decide (j < l.length) = false := decide_eq_false (by omega)
        clear c1 hj hd hLN hlb
        go_wp2
        go_ret
        exact ⟨rfl, by repeat (first | exact HB.out | apply below_alloc | apply pw_below_drewN | apply below_drew1)⟩
      · rw [if_neg c1] at H
        exact absurd H (by simp)
set_option maxHeartbeats 8000000 in
set_option maxRecDepth 100000 in
theorem own_text3 (k : Nat) (a1 a2 : Int) (A : Option Addr) (c : Nat) (l : List Int) (r : ByteArray) (w : World) (hC : Kd.C (Kd.int .i64) w A l.length l) (hc : l.length ≤ c) (h : textGo k l (wordT 3) = some r) :
    Calls Tryd.prog 19 #[.agg #[.int .i64 3, .int .i64 a1, .int .i64 a2, .slice A l.length c]] w fun e w' => e = .returned (.string r) ∧ Below w.heap.size w w' := by
  have hlb : l.length ≤ 9223372036854775807 := Kd.C_max hC
  have hLN : (l : List Int).length = l.length := rfl
  have HC := Aside0.mk hC
  have HH := Aside0.mk h
  clear hC h
  go_enter Tryd.func19, Tryd.ntmps19
  go_wp2
  go_loopg [3, 5] l.length (fun d v3 v5 w' => ∃ (s : ByteArray) (j : Nat), v3 = .string s ∧ v5 = .int .i64 (j : Int) ∧ Aside0 (j + d = l.length) ∧ Aside0 (textGo k ((l).drop j) s = some r) ∧ Aside0 (Kd.C (Kd.int .i64) w' A (l).length (l)) ∧ Aside0 (Below w.heap.size w w'))
  case atStart => exact ⟨_, 0, rfl, rfl, ⟨by omega⟩, HH, ⟨by (with_reducible repeat (first | apply Kd.C_alloc | apply Kd.C_drewN | apply Kd.C_drew)); exact HC.out⟩, ⟨by repeat (first | exact Below.refl _ _ | apply below_alloc | apply pw_below_drewN | apply below_drew1)⟩⟩
  case round =>
    obtain ⟨s, j, rfl, rfl, HD, HA, HR, HB⟩ := hrel
    clear HC HH
    have hd := HD.out
    clear HD
    by_cases hj : j < (l).length
    · obtain ⟨k2, rfl⟩ : ∃ m, gk = m + 1 := ⟨gk - 1, by omega⟩
      have H := HA.out
      clear HA
      rw [rd_drop hj] at H
      unfold textGo at H
      by_cases c1 : s.size + 1 ≤ 9223372036854775807
      · rw [if_pos c1] at H
        obtain ⟨t, hA, H⟩ := Option.bind_eq_some_iff.mp H
        by_cases c2 : (s ++ (⟨#[32]⟩ : ByteArray)).size + t.size ≤ 9223372036854775807
        · rw [if_pos c2] at H
          have HT := Aside0.mk H
          have HX := Aside0.mk hA
          obtain ⟨ad, e1, hx⟩ := Kd.at_int HR.out (j : Int) (by omega) (by omega)
          subst e1
          have b1 : (9223372036854775807 < s.size + 1) = False := eq_false (by omega)
          have b2 : (9223372036854775807 < (s ++ (⟨#[32]⟩ : ByteArray)).size + t.size) = False := eq_false (by omega)
          have b3 := b2
          simp only [ByteArray.size_append] at b3
          have b4 := b3
          simp only [show (⟨#[32]⟩ : ByteArray).size = 1 from rfl] at b4
          have p1 : decide ((j : Int) < (l.length : Int)) = true := decide_eq_true (by omega)
          have p1b : decide (j < l.length) = true := decide_eq_true (by omega)
          have p2 : ((0 : Int) ≤ (j : Int)) = True := eq_true (by omega)
          have p3 : ((j : Int) < (l.length : Int)) = True := eq_true (by omega)
          have pw : wrap64 ((j : Int) + 1) = ((j + 1 : Nat) : Int) := by unfold wrap64; omega
          have HJ := Aside0.mk hd
          have HL := Aside0.mk hlb
          rw [Int.toNat_natCast] at hx
          clear H hA c1 c2 hj hd hLN hlb
          generalize hq : rd (l) (j : Int) = q at *
          clear hq
          go_wp2_with (go_at_call 32; (with_reducible refine (argosyref27_Digits.calls k q t _ HX.out).mono ?_); rintro e w1 ⟨rfl, hb⟩; have n0_ := Aside0.mk (Kd.C_below (by (with_reducible repeat (first | apply Kd.C_alloc | apply Kd.C_drewN | apply Kd.C_drew)); exact HR.out) hb); have n1_ := Aside0.mk (below_step (by repeat (first | exact HB.out | apply below_alloc | apply pw_below_drewN | apply below_drew1)) hb); clear HR HB hb; have HR := n0_; have HB := n1_; clear n0_ n1_)
          go_roundg k2
          case measure => omega
          case rel => exact ⟨_, j + 1, rfl, by (try rw [pw]), ⟨by have := HJ.out; omega⟩, HT, ⟨by (with_reducible repeat (first | apply Kd.C_alloc | apply Kd.C_drewN | apply Kd.C_drew)); exact HR.out⟩, ⟨by repeat (first | exact HB.out | apply below_alloc | apply pw_below_drewN | apply below_drew1)⟩⟩
        · rw [if_neg c2] at H
          exact absurd H (by simp)
      · rw [if_neg c1] at H
        exact absurd H (by simp)
    · have H := HA.out
      clear HA
      rw [List.drop_eq_nil_of_le (by omega)] at H
      unfold textGo at H
      by_cases c1 : s.size + 3 ≤ 9223372036854775807
      · rw [if_pos c1] at H
        obtain rfl := Option.some.inj H
        have b1 : (9223372036854775807 < s.size + 3) = False := eq_false (by omega)
        have p1 : decide ((j : Int) < (l.length : Int)) = false := decide_eq_false (by omega)
        have p1b : decide (j < l.length) = false := decide_eq_false (by omega)
        clear c1 hj hd hLN hlb
        go_wp2
        go_ret
        exact ⟨rfl, by repeat (first | exact HB.out | apply below_alloc | apply pw_below_drewN | apply below_drew1)⟩
      · rw [if_neg c1] at H
        exact absurd H (by simp)
set_option maxHeartbeats 8000000 in
set_option maxRecDepth 100000 in
theorem own_text4 (k : Nat) (a1 a2 : Int) (A : Option Addr) (c : Nat) (l : List Int) (r : ByteArray) (w : World) (hC : Kd.C (Kd.int .i64) w A l.length l) (hc : l.length ≤ c) (h : textGo k [a1] (wordT 4) = some r) :
    Calls Tryd.prog 19 #[.agg #[.int .i64 4, .int .i64 a1, .int .i64 a2, .slice A l.length c]] w fun e w' => e = .returned (.string r) ∧ Below w.heap.size w w' := by
  have hlb : l.length ≤ 9223372036854775807 := Kd.C_max hC
  have hLN : ([a1] : List Int).length = 1 := rfl
  have HC := Aside0.mk hC
  have HH := Aside0.mk h
  clear hC h
  go_enter Tryd.func19, Tryd.ntmps19
  go_wp2
  go_loopg [3, 5] 1 (fun d v3 v5 w' => ∃ (s : ByteArray) (j : Nat), v3 = .string s ∧ v5 = .int .i64 (j : Int) ∧ Aside0 (j + d = 1) ∧ Aside0 (textGo k (([a1]).drop j) s = some r) ∧ Aside0 (Kd.C (Kd.int .i64) w' (some ⟨w.heap.size + 1 + 1, 0, none⟩) ([a1]).length ([a1])) ∧ Aside0 (Below w.heap.size w w'))
  case atStart => exact ⟨_, 0, rfl, rfl, ⟨by omega⟩, HH, ⟨C_new ((w.alloc _).alloc _) (w.heap.size + 1 + 1) (by simp) [a1] (by simp)⟩, ⟨by repeat (first | exact Below.refl _ _ | apply below_alloc | apply pw_below_drewN | apply below_drew1)⟩⟩
  case round =>
    obtain ⟨s, j, rfl, rfl, HD, HA, HR, HB⟩ := hrel
    clear HC HH
    have hd := HD.out
    clear HD
    by_cases hj : j < ([a1]).length
    · obtain ⟨k2, rfl⟩ : ∃ m, gk = m + 1 := ⟨gk - 1, by omega⟩
      have H := HA.out
      clear HA
      rw [rd_drop hj] at H
      unfold textGo at H
      by_cases c1 : s.size + 1 ≤ 9223372036854775807
      · rw [if_pos c1] at H
        obtain ⟨t, hA, H⟩ := Option.bind_eq_some_iff.mp H
        by_cases c2 : (s ++ (⟨#[32]⟩ : ByteArray)).size + t.size ≤ 9223372036854775807
        · rw [if_pos c2] at H
          have HT := Aside0.mk H
          have HX := Aside0.mk hA
          obtain ⟨ad, e1, hx⟩ := Kd.at_int HR.out (j : Int) (by omega) (by omega)
          obtain rfl := Option.some.inj e1
          have b1 : (9223372036854775807 < s.size + 1) = False := eq_false (by omega)
          have b2 : (9223372036854775807 < (s ++ (⟨#[32]⟩ : ByteArray)).size + t.size) = False := eq_false (by omega)
          have b3 := b2
          simp only [ByteArray.size_append] at b3
          have b4 := b3
          simp only [show (⟨#[32]⟩ : ByteArray).size = 1 from rfl] at b4
          have p1 : decide ((j : Int) < (1 : Int)) = true := decide_eq_true (by omega)
          have p1b : decide (j < 1) = true := decide_eq_true (by omega)
          have p2 : ((0 : Int) ≤ (j : Int)) = True := eq_true (by omega)
          have p3 : ((j : Int) < (1 : Int)) = True := eq_true (by omega)
          have pw : wrap64 ((j : Int) + 1) = ((j + 1 : Nat) : Int) := by unfold wrap64; omega
          have HJ := Aside0.mk hd
          have HL := Aside0.mk hlb
          rw [Int.toNat_natCast, add_plain] at hx
          clear H hA c1 c2 hj hd hLN hlb
          generalize hq : rd ([a1]) (j : Int) = q at *
          clear hq
          go_wp2_with (go_at_call 32; (with_reducible refine (argosyref27_Digits.calls k q t _ HX.out).mono ?_); rintro e w1 ⟨rfl, hb⟩; have n0_ := Aside0.mk (Kd.C_below (by (with_reducible repeat (first | apply Kd.C_alloc | apply Kd.C_drewN | apply Kd.C_drew)); exact HR.out) hb); have n1_ := Aside0.mk (below_step (by repeat (first | exact HB.out | apply below_alloc | apply pw_below_drewN | apply below_drew1)) hb); clear HR HB hb; have HR := n0_; have HB := n1_; clear n0_ n1_)
          go_roundg k2
          case measure => omega
          case rel => exact ⟨_, j + 1, rfl, by (try rw [pw]), ⟨by have := HJ.out; omega⟩, HT, ⟨by (with_reducible repeat (first | apply Kd.C_alloc | apply Kd.C_drewN | apply Kd.C_drew)); exact HR.out⟩, ⟨by repeat (first | exact HB.out | apply below_alloc | apply pw_below_drewN | apply below_drew1)⟩⟩
        · rw [if_neg c2] at H
          exact absurd H (by simp)
      · rw [if_neg c1] at H
        exact absurd H (by simp)
    · have H := HA.out
      clear HA
      rw [List.drop_eq_nil_of_le (by omega)] at H
      unfold textGo at H
      by_cases c1 : s.size + 3 ≤ 9223372036854775807
      · rw [if_pos c1] at H
        obtain rfl := Option.some.inj H
        have b1 : (9223372036854775807 < s.size + 3) = False := eq_false (by omega)
        have p1 : decide ((j : Int) < (1 : Int)) = false := decide_eq_false (by omega)
        have p1b : decide (j < 1) = false := decide_eq_false (by omega)
        clear c1 hj hd hLN hlb
        go_wp2
        go_ret
        exact ⟨rfl, by repeat (first | exact HB.out | apply below_alloc | apply pw_below_drewN | apply below_drew1)⟩
      · rw [if_neg c1] at H
        exact absurd H (by simp)
set_option maxHeartbeats 8000000 in
set_option maxRecDepth 100000 in
theorem own_text5 (k : Nat) (a1 a2 : Int) (A : Option Addr) (c : Nat) (l : List Int) (r : ByteArray) (w : World) (hC : Kd.C (Kd.int .i64) w A l.length l) (hc : l.length ≤ c) (h : textGo k [a1] (wordT 5) = some r) :
    Calls Tryd.prog 19 #[.agg #[.int .i64 5, .int .i64 a1, .int .i64 a2, .slice A l.length c]] w fun e w' => e = .returned (.string r) ∧ Below w.heap.size w w' := by
  have hlb : l.length ≤ 9223372036854775807 := Kd.C_max hC
  have hLN : ([a1] : List Int).length = 1 := rfl
  have HC := Aside0.mk hC
  have HH := Aside0.mk h
  clear hC h
  go_enter Tryd.func19, Tryd.ntmps19
  go_wp2
  go_loopg [3, 5] 1 (fun d v3 v5 w' => ∃ (s : ByteArray) (j : Nat), v3 = .string s ∧ v5 = .int .i64 (j : Int) ∧ Aside0 (j + d = 1) ∧ Aside0 (textGo k (([a1]).drop j) s = some r) ∧ Aside0 (Kd.C (Kd.int .i64) w' (some ⟨w.heap.size + 1 + 1, 0, none⟩) ([a1]).length ([a1])) ∧ Aside0 (Below w.heap.size w w'))
  case atStart => exact ⟨_, 0, rfl, rfl, ⟨by omega⟩, HH, ⟨C_new ((w.alloc _).alloc _) (w.heap.size + 1 + 1) (by simp) [a1] (by simp)⟩, ⟨by repeat (first | exact Below.refl _ _ | apply below_alloc | apply pw_below_drewN | apply below_drew1)⟩⟩
  case round =>
    obtain ⟨s, j, rfl, rfl, HD, HA, HR, HB⟩ := hrel
    clear HC HH
    have hd := HD.out
    clear HD
    by_cases hj : j < ([a1]).length
    · obtain ⟨k2, rfl⟩ : ∃ m, gk = m + 1 := ⟨gk - 1, by omega⟩
      have H := HA.out
      clear HA
      rw [rd_drop hj] at H
      unfold textGo at H
      by_cases c1 : s.size + 1 ≤ 9223372036854775807
      · rw [if_pos c1] at H
        obtain ⟨t, hA, H⟩ := Option.bind_eq_some_iff.mp H
        by_cases c2 : (s ++ (⟨#[32]⟩ : ByteArray)).size + t.size ≤ 9223372036854775807
        · rw [if_pos c2] at H
          have HT := Aside0.mk H
          have HX := Aside0.mk hA
          obtain ⟨ad, e1, hx⟩ := Kd.at_int HR.out (j : Int) (by omega) (by omega)
          obtain rfl := Option.some.inj e1
          have b1 : (9223372036854775807 < s.size + 1) = False := eq_false (by omega)
          have b2 : (9223372036854775807 < (s ++ (⟨#[32]⟩ : ByteArray)).size + t.size) = False := eq_false (by omega)
          have b3 := b2
          simp only [ByteArray.size_append] at b3
          have b4 := b3
          simp only [show (⟨#[32]⟩ : ByteArray).size = 1 from rfl] at b4
          have p1 : decide ((j : Int) < (1 : Int)) = true := decide_eq_true (by omega)
          have p1b : decide (j < 1) = true := decide_eq_true (by omega)
          have p2 : ((0 : Int) ≤ (j : Int)) = True := eq_true (by omega)
          have p3 : ((j : Int) < (1 : Int)) = True := eq_true (by omega)
          have pw : wrap64 ((j : Int) + 1) = ((j + 1 : Nat) : Int) := by unfold wrap64; omega
          have HJ := Aside0.mk hd
          have HL := Aside0.mk hlb
          rw [Int.toNat_natCast, add_plain] at hx
          clear H hA c1 c2 hj hd hLN hlb
          generalize hq : rd ([a1]) (j : Int) = q at *
          clear hq
          go_wp2_with (go_at_call 32; (with_reducible refine (argosyref27_Digits.calls k q t _ HX.out).mono ?_); rintro e w1 ⟨rfl, hb⟩; have n0_ := Aside0.mk (Kd.C_below (by (with_reducible repeat (first | apply Kd.C_alloc | apply Kd.C_drewN | apply Kd.C_drew)); exact HR.out) hb); have n1_ := Aside0.mk (below_step (by repeat (first | exact HB.out | apply below_alloc | apply pw_below_drewN | apply below_drew1)) hb); clear HR HB hb; have HR := n0_; have HB := n1_; clear n0_ n1_)
          go_roundg k2
          case measure => omega
          case rel => exact ⟨_, j + 1, rfl, by (try rw [pw]), ⟨by have := HJ.out; omega⟩, HT, ⟨by (with_reducible repeat (first | apply Kd.C_alloc | apply Kd.C_drewN | apply Kd.C_drew)); exact HR.out⟩, ⟨by repeat (first | exact HB.out | apply below_alloc | apply pw_below_drewN | apply below_drew1)⟩⟩
        · rw [if_neg c2] at H
          exact absurd H (by simp)
      · rw [if_neg c1] at H
        exact absurd H (by simp)
    · have H := HA.out
      clear HA
      rw [List.drop_eq_nil_of_le (by omega)] at H
      unfold textGo at H
      by_cases c1 : s.size + 3 ≤ 9223372036854775807
      · rw [if_pos c1] at H
        obtain rfl := Option.some.inj H
        have b1 : (9223372036854775807 < s.size + 3) = False := eq_false (by omega)
        have p1 : decide ((j : Int) < (1 : Int)) = false := decide_eq_false (by omega)
        have p1b : decide (j < 1) = false := decide_eq_false (by omega)
        clear c1 hj hd hLN hlb
        go_wp2
        go_ret
        exact ⟨rfl, by repeat (first | exact HB.out | apply below_alloc | apply pw_below_drewN | apply below_drew1)⟩
      · rw [if_neg c1] at H
        exact absurd H (by simp)
theorem own_text (k : Nat) (a0 a1 a2 : Int) (A : Option Addr) (c : Nat) (l : List Int) (r : ByteArray) (w : World) (hC : Kd.C (Kd.int .i64) w A l.length l) (hc : l.length ≤ c) (h : textF k a0 a1 a2 l = some r) :
    Calls Tryd.prog 19 #[.agg #[.int .i64 a0, .int .i64 a1, .int .i64 a2, .slice A l.length c]] w fun e w' => e = .returned (.string r) ∧ Below w.heap.size w w' := by
  unfold textF at h
  by_cases h6 : 0 ≤ a0 ∧ a0 < 6
  · rw [if_pos h6] at h
    obtain rfl | rfl | rfl | rfl | rfl | rfl : a0 = 0 ∨ a0 = 1 ∨ a0 = 2 ∨ a0 = 3 ∨ a0 = 4 ∨ a0 = 5 := by omega
    · exact own_text0 k a1 a2 A c l r w hC hc h
    · exact own_text1 k a1 a2 A c l r w hC hc h
    · exact own_text2 k a1 a2 A c l r w hC hc h
    · exact own_text3 k a1 a2 A c l r w hC hc h
    · exact own_text4 k a1 a2 A c l r w hC hc h
    · exact own_text5 k a1 a2 A c l r w hC hc h
  · rw [if_neg h6] at h
    exact absurd h (by simp)
def argosyref27_text.f (k : Nat) (a0_0 : Int) (a0_1 : Int) (a0_2 : Int) (l0_3 : List Int) : Option (ByteArray) := textF k a0_0 a0_1 a0_2 l0_3
theorem argosyref27_text.mono : ∀ a0 a1 a2 a3 k, LeO (argosyref27_text.f k a0 a1 a2 a3) (argosyref27_text.f (k + 1) a0 a1 a2 a3) := fun a0 a1 a2 a3 k => by
  unfold argosyref27_text.f textF
  exact LeO.ite (textGo_mono k _ _) (LeO.none _)
theorem argosyref27_text.calls (k : Nat) (a0_0 : Int) (a0_1 : Int) (a0_2 : Int) (A0_3 : Option Addr) (c0_3 : Nat) (l0_3 : List Int) (r : ByteArray) (w : World) (hr0_3 : Kd.C (Kd.int .i64) w A0_3 l0_3.length l0_3) (hc0_3 : l0_3.length ≤ c0_3) (h : argosyref27_text.f k a0_0 a0_1 a0_2 l0_3 = some r) :
    Calls Tryd.prog 19 #[.agg #[.int .i64 a0_0, .int .i64 a0_1, .int .i64 a0_2, .slice A0_3 l0_3.length c0_3]] w fun e w' => e = .returned (.string r) ∧ Below w.heap.size w w' :=
  own_text k a0_0 a0_1 a0_2 A0_3 c0_3 l0_3 r w hr0_3 hc0_3 h

/-! ### argosyref27_Print: function 8 -/
def argosyref27_Print.l0 : Nat → List (S34) → ByteArray → Int → Option (ByteArray × Int)
  | 0, _, _, _ => none
  | k + 1, x0, x4, x5 => if x5 < (x0.length : Int) then (if 0 ≤ x5 then ((argosyref27_Right.f k ((rd_T34 x0 x5).f0) ((rd_T34 x0 x5).f1) ((rd_T34 x0 x5).f2) ((rd_T34 x0 x5).f3)).bind fun t173 => (if t173 = true then ((argosyref27_text.f k ((rd_T34 x0 x5).f0) ((rd_T34 x0 x5).f1) ((rd_T34 x0 x5).f2) ((rd_T34 x0 x5).f3)).bind fun t175 => (if x4.size + t175.size ≤ 9223372036854775807 then (argosyref27_Print.l0 k x0 (x4 ++ t175) (wrap64 (x5 + 1))) else (none))) else (some ((⟨#[]⟩ : ByteArray), 2)))) else (none)) else (some (x4, 0))
def argosyref27_Print.f (k : Nat) (l0 : List (S34)) : Option (ByteArray × Int) := if (l0.length : Int) > 1000 then (some ((⟨#[]⟩ : ByteArray), 5)) else (argosyref27_Print.l0 k l0 (⟨#[]⟩ : ByteArray) 0)
theorem argosyref27_Print.mono_l : ∀ k, (∀ y0 y1 y2, LeO (argosyref27_Print.l0 k y0 y1 y2) (argosyref27_Print.l0 (k + 1) y0 y1 y2))
  | 0 => fun _ _ _ r h => by simp [argosyref27_Print.l0] at h
  | k + 1 => by
    have ih0 := argosyref27_Print.mono_l k
    · intro y0 y1 y2
      unfold argosyref27_Print.l0
      repeat' first
      | (with_reducible exact ih0 _ _ _)
      | (with_reducible exact argosyref27_Right.mono _ _ _ _ _)
      | (with_reducible exact argosyref27_text.mono _ _ _ _ _)
      | (with_reducible exact LeO.refl _)
      | (with_reducible exact LeO.none _)
      | (with_reducible refine LeO.ite ?_ ?_)
      | (with_reducible refine LeO.bind ?_ (fun _ => ?_))
      | exact ih0 _ _ _
      | exact argosyref27_Right.mono _ _ _ _ _
      | exact argosyref27_text.mono _ _ _ _ _
      | exact LeO.none _
      | refine LeO.ite ?_ ?_
      | refine LeO.bind ?_ (fun _ => ?_)
theorem argosyref27_Print.mono : ∀ a0 k, LeO (argosyref27_Print.f k a0) (argosyref27_Print.f (k + 1) a0) := by
  intro a0 k
  have ih0 := argosyref27_Print.mono_l k
  unfold argosyref27_Print.f
  repeat' first
      | (with_reducible exact ih0 _ _ _)
      | (with_reducible exact argosyref27_Right.mono _ _ _ _ _)
      | (with_reducible exact argosyref27_text.mono _ _ _ _ _)
      | (with_reducible exact LeO.refl _)
      | (with_reducible exact LeO.none _)
      | (with_reducible refine LeO.ite ?_ ?_)
      | (with_reducible refine LeO.bind ?_ (fun _ => ?_))
      | exact ih0 _ _ _
      | exact argosyref27_Right.mono _ _ _ _ _
      | exact argosyref27_text.mono _ _ _ _ _
      | exact LeO.none _
      | refine LeO.ite ?_ ?_
      | refine LeO.bind ?_ (fun _ => ?_)
set_option maxHeartbeats 8000000 in
set_option maxRecDepth 100000 in
theorem argosyref27_Print.calls (k : Nat) (A0 : Option Addr) (c0 : Nat) (l0 : List (S34)) (r1 : ByteArray) (r2 : Int) (w : World) (hr0 : Kd.C k34 w A0 l0.length l0) (hc0 : l0.length ≤ c0) (h : argosyref27_Print.f k l0 = some (r1, r2)) :
    Calls Tryd.prog 8 #[.slice A0 l0.length c0] w fun e w' => e = .returned (.tuple #[.string r1, .int .i64 r2]) ∧ Below w.heap.size w w' := by
  have hu34 := Tryd.underlying34
  have HR0 := Aside0.mk hr0
  have HC0 := Aside0.mk hc0
  clear hr0 hc0
  have HB := Aside0.mk (Below.refl w.heap.size w)
  have H : (if (l0.length : Int) > 1000 then (some ((⟨#[]⟩ : ByteArray), 5)) else (argosyref27_Print.l0 k l0 (⟨#[]⟩ : ByteArray) 0)) = some (r1, r2) := h
  clear h
  by_cases c2 : (l0.length : Int) > 1000
  · rw [if_pos c2] at H
    have c2b0 : decide (1000 < (l0.length : Int)) = true := decide_eq_true c2
    have c2b1 : decide (1000 < l0.length) = true := decide_eq_true (by omega)
    clear c2
    simp only [Option.some.injEq, Prod.mk.injEq] at H
    obtain ⟨rfl, rfl⟩ := H
    go_enter Tryd.func8, Tryd.ntmps8
    go_wp2
    go_ret2
    exact ⟨by first | rfl | (simp [errW_none, errW_some] <;> rfl) | (simp [*, errW_none, errW_some] <;> rfl), by repeat (first | (with_reducible first | exact HB.out | apply below_alloc | apply pw_below_drewN | apply below_drew1) | exact HB.out)⟩
  · rw [if_neg c2] at H
    have c2b0 : decide (1000 < (l0.length : Int)) = false := decide_eq_false c2
    have c2b1 : decide (1000 < l0.length) = false := decide_eq_false (by omega)
    clear c2
    have H' := Aside0.mk H
    clear H
    go_enter Tryd.func8, Tryd.ntmps8
    go_wp2
    go_loopg [4, 5] k (fun kq v4 v5 w' => ∃ (x4_1 : ByteArray) (x5_1 : Int), v4 = .string x4_1 ∧ v5 = .int .i64 x5_1 ∧ Aside0 (argosyref27_Print.l0 kq l0 x4_1 x5_1 = some (r1, r2)) ∧ Aside0 (kq ≤ k) ∧ Aside0 (Below w.heap.size w w'))
    case atStart => exact ⟨((⟨#[]⟩ : ByteArray)), (0), (by first | rfl | (simp; done) | (simp [*]; done)), (by first | rfl | (simp; done) | (simp [*]; done)), H', ⟨Nat.le_refl _⟩, ⟨by repeat (first | (with_reducible first | exact HB.out | apply below_alloc | apply pw_below_drewN | apply below_drew1) | exact HB.out)⟩⟩
    case round =>
      clear H'
      try clear c2
      try clear c2b0
      try clear c2b1
      try clear p2
      obtain ⟨x4_1, x5_1, rfl, rfl, HA, HK1, HB⟩ := hrel
      cases gk with
      | zero => exact absurd HA.out (by simp [argosyref27_Print.l0])
      | succ k1 =>
        have H := HA.out
        clear HA
        simp only [argosyref27_Print.l0] at H
        by_cases c3 : x5_1 < (l0.length : Int)
        · rw [if_pos c3] at H
          have c3b0 : decide (x5_1 < (l0.length : Int)) = true := decide_eq_true c3
          clear c3
          by_cases c4 : 0 ≤ x5_1
          · rw [if_pos c4] at H
            have c4b0 : decide (0 ≤ x5_1) = true := decide_eq_true c4
            clear c4
            replace H := Option.bind_eq_some_iff.mp H
            obtain ⟨t173, A50, H⟩ := H
            replace H : (if t173 = true then ((argosyref27_text.f k1 ((rd_T34 l0 x5_1).f0) ((rd_T34 l0 x5_1).f1) ((rd_T34 l0 x5_1).f2) ((rd_T34 l0 x5_1).f3)).bind fun t175 => (if x4_1.size + t175.size ≤ 9223372036854775807 then (argosyref27_Print.l0 k1 l0 (x4_1 ++ t175) (wrap64 (x5_1 + 1))) else (none))) else (some ((⟨#[]⟩ : ByteArray), 2))) = some (r1, r2) := H
            have A5 := Aside0.mk A50
            clear A50
            by_cases c6 : t173 = true
            · subst c6
              have H1 : ((argosyref27_text.f k1 ((rd_T34 l0 x5_1).f0) ((rd_T34 l0 x5_1).f1) ((rd_T34 l0 x5_1).f2) ((rd_T34 l0 x5_1).f3)).bind fun t175 => (if x4_1.size + t175.size ≤ 9223372036854775807 then (argosyref27_Print.l0 k1 l0 (x4_1 ++ t175) (wrap64 (x5_1 + 1))) else (none))) = some (r1, r2) := by rw [if_pos rfl] at H; exact H
              clear H
              have H := H1
              clear H1
              replace H := Option.bind_eq_some_iff.mp H
              obtain ⟨t175, A70, H⟩ := H
              replace H : (if x4_1.size + t175.size ≤ 9223372036854775807 then (argosyref27_Print.l0 k1 l0 (x4_1 ++ t175) (wrap64 (x5_1 + 1))) else (none)) = some (r1, r2) := H
              have A7 := Aside0.mk A70
              clear A70
              by_cases c8 : x4_1.size + t175.size ≤ 9223372036854775807
              · rw [if_pos c8] at H
                have c8b0 := eq_true c8
                have c8b1 : decide (x4_1.size + t175.size ≤ 9223372036854775807) = true := decide_eq_true c8
                try have c8b2 : (9223372036854775807 < x4_1.size + t175.size) = False := eq_false (Nat.not_lt.2 c8)
                try (have c8b3 := c8b2; simp only [ByteArray.size_append] at c8b3)
                clear c8
                have H' := Aside0.mk H
                clear H
                have p172 : 0 ≤ (x5_1 : Int) := of_decide_eq_true (by first | (with_reducible assumption) | assumption)
                have q172 : x5_1 < (l0.length : Int) := of_decide_eq_true (by first | (with_reducible assumption) | assumption)
                obtain ⟨ad172, A172_3, c172_3, e172, hx172_0, hx172_1, hx172_2, hx172_3, hl172_3, hi172_3⟩ := at_T34 HR0.out x5_1 p172 q172
                cases e172
                replace hx172_0 := (HB.out.cell (World.block_lt_of_cell? w _ hx172_0)).trans hx172_0
                replace hx172_1 := (HB.out.cell (World.block_lt_of_cell? w _ hx172_1)).trans hx172_1
                replace hx172_2 := (HB.out.cell (World.block_lt_of_cell? w _ hx172_2)).trans hx172_2
                replace hx172_3 := (HB.out.cell (World.block_lt_of_cell? w _ hx172_3)).trans hx172_3
                have HR172_3 := Aside0.mk hi172_3
                have HC172_3 := Aside0.mk hl172_3
                clear hi172_3 hl172_3
                replace p172 := eq_true p172
                replace q172 := eq_true q172
                go_wp2_with (first | ((with_reducible refine gate_callee (f := 18) rfl ?_); refine goesL_ (some 19) rfl rfl Tryd.func18 (by kernel_rfl) rfl #[.agg #[.int .i64 ((rd_T34 l0 x5_1).f0), .int .i64 ((rd_T34 l0 x5_1).f1), .int .i64 ((rd_T34 l0 x5_1).f2), .slice A172_3 ((rd_T34 l0 x5_1).f3).length c172_3]] rfl (by (try simp only [List.map_toArray, List.map_cons, List.map_nil]); first | done | rfl | (simp only [List.length_drop, List.length_take]; rfl)) ?_; (with_reducible refine (argosyref27_Right.calls k1 ((rd_T34 l0 x5_1).f0) ((rd_T34 l0 x5_1).f1) ((rd_T34 l0 x5_1).f2) _ _ ((rd_T34 l0 x5_1).f3) true _ ?side1 ?side2 A5.out).mono ?_); (case side1 => repeat (first | exact (Kd.C_below HR172_3.out HB.out) | (with_reducible refine Kd.C_alloc ?_ _) | (with_reducible refine Kd.C_drewN ?_ _) | (with_reducible refine Kd.C_drew ?_))); (case side2 => exact HC172_3.out); rintro e w9 ⟨rfl, hb⟩; refine ⟨_, rfl, ?_⟩; have n0_ := Aside0.mk (below_step (by repeat (first | (with_reducible first | exact HB.out | apply below_alloc | apply pw_below_drewN | apply below_drew1) | exact HB.out)) hb); clear HB; have HB := n0_; clear n0_; (try clear hb); (try clear hb2); (try clear hk); (try clear hi); have p174 : 0 ≤ (x5_1 : Int) := of_decide_eq_true (by first | (with_reducible assumption) | assumption); have q174 : x5_1 < (l0.length : Int) := of_decide_eq_true (by first | (with_reducible assumption) | assumption); obtain ⟨ad174, A174_3, c174_3, e174, hx174_0, hx174_1, hx174_2, hx174_3, hl174_3, hi174_3⟩ := at_T34 HR0.out x5_1 p174 q174; obtain rfl : ad172 = ad174 := (by injection e174); replace hx174_0 := (HB.out.cell (World.block_lt_of_cell? w _ hx174_0)).trans hx174_0; replace hx174_1 := (HB.out.cell (World.block_lt_of_cell? w _ hx174_1)).trans hx174_1; replace hx174_2 := (HB.out.cell (World.block_lt_of_cell? w _ hx174_2)).trans hx174_2; replace hx174_3 := (HB.out.cell (World.block_lt_of_cell? w _ hx174_3)).trans hx174_3; have HR174_3 := Aside0.mk hi174_3; have HC174_3 := Aside0.mk hl174_3; clear hi174_3 hl174_3; replace p174 := eq_true p174; replace q174 := eq_true q174) | ((with_reducible refine gate_callee (f := 19) rfl ?_); refine goesL_ (some 26) rfl rfl Tryd.func19 (by kernel_rfl) rfl #[.agg #[.int .i64 ((rd_T34 l0 x5_1).f0), .int .i64 ((rd_T34 l0 x5_1).f1), .int .i64 ((rd_T34 l0 x5_1).f2), .slice A174_3 ((rd_T34 l0 x5_1).f3).length c174_3]] rfl (by (try simp only [List.map_toArray, List.map_cons, List.map_nil]); first | done | rfl | (simp only [List.length_drop, List.length_take]; rfl)) ?_; (with_reducible refine (argosyref27_text.calls k1 ((rd_T34 l0 x5_1).f0) ((rd_T34 l0 x5_1).f1) ((rd_T34 l0 x5_1).f2) _ _ ((rd_T34 l0 x5_1).f3) t175 _ ?side1 ?side2 A7.out).mono ?_); (case side1 => repeat (first | exact (Kd.C_below HR174_3.out HB.out) | (with_reducible refine Kd.C_alloc ?_ _) | (with_reducible refine Kd.C_drewN ?_ _) | (with_reducible refine Kd.C_drew ?_))); (case side2 => exact HC174_3.out); rintro e w10 ⟨rfl, hb⟩; refine ⟨_, rfl, ?_⟩; have n0_ := Aside0.mk (below_step (by repeat (first | (with_reducible first | exact HB.out | apply below_alloc | apply pw_below_drewN | apply below_drew1) | exact HB.out)) hb); clear HB; have HB := n0_; clear n0_; (try clear hb); (try clear hb2); (try clear hk); (try clear hi)))
                go_roundg k1
                case measure => have := HK1.out; omega
                case rel => exact ⟨(x4_1 ++ t175), (wrap64 (x5_1 + 1)), (by first | rfl | (simp; done) | (simp [*]; done)), (by first | rfl | (simp; done) | (simp [*]; done)), H', ⟨by have := HK1.out; omega⟩, ⟨by repeat (first | (with_reducible first | exact HB.out | apply below_alloc | apply pw_below_drewN | apply below_drew1) | exact HB.out)⟩⟩
              · rw [if_neg c8] at H
                exact absurd H (by simp)
            · replace c6 := Bool.eq_false_iff.mpr c6
              subst c6
              have H1 : (some ((⟨#[]⟩ : ByteArray), 2)) = some (r1, r2) := by rw [if_neg (show ¬ (false = true) by decide)] at H; exact H
              clear H
              have H := H1
              clear H1
              simp only [Option.some.injEq, Prod.mk.injEq] at H
              obtain ⟨rfl, rfl⟩ := H
              have p172 : 0 ≤ (x5_1 : Int) := of_decide_eq_true (by first | (with_reducible assumption) | assumption)
              have q172 : x5_1 < (l0.length : Int) := of_decide_eq_true (by first | (with_reducible assumption) | assumption)
              obtain ⟨ad172, A172_3, c172_3, e172, hx172_0, hx172_1, hx172_2, hx172_3, hl172_3, hi172_3⟩ := at_T34 HR0.out x5_1 p172 q172
              cases e172
              replace hx172_0 := (HB.out.cell (World.block_lt_of_cell? w _ hx172_0)).trans hx172_0
              replace hx172_1 := (HB.out.cell (World.block_lt_of_cell? w _ hx172_1)).trans hx172_1
              replace hx172_2 := (HB.out.cell (World.block_lt_of_cell? w _ hx172_2)).trans hx172_2
              replace hx172_3 := (HB.out.cell (World.block_lt_of_cell? w _ hx172_3)).trans hx172_3
              have HR172_3 := Aside0.mk hi172_3
              have HC172_3 := Aside0.mk hl172_3
              clear hi172_3 hl172_3
              replace p172 := eq_true p172
              replace q172 := eq_true q172
              go_wp2_with (first | ((with_reducible refine gate_callee (f := 18) rfl ?_); refine goesL_ (some 19) rfl rfl Tryd.func18 (by kernel_rfl) rfl #[.agg #[.int .i64 ((rd_T34 l0 x5_1).f0), .int .i64 ((rd_T34 l0 x5_1).f1), .int .i64 ((rd_T34 l0 x5_1).f2), .slice A172_3 ((rd_T34 l0 x5_1).f3).length c172_3]] rfl (by (try simp only [List.map_toArray, List.map_cons, List.map_nil]); first | done | rfl | (simp only [List.length_drop, List.length_take]; rfl)) ?_; (with_reducible refine (argosyref27_Right.calls k1 ((rd_T34 l0 x5_1).f0) ((rd_T34 l0 x5_1).f1) ((rd_T34 l0 x5_1).f2) _ _ ((rd_T34 l0 x5_1).f3) false _ ?side1 ?side2 A5.out).mono ?_); (case side1 => repeat (first | exact (Kd.C_below HR172_3.out HB.out) | (with_reducible refine Kd.C_alloc ?_ _) | (with_reducible refine Kd.C_drewN ?_ _) | (with_reducible refine Kd.C_drew ?_))); (case side2 => exact HC172_3.out); rintro e w11 ⟨rfl, hb⟩; refine ⟨_, rfl, ?_⟩; have n0_ := Aside0.mk (below_step (by repeat (first | (with_reducible first | exact HB.out | apply below_alloc | apply pw_below_drewN | apply below_drew1) | exact HB.out)) hb); clear HB; have HB := n0_; clear n0_; (try clear hb); (try clear hb2); (try clear hk); (try clear hi)))
              go_ret2
              exact ⟨by first | rfl | (simp [errW_none, errW_some] <;> rfl) | (simp [*, errW_none, errW_some] <;> rfl), by repeat (first | (with_reducible first | exact HB.out | apply below_alloc | apply pw_below_drewN | apply below_drew1) | exact HB.out)⟩
          · rw [if_neg c4] at H
            exact absurd H (by simp)
        · rw [if_neg c3] at H
          have c3b0 : decide (x5_1 < (l0.length : Int)) = false := decide_eq_false c3
          clear c3
          simp only [Option.some.injEq, Prod.mk.injEq] at H
          obtain ⟨rfl, rfl⟩ := H
          go_wp2
          go_ret2
          exact ⟨by first | rfl | (simp [errW_none, errW_some] <;> rfl) | (simp [*, errW_none, errW_some] <;> rfl), by repeat (first | (with_reducible first | exact HB.out | apply below_alloc | apply pw_below_drewN | apply below_drew1) | exact HB.out)⟩

/-! ### argosyref27_Check: function 10 -/
def argosyref27_Check.f (k : Nat) (a0_0 : Int) (a0_1 : Int) (a0_2 : Int) (l0_3 : List Int) : Option (Int) := (argosyref27_Right.f k a0_0 a0_1 a0_2 l0_3).bind fun t177 => (if t177 = true then (some 0) else (some 2))
theorem argosyref27_Check.mono : ∀ a0 a1 a2 a3 k, LeO (argosyref27_Check.f k a0 a1 a2 a3) (argosyref27_Check.f (k + 1) a0 a1 a2 a3) := by
  intro a0 a1 a2 a3 k
  unfold argosyref27_Check.f
  repeat' first
      | (with_reducible exact argosyref27_Right.mono _ _ _ _ _)
      | (with_reducible exact LeO.refl _)
      | (with_reducible exact LeO.none _)
      | (with_reducible refine LeO.ite ?_ ?_)
      | (with_reducible refine LeO.bind ?_ (fun _ => ?_))
      | exact argosyref27_Right.mono _ _ _ _ _
      | exact LeO.none _
      | refine LeO.ite ?_ ?_
      | refine LeO.bind ?_ (fun _ => ?_)
set_option maxHeartbeats 8000000 in
set_option maxRecDepth 100000 in
theorem argosyref27_Check.calls (k : Nat) (a0_0 : Int) (a0_1 : Int) (a0_2 : Int) (A0_3 : Option Addr) (c0_3 : Nat) (l0_3 : List Int) (r : Int) (w : World) (hr0_3 : Kd.C (Kd.int .i64) w A0_3 l0_3.length l0_3) (hc0_3 : l0_3.length ≤ c0_3) (h : argosyref27_Check.f k a0_0 a0_1 a0_2 l0_3 = some r) :
    Calls Tryd.prog 10 #[.agg #[.int .i64 a0_0, .int .i64 a0_1, .int .i64 a0_2, .slice A0_3 l0_3.length c0_3]] w fun e w' => e = .returned (.int .i64 r) ∧ Below w.heap.size w w' := by
  have hu34 := Tryd.underlying34
  have HR0_3 := Aside0.mk hr0_3
  have HC0_3 := Aside0.mk hc0_3
  clear hr0_3 hc0_3
  have HB := Aside0.mk (Below.refl w.heap.size w)
  have H : ((argosyref27_Right.f k a0_0 a0_1 a0_2 l0_3).bind fun t177 => (if t177 = true then (some 0) else (some 2))) = some r := h
  clear h
  replace H := Option.bind_eq_some_iff.mp H
  obtain ⟨t177, A20, H⟩ := H
  replace H : (if t177 = true then (some 0) else (some 2)) = some r := H
  have A2 := Aside0.mk A20
  clear A20
  by_cases c3 : t177 = true
  · subst c3
    have H1 : (some 0) = some r := by rw [if_pos rfl] at H; exact H
    clear H
    have H := H1
    clear H1
    obtain rfl := Option.some.inj H
    go_enter Tryd.func10, Tryd.ntmps10
    go_wp2_with (first | ((with_reducible refine gate_dst (N := 1) rfl ?_); refine box_event ?hg (N := 1) ?hd (cs := #[.int .i64 a0_0, .int .i64 a0_1, .int .i64 a0_2, .slice A0_3 l0_3.length c0_3]) (t := 34) ?hr ?_; (case hd => rfl); (case hg => rfl); (case hr => first | (go_simp; done) | (go_simp; rfl) | (simp only [pf_or128]; go_simp; done) | (simp only [pf_or128]; go_simp; rfl)); intro gb176 hg w4 hbox hb; have n0_ := Aside0.mk (below_step (by repeat (first | (with_reducible first | exact HB.out | apply below_alloc | apply pw_below_drewN | apply below_drew1) | exact HB.out)) hb); have n1_ := Aside0.mk (hbox); have n2_ := Aside0.mk ((by rw [hg]; exact (below_size (by repeat (first | (with_reducible first | exact HB.out | apply below_alloc | apply pw_below_drewN | apply below_drew1) | exact HB.out))) : w.heap.size ≤ gb176)); have n3_ := Aside0.mk ((by rw [hg]; exact (below_size (by repeat (first | (with_reducible first | exact HB.out | apply below_alloc | apply pw_below_drewN | apply below_drew1) | exact HB.out))) : w.heap.size ≤ gb176)); clear HB; have HB := n0_; have BK176 := n1_; have GW176 := n2_; have GE176 := n3_; clear n0_ n1_ n2_ n3_; clear hb hbox hg; have hcz5_0 : w4.cell? ⟨gb176, 0, none⟩ = some (.int .i64 a0_0) := (blk_cell BK176.out 0).trans rfl; have hcz5_1 : w4.cell? ⟨gb176, 1, none⟩ = some (.int .i64 a0_1) := (blk_cell BK176.out 1).trans rfl; have hcz5_2 : w4.cell? ⟨gb176, 2, none⟩ = some (.int .i64 a0_2) := (blk_cell BK176.out 2).trans rfl; have hcz5_3 : w4.cell? ⟨gb176, 3, none⟩ = some (.slice A0_3 l0_3.length c0_3) := (blk_cell BK176.out 3).trans rfl; have hfz5_0 := blk_frozen BK176.out 0; have hfz5_1 := blk_frozen BK176.out 1; have hfz5_2 := blk_frozen BK176.out 2; have hfz5_3 := blk_frozen BK176.out 3) | ((with_reducible refine gate_callee (f := 18) rfl ?_); refine goesL_ (some 4) rfl rfl Tryd.func18 (by kernel_rfl) rfl #[.agg #[.int .i64 a0_0, .int .i64 a0_1, .int .i64 a0_2, .slice A0_3 l0_3.length c0_3]] rfl (by (try simp only [List.map_toArray, List.map_cons, List.map_nil]); first | done | rfl | (simp only [List.length_drop, List.length_take]; rfl)) ?_; (with_reducible refine (argosyref27_Right.calls k a0_0 a0_1 a0_2 _ _ l0_3 true _ ?side1 ?side2 A2.out).mono ?_); (case side1 => repeat (first | exact (Kd.C_below HR0_3.out HB.out) | (with_reducible refine Kd.C_alloc ?_ _) | (with_reducible refine Kd.C_drewN ?_ _) | (with_reducible refine Kd.C_drew ?_))); (case side2 => exact HC0_3.out); rintro e w6 ⟨rfl, hb⟩; refine ⟨_, rfl, ?_⟩; have n0_ := Aside0.mk (blk_below (g := gb176) (o := .cells #[.int .i64 a0_0, .int .i64 a0_1, .int .i64 a0_2, .slice A0_3 l0_3.length c0_3] 34 (0, 0)) (by (with_reducible repeat (first | refine blk_drewN ?_ _ | refine blk_drew ?_ | refine blk_alloc ?_ _)); exact BK176.out) hb); have n1_ := Aside0.mk (below_step (by repeat (first | (with_reducible first | exact HB.out | apply below_alloc | apply pw_below_drewN | apply below_drew1 | refine below_set ?_ GE176.out) | exact HB.out)) hb); clear BK176; clear HB; have BK176 := n0_; have HB := n1_; clear n0_ n1_; (try clear hb); (try clear hb2); (try clear hk); (try clear hi)))
    go_ret
    exact ⟨by first | rfl | (simp [errW_none, errW_some] <;> rfl) | (simp [*, errW_none, errW_some] <;> rfl), by repeat (first | (with_reducible first | exact HB.out | apply below_alloc | apply pw_below_drewN | apply below_drew1 | refine below_set ?_ GE176.out) | exact HB.out)⟩
  · replace c3 := Bool.eq_false_iff.mpr c3
    subst c3
    have H1 : (some 2) = some r := by rw [if_neg (show ¬ (false = true) by decide)] at H; exact H
    clear H
    have H := H1
    clear H1
    obtain rfl := Option.some.inj H
    go_enter Tryd.func10, Tryd.ntmps10
    go_wp2_with (first | ((with_reducible refine gate_dst (N := 1) rfl ?_); refine box_event ?hg (N := 1) ?hd (cs := #[.int .i64 a0_0, .int .i64 a0_1, .int .i64 a0_2, .slice A0_3 l0_3.length c0_3]) (t := 34) ?hr ?_; (case hd => rfl); (case hg => rfl); (case hr => first | (go_simp; done) | (go_simp; rfl) | (simp only [pf_or128]; go_simp; done) | (simp only [pf_or128]; go_simp; rfl)); intro gb176 hg w7 hbox hb; have n0_ := Aside0.mk (below_step (by repeat (first | (with_reducible first | exact HB.out | apply below_alloc | apply pw_below_drewN | apply below_drew1) | exact HB.out)) hb); have n1_ := Aside0.mk (hbox); have n2_ := Aside0.mk ((by rw [hg]; exact (below_size (by repeat (first | (with_reducible first | exact HB.out | apply below_alloc | apply pw_below_drewN | apply below_drew1) | exact HB.out))) : w.heap.size ≤ gb176)); have n3_ := Aside0.mk ((by rw [hg]; exact (below_size (by repeat (first | (with_reducible first | exact HB.out | apply below_alloc | apply pw_below_drewN | apply below_drew1) | exact HB.out))) : w.heap.size ≤ gb176)); clear HB; have HB := n0_; have BK176 := n1_; have GW176 := n2_; have GE176 := n3_; clear n0_ n1_ n2_ n3_; clear hb hbox hg; have hcz8_0 : w7.cell? ⟨gb176, 0, none⟩ = some (.int .i64 a0_0) := (blk_cell BK176.out 0).trans rfl; have hcz8_1 : w7.cell? ⟨gb176, 1, none⟩ = some (.int .i64 a0_1) := (blk_cell BK176.out 1).trans rfl; have hcz8_2 : w7.cell? ⟨gb176, 2, none⟩ = some (.int .i64 a0_2) := (blk_cell BK176.out 2).trans rfl; have hcz8_3 : w7.cell? ⟨gb176, 3, none⟩ = some (.slice A0_3 l0_3.length c0_3) := (blk_cell BK176.out 3).trans rfl; have hfz8_0 := blk_frozen BK176.out 0; have hfz8_1 := blk_frozen BK176.out 1; have hfz8_2 := blk_frozen BK176.out 2; have hfz8_3 := blk_frozen BK176.out 3) | ((with_reducible refine gate_callee (f := 18) rfl ?_); refine goesL_ (some 4) rfl rfl Tryd.func18 (by kernel_rfl) rfl #[.agg #[.int .i64 a0_0, .int .i64 a0_1, .int .i64 a0_2, .slice A0_3 l0_3.length c0_3]] rfl (by (try simp only [List.map_toArray, List.map_cons, List.map_nil]); first | done | rfl | (simp only [List.length_drop, List.length_take]; rfl)) ?_; (with_reducible refine (argosyref27_Right.calls k a0_0 a0_1 a0_2 _ _ l0_3 false _ ?side1 ?side2 A2.out).mono ?_); (case side1 => repeat (first | exact (Kd.C_below HR0_3.out HB.out) | (with_reducible refine Kd.C_alloc ?_ _) | (with_reducible refine Kd.C_drewN ?_ _) | (with_reducible refine Kd.C_drew ?_))); (case side2 => exact HC0_3.out); rintro e w9 ⟨rfl, hb⟩; refine ⟨_, rfl, ?_⟩; have n0_ := Aside0.mk (blk_below (g := gb176) (o := .cells #[.int .i64 a0_0, .int .i64 a0_1, .int .i64 a0_2, .slice A0_3 l0_3.length c0_3] 34 (0, 0)) (by (with_reducible repeat (first | refine blk_drewN ?_ _ | refine blk_drew ?_ | refine blk_alloc ?_ _)); exact BK176.out) hb); have n1_ := Aside0.mk (below_step (by repeat (first | (with_reducible first | exact HB.out | apply below_alloc | apply pw_below_drewN | apply below_drew1 | refine below_set ?_ GE176.out) | exact HB.out)) hb); clear BK176; clear HB; have BK176 := n0_; have HB := n1_; clear n0_ n1_; (try clear hb); (try clear hb2); (try clear hk); (try clear hi)))
    go_ret
    exact ⟨by first | rfl | (simp [errW_none, errW_some] <;> rfl) | (simp [*, errW_none, errW_some] <;> rfl), by repeat (first | (with_reducible first | exact HB.out | apply below_alloc | apply pw_below_drewN | apply below_drew1 | refine below_set ?_ GE176.out) | exact HB.out)⟩

end Go.Proofs.YtfmbdmkiamedeaaDoor.PScenePrints
