-- Written by a patched print (wip/mkprint.py), for this claim.
import Derived.Test.YtclkdnpfiolahaaDoorPEventBackx0
import Derived.Test.YtclkdnpfiolahaaDoorPEventBackx1
import Derived.Test.YtclkdnpfiolahaaDoorPEventBackx2
import Derived.Test.YtclkdnpfiolahaaDoorPEventBackx3
namespace Go.Proofs.YtclkdnpfiolahaaDoor.PEventBack
open Go.RowKit Go.Proofs.YtclkdnpfiolahaaDoorW.PrintWords Go.Proofs.YtclkdnpfiolahaaDoorW.PrintLast Go.Proofs.YtclkdnpfiolahaaDoorW.PrintMore
attribute [local go_sem] max2_int min2_int max_two min_two max_three min_three max_four min_four   -- for this text's walks alone
set_option linter.unusedVariables false
set_option linter.unusedSimpArgs false

/-! ### event_Text: function 12 -/
section
attribute [local go_sem] ta61_72 ta64_72 ta72_72 ta61_61 ta64_61 ta64_64 ta61_64
def textGoE : List Int → List ByteArray → Option (List ByteArray)
  | [], acc => some acc
  | x :: l, acc => (strconv_Itoa.f x).bind fun t => if acc.length < 8796093022208 then textGoE l (acc ++ [t]) else none
def nameE (a0 a1 a2 : Int) : Option ByteArray := (strconv_Itoa.f a1).bind fun nm => if isUndo a0 a1 a2 then (strconv_Itoa.f a2).bind fun u => if 1 + u.size ≤ 9223372036854775807 then (if nm.size + (1 + u.size) ≤ 9223372036854775807 then some (nm ++ ((⟨#[46]⟩ : ByteArray) ++ u)) else none) else none else some nm
def event_Text.f (a0_0 a0_1 a0_2 : Int) (l0_3 : List Int) : Option ByteArray := (event_Check.f a0_0 a0_1 a0_2 l0_3).bind fun c => if c = 0 then (nameE a0_0 a0_1 a0_2).bind fun nm => (event_word.f a0_0).bind fun wd => (textGoE l0_3 [wd, nm]).bind fun out => strings_Join.f out (⟨#[32]⟩ : ByteArray) else some (⟨#[]⟩ : ByteArray)
theorem R_newS (W : World) (base g : Nat) (hb : base ≤ W.heap.size) (hg : g = W.heap.size) (xs : List ByteArray) (hm : xs.length ≤ 9223372036854775807) : Kd.R Kd.string 9 (W.alloc (.cells (encs Value.string xs).toArray 9)) base (fun _ => True) (.slice (some ⟨g, 0, none⟩) xs.length xs.length) xs := by
  subst hg
  exact ⟨fun _ _ => trivial, OwnRow.lit W base (Kd.reps_scalar xs) hb hm⟩
theorem rd_dropE {L : List Int} {j : Nat} (h : j < L.length) : L.drop j = rd L (j : Int) :: L.drop (j + 1) := by
  rw [List.drop_eq_getElem_cons h]
  congr 1
  unfold rd
  rw [Int.toNat_natCast, List.getD_eq_getElem?_getD, List.getElem?_eq_getElem h, Option.getD_some]
set_option maxHeartbeats 8000000 in
set_option maxRecDepth 100000 in
theorem own_Text_bad (k i t : Int) (A : Option Addr) (c : Nat) (l : List Int) (r0 : Int) (w : World) (hC : Kd.C (Kd.int .i64) w A l.length l) (hc : l.length ≤ c) (hT : TabOk w) (h : event_Check.f k i t l = some r0) (hr : r0 ≠ 0) :
    Calls Tryd.prog 12 #[.agg #[.int .i64 k, .int .i64 i, .int .i64 t, .slice A l.length c]] w fun e w' => e = .returned (.string ⟨#[]⟩) ∧ Below w.heap.size w w' := by
  have HC0 := Aside0.mk hC
  have HC := Aside0.mk hC
  have HL := Aside0.mk hc
  have HH := Aside0.mk h
  have HT := Aside0.mk hT
  have hlb : l.length ≤ 9223372036854775807 := Kd.C_max hC
  clear hC hc h hT
  have d1 : (r0 == 0) = false := beq_eq_false_iff_ne.mpr hr
  have d2 : (r0 != 0) = true := bne_iff_ne.mpr hr
  clear hr
  go_enter Tryd.func12, Tryd.ntmps12
  go_wp2_with (first | (go_at_call 14; (refine (event_Check.calls k i t A c l r0 _ (by (with_reducible repeat (first | apply Kd.C_alloc | apply Kd.C_drewN | apply Kd.C_drew)); exact HC.out) HL.out HH.out).mono ?_); rintro e w1 ⟨rfl, hb⟩; have hbx := (hb.block w.heap.size (by simp)).trans (heap_newE w (.cells _ 27)); have kb0 := blk_cell hbx 0; have kb1 := blk_cell hbx 1; have kb2 := blk_cell hbx 2; have kb3 := blk_cell hbx 3; have fb0 := blk_frozen hbx 0; have fb1 := blk_frozen hbx 1; have fb2 := blk_frozen hbx 2; have fb3 := blk_frozen hbx 3; have HB := Aside0.mk (below_step (below_alloc (Below.refl _ _) _) hb); have HX := Aside0.mk hbx; have HC1 := Aside0.mk (Kd.C_below HC.out HB.out); clear HC; have HC := HC1; clear HC1; have hlt : w.heap.size < w1.heap.size := blk_lt hbx; have hne : (w.heap.size = w1.heap.size) = False := eq_false (by omega); have hne2 : (w1.heap.size = w.heap.size) = False := eq_false (by omega); clear hb hbx))
  go_ret
  exact ⟨rfl, (by repeat (first | exact HB.out | apply below_alloc | apply pw_below_drewN | apply below_drew1 | refine below_set ?_ (Nat.le_refl _) | refine below_set ?_ (Nat.le_of_lt (by first | exact hlt | omega))))⟩
set_option maxHeartbeats 8000000 in
set_option maxRecDepth 100000 in
theorem own_Text_step (k i t : Int) (A : Option Addr) (c : Nat) (l : List Int) (nm wd r : ByteArray) (out : List ByteArray) (w : World) (hC : Kd.C (Kd.int .i64) w A l.length l) (hc : l.length ≤ c) (hT : TabOk w) (h : event_Check.f k i t l = some 0) (hV : ofV k i t = .iface 61 (.agg #[.int .i64 i])) (hi : strconv_Itoa.f i = some nm) (hw : event_word.f k = some wd) (hg : textGoE l [wd, nm] = some out) (hj : strings_Join.f out (⟨#[32]⟩ : ByteArray) = some r) :
    Calls Tryd.prog 12 #[.agg #[.int .i64 k, .int .i64 i, .int .i64 t, .slice A l.length c]] w fun e w' => e = .returned (.string r) ∧ Below w.heap.size w w' := by
  have HC0 := Aside0.mk hC
  have HC := Aside0.mk hC
  have HL := Aside0.mk hc
  have HH := Aside0.mk h
  have HT := Aside0.mk hT
  have hlb : l.length ≤ 9223372036854775807 := Kd.C_max hC
  clear hC hc h hT
  have HV := Aside0.mk hV
  have HI := Aside0.mk hi
  have HW := Aside0.mk hw
  have HG := Aside0.mk hg
  have HJn := Aside0.mk hj
  clear hV hi hw hg hj
  go_enter Tryd.func12, Tryd.ntmps12
  go_wp2_with (first | (go_at_call 14; (refine (event_Check.calls k i t A c l 0 _ (by (with_reducible repeat (first | apply Kd.C_alloc | apply Kd.C_drewN | apply Kd.C_drew)); exact HC.out) HL.out HH.out).mono ?_); rintro e w1 ⟨rfl, hb⟩; have hbx := (hb.block w.heap.size (by simp)).trans (heap_newE w (.cells _ 27)); have kb0 := blk_cell hbx 0; have kb1 := blk_cell hbx 1; have kb2 := blk_cell hbx 2; have kb3 := blk_cell hbx 3; have fb0 := blk_frozen hbx 0; have fb1 := blk_frozen hbx 1; have fb2 := blk_frozen hbx 2; have fb3 := blk_frozen hbx 3; have HB := Aside0.mk (below_step (below_alloc (Below.refl _ _) _) hb); have HX := Aside0.mk hbx; have HC1 := Aside0.mk (Kd.C_below HC.out HB.out); clear HC; have HC := HC1; clear HC1; have hlt : w.heap.size < w1.heap.size := blk_lt hbx; have hne : (w.heap.size = w1.heap.size) = False := eq_false (by omega); have hne2 : (w1.heap.size = w.heap.size) = False := eq_false (by omega); clear hb hbx) | (go_at_call 32; (with_reducible refine (strconv_Itoa.calls i nm _ (TabOk.below HT.out (by repeat (first | exact HB.out | apply below_alloc | apply pw_below_drewN | apply below_drew1 | refine below_set ?_ (Nat.le_refl _) | refine below_set ?_ (Nat.le_of_lt (by first | exact hlt | omega))))) HI.out).mono ?_); rintro e w2 ⟨rfl, hb⟩; have hbx : w2.heap[w.heap.size]? = some (Obj.cells #[.int .i64 k, .int .i64 i, .int .i64 t, .slice A l.length c] 27 (0, 0)) := (hb.block w.heap.size (blk_lt (show _ = some (Obj.cells #[.int .i64 k, .int .i64 i, .int .i64 t, .slice A l.length c] 27 (0, 0)) from (by (with_reducible repeat (first | refine blk_drewN ?_ _ | refine blk_drew ?_ | refine blk_alloc ?_ _)); exact HX.out)))).trans (show _ = some (Obj.cells #[.int .i64 k, .int .i64 i, .int .i64 t, .slice A l.length c] 27 (0, 0)) from (by (with_reducible repeat (first | refine blk_drewN ?_ _ | refine blk_drew ?_ | refine blk_alloc ?_ _)); exact HX.out)); clear kb0 kb1 kb2 kb3 fb0 fb1 fb2 fb3; have kb0 := blk_cell hbx 0; have kb1 := blk_cell hbx 1; have kb2 := blk_cell hbx 2; have kb3 := blk_cell hbx 3; have fb0 := blk_frozen hbx 0; have fb1 := blk_frozen hbx 1; have fb2 := blk_frozen hbx 2; have fb3 := blk_frozen hbx 3; have n0_ := Aside0.mk (below_step (by repeat (first | exact HB.out | apply below_alloc | apply pw_below_drewN | apply below_drew1 | refine below_set ?_ (Nat.le_refl _) | refine below_set ?_ (Nat.le_of_lt (by first | exact hlt | omega)))) hb); have n1_ := Aside0.mk hbx; have n2_ := Aside0.mk (Kd.C_below (by (with_reducible repeat (first | apply Kd.C_alloc | apply Kd.C_drewN | apply Kd.C_drew)); exact HC.out) hb); have hlt2 : w1.heap.size ≤ w2.heap.size := hb.size; clear HB HX HC; have HB := n0_; have HX := n1_; have HC := n2_; clear n0_ n1_ n2_ hb hbx) | (go_at_call 29; (refine (own_ofB k i t _ rfl _ HV.out).mono ?_); rintro e w3 ⟨rfl, hb⟩; have hbx : w3.heap[w.heap.size]? = some (Obj.cells #[.int .i64 k, .int .i64 i, .int .i64 t, .slice A l.length c] 27 (0, 0)) := (hb.block w.heap.size (blk_lt (show _ = some (Obj.cells #[.int .i64 k, .int .i64 i, .int .i64 t, .slice A l.length c] 27 (0, 0)) from (by (with_reducible repeat (first | refine blk_drewN ?_ _ | refine blk_drew ?_ | refine blk_alloc ?_ _)); exact HX.out)))).trans (show _ = some (Obj.cells #[.int .i64 k, .int .i64 i, .int .i64 t, .slice A l.length c] 27 (0, 0)) from (by (with_reducible repeat (first | refine blk_drewN ?_ _ | refine blk_drew ?_ | refine blk_alloc ?_ _)); exact HX.out)); clear kb0 kb1 kb2 kb3 fb0 fb1 fb2 fb3; have kb0 := blk_cell hbx 0; have kb1 := blk_cell hbx 1; have kb2 := blk_cell hbx 2; have kb3 := blk_cell hbx 3; have fb0 := blk_frozen hbx 0; have fb1 := blk_frozen hbx 1; have fb2 := blk_frozen hbx 2; have fb3 := blk_frozen hbx 3; have n0_ := Aside0.mk (below_step (by repeat (first | exact HB.out | apply below_alloc | apply pw_below_drewN | apply below_drew1 | refine below_set ?_ (Nat.le_refl _) | refine below_set ?_ (Nat.le_of_lt (by first | exact hlt | omega)))) hb); have n1_ := Aside0.mk hbx; have n2_ := Aside0.mk (Kd.C_below (by (with_reducible repeat (first | apply Kd.C_alloc | apply Kd.C_drewN | apply Kd.C_drew)); exact HC.out) hb); clear HB HX HC; have HB := n0_; have HX := n1_; have HC := n2_; clear n0_ n1_ n2_ hb hbx; have hlt3 : w.heap.size < w3.heap.size := blk_lt HX.out; have hne3 : (w.heap.size = w3.heap.size) = False := eq_false (by omega); have hne4 : (w3.heap.size = w.heap.size) = False := eq_false (by omega)) | (go_at_call 33; (with_reducible refine (event_word.calls k wd _ HW.out).mono ?_); rintro e w5 ⟨rfl, ⟨nd, rfl⟩⟩))
  go_loopg [6, 36] l.length (fun d v6 v36 w' => ∃ (acc : List ByteArray) (j : Nat), v36 = .int .i64 (j : Int) ∧ Aside0 (j + d = l.length) ∧ Aside0 (textGoE (l.drop j) acc = some out) ∧ Aside0 (Kd.R Kd.string 9 w' w.heap.size (fun _ => True) v6 acc) ∧ Aside0 (Below w.heap.size w w'))
  case atStart => exact ⟨[wd, nm], 0, rfl, ⟨by omega⟩, HG, ⟨by (with_reducible repeat (first | apply Kd.R_drewN | apply Kd.R_drew)); exact R_newS _ _ _ (below_size (by repeat (first | exact HB.out | apply below_alloc | apply pw_below_drewN | apply below_drew1 | refine below_set ?_ (Nat.le_refl _) | refine below_set ?_ (Nat.le_of_lt (by first | exact hlt | omega))))) (by first | rfl | (simp; done) | (simp; omega)) [wd, nm] (by simp)⟩, ⟨(by repeat (first | exact HB.out | apply below_alloc | apply pw_below_drewN | apply below_drew1 | refine below_set ?_ (Nat.le_refl _) | refine below_set ?_ (Nat.le_of_lt (by first | exact hlt | omega))))⟩⟩
  case round =>
    obtain ⟨acc, j, rfl, HD, HA, HO, HB2⟩ := hrel
    clear HG HB
    have HB := HB2
    clear HB2
    have hd := HD.out
    clear HD
    by_cases hj : j < l.length
    · obtain ⟨k2, rfl⟩ : ∃ m, gk = m + 1 := ⟨gk - 1, by omega⟩
      have H := HA.out
      clear HA
      rw [rd_dropE hj] at H
      unfold textGoE at H
      obtain ⟨tx, hA, H⟩ := Option.bind_eq_some_iff.mp H
      by_cases c1 : acc.length < 8796093022208
      · rw [if_pos c1] at H
        have HTx := Aside0.mk H
        have HX1 := Aside0.mk hA
        obtain ⟨ad, e1, hx⟩ := Kd.at_int (Kd.C_below HC0.out HB.out) (j : Int) (by omega) (by omega)
        subst e1
        rw [Int.toNat_natCast] at hx
        have p1 : decide ((j : Int) < (l.length : Int)) = true := decide_eq_true (by omega)
        have p1b : decide (j < l.length) = true := decide_eq_true hj
        have p2 : ((0 : Int) ≤ (j : Int)) = True := eq_true (by omega)
        have p3 : ((j : Int) < (l.length : Int)) = True := eq_true (by omega)
        have pw : wrap64 ((j : Int) + 1) = ((j + 1 : Nat) : Int) := by unfold wrap64; omega
        have HJ := Aside0.mk hd
        have LM := Aside0.mk c1
        have HLB := Aside0.mk hlb
        obtain ⟨A6, c6, rfl⟩ := Kd.R_slice HO.out
        clear H hA c1 hj hd hlb
        generalize hq : rd l (j : Int) = q at *
        clear hq
        go_wp2_with (first | (go_at_call 32; (with_reducible refine (strconv_Itoa.calls q tx _ (TabOk.below HT.out (by repeat (first | exact HB.out | apply below_alloc | apply pw_below_drewN | apply below_drew1))) HX1.out).mono ?_); rintro e w6 ⟨rfl, hb⟩; have n0_ := Aside0.mk (Kd.R_below (by (with_reducible repeat (first | apply Kd.R_alloc | apply Kd.R_drewN | apply Kd.R_drew)); exact HO.out) hb); have n1_ := Aside0.mk (below_step (by repeat (first | exact HB.out | apply below_alloc | apply pw_below_drewN | apply below_drew1)) hb); clear HO HB hb; have HO := n0_; have HB := n1_; clear n0_ n1_) | ((with_reducible refine gate_builtin (b := .append) (xs := #[.tmp 40, .tmp 43]) rfl ?_); at_builtin; refine Kd.R_append Kd.string (w0 := w) w.heap.size rfl (.tmp 40) (.tmp 43) 69 9 (.string ⟨#[]⟩) 16 rfl Tryd.underlying69 info9 rfl (by decide) (by omega) (.slice A6 acc.length c6) acc tx [.string tx] (fun _ => True) (fun _ => False) rfl rfl ?aP (fun _ hk => hk.elim) ?aF ?aO ?aB ?aS ?aL ?_; (case aP => exact rfl); (case aB => exact (by repeat (first | exact HB.out | apply below_alloc | apply pw_below_drewN | apply below_drew1))); (case aF => exact (fun _ _ => trivial)); (case aO => exact (by (with_reducible repeat (first | apply Kd.R_alloc | apply Kd.R_drewN | apply Kd.R_drew)); exact HO.out)); (case aS => exact (below_size (by repeat (first | exact HB.out | apply below_alloc | apply pw_below_drewN | apply below_drew1)))); (case aL => have := LM.out; omega); intro v7 w7 ho hb hg hat; have n0_ := Aside0.mk ho; have n1_ := Aside0.mk hb; clear HO HB ho hb hg hat; have HO := n0_; have HB := n1_; clear n0_ n1_))
        go_roundg k2
        case measure => omega
        case rel => exact ⟨_, j + 1, by (try rw [pw]), ⟨by have := HJ.out; omega⟩, HTx, ⟨by (with_reducible repeat (first | apply Kd.R_alloc | apply Kd.R_drewN | apply Kd.R_drew)); exact HO.out⟩, ⟨by repeat (first | exact HB.out | apply below_alloc | apply pw_below_drewN | apply below_drew1)⟩⟩
      · rw [if_neg c1] at H
        exact absurd H (by simp)
    · have H := HA.out
      clear HA
      rw [List.drop_eq_nil_of_le (by omega)] at H
      obtain rfl := Option.some.inj H
      have p1 : decide ((j : Int) < (l.length : Int)) = false := decide_eq_false (by omega)
      have p1b : decide (j < l.length) = false := decide_eq_false (by omega)
      obtain ⟨A6, c6, rfl⟩ := Kd.R_slice HO.out
      have hq := Kd.R_reads' HO.out
      have HR6 := Aside0.mk hq.2.2
      have HL6 := Aside0.mk hq.2.1
      clear H hj hd hlb hq
      go_wp2_with (first | (go_at_call 34; (refine (strings_Join.calls A6 c6 acc (⟨#[32]⟩ : ByteArray) r _ (by (with_reducible repeat (first | apply Kd.C_alloc | apply Kd.C_drewN | apply Kd.C_drew)); exact HR6.out) HL6.out HJn.out).mono ?_); rintro e w8 ⟨rfl, hb⟩; have n1_ := Aside0.mk (below_step (by repeat (first | exact HB.out | apply below_alloc | apply pw_below_drewN | apply below_drew1)) hb); clear HB hb; have HB := n1_; clear n1_))
      go_ret
      exact ⟨rfl, by repeat (first | exact HB.out | apply below_alloc | apply pw_below_drewN | apply below_drew1)⟩
set_option maxHeartbeats 8000000 in
set_option maxRecDepth 100000 in
theorem own_Text_undo (k i t : Int) (A : Option Addr) (c : Nat) (l : List Int) (nm u wd r : ByteArray) (out : List ByteArray) (w : World) (hC : Kd.C (Kd.int .i64) w A l.length l) (hc : l.length ≤ c) (hT : TabOk w) (h : event_Check.f k i t l = some 0) (hV : ofV k i t = .iface 64 (.agg #[.int .i64 i, .int .i64 t])) (hi : strconv_Itoa.f i = some nm) (hu : strconv_Itoa.f t = some u) (z1 : 1 + u.size ≤ 9223372036854775807) (z2 : nm.size + (1 + u.size) ≤ 9223372036854775807) (hw : event_word.f k = some wd) (hg : textGoE l [wd, nm ++ ((⟨#[46]⟩ : ByteArray) ++ u)] = some out) (hj : strings_Join.f out (⟨#[32]⟩ : ByteArray) = some r) :
    Calls Tryd.prog 12 #[.agg #[.int .i64 k, .int .i64 i, .int .i64 t, .slice A l.length c]] w fun e w' => e = .returned (.string r) ∧ Below w.heap.size w w' := by
  have HC0 := Aside0.mk hC
  have HC := Aside0.mk hC
  have HL := Aside0.mk hc
  have HH := Aside0.mk h
  have HT := Aside0.mk hT
  have hlb : l.length ≤ 9223372036854775807 := Kd.C_max hC
  clear hC hc h hT
  have HV := Aside0.mk hV
  have HI := Aside0.mk hi
  have HW := Aside0.mk hw
  have HG := Aside0.mk hg
  have HJn := Aside0.mk hj
  clear hV hi hw hg hj
  have HU := Aside0.mk hu
  clear hu
  have b1 : (9223372036854775807 < 1 + u.size) = False := eq_false (by omega)
  have b2 : (9223372036854775807 < nm.size + (1 + u.size)) = False := eq_false (by omega)
  have b3 : (9223372036854775807 < nm.size + ((⟨#[46]⟩ : ByteArray) ++ u).size) = False := eq_false (by rw [ByteArray.size_append, show (⟨#[46]⟩ : ByteArray).size = 1 from rfl]; omega)
  clear z1 z2
  go_enter Tryd.func12, Tryd.ntmps12
  go_wp2_with (first | (go_at_call 14; (refine (event_Check.calls k i t A c l 0 _ (by (with_reducible repeat (first | apply Kd.C_alloc | apply Kd.C_drewN | apply Kd.C_drew)); exact HC.out) HL.out HH.out).mono ?_); rintro e w1 ⟨rfl, hb⟩; have hbx := (hb.block w.heap.size (by simp)).trans (heap_newE w (.cells _ 27)); have kb0 := blk_cell hbx 0; have kb1 := blk_cell hbx 1; have kb2 := blk_cell hbx 2; have kb3 := blk_cell hbx 3; have fb0 := blk_frozen hbx 0; have fb1 := blk_frozen hbx 1; have fb2 := blk_frozen hbx 2; have fb3 := blk_frozen hbx 3; have HB := Aside0.mk (below_step (below_alloc (Below.refl _ _) _) hb); have HX := Aside0.mk hbx; have HC1 := Aside0.mk (Kd.C_below HC.out HB.out); clear HC; have HC := HC1; clear HC1; have hlt : w.heap.size < w1.heap.size := blk_lt hbx; have hne : (w.heap.size = w1.heap.size) = False := eq_false (by omega); have hne2 : (w1.heap.size = w.heap.size) = False := eq_false (by omega); clear hb hbx) | (go_at_call 32; have h_ := HI; clear h_; (with_reducible refine (strconv_Itoa.calls i nm _ (TabOk.below HT.out (by repeat (first | exact HB.out | apply below_alloc | apply pw_below_drewN | apply below_drew1 | refine below_set ?_ (Nat.le_refl _) | refine below_set ?_ (Nat.le_of_lt (by first | exact hlt | omega))))) HI.out).mono ?_); rintro e w2 ⟨rfl, hb⟩; have hbx : w2.heap[w.heap.size]? = some (Obj.cells #[.int .i64 k, .int .i64 i, .int .i64 t, .slice A l.length c] 27 (0, 0)) := (hb.block w.heap.size (blk_lt (show _ = some (Obj.cells #[.int .i64 k, .int .i64 i, .int .i64 t, .slice A l.length c] 27 (0, 0)) from (by (with_reducible repeat (first | refine blk_drewN ?_ _ | refine blk_drew ?_ | refine blk_alloc ?_ _)); exact HX.out)))).trans (show _ = some (Obj.cells #[.int .i64 k, .int .i64 i, .int .i64 t, .slice A l.length c] 27 (0, 0)) from (by (with_reducible repeat (first | refine blk_drewN ?_ _ | refine blk_drew ?_ | refine blk_alloc ?_ _)); exact HX.out)); clear kb0 kb1 kb2 kb3 fb0 fb1 fb2 fb3; have kb0 := blk_cell hbx 0; have kb1 := blk_cell hbx 1; have kb2 := blk_cell hbx 2; have kb3 := blk_cell hbx 3; have fb0 := blk_frozen hbx 0; have fb1 := blk_frozen hbx 1; have fb2 := blk_frozen hbx 2; have fb3 := blk_frozen hbx 3; have n0_ := Aside0.mk (below_step (by repeat (first | exact HB.out | apply below_alloc | apply pw_below_drewN | apply below_drew1 | refine below_set ?_ (Nat.le_refl _) | refine below_set ?_ (Nat.le_of_lt (by first | exact hlt | omega)))) hb); have n1_ := Aside0.mk hbx; have n2_ := Aside0.mk (Kd.C_below (by (with_reducible repeat (first | apply Kd.C_alloc | apply Kd.C_drewN | apply Kd.C_drew)); exact HC.out) hb); have hlt2 : w1.heap.size ≤ w2.heap.size := hb.size; clear HB HX HC HI; have HB := n0_; have HX := n1_; have HC := n2_; clear n0_ n1_ n2_ hb hbx) | (go_at_call 29; (refine (own_ofB k i t _ rfl _ HV.out).mono ?_); rintro e w3 ⟨rfl, hb⟩; have hbx : w3.heap[w.heap.size]? = some (Obj.cells #[.int .i64 k, .int .i64 i, .int .i64 t, .slice A l.length c] 27 (0, 0)) := (hb.block w.heap.size (blk_lt (show _ = some (Obj.cells #[.int .i64 k, .int .i64 i, .int .i64 t, .slice A l.length c] 27 (0, 0)) from (by (with_reducible repeat (first | refine blk_drewN ?_ _ | refine blk_drew ?_ | refine blk_alloc ?_ _)); exact HX.out)))).trans (show _ = some (Obj.cells #[.int .i64 k, .int .i64 i, .int .i64 t, .slice A l.length c] 27 (0, 0)) from (by (with_reducible repeat (first | refine blk_drewN ?_ _ | refine blk_drew ?_ | refine blk_alloc ?_ _)); exact HX.out)); clear kb0 kb1 kb2 kb3 fb0 fb1 fb2 fb3; have kb0 := blk_cell hbx 0; have kb1 := blk_cell hbx 1; have kb2 := blk_cell hbx 2; have kb3 := blk_cell hbx 3; have fb0 := blk_frozen hbx 0; have fb1 := blk_frozen hbx 1; have fb2 := blk_frozen hbx 2; have fb3 := blk_frozen hbx 3; have n0_ := Aside0.mk (below_step (by repeat (first | exact HB.out | apply below_alloc | apply pw_below_drewN | apply below_drew1 | refine below_set ?_ (Nat.le_refl _) | refine below_set ?_ (Nat.le_of_lt (by first | exact hlt | omega)))) hb); have n1_ := Aside0.mk hbx; have n2_ := Aside0.mk (Kd.C_below (by (with_reducible repeat (first | apply Kd.C_alloc | apply Kd.C_drewN | apply Kd.C_drew)); exact HC.out) hb); clear HB HX HC; have HB := n0_; have HX := n1_; have HC := n2_; clear n0_ n1_ n2_ hb hbx; have hlt3 : w.heap.size < w3.heap.size := blk_lt HX.out; have hne3 : (w.heap.size = w3.heap.size) = False := eq_false (by omega); have hne4 : (w3.heap.size = w.heap.size) = False := eq_false (by omega)) | (go_at_call 32; have h_ := HU; clear h_; (with_reducible refine (strconv_Itoa.calls t u _ (TabOk.below HT.out (by repeat (first | exact HB.out | apply below_alloc | apply pw_below_drewN | apply below_drew1 | refine below_set ?_ (Nat.le_refl _) | refine below_set ?_ (Nat.le_of_lt (by first | exact hlt | omega))))) HU.out).mono ?_); rintro e w4 ⟨rfl, hb⟩; have hbx : w4.heap[w.heap.size]? = some (Obj.cells #[.int .i64 k, .int .i64 i, .int .i64 t, .slice A l.length c] 27 (0, 0)) := (hb.block w.heap.size (blk_lt (show _ = some (Obj.cells #[.int .i64 k, .int .i64 i, .int .i64 t, .slice A l.length c] 27 (0, 0)) from (by (with_reducible repeat (first | refine blk_drewN ?_ _ | refine blk_drew ?_ | refine blk_alloc ?_ _)); exact HX.out)))).trans (show _ = some (Obj.cells #[.int .i64 k, .int .i64 i, .int .i64 t, .slice A l.length c] 27 (0, 0)) from (by (with_reducible repeat (first | refine blk_drewN ?_ _ | refine blk_drew ?_ | refine blk_alloc ?_ _)); exact HX.out)); clear kb0 kb1 kb2 kb3 fb0 fb1 fb2 fb3; have kb0 := blk_cell hbx 0; have kb1 := blk_cell hbx 1; have kb2 := blk_cell hbx 2; have kb3 := blk_cell hbx 3; have fb0 := blk_frozen hbx 0; have fb1 := blk_frozen hbx 1; have fb2 := blk_frozen hbx 2; have fb3 := blk_frozen hbx 3; have n0_ := Aside0.mk (below_step (by repeat (first | exact HB.out | apply below_alloc | apply pw_below_drewN | apply below_drew1 | refine below_set ?_ (Nat.le_refl _) | refine below_set ?_ (Nat.le_of_lt (by first | exact hlt | omega)))) hb); have n1_ := Aside0.mk hbx; have n2_ := Aside0.mk (Kd.C_below (by (with_reducible repeat (first | apply Kd.C_alloc | apply Kd.C_drewN | apply Kd.C_drew)); exact HC.out) hb); have hlt4 : w3.heap.size < w4.heap.size := Nat.lt_of_lt_of_le (by simp) hb.size; clear HB HX HC; have HB := n0_; have HX := n1_; have HC := n2_; clear n0_ n1_ n2_ hb hbx; have hlt5 : w.heap.size < w4.heap.size := blk_lt HX.out; have hne5 : (w.heap.size = w4.heap.size) = False := eq_false (by omega); have hne6 : (w4.heap.size = w.heap.size) = False := eq_false (by omega)) | (go_at_call 33; (with_reducible refine (event_word.calls k wd _ HW.out).mono ?_); rintro e w5 ⟨rfl, ⟨nd, rfl⟩⟩; have hc3 : ∀ o, ((w4.drewN nd).alloc o).cell? ⟨w.heap.size, 3, none⟩ = some (.slice A l.length c) := (fun o => (World.cell?_alloc_lt _ o ⟨w.heap.size, 3, none⟩ (by simpa using hlt5)).trans (by simpa using kb3))))
  go_loopg [6, 36] l.length (fun d v6 v36 w' => ∃ (acc : List ByteArray) (j : Nat), v36 = .int .i64 (j : Int) ∧ Aside0 (j + d = l.length) ∧ Aside0 (textGoE (l.drop j) acc = some out) ∧ Aside0 (Kd.R Kd.string 9 w' w.heap.size (fun _ => True) v6 acc) ∧ Aside0 (Below w.heap.size w w'))
  case atStart => exact ⟨[wd, nm ++ ((⟨#[46]⟩ : ByteArray) ++ u)], 0, rfl, ⟨by omega⟩, HG, ⟨by (with_reducible repeat (first | apply Kd.R_drewN | apply Kd.R_drew)); exact R_newS _ _ _ (below_size (by repeat (first | exact HB.out | apply below_alloc | apply pw_below_drewN | apply below_drew1 | refine below_set ?_ (Nat.le_refl _) | refine below_set ?_ (Nat.le_of_lt (by first | exact hlt | omega))))) (by first | rfl | (simp; done) | (simp; omega)) [wd, nm ++ ((⟨#[46]⟩ : ByteArray) ++ u)] (by simp)⟩, ⟨(by repeat (first | exact HB.out | apply below_alloc | apply pw_below_drewN | apply below_drew1 | refine below_set ?_ (Nat.le_refl _) | refine below_set ?_ (Nat.le_of_lt (by first | exact hlt | omega))))⟩⟩
  case round =>
    obtain ⟨acc, j, rfl, HD, HA, HO, HB2⟩ := hrel
    clear HG HB
    have HB := HB2
    clear HB2
    have hd := HD.out
    clear HD
    by_cases hj : j < l.length
    · obtain ⟨k2, rfl⟩ : ∃ m, gk = m + 1 := ⟨gk - 1, by omega⟩
      have H := HA.out
      clear HA
      rw [rd_dropE hj] at H
      unfold textGoE at H
      obtain ⟨tx, hA, H⟩ := Option.bind_eq_some_iff.mp H
      by_cases c1 : acc.length < 8796093022208
      · rw [if_pos c1] at H
        have HTx := Aside0.mk H
        have HX1 := Aside0.mk hA
        obtain ⟨ad, e1, hx⟩ := Kd.at_int (Kd.C_below HC0.out HB.out) (j : Int) (by omega) (by omega)
        subst e1
        rw [Int.toNat_natCast] at hx
        have p1 : decide ((j : Int) < (l.length : Int)) = true := decide_eq_true (by omega)
        have p1b : decide (j < l.length) = true := decide_eq_true hj
        have p2 : ((0 : Int) ≤ (j : Int)) = True := eq_true (by omega)
        have p3 : ((j : Int) < (l.length : Int)) = True := eq_true (by omega)
        have pw : wrap64 ((j : Int) + 1) = ((j + 1 : Nat) : Int) := by unfold wrap64; omega
        have HJ := Aside0.mk hd
        have LM := Aside0.mk c1
        have HLB := Aside0.mk hlb
        obtain ⟨A6, c6, rfl⟩ := Kd.R_slice HO.out
        clear H hA c1 hj hd hlb
        generalize hq : rd l (j : Int) = q at *
        clear hq
        go_wp2_with (first | (go_at_call 32; (with_reducible refine (strconv_Itoa.calls q tx _ (TabOk.below HT.out (by repeat (first | exact HB.out | apply below_alloc | apply pw_below_drewN | apply below_drew1))) HX1.out).mono ?_); rintro e w6 ⟨rfl, hb⟩; have n0_ := Aside0.mk (Kd.R_below (by (with_reducible repeat (first | apply Kd.R_alloc | apply Kd.R_drewN | apply Kd.R_drew)); exact HO.out) hb); have n1_ := Aside0.mk (below_step (by repeat (first | exact HB.out | apply below_alloc | apply pw_below_drewN | apply below_drew1)) hb); clear HO HB hb; have HO := n0_; have HB := n1_; clear n0_ n1_) | ((with_reducible refine gate_builtin (b := .append) (xs := #[.tmp 40, .tmp 43]) rfl ?_); at_builtin; refine Kd.R_append Kd.string (w0 := w) w.heap.size rfl (.tmp 40) (.tmp 43) 69 9 (.string ⟨#[]⟩) 16 rfl Tryd.underlying69 info9 rfl (by decide) (by omega) (.slice A6 acc.length c6) acc tx [.string tx] (fun _ => True) (fun _ => False) rfl rfl ?aP (fun _ hk => hk.elim) ?aF ?aO ?aB ?aS ?aL ?_; (case aP => exact rfl); (case aB => exact (by repeat (first | exact HB.out | apply below_alloc | apply pw_below_drewN | apply below_drew1))); (case aF => exact (fun _ _ => trivial)); (case aO => exact (by (with_reducible repeat (first | apply Kd.R_alloc | apply Kd.R_drewN | apply Kd.R_drew)); exact HO.out)); (case aS => exact (below_size (by repeat (first | exact HB.out | apply below_alloc | apply pw_below_drewN | apply below_drew1)))); (case aL => have := LM.out; omega); intro v7 w7 ho hb hg hat; have n0_ := Aside0.mk ho; have n1_ := Aside0.mk hb; clear HO HB ho hb hg hat; have HO := n0_; have HB := n1_; clear n0_ n1_))
        go_roundg k2
        case measure => omega
        case rel => exact ⟨_, j + 1, by (try rw [pw]), ⟨by have := HJ.out; omega⟩, HTx, ⟨by (with_reducible repeat (first | apply Kd.R_alloc | apply Kd.R_drewN | apply Kd.R_drew)); exact HO.out⟩, ⟨by repeat (first | exact HB.out | apply below_alloc | apply pw_below_drewN | apply below_drew1)⟩⟩
      · rw [if_neg c1] at H
        exact absurd H (by simp)
    · have H := HA.out
      clear HA
      rw [List.drop_eq_nil_of_le (by omega)] at H
      obtain rfl := Option.some.inj H
      have p1 : decide ((j : Int) < (l.length : Int)) = false := decide_eq_false (by omega)
      have p1b : decide (j < l.length) = false := decide_eq_false (by omega)
      obtain ⟨A6, c6, rfl⟩ := Kd.R_slice HO.out
      have hq := Kd.R_reads' HO.out
      have HR6 := Aside0.mk hq.2.2
      have HL6 := Aside0.mk hq.2.1
      clear H hj hd hlb hq
      go_wp2_with (first | (go_at_call 34; (refine (strings_Join.calls A6 c6 acc (⟨#[32]⟩ : ByteArray) r _ (by (with_reducible repeat (first | apply Kd.C_alloc | apply Kd.C_drewN | apply Kd.C_drew)); exact HR6.out) HL6.out HJn.out).mono ?_); rintro e w8 ⟨rfl, hb⟩; have n1_ := Aside0.mk (below_step (by repeat (first | exact HB.out | apply below_alloc | apply pw_below_drewN | apply below_drew1)) hb); clear HB hb; have HB := n1_; clear n1_))
      go_ret
      exact ⟨rfl, by repeat (first | exact HB.out | apply below_alloc | apply pw_below_drewN | apply below_drew1)⟩
theorem event_Text.calls (a0_0 : Int) (a0_1 : Int) (a0_2 : Int) (A0_3 : Option Addr) (c0_3 : Nat) (l0_3 : List Int) (r : ByteArray) (w : World) (hr0_3 : Kd.C (Kd.int .i64) w A0_3 l0_3.length l0_3) (hc0_3 : l0_3.length ≤ c0_3) (hT : TabOk w) (h : event_Text.f a0_0 a0_1 a0_2 l0_3 = some r) :
    Calls Tryd.prog 12 #[.agg #[.int .i64 a0_0, .int .i64 a0_1, .int .i64 a0_2, .slice A0_3 l0_3.length c0_3]] w fun e w' => e = .returned (.string r) ∧ Below w.heap.size w w' := by
  unfold event_Text.f at h
  obtain ⟨cc, hcc, h⟩ := Option.bind_eq_some_iff.mp h
  by_cases h0 : cc = 0
  · subst h0
    rw [if_pos rfl] at h
    obtain ⟨nm, hnm, h⟩ := Option.bind_eq_some_iff.mp h
    obtain ⟨wd, hwd, h⟩ := Option.bind_eq_some_iff.mp h
    obtain ⟨out, hout, hjn⟩ := Option.bind_eq_some_iff.mp h
    clear h
    unfold nameE at hnm
    obtain ⟨n0, hn0, hnm⟩ := Option.bind_eq_some_iff.mp hnm
    by_cases h2 : isUndo a0_0 a0_1 a0_2
    · rw [if_pos h2] at hnm
      obtain ⟨u, hu, hnm⟩ := Option.bind_eq_some_iff.mp hnm
      have hn : ¬ isStep a0_0 a0_1 a0_2 := by unfold isStep; unfold isUndo at h2; omega
      by_cases z1 : 1 + u.size ≤ 9223372036854775807
      · rw [if_pos z1] at hnm
        by_cases z2 : n0.size + (1 + u.size) ≤ 9223372036854775807
        · rw [if_pos z2] at hnm
          obtain rfl := Option.some.inj hnm
          exact own_Text_undo a0_0 a0_1 a0_2 A0_3 c0_3 l0_3 n0 u wd r out w hr0_3 hc0_3 hT hcc (by unfold ofV; rw [if_neg hn, if_pos h2]) hn0 hu z1 z2 hwd hout hjn
        · rw [if_neg z2] at hnm
          exact absurd hnm (by simp)
      · rw [if_neg z1] at hnm
        exact absurd hnm (by simp)
    · rw [if_neg h2] at hnm
      obtain rfl := Option.some.inj hnm
      have h1 : isStep a0_0 a0_1 a0_2 := by
        refine Decidable.of_not_not fun hn => ?_
        unfold event_Check.f at hcc
        rw [if_neg (fun h => h.elim hn h2)] at hcc
        exact absurd hcc (by simp)
      exact own_Text_step a0_0 a0_1 a0_2 A0_3 c0_3 l0_3 n0 wd r out w hr0_3 hc0_3 hT hcc (by unfold ofV; rw [if_pos h1]) hn0 hwd hout hjn
  · rw [if_neg h0] at h
    obtain rfl := Option.some.inj h
    exact own_Text_bad a0_0 a0_1 a0_2 A0_3 c0_3 l0_3 cc w hr0_3 hc0_3 hT hcc h0
end

/-! ### event_Opens: function 19 -/
def event_Opens.f (a0 : Int) : Option (Bool) := if a0 = 1 then (some true) else (some (a0 == 4))
set_option maxHeartbeats 8000000 in
set_option maxRecDepth 100000 in
theorem event_Opens.calls (a0 : Int) (r : Bool) (w : World) (h : event_Opens.f a0 = some r) :
    Calls Tryd.prog 19 #[.int .i64 a0] w fun e w' => e = .returned (.bool r) ∧ Drawn0 w w' := by
  have H : (if a0 = 1 then (some true) else (some (a0 == 4))) = some r := h
  clear h
  by_cases c2 : a0 = 1
  · rw [if_pos c2] at H
    have c2b0 : (a0 == 1) = true := beq_iff_eq.mpr c2
    have c2b1 : (a0 != 1) = false := bne_eq_false_iff_eq.mpr c2
    clear c2
    obtain rfl := Option.some.inj H
    go_enter Tryd.func19, Tryd.ntmps19
    go_wp2
    go_ret
    exact ⟨by first | rfl | (simp; done) | (simp [*]; done), by repeat (first | exact Drawn0.refl _ | apply Drawn0.step)⟩
  · rw [if_neg c2] at H
    have c2b0 : (a0 == 1) = false := beq_eq_false_iff_ne.mpr c2
    have c2b1 : (a0 != 1) = true := bne_iff_ne.mpr c2
    obtain rfl := Option.some.inj H
    go_enter Tryd.func19, Tryd.ntmps19
    go_wp2
    go_ret
    exact ⟨by first | rfl | (simp; done) | (simp [*]; done), by repeat (first | exact Drawn0.refl _ | apply Drawn0.step)⟩

/-! ### argosylaw10_lives: function 7 -/
def argosylaw10_lives.f (k : Nat)  : Option (Bool) := (some (([2, 0] : List Int) : List Int)).bind fun y174 => ((event_Bytes.f k 4 5 1 y174).bind fun bt178 => ((event_Read.f k bt178.1).bind fun bt182 => (if (strOfNums bt178.1).toList = ([4, 5, 1, 2, 2, 0] : List UInt8) then (if bt178.2 = 0 then ((argosyref10_Same.f k bt182.1 bt182.2.1 bt182.2.2.1 bt182.2.2.2.1 4 5 1 y174).bind fun t190 => (if t190 = true then (if bt182.2.2.2.2 = 0 then ((event_Text.f 4 5 1 y174).bind fun t191 => (if t191.toList = ([117, 110, 100, 111, 32, 53, 46, 49, 32, 50, 32, 48] : List UInt8) then ((event_Check.f 0 0 0 ([] : List Int)).bind fun t192 => (if t192 = 2 then ((event_Opens.f 4).bind fun t193 => (if t193 = true then (some true) else (none))) else (none))) else (none))) else (none)) else (none))) else (none)) else (none))))
theorem argosylaw10_lives.mono : ∀ k, LeO (argosylaw10_lives.f k ) (argosylaw10_lives.f (k + 1) ) := by
  intro  k
  unfold argosylaw10_lives.f
  repeat' first
      | (with_reducible exact argosyref10_Same.mono _ _ _ _ _ _ _ _ _)
      | (with_reducible exact event_Bytes.mono _ _ _ _ _)
      | (with_reducible exact event_Read.mono _ _)
      | (with_reducible exact LeO.refl _)
      | (with_reducible exact LeO.none _)
      | (with_reducible refine LeO.ite ?_ ?_)
      | (with_reducible refine LeO.bind ?_ (fun _ => ?_))
      | exact argosyref10_Same.mono _ _ _ _ _ _ _ _ _
      | exact event_Bytes.mono _ _ _ _ _
      | exact event_Read.mono _ _
      | exact LeO.none _
      | refine LeO.ite ?_ ?_
      | refine LeO.bind ?_ (fun _ => ?_)
set_option maxHeartbeats 8000000 in
set_option maxRecDepth 100000 in
theorem argosylaw10_lives.calls (k : Nat)  (r : Bool) (w : World) (hT : TabOk w) (h : argosylaw10_lives.f k  = some r) :
    Calls Tryd.prog 7 #[] w fun e w' => e = .returned (.bool r) ∧ Below w.heap.size w w' := by
  have hu27 := Tryd.underlying27
  have HT := Aside0.mk hT
  clear hT
  have HB := Aside0.mk (Below.refl w.heap.size w)
  have H : ((some (([2, 0] : List Int) : List Int)).bind fun y174 => ((event_Bytes.f k 4 5 1 y174).bind fun bt178 => ((event_Read.f k bt178.1).bind fun bt182 => (if (strOfNums bt178.1).toList = ([4, 5, 1, 2, 2, 0] : List UInt8) then (if bt178.2 = 0 then ((argosyref10_Same.f k bt182.1 bt182.2.1 bt182.2.2.1 bt182.2.2.2.1 4 5 1 y174).bind fun t190 => (if t190 = true then (if bt182.2.2.2.2 = 0 then ((event_Text.f 4 5 1 y174).bind fun t191 => (if t191.toList = ([117, 110, 100, 111, 32, 53, 46, 49, 32, 50, 32, 48] : List UInt8) then ((event_Check.f 0 0 0 ([] : List Int)).bind fun t192 => (if t192 = 2 then ((event_Opens.f 4).bind fun t193 => (if t193 = true then (some true) else (none))) else (none))) else (none))) else (none)) else (none))) else (none)) else (none))))) = some r := h
  clear h
  obtain ⟨y174, hy174⟩ : ∃ y_ : List Int, y_ = (([2, 0] : List Int)) := ⟨_, rfl⟩
  replace H : ((event_Bytes.f k 4 5 1 y174).bind fun bt178 => ((event_Read.f k bt178.1).bind fun bt182 => (if (strOfNums bt178.1).toList = ([4, 5, 1, 2, 2, 0] : List UInt8) then (if bt178.2 = 0 then ((argosyref10_Same.f k bt182.1 bt182.2.1 bt182.2.2.1 bt182.2.2.2.1 4 5 1 y174).bind fun t190 => (if t190 = true then (if bt182.2.2.2.2 = 0 then ((event_Text.f 4 5 1 y174).bind fun t191 => (if t191.toList = ([117, 110, 100, 111, 32, 53, 46, 49, 32, 50, 32, 48] : List UInt8) then ((event_Check.f 0 0 0 ([] : List Int)).bind fun t192 => (if t192 = 2 then ((event_Opens.f 4).bind fun t193 => (if t193 = true then (some true) else (none))) else (none))) else (none))) else (none)) else (none))) else (none)) else (none)))) = some r := by first | (rw [hy174]; with_reducible exact H) | (have H2_ := (Option.bind_some _ _).symm.trans H; rw [hy174]; with_reducible exact H2_) | (have H2_ := (Option.bind_some _ _).symm.trans H; with_reducible exact H2_) | with_reducible exact H | (rw [hy174]; exact H) | exact H
  have Ny174 := Aside0.mk hy174
  clear hy174
  replace H := Option.bind_eq_some_iff.mp H
  obtain ⟨⟨t178, t181⟩, A10, H⟩ := H
  replace H : ((event_Read.f k t178).bind fun bt182 => (if (strOfNums t178).toList = ([4, 5, 1, 2, 2, 0] : List UInt8) then (if t181 = 0 then ((argosyref10_Same.f k bt182.1 bt182.2.1 bt182.2.2.1 bt182.2.2.2.1 4 5 1 y174).bind fun t190 => (if t190 = true then (if bt182.2.2.2.2 = 0 then ((event_Text.f 4 5 1 y174).bind fun t191 => (if t191.toList = ([117, 110, 100, 111, 32, 53, 46, 49, 32, 50, 32, 48] : List UInt8) then ((event_Check.f 0 0 0 ([] : List Int)).bind fun t192 => (if t192 = 2 then ((event_Opens.f 4).bind fun t193 => (if t193 = true then (some true) else (none))) else (none))) else (none))) else (none)) else (none))) else (none)) else (none))) = some r := H
  have A1 := Aside0.mk A10
  clear A10
  replace H := Option.bind_eq_some_iff.mp H
  obtain ⟨⟨t182, t183, t184, t185, t188⟩, A20, H⟩ := H
  replace H : (if (strOfNums t178).toList = ([4, 5, 1, 2, 2, 0] : List UInt8) then (if t181 = 0 then ((argosyref10_Same.f k t182 t183 t184 t185 4 5 1 y174).bind fun t190 => (if t190 = true then (if t188 = 0 then ((event_Text.f 4 5 1 y174).bind fun t191 => (if t191.toList = ([117, 110, 100, 111, 32, 53, 46, 49, 32, 50, 32, 48] : List UInt8) then ((event_Check.f 0 0 0 ([] : List Int)).bind fun t192 => (if t192 = 2 then ((event_Opens.f 4).bind fun t193 => (if t193 = true then (some true) else (none))) else (none))) else (none))) else (none)) else (none))) else (none)) else (none)) = some r := H
  have A2 := Aside0.mk A20
  clear A20
  by_cases c3 : (strOfNums t178).toList = ([4, 5, 1, 2, 2, 0] : List UInt8)
  · rw [if_pos c3] at H
    have c3b0 : ((strOfNums t178).toList == ([4, 5, 1, 2, 2, 0] : List UInt8)) = true := beq_iff_eq.mpr c3
    have c3b1 : ((strOfNums t178).toList != ([4, 5, 1, 2, 2, 0] : List UInt8)) = false := bne_eq_false_iff_eq.mpr c3
    clear c3
    by_cases c4 : t181 = 0
    · rw [if_pos c4] at H
      have c4b0 : (t181 == 0) = true := beq_iff_eq.mpr c4
      have c4b1 : (t181 != 0) = false := bne_eq_false_iff_eq.mpr c4
      clear c4
      replace H := Option.bind_eq_some_iff.mp H
      obtain ⟨t190, A50, H⟩ := H
      replace H : (if t190 = true then (if t188 = 0 then ((event_Text.f 4 5 1 y174).bind fun t191 => (if t191.toList = ([117, 110, 100, 111, 32, 53, 46, 49, 32, 50, 32, 48] : List UInt8) then ((event_Check.f 0 0 0 ([] : List Int)).bind fun t192 => (if t192 = 2 then ((event_Opens.f 4).bind fun t193 => (if t193 = true then (some true) else (none))) else (none))) else (none))) else (none)) else (none)) = some r := H
      have A5 := Aside0.mk A50
      clear A50
      by_cases c6 : t190 = true
      · subst c6
        have H1 : (if t188 = 0 then ((event_Text.f 4 5 1 y174).bind fun t191 => (if t191.toList = ([117, 110, 100, 111, 32, 53, 46, 49, 32, 50, 32, 48] : List UInt8) then ((event_Check.f 0 0 0 ([] : List Int)).bind fun t192 => (if t192 = 2 then ((event_Opens.f 4).bind fun t193 => (if t193 = true then (some true) else (none))) else (none))) else (none))) else (none)) = some r := by rw [if_pos rfl] at H; exact H
        clear H
        have H := H1
        clear H1
        by_cases c7 : t188 = 0
        · rw [if_pos c7] at H
          have c7b0 : (t188 == 0) = true := beq_iff_eq.mpr c7
          have c7b1 : (t188 != 0) = false := bne_eq_false_iff_eq.mpr c7
          clear c7
          replace H := Option.bind_eq_some_iff.mp H
          obtain ⟨t191, A80, H⟩ := H
          replace H : (if t191.toList = ([117, 110, 100, 111, 32, 53, 46, 49, 32, 50, 32, 48] : List UInt8) then ((event_Check.f 0 0 0 ([] : List Int)).bind fun t192 => (if t192 = 2 then ((event_Opens.f 4).bind fun t193 => (if t193 = true then (some true) else (none))) else (none))) else (none)) = some r := H
          have A8 := Aside0.mk A80
          clear A80
          by_cases c9 : t191.toList = ([117, 110, 100, 111, 32, 53, 46, 49, 32, 50, 32, 48] : List UInt8)
          · rw [if_pos c9] at H
            have c9b0 : (t191.toList == ([117, 110, 100, 111, 32, 53, 46, 49, 32, 50, 32, 48] : List UInt8)) = true := beq_iff_eq.mpr c9
            have c9b1 : (t191.toList != ([117, 110, 100, 111, 32, 53, 46, 49, 32, 50, 32, 48] : List UInt8)) = false := bne_eq_false_iff_eq.mpr c9
            clear c9
            replace H := Option.bind_eq_some_iff.mp H
            obtain ⟨t192, A100, H⟩ := H
            replace H : (if t192 = 2 then ((event_Opens.f 4).bind fun t193 => (if t193 = true then (some true) else (none))) else (none)) = some r := H
            have A10 := Aside0.mk A100
            clear A100
            by_cases c11 : t192 = 2
            · rw [if_pos c11] at H
              have c11b0 : (t192 == 2) = true := beq_iff_eq.mpr c11
              have c11b1 : (t192 != 2) = false := bne_eq_false_iff_eq.mpr c11
              clear c11
              replace H := Option.bind_eq_some_iff.mp H
              obtain ⟨t193, A120, H⟩ := H
              replace H : (if t193 = true then (some true) else (none)) = some r := H
              have A12 := Aside0.mk A120
              clear A120
              by_cases c13 : t193 = true
              · subst c13
                have H1 : (some true) = some r := by rw [if_pos rfl] at H; exact H
                clear H
                have H := H1
                clear H1
                obtain rfl := Option.some.inj H
                go_enter Tryd.func7, Tryd.ntmps7
                go_wp2_with (first | ((with_reducible refine gate_dst (N := 6) rfl ?_); refine Kd.R_lit (Kd.int .i64) _ 3 ?hg (N := 6) ?hd (xs := ([2, 0] : List Int)) (inner := [.int .i64 2, .int .i64 0]) (ok := fun _ => True) (okp := fun _ => True) ?hr ?hp (fun _ hk => hk) trivial (Below.refl _ _) (Nat.le_refl _) (by simp) ?_; (case hd => rfl); (case hg => rfl); (case hr => first | (go_simp; done) | (go_simp; rfl) | (simp only [pf_or128]; go_simp; done) | (simp only [pf_or128]; go_simp; rfl)); (case hp => exact (Reps.one (show Kd.M (Kd.int .i64) _ _ _ 2 [.int .i64 2] from rfl) (Reps.one (show Kd.M (Kd.int .i64) _ _ _ 0 [.int .i64 0] from rfl) (Reps.none _ _)))); intro v175 w14 ho15 hb hg_ hnew_; clear hg_ hnew_; (first | rw [← Ny174.out] at ho15 | (simp only [Int.reduceToNat] at ho15; rw [← Ny174.out] at ho15)); have n0_ := Aside0.mk (Kd.R_lower ho15 (below_size (by repeat (first | (with_reducible first | exact HB.out | apply below_alloc | apply pw_below_drewN | apply below_drew1) | exact HB.out)))); have n1_ := Aside0.mk (below_step (by repeat (first | (with_reducible first | exact HB.out | apply below_alloc | apply pw_below_drewN | apply below_drew1) | exact HB.out)) hb); clear HB; have HO176 := n0_; have HB := n1_; clear n0_ n1_; clear hb ho15; obtain ⟨Ao16, co16, eo16⟩ := Kd.R_slice HO176.out; subst eo16; (try simp only [Act.put, List.setIfInBounds_toArray, List.set_cons_zero, List.set_cons_succ])) | ((with_reducible refine gate_dst (N := 1) rfl ?_); refine box_event ?hg (N := 1) ?hd (cs := #[.int .i64 0, .int .i64 0, .int .i64 0, .slice none 0 0]) (t := 27) ?hr ?_; (case hd => rfl); (case hg => rfl); (case hr => first | (go_simp; done) | (go_simp; rfl) | (simp only [pf_or128]; go_simp; done) | (simp only [pf_or128]; go_simp; rfl)); intro gb177 hg w17 hbox hb; have n0_ := Aside0.mk (Kd.R_below (by (with_reducible repeat (first | apply Kd.R_alloc | apply Kd.R_drewN | apply Kd.R_drew)); exact HO176.out) hb); have n1_ := Aside0.mk (below_step (by repeat (first | (with_reducible first | exact HB.out | apply below_alloc | apply pw_below_drewN | apply below_drew1) | exact HB.out)) hb); have n2_ := Aside0.mk (hbox); have n3_ := Aside0.mk ((by rw [hg]; exact (below_size (by repeat (first | (with_reducible first | exact HB.out | apply below_alloc | apply pw_below_drewN | apply below_drew1) | exact HB.out))) : w.heap.size ≤ gb177)); have n4_ := Aside0.mk ((by rw [hg]; exact (below_size (by repeat (first | (with_reducible first | exact HB.out | apply below_alloc | apply pw_below_drewN | apply below_drew1) | exact HB.out))) : w.heap.size ≤ gb177)); clear HO176; clear HB; have HO176 := n0_; have HB := n1_; have BK177 := n2_; have GW177 := n3_; have GE177 := n4_; clear n0_ n1_ n2_ n3_ n4_; clear hb hbox hg; have hcz18_0 : w17.cell? ⟨gb177, 0, none⟩ = some (.int .i64 0) := (blk_cell BK177.out 0).trans rfl; have hcz18_1 : w17.cell? ⟨gb177, 1, none⟩ = some (.int .i64 0) := (blk_cell BK177.out 1).trans rfl; have hcz18_2 : w17.cell? ⟨gb177, 2, none⟩ = some (.int .i64 0) := (blk_cell BK177.out 2).trans rfl; have hcz18_3 : w17.cell? ⟨gb177, 3, none⟩ = some (.slice none 0 0) := (blk_cell BK177.out 3).trans rfl; have hfz18_0 := blk_frozen BK177.out 0; have hfz18_1 := blk_frozen BK177.out 1; have hfz18_2 := blk_frozen BK177.out 2; have hfz18_3 := blk_frozen BK177.out 3; (try simp only [Act.put, List.setIfInBounds_toArray, List.set_cons_zero, List.set_cons_succ]); (try (have hcv26s := fun (u0_ u1_ u2_ u3_ : Value) => own_string (P := Tryd.prog) Tryd.underlying22 Tryd.underlying5 Tryd.underlying9 (Kd.own_of_R (Kd.R_far (p := ⟨gb177, 3, none⟩) (Kd.R_far (p := ⟨gb177, 2, none⟩) (Kd.R_far (p := ⟨gb177, 1, none⟩) (Kd.R_far (p := ⟨gb177, 0, none⟩) (Kd.R_tight rfl HO180.out) (fun k_ e_ hk_ => Kd.R_ne HO180.out BK177.out (by decide) (by rw [← e_, hk_])) u0_) (fun k_ e_ hk_ => Kd.R_ne HO180.out BK177.out (by decide) (by rw [← e_, hk_])) u1_) (fun k_ e_ hk_ => Kd.R_ne HO180.out BK177.out (by decide) (by rw [← e_, hk_])) u2_) (fun k_ e_ hk_ => Kd.R_ne HO180.out BK177.out (by decide) (by rw [← e_, hk_])) u3_))))) | ((with_reducible refine gate_callee (f := 11) rfl ?_); refine goesL_ (some 10) rfl rfl Tryd.func11 (by kernel_rfl) rfl #[.agg #[.int .i64 4, .int .i64 5, .int .i64 1, .slice Ao16 y174.length co16]] rfl (by (try simp only [List.map_toArray, List.map_cons, List.map_nil]); first | done | rfl | (simp only [List.length_drop, List.length_take]; rfl)) ?_; (with_reducible refine (event_Bytes.calls k 4 5 1 _ _ y174 t178 t181 _ ?side1 ?side2 A1.out).mono ?_); (case side1 => refine (Kd.R_reads' (e := 3) (base := w.heap.size) (ok := fun k_ => True) (n := y174.length) (c := co16) ?_).2.2; exact (by (with_reducible repeat (first | apply Kd.R_alloc | apply Kd.R_drewN | apply Kd.R_drew)); exact (Kd.R_mono (Kd.R_far (p := ⟨gb177, 3, none⟩) (Kd.R_far (p := ⟨gb177, 2, none⟩) (Kd.R_far (p := ⟨gb177, 1, none⟩) (Kd.R_far (p := ⟨gb177, 0, none⟩) (Kd.R_types HO176.out BK177.out (by decide)) (fun _ hk => hk.2) (.int .i64 4)) (fun _ hk => hk.2) (.int .i64 5)) (fun _ hk => hk.2) (.int .i64 1)) (fun _ hk => hk.2) (.slice Ao16 y174.length co16)) (fun _ h_ => h_.1)))); (case side2 => exact (Kd.R_reads' HO176.out).2.1); rintro e w19 ⟨v179, rfl, ho0, hb⟩; refine ⟨_, rfl, ?_⟩; have n0_ := Aside0.mk (Kd.R_below (by (with_reducible repeat (first | apply Kd.R_alloc | apply Kd.R_drewN | apply Kd.R_drew)); exact (Kd.R_mono (Kd.R_far (p := ⟨gb177, 3, none⟩) (Kd.R_far (p := ⟨gb177, 2, none⟩) (Kd.R_far (p := ⟨gb177, 1, none⟩) (Kd.R_far (p := ⟨gb177, 0, none⟩) (Kd.R_types HO176.out BK177.out (by decide)) (fun _ hk => hk.2) (.int .i64 4)) (fun _ hk => hk.2) (.int .i64 5)) (fun _ hk => hk.2) (.int .i64 1)) (fun _ hk => hk.2) (.slice Ao16 y174.length co16)) (fun _ h_ => h_.1))) hb); have n1_ := Aside0.mk (Kd.R_lower ho0 (below_size (by repeat (first | (with_reducible first | exact HB.out | apply below_alloc | apply pw_below_drewN | apply below_drew1 | refine below_set ?_ GE177.out) | exact HB.out)))); have n2_ := Aside0.mk (blk_below (g := gb177) (o := .cells #[.int .i64 4, .int .i64 5, .int .i64 1, .slice Ao16 y174.length co16] 27 (0, 0)) (by (with_reducible repeat (first | refine blk_drewN ?_ _ | refine blk_drew ?_ | refine blk_alloc ?_ _)); refine blk_put (cs := #[.int .i64 4, .int .i64 5, .int .i64 1, .slice none 0 0]) ?_ 3 _ rfl; (with_reducible repeat (first | refine blk_drewN ?_ _ | refine blk_drew ?_ | refine blk_alloc ?_ _)); refine blk_put (cs := #[.int .i64 4, .int .i64 5, .int .i64 0, .slice none 0 0]) ?_ 2 _ rfl; (with_reducible repeat (first | refine blk_drewN ?_ _ | refine blk_drew ?_ | refine blk_alloc ?_ _)); refine blk_put (cs := #[.int .i64 4, .int .i64 0, .int .i64 0, .slice none 0 0]) ?_ 1 _ rfl; (with_reducible repeat (first | refine blk_drewN ?_ _ | refine blk_drew ?_ | refine blk_alloc ?_ _)); refine blk_put (cs := #[.int .i64 0, .int .i64 0, .int .i64 0, .slice none 0 0]) ?_ 0 _ rfl; (with_reducible repeat (first | refine blk_drewN ?_ _ | refine blk_drew ?_ | refine blk_alloc ?_ _)); exact BK177.out) hb); have n3_ := Aside0.mk (below_step (by repeat (first | (with_reducible first | exact HB.out | apply below_alloc | apply pw_below_drewN | apply below_drew1 | refine below_set ?_ GE177.out) | exact HB.out)) hb); clear HO176; clear BK177; clear HB; have HO176 := n0_; have HO180 := n1_; have BK177 := n2_; have HB := n3_; clear n0_ n1_ n2_ n3_; (try clear hb); (try clear hb2); (try clear hk); (try clear hi); (try clear ho0); obtain ⟨Ao20, co20, eo20⟩ := Kd.R_slice HO180.out; subst eo20; (try simp only [Act.put, List.setIfInBounds_toArray, List.set_cons_zero, List.set_cons_succ])) | ((with_reducible refine gate_callee (f := 8) rfl ?_); refine goesL_ (some 15) rfl rfl Tryd.func8 (by kernel_rfl) rfl #[.slice Ao20 t178.length co20] rfl (by (try simp only [List.map_toArray, List.map_cons, List.map_nil]); first | done | rfl | (simp only [List.length_drop, List.length_take]; rfl)) ?_; (with_reducible refine (event_Read.calls k _ _ t178 t182 t183 t184 t185 t188 _ ?side1 ?side2 A2.out).mono ?_); (case side1 => repeat (first | exact (Kd.R_reads' HO180.out).2.2 | (with_reducible refine Kd.C_alloc ?_ _) | (with_reducible refine Kd.C_drewN ?_ _) | (with_reducible refine Kd.C_drew ?_))); (case side2 => exact (Kd.R_reads' HO180.out).2.1); rintro e w21 ⟨v186, rfl, ho0, hb⟩; refine ⟨_, rfl, ?_⟩; have n0_ := Aside0.mk (Kd.R_elder' (by (with_reducible repeat (first | apply Kd.R_alloc | apply Kd.R_drewN | apply Kd.R_drew)); exact HO176.out) (by first | exact Kd.R_base ho0 | exact Kd.S_base ho0) hb); have n1_ := Aside0.mk (Kd.R_below (by (with_reducible repeat (first | apply Kd.R_alloc | apply Kd.R_drewN | apply Kd.R_drew)); exact HO180.out) hb); have n2_ := Aside0.mk (Kd.R_lower (Kd.R_new' ho0 (Kd.R_lt (by (with_reducible repeat (first | apply Kd.R_alloc | apply Kd.R_drewN | apply Kd.R_drew)); exact HO176.out))) (below_size (by repeat (first | (with_reducible first | exact HB.out | apply below_alloc | apply pw_below_drewN | apply below_drew1 | refine below_set ?_ GE177.out) | exact HB.out)))); have n3_ := Aside0.mk (blk_below (g := gb177) (o := .cells #[.int .i64 4, .int .i64 5, .int .i64 1, .slice Ao16 y174.length co16] 27 (0, 0)) (by (with_reducible repeat (first | refine blk_drewN ?_ _ | refine blk_drew ?_ | refine blk_alloc ?_ _)); exact BK177.out) hb); have n4_ := Aside0.mk (below_step (by repeat (first | (with_reducible first | exact HB.out | apply below_alloc | apply pw_below_drewN | apply below_drew1 | refine below_set ?_ GE177.out) | exact HB.out)) hb); clear HO176; clear HO180; clear BK177; clear HB; have HO176 := n0_; have HO180 := n1_; have HO187 := n2_; have BK177 := n3_; have HB := n4_; clear n0_ n1_ n2_ n3_ n4_; (try clear hb); (try clear hb2); (try clear hk); (try clear hi); (try clear ho0); (try simp only [Act.put, List.setIfInBounds_toArray, List.set_cons_zero, List.set_cons_succ])) | ((with_reducible refine gate_dst (N := 4) rfl ?_); refine box_event ?hg (N := 4) ?hd (cs := #[.int .i64 0, .int .i64 0, .int .i64 0, .slice none 0 0]) (t := 27) ?hr ?_; (case hd => rfl); (case hg => rfl); (case hr => first | (go_simp; done) | (go_simp; rfl) | (simp only [pf_or128]; go_simp; done) | (simp only [pf_or128]; go_simp; rfl)); intro gb189 hg w22 hbox hb; have n0_ := Aside0.mk (Kd.R_below (by (with_reducible repeat (first | apply Kd.R_alloc | apply Kd.R_drewN | apply Kd.R_drew)); exact HO176.out) hb); have n1_ := Aside0.mk (Kd.R_below (by (with_reducible repeat (first | apply Kd.R_alloc | apply Kd.R_drewN | apply Kd.R_drew)); exact HO180.out) hb); have n2_ := Aside0.mk (Kd.R_below (by (with_reducible repeat (first | apply Kd.R_alloc | apply Kd.R_drewN | apply Kd.R_drew)); exact HO187.out) hb); have n3_ := Aside0.mk (blk_below (g := gb177) (o := .cells #[.int .i64 4, .int .i64 5, .int .i64 1, .slice Ao16 y174.length co16] 27 (0, 0)) (by (with_reducible repeat (first | refine blk_drewN ?_ _ | refine blk_drew ?_ | refine blk_alloc ?_ _)); exact BK177.out) hb); have n4_ := Aside0.mk (below_step (by repeat (first | (with_reducible first | exact HB.out | apply below_alloc | apply pw_below_drewN | apply below_drew1 | refine below_set ?_ GE177.out) | exact HB.out)) hb); have n5_ := Aside0.mk (hbox); have n6_ := Aside0.mk ((by rw [hg]; exact (below_size (by repeat (first | (with_reducible first | exact HB.out | apply below_alloc | apply pw_below_drewN | apply below_drew1 | refine below_set ?_ GE177.out) | exact HB.out))) : w.heap.size ≤ gb189)); have n7_ := Aside0.mk ((by rw [hg]; exact (below_size (by repeat (first | (with_reducible first | exact HB.out | apply below_alloc | apply pw_below_drewN | apply below_drew1 | refine below_set ?_ GE177.out) | exact HB.out))) : w.heap.size ≤ gb189)); have n8_ := Aside0.mk ((by rw [hg]; exact Nat.ne_of_lt (blk_lt (g := gb177) (o := .cells #[.int .i64 4, .int .i64 5, .int .i64 1, .slice Ao16 y174.length co16] 27 (0, 0)) (by (with_reducible repeat (first | refine blk_drewN ?_ _ | refine blk_drew ?_ | refine blk_alloc ?_ _)); exact BK177.out)) : gb177 ≠ gb189)); have n9_ := Aside0.mk ((by rw [hg]; exact Nat.ne_of_gt (blk_lt (g := gb177) (o := .cells #[.int .i64 4, .int .i64 5, .int .i64 1, .slice Ao16 y174.length co16] 27 (0, 0)) (by (with_reducible repeat (first | refine blk_drewN ?_ _ | refine blk_drew ?_ | refine blk_alloc ?_ _)); exact BK177.out)) : gb189 ≠ gb177)); clear HO176; clear HO180; clear HO187; clear BK177; clear HB; have HO176 := n0_; have HO180 := n1_; have HO187 := n2_; have BK177 := n3_; have HB := n4_; have BK189 := n5_; have GW189 := n6_; have GE189 := n7_; have NB177_189 := n8_; have NB189_177 := n9_; clear n0_ n1_ n2_ n3_ n4_ n5_ n6_ n7_ n8_ n9_; clear hb hbox hg; have hnb23 := NB189_177.out; have hnc23 := NB177_189.out; have hcz24_0 : w22.cell? ⟨gb189, 0, none⟩ = some (.int .i64 0) := (blk_cell BK189.out 0).trans rfl; have hcz24_1 : w22.cell? ⟨gb189, 1, none⟩ = some (.int .i64 0) := (blk_cell BK189.out 1).trans rfl; have hcz24_2 : w22.cell? ⟨gb189, 2, none⟩ = some (.int .i64 0) := (blk_cell BK189.out 2).trans rfl; have hcz24_3 : w22.cell? ⟨gb189, 3, none⟩ = some (.slice none 0 0) := (blk_cell BK189.out 3).trans rfl; have hfz24_0 := blk_frozen BK189.out 0; have hfz24_1 := blk_frozen BK189.out 1; have hfz24_2 := blk_frozen BK189.out 2; have hfz24_3 := blk_frozen BK189.out 3; obtain ⟨Ao25, co25, eo25⟩ := Kd.R_slice HO187.out; subst eo25; have hcv26 := own_string (P := Tryd.prog) Tryd.underlying22 Tryd.underlying5 Tryd.underlying9 (Kd.own_of_R HO180.out); have hcz27_0 : w22.cell? ⟨gb177, 0, none⟩ = some (.int .i64 4) := (blk_cell BK177.out 0).trans rfl; have hcz27_1 : w22.cell? ⟨gb177, 1, none⟩ = some (.int .i64 5) := (blk_cell BK177.out 1).trans rfl; have hcz27_2 : w22.cell? ⟨gb177, 2, none⟩ = some (.int .i64 1) := (blk_cell BK177.out 2).trans rfl; have hcz27_3 : w22.cell? ⟨gb177, 3, none⟩ = some (.slice Ao16 y174.length co16) := (blk_cell BK177.out 3).trans rfl; have hfz27_0 := blk_frozen BK177.out 0; have hfz27_1 := blk_frozen BK177.out 1; have hfz27_2 := blk_frozen BK177.out 2; have hfz27_3 := blk_frozen BK177.out 3; (try simp only [Act.put, List.setIfInBounds_toArray, List.set_cons_zero, List.set_cons_succ]); (try (have hcv26s := fun (u0_ u1_ u2_ u3_ : Value) => own_string (P := Tryd.prog) Tryd.underlying22 Tryd.underlying5 Tryd.underlying9 (Kd.own_of_R (Kd.R_far (p := ⟨gb189, 3, none⟩) (Kd.R_far (p := ⟨gb189, 2, none⟩) (Kd.R_far (p := ⟨gb189, 1, none⟩) (Kd.R_far (p := ⟨gb189, 0, none⟩) (Kd.R_tight rfl HO180.out) (fun k_ e_ hk_ => Kd.R_ne HO180.out BK189.out (by decide) (by rw [← e_, hk_])) u0_) (fun k_ e_ hk_ => Kd.R_ne HO180.out BK189.out (by decide) (by rw [← e_, hk_])) u1_) (fun k_ e_ hk_ => Kd.R_ne HO180.out BK189.out (by decide) (by rw [← e_, hk_])) u2_) (fun k_ e_ hk_ => Kd.R_ne HO180.out BK189.out (by decide) (by rw [← e_, hk_])) u3_))))) | (go_at_call 10; (with_reducible refine (argosyref10_Same.calls k t182 t183 t184 _ _ t185 4 5 1 _ _ y174 true _ ?side1 ?side2 ?side3 ?side4 A5.out).mono ?_); (case side1 => refine (Kd.R_reads' (e := 3) (base := w.heap.size) (ok := fun k_ => (True ∧ some k_ ≠ (.slice Ao16 y174.length co16 : Value).ownBlock)) (n := t185.length) (c := co25) ?_).2.2; exact (by (with_reducible repeat (first | apply Kd.R_alloc | apply Kd.R_drewN | apply Kd.R_drew)); exact (Kd.R_mono (Kd.R_far (p := ⟨gb189, 3, none⟩) (Kd.R_far (p := ⟨gb189, 2, none⟩) (Kd.R_far (p := ⟨gb189, 1, none⟩) (Kd.R_far (p := ⟨gb189, 0, none⟩) (Kd.R_types HO187.out BK189.out (by decide)) (fun _ hk => hk.2) (.int .i64 t182)) (fun _ hk => hk.2) (.int .i64 t183)) (fun _ hk => hk.2) (.int .i64 t184)) (fun _ hk => hk.2) (.slice Ao25 t185.length co25)) (fun _ h_ => h_.1)))); (case side2 => exact (Kd.R_reads' HO187.out).2.1); (case side3 => refine (Kd.R_reads' (e := 3) (base := w.heap.size) (ok := fun k_ => (True ∧ some k_ ≠ (.slice Ao25 t185.length co25 : Value).ownBlock)) (n := y174.length) (c := co16) ?_).2.2; exact (by (with_reducible repeat (first | apply Kd.R_alloc | apply Kd.R_drewN | apply Kd.R_drew)); exact (Kd.R_mono (Kd.R_far (p := ⟨gb189, 3, none⟩) (Kd.R_far (p := ⟨gb189, 2, none⟩) (Kd.R_far (p := ⟨gb189, 1, none⟩) (Kd.R_far (p := ⟨gb189, 0, none⟩) (Kd.R_types HO176.out BK189.out (by decide)) (fun _ hk => hk.2) (.int .i64 t182)) (fun _ hk => hk.2) (.int .i64 t183)) (fun _ hk => hk.2) (.int .i64 t184)) (fun _ hk => hk.2) (.slice Ao25 t185.length co25)) (fun _ h_ => h_.1)))); (case side4 => exact (Kd.R_reads' HO176.out).2.1); rintro e w28 ⟨rfl, hb⟩; have n0_ := Aside0.mk (Kd.R_below (by (with_reducible repeat (first | apply Kd.R_alloc | apply Kd.R_drewN | apply Kd.R_drew)); exact (Kd.R_mono (Kd.R_far (p := ⟨gb189, 3, none⟩) (Kd.R_far (p := ⟨gb189, 2, none⟩) (Kd.R_far (p := ⟨gb189, 1, none⟩) (Kd.R_far (p := ⟨gb189, 0, none⟩) (Kd.R_types HO176.out BK189.out (by decide)) (fun _ hk => hk.2) (.int .i64 t182)) (fun _ hk => hk.2) (.int .i64 t183)) (fun _ hk => hk.2) (.int .i64 t184)) (fun _ hk => hk.2) (.slice Ao25 t185.length co25)) (fun _ h_ => h_.1))) hb); have n1_ := Aside0.mk (Kd.R_below (by (with_reducible repeat (first | apply Kd.R_alloc | apply Kd.R_drewN | apply Kd.R_drew)); exact (Kd.R_mono (Kd.R_far (p := ⟨gb189, 3, none⟩) (Kd.R_far (p := ⟨gb189, 2, none⟩) (Kd.R_far (p := ⟨gb189, 1, none⟩) (Kd.R_far (p := ⟨gb189, 0, none⟩) (Kd.R_types HO180.out BK189.out (by decide)) (fun _ hk => hk.2) (.int .i64 t182)) (fun _ hk => hk.2) (.int .i64 t183)) (fun _ hk => hk.2) (.int .i64 t184)) (fun _ hk => hk.2) (.slice Ao25 t185.length co25)) (fun _ h_ => h_.1))) hb); have n2_ := Aside0.mk (Kd.R_below (by (with_reducible repeat (first | apply Kd.R_alloc | apply Kd.R_drewN | apply Kd.R_drew)); exact (Kd.R_mono (Kd.R_far (p := ⟨gb189, 3, none⟩) (Kd.R_far (p := ⟨gb189, 2, none⟩) (Kd.R_far (p := ⟨gb189, 1, none⟩) (Kd.R_far (p := ⟨gb189, 0, none⟩) (Kd.R_types HO187.out BK189.out (by decide)) (fun _ hk => hk.2) (.int .i64 t182)) (fun _ hk => hk.2) (.int .i64 t183)) (fun _ hk => hk.2) (.int .i64 t184)) (fun _ hk => hk.2) (.slice Ao25 t185.length co25)) (fun _ h_ => h_.1))) hb); have n3_ := Aside0.mk (blk_below (g := gb177) (o := .cells #[.int .i64 4, .int .i64 5, .int .i64 1, .slice Ao16 y174.length co16] 27 (0, 0)) (by (with_reducible repeat (first | refine blk_drewN ?_ _ | refine blk_drew ?_ | refine blk_alloc ?_ _)); refine blk_far ?_ NB177_189.out _; (with_reducible repeat (first | refine blk_drewN ?_ _ | refine blk_drew ?_ | refine blk_alloc ?_ _)); refine blk_far ?_ NB177_189.out _; (with_reducible repeat (first | refine blk_drewN ?_ _ | refine blk_drew ?_ | refine blk_alloc ?_ _)); refine blk_far ?_ NB177_189.out _; (with_reducible repeat (first | refine blk_drewN ?_ _ | refine blk_drew ?_ | refine blk_alloc ?_ _)); refine blk_far ?_ NB177_189.out _; (with_reducible repeat (first | refine blk_drewN ?_ _ | refine blk_drew ?_ | refine blk_alloc ?_ _)); exact BK177.out) hb); have n4_ := Aside0.mk (blk_below (g := gb189) (o := .cells #[.int .i64 t182, .int .i64 t183, .int .i64 t184, .slice Ao25 t185.length co25] 27 (0, 0)) (by (with_reducible repeat (first | refine blk_drewN ?_ _ | refine blk_drew ?_ | refine blk_alloc ?_ _)); refine blk_put (cs := #[.int .i64 t182, .int .i64 t183, .int .i64 t184, .slice none 0 0]) ?_ 3 _ rfl; (with_reducible repeat (first | refine blk_drewN ?_ _ | refine blk_drew ?_ | refine blk_alloc ?_ _)); refine blk_put (cs := #[.int .i64 t182, .int .i64 t183, .int .i64 0, .slice none 0 0]) ?_ 2 _ rfl; (with_reducible repeat (first | refine blk_drewN ?_ _ | refine blk_drew ?_ | refine blk_alloc ?_ _)); refine blk_put (cs := #[.int .i64 t182, .int .i64 0, .int .i64 0, .slice none 0 0]) ?_ 1 _ rfl; (with_reducible repeat (first | refine blk_drewN ?_ _ | refine blk_drew ?_ | refine blk_alloc ?_ _)); refine blk_put (cs := #[.int .i64 0, .int .i64 0, .int .i64 0, .slice none 0 0]) ?_ 0 _ rfl; (with_reducible repeat (first | refine blk_drewN ?_ _ | refine blk_drew ?_ | refine blk_alloc ?_ _)); exact BK189.out) hb); have n5_ := Aside0.mk (below_step (by repeat (first | (with_reducible first | exact HB.out | apply below_alloc | apply pw_below_drewN | apply below_drew1 | refine below_set ?_ GE177.out | refine below_set ?_ GE189.out) | exact HB.out)) hb); clear HO176; clear HO180; clear HO187; clear BK177; clear BK189; clear HB; have HO176 := n0_; have HO180 := n1_; have HO187 := n2_; have BK177 := n3_; have BK189 := n4_; have HB := n5_; clear n0_ n1_ n2_ n3_ n4_ n5_; (try clear hb); (try clear hb2); (try clear hk); (try clear hi); have hcz29_0 : w28.cell? ⟨gb177, 0, none⟩ = some (.int .i64 4) := (blk_cell BK177.out 0).trans rfl; have hcz29_1 : w28.cell? ⟨gb177, 1, none⟩ = some (.int .i64 5) := (blk_cell BK177.out 1).trans rfl; have hcz29_2 : w28.cell? ⟨gb177, 2, none⟩ = some (.int .i64 1) := (blk_cell BK177.out 2).trans rfl; have hcz29_3 : w28.cell? ⟨gb177, 3, none⟩ = some (.slice Ao16 y174.length co16) := (blk_cell BK177.out 3).trans rfl; have hfz29_0 := blk_frozen BK177.out 0; have hfz29_1 := blk_frozen BK177.out 1; have hfz29_2 := blk_frozen BK177.out 2; have hfz29_3 := blk_frozen BK177.out 3; (try simp only [Act.put, List.setIfInBounds_toArray, List.set_cons_zero, List.set_cons_succ])) | (go_at_call 12; (with_reducible refine (event_Text.calls 4 5 1 _ _ y174 t191 _ ?side1 ?side2 ?side3 A8.out).mono ?_); (case side1 => repeat (first | exact (Kd.R_reads' HO176.out).2.2 | (with_reducible refine Kd.C_alloc ?_ _) | (with_reducible refine Kd.C_drewN ?_ _) | (with_reducible refine Kd.C_drew ?_))); (case side2 => exact (Kd.R_reads' HO176.out).2.1); (case side3 => exact TabOk.below HT.out (by repeat (first | (with_reducible first | exact HB.out | apply below_alloc | apply pw_below_drewN | apply below_drew1 | refine below_set ?_ GE177.out | refine below_set ?_ GE189.out) | exact HB.out))); rintro e w30 ⟨rfl, hb⟩; have n0_ := Aside0.mk (Kd.R_below (by (with_reducible repeat (first | apply Kd.R_alloc | apply Kd.R_drewN | apply Kd.R_drew)); exact HO176.out) hb); have n1_ := Aside0.mk (Kd.R_below (by (with_reducible repeat (first | apply Kd.R_alloc | apply Kd.R_drewN | apply Kd.R_drew)); exact HO180.out) hb); have n2_ := Aside0.mk (Kd.R_below (by (with_reducible repeat (first | apply Kd.R_alloc | apply Kd.R_drewN | apply Kd.R_drew)); exact HO187.out) hb); have n3_ := Aside0.mk (blk_below (g := gb177) (o := .cells #[.int .i64 4, .int .i64 5, .int .i64 1, .slice Ao16 y174.length co16] 27 (0, 0)) (by (with_reducible repeat (first | refine blk_drewN ?_ _ | refine blk_drew ?_ | refine blk_alloc ?_ _)); exact BK177.out) hb); have n4_ := Aside0.mk (blk_below (g := gb189) (o := .cells #[.int .i64 t182, .int .i64 t183, .int .i64 t184, .slice Ao25 t185.length co25] 27 (0, 0)) (by (with_reducible repeat (first | refine blk_drewN ?_ _ | refine blk_drew ?_ | refine blk_alloc ?_ _)); exact BK189.out) hb); have n5_ := Aside0.mk (below_step (by repeat (first | (with_reducible first | exact HB.out | apply below_alloc | apply pw_below_drewN | apply below_drew1 | refine below_set ?_ GE177.out | refine below_set ?_ GE189.out) | exact HB.out)) hb); clear HO176; clear HO180; clear HO187; clear BK177; clear BK189; clear HB; have HO176 := n0_; have HO180 := n1_; have HO187 := n2_; have BK177 := n3_; have BK189 := n4_; have HB := n5_; clear n0_ n1_ n2_ n3_ n4_ n5_; (try clear hb); (try clear hb2); (try clear hk); (try clear hi); (try simp only [Act.put, List.setIfInBounds_toArray, List.set_cons_zero, List.set_cons_succ])) | (go_at_call 14; (refine (event_Check.calls 0 0 0 _ _ ([] : List Int) t192 _ ?side1 ?side2 A10.out).mono ?_); (case side1 => exact Kd.C_nil _ _); (case side2 => exact Nat.le_refl _); rintro e w31 ⟨rfl, hb⟩; have n0_ := Aside0.mk (Kd.R_below (by (with_reducible repeat (first | apply Kd.R_alloc | apply Kd.R_drewN | apply Kd.R_drew)); exact HO176.out) hb); have n1_ := Aside0.mk (Kd.R_below (by (with_reducible repeat (first | apply Kd.R_alloc | apply Kd.R_drewN | apply Kd.R_drew)); exact HO180.out) hb); have n2_ := Aside0.mk (Kd.R_below (by (with_reducible repeat (first | apply Kd.R_alloc | apply Kd.R_drewN | apply Kd.R_drew)); exact HO187.out) hb); have n3_ := Aside0.mk (blk_below (g := gb177) (o := .cells #[.int .i64 4, .int .i64 5, .int .i64 1, .slice Ao16 y174.length co16] 27 (0, 0)) (by (with_reducible repeat (first | refine blk_drewN ?_ _ | refine blk_drew ?_ | refine blk_alloc ?_ _)); exact BK177.out) hb); have n4_ := Aside0.mk (blk_below (g := gb189) (o := .cells #[.int .i64 t182, .int .i64 t183, .int .i64 t184, .slice Ao25 t185.length co25] 27 (0, 0)) (by (with_reducible repeat (first | refine blk_drewN ?_ _ | refine blk_drew ?_ | refine blk_alloc ?_ _)); exact BK189.out) hb); have n5_ := Aside0.mk (below_step (by repeat (first | (with_reducible first | exact HB.out | apply below_alloc | apply pw_below_drewN | apply below_drew1 | refine below_set ?_ GE177.out | refine below_set ?_ GE189.out) | exact HB.out)) hb); clear HO176; clear HO180; clear HO187; clear BK177; clear BK189; clear HB; have HO176 := n0_; have HO180 := n1_; have HO187 := n2_; have BK177 := n3_; have BK189 := n4_; have HB := n5_; clear n0_ n1_ n2_ n3_ n4_ n5_; (try clear hb); (try clear hb2); (try clear hk); (try clear hi); (try simp only [Act.put, List.setIfInBounds_toArray, List.set_cons_zero, List.set_cons_succ])) | (go_at_call 19; (with_reducible refine (event_Opens.calls 4 true _ A12.out).mono ?_); rintro e w' ⟨rfl, ⟨nd, rfl⟩⟩; (try simp only [Act.put, List.setIfInBounds_toArray, List.set_cons_zero, List.set_cons_succ])))
                go_ret
                exact ⟨by first | rfl | (simp [errW_none, errW_some] <;> rfl) | (simp [*, errW_none, errW_some] <;> rfl), by repeat (first | (with_reducible first | exact HB.out | apply below_alloc | apply pw_below_drewN | apply below_drew1 | refine below_set ?_ GE177.out | refine below_set ?_ GE189.out) | exact HB.out)⟩
              · replace c13 := Bool.eq_false_iff.mpr c13
                subst c13
                have H1 : (none) = some r := by rw [if_neg (show ¬ (false = true) by decide)] at H; exact H
                clear H
                have H := H1
                clear H1
                exact absurd H (by simp)
            · rw [if_neg c11] at H
              exact absurd H (by simp)
          · rw [if_neg c9] at H
            exact absurd H (by simp)
        · rw [if_neg c7] at H
          exact absurd H (by simp)
      · replace c6 := Bool.eq_false_iff.mpr c6
        subst c6
        have H1 : (none) = some r := by rw [if_neg (show ¬ (false = true) by decide)] at H; exact H
        clear H
        have H := H1
        clear H1
        exact absurd H (by simp)
    · rw [if_neg c4] at H
      exact absurd H (by simp)
  · rw [if_neg c3] at H
    exact absurd H (by simp)

end Go.Proofs.YtclkdnpfiolahaaDoor.PEventBack
