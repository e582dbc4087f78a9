-- Written by a patched print (wip/mkprint.py), for this claim.
import Derived.Test.YtfmbdmkiamedeaaDoorPScenePrintsx0
namespace Go.Proofs.YtfmbdmkiamedeaaDoor.PScenePrints
open Go.RowKit Go.Proofs.YtfmbdmkiamedeaaDoorW.PrintWords Go.Proofs.YtfmbdmkiamedeaaDoorW.PrintLast Go.Proofs.YtfmbdmkiamedeaaDoorW.PrintMore
attribute [local go_sem] max2_int min2_int max_two min_two max_three min_three max_four min_four   -- for this text's walks alone
set_option linter.unusedVariables false
set_option linter.unusedSimpArgs false

/-! ### scene_formed: function 47 -/
def scene_formed.f (a0 : ByteArray) : Option (Int × Int × Int × Bool) := if a0.toList = ([116, 105, 99, 107] : List UInt8) then (some (1, 2, 2, true)) else (if a0.toList = ([99, 114, 97, 115, 104] : List UInt8) then (some (2, 0, 70, true)) else (if a0.toList = ([111, 112, 101, 110] : List UInt8) then (some (3, 0, 0, true)) else (if a0.toList = ([97, 114, 109] : List UInt8) then (some (4, 1, 1, true)) else (if a0.toList = ([103, 114, 111, 119] : List UInt8) then (some (5, 1, 1, true)) else (some (0, 0, 0, false))))))
set_option maxHeartbeats 8000000 in
set_option maxRecDepth 100000 in
theorem scene_formed.calls (a0 : ByteArray) (r1 : Int) (r2 : Int) (r3 : Int) (r4 : Bool) (w : World) (h : scene_formed.f a0 = some (r1, r2, r3, r4)) :
    Calls Tryd.prog 47 #[.string a0] w fun e w' => e = .returned (.tuple #[.agg #[.int .i64 r1, .int .i64 r2, .int .i64 r3], .bool r4]) ∧ Below w.heap.size w w' := by
  have hu54 := Tryd.underlying54
  have HB := Aside0.mk (Below.refl w.heap.size w)
  have H : (if a0.toList = ([116, 105, 99, 107] : List UInt8) then (some (1, 2, 2, true)) else (if a0.toList = ([99, 114, 97, 115, 104] : List UInt8) then (some (2, 0, 70, true)) else (if a0.toList = ([111, 112, 101, 110] : List UInt8) then (some (3, 0, 0, true)) else (if a0.toList = ([97, 114, 109] : List UInt8) then (some (4, 1, 1, true)) else (if a0.toList = ([103, 114, 111, 119] : List UInt8) then (some (5, 1, 1, true)) else (some (0, 0, 0, false))))))) = some (r1, r2, r3, r4) := h
  clear h
  by_cases c2 : a0.toList = ([116, 105, 99, 107] : List UInt8)
  · rw [if_pos c2] at H
    have c2b0 : (a0.toList == ([116, 105, 99, 107] : List UInt8)) = true := beq_iff_eq.mpr c2
    have c2b1 : (a0.toList != ([116, 105, 99, 107] : List UInt8)) = false := bne_eq_false_iff_eq.mpr c2
    clear c2
    simp only [Option.some.injEq, Prod.mk.injEq] at H
    obtain ⟨rfl, rfl, rfl, rfl⟩ := H
    go_enter Tryd.func47, Tryd.ntmps47
    go_wp2_with (first | ((with_reducible refine gate_dst (N := 2) rfl ?_); refine box_event ?hg (N := 2) ?hd (cs := #[.int .i64 0, .int .i64 0, .int .i64 0]) (t := 54) ?hr ?_; (case hd => rfl); (case hg => rfl); (case hr => first | (go_simp; done) | (go_simp; rfl) | (simp only [pf_or128]; go_simp; done) | (simp only [pf_or128]; go_simp; rfl)); intro gb107 hg w3 hbox hb; have n0_ := Aside0.mk (below_step (by repeat (first | (with_reducible first | exact HB.out | apply below_alloc | apply pw_below_drewN | apply below_drew1) | exact HB.out)) hb); have n1_ := Aside0.mk (hbox); have n2_ := Aside0.mk ((by rw [hg]; exact (below_size (by repeat (first | (with_reducible first | exact HB.out | apply below_alloc | apply pw_below_drewN | apply below_drew1) | exact HB.out))) : w.heap.size ≤ gb107)); have n3_ := Aside0.mk ((by rw [hg]; exact (below_size (by repeat (first | (with_reducible first | exact HB.out | apply below_alloc | apply pw_below_drewN | apply below_drew1) | exact HB.out))) : w.heap.size ≤ gb107)); clear HB; have HB := n0_; have BK107 := n1_; have GW107 := n2_; have GE107 := n3_; clear n0_ n1_ n2_ n3_; clear hb hbox hg; have hcz4_0 : w3.cell? ⟨gb107, 0, none⟩ = some (.int .i64 0) := (blk_cell BK107.out 0).trans rfl; have hcz4_1 : w3.cell? ⟨gb107, 1, none⟩ = some (.int .i64 0) := (blk_cell BK107.out 1).trans rfl; have hcz4_2 : w3.cell? ⟨gb107, 2, none⟩ = some (.int .i64 0) := (blk_cell BK107.out 2).trans rfl; have hfz4_0 := blk_frozen BK107.out 0; have hfz4_1 := blk_frozen BK107.out 1; have hfz4_2 := blk_frozen BK107.out 2))
    refine bodyPost_ret (results_ct rfl _ _ gb107 54 #[.int .i64 1, .int .i64 2, .int .i64 2] (0, 0) _ rfl (by (with_reducible repeat (first | refine blk_drewN ?_ _ | refine blk_drew ?_ | refine blk_alloc ?_ _)); refine blk_put (cs := #[.int .i64 1, .int .i64 2, .int .i64 0]) ?_ 2 _ rfl; (with_reducible repeat (first | refine blk_drewN ?_ _ | refine blk_drew ?_ | refine blk_alloc ?_ _)); refine blk_put (cs := #[.int .i64 1, .int .i64 0, .int .i64 0]) ?_ 1 _ rfl; (with_reducible repeat (first | refine blk_drewN ?_ _ | refine blk_drew ?_ | refine blk_alloc ?_ _)); refine blk_put (cs := #[.int .i64 0, .int .i64 0, .int .i64 0]) ?_ 0 _ rfl; (with_reducible repeat (first | refine blk_drewN ?_ _ | refine blk_drew ?_ | refine blk_alloc ?_ _)); exact BK107.out) Tryd.underlying54 rfl (by kernel_rfl)) rfl ?_
    exact ⟨by first | rfl | (simp [errW_none, errW_some] <;> rfl) | (simp [*, errW_none, errW_some] <;> rfl), by repeat (first | (with_reducible first | exact HB.out | apply below_alloc | apply pw_below_drewN | apply below_drew1 | refine below_set ?_ GE107.out) | exact HB.out)⟩
  · rw [if_neg c2] at H
    have c2b0 : (a0.toList == ([116, 105, 99, 107] : List UInt8)) = false := beq_eq_false_iff_ne.mpr c2
    have c2b1 : (a0.toList != ([116, 105, 99, 107] : List UInt8)) = true := bne_iff_ne.mpr c2
    by_cases c5 : a0.toList = ([99, 114, 97, 115, 104] : List UInt8)
    · rw [if_pos c5] at H
      have c5b0 : (a0.toList == ([99, 114, 97, 115, 104] : List UInt8)) = true := beq_iff_eq.mpr c5
      have c5b1 : (a0.toList != ([99, 114, 97, 115, 104] : List UInt8)) = false := bne_eq_false_iff_eq.mpr c5
      clear c5
      simp only [Option.some.injEq, Prod.mk.injEq] at H
      obtain ⟨rfl, rfl, rfl, rfl⟩ := H
      go_enter Tryd.func47, Tryd.ntmps47
      go_wp2_with (first | ((with_reducible refine gate_dst (N := 2) rfl ?_); refine box_event ?hg (N := 2) ?hd (cs := #[.int .i64 0, .int .i64 0, .int .i64 0]) (t := 54) ?hr ?_; (case hd => rfl); (case hg => rfl); (case hr => first | (go_simp; done) | (go_simp; rfl) | (simp only [pf_or128]; go_simp; done) | (simp only [pf_or128]; go_simp; rfl)); intro gb107 hg w6 hbox hb; have n0_ := Aside0.mk (below_step (by repeat (first | (with_reducible first | exact HB.out | apply below_alloc | apply pw_below_drewN | apply below_drew1) | exact HB.out)) hb); have n1_ := Aside0.mk (hbox); have n2_ := Aside0.mk ((by rw [hg]; exact (below_size (by repeat (first | (with_reducible first | exact HB.out | apply below_alloc | apply pw_below_drewN | apply below_drew1) | exact HB.out))) : w.heap.size ≤ gb107)); have n3_ := Aside0.mk ((by rw [hg]; exact (below_size (by repeat (first | (with_reducible first | exact HB.out | apply below_alloc | apply pw_below_drewN | apply below_drew1) | exact HB.out))) : w.heap.size ≤ gb107)); clear HB; have HB := n0_; have BK107 := n1_; have GW107 := n2_; have GE107 := n3_; clear n0_ n1_ n2_ n3_; clear hb hbox hg; have hcz7_0 : w6.cell? ⟨gb107, 0, none⟩ = some (.int .i64 0) := (blk_cell BK107.out 0).trans rfl; have hcz7_1 : w6.cell? ⟨gb107, 1, none⟩ = some (.int .i64 0) := (blk_cell BK107.out 1).trans rfl; have hcz7_2 : w6.cell? ⟨gb107, 2, none⟩ = some (.int .i64 0) := (blk_cell BK107.out 2).trans rfl; have hfz7_0 := blk_frozen BK107.out 0; have hfz7_1 := blk_frozen BK107.out 1; have hfz7_2 := blk_frozen BK107.out 2))
      refine bodyPost_ret (results_ct rfl _ _ gb107 54 #[.int .i64 2, .int .i64 0, .int .i64 70] (0, 0) _ rfl (by (with_reducible repeat (first | refine blk_drewN ?_ _ | refine blk_drew ?_ | refine blk_alloc ?_ _)); refine blk_put (cs := #[.int .i64 2, .int .i64 0, .int .i64 0]) ?_ 2 _ rfl; (with_reducible repeat (first | refine blk_drewN ?_ _ | refine blk_drew ?_ | refine blk_alloc ?_ _)); refine blk_put (cs := #[.int .i64 2, .int .i64 0, .int .i64 0]) ?_ 1 _ rfl; (with_reducible repeat (first | refine blk_drewN ?_ _ | refine blk_drew ?_ | refine blk_alloc ?_ _)); refine blk_put (cs := #[.int .i64 0, .int .i64 0, .int .i64 0]) ?_ 0 _ rfl; (with_reducible repeat (first | refine blk_drewN ?_ _ | refine blk_drew ?_ | refine blk_alloc ?_ _)); exact BK107.out) Tryd.underlying54 rfl (by kernel_rfl)) rfl ?_
      exact ⟨by first | rfl | (simp [errW_none, errW_some] <;> rfl) | (simp [*, errW_none, errW_some] <;> rfl), by repeat (first | (with_reducible first | exact HB.out | apply below_alloc | apply pw_below_drewN | apply below_drew1 | refine below_set ?_ GE107.out) | exact HB.out)⟩
    · rw [if_neg c5] at H
      have c5b0 : (a0.toList == ([99, 114, 97, 115, 104] : List UInt8)) = false := beq_eq_false_iff_ne.mpr c5
      have c5b1 : (a0.toList != ([99, 114, 97, 115, 104] : List UInt8)) = true := bne_iff_ne.mpr c5
      by_cases c8 : a0.toList = ([111, 112, 101, 110] : List UInt8)
      · rw [if_pos c8] at H
        have c8b0 : (a0.toList == ([111, 112, 101, 110] : List UInt8)) = true := beq_iff_eq.mpr c8
        have c8b1 : (a0.toList != ([111, 112, 101, 110] : List UInt8)) = false := bne_eq_false_iff_eq.mpr c8
        clear c8
        simp only [Option.some.injEq, Prod.mk.injEq] at H
        obtain ⟨rfl, rfl, rfl, rfl⟩ := H
        go_enter Tryd.func47, Tryd.ntmps47
        go_wp2_with (first | ((with_reducible refine gate_dst (N := 2) rfl ?_); refine box_event ?hg (N := 2) ?hd (cs := #[.int .i64 0, .int .i64 0, .int .i64 0]) (t := 54) ?hr ?_; (case hd => rfl); (case hg => rfl); (case hr => first | (go_simp; done) | (go_simp; rfl) | (simp only [pf_or128]; go_simp; done) | (simp only [pf_or128]; go_simp; rfl)); intro gb107 hg w9 hbox hb; have n0_ := Aside0.mk (below_step (by repeat (first | (with_reducible first | exact HB.out | apply below_alloc | apply pw_below_drewN | apply below_drew1) | exact HB.out)) hb); have n1_ := Aside0.mk (hbox); have n2_ := Aside0.mk ((by rw [hg]; exact (below_size (by repeat (first | (with_reducible first | exact HB.out | apply below_alloc | apply pw_below_drewN | apply below_drew1) | exact HB.out))) : w.heap.size ≤ gb107)); have n3_ := Aside0.mk ((by rw [hg]; exact (below_size (by repeat (first | (with_reducible first | exact HB.out | apply below_alloc | apply pw_below_drewN | apply below_drew1) | exact HB.out))) : w.heap.size ≤ gb107)); clear HB; have HB := n0_; have BK107 := n1_; have GW107 := n2_; have GE107 := n3_; clear n0_ n1_ n2_ n3_; clear hb hbox hg; have hcz10_0 : w9.cell? ⟨gb107, 0, none⟩ = some (.int .i64 0) := (blk_cell BK107.out 0).trans rfl; have hcz10_1 : w9.cell? ⟨gb107, 1, none⟩ = some (.int .i64 0) := (blk_cell BK107.out 1).trans rfl; have hcz10_2 : w9.cell? ⟨gb107, 2, none⟩ = some (.int .i64 0) := (blk_cell BK107.out 2).trans rfl; have hfz10_0 := blk_frozen BK107.out 0; have hfz10_1 := blk_frozen BK107.out 1; have hfz10_2 := blk_frozen BK107.out 2))
        refine bodyPost_ret (results_ct rfl _ _ gb107 54 #[.int .i64 3, .int .i64 0, .int .i64 0] (0, 0) _ rfl (by (with_reducible repeat (first | refine blk_drewN ?_ _ | refine blk_drew ?_ | refine blk_alloc ?_ _)); refine blk_put (cs := #[.int .i64 3, .int .i64 0, .int .i64 0]) ?_ 2 _ rfl; (with_reducible repeat (first | refine blk_drewN ?_ _ | refine blk_drew ?_ | refine blk_alloc ?_ _)); refine blk_put (cs := #[.int .i64 3, .int .i64 0, .int .i64 0]) ?_ 1 _ rfl; (with_reducible repeat (first | refine blk_drewN ?_ _ | refine blk_drew ?_ | refine blk_alloc ?_ _)); refine blk_put (cs := #[.int .i64 0, .int .i64 0, .int .i64 0]) ?_ 0 _ rfl; (with_reducible repeat (first | refine blk_drewN ?_ _ | refine blk_drew ?_ | refine blk_alloc ?_ _)); exact BK107.out) Tryd.underlying54 rfl (by kernel_rfl)) rfl ?_
        exact ⟨by first | rfl | (simp [errW_none, errW_some] <;> rfl) | (simp [*, errW_none, errW_some] <;> rfl), by repeat (first | (with_reducible first | exact HB.out | apply below_alloc | apply pw_below_drewN | apply below_drew1 | refine below_set ?_ GE107.out) | exact HB.out)⟩
      · rw [if_neg c8] at H
        have c8b0 : (a0.toList == ([111, 112, 101, 110] : List UInt8)) = false := beq_eq_false_iff_ne.mpr c8
        have c8b1 : (a0.toList != ([111, 112, 101, 110] : List UInt8)) = true := bne_iff_ne.mpr c8
        by_cases c11 : a0.toList = ([97, 114, 109] : List UInt8)
        · rw [if_pos c11] at H
          have c11b0 : (a0.toList == ([97, 114, 109] : List UInt8)) = true := beq_iff_eq.mpr c11
          have c11b1 : (a0.toList != ([97, 114, 109] : List UInt8)) = false := bne_eq_false_iff_eq.mpr c11
          clear c11
          simp only [Option.some.injEq, Prod.mk.injEq] at H
          obtain ⟨rfl, rfl, rfl, rfl⟩ := H
          go_enter Tryd.func47, Tryd.ntmps47
          go_wp2_with (first | ((with_reducible refine gate_dst (N := 2) rfl ?_); refine box_event ?hg (N := 2) ?hd (cs := #[.int .i64 0, .int .i64 0, .int .i64 0]) (t := 54) ?hr ?_; (case hd => rfl); (case hg => rfl); (case hr => first | (go_simp; done) | (go_simp; rfl) | (simp only [pf_or128]; go_simp; done) | (simp only [pf_or128]; go_simp; rfl)); intro gb107 hg w12 hbox hb; have n0_ := Aside0.mk (below_step (by repeat (first | (with_reducible first | exact HB.out | apply below_alloc | apply pw_below_drewN | apply below_drew1) | exact HB.out)) hb); have n1_ := Aside0.mk (hbox); have n2_ := Aside0.mk ((by rw [hg]; exact (below_size (by repeat (first | (with_reducible first | exact HB.out | apply below_alloc | apply pw_below_drewN | apply below_drew1) | exact HB.out))) : w.heap.size ≤ gb107)); have n3_ := Aside0.mk ((by rw [hg]; exact (below_size (by repeat (first | (with_reducible first | exact HB.out | apply below_alloc | apply pw_below_drewN | apply below_drew1) | exact HB.out))) : w.heap.size ≤ gb107)); clear HB; have HB := n0_; have BK107 := n1_; have GW107 := n2_; have GE107 := n3_; clear n0_ n1_ n2_ n3_; clear hb hbox hg; have hcz13_0 : w12.cell? ⟨gb107, 0, none⟩ = some (.int .i64 0) := (blk_cell BK107.out 0).trans rfl; have hcz13_1 : w12.cell? ⟨gb107, 1, none⟩ = some (.int .i64 0) := (blk_cell BK107.out 1).trans rfl; have hcz13_2 : w12.cell? ⟨gb107, 2, none⟩ = some (.int .i64 0) := (blk_cell BK107.out 2).trans rfl; have hfz13_0 := blk_frozen BK107.out 0; have hfz13_1 := blk_frozen BK107.out 1; have hfz13_2 := blk_frozen BK107.out 2))
          refine bodyPost_ret (results_ct rfl _ _ gb107 54 #[.int .i64 4, .int .i64 1, .int .i64 1] (0, 0) _ rfl (by (with_reducible repeat (first | refine blk_drewN ?_ _ | refine blk_drew ?_ | refine blk_alloc ?_ _)); refine blk_put (cs := #[.int .i64 4, .int .i64 1, .int .i64 0]) ?_ 2 _ rfl; (with_reducible repeat (first | refine blk_drewN ?_ _ | refine blk_drew ?_ | refine blk_alloc ?_ _)); refine blk_put (cs := #[.int .i64 4, .int .i64 0, .int .i64 0]) ?_ 1 _ rfl; (with_reducible repeat (first | refine blk_drewN ?_ _ | refine blk_drew ?_ | refine blk_alloc ?_ _)); refine blk_put (cs := #[.int .i64 0, .int .i64 0, .int .i64 0]) ?_ 0 _ rfl; (with_reducible repeat (first | refine blk_drewN ?_ _ | refine blk_drew ?_ | refine blk_alloc ?_ _)); exact BK107.out) Tryd.underlying54 rfl (by kernel_rfl)) rfl ?_
          exact ⟨by first | rfl | (simp [errW_none, errW_some] <;> rfl) | (simp [*, errW_none, errW_some] <;> rfl), by repeat (first | (with_reducible first | exact HB.out | apply below_alloc | apply pw_below_drewN | apply below_drew1 | refine below_set ?_ GE107.out) | exact HB.out)⟩
        · rw [if_neg c11] at H
          have c11b0 : (a0.toList == ([97, 114, 109] : List UInt8)) = false := beq_eq_false_iff_ne.mpr c11
          have c11b1 : (a0.toList != ([97, 114, 109] : List UInt8)) = true := bne_iff_ne.mpr c11
          by_cases c14 : a0.toList = ([103, 114, 111, 119] : List UInt8)
          · rw [if_pos c14] at H
            have c14b0 : (a0.toList == ([103, 114, 111, 119] : List UInt8)) = true := beq_iff_eq.mpr c14
            have c14b1 : (a0.toList != ([103, 114, 111, 119] : List UInt8)) = false := bne_eq_false_iff_eq.mpr c14
            clear c14
            simp only [Option.some.injEq, Prod.mk.injEq] at H
            obtain ⟨rfl, rfl, rfl, rfl⟩ := H
            go_enter Tryd.func47, Tryd.ntmps47
            go_wp2_with (first | ((with_reducible refine gate_dst (N := 2) rfl ?_); refine box_event ?hg (N := 2) ?hd (cs := #[.int .i64 0, .int .i64 0, .int .i64 0]) (t := 54) ?hr ?_; (case hd => rfl); (case hg => rfl); (case hr => first | (go_simp; done) | (go_simp; rfl) | (simp only [pf_or128]; go_simp; done) | (simp only [pf_or128]; go_simp; rfl)); intro gb107 hg w15 hbox hb; have n0_ := Aside0.mk (below_step (by repeat (first | (with_reducible first | exact HB.out | apply below_alloc | apply pw_below_drewN | apply below_drew1) | exact HB.out)) hb); have n1_ := Aside0.mk (hbox); have n2_ := Aside0.mk ((by rw [hg]; exact (below_size (by repeat (first | (with_reducible first | exact HB.out | apply below_alloc | apply pw_below_drewN | apply below_drew1) | exact HB.out))) : w.heap.size ≤ gb107)); have n3_ := Aside0.mk ((by rw [hg]; exact (below_size (by repeat (first | (with_reducible first | exact HB.out | apply below_alloc | apply pw_below_drewN | apply below_drew1) | exact HB.out))) : w.heap.size ≤ gb107)); clear HB; have HB := n0_; have BK107 := n1_; have GW107 := n2_; have GE107 := n3_; clear n0_ n1_ n2_ n3_; clear hb hbox hg; have hcz16_0 : w15.cell? ⟨gb107, 0, none⟩ = some (.int .i64 0) := (blk_cell BK107.out 0).trans rfl; have hcz16_1 : w15.cell? ⟨gb107, 1, none⟩ = some (.int .i64 0) := (blk_cell BK107.out 1).trans rfl; have hcz16_2 : w15.cell? ⟨gb107, 2, none⟩ = some (.int .i64 0) := (blk_cell BK107.out 2).trans rfl; have hfz16_0 := blk_frozen BK107.out 0; have hfz16_1 := blk_frozen BK107.out 1; have hfz16_2 := blk_frozen BK107.out 2))
            refine bodyPost_ret (results_ct rfl _ _ gb107 54 #[.int .i64 5, .int .i64 1, .int .i64 1] (0, 0) _ rfl (by (with_reducible repeat (first | refine blk_drewN ?_ _ | refine blk_drew ?_ | refine blk_alloc ?_ _)); refine blk_put (cs := #[.int .i64 5, .int .i64 1, .int .i64 0]) ?_ 2 _ rfl; (with_reducible repeat (first | refine blk_drewN ?_ _ | refine blk_drew ?_ | refine blk_alloc ?_ _)); refine blk_put (cs := #[.int .i64 5, .int .i64 0, .int .i64 0]) ?_ 1 _ rfl; (with_reducible repeat (first | refine blk_drewN ?_ _ | refine blk_drew ?_ | refine blk_alloc ?_ _)); refine blk_put (cs := #[.int .i64 0, .int .i64 0, .int .i64 0]) ?_ 0 _ rfl; (with_reducible repeat (first | refine blk_drewN ?_ _ | refine blk_drew ?_ | refine blk_alloc ?_ _)); exact BK107.out) Tryd.underlying54 rfl (by kernel_rfl)) rfl ?_
            exact ⟨by first | rfl | (simp [errW_none, errW_some] <;> rfl) | (simp [*, errW_none, errW_some] <;> rfl), by repeat (first | (with_reducible first | exact HB.out | apply below_alloc | apply pw_below_drewN | apply below_drew1 | refine below_set ?_ GE107.out) | exact HB.out)⟩
          · rw [if_neg c14] at H
            have c14b0 : (a0.toList == ([103, 114, 111, 119] : List UInt8)) = false := beq_eq_false_iff_ne.mpr c14
            have c14b1 : (a0.toList != ([103, 114, 111, 119] : List UInt8)) = true := bne_iff_ne.mpr c14
            simp only [Option.some.injEq, Prod.mk.injEq] at H
            obtain ⟨rfl, rfl, rfl, rfl⟩ := H
            go_enter Tryd.func47, Tryd.ntmps47
            go_wp2_with (first | ((with_reducible refine gate_dst (N := 2) rfl ?_); refine box_event ?hg (N := 2) ?hd (cs := #[.int .i64 0, .int .i64 0, .int .i64 0]) (t := 54) ?hr ?_; (case hd => rfl); (case hg => rfl); (case hr => first | (go_simp; done) | (go_simp; rfl) | (simp only [pf_or128]; go_simp; done) | (simp only [pf_or128]; go_simp; rfl)); intro gb107 hg w17 hbox hb; have n0_ := Aside0.mk (below_step (by repeat (first | (with_reducible first | exact HB.out | apply below_alloc | apply pw_below_drewN | apply below_drew1) | exact HB.out)) hb); have n1_ := Aside0.mk (hbox); have n2_ := Aside0.mk ((by rw [hg]; exact (below_size (by repeat (first | (with_reducible first | exact HB.out | apply below_alloc | apply pw_below_drewN | apply below_drew1) | exact HB.out))) : w.heap.size ≤ gb107)); have n3_ := Aside0.mk ((by rw [hg]; exact (below_size (by repeat (first | (with_reducible first | exact HB.out | apply below_alloc | apply pw_below_drewN | apply below_drew1) | exact HB.out))) : w.heap.size ≤ gb107)); clear HB; have HB := n0_; have BK107 := n1_; have GW107 := n2_; have GE107 := n3_; clear n0_ n1_ n2_ n3_; clear hb hbox hg; have hcz18_0 : w17.cell? ⟨gb107, 0, none⟩ = some (.int .i64 0) := (blk_cell BK107.out 0).trans rfl; have hcz18_1 : w17.cell? ⟨gb107, 1, none⟩ = some (.int .i64 0) := (blk_cell BK107.out 1).trans rfl; have hcz18_2 : w17.cell? ⟨gb107, 2, none⟩ = some (.int .i64 0) := (blk_cell BK107.out 2).trans rfl; have hfz18_0 := blk_frozen BK107.out 0; have hfz18_1 := blk_frozen BK107.out 1; have hfz18_2 := blk_frozen BK107.out 2))
            refine bodyPost_ret (results_ct rfl _ _ gb107 54 #[.int .i64 0, .int .i64 0, .int .i64 0] (0, 0) _ rfl (by (with_reducible repeat (first | refine blk_drewN ?_ _ | refine blk_drew ?_ | refine blk_alloc ?_ _)); refine blk_put (cs := #[.int .i64 0, .int .i64 0, .int .i64 0]) ?_ 2 _ rfl; (with_reducible repeat (first | refine blk_drewN ?_ _ | refine blk_drew ?_ | refine blk_alloc ?_ _)); refine blk_put (cs := #[.int .i64 0, .int .i64 0, .int .i64 0]) ?_ 1 _ rfl; (with_reducible repeat (first | refine blk_drewN ?_ _ | refine blk_drew ?_ | refine blk_alloc ?_ _)); refine blk_put (cs := #[.int .i64 0, .int .i64 0, .int .i64 0]) ?_ 0 _ rfl; (with_reducible repeat (first | refine blk_drewN ?_ _ | refine blk_drew ?_ | refine blk_alloc ?_ _)); exact BK107.out) Tryd.underlying54 rfl (by kernel_rfl)) rfl ?_
            exact ⟨by first | rfl | (simp [errW_none, errW_some] <;> rfl) | (simp [*, errW_none, errW_some] <;> rfl), by repeat (first | (with_reducible first | exact HB.out | apply below_alloc | apply pw_below_drewN | apply below_drew1 | refine below_set ?_ GE107.out) | exact HB.out)⟩

/-! ### scene_reader_begin: function 38 -/
theorem cell_farS {W : World} {a p : Addr} {v u : Value} (hp : p.block ≠ a.block) (h : W.cell? a = some v) : (W.setCell p u).cell? a = some v := by
  rw [World.cell?_of_block (Below.heap_setCell W p u a.block (fun e => hp e.symm))]
  exact h
theorem cell_ltS {W : World} {a : Addr} {v : Value} (h : W.cell? a = some v) : a.block < W.heap.size := by
  unfold World.cell? at h
  cases hx : W.heap[a.block]? with
  | none => simp [hx] at h
  | some o => exact (Array.getElem?_eq_some_iff.1 hx).1
theorem cell_bS {W0 W : World} {a : Addr} {v : Value} (hb : Below W0.heap.size W0 W) (h : W0.cell? a = some v) : W.cell? a = some v := by
  have hlt : a.block < W0.heap.size := by
    unfold World.cell? at h
    cases hx : W0.heap[a.block]? with
    | none => simp [hx] at h
    | some o => exact (Array.getElem?_eq_some_iff.1 hx).1
  rw [World.cell?_of_block (hb.block _ hlt)]
  exact h
/-- The reader's state. -/
structure RS where
  out : List S34
  op : Bool
  kd : Int
  le : Int
  mo : Int
  nums : List Int
def rcells (s : RS) (vo vn : Value) : Array Value := #[vo, .bool s.op, .int .i64 s.kd, .int .i64 s.le, .int .i64 s.mo, vn]
structure RDv (b rb : Nat) (okE : Nat → Prop) (s : RS) (vo vn : Value) (W : World) : Prop where
  blk : W.heap[rb]? = some (.cells (rcells s vo vn) 56 (0, 0))
  out : Kd.N k34 34 W b (fun k => okE k ∧ some k ≠ vn.ownBlock) vo s.out
  nums : Kd.R (Kd.int .i64) 3 W b (fun k => okE k ∧ some k ≠ vo.ownBlock) vn s.nums
def RD (b rb : Nat) (okE : Nat → Prop) (s : RS) (W : World) : Prop := ∃ vo vn, RDv b rb okE s vo vn W
/-- What a call leaves as it was. -/
def keepE (rb : Nat) (okE : Nat → Prop) (W W' : World) : Prop := W.heap.size ≤ W'.heap.size ∧ ∀ k, k < W.heap.size → ¬ okE k → k ≠ rb → W'.heap[k]? = W.heap[k]?
def beginF (f : Int × Int × Int × Bool) (s : RS) : RS × Int := if f.2.2.2 = true then (if s.out.length = 1000 then (s, 5) else ({ s with op := true, kd := f.1, le := f.2.1, mo := f.2.2.1 }, 0)) else (s, 10)
theorem formed_some (a : ByteArray) : ∃ x y z t, scene_formed.f a = some (x, y, z, t) := by
  unfold scene_formed.f
  repeat' split
  all_goals exact ⟨_, _, _, _, rfl⟩
theorem RDv.below {b rb : Nat} {okE : Nat → Prop} {s : RS} {vo vn : Value} {W W1 : World} (h : RDv b rb okE s vo vn W) (hb : Below W.heap.size W W1) : RDv b rb okE s vo vn W1 :=
  ⟨(hb.block rb (blk_lt h.blk)).trans h.blk, Kd.N_below h.out hb, Kd.R_below h.nums hb⟩
theorem keepE_below {rb : Nat} {okE : Nat → Prop} {W W' : World} (hb : Below W.heap.size W W') : keepE rb okE W W' := ⟨hb.size, fun k hk _ _ => hb.block k hk⟩
theorem keepE.trans {rb : Nat} {okE : Nat → Prop} {W W' W'' : World} (h : keepE rb okE W W') (h2 : keepE rb okE W' W'') : keepE rb okE W W'' := ⟨Nat.le_trans h.1 h2.1, fun k hk ho hr => (h2.2 k (Nat.lt_of_lt_of_le hk h.1) ho hr).trans (h.2 k hk ho hr)⟩
/-- A field of the reader is written. -/
theorem RDv.set {b rb : Nat} {okE : Nat → Prop} {s s1 : RS} {vo vn : Value} {W : World} (h : RDv b rb okE s vo vn W) (hrE : ¬ okE rb) (i : Nat) (u : Value) (hu : (rcells s vo vn).setIfInBounds i u = rcells s1 vo vn) (ho : s1.out = s.out) (hn : s1.nums = s.nums) : RDv b rb okE s1 vo vn (W.setCell ⟨rb, i, none⟩ u) := by
  refine ⟨?_, ?_, ?_⟩
  · rw [← hu]
    exact blk_set h.blk i u
  · rw [ho]
    exact Kd.N_far (p := ⟨rb, i, none⟩) h.out (fun k hk e => hrE ((show k = rb from e) ▸ hk.1)) u
  · rw [hn]
    exact Kd.R_far h.nums (p := ⟨rb, i, none⟩) (fun k hk e => hrE ((show k = rb from e) ▸ hk.1)) u
theorem keepE_set {rb : Nat} {okE : Nat → Prop} (W : World) (i : Nat) (u : Value) : keepE rb okE W (W.setCell ⟨rb, i, none⟩ u) := ⟨Nat.le_of_eq (by simp), fun k _ _ hk => Below.heap_setCell W ⟨rb, i, none⟩ u k hk⟩
set_option maxHeartbeats 8000000 in
set_option maxRecDepth 100000 in
theorem own_begin (a : ByteArray) (f : Int × Int × Int × Bool) (hf : scene_formed.f a = some f) (rb : Nat) (okE : Nat → Prop) (s : RS) (w0 w : World) (hb0 : Below w0.heap.size w0 w) (hbr : w0.heap.size ≤ rb) (hrE : ¬ okE rb) (hD : RD w0.heap.size rb okE s w) :
    Calls Tryd.prog 38 #[.pointer (some ⟨rb, 0, none⟩), .string a] w fun e w' => e = .returned (.int .i64 (beginF f s).2) ∧ RD w0.heap.size rb okE (beginF f s).1 w' ∧ Below w0.heap.size w0 w' ∧ keepE rb okE w w' := by
  obtain ⟨f1, f2, f3, ft⟩ := f
  obtain ⟨vo, vn, hD⟩ := hD
  have HF := Aside0.mk hf
  obtain ⟨Ao, co, rfl⟩ := Kd.V_slice (Kd.N_V (base' := 0) hD.out)
  have HD := Aside0.mk hD
  have hbW : w0.heap.size ≤ w.heap.size := Nat.le_trans hbr (Nat.le_of_lt (blk_lt hD.blk))
  have HB0 := Aside0.mk hb0
  have HBW := Aside0.mk hbW
  clear hf hD hb0 hbW
  go_enter Tryd.func38, Tryd.ntmps38
  cases ft with
  | false =>
    go_wp2_with (go_at_call 47; (with_reducible refine (scene_formed.calls a f1 f2 f3 false _ HF.out).mono ?_); rintro e w1 ⟨rfl, hb⟩; have hbw := below_step (show Below w.heap.size w _ from by repeat (first | (with_reducible first | exact Below.refl _ _ | apply below_alloc | apply pw_below_drewN | apply below_drew1) | exact Below.refl _ _)) hb; have hb2 := below_alloc hbw (.cells #[.int .i64 f1, .int .i64 f2, .int .i64 f3] 54); have hD2 := HD.out.below hb2; have hbx := World.alloc_heap_new w1 (.cells #[.int .i64 f1, .int .i64 f2, .int .i64 f3] 54); have cr0 : (w1.alloc (.cells #[.int .i64 f1, .int .i64 f2, .int .i64 f3] 54)).cell? ⟨rb, 0, none⟩ = some (.slice Ao s.out.length co) := (blk_cell hD2.blk 0).trans rfl; have cr1 : (w1.alloc (.cells #[.int .i64 f1, .int .i64 f2, .int .i64 f3] 54)).cell? ⟨rb, 1, none⟩ = some (.bool s.op) := (blk_cell hD2.blk 1).trans rfl; have fr1 : (w1.alloc (.cells #[.int .i64 f1, .int .i64 f2, .int .i64 f3] 54)).frozen? ⟨rb, 1, none⟩ = false := blk_frozen hD2.blk 1; have cr2 : (w1.alloc (.cells #[.int .i64 f1, .int .i64 f2, .int .i64 f3] 54)).cell? ⟨rb, 2, none⟩ = some (.int .i64 s.kd) := (blk_cell hD2.blk 2).trans rfl; have fr2 : (w1.alloc (.cells #[.int .i64 f1, .int .i64 f2, .int .i64 f3] 54)).frozen? ⟨rb, 2, none⟩ = false := blk_frozen hD2.blk 2; have cr3 : (w1.alloc (.cells #[.int .i64 f1, .int .i64 f2, .int .i64 f3] 54)).cell? ⟨rb, 3, none⟩ = some (.int .i64 s.le) := (blk_cell hD2.blk 3).trans rfl; have fr3 : (w1.alloc (.cells #[.int .i64 f1, .int .i64 f2, .int .i64 f3] 54)).frozen? ⟨rb, 3, none⟩ = false := blk_frozen hD2.blk 3; have cr4 : (w1.alloc (.cells #[.int .i64 f1, .int .i64 f2, .int .i64 f3] 54)).cell? ⟨rb, 4, none⟩ = some (.int .i64 s.mo) := (blk_cell hD2.blk 4).trans rfl; have fr4 : (w1.alloc (.cells #[.int .i64 f1, .int .i64 f2, .int .i64 f3] 54)).frozen? ⟨rb, 4, none⟩ = false := blk_frozen hD2.blk 4; have hrn : rb ≠ w1.heap.size := Nat.ne_of_lt (Nat.lt_of_lt_of_le (blk_lt HD.out.blk) hbw.size); have cb0 : ((w1.alloc (.cells #[.int .i64 f1, .int .i64 f2, .int .i64 f3] 54)).setCell ⟨rb, 1, none⟩ (.bool true)).cell? ⟨w1.heap.size, 0, none⟩ = some (.int .i64 f1) := cell_farS hrn ((blk_cell hbx 0).trans rfl); have cb1 : ((w1.alloc (.cells #[.int .i64 f1, .int .i64 f2, .int .i64 f3] 54)).setCell ⟨rb, 1, none⟩ (.bool true)).cell? ⟨w1.heap.size, 1, none⟩ = some (.int .i64 f2) := cell_farS hrn ((blk_cell hbx 1).trans rfl); have cb2 : ((w1.alloc (.cells #[.int .i64 f1, .int .i64 f2, .int .i64 f3] 54)).setCell ⟨rb, 1, none⟩ (.bool true)).cell? ⟨w1.heap.size, 2, none⟩ = some (.int .i64 f3) := cell_farS hrn ((blk_cell hbx 2).trans rfl); have HB := Aside0.mk hb2; have HD2 := Aside0.mk hD2; have HX := Aside0.mk hbx; clear hb hb2 hbw hD2 hbx)
    go_ret
    exact ⟨rfl, ⟨_, _, HD2.out⟩, HB0.out.trans (HB.out.mono HBW.out), keepE_below HB.out⟩
  | true =>
    by_cases h1000 : s.out.length = 1000
    · have e0 : decide (s.out.length = 1000) = true := decide_eq_true h1000
      have e1 : ((s.out.length : Int) == 1000) = true := beq_iff_eq.mpr (by omega)
      go_wp2_with (go_at_call 47; (with_reducible refine (scene_formed.calls a f1 f2 f3 true _ HF.out).mono ?_); rintro e w1 ⟨rfl, hb⟩; have hbw := below_step (show Below w.heap.size w _ from by repeat (first | (with_reducible first | exact Below.refl _ _ | apply below_alloc | apply pw_below_drewN | apply below_drew1) | exact Below.refl _ _)) hb; have hb2 := below_alloc hbw (.cells #[.int .i64 f1, .int .i64 f2, .int .i64 f3] 54); have hD2 := HD.out.below hb2; have hbx := World.alloc_heap_new w1 (.cells #[.int .i64 f1, .int .i64 f2, .int .i64 f3] 54); have cr0 : (w1.alloc (.cells #[.int .i64 f1, .int .i64 f2, .int .i64 f3] 54)).cell? ⟨rb, 0, none⟩ = some (.slice Ao s.out.length co) := (blk_cell hD2.blk 0).trans rfl; have cr1 : (w1.alloc (.cells #[.int .i64 f1, .int .i64 f2, .int .i64 f3] 54)).cell? ⟨rb, 1, none⟩ = some (.bool s.op) := (blk_cell hD2.blk 1).trans rfl; have fr1 : (w1.alloc (.cells #[.int .i64 f1, .int .i64 f2, .int .i64 f3] 54)).frozen? ⟨rb, 1, none⟩ = false := blk_frozen hD2.blk 1; have cr2 : (w1.alloc (.cells #[.int .i64 f1, .int .i64 f2, .int .i64 f3] 54)).cell? ⟨rb, 2, none⟩ = some (.int .i64 s.kd) := (blk_cell hD2.blk 2).trans rfl; have fr2 : (w1.alloc (.cells #[.int .i64 f1, .int .i64 f2, .int .i64 f3] 54)).frozen? ⟨rb, 2, none⟩ = false := blk_frozen hD2.blk 2; have cr3 : (w1.alloc (.cells #[.int .i64 f1, .int .i64 f2, .int .i64 f3] 54)).cell? ⟨rb, 3, none⟩ = some (.int .i64 s.le) := (blk_cell hD2.blk 3).trans rfl; have fr3 : (w1.alloc (.cells #[.int .i64 f1, .int .i64 f2, .int .i64 f3] 54)).frozen? ⟨rb, 3, none⟩ = false := blk_frozen hD2.blk 3; have cr4 : (w1.alloc (.cells #[.int .i64 f1, .int .i64 f2, .int .i64 f3] 54)).cell? ⟨rb, 4, none⟩ = some (.int .i64 s.mo) := (blk_cell hD2.blk 4).trans rfl; have fr4 : (w1.alloc (.cells #[.int .i64 f1, .int .i64 f2, .int .i64 f3] 54)).frozen? ⟨rb, 4, none⟩ = false := blk_frozen hD2.blk 4; have hrn : rb ≠ w1.heap.size := Nat.ne_of_lt (Nat.lt_of_lt_of_le (blk_lt HD.out.blk) hbw.size); have cb0 : ((w1.alloc (.cells #[.int .i64 f1, .int .i64 f2, .int .i64 f3] 54)).setCell ⟨rb, 1, none⟩ (.bool true)).cell? ⟨w1.heap.size, 0, none⟩ = some (.int .i64 f1) := cell_farS hrn ((blk_cell hbx 0).trans rfl); have cb1 : ((w1.alloc (.cells #[.int .i64 f1, .int .i64 f2, .int .i64 f3] 54)).setCell ⟨rb, 1, none⟩ (.bool true)).cell? ⟨w1.heap.size, 1, none⟩ = some (.int .i64 f2) := cell_farS hrn ((blk_cell hbx 1).trans rfl); have cb2 : ((w1.alloc (.cells #[.int .i64 f1, .int .i64 f2, .int .i64 f3] 54)).setCell ⟨rb, 1, none⟩ (.bool true)).cell? ⟨w1.heap.size, 2, none⟩ = some (.int .i64 f3) := cell_farS hrn ((blk_cell hbx 2).trans rfl); have HB := Aside0.mk hb2; have HD2 := Aside0.mk hD2; have HX := Aside0.mk hbx; clear hb hb2 hbw hD2 hbx)
      go_ret
      have hF : beginF (f1, f2, f3, true) s = (s, 5) := by unfold beginF; rw [if_pos rfl, if_pos h1000]
      rw [hF]
      exact ⟨rfl, ⟨_, _, HD2.out⟩, HB0.out.trans (HB.out.mono HBW.out), keepE_below HB.out⟩
    · have e1 : ((s.out.length : Int) == 1000) = false := beq_eq_false_iff_ne.mpr (by omega)
      have hF : beginF (f1, f2, f3, true) s = ({ s with op := true, kd := f1, le := f2, mo := f3 }, 0) := by unfold beginF; rw [if_pos rfl, if_neg h1000]
      rw [hF]
      have H1000 := Aside0.mk h1000
      have hmo : Tryd.prog.follows .mixedOrders = true := by kernel_rfl
      clear h1000 hF
      go_wp2_with (go_at_call 47; (with_reducible refine (scene_formed.calls a f1 f2 f3 true _ HF.out).mono ?_); rintro e w1 ⟨rfl, hb⟩; have hbw := below_step (show Below w.heap.size w _ from by repeat (first | (with_reducible first | exact Below.refl _ _ | apply below_alloc | apply pw_below_drewN | apply below_drew1) | exact Below.refl _ _)) hb; have hb2 := below_alloc hbw (.cells #[.int .i64 f1, .int .i64 f2, .int .i64 f3] 54); have hD2 := HD.out.below hb2; have hbx := World.alloc_heap_new w1 (.cells #[.int .i64 f1, .int .i64 f2, .int .i64 f3] 54); have cr0 : (w1.alloc (.cells #[.int .i64 f1, .int .i64 f2, .int .i64 f3] 54)).cell? ⟨rb, 0, none⟩ = some (.slice Ao s.out.length co) := (blk_cell hD2.blk 0).trans rfl; have cr1 : (w1.alloc (.cells #[.int .i64 f1, .int .i64 f2, .int .i64 f3] 54)).cell? ⟨rb, 1, none⟩ = some (.bool s.op) := (blk_cell hD2.blk 1).trans rfl; have fr1 : (w1.alloc (.cells #[.int .i64 f1, .int .i64 f2, .int .i64 f3] 54)).frozen? ⟨rb, 1, none⟩ = false := blk_frozen hD2.blk 1; have cr2 : (w1.alloc (.cells #[.int .i64 f1, .int .i64 f2, .int .i64 f3] 54)).cell? ⟨rb, 2, none⟩ = some (.int .i64 s.kd) := (blk_cell hD2.blk 2).trans rfl; have fr2 : (w1.alloc (.cells #[.int .i64 f1, .int .i64 f2, .int .i64 f3] 54)).frozen? ⟨rb, 2, none⟩ = false := blk_frozen hD2.blk 2; have cr3 : (w1.alloc (.cells #[.int .i64 f1, .int .i64 f2, .int .i64 f3] 54)).cell? ⟨rb, 3, none⟩ = some (.int .i64 s.le) := (blk_cell hD2.blk 3).trans rfl; have fr3 : (w1.alloc (.cells #[.int .i64 f1, .int .i64 f2, .int .i64 f3] 54)).frozen? ⟨rb, 3, none⟩ = false := blk_frozen hD2.blk 3; have cr4 : (w1.alloc (.cells #[.int .i64 f1, .int .i64 f2, .int .i64 f3] 54)).cell? ⟨rb, 4, none⟩ = some (.int .i64 s.mo) := (blk_cell hD2.blk 4).trans rfl; have fr4 : (w1.alloc (.cells #[.int .i64 f1, .int .i64 f2, .int .i64 f3] 54)).frozen? ⟨rb, 4, none⟩ = false := blk_frozen hD2.blk 4; have hrn : rb ≠ w1.heap.size := Nat.ne_of_lt (Nat.lt_of_lt_of_le (blk_lt HD.out.blk) hbw.size); have cb0 : ((w1.alloc (.cells #[.int .i64 f1, .int .i64 f2, .int .i64 f3] 54)).setCell ⟨rb, 1, none⟩ (.bool true)).cell? ⟨w1.heap.size, 0, none⟩ = some (.int .i64 f1) := cell_farS hrn ((blk_cell hbx 0).trans rfl); have cb1 : ((w1.alloc (.cells #[.int .i64 f1, .int .i64 f2, .int .i64 f3] 54)).setCell ⟨rb, 1, none⟩ (.bool true)).cell? ⟨w1.heap.size, 1, none⟩ = some (.int .i64 f2) := cell_farS hrn ((blk_cell hbx 1).trans rfl); have cb2 : ((w1.alloc (.cells #[.int .i64 f1, .int .i64 f2, .int .i64 f3] 54)).setCell ⟨rb, 1, none⟩ (.bool true)).cell? ⟨w1.heap.size, 2, none⟩ = some (.int .i64 f3) := cell_farS hrn ((blk_cell hbx 2).trans rfl); have HB := Aside0.mk hb2; have HD2 := Aside0.mk hD2; have HX := Aside0.mk hbx; clear hb hb2 hbw hD2 hbx)
      go_region_elder_o
      all_goals
        go_wp2
        go_ret
        refine ⟨rfl, ⟨_, _, RDv.below (RDv.set (s := { s with op := true, kd := f1, le := f2 }) (RDv.set (s := { s with op := true, kd := f1 }) (RDv.set (s := { s with op := true }) (RDv.set HD2.out hrE 1 (.bool true) rfl rfl rfl) hrE 2 (.int .i64 f1) rfl rfl rfl) hrE 3 (.int .i64 f2) rfl rfl rfl) hrE 4 (.int .i64 f3) rfl rfl rfl) (below_drew1 (Below.refl _ _))⟩, ?_, ?_⟩
        · exact below_drew1 (below_set (below_set (below_set (below_set (HB0.out.trans (HB.out.mono HBW.out)) hbr) hbr) hbr) hbr)
        · exact (keepE_below HB.out).trans ((keepE_set _ 1 _).trans ((keepE_set _ 2 _).trans ((keepE_set _ 3 _).trans ((keepE_set _ 4 _).trans (keepE_below (below_drew1 (Below.refl _ _)))))))

/-! ### scene_reader_shut: function 39 -/
def scene_shut.T10 : Bool × List (List Nat × List Nat) := (true, [([], []), ([], []), ([1], [1]), ([2], [2]), ([3], [3]), ([], []), ([5], [5]), ([4, 6], [4, 6]), ([0, 0, 1, 2, 3, 4, 5, 6, 7], [0]), ([8, 0, 1, 2, 3, 4, 5, 6, 7], [8]), ([9, 7, 7, 0, 1, 2, 3, 4, 5, 6, 7], [7, 9])])
def scene_shut.B10 : List Nat := [0, 0, 2, 6, 14, 0, 32, 126, 255, 511, 1023]
theorem scene_shut.tab10 : rtab .any (opsOf Tryd.f39 10) = scene_shut.T10 := by kernel_rfl
theorem scene_shut.bits10 : waitsOk scene_shut.T10.2 scene_shut.B10 = true := by kernel_rfl
theorem keepE_grown {rb : Nat} {okE : Nat → Prop} {W W' : World} {row : Option Nat} (hg : W.grownBy W' row) (ho : ∀ k, row = some k → okE k) : keepE rb okE W W' := ⟨hg.size, fun k hk hn _ => hg.block k hk (fun e => hn (ho k e.symm))⟩
def mvF (s : RS) : S34 := if s.kd = 2 then ⟨s.kd, 0, 0, s.nums⟩ else if s.nums.length = 2 then ⟨s.kd, rd s.nums 0, rd s.nums 1, []⟩ else if s.nums.length = 1 then ⟨s.kd, rd s.nums 0, 0, []⟩ else ⟨s.kd, 0, 0, []⟩
def shutF (s : RS) : RS × Bool := if (s.nums.length : Int) < s.le then (s, false) else ({ s with out := s.out ++ [mvF s], op := false, nums := [] }, true)
set_option maxHeartbeats 8000000 in
set_option maxRecDepth 100000 in
theorem own_shut (rb : Nat) (okE : Nat → Prop) (s : RS) (w0 w : World) (hb0 : Below w0.heap.size w0 w) (hbr : w0.heap.size ≤ rb) (hrE : ¬ okE rb) (hfresh : ∀ k, w.heap.size ≤ k → okE k) (hlen : s.out.length < 2932031007402) (hD : RD w0.heap.size rb okE s w) :
    Calls Tryd.prog 39 #[.pointer (some ⟨rb, 0, none⟩)] w fun e w' => e = .returned (.bool (shutF s).2) ∧ RD w0.heap.size rb okE (shutF s).1 w' ∧ Below w0.heap.size w0 w' ∧ keepE rb okE w w' := by
  obtain ⟨vo, vn, hD⟩ := hD
  obtain ⟨Ao, co, rfl⟩ := Kd.V_slice (Kd.N_V (base' := 0) hD.out)
  obtain ⟨An, cn, rfl⟩ := Kd.R_slice hD.nums
  have hbW : w0.heap.size ≤ w.heap.size := Nat.le_trans hbr (Nat.le_of_lt (blk_lt hD.blk))
  have cr0 : w.cell? ⟨rb, 0, none⟩ = some (.slice Ao s.out.length co) := (blk_cell hD.blk 0).trans rfl
  have cr2 : w.cell? ⟨rb, 2, none⟩ = some (.int .i64 s.kd) := (blk_cell hD.blk 2).trans rfl
  have cr3 : w.cell? ⟨rb, 3, none⟩ = some (.int .i64 s.le) := (blk_cell hD.blk 3).trans rfl
  have cr5 : w.cell? ⟨rb, 5, none⟩ = some (.slice An s.nums.length cn) := (blk_cell hD.blk 5).trans rfl
  have hrn : rb < w.heap.size := blk_lt hD.blk
  have hrn2 : (rb = w.heap.size) = False := eq_false (by omega)
  have HD := Aside0.mk hD
  have HB0 := Aside0.mk hb0
  have HBW := Aside0.mk hbW
  have HFR := Aside0.mk hfresh
  have HLEN := Aside0.mk hlen
  have hmo : Tryd.prog.follows .mixedOrders = true := by kernel_rfl
  clear hD hb0 hbW hfresh hlen
  by_cases hle : (s.nums.length : Int) < s.le
  · have hF : shutF s = (s, false) := by unfold shutF; rw [if_pos hle]
    rw [hF]
    have l0 : decide ((s.nums.length : Int) < s.le) = true := decide_eq_true hle
    clear hF
    go_enter Tryd.func39, Tryd.ntmps39
    go_wp2
    go_quiet (fail)
    go_wp2
    go_ret
    exact ⟨rfl, ⟨_, _, HD.out.below (pw_below_drewN (Below.refl _ _) _)⟩, pw_below_drewN HB0.out _, keepE_below (pw_below_drewN (Below.refl _ _) _)⟩
  · have hF : shutF s = ({ s with out := s.out ++ [mvF s], op := false, nums := [] }, true) := by unfold shutF; rw [if_neg hle]
    rw [hF]
    have l0 : decide ((s.nums.length : Int) < s.le) = false := decide_eq_false hle
    clear hF
    have HLE := Aside0.mk hle
    clear hle
    go_enter Tryd.func39, Tryd.ntmps39
    go_wp2
    go_quiet (fail)
    have hq := pw_below_drewN (Below.refl w.heap.size w) nq
    have hD1 := HD.out.below hq
    have hB1 := HB0.out.trans (hq.mono HBW.out)
    have hK1 : keepE rb okE w (w.drewN nq) := keepE_below hq
    have hS1 : (w.drewN nq).heap.size = w.heap.size := rfl
    obtain ⟨W1, hW1⟩ : ∃ W1, w.drewN nq = W1 := ⟨_, rfl⟩
    rw [hW1] at hD1 hB1 hK1 hS1 ⊢
    have hfr1 : ∀ k, W1.heap.size ≤ k → okE k := fun k hk => HFR.out k (hS1 ▸ hk)
    clear cr0 cr2 cr3 cr5 hrn hrn2 HD HB0 hq hW1 hS1 HFR HBW
    have cr0 : W1.cell? ⟨rb, 0, none⟩ = some (.slice Ao s.out.length co) := (blk_cell hD1.blk 0).trans rfl
    have cr2 : W1.cell? ⟨rb, 2, none⟩ = some (.int .i64 s.kd) := (blk_cell hD1.blk 2).trans rfl
    have cr5 : W1.cell? ⟨rb, 5, none⟩ = some (.slice An s.nums.length cn) := (blk_cell hD1.blk 5).trans rfl
    have hrn : rb < W1.heap.size := blk_lt hD1.blk
    have hrn2 : (rb = W1.heap.size) = False := eq_false (by omega)
    have HD1 := Aside0.mk hD1
    have HB1 := Aside0.mk hB1
    have HK1 := Aside0.mk hK1
    have HFR1 := Aside0.mk hfr1
    clear hD1 hB1 hK1 hfr1
    by_cases hk : s.kd = 2
    · have k0 : (s.kd == 2) = true := beq_iff_eq.mpr hk
      have hmv : mvF s = ⟨s.kd, 0, 0, s.nums⟩ := by unfold mvF; rw [if_pos hk]
      have HMV := Aside0.mk hmv
      clear hk hmv
      go_wp2
      have bl : Below W1.heap.size W1 (W1.alloc (.cells #[.int .i64 s.kd, .int .i64 0, .int .i64 0, .slice An s.nums.length cn] 34)) := below_alloc (Below.refl _ _) _
      have hd2 := HD1.out.below bl
      have hbx : ((W1.alloc (.cells #[.int .i64 s.kd, .int .i64 0, .int .i64 0, .slice An s.nums.length cn] 34))).heap[W1.heap.size]? = _ := World.alloc_heap_new W1 (.cells #[.int .i64 s.kd, .int .i64 0, .int .i64 0, .slice An s.nums.length cn] 34)
      have hk2 : keepE rb okE w _ := HK1.out.trans (keepE_below bl)
      have hb2 := HB1.out.trans (bl.mono HB1.out.size)
      have hfr2 : ∀ k, ((W1.alloc (.cells #[.int .i64 s.kd, .int .i64 0, .int .i64 0, .slice An s.nums.length cn] 34))).heap.size ≤ k → okE k := fun k hk => HFR1.out k (Nat.le_trans bl.size hk)
      obtain ⟨W2, hW2⟩ : ∃ W2, (W1.alloc (.cells #[.int .i64 s.kd, .int .i64 0, .int .i64 0, .slice An s.nums.length cn] 34)) = W2 := ⟨_, rfl⟩
      rw [hW2] at hd2 hbx hk2 hb2 hfr2 ⊢
      clear bl
      have hd3 := hd2.below (below_drew1 (Below.refl _ _))
      have hs0 : W2.drew.cell? ⟨rb, 0, none⟩ = some (.slice Ao s.out.length co) := (blk_cell hd3.blk 0).trans rfl
      have hs1 : W2.drew.cell? ⟨W1.heap.size, 0, none⟩ = some (.int .i64 s.kd) := (blk_cell (show W2.drew.heap[W1.heap.size]? = _ from hbx) 0).trans rfl
      have hs2 : W2.drew.cell? ⟨W1.heap.size, 1, none⟩ = some (.int .i64 (0)) := (blk_cell (show W2.drew.heap[W1.heap.size]? = _ from hbx) 1).trans rfl
      have hs3 : W2.drew.cell? ⟨W1.heap.size, 2, none⟩ = some (.int .i64 (0)) := (blk_cell (show W2.drew.heap[W1.heap.size]? = _ from hbx) 2).trans rfl
      have hs4 : W2.drew.cell? ⟨W1.heap.size, 3, none⟩ = some (.slice An s.nums.length cn) := (blk_cell (show W2.drew.heap[W1.heap.size]? = _ from hbx) 3).trans rfl
      have hfx : Kd.FK k34 W2.drew (fun k => okE k ∧ some k ≠ (Value.slice Ao s.out.length co).ownBlock) (mvF s) [.int .i64 s.kd, .int .i64 0, .int .i64 0, .slice An s.nums.length cn] := by rw [HMV.out]; exact k34_mkF _ _ ⟨s.kd, 0, 0, s.nums⟩ (Kd.R_reads' hd3.nums).2.1 (Kd.R_F hd3.nums)
      have hre : ¬ some rb = (Value.slice Ao s.out.length co).ownBlock := fun e => hrE ((hd3.out.1 rb e.symm).1)
      have HFX := Aside0.mk hfx
      have HN4 := Aside0.mk (Kd.N_mono hd3.out (fun k hk => hk.1))
      have HB4 := Aside0.mk (below_drew1 hb2)
      have hfresh4 := Aside0.mk (show ∀ k, W2.drew.heap.size ≤ k → okE k from hfr2)
      have HBK4 := Aside0.mk hd3.blk
      have HRE4 := Aside0.mk hre
      have HK4 := Aside0.mk (hk2.trans (keepE_below (below_drew1 (Below.refl _ _))))
      have HD3 := Aside0.mk hd3
      clear hd2 hbx hk2 hb2 hfr2 hW2 hd3 hfx hre cr0 cr2 cr5 HD1 HB1 HK1 HFR1
      refine start_ (n := 11) (S := fun w' => w'.cell? ⟨rb, 0, none⟩ = some (.slice Ao s.out.length co) ∧ w'.cell? ⟨W1.heap.size, 0, none⟩ = some (.int .i64 s.kd) ∧ w'.cell? ⟨W1.heap.size, 1, none⟩ = some (.int .i64 0) ∧ w'.cell? ⟨W1.heap.size, 2, none⟩ = some (.int .i64 0) ∧ w'.cell? ⟨W1.heap.size, 3, none⟩ = some (.slice An s.nums.length cn)) (ds := [7, 10]) #[false, false, false, false, false, false, false, false, false, false, false] (by kernel_rfl) rfl rfl ⟨hs0, hs1, hs2, hs3, hs4⟩ (fun hHeld => ?_)
      refine with_tabW scene_shut.tab10 scene_shut.bits10 (fun HT_ HW_ => ?_)
      refine pure_ (i := 0) (N := some 65) (v := ?_) (a' := ?_) #[true, false, false, false, false, false, false, false, false, false, false] rfl rfl (any_of HT_.out (by kernel_rfl)) (fun _ _ _ h => h) (Or.inl ⟨by rfl, ?_⟩) ?_ ?_
      rotate_left
      · intro w'
        go_simp
        with_reducible rfl
      rotate_left
      · simp only [Act.put, List.setIfInBounds_toArray, List.set_cons_zero, List.set_cons_succ, i64_w, i32_w, IntKind.wrap_u8, IntKind.wrap_u32]
        rfl
      refine pure_ (i := 1) (N := some 66) (v := ?_) (a' := ?_) #[true, true, false, false, false, false, false, false, false, false, false] rfl rfl (any_of HT_.out (by kernel_rfl)) (fun _ _ _ h => h) (Or.inl ⟨by rfl, ?_⟩) ?_ ?_
      rotate_left
      · intro w'
        go_simp
        with_reducible rfl
      rotate_left
      · simp only [Act.put, List.setIfInBounds_toArray, List.set_cons_zero, List.set_cons_succ, i64_w, i32_w, IntKind.wrap_u8, IntKind.wrap_u32]
        rfl
      refine pure_ (i := 2) (N := some 67) (v := ?_) (a' := ?_) #[true, true, true, false, false, false, false, false, false, false, false] rfl rfl (any_of HT_.out (by kernel_rfl)) (fun _ _ _ h => h) (Or.inl ⟨by rfl, ?_⟩) ?_ ?_
      rotate_left
      · intro w'
        go_simp
        with_reducible rfl
      rotate_left
      · simp only [Act.put, List.setIfInBounds_toArray, List.set_cons_zero, List.set_cons_succ, i64_w, i32_w, IntKind.wrap_u8, IntKind.wrap_u32]
        rfl
      refine pure_ (i := 3) (N := some 68) (v := ?_) (a' := ?_) #[true, true, true, true, false, false, false, false, false, false, false] rfl rfl (any_of HT_.out (by kernel_rfl)) (fun _ _ _ h => h) (Or.inl ⟨by rfl, ?_⟩) ?_ ?_
      rotate_left
      · intro w'
        go_simp
        with_reducible rfl
      rotate_left
      · simp only [Act.put, List.setIfInBounds_toArray, List.set_cons_zero, List.set_cons_succ, i64_w, i32_w, IntKind.wrap_u8, IntKind.wrap_u32]
        rfl
      refine take_ (i := 4) (N := some 69) (v := ?_) (a' := ?_) #[true, true, true, true, true, false, false, false, false, false, false] rfl rfl (take_ofW HT_.out HW_.out (by kernel_rfl)) (fun _ _ _ h => h) (Or.inl ⟨by rfl, ?_⟩) hHeld ?_ ?_
      rotate_left
      · rintro w' ⟨s0, s1, s2, s3, s4⟩
        go_simp
        with_reducible rfl
      rotate_left
      · simp only [Act.put, List.setIfInBounds_toArray, List.set_cons_zero, List.set_cons_succ, i64_w, i32_w, IntKind.wrap_u8, IntKind.wrap_u32]
        rfl
      refine take_ (i := 5) (N := some 70) (v := ?_) (a' := ?_) #[true, true, true, true, true, true, false, false, false, false, false] rfl rfl (take_ofW HT_.out HW_.out (by kernel_rfl)) (fun _ _ _ h => h) (Or.inl ⟨by rfl, ?_⟩) hHeld ?_ ?_
      rotate_left
      · rintro w' ⟨s0, s1, s2, s3, s4⟩
        go_simp
        with_reducible rfl
      rotate_left
      · simp only [Act.put, List.setIfInBounds_toArray, List.set_cons_zero, List.set_cons_succ, i64_w, i32_w, IntKind.wrap_u8, IntKind.wrap_u32]
        rfl
      refine one_ (i := 6) (N := some 71) #[true, true, true, true, true, true, true, false, false, false, false] rfl rfl (one_of HT_.out (by kernel_rfl)) (by decide) (fun K hK => ?_)
      refine value_ (w1 := ?_) (v := ?_) (by rfl) rfl ?_ ?_
      rotate_left 2
      · go_simp
        constructor
        · rfl
        · rfl
      refine hK.out _ _ ⟨(World.cell?_alloc_lt _ _ _ (World.block_lt_of_cell? _ _ (hHeld.1))).trans (hHeld.1), (World.cell?_alloc_lt _ _ _ (World.block_lt_of_cell? _ _ (hHeld.2.1))).trans (hHeld.2.1), (World.cell?_alloc_lt _ _ _ (World.block_lt_of_cell? _ _ (hHeld.2.2.1))).trans (hHeld.2.2.1), (World.cell?_alloc_lt _ _ _ (World.block_lt_of_cell? _ _ (hHeld.2.2.2.1))).trans (hHeld.2.2.2.1), (World.cell?_alloc_lt _ _ _ (World.block_lt_of_cell? _ _ (hHeld.2.2.2.2))).trans (hHeld.2.2.2.2)⟩ (fun hHeld => ?_)
      clear hK K
      refine norm_ (a' := ?_) ?_ ?_
      rotate_left
      · show Act.put _ (some 71) _ = _
        simp only [Act.put, List.setIfInBounds_toArray, List.set_cons_zero, List.set_cons_succ, i64_w, i32_w, IntKind.wrap_u8, IntKind.wrap_u32]
        rfl
      refine last_ (i := 7) (N := some 72) #[true, true, true, true, true, true, true, true, false, false, false] rfl rfl (one_of HT_.out (by kernel_rfl)) (by decide) (fun K hK => ?_)
      refine Kd.N_append_step k34 (w0 := w0) w0.heap.size (by rfl) (.tmp 69) (.tmp 71) 22 34 (.agg #[(.int .i64 0), (.int .i64 0), (.int .i64 0), (.slice none 0 0)]) 48 rfl Tryd.underlying22 info34 rfl (by decide) (by omega) (.slice Ao s.out.length co) s.out (mvF s) [.int .i64 s.kd, .int .i64 0, .int .i64 0, .slice An s.nums.length cn] okE (fun k => okE k ∧ some k ≠ (Value.slice Ao s.out.length co).ownBlock) rfl rfl HFX.out (fun _ hk => hk) hfresh4.out HN4.out HB4.out HB4.out.size (by have := HLEN.out; omega) ?_
      intro v1 w1 hN1 hb1 hg1 hat1
      obtain ⟨A1, c1, rfl⟩ := Kd.N_slice hN1
      have hbk1 := blk_grown HBK4.out hg1 (fun e => HRE4.out e)
      have cr0 : w1.cell? ⟨rb, 0, none⟩ = some (.slice Ao s.out.length co) := (blk_cell hbk1 0).trans rfl
      have fr0 := blk_frozen hbk1 0
      have cr1 : w1.cell? ⟨rb, 1, none⟩ = some (.bool s.op) := (blk_cell hbk1 1).trans rfl
      have fr1 := blk_frozen hbk1 1
      have cr5 : w1.cell? ⟨rb, 5, none⟩ = some (.slice An s.nums.length cn) := (blk_cell hbk1 5).trans rfl
      have fr5 := blk_frozen hbk1 5
      have HN1 := Aside0.mk hN1
      have HB1 := Aside0.mk hb1
      have HG1 := Aside0.mk hg1
      have HBK1 := Aside0.mk hbk1
      clear hN1 hb1 hg1 hat1 hbk1
      refine hK.out _ _ ?_
      clear hK K
      refine norm_ (a' := ?_) ?_ ?_
      rotate_left
      · show Act.put _ (some 72) _ = _
        simp only [Act.put, List.setIfInBounds_toArray, List.set_cons_zero, List.set_cons_succ, i64_w, i32_w, IntKind.wrap_u8, IntKind.wrap_u32]
        rfl
      refine pure_ (i := 8) (N := some 73) (v := ?_) (a' := ?_) #[true, true, true, true, true, true, true, true, true, false, false] rfl rfl (any_of HT_.out (by kernel_rfl)) (fun _ _ _ h => h) (Or.inl ⟨by rfl, ?_⟩) ?_ ?_
      rotate_left
      · intro w'
        go_simp
        with_reducible rfl
      rotate_left
      · simp only [Act.put, List.setIfInBounds_toArray, List.set_cons_zero, List.set_cons_succ, i64_w, i32_w, IntKind.wrap_u8, IntKind.wrap_u32]
        rfl
      refine pure_ (i := 9) (N := some 74) (v := ?_) (a' := ?_) #[true, true, true, true, true, true, true, true, true, true, false] rfl rfl (any_of HT_.out (by kernel_rfl)) (fun _ _ _ h => h) (Or.inl ⟨by rfl, ?_⟩) ?_ ?_
      rotate_left
      · intro w'
        go_simp
        with_reducible rfl
      rotate_left
      · simp only [Act.put, List.setIfInBounds_toArray, List.set_cons_zero, List.set_cons_succ, i64_w, i32_w, IntKind.wrap_u8, IntKind.wrap_u32]
        rfl
      refine last_ (i := 10) (N := none) #[true, true, true, true, true, true, true, true, true, true, true] rfl rfl (one_of HT_.out (by kernel_rfl)) (by decide) (fun K hK => ?_)
      refine skip_ (w1 := ?_) (by rfl) rfl ?_ ?_
      rotate_left
      · go_simp
        rfl
      refine hK.out _ _ ?_
      clear hK K
      refine done_ (done_of HT_.out (by kernel_rfl)) ?_
      have hn1 : Kd.N k34 34 w1 w0.heap.size okE (.slice A1 (s.out.length + 1) c1) (s.out ++ [mvF s]) := by have := HN1.out; rwa [List.length_append] at this
      have HN1 := Aside0.mk hn1
      clear hn1
      go_wp2
      go_ret
      refine ⟨rfl, ⟨.slice A1 (s.out.length + 1) c1, .slice none 0 0, ⟨?_, ?_, Kd.R_nil _ _ _ _ _⟩⟩, below_set (below_set (below_set HB1.out hbr) hbr) hbr, ?_⟩
      · exact blk_set (blk_set (blk_set HBK1.out 0 _) 1 _) 5 _
      · exact Kd.N_mono (Kd.N_far (p := ⟨rb, 5, none⟩) (Kd.N_far (p := ⟨rb, 1, none⟩) (Kd.N_far (p := ⟨rb, 0, none⟩) HN1.out (fun k hk e => hrE ((show k = rb from e) ▸ hk)) _) (fun k hk e => hrE ((show k = rb from e) ▸ hk)) _) (fun k hk e => hrE ((show k = rb from e) ▸ hk)) _) (fun k hk => ⟨hk, fun e => by cases e⟩)
      · exact HK4.out.trans ((keepE_grown HG1.out (fun k e => (HD3.out.out.1 k e).1)).trans ((keepE_set _ 0 _).trans ((keepE_set _ 1 _).trans (keepE_set _ 5 _))))
    · have k0 : (s.kd == 2) = false := beq_eq_false_iff_ne.mpr hk
      by_cases h2 : s.nums.length = 2
      · have hmv : mvF s = ⟨s.kd, rd s.nums 0, rd s.nums 1, []⟩ := by unfold mvF; rw [if_neg hk, if_pos h2]
        have g2 : ((s.nums.length : Int) == 2) = true := beq_iff_eq.mpr (by omega)
        have i0 := eq_true (show (0 : Int) < (s.nums.length : Int) by omega)
        have i1 := eq_true (show (1 : Int) < (s.nums.length : Int) by omega)
        have i2 := eq_true (show 0 < s.nums.length by omega)
        have i3 := eq_true (show 1 < s.nums.length by omega)
        obtain ⟨ad, ea, hc0⟩ := Kd.at_int (Kd.R_reads' HD1.out.nums).2.2 0 (by omega) (by omega)
        subst ea
        obtain ⟨ad2, ea2, hc1⟩ := Kd.at_int (Kd.R_reads' HD1.out.nums).2.2 1 (by omega) (by omega)
        obtain rfl := Option.some.inj ea2
        clear ea2
        have hc0 : W1.cell? ad = some (.int .i64 (rd s.nums 0)) := hc0
        have hc1 : W1.cell? ⟨ad.block, ad.off + 1, none⟩ = some (.int .i64 (rd s.nums 1)) := hc1
        generalize rd s.nums 0 = x0 at *
        generalize rd s.nums 1 = x1 at *
        have ka0 : ∀ cs : Array Value, (W1.alloc (.cells cs 34)).cell? ad = some (.int .i64 x0) := fun _ => (World.cell?_alloc_lt _ _ _ (cell_ltS hc0)).trans hc0
        have ka1 : ∀ cs : Array Value, (W1.alloc (.cells cs 34)).cell? ⟨ad.block, ad.off + 1, none⟩ = some (.int .i64 x1) := fun _ => (World.cell?_alloc_lt _ _ _ (cell_ltS hc1)).trans hc1
        have HMV := Aside0.mk hmv
        clear hk h2 hmv hc0 hc1
        go_wp2
        go_region_elder_o
        all_goals
          go_wp2
          have bl : Below W1.heap.size W1 (W1.alloc (.cells #[.int .i64 s.kd, .int .i64 x0, .int .i64 x1, .slice none 0 0] 34)).drew := below_drew1 (below_alloc (Below.refl _ _) _)
          have hd2 := HD1.out.below bl
          have hbx : ((W1.alloc (.cells #[.int .i64 s.kd, .int .i64 x0, .int .i64 x1, .slice none 0 0] 34)).drew).heap[W1.heap.size]? = _ := World.alloc_heap_new W1 (.cells #[.int .i64 s.kd, .int .i64 x0, .int .i64 x1, .slice none 0 0] 34)
          have hk2 : keepE rb okE w _ := HK1.out.trans (keepE_below bl)
          have hb2 := HB1.out.trans (bl.mono HB1.out.size)
          have hfr2 : ∀ k, ((W1.alloc (.cells #[.int .i64 s.kd, .int .i64 x0, .int .i64 x1, .slice none 0 0] 34)).drew).heap.size ≤ k → okE k := fun k hk => HFR1.out k (Nat.le_trans bl.size hk)
          obtain ⟨W2, hW2⟩ : ∃ W2, (W1.alloc (.cells #[.int .i64 s.kd, .int .i64 x0, .int .i64 x1, .slice none 0 0] 34)).drew = W2 := ⟨_, rfl⟩
          rw [hW2] at hd2 hbx hk2 hb2 hfr2 ⊢
          clear bl
          have hd3 := hd2.below (below_drew1 (Below.refl _ _))
          have hs0 : W2.drew.cell? ⟨rb, 0, none⟩ = some (.slice Ao s.out.length co) := (blk_cell hd3.blk 0).trans rfl
          have hs1 : W2.drew.cell? ⟨W1.heap.size, 0, none⟩ = some (.int .i64 s.kd) := (blk_cell (show W2.drew.heap[W1.heap.size]? = _ from hbx) 0).trans rfl
          have hs2 : W2.drew.cell? ⟨W1.heap.size, 1, none⟩ = some (.int .i64 (x0)) := (blk_cell (show W2.drew.heap[W1.heap.size]? = _ from hbx) 1).trans rfl
          have hs3 : W2.drew.cell? ⟨W1.heap.size, 2, none⟩ = some (.int .i64 (x1)) := (blk_cell (show W2.drew.heap[W1.heap.size]? = _ from hbx) 2).trans rfl
          have hs4 : W2.drew.cell? ⟨W1.heap.size, 3, none⟩ = some (.slice none 0 0) := (blk_cell (show W2.drew.heap[W1.heap.size]? = _ from hbx) 3).trans rfl
          have hfx : Kd.FK k34 W2.drew (fun _ => False) (mvF s) [.int .i64 s.kd, .int .i64 x0, .int .i64 x1, .slice none 0 0] := by rw [HMV.out]; exact k34_mkF _ _ ⟨s.kd, x0, x1, []⟩ (Nat.zero_le 0) (Kd.F_nil _ _ _)
          have hre : ¬ some rb = (Value.slice Ao s.out.length co).ownBlock := fun e => hrE ((hd3.out.1 rb e.symm).1)
          have HFX := Aside0.mk hfx
          have HN4 := Aside0.mk (Kd.N_mono hd3.out (fun k hk => hk.1))
          have HB4 := Aside0.mk (below_drew1 hb2)
          have hfresh4 := Aside0.mk (show ∀ k, W2.drew.heap.size ≤ k → okE k from hfr2)
          have HBK4 := Aside0.mk hd3.blk
          have HRE4 := Aside0.mk hre
          have HK4 := Aside0.mk (hk2.trans (keepE_below (below_drew1 (Below.refl _ _))))
          have HD3 := Aside0.mk hd3
          clear hd2 hbx hk2 hb2 hfr2 hW2 hd3 hfx hre cr0 cr2 cr5 HD1 HB1 HK1 HFR1
          refine start_ (n := 11) (S := fun w' => w'.cell? ⟨rb, 0, none⟩ = some (.slice Ao s.out.length co) ∧ w'.cell? ⟨W1.heap.size, 0, none⟩ = some (.int .i64 s.kd) ∧ w'.cell? ⟨W1.heap.size, 1, none⟩ = some (.int .i64 x0) ∧ w'.cell? ⟨W1.heap.size, 2, none⟩ = some (.int .i64 x1) ∧ w'.cell? ⟨W1.heap.size, 3, none⟩ = some (.slice none 0 0)) (ds := [7, 10]) #[false, false, false, false, false, false, false, false, false, false, false] (by kernel_rfl) rfl rfl ⟨hs0, hs1, hs2, hs3, hs4⟩ (fun hHeld => ?_)
          refine with_tabW scene_shut.tab10 scene_shut.bits10 (fun HT_ HW_ => ?_)
          refine pure_ (i := 0) (N := some 65) (v := ?_) (a' := ?_) #[true, false, false, false, false, false, false, false, false, false, false] rfl rfl (any_of HT_.out (by kernel_rfl)) (fun _ _ _ h => h) (Or.inl ⟨by rfl, ?_⟩) ?_ ?_
          rotate_left
          · intro w'
            go_simp
            with_reducible rfl
          rotate_left
          · simp only [Act.put, List.setIfInBounds_toArray, List.set_cons_zero, List.set_cons_succ, i64_w, i32_w, IntKind.wrap_u8, IntKind.wrap_u32]
            rfl
          refine pure_ (i := 1) (N := some 66) (v := ?_) (a' := ?_) #[true, true, false, false, false, false, false, false, false, false, false] rfl rfl (any_of HT_.out (by kernel_rfl)) (fun _ _ _ h => h) (Or.inl ⟨by rfl, ?_⟩) ?_ ?_
          rotate_left
          · intro w'
            go_simp
            with_reducible rfl
          rotate_left
          · simp only [Act.put, List.setIfInBounds_toArray, List.set_cons_zero, List.set_cons_succ, i64_w, i32_w, IntKind.wrap_u8, IntKind.wrap_u32]
            rfl
          refine pure_ (i := 2) (N := some 67) (v := ?_) (a' := ?_) #[true, true, true, false, false, false, false, false, false, false, false] rfl rfl (any_of HT_.out (by kernel_rfl)) (fun _ _ _ h => h) (Or.inl ⟨by rfl, ?_⟩) ?_ ?_
          rotate_left
          · intro w'
            go_simp
            with_reducible rfl
          rotate_left
          · simp only [Act.put, List.setIfInBounds_toArray, List.set_cons_zero, List.set_cons_succ, i64_w, i32_w, IntKind.wrap_u8, IntKind.wrap_u32]
            rfl
          refine pure_ (i := 3) (N := some 68) (v := ?_) (a' := ?_) #[true, true, true, true, false, false, false, false, false, false, false] rfl rfl (any_of HT_.out (by kernel_rfl)) (fun _ _ _ h => h) (Or.inl ⟨by rfl, ?_⟩) ?_ ?_
          rotate_left
          · intro w'
            go_simp
            with_reducible rfl
          rotate_left
          · simp only [Act.put, List.setIfInBounds_toArray, List.set_cons_zero, List.set_cons_succ, i64_w, i32_w, IntKind.wrap_u8, IntKind.wrap_u32]
            rfl
          refine take_ (i := 4) (N := some 69) (v := ?_) (a' := ?_) #[true, true, true, true, true, false, false, false, false, false, false] rfl rfl (take_ofW HT_.out HW_.out (by kernel_rfl)) (fun _ _ _ h => h) (Or.inl ⟨by rfl, ?_⟩) hHeld ?_ ?_
          rotate_left
          · rintro w' ⟨s0, s1, s2, s3, s4⟩
            go_simp
            with_reducible rfl
          rotate_left
          · simp only [Act.put, List.setIfInBounds_toArray, List.set_cons_zero, List.set_cons_succ, i64_w, i32_w, IntKind.wrap_u8, IntKind.wrap_u32]
            rfl
          refine take_ (i := 5) (N := some 70) (v := ?_) (a' := ?_) #[true, true, true, true, true, true, false, false, false, false, false] rfl rfl (take_ofW HT_.out HW_.out (by kernel_rfl)) (fun _ _ _ h => h) (Or.inl ⟨by rfl, ?_⟩) hHeld ?_ ?_
          rotate_left
          · rintro w' ⟨s0, s1, s2, s3, s4⟩
            go_simp
            with_reducible rfl
          rotate_left
          · simp only [Act.put, List.setIfInBounds_toArray, List.set_cons_zero, List.set_cons_succ, i64_w, i32_w, IntKind.wrap_u8, IntKind.wrap_u32]
            rfl
          refine one_ (i := 6) (N := some 71) #[true, true, true, true, true, true, true, false, false, false, false] rfl rfl (one_of HT_.out (by kernel_rfl)) (by decide) (fun K hK => ?_)
          refine value_ (w1 := ?_) (v := ?_) (by rfl) rfl ?_ ?_
          rotate_left 2
          · go_simp
            constructor
            · rfl
            · rfl
          refine hK.out _ _ ⟨(World.cell?_alloc_lt _ _ _ (World.block_lt_of_cell? _ _ (hHeld.1))).trans (hHeld.1), (World.cell?_alloc_lt _ _ _ (World.block_lt_of_cell? _ _ (hHeld.2.1))).trans (hHeld.2.1), (World.cell?_alloc_lt _ _ _ (World.block_lt_of_cell? _ _ (hHeld.2.2.1))).trans (hHeld.2.2.1), (World.cell?_alloc_lt _ _ _ (World.block_lt_of_cell? _ _ (hHeld.2.2.2.1))).trans (hHeld.2.2.2.1), (World.cell?_alloc_lt _ _ _ (World.block_lt_of_cell? _ _ (hHeld.2.2.2.2))).trans (hHeld.2.2.2.2)⟩ (fun hHeld => ?_)
          clear hK K
          refine norm_ (a' := ?_) ?_ ?_
          rotate_left
          · show Act.put _ (some 71) _ = _
            simp only [Act.put, List.setIfInBounds_toArray, List.set_cons_zero, List.set_cons_succ, i64_w, i32_w, IntKind.wrap_u8, IntKind.wrap_u32]
            rfl
          refine last_ (i := 7) (N := some 72) #[true, true, true, true, true, true, true, true, false, false, false] rfl rfl (one_of HT_.out (by kernel_rfl)) (by decide) (fun K hK => ?_)
          refine Kd.N_append_step k34 (w0 := w0) w0.heap.size (by rfl) (.tmp 69) (.tmp 71) 22 34 (.agg #[(.int .i64 0), (.int .i64 0), (.int .i64 0), (.slice none 0 0)]) 48 rfl Tryd.underlying22 info34 rfl (by decide) (by omega) (.slice Ao s.out.length co) s.out (mvF s) [.int .i64 s.kd, .int .i64 x0, .int .i64 x1, .slice none 0 0] okE (fun _ => False) rfl rfl HFX.out (fun _ hk => hk.elim) hfresh4.out HN4.out HB4.out HB4.out.size (by have := HLEN.out; omega) ?_
          intro v1 w1 hN1 hb1 hg1 hat1
          obtain ⟨A1, c1, rfl⟩ := Kd.N_slice hN1
          have hbk1 := blk_grown HBK4.out hg1 (fun e => HRE4.out e)
          have cr0 : w1.cell? ⟨rb, 0, none⟩ = some (.slice Ao s.out.length co) := (blk_cell hbk1 0).trans rfl
          have fr0 := blk_frozen hbk1 0
          have cr1 : w1.cell? ⟨rb, 1, none⟩ = some (.bool s.op) := (blk_cell hbk1 1).trans rfl
          have fr1 := blk_frozen hbk1 1
          have cr5 : w1.cell? ⟨rb, 5, none⟩ = some (.slice (some ad) s.nums.length cn) := (blk_cell hbk1 5).trans rfl
          have fr5 := blk_frozen hbk1 5
          have HN1 := Aside0.mk hN1
          have HB1 := Aside0.mk hb1
          have HG1 := Aside0.mk hg1
          have HBK1 := Aside0.mk hbk1
          clear hN1 hb1 hg1 hat1 hbk1
          refine hK.out _ _ ?_
          clear hK K
          refine norm_ (a' := ?_) ?_ ?_
          rotate_left
          · show Act.put _ (some 72) _ = _
            simp only [Act.put, List.setIfInBounds_toArray, List.set_cons_zero, List.set_cons_succ, i64_w, i32_w, IntKind.wrap_u8, IntKind.wrap_u32]
            rfl
          refine pure_ (i := 8) (N := some 73) (v := ?_) (a' := ?_) #[true, true, true, true, true, true, true, true, true, false, false] rfl rfl (any_of HT_.out (by kernel_rfl)) (fun _ _ _ h => h) (Or.inl ⟨by rfl, ?_⟩) ?_ ?_
          rotate_left
          · intro w'
            go_simp
            with_reducible rfl
          rotate_left
          · simp only [Act.put, List.setIfInBounds_toArray, List.set_cons_zero, List.set_cons_succ, i64_w, i32_w, IntKind.wrap_u8, IntKind.wrap_u32]
            rfl
          refine pure_ (i := 9) (N := some 74) (v := ?_) (a' := ?_) #[true, true, true, true, true, true, true, true, true, true, false] rfl rfl (any_of HT_.out (by kernel_rfl)) (fun _ _ _ h => h) (Or.inl ⟨by rfl, ?_⟩) ?_ ?_
          rotate_left
          · intro w'
            go_simp
            with_reducible rfl
          rotate_left
          · simp only [Act.put, List.setIfInBounds_toArray, List.set_cons_zero, List.set_cons_succ, i64_w, i32_w, IntKind.wrap_u8, IntKind.wrap_u32]
            rfl
          refine last_ (i := 10) (N := none) #[true, true, true, true, true, true, true, true, true, true, true] rfl rfl (one_of HT_.out (by kernel_rfl)) (by decide) (fun K hK => ?_)
          refine skip_ (w1 := ?_) (by rfl) rfl ?_ ?_
          rotate_left
          · go_simp
            rfl
          refine hK.out _ _ ?_
          clear hK K
          refine done_ (done_of HT_.out (by kernel_rfl)) ?_
          have hn1 : Kd.N k34 34 w1 w0.heap.size okE (.slice A1 (s.out.length + 1) c1) (s.out ++ [mvF s]) := by have := HN1.out; rwa [List.length_append] at this
          have HN1 := Aside0.mk hn1
          clear hn1
          go_wp2
          go_ret
          refine ⟨rfl, ⟨.slice A1 (s.out.length + 1) c1, .slice none 0 0, ⟨?_, ?_, Kd.R_nil _ _ _ _ _⟩⟩, below_set (below_set (below_set HB1.out hbr) hbr) hbr, ?_⟩
          · exact blk_set (blk_set (blk_set HBK1.out 0 _) 1 _) 5 _
          · exact Kd.N_mono (Kd.N_far (p := ⟨rb, 5, none⟩) (Kd.N_far (p := ⟨rb, 1, none⟩) (Kd.N_far (p := ⟨rb, 0, none⟩) HN1.out (fun k hk e => hrE ((show k = rb from e) ▸ hk)) _) (fun k hk e => hrE ((show k = rb from e) ▸ hk)) _) (fun k hk e => hrE ((show k = rb from e) ▸ hk)) _) (fun k hk => ⟨hk, fun e => by cases e⟩)
          · exact HK4.out.trans ((keepE_grown HG1.out (fun k e => (HD3.out.out.1 k e).1)).trans ((keepE_set _ 0 _).trans ((keepE_set _ 1 _).trans (keepE_set _ 5 _))))
      · have g2 : ((s.nums.length : Int) == 2) = false := beq_eq_false_iff_ne.mpr (by omega)
        by_cases h1 : s.nums.length = 1
        · have hmv : mvF s = ⟨s.kd, rd s.nums 0, 0, []⟩ := by unfold mvF; rw [if_neg hk, if_neg h2, if_pos h1]
          have g1 : ((s.nums.length : Int) == 1) = true := beq_iff_eq.mpr (by omega)
          have i0 := eq_true (show (0 : Int) < (s.nums.length : Int) by omega)
          have i2 := eq_true (show 0 < s.nums.length by omega)
          obtain ⟨ad, ea, hc0⟩ := Kd.at_int (Kd.R_reads' HD1.out.nums).2.2 0 (by omega) (by omega)
          subst ea
          have hc0 : W1.cell? ad = some (.int .i64 (rd s.nums 0)) := hc0
          generalize rd s.nums 0 = x0 at *
          have ka0 : ∀ cs : Array Value, (W1.alloc (.cells cs 34)).cell? ad = some (.int .i64 x0) := fun _ => (World.cell?_alloc_lt _ _ _ (cell_ltS hc0)).trans hc0
          have HMV := Aside0.mk hmv
          clear hk h2 h1 hmv hc0
          go_wp2
          have bl : Below W1.heap.size W1 (W1.alloc (.cells #[.int .i64 s.kd, .int .i64 x0, .int .i64 0, .slice none 0 0] 34)) := below_alloc (Below.refl _ _) _
          have hd2 := HD1.out.below bl
          have hbx : ((W1.alloc (.cells #[.int .i64 s.kd, .int .i64 x0, .int .i64 0, .slice none 0 0] 34))).heap[W1.heap.size]? = _ := World.alloc_heap_new W1 (.cells #[.int .i64 s.kd, .int .i64 x0, .int .i64 0, .slice none 0 0] 34)
          have hk2 : keepE rb okE w _ := HK1.out.trans (keepE_below bl)
          have hb2 := HB1.out.trans (bl.mono HB1.out.size)
          have hfr2 : ∀ k, ((W1.alloc (.cells #[.int .i64 s.kd, .int .i64 x0, .int .i64 0, .slice none 0 0] 34))).heap.size ≤ k → okE k := fun k hk => HFR1.out k (Nat.le_trans bl.size hk)
          obtain ⟨W2, hW2⟩ : ∃ W2, (W1.alloc (.cells #[.int .i64 s.kd, .int .i64 x0, .int .i64 0, .slice none 0 0] 34)) = W2 := ⟨_, rfl⟩
          rw [hW2] at hd2 hbx hk2 hb2 hfr2 ⊢
          clear bl
          have hd3 := hd2.below (below_drew1 (Below.refl _ _))
          have hs0 : W2.drew.cell? ⟨rb, 0, none⟩ = some (.slice Ao s.out.length co) := (blk_cell hd3.blk 0).trans rfl
          have hs1 : W2.drew.cell? ⟨W1.heap.size, 0, none⟩ = some (.int .i64 s.kd) := (blk_cell (show W2.drew.heap[W1.heap.size]? = _ from hbx) 0).trans rfl
          have hs2 : W2.drew.cell? ⟨W1.heap.size, 1, none⟩ = some (.int .i64 (x0)) := (blk_cell (show W2.drew.heap[W1.heap.size]? = _ from hbx) 1).trans rfl
          have hs3 : W2.drew.cell? ⟨W1.heap.size, 2, none⟩ = some (.int .i64 (0)) := (blk_cell (show W2.drew.heap[W1.heap.size]? = _ from hbx) 2).trans rfl
          have hs4 : W2.drew.cell? ⟨W1.heap.size, 3, none⟩ = some (.slice none 0 0) := (blk_cell (show W2.drew.heap[W1.heap.size]? = _ from hbx) 3).trans rfl
          have hfx : Kd.FK k34 W2.drew (fun _ => False) (mvF s) [.int .i64 s.kd, .int .i64 x0, .int .i64 0, .slice none 0 0] := by rw [HMV.out]; exact k34_mkF _ _ ⟨s.kd, x0, 0, []⟩ (Nat.zero_le 0) (Kd.F_nil _ _ _)
          have hre : ¬ some rb = (Value.slice Ao s.out.length co).ownBlock := fun e => hrE ((hd3.out.1 rb e.symm).1)
          have HFX := Aside0.mk hfx
          have HN4 := Aside0.mk (Kd.N_mono hd3.out (fun k hk => hk.1))
          have HB4 := Aside0.mk (below_drew1 hb2)
          have hfresh4 := Aside0.mk (show ∀ k, W2.drew.heap.size ≤ k → okE k from hfr2)
          have HBK4 := Aside0.mk hd3.blk
          have HRE4 := Aside0.mk hre
          have HK4 := Aside0.mk (hk2.trans (keepE_below (below_drew1 (Below.refl _ _))))
          have HD3 := Aside0.mk hd3
          clear hd2 hbx hk2 hb2 hfr2 hW2 hd3 hfx hre cr0 cr2 cr5 HD1 HB1 HK1 HFR1
          refine start_ (n := 11) (S := fun w' => w'.cell? ⟨rb, 0, none⟩ = some (.slice Ao s.out.length co) ∧ w'.cell? ⟨W1.heap.size, 0, none⟩ = some (.int .i64 s.kd) ∧ w'.cell? ⟨W1.heap.size, 1, none⟩ = some (.int .i64 x0) ∧ w'.cell? ⟨W1.heap.size, 2, none⟩ = some (.int .i64 0) ∧ w'.cell? ⟨W1.heap.size, 3, none⟩ = some (.slice none 0 0)) (ds := [7, 10]) #[false, false, false, false, false, false, false, false, false, false, false] (by kernel_rfl) rfl rfl ⟨hs0, hs1, hs2, hs3, hs4⟩ (fun hHeld => ?_)
          refine with_tabW scene_shut.tab10 scene_shut.bits10 (fun HT_ HW_ => ?_)
          refine pure_ (i := 0) (N := some 65) (v := ?_) (a' := ?_) #[true, false, false, false, false, false, false, false, false, false, false] rfl rfl (any_of HT_.out (by kernel_rfl)) (fun _ _ _ h => h) (Or.inl ⟨by rfl, ?_⟩) ?_ ?_
          rotate_left
          · intro w'
            go_simp
            with_reducible rfl
          rotate_left
          · simp only [Act.put, List.setIfInBounds_toArray, List.set_cons_zero, List.set_cons_succ, i64_w, i32_w, IntKind.wrap_u8, IntKind.wrap_u32]
            rfl
          refine pure_ (i := 1) (N := some 66) (v := ?_) (a' := ?_) #[true, true, false, false, false, false, false, false, false, false, false] rfl rfl (any_of HT_.out (by kernel_rfl)) (fun _ _ _ h => h) (Or.inl ⟨by rfl, ?_⟩) ?_ ?_
          rotate_left
          · intro w'
            go_simp
            with_reducible rfl
          rotate_left
          · simp only [Act.put, List.setIfInBounds_toArray, List.set_cons_zero, List.set_cons_succ, i64_w, i32_w, IntKind.wrap_u8, IntKind.wrap_u32]
            rfl
          refine pure_ (i := 2) (N := some 67) (v := ?_) (a' := ?_) #[true, true, true, false, false, false, false, false, false, false, false] rfl rfl (any_of HT_.out (by kernel_rfl)) (fun _ _ _ h => h) (Or.inl ⟨by rfl, ?_⟩) ?_ ?_
          rotate_left
          · intro w'
            go_simp
            with_reducible rfl
          rotate_left
          · simp only [Act.put, List.setIfInBounds_toArray, List.set_cons_zero, List.set_cons_succ, i64_w, i32_w, IntKind.wrap_u8, IntKind.wrap_u32]
            rfl
          refine pure_ (i := 3) (N := some 68) (v := ?_) (a' := ?_) #[true, true, true, true, false, false, false, false, false, false, false] rfl rfl (any_of HT_.out (by kernel_rfl)) (fun _ _ _ h => h) (Or.inl ⟨by rfl, ?_⟩) ?_ ?_
          rotate_left
          · intro w'
            go_simp
            with_reducible rfl
          rotate_left
          · simp only [Act.put, List.setIfInBounds_toArray, List.set_cons_zero, List.set_cons_succ, i64_w, i32_w, IntKind.wrap_u8, IntKind.wrap_u32]
            rfl
          refine take_ (i := 4) (N := some 69) (v := ?_) (a' := ?_) #[true, true, true, true, true, false, false, false, false, false, false] rfl rfl (take_ofW HT_.out HW_.out (by kernel_rfl)) (fun _ _ _ h => h) (Or.inl ⟨by rfl, ?_⟩) hHeld ?_ ?_
          rotate_left
          · rintro w' ⟨s0, s1, s2, s3, s4⟩
            go_simp
            with_reducible rfl
          rotate_left
          · simp only [Act.put, List.setIfInBounds_toArray, List.set_cons_zero, List.set_cons_succ, i64_w, i32_w, IntKind.wrap_u8, IntKind.wrap_u32]
            rfl
          refine take_ (i := 5) (N := some 70) (v := ?_) (a' := ?_) #[true, true, true, true, true, true, false, false, false, false, false] rfl rfl (take_ofW HT_.out HW_.out (by kernel_rfl)) (fun _ _ _ h => h) (Or.inl ⟨by rfl, ?_⟩) hHeld ?_ ?_
          rotate_left
          · rintro w' ⟨s0, s1, s2, s3, s4⟩
            go_simp
            with_reducible rfl
          rotate_left
          · simp only [Act.put, List.setIfInBounds_toArray, List.set_cons_zero, List.set_cons_succ, i64_w, i32_w, IntKind.wrap_u8, IntKind.wrap_u32]
            rfl
          refine one_ (i := 6) (N := some 71) #[true, true, true, true, true, true, true, false, false, false, false] rfl rfl (one_of HT_.out (by kernel_rfl)) (by decide) (fun K hK => ?_)
          refine value_ (w1 := ?_) (v := ?_) (by rfl) rfl ?_ ?_
          rotate_left 2
          · go_simp
            constructor
            · rfl
            · rfl
          refine hK.out _ _ ⟨(World.cell?_alloc_lt _ _ _ (World.block_lt_of_cell? _ _ (hHeld.1))).trans (hHeld.1), (World.cell?_alloc_lt _ _ _ (World.block_lt_of_cell? _ _ (hHeld.2.1))).trans (hHeld.2.1), (World.cell?_alloc_lt _ _ _ (World.block_lt_of_cell? _ _ (hHeld.2.2.1))).trans (hHeld.2.2.1), (World.cell?_alloc_lt _ _ _ (World.block_lt_of_cell? _ _ (hHeld.2.2.2.1))).trans (hHeld.2.2.2.1), (World.cell?_alloc_lt _ _ _ (World.block_lt_of_cell? _ _ (hHeld.2.2.2.2))).trans (hHeld.2.2.2.2)⟩ (fun hHeld => ?_)
          clear hK K
          refine norm_ (a' := ?_) ?_ ?_
          rotate_left
          · show Act.put _ (some 71) _ = _
            simp only [Act.put, List.setIfInBounds_toArray, List.set_cons_zero, List.set_cons_succ, i64_w, i32_w, IntKind.wrap_u8, IntKind.wrap_u32]
            rfl
          refine last_ (i := 7) (N := some 72) #[true, true, true, true, true, true, true, true, false, false, false] rfl rfl (one_of HT_.out (by kernel_rfl)) (by decide) (fun K hK => ?_)
          refine Kd.N_append_step k34 (w0 := w0) w0.heap.size (by rfl) (.tmp 69) (.tmp 71) 22 34 (.agg #[(.int .i64 0), (.int .i64 0), (.int .i64 0), (.slice none 0 0)]) 48 rfl Tryd.underlying22 info34 rfl (by decide) (by omega) (.slice Ao s.out.length co) s.out (mvF s) [.int .i64 s.kd, .int .i64 x0, .int .i64 0, .slice none 0 0] okE (fun _ => False) rfl rfl HFX.out (fun _ hk => hk.elim) hfresh4.out HN4.out HB4.out HB4.out.size (by have := HLEN.out; omega) ?_
          intro v1 w1 hN1 hb1 hg1 hat1
          obtain ⟨A1, c1, rfl⟩ := Kd.N_slice hN1
          have hbk1 := blk_grown HBK4.out hg1 (fun e => HRE4.out e)
          have cr0 : w1.cell? ⟨rb, 0, none⟩ = some (.slice Ao s.out.length co) := (blk_cell hbk1 0).trans rfl
          have fr0 := blk_frozen hbk1 0
          have cr1 : w1.cell? ⟨rb, 1, none⟩ = some (.bool s.op) := (blk_cell hbk1 1).trans rfl
          have fr1 := blk_frozen hbk1 1
          have cr5 : w1.cell? ⟨rb, 5, none⟩ = some (.slice (some ad) s.nums.length cn) := (blk_cell hbk1 5).trans rfl
          have fr5 := blk_frozen hbk1 5
          have HN1 := Aside0.mk hN1
          have HB1 := Aside0.mk hb1
          have HG1 := Aside0.mk hg1
          have HBK1 := Aside0.mk hbk1
          clear hN1 hb1 hg1 hat1 hbk1
          refine hK.out _ _ ?_
          clear hK K
          refine norm_ (a' := ?_) ?_ ?_
          rotate_left
          · show Act.put _ (some 72) _ = _
            simp only [Act.put, List.setIfInBounds_toArray, List.set_cons_zero, List.set_cons_succ, i64_w, i32_w, IntKind.wrap_u8, IntKind.wrap_u32]
            rfl
          refine pure_ (i := 8) (N := some 73) (v := ?_) (a' := ?_) #[true, true, true, true, true, true, true, true, true, false, false] rfl rfl (any_of HT_.out (by kernel_rfl)) (fun _ _ _ h => h) (Or.inl ⟨by rfl, ?_⟩) ?_ ?_
          rotate_left
          · intro w'
            go_simp
            with_reducible rfl
          rotate_left
          · simp only [Act.put, List.setIfInBounds_toArray, List.set_cons_zero, List.set_cons_succ, i64_w, i32_w, IntKind.wrap_u8, IntKind.wrap_u32]
            rfl
          refine pure_ (i := 9) (N := some 74) (v := ?_) (a' := ?_) #[true, true, true, true, true, true, true, true, true, true, false] rfl rfl (any_of HT_.out (by kernel_rfl)) (fun _ _ _ h => h) (Or.inl ⟨by rfl, ?_⟩) ?_ ?_
          rotate_left
          · intro w'
            go_simp
            with_reducible rfl
          rotate_left
          · simp only [Act.put, List.setIfInBounds_toArray, List.set_cons_zero, List.set_cons_succ, i64_w, i32_w, IntKind.wrap_u8, IntKind.wrap_u32]
            rfl
          refine last_ (i := 10) (N := none) #[true, true, true, true, true, true, true, true, true, true, true] rfl rfl (one_of HT_.out (by kernel_rfl)) (by decide) (fun K hK => ?_)
          refine skip_ (w1 := ?_) (by rfl) rfl ?_ ?_
          rotate_left
          · go_simp
            rfl
          refine hK.out _ _ ?_
          clear hK K
          refine done_ (done_of HT_.out (by kernel_rfl)) ?_
          have hn1 : Kd.N k34 34 w1 w0.heap.size okE (.slice A1 (s.out.length + 1) c1) (s.out ++ [mvF s]) := by have := HN1.out; rwa [List.length_append] at this
          have HN1 := Aside0.mk hn1
          clear hn1
          go_wp2
          go_ret
          refine ⟨rfl, ⟨.slice A1 (s.out.length + 1) c1, .slice none 0 0, ⟨?_, ?_, Kd.R_nil _ _ _ _ _⟩⟩, below_set (below_set (below_set HB1.out hbr) hbr) hbr, ?_⟩
          · exact blk_set (blk_set (blk_set HBK1.out 0 _) 1 _) 5 _
          · exact Kd.N_mono (Kd.N_far (p := ⟨rb, 5, none⟩) (Kd.N_far (p := ⟨rb, 1, none⟩) (Kd.N_far (p := ⟨rb, 0, none⟩) HN1.out (fun k hk e => hrE ((show k = rb from e) ▸ hk)) _) (fun k hk e => hrE ((show k = rb from e) ▸ hk)) _) (fun k hk e => hrE ((show k = rb from e) ▸ hk)) _) (fun k hk => ⟨hk, fun e => by cases e⟩)
          · exact HK4.out.trans ((keepE_grown HG1.out (fun k e => (HD3.out.out.1 k e).1)).trans ((keepE_set _ 0 _).trans ((keepE_set _ 1 _).trans (keepE_set _ 5 _))))
        · have hmv : mvF s = ⟨s.kd, 0, 0, []⟩ := by unfold mvF; rw [if_neg hk, if_neg h2, if_neg h1]
          have g1 : ((s.nums.length : Int) == 1) = false := beq_eq_false_iff_ne.mpr (by omega)
          have HMV := Aside0.mk hmv
          clear hk h2 h1 hmv
          go_wp2
          have bl : Below W1.heap.size W1 (W1.alloc (.cells #[.int .i64 s.kd, .int .i64 0, .int .i64 0, .slice none 0 0] 34)) := below_alloc (Below.refl _ _) _
          have hd2 := HD1.out.below bl
          have hbx : ((W1.alloc (.cells #[.int .i64 s.kd, .int .i64 0, .int .i64 0, .slice none 0 0] 34))).heap[W1.heap.size]? = _ := World.alloc_heap_new W1 (.cells #[.int .i64 s.kd, .int .i64 0, .int .i64 0, .slice none 0 0] 34)
          have hk2 : keepE rb okE w _ := HK1.out.trans (keepE_below bl)
          have hb2 := HB1.out.trans (bl.mono HB1.out.size)
          have hfr2 : ∀ k, ((W1.alloc (.cells #[.int .i64 s.kd, .int .i64 0, .int .i64 0, .slice none 0 0] 34))).heap.size ≤ k → okE k := fun k hk => HFR1.out k (Nat.le_trans bl.size hk)
          obtain ⟨W2, hW2⟩ : ∃ W2, (W1.alloc (.cells #[.int .i64 s.kd, .int .i64 0, .int .i64 0, .slice none 0 0] 34)) = W2 := ⟨_, rfl⟩
          rw [hW2] at hd2 hbx hk2 hb2 hfr2 ⊢
          clear bl
          have hd3 := hd2.below (below_drew1 (Below.refl _ _))
          have hs0 : W2.drew.cell? ⟨rb, 0, none⟩ = some (.slice Ao s.out.length co) := (blk_cell hd3.blk 0).trans rfl
          have hs1 : W2.drew.cell? ⟨W1.heap.size, 0, none⟩ = some (.int .i64 s.kd) := (blk_cell (show W2.drew.heap[W1.heap.size]? = _ from hbx) 0).trans rfl
          have hs2 : W2.drew.cell? ⟨W1.heap.size, 1, none⟩ = some (.int .i64 (0)) := (blk_cell (show W2.drew.heap[W1.heap.size]? = _ from hbx) 1).trans rfl
          have hs3 : W2.drew.cell? ⟨W1.heap.size, 2, none⟩ = some (.int .i64 (0)) := (blk_cell (show W2.drew.heap[W1.heap.size]? = _ from hbx) 2).trans rfl
          have hs4 : W2.drew.cell? ⟨W1.heap.size, 3, none⟩ = some (.slice none 0 0) := (blk_cell (show W2.drew.heap[W1.heap.size]? = _ from hbx) 3).trans rfl
          have hfx : Kd.FK k34 W2.drew (fun _ => False) (mvF s) [.int .i64 s.kd, .int .i64 0, .int .i64 0, .slice none 0 0] := by rw [HMV.out]; exact k34_mkF _ _ ⟨s.kd, 0, 0, []⟩ (Nat.zero_le 0) (Kd.F_nil _ _ _)
          have hre : ¬ some rb = (Value.slice Ao s.out.length co).ownBlock := fun e => hrE ((hd3.out.1 rb e.symm).1)
          have HFX := Aside0.mk hfx
          have HN4 := Aside0.mk (Kd.N_mono hd3.out (fun k hk => hk.1))
          have HB4 := Aside0.mk (below_drew1 hb2)
          have hfresh4 := Aside0.mk (show ∀ k, W2.drew.heap.size ≤ k → okE k from hfr2)
          have HBK4 := Aside0.mk hd3.blk
          have HRE4 := Aside0.mk hre
          have HK4 := Aside0.mk (hk2.trans (keepE_below (below_drew1 (Below.refl _ _))))
          have HD3 := Aside0.mk hd3
          clear hd2 hbx hk2 hb2 hfr2 hW2 hd3 hfx hre cr0 cr2 cr5 HD1 HB1 HK1 HFR1
          refine start_ (n := 11) (S := fun w' => w'.cell? ⟨rb, 0, none⟩ = some (.slice Ao s.out.length co) ∧ w'.cell? ⟨W1.heap.size, 0, none⟩ = some (.int .i64 s.kd) ∧ w'.cell? ⟨W1.heap.size, 1, none⟩ = some (.int .i64 0) ∧ w'.cell? ⟨W1.heap.size, 2, none⟩ = some (.int .i64 0) ∧ w'.cell? ⟨W1.heap.size, 3, none⟩ = some (.slice none 0 0)) (ds := [7, 10]) #[false, false, false, false, false, false, false, false, false, false, false] (by kernel_rfl) rfl rfl ⟨hs0, hs1, hs2, hs3, hs4⟩ (fun hHeld => ?_)
          refine with_tabW scene_shut.tab10 scene_shut.bits10 (fun HT_ HW_ => ?_)
          refine pure_ (i := 0) (N := some 65) (v := ?_) (a' := ?_) #[true, false, false, false, false, false, false, false, false, false, false] rfl rfl (any_of HT_.out (by kernel_rfl)) (fun _ _ _ h => h) (Or.inl ⟨by rfl, ?_⟩) ?_ ?_
          rotate_left
          · intro w'
            go_simp
            with_reducible rfl
          rotate_left
          · simp only [Act.put, List.setIfInBounds_toArray, List.set_cons_zero, List.set_cons_succ, i64_w, i32_w, IntKind.wrap_u8, IntKind.wrap_u32]
            rfl
          refine pure_ (i := 1) (N := some 66) (v := ?_) (a' := ?_) #[true, true, false, false, false, false, false, false, false, false, false] rfl rfl (any_of HT_.out (by kernel_rfl)) (fun _ _ _ h => h) (Or.inl ⟨by rfl, ?_⟩) ?_ ?_
          rotate_left
          · intro w'
            go_simp
            with_reducible rfl
          rotate_left
          · simp only [Act.put, List.setIfInBounds_toArray, List.set_cons_zero, List.set_cons_succ, i64_w, i32_w, IntKind.wrap_u8, IntKind.wrap_u32]
            rfl
          refine pure_ (i := 2) (N := some 67) (v := ?_) (a' := ?_) #[true, true, true, false, false, false, false, false, false, false, false] rfl rfl (any_of HT_.out (by kernel_rfl)) (fun _ _ _ h => h) (Or.inl ⟨by rfl, ?_⟩) ?_ ?_
          rotate_left
          · intro w'
            go_simp
            with_reducible rfl
          rotate_left
          · simp only [Act.put, List.setIfInBounds_toArray, List.set_cons_zero, List.set_cons_succ, i64_w, i32_w, IntKind.wrap_u8, IntKind.wrap_u32]
            rfl
          refine pure_ (i := 3) (N := some 68) (v := ?_) (a' := ?_) #[true, true, true, true, false, false, false, false, false, false, false] rfl rfl (any_of HT_.out (by kernel_rfl)) (fun _ _ _ h => h) (Or.inl ⟨by rfl, ?_⟩) ?_ ?_
          rotate_left
          · intro w'
            go_simp
            with_reducible rfl
          rotate_left
          · simp only [Act.put, List.setIfInBounds_toArray, List.set_cons_zero, List.set_cons_succ, i64_w, i32_w, IntKind.wrap_u8, IntKind.wrap_u32]
            rfl
          refine take_ (i := 4) (N := some 69) (v := ?_) (a' := ?_) #[true, true, true, true, true, false, false, false, false, false, false] rfl rfl (take_ofW HT_.out HW_.out (by kernel_rfl)) (fun _ _ _ h => h) (Or.inl ⟨by rfl, ?_⟩) hHeld ?_ ?_
          rotate_left
          · rintro w' ⟨s0, s1, s2, s3, s4⟩
            go_simp
            with_reducible rfl
          rotate_left
          · simp only [Act.put, List.setIfInBounds_toArray, List.set_cons_zero, List.set_cons_succ, i64_w, i32_w, IntKind.wrap_u8, IntKind.wrap_u32]
            rfl
          refine take_ (i := 5) (N := some 70) (v := ?_) (a' := ?_) #[true, true, true, true, true, true, false, false, false, false, false] rfl rfl (take_ofW HT_.out HW_.out (by kernel_rfl)) (fun _ _ _ h => h) (Or.inl ⟨by rfl, ?_⟩) hHeld ?_ ?_
          rotate_left
          · rintro w' ⟨s0, s1, s2, s3, s4⟩
            go_simp
            with_reducible rfl
          rotate_left
          · simp only [Act.put, List.setIfInBounds_toArray, List.set_cons_zero, List.set_cons_succ, i64_w, i32_w, IntKind.wrap_u8, IntKind.wrap_u32]
            rfl
          refine one_ (i := 6) (N := some 71) #[true, true, true, true, true, true, true, false, false, false, false] rfl rfl (one_of HT_.out (by kernel_rfl)) (by decide) (fun K hK => ?_)
          refine value_ (w1 := ?_) (v := ?_) (by rfl) rfl ?_ ?_
          rotate_left 2
          · go_simp
            constructor
            · rfl
            · rfl
          refine hK.out _ _ ⟨(World.cell?_alloc_lt _ _ _ (World.block_lt_of_cell? _ _ (hHeld.1))).trans (hHeld.1), (World.cell?_alloc_lt _ _ _ (World.block_lt_of_cell? _ _ (hHeld.2.1))).trans (hHeld.2.1), (World.cell?_alloc_lt _ _ _ (World.block_lt_of_cell? _ _ (hHeld.2.2.1))).trans (hHeld.2.2.1), (World.cell?_alloc_lt _ _ _ (World.block_lt_of_cell? _ _ (hHeld.2.2.2.1))).trans (hHeld.2.2.2.1), (World.cell?_alloc_lt _ _ _ (World.block_lt_of_cell? _ _ (hHeld.2.2.2.2))).trans (hHeld.2.2.2.2)⟩ (fun hHeld => ?_)
          clear hK K
          refine norm_ (a' := ?_) ?_ ?_
          rotate_left
          · show Act.put _ (some 71) _ = _
            simp only [Act.put, List.setIfInBounds_toArray, List.set_cons_zero, List.set_cons_succ, i64_w, i32_w, IntKind.wrap_u8, IntKind.wrap_u32]
            rfl
          refine last_ (i := 7) (N := some 72) #[true, true, true, true, true, true, true, true, false, false, false] rfl rfl (one_of HT_.out (by kernel_rfl)) (by decide) (fun K hK => ?_)
          refine Kd.N_append_step k34 (w0 := w0) w0.heap.size (by rfl) (.tmp 69) (.tmp 71) 22 34 (.agg #[(.int .i64 0), (.int .i64 0), (.int .i64 0), (.slice none 0 0)]) 48 rfl Tryd.underlying22 info34 rfl (by decide) (by omega) (.slice Ao s.out.length co) s.out (mvF s) [.int .i64 s.kd, .int .i64 0, .int .i64 0, .slice none 0 0] okE (fun _ => False) rfl rfl HFX.out (fun _ hk => hk.elim) hfresh4.out HN4.out HB4.out HB4.out.size (by have := HLEN.out; omega) ?_
          intro v1 w1 hN1 hb1 hg1 hat1
          obtain ⟨A1, c1, rfl⟩ := Kd.N_slice hN1
          have hbk1 := blk_grown HBK4.out hg1 (fun e => HRE4.out e)
          have cr0 : w1.cell? ⟨rb, 0, none⟩ = some (.slice Ao s.out.length co) := (blk_cell hbk1 0).trans rfl
          have fr0 := blk_frozen hbk1 0
          have cr1 : w1.cell? ⟨rb, 1, none⟩ = some (.bool s.op) := (blk_cell hbk1 1).trans rfl
          have fr1 := blk_frozen hbk1 1
          have cr5 : w1.cell? ⟨rb, 5, none⟩ = some (.slice An s.nums.length cn) := (blk_cell hbk1 5).trans rfl
          have fr5 := blk_frozen hbk1 5
          have HN1 := Aside0.mk hN1
          have HB1 := Aside0.mk hb1
          have HG1 := Aside0.mk hg1
          have HBK1 := Aside0.mk hbk1
          clear hN1 hb1 hg1 hat1 hbk1
          refine hK.out _ _ ?_
          clear hK K
          refine norm_ (a' := ?_) ?_ ?_
          rotate_left
          · show Act.put _ (some 72) _ = _
            simp only [Act.put, List.setIfInBounds_toArray, List.set_cons_zero, List.set_cons_succ, i64_w, i32_w, IntKind.wrap_u8, IntKind.wrap_u32]
            rfl
          refine pure_ (i := 8) (N := some 73) (v := ?_) (a' := ?_) #[true, true, true, true, true, true, true, true, true, false, false] rfl rfl (any_of HT_.out (by kernel_rfl)) (fun _ _ _ h => h) (Or.inl ⟨by rfl, ?_⟩) ?_ ?_
          rotate_left
          · intro w'
            go_simp
            with_reducible rfl
          rotate_left
          · simp only [Act.put, List.setIfInBounds_toArray, List.set_cons_zero, List.set_cons_succ, i64_w, i32_w, IntKind.wrap_u8, IntKind.wrap_u32]
            rfl
          refine pure_ (i := 9) (N := some 74) (v := ?_) (a' := ?_) #[true, true, true, true, true, true, true, true, true, true, false] rfl rfl (any_of HT_.out (by kernel_rfl)) (fun _ _ _ h => h) (Or.inl ⟨by rfl, ?_⟩) ?_ ?_
          rotate_left
          · intro w'
            go_simp
            with_reducible rfl
          rotate_left
          · simp only [Act.put, List.setIfInBounds_toArray, List.set_cons_zero, List.set_cons_succ, i64_w, i32_w, IntKind.wrap_u8, IntKind.wrap_u32]
            rfl
          refine last_ (i := 10) (N := none) #[true, true, true, true, true, true, true, true, true, true, true] rfl rfl (one_of HT_.out (by kernel_rfl)) (by decide) (fun K hK => ?_)
          refine skip_ (w1 := ?_) (by rfl) rfl ?_ ?_
          rotate_left
          · go_simp
            rfl
          refine hK.out _ _ ?_
          clear hK K
          refine done_ (done_of HT_.out (by kernel_rfl)) ?_
          have hn1 : Kd.N k34 34 w1 w0.heap.size okE (.slice A1 (s.out.length + 1) c1) (s.out ++ [mvF s]) := by have := HN1.out; rwa [List.length_append] at this
          have HN1 := Aside0.mk hn1
          clear hn1
          go_wp2
          go_ret
          refine ⟨rfl, ⟨.slice A1 (s.out.length + 1) c1, .slice none 0 0, ⟨?_, ?_, Kd.R_nil _ _ _ _ _⟩⟩, below_set (below_set (below_set HB1.out hbr) hbr) hbr, ?_⟩
          · exact blk_set (blk_set (blk_set HBK1.out 0 _) 1 _) 5 _
          · exact Kd.N_mono (Kd.N_far (p := ⟨rb, 5, none⟩) (Kd.N_far (p := ⟨rb, 1, none⟩) (Kd.N_far (p := ⟨rb, 0, none⟩) HN1.out (fun k hk e => hrE ((show k = rb from e) ▸ hk)) _) (fun k hk e => hrE ((show k = rb from e) ▸ hk)) _) (fun k hk e => hrE ((show k = rb from e) ▸ hk)) _) (fun k hk => ⟨hk, fun e => by cases e⟩)
          · exact HK4.out.trans ((keepE_grown HG1.out (fun k e => (HD3.out.out.1 k e).1)).trans ((keepE_set _ 0 _).trans ((keepE_set _ 1 _).trans (keepE_set _ 5 _))))

end Go.Proofs.YtfmbdmkiamedeaaDoor.PScenePrints
