-- Written by a patched print (wip/mkprint.py), for this claim.
import Derived.Test.YtfmbdmkiamedeaaDoorPScenePrintsx0
import Derived.Test.YtfmbdmkiamedeaaDoorPScenePrintsx5
namespace Go.Proofs.YtfmbdmkiamedeaaDoor.PScenePrints
open Go.RowKit Go.Proofs.YtfmbdmkiamedeaaDoorW.PrintWords Go.Proofs.YtfmbdmkiamedeaaDoorW.PrintLast Go.Proofs.YtfmbdmkiamedeaaDoorW.PrintMore
attribute [local go_sem] max2_int min2_int max_two min_two max_three min_three max_four min_four   -- for this text's walks alone
set_option linter.unusedVariables false
set_option linter.unusedSimpArgs false

/-! ### scene_Check: function 9 -/
def isFar (n : Int) : Bool := decide (n < -1099511627776) || decide (1099511627776 < n)
theorem own_far (n : Int) (W : World) : Calls Tryd.prog 20 #[.int .i64 n] W fun e w' => e = .returned (.bool (isFar n)) ∧ ∃ q, w' = W.drewN q := by
  unfold isFar
  by_cases c1 : n < -1099511627776
  · have d1 : decide (n < -1099511627776) = true := decide_eq_true c1
    rw [d1]
    clear c1
    go_enter Tryd.func20, Tryd.ntmps20
    go_wp2
    go_ret
    exact ⟨rfl, 0, rfl⟩
  · have d1 : decide (n < -1099511627776) = false := decide_eq_false c1
    rw [d1, Bool.false_or]
    clear c1
    go_enter Tryd.func20, Tryd.ntmps20
    go_wp2
    go_ret
    exact ⟨rfl, 0, rfl⟩
theorem own_said (n : Int) (g : Nat) (a0 a1 a2 : Int) (v3 : Value) (W : World) (hg : W.heap[g]? = some (.cells #[.int .i64 a0, .int .i64 a1, .int .i64 a2, v3] 34 (0, 0))) :
    Calls Tryd.prog 21 #[.int .i64 n, .pointer (some ⟨g, 0, none⟩)] W fun e w' => e = .returned (.bool (decide (n = 0) || decide (a0 = 1))) ∧ Below W.heap.size W w' := by
  have k0 := blk_cell hg 0
  have f0 := blk_frozen hg 0
  clear hg
  by_cases c1 : n = 0
  · subst c1
    rw [decide_eq_true rfl]
    go_enter Tryd.func21, Tryd.ntmps21
    go_wp2
    go_ret
    exact ⟨rfl, by repeat (first | exact Below.refl _ _ | apply pw_below_drewN | apply below_drew1)⟩
  · have d1 : (n == 0) = false := beq_eq_false_iff_ne.mpr c1
    rw [decide_eq_false c1, Bool.false_or]
    clear c1
    go_enter Tryd.func21, Tryd.ntmps21
    go_wp2
    go_ret
    exact ⟨rfl, by repeat (first | exact Below.refl _ _ | apply pw_below_drewN | apply below_drew1)⟩
theorem Kd.V_C22 {W : World} {base : Nat} {ok : Nat → Prop} {A : Option Addr} {c : Nat} {xs : List Int} (h : Kd.V (Kd.int .i64) 3 W base ok (.slice A xs.length c) xs) : xs.length ≤ c ∧ Kd.C (Kd.int .i64) W A xs.length xs := by
  obtain ⟨A', c', e, hl, hf⟩ := h
  cases e
  exact ⟨hl, hf W (fun _ _ _ => rfl)⟩
theorem far_pays (w : World) : PredAt Tryd.prog 20 #[] (Value.int .i64) isFar w := fun W x _ => own_far x W
theorem far_enters : ∀ args w, (callFunc 20 args).run Tryd.prog w = .ok (.enter 20 args) w := Go.Proofs.enters_of Tryd.func20 (by kernel_rfl) rfl
theorem own_contains (A : Option Addr) (c : Nat) (l : List Int) (w : World) (hC : Kd.C (Kd.int .i64) w A l.length l) (hc : l.length ≤ c) :
    Calls Tryd.prog 22 #[.slice A l.length c, .func (.func 20) #[] #[]] w fun e w' => e = .returned (.bool (l.any isFar)) ∧ Below w.heap.size w w' := by
  cases l with
  | nil =>
    refine (Tryd.slices_ContainsFunc_empty (α := Int) A c _ w).mono ?_
    rintro e w' ⟨rfl, rfl⟩
    exact ⟨rfl, Below.refl _ _⟩
  | cons x l =>
    obtain ⟨ad, rfl, hx⟩ := Kd.at_int hC 0 (by omega) (by simp)
    obtain ⟨b, o, rfl⟩ : ∃ b o, ad = ⟨b, o, none⟩ := by
      obtain ⟨b, o, sp⟩ := ad
      have hx1 : w.cell? ⟨b, o, sp⟩ = some (.int .i64 (rd (x :: l) 0)) := hx
      unfold World.cell? at hx1
      cases hb : w.heap[b]? with
      | none => simp only [hb] at hx1; exact absurd hx1 (by simp)
      | some ob =>
        cases sp with
        | none => exact ⟨b, o, rfl⟩
        | some k =>
          simp only [hb] at hx1
          cases ob <;> simp at hx1
    have hcells : ∀ j, j < (x :: l).length → w.cell? ⟨b, o + j, none⟩ = some (Value.int .i64 ((x :: l)[j]!)) := by
      intro j hj
      obtain ⟨ad2, e2, hx2⟩ := Kd.at_int hC (j : Int) (by omega) (by omega)
      obtain rfl := Option.some.inj e2
      rw [Int.toNat_natCast, add_at] at hx2
      rw [hx2]
      congr 2
      unfold rd
      rw [Int.toNat_natCast, List.getD_eq_getElem?_getD, List.getElem?_eq_getElem hj, getElem!_pos (x :: l) j hj]
      rfl
    refine (Tryd.slices_ContainsFunc (Value.int .i64) isFar 20 #[] far_enters b o (x :: l).length c (x :: l) w (far_pays w) (Nat.le_refl _) (Kd.C_max hC) hcells).mono ?_
    rintro e w' ⟨rfl, q, rfl⟩
    rw [List.take_length]
    exact ⟨rfl, pw_below_drewN (Below.refl _ _) _⟩
theorem own_saidB (n : Int) (g : Nat) (a0 a1 a2 : Int) (v3 : Value) (W : World) {b : Bool} (hd : (decide (n = 0) || decide (a0 = 1)) = b) (hg : W.heap[g]? = some (.cells #[.int .i64 a0, .int .i64 a1, .int .i64 a2, v3] 34 (0, 0))) :
    Calls Tryd.prog 21 #[.int .i64 n, .pointer (some ⟨g, 0, none⟩)] W fun e w' => e = .returned (.bool b) ∧ Below W.heap.size W w' := hd ▸ own_said n g a0 a1 a2 v3 W hg
theorem own_containsB (A : Option Addr) (c : Nat) (l : List Int) (w : World) {b : Bool} (hd : l.any isFar = b) (hC : Kd.C (Kd.int .i64) w A l.length l) (hc : l.length ≤ c) :
    Calls Tryd.prog 22 #[.slice A l.length c, .func (.func 20) #[] #[]] w fun e w' => e = .returned (.bool b) ∧ Below w.heap.size w w' := hd ▸ own_contains A c l w hC hc
def checkF (a0 a1 a2 : Int) (l : List Int) : Int :=
  if a0 < 1 ∨ 5 < a0 ∨ 70 < (numsF a0 a1 a2 l).length ∨ (numsF a0 a1 a2 l).any isFar = true then 2
  else if (0 < l.length ∧ a0 ≠ 2) ∨ ¬ (a2 = 0 ∨ a0 = 1) then 2
  else if a1 ≠ 0 ∧ (a0 = 2 ∨ a0 = 3) then 2 else 0
set_option maxHeartbeats 8000000 in
set_option maxRecDepth 100000 in
theorem own_Check (a0 a1 a2 : Int) (A : Option Addr) (c : Nat) (l : List Int) (w : World) (hC : Kd.C (Kd.int .i64) w A l.length l) (hc : l.length ≤ c) :
    Calls Tryd.prog 9 #[.agg #[.int .i64 a0, .int .i64 a1, .int .i64 a2, .slice A l.length c]] w fun e w' => e = .returned (.int .i64 (checkF a0 a1 a2 l)) ∧ Below w.heap.size w w' := by
  have hV : ∀ o, Kd.V (Kd.int .i64) 3 (w.alloc o) (w.alloc o).heap.size (fun k_ => k_ < w.heap.size) (.slice A l.length c) l := fun o => Kd.V_alloc (Kd.V_mk hc (Kd.C_F (Kd.heap_int _) hC)) o
  have HV := Aside0.mk hV
  clear hV hC

  by_cases h1 : a0 < 1
  · have d1 : decide (a0 < 1) = true := decide_eq_true h1
    have hres : checkF a0 a1 a2 l = 2 := by unfold checkF; rw [if_pos (.inl h1)]
    rw [hres]
    clear hres
    (try clear h7)
    (try clear h5)
    (try clear h4)
    (try clear h3)
    (try clear h2)
    (try clear h1)
    (first | (have e8 := Decidable.of_not_not h8; subst e8; clear h8) | clear h8 | skip)
    (first | subst h10 | clear h10 | skip)
    (first | subst h9 | clear h9 | skip)
    (first | subst h6 | clear h6 | skip)
    go_enter Tryd.func9, Tryd.ntmps9
    go_wp2_with (first | (go_at_call 15; (with_reducible refine (own_numbers _ _ _ _ A c l _ (HV.out _)).mono ?_); rintro e w1 ⟨v, rfl, hv, hb⟩; obtain ⟨A1, c1, rfl⟩ := Kd.V_slice hv; have hbx := (hb.block w.heap.size (by simp)).trans (World.alloc_heap_new w (.cells _ 34)); have kb0 := blk_cell hbx 0; have kb1 := blk_cell hbx 1; have kb2 := blk_cell hbx 2; have kb3 := blk_cell hbx 3; have fb0 := blk_frozen hbx 0; have fb1 := blk_frozen hbx 1; have fb2 := blk_frozen hbx 2; have fb3 := blk_frozen hbx 3; have HB := Aside0.mk (below_step (below_alloc (Below.refl _ _) _) hb); have HX := Aside0.mk hbx; have HN := Aside0.mk hv; clear hb hbx hv))
    go_ret
    exact ⟨rfl, by repeat (first | exact HB.out | apply below_alloc | apply pw_below_drewN | apply below_drew1)⟩
  · have d1 : decide (a0 < 1) = false := decide_eq_false h1
    by_cases h2 : 5 < a0
    · have d2 : decide (5 < a0) = true := decide_eq_true h2
      have hres : checkF a0 a1 a2 l = 2 := by unfold checkF; rw [if_pos (.inr (.inl h2))]
      rw [hres]
      clear hres
      (try clear h7)
      (try clear h5)
      (try clear h4)
      (try clear h3)
      (try clear h2)
      (try clear h1)
      (first | (have e8 := Decidable.of_not_not h8; subst e8; clear h8) | clear h8 | skip)
      (first | subst h10 | clear h10 | skip)
      (first | subst h9 | clear h9 | skip)
      (first | subst h6 | clear h6 | skip)
      go_enter Tryd.func9, Tryd.ntmps9
      go_wp2_with (first | (go_at_call 15; (with_reducible refine (own_numbers _ _ _ _ A c l _ (HV.out _)).mono ?_); rintro e w1 ⟨v, rfl, hv, hb⟩; obtain ⟨A1, c1, rfl⟩ := Kd.V_slice hv; have hbx := (hb.block w.heap.size (by simp)).trans (World.alloc_heap_new w (.cells _ 34)); have kb0 := blk_cell hbx 0; have kb1 := blk_cell hbx 1; have kb2 := blk_cell hbx 2; have kb3 := blk_cell hbx 3; have fb0 := blk_frozen hbx 0; have fb1 := blk_frozen hbx 1; have fb2 := blk_frozen hbx 2; have fb3 := blk_frozen hbx 3; have HB := Aside0.mk (below_step (below_alloc (Below.refl _ _) _) hb); have HX := Aside0.mk hbx; have HN := Aside0.mk hv; clear hb hbx hv))
      go_ret
      exact ⟨rfl, by repeat (first | exact HB.out | apply below_alloc | apply pw_below_drewN | apply below_drew1)⟩
    · have d2 : decide (5 < a0) = false := decide_eq_false h2
      by_cases h3 : 70 < (numsF a0 a1 a2 l).length
      · have d3 : decide ((70 : Int) < ((numsF a0 a1 a2 l).length : Int)) = true := decide_eq_true (by omega)
        have hres : checkF a0 a1 a2 l = 2 := by unfold checkF; rw [if_pos (.inr (.inr (.inl h3)))]
        rw [hres]
        clear hres
        (try clear h7)
        (try clear h5)
        (try clear h4)
        (try clear h3)
        (try clear h2)
        (try clear h1)
        (first | (have e8 := Decidable.of_not_not h8; subst e8; clear h8) | clear h8 | skip)
        (first | subst h10 | clear h10 | skip)
        (first | subst h9 | clear h9 | skip)
        (first | subst h6 | clear h6 | skip)
        go_enter Tryd.func9, Tryd.ntmps9
        go_wp2_with (first | (go_at_call 15; (with_reducible refine (own_numbers _ _ _ _ A c l _ (HV.out _)).mono ?_); rintro e w1 ⟨v, rfl, hv, hb⟩; obtain ⟨A1, c1, rfl⟩ := Kd.V_slice hv; have hbx := (hb.block w.heap.size (by simp)).trans (World.alloc_heap_new w (.cells _ 34)); have kb0 := blk_cell hbx 0; have kb1 := blk_cell hbx 1; have kb2 := blk_cell hbx 2; have kb3 := blk_cell hbx 3; have fb0 := blk_frozen hbx 0; have fb1 := blk_frozen hbx 1; have fb2 := blk_frozen hbx 2; have fb3 := blk_frozen hbx 3; have HB := Aside0.mk (below_step (below_alloc (Below.refl _ _) _) hb); have HX := Aside0.mk hbx; have HN := Aside0.mk hv; clear hb hbx hv))
        go_ret
        exact ⟨rfl, by repeat (first | exact HB.out | apply below_alloc | apply pw_below_drewN | apply below_drew1)⟩
      · have d3 : decide ((70 : Int) < ((numsF a0 a1 a2 l).length : Int)) = false := decide_eq_false (by omega)
        by_cases h4 : (numsF a0 a1 a2 l).any isFar = true
        · have d4 : (numsF a0 a1 a2 l).any isFar = true := h4
          have hres : checkF a0 a1 a2 l = 2 := by unfold checkF; rw [if_pos (.inr (.inr (.inr h4)))]
          rw [hres]
          clear hres
          (try clear h7)
          (try clear h5)
          (try clear h4)
          (try clear h3)
          (try clear h2)
          (try clear h1)
          (first | (have e8 := Decidable.of_not_not h8; subst e8; clear h8) | clear h8 | skip)
          (first | subst h10 | clear h10 | skip)
          (first | subst h9 | clear h9 | skip)
          (first | subst h6 | clear h6 | skip)
          go_enter Tryd.func9, Tryd.ntmps9
          go_wp2_with (first | (go_at_call 15; (with_reducible refine (own_numbers _ _ _ _ A c l _ (HV.out _)).mono ?_); rintro e w1 ⟨v, rfl, hv, hb⟩; obtain ⟨A1, c1, rfl⟩ := Kd.V_slice hv; have hbx := (hb.block w.heap.size (by simp)).trans (World.alloc_heap_new w (.cells _ 34)); have kb0 := blk_cell hbx 0; have kb1 := blk_cell hbx 1; have kb2 := blk_cell hbx 2; have kb3 := blk_cell hbx 3; have fb0 := blk_frozen hbx 0; have fb1 := blk_frozen hbx 1; have fb2 := blk_frozen hbx 2; have fb3 := blk_frozen hbx 3; have HB := Aside0.mk (below_step (below_alloc (Below.refl _ _) _) hb); have HX := Aside0.mk hbx; have HN := Aside0.mk hv; clear hb hbx hv) | (go_at_call 22; (with_reducible refine (own_containsB A1 c1 _ _ d4 (Kd.V_C22 HN.out).2 (Kd.V_C22 HN.out).1).mono ?_); rintro e w2 ⟨rfl, hb⟩; have hbx := (hb.block w.heap.size (blk_lt HX.out)).trans HX.out; clear kb0 kb1 kb2 kb3 fb0 fb1 fb2 fb3; have kb0 := blk_cell hbx 0; have kb1 := blk_cell hbx 1; have kb2 := blk_cell hbx 2; have kb3 := blk_cell hbx 3; have fb0 := blk_frozen hbx 0; have fb1 := blk_frozen hbx 1; have fb2 := blk_frozen hbx 2; have fb3 := blk_frozen hbx 3; have n0_ := Aside0.mk (below_step HB.out hb); have n1_ := Aside0.mk hbx; clear HB HX hb hbx; have HB := n0_; have HX := n1_; clear n0_ n1_; skip))
          go_ret
          exact ⟨rfl, by repeat (first | exact HB.out | apply below_alloc | apply pw_below_drewN | apply below_drew1)⟩
        · have d4 : (numsF a0 a1 a2 l).any isFar = false := Bool.eq_false_iff.mpr h4
          by_cases h5 : 0 < l.length
          · have d5 : decide ((0 : Int) < (l.length : Int)) = true := decide_eq_true (by omega); have d5b : decide (0 < l.length) = true := decide_eq_true h5
            by_cases h6 : a0 = 2
            · have d6 : (a0 == 2) = true := beq_iff_eq.mpr h6; have d6b : (a0 != 2) = false := bne_eq_false_iff_eq.mpr h6
              by_cases h7 : a2 = 0 ∨ a0 = 1
              · have d7 : (decide (a2 = 0) || decide (a0 = 1)) = true := by rcases h7 with h | h <;> simp [h]
                by_cases h8 : a1 ≠ 0
                · have d8 : (a1 == 0) = false := beq_eq_false_iff_ne.mpr h8; have d8b : (a1 != 0) = true := bne_iff_ne.mpr h8
                  have h9 := h6
                  have hres : checkF a0 a1 a2 l = 2 := by unfold checkF; rw [if_neg (fun h => h.elim h1 (fun h => h.elim h2 (fun h => h.elim h3 h4))), if_neg (fun h => h.elim (fun h => h.2 h6) (fun h => h h7)), if_pos ⟨h8, .inl h9⟩]
                  rw [hres]
                  clear hres
                  (try clear h7)
                  (try clear h5)
                  (try clear h4)
                  (try clear h3)
                  (try clear h2)
                  (try clear h1)
                  (first | (have e8 := Decidable.of_not_not h8; subst e8; clear h8) | clear h8 | skip)
                  (first | subst h10 | clear h10 | skip)
                  (first | subst h9 | clear h9 | skip)
                  (first | subst h6 | clear h6 | skip)
                  go_enter Tryd.func9, Tryd.ntmps9
                  go_wp2_with (first | (go_at_call 15; (with_reducible refine (own_numbers _ _ _ _ A c l _ (HV.out _)).mono ?_); rintro e w1 ⟨v, rfl, hv, hb⟩; obtain ⟨A1, c1, rfl⟩ := Kd.V_slice hv; have hbx := (hb.block w.heap.size (by simp)).trans (World.alloc_heap_new w (.cells _ 34)); have kb0 := blk_cell hbx 0; have kb1 := blk_cell hbx 1; have kb2 := blk_cell hbx 2; have kb3 := blk_cell hbx 3; have fb0 := blk_frozen hbx 0; have fb1 := blk_frozen hbx 1; have fb2 := blk_frozen hbx 2; have fb3 := blk_frozen hbx 3; have HB := Aside0.mk (below_step (below_alloc (Below.refl _ _) _) hb); have HX := Aside0.mk hbx; have HN := Aside0.mk hv; clear hb hbx hv) | (go_at_call 22; (with_reducible refine (own_containsB A1 c1 _ _ d4 (Kd.V_C22 HN.out).2 (Kd.V_C22 HN.out).1).mono ?_); rintro e w2 ⟨rfl, hb⟩; have hbx := (hb.block w.heap.size (blk_lt HX.out)).trans HX.out; clear kb0 kb1 kb2 kb3 fb0 fb1 fb2 fb3; have kb0 := blk_cell hbx 0; have kb1 := blk_cell hbx 1; have kb2 := blk_cell hbx 2; have kb3 := blk_cell hbx 3; have fb0 := blk_frozen hbx 0; have fb1 := blk_frozen hbx 1; have fb2 := blk_frozen hbx 2; have fb3 := blk_frozen hbx 3; have n0_ := Aside0.mk (below_step HB.out hb); have n1_ := Aside0.mk hbx; clear HB HX hb hbx; have HB := n0_; have HX := n1_; clear n0_ n1_; skip) | (go_at_call 21; (with_reducible refine (own_saidB _ w.heap.size _ _ _ _ _ d7 HX.out).mono ?_); rintro e w3 ⟨rfl, hb⟩; have hbx := (hb.block w.heap.size (blk_lt HX.out)).trans HX.out; clear kb0 kb1 kb2 kb3 fb0 fb1 fb2 fb3; have kb0 := blk_cell hbx 0; have kb1 := blk_cell hbx 1; have kb2 := blk_cell hbx 2; have kb3 := blk_cell hbx 3; have fb0 := blk_frozen hbx 0; have fb1 := blk_frozen hbx 1; have fb2 := blk_frozen hbx 2; have fb3 := blk_frozen hbx 3; have n0_ := Aside0.mk (below_step HB.out hb); have n1_ := Aside0.mk hbx; clear HB HX hb hbx; have HB := n0_; have HX := n1_; clear n0_ n1_; skip))
                  go_ret
                  exact ⟨rfl, by repeat (first | exact HB.out | apply below_alloc | apply pw_below_drewN | apply below_drew1)⟩
                · have d8 : (a1 == 0) = true := beq_iff_eq.mpr (Decidable.of_not_not h8); have d8b : (a1 != 0) = false := bne_eq_false_iff_eq.mpr (Decidable.of_not_not h8)
                  have hres : checkF a0 a1 a2 l = 0 := by unfold checkF; rw [if_neg (fun h => h.elim h1 (fun h => h.elim h2 (fun h => h.elim h3 h4))), if_neg (fun h => h.elim (fun h => h.2 h6) (fun h => h h7)), if_neg (fun h => h8 h.1)]
                  rw [hres]
                  clear hres
                  (try clear h7)
                  (try clear h5)
                  (try clear h4)
                  (try clear h3)
                  (try clear h2)
                  (try clear h1)
                  (first | (have e8 := Decidable.of_not_not h8; subst e8; clear h8) | clear h8 | skip)
                  (first | subst h10 | clear h10 | skip)
                  (first | subst h9 | clear h9 | skip)
                  (first | subst h6 | clear h6 | skip)
                  go_enter Tryd.func9, Tryd.ntmps9
                  go_wp2_with (first | (go_at_call 15; (with_reducible refine (own_numbers _ _ _ _ A c l _ (HV.out _)).mono ?_); rintro e w1 ⟨v, rfl, hv, hb⟩; obtain ⟨A1, c1, rfl⟩ := Kd.V_slice hv; have hbx := (hb.block w.heap.size (by simp)).trans (World.alloc_heap_new w (.cells _ 34)); have kb0 := blk_cell hbx 0; have kb1 := blk_cell hbx 1; have kb2 := blk_cell hbx 2; have kb3 := blk_cell hbx 3; have fb0 := blk_frozen hbx 0; have fb1 := blk_frozen hbx 1; have fb2 := blk_frozen hbx 2; have fb3 := blk_frozen hbx 3; have HB := Aside0.mk (below_step (below_alloc (Below.refl _ _) _) hb); have HX := Aside0.mk hbx; have HN := Aside0.mk hv; clear hb hbx hv) | (go_at_call 22; (with_reducible refine (own_containsB A1 c1 _ _ d4 (Kd.V_C22 HN.out).2 (Kd.V_C22 HN.out).1).mono ?_); rintro e w2 ⟨rfl, hb⟩; have hbx := (hb.block w.heap.size (blk_lt HX.out)).trans HX.out; clear kb0 kb1 kb2 kb3 fb0 fb1 fb2 fb3; have kb0 := blk_cell hbx 0; have kb1 := blk_cell hbx 1; have kb2 := blk_cell hbx 2; have kb3 := blk_cell hbx 3; have fb0 := blk_frozen hbx 0; have fb1 := blk_frozen hbx 1; have fb2 := blk_frozen hbx 2; have fb3 := blk_frozen hbx 3; have n0_ := Aside0.mk (below_step HB.out hb); have n1_ := Aside0.mk hbx; clear HB HX hb hbx; have HB := n0_; have HX := n1_; clear n0_ n1_; skip) | (go_at_call 21; (with_reducible refine (own_saidB _ w.heap.size _ _ _ _ _ d7 HX.out).mono ?_); rintro e w3 ⟨rfl, hb⟩; have hbx := (hb.block w.heap.size (blk_lt HX.out)).trans HX.out; clear kb0 kb1 kb2 kb3 fb0 fb1 fb2 fb3; have kb0 := blk_cell hbx 0; have kb1 := blk_cell hbx 1; have kb2 := blk_cell hbx 2; have kb3 := blk_cell hbx 3; have fb0 := blk_frozen hbx 0; have fb1 := blk_frozen hbx 1; have fb2 := blk_frozen hbx 2; have fb3 := blk_frozen hbx 3; have n0_ := Aside0.mk (below_step HB.out hb); have n1_ := Aside0.mk hbx; clear HB HX hb hbx; have HB := n0_; have HX := n1_; clear n0_ n1_; skip))
                  go_ret
                  exact ⟨rfl, by repeat (first | exact HB.out | apply below_alloc | apply pw_below_drewN | apply below_drew1)⟩
              · have d7 : (decide (a2 = 0) || decide (a0 = 1)) = false := by simpa [not_or] using h7
                have hres : checkF a0 a1 a2 l = 2 := by unfold checkF; rw [if_neg (fun h => h.elim h1 (fun h => h.elim h2 (fun h => h.elim h3 h4))), if_pos (.inr h7)]
                rw [hres]
                clear hres
                (try clear h7)
                (try clear h5)
                (try clear h4)
                (try clear h3)
                (try clear h2)
                (try clear h1)
                (first | (have e8 := Decidable.of_not_not h8; subst e8; clear h8) | clear h8 | skip)
                (first | subst h10 | clear h10 | skip)
                (first | subst h9 | clear h9 | skip)
                (first | subst h6 | clear h6 | skip)
                go_enter Tryd.func9, Tryd.ntmps9
                go_wp2_with (first | (go_at_call 15; (with_reducible refine (own_numbers _ _ _ _ A c l _ (HV.out _)).mono ?_); rintro e w1 ⟨v, rfl, hv, hb⟩; obtain ⟨A1, c1, rfl⟩ := Kd.V_slice hv; have hbx := (hb.block w.heap.size (by simp)).trans (World.alloc_heap_new w (.cells _ 34)); have kb0 := blk_cell hbx 0; have kb1 := blk_cell hbx 1; have kb2 := blk_cell hbx 2; have kb3 := blk_cell hbx 3; have fb0 := blk_frozen hbx 0; have fb1 := blk_frozen hbx 1; have fb2 := blk_frozen hbx 2; have fb3 := blk_frozen hbx 3; have HB := Aside0.mk (below_step (below_alloc (Below.refl _ _) _) hb); have HX := Aside0.mk hbx; have HN := Aside0.mk hv; clear hb hbx hv) | (go_at_call 22; (with_reducible refine (own_containsB A1 c1 _ _ d4 (Kd.V_C22 HN.out).2 (Kd.V_C22 HN.out).1).mono ?_); rintro e w2 ⟨rfl, hb⟩; have hbx := (hb.block w.heap.size (blk_lt HX.out)).trans HX.out; clear kb0 kb1 kb2 kb3 fb0 fb1 fb2 fb3; have kb0 := blk_cell hbx 0; have kb1 := blk_cell hbx 1; have kb2 := blk_cell hbx 2; have kb3 := blk_cell hbx 3; have fb0 := blk_frozen hbx 0; have fb1 := blk_frozen hbx 1; have fb2 := blk_frozen hbx 2; have fb3 := blk_frozen hbx 3; have n0_ := Aside0.mk (below_step HB.out hb); have n1_ := Aside0.mk hbx; clear HB HX hb hbx; have HB := n0_; have HX := n1_; clear n0_ n1_; skip) | (go_at_call 21; (with_reducible refine (own_saidB _ w.heap.size _ _ _ _ _ d7 HX.out).mono ?_); rintro e w3 ⟨rfl, hb⟩; have hbx := (hb.block w.heap.size (blk_lt HX.out)).trans HX.out; clear kb0 kb1 kb2 kb3 fb0 fb1 fb2 fb3; have kb0 := blk_cell hbx 0; have kb1 := blk_cell hbx 1; have kb2 := blk_cell hbx 2; have kb3 := blk_cell hbx 3; have fb0 := blk_frozen hbx 0; have fb1 := blk_frozen hbx 1; have fb2 := blk_frozen hbx 2; have fb3 := blk_frozen hbx 3; have n0_ := Aside0.mk (below_step HB.out hb); have n1_ := Aside0.mk hbx; clear HB HX hb hbx; have HB := n0_; have HX := n1_; clear n0_ n1_; skip))
                go_ret
                exact ⟨rfl, by repeat (first | exact HB.out | apply below_alloc | apply pw_below_drewN | apply below_drew1)⟩
            · have d6 : (a0 == 2) = false := beq_eq_false_iff_ne.mpr h6; have d6b : (a0 != 2) = true := bne_iff_ne.mpr h6
              have hres : checkF a0 a1 a2 l = 2 := by unfold checkF; rw [if_neg (fun h => h.elim h1 (fun h => h.elim h2 (fun h => h.elim h3 h4))), if_pos (.inl ⟨h5, h6⟩)]
              rw [hres]
              clear hres
              (try clear h7)
              (try clear h5)
              (try clear h4)
              (try clear h3)
              (try clear h2)
              (try clear h1)
              (first | (have e8 := Decidable.of_not_not h8; subst e8; clear h8) | clear h8 | skip)
              (first | subst h10 | clear h10 | skip)
              (first | subst h9 | clear h9 | skip)
              (first | subst h6 | clear h6 | skip)
              go_enter Tryd.func9, Tryd.ntmps9
              go_wp2_with (first | (go_at_call 15; (with_reducible refine (own_numbers _ _ _ _ A c l _ (HV.out _)).mono ?_); rintro e w1 ⟨v, rfl, hv, hb⟩; obtain ⟨A1, c1, rfl⟩ := Kd.V_slice hv; have hbx := (hb.block w.heap.size (by simp)).trans (World.alloc_heap_new w (.cells _ 34)); have kb0 := blk_cell hbx 0; have kb1 := blk_cell hbx 1; have kb2 := blk_cell hbx 2; have kb3 := blk_cell hbx 3; have fb0 := blk_frozen hbx 0; have fb1 := blk_frozen hbx 1; have fb2 := blk_frozen hbx 2; have fb3 := blk_frozen hbx 3; have HB := Aside0.mk (below_step (below_alloc (Below.refl _ _) _) hb); have HX := Aside0.mk hbx; have HN := Aside0.mk hv; clear hb hbx hv) | (go_at_call 22; (with_reducible refine (own_containsB A1 c1 _ _ d4 (Kd.V_C22 HN.out).2 (Kd.V_C22 HN.out).1).mono ?_); rintro e w2 ⟨rfl, hb⟩; have hbx := (hb.block w.heap.size (blk_lt HX.out)).trans HX.out; clear kb0 kb1 kb2 kb3 fb0 fb1 fb2 fb3; have kb0 := blk_cell hbx 0; have kb1 := blk_cell hbx 1; have kb2 := blk_cell hbx 2; have kb3 := blk_cell hbx 3; have fb0 := blk_frozen hbx 0; have fb1 := blk_frozen hbx 1; have fb2 := blk_frozen hbx 2; have fb3 := blk_frozen hbx 3; have n0_ := Aside0.mk (below_step HB.out hb); have n1_ := Aside0.mk hbx; clear HB HX hb hbx; have HB := n0_; have HX := n1_; clear n0_ n1_; skip) | (go_at_call 21; (with_reducible refine (own_saidB _ w.heap.size _ _ _ _ _ d4 HX.out).mono ?_); rintro e w3 ⟨rfl, hb⟩; have hbx := (hb.block w.heap.size (blk_lt HX.out)).trans HX.out; clear kb0 kb1 kb2 kb3 fb0 fb1 fb2 fb3; have kb0 := blk_cell hbx 0; have kb1 := blk_cell hbx 1; have kb2 := blk_cell hbx 2; have kb3 := blk_cell hbx 3; have fb0 := blk_frozen hbx 0; have fb1 := blk_frozen hbx 1; have fb2 := blk_frozen hbx 2; have fb3 := blk_frozen hbx 3; have n0_ := Aside0.mk (below_step HB.out hb); have n1_ := Aside0.mk hbx; clear HB HX hb hbx; have HB := n0_; have HX := n1_; clear n0_ n1_; skip))
              go_ret
              exact ⟨rfl, by repeat (first | exact HB.out | apply below_alloc | apply pw_below_drewN | apply below_drew1)⟩
          · have d5 : decide ((0 : Int) < (l.length : Int)) = false := decide_eq_false (by omega); have d5b : decide (0 < l.length) = false := decide_eq_false h5
            by_cases h7 : a2 = 0 ∨ a0 = 1
            · have d7 : (decide (a2 = 0) || decide (a0 = 1)) = true := by rcases h7 with h | h <;> simp [h]
              by_cases h8 : a1 ≠ 0
              · have d8 : (a1 == 0) = false := beq_eq_false_iff_ne.mpr h8; have d8b : (a1 != 0) = true := bne_iff_ne.mpr h8
                by_cases h9 : a0 = 2
                · have d9 : (a0 == 2) = true := beq_iff_eq.mpr h9
                  have hres : checkF a0 a1 a2 l = 2 := by unfold checkF; rw [if_neg (fun h => h.elim h1 (fun h => h.elim h2 (fun h => h.elim h3 h4))), if_neg (fun h => h.elim (fun h => h5 h.1) (fun h => h h7)), if_pos ⟨h8, .inl h9⟩]
                  rw [hres]
                  clear hres
                  (try clear h7)
                  (try clear h5)
                  (try clear h4)
                  (try clear h3)
                  (try clear h2)
                  (try clear h1)
                  (first | (have e8 := Decidable.of_not_not h8; subst e8; clear h8) | clear h8 | skip)
                  (first | subst h10 | clear h10 | skip)
                  (first | subst h9 | clear h9 | skip)
                  (first | subst h6 | clear h6 | skip)
                  go_enter Tryd.func9, Tryd.ntmps9
                  go_wp2_with (first | (go_at_call 15; (with_reducible refine (own_numbers _ _ _ _ A c l _ (HV.out _)).mono ?_); rintro e w1 ⟨v, rfl, hv, hb⟩; obtain ⟨A1, c1, rfl⟩ := Kd.V_slice hv; have hbx := (hb.block w.heap.size (by simp)).trans (World.alloc_heap_new w (.cells _ 34)); have kb0 := blk_cell hbx 0; have kb1 := blk_cell hbx 1; have kb2 := blk_cell hbx 2; have kb3 := blk_cell hbx 3; have fb0 := blk_frozen hbx 0; have fb1 := blk_frozen hbx 1; have fb2 := blk_frozen hbx 2; have fb3 := blk_frozen hbx 3; have HB := Aside0.mk (below_step (below_alloc (Below.refl _ _) _) hb); have HX := Aside0.mk hbx; have HN := Aside0.mk hv; clear hb hbx hv) | (go_at_call 22; (with_reducible refine (own_containsB A1 c1 _ _ d4 (Kd.V_C22 HN.out).2 (Kd.V_C22 HN.out).1).mono ?_); rintro e w2 ⟨rfl, hb⟩; have hbx := (hb.block w.heap.size (blk_lt HX.out)).trans HX.out; clear kb0 kb1 kb2 kb3 fb0 fb1 fb2 fb3; have kb0 := blk_cell hbx 0; have kb1 := blk_cell hbx 1; have kb2 := blk_cell hbx 2; have kb3 := blk_cell hbx 3; have fb0 := blk_frozen hbx 0; have fb1 := blk_frozen hbx 1; have fb2 := blk_frozen hbx 2; have fb3 := blk_frozen hbx 3; have n0_ := Aside0.mk (below_step HB.out hb); have n1_ := Aside0.mk hbx; clear HB HX hb hbx; have HB := n0_; have HX := n1_; clear n0_ n1_; skip) | (go_at_call 21; (with_reducible refine (own_saidB _ w.heap.size _ _ _ _ _ d7 HX.out).mono ?_); rintro e w3 ⟨rfl, hb⟩; have hbx := (hb.block w.heap.size (blk_lt HX.out)).trans HX.out; clear kb0 kb1 kb2 kb3 fb0 fb1 fb2 fb3; have kb0 := blk_cell hbx 0; have kb1 := blk_cell hbx 1; have kb2 := blk_cell hbx 2; have kb3 := blk_cell hbx 3; have fb0 := blk_frozen hbx 0; have fb1 := blk_frozen hbx 1; have fb2 := blk_frozen hbx 2; have fb3 := blk_frozen hbx 3; have n0_ := Aside0.mk (below_step HB.out hb); have n1_ := Aside0.mk hbx; clear HB HX hb hbx; have HB := n0_; have HX := n1_; clear n0_ n1_; skip))
                  go_ret
                  exact ⟨rfl, by repeat (first | exact HB.out | apply below_alloc | apply pw_below_drewN | apply below_drew1)⟩
                · have d9 : (a0 == 2) = false := beq_eq_false_iff_ne.mpr h9
                  by_cases h10 : a0 = 3
                  · have d10 : (a0 == 3) = true := beq_iff_eq.mpr h10
                    have hres : checkF a0 a1 a2 l = 2 := by unfold checkF; rw [if_neg (fun h => h.elim h1 (fun h => h.elim h2 (fun h => h.elim h3 h4))), if_neg (fun h => h.elim (fun h => h5 h.1) (fun h => h h7)), if_pos ⟨h8, .inr h10⟩]
                    rw [hres]
                    clear hres
                    (try clear h7)
                    (try clear h5)
                    (try clear h4)
                    (try clear h3)
                    (try clear h2)
                    (try clear h1)
                    (first | (have e8 := Decidable.of_not_not h8; subst e8; clear h8) | clear h8 | skip)
                    (first | subst h10 | clear h10 | skip)
                    (first | subst h9 | clear h9 | skip)
                    (first | subst h6 | clear h6 | skip)
                    go_enter Tryd.func9, Tryd.ntmps9
                    go_wp2_with (first | (go_at_call 15; (with_reducible refine (own_numbers _ _ _ _ A c l _ (HV.out _)).mono ?_); rintro e w1 ⟨v, rfl, hv, hb⟩; obtain ⟨A1, c1, rfl⟩ := Kd.V_slice hv; have hbx := (hb.block w.heap.size (by simp)).trans (World.alloc_heap_new w (.cells _ 34)); have kb0 := blk_cell hbx 0; have kb1 := blk_cell hbx 1; have kb2 := blk_cell hbx 2; have kb3 := blk_cell hbx 3; have fb0 := blk_frozen hbx 0; have fb1 := blk_frozen hbx 1; have fb2 := blk_frozen hbx 2; have fb3 := blk_frozen hbx 3; have HB := Aside0.mk (below_step (below_alloc (Below.refl _ _) _) hb); have HX := Aside0.mk hbx; have HN := Aside0.mk hv; clear hb hbx hv) | (go_at_call 22; (with_reducible refine (own_containsB A1 c1 _ _ d4 (Kd.V_C22 HN.out).2 (Kd.V_C22 HN.out).1).mono ?_); rintro e w2 ⟨rfl, hb⟩; have hbx := (hb.block w.heap.size (blk_lt HX.out)).trans HX.out; clear kb0 kb1 kb2 kb3 fb0 fb1 fb2 fb3; have kb0 := blk_cell hbx 0; have kb1 := blk_cell hbx 1; have kb2 := blk_cell hbx 2; have kb3 := blk_cell hbx 3; have fb0 := blk_frozen hbx 0; have fb1 := blk_frozen hbx 1; have fb2 := blk_frozen hbx 2; have fb3 := blk_frozen hbx 3; have n0_ := Aside0.mk (below_step HB.out hb); have n1_ := Aside0.mk hbx; clear HB HX hb hbx; have HB := n0_; have HX := n1_; clear n0_ n1_; skip) | (go_at_call 21; (with_reducible refine (own_saidB _ w.heap.size _ _ _ _ _ d7 HX.out).mono ?_); rintro e w3 ⟨rfl, hb⟩; have hbx := (hb.block w.heap.size (blk_lt HX.out)).trans HX.out; clear kb0 kb1 kb2 kb3 fb0 fb1 fb2 fb3; have kb0 := blk_cell hbx 0; have kb1 := blk_cell hbx 1; have kb2 := blk_cell hbx 2; have kb3 := blk_cell hbx 3; have fb0 := blk_frozen hbx 0; have fb1 := blk_frozen hbx 1; have fb2 := blk_frozen hbx 2; have fb3 := blk_frozen hbx 3; have n0_ := Aside0.mk (below_step HB.out hb); have n1_ := Aside0.mk hbx; clear HB HX hb hbx; have HB := n0_; have HX := n1_; clear n0_ n1_; skip))
                    go_ret
                    exact ⟨rfl, by repeat (first | exact HB.out | apply below_alloc | apply pw_below_drewN | apply below_drew1)⟩
                  · have d10 : (a0 == 3) = false := beq_eq_false_iff_ne.mpr h10
                    have hres : checkF a0 a1 a2 l = 0 := by unfold checkF; rw [if_neg (fun h => h.elim h1 (fun h => h.elim h2 (fun h => h.elim h3 h4))), if_neg (fun h => h.elim (fun h => h5 h.1) (fun h => h h7)), if_neg (fun h => h.2.elim h9 h10)]
                    rw [hres]
                    clear hres
                    (try clear h7)
                    (try clear h5)
                    (try clear h4)
                    (try clear h3)
                    (try clear h2)
                    (try clear h1)
                    (first | (have e8 := Decidable.of_not_not h8; subst e8; clear h8) | clear h8 | skip)
                    (first | subst h10 | clear h10 | skip)
                    (first | subst h9 | clear h9 | skip)
                    (first | subst h6 | clear h6 | skip)
                    go_enter Tryd.func9, Tryd.ntmps9
                    go_wp2_with (first | (go_at_call 15; (with_reducible refine (own_numbers _ _ _ _ A c l _ (HV.out _)).mono ?_); rintro e w1 ⟨v, rfl, hv, hb⟩; obtain ⟨A1, c1, rfl⟩ := Kd.V_slice hv; have hbx := (hb.block w.heap.size (by simp)).trans (World.alloc_heap_new w (.cells _ 34)); have kb0 := blk_cell hbx 0; have kb1 := blk_cell hbx 1; have kb2 := blk_cell hbx 2; have kb3 := blk_cell hbx 3; have fb0 := blk_frozen hbx 0; have fb1 := blk_frozen hbx 1; have fb2 := blk_frozen hbx 2; have fb3 := blk_frozen hbx 3; have HB := Aside0.mk (below_step (below_alloc (Below.refl _ _) _) hb); have HX := Aside0.mk hbx; have HN := Aside0.mk hv; clear hb hbx hv) | (go_at_call 22; (with_reducible refine (own_containsB A1 c1 _ _ d4 (Kd.V_C22 HN.out).2 (Kd.V_C22 HN.out).1).mono ?_); rintro e w2 ⟨rfl, hb⟩; have hbx := (hb.block w.heap.size (blk_lt HX.out)).trans HX.out; clear kb0 kb1 kb2 kb3 fb0 fb1 fb2 fb3; have kb0 := blk_cell hbx 0; have kb1 := blk_cell hbx 1; have kb2 := blk_cell hbx 2; have kb3 := blk_cell hbx 3; have fb0 := blk_frozen hbx 0; have fb1 := blk_frozen hbx 1; have fb2 := blk_frozen hbx 2; have fb3 := blk_frozen hbx 3; have n0_ := Aside0.mk (below_step HB.out hb); have n1_ := Aside0.mk hbx; clear HB HX hb hbx; have HB := n0_; have HX := n1_; clear n0_ n1_; skip) | (go_at_call 21; (with_reducible refine (own_saidB _ w.heap.size _ _ _ _ _ d7 HX.out).mono ?_); rintro e w3 ⟨rfl, hb⟩; have hbx := (hb.block w.heap.size (blk_lt HX.out)).trans HX.out; clear kb0 kb1 kb2 kb3 fb0 fb1 fb2 fb3; have kb0 := blk_cell hbx 0; have kb1 := blk_cell hbx 1; have kb2 := blk_cell hbx 2; have kb3 := blk_cell hbx 3; have fb0 := blk_frozen hbx 0; have fb1 := blk_frozen hbx 1; have fb2 := blk_frozen hbx 2; have fb3 := blk_frozen hbx 3; have n0_ := Aside0.mk (below_step HB.out hb); have n1_ := Aside0.mk hbx; clear HB HX hb hbx; have HB := n0_; have HX := n1_; clear n0_ n1_; skip))
                    go_ret
                    exact ⟨rfl, by repeat (first | exact HB.out | apply below_alloc | apply pw_below_drewN | apply below_drew1)⟩
              · have d8 : (a1 == 0) = true := beq_iff_eq.mpr (Decidable.of_not_not h8); have d8b : (a1 != 0) = false := bne_eq_false_iff_eq.mpr (Decidable.of_not_not h8)
                have hres : checkF a0 a1 a2 l = 0 := by unfold checkF; rw [if_neg (fun h => h.elim h1 (fun h => h.elim h2 (fun h => h.elim h3 h4))), if_neg (fun h => h.elim (fun h => h5 h.1) (fun h => h h7)), if_neg (fun h => h8 h.1)]
                rw [hres]
                clear hres
                (try clear h7)
                (try clear h5)
                (try clear h4)
                (try clear h3)
                (try clear h2)
                (try clear h1)
                (first | (have e8 := Decidable.of_not_not h8; subst e8; clear h8) | clear h8 | skip)
                (first | subst h10 | clear h10 | skip)
                (first | subst h9 | clear h9 | skip)
                (first | subst h6 | clear h6 | skip)
                go_enter Tryd.func9, Tryd.ntmps9
                go_wp2_with (first | (go_at_call 15; (with_reducible refine (own_numbers _ _ _ _ A c l _ (HV.out _)).mono ?_); rintro e w1 ⟨v, rfl, hv, hb⟩; obtain ⟨A1, c1, rfl⟩ := Kd.V_slice hv; have hbx := (hb.block w.heap.size (by simp)).trans (World.alloc_heap_new w (.cells _ 34)); have kb0 := blk_cell hbx 0; have kb1 := blk_cell hbx 1; have kb2 := blk_cell hbx 2; have kb3 := blk_cell hbx 3; have fb0 := blk_frozen hbx 0; have fb1 := blk_frozen hbx 1; have fb2 := blk_frozen hbx 2; have fb3 := blk_frozen hbx 3; have HB := Aside0.mk (below_step (below_alloc (Below.refl _ _) _) hb); have HX := Aside0.mk hbx; have HN := Aside0.mk hv; clear hb hbx hv) | (go_at_call 22; (with_reducible refine (own_containsB A1 c1 _ _ d4 (Kd.V_C22 HN.out).2 (Kd.V_C22 HN.out).1).mono ?_); rintro e w2 ⟨rfl, hb⟩; have hbx := (hb.block w.heap.size (blk_lt HX.out)).trans HX.out; clear kb0 kb1 kb2 kb3 fb0 fb1 fb2 fb3; have kb0 := blk_cell hbx 0; have kb1 := blk_cell hbx 1; have kb2 := blk_cell hbx 2; have kb3 := blk_cell hbx 3; have fb0 := blk_frozen hbx 0; have fb1 := blk_frozen hbx 1; have fb2 := blk_frozen hbx 2; have fb3 := blk_frozen hbx 3; have n0_ := Aside0.mk (below_step HB.out hb); have n1_ := Aside0.mk hbx; clear HB HX hb hbx; have HB := n0_; have HX := n1_; clear n0_ n1_; skip) | (go_at_call 21; (with_reducible refine (own_saidB _ w.heap.size _ _ _ _ _ d7 HX.out).mono ?_); rintro e w3 ⟨rfl, hb⟩; have hbx := (hb.block w.heap.size (blk_lt HX.out)).trans HX.out; clear kb0 kb1 kb2 kb3 fb0 fb1 fb2 fb3; have kb0 := blk_cell hbx 0; have kb1 := blk_cell hbx 1; have kb2 := blk_cell hbx 2; have kb3 := blk_cell hbx 3; have fb0 := blk_frozen hbx 0; have fb1 := blk_frozen hbx 1; have fb2 := blk_frozen hbx 2; have fb3 := blk_frozen hbx 3; have n0_ := Aside0.mk (below_step HB.out hb); have n1_ := Aside0.mk hbx; clear HB HX hb hbx; have HB := n0_; have HX := n1_; clear n0_ n1_; skip))
                go_ret
                exact ⟨rfl, by repeat (first | exact HB.out | apply below_alloc | apply pw_below_drewN | apply below_drew1)⟩
            · have d7 : (decide (a2 = 0) || decide (a0 = 1)) = false := by simpa [not_or] using h7
              have hres : checkF a0 a1 a2 l = 2 := by unfold checkF; rw [if_neg (fun h => h.elim h1 (fun h => h.elim h2 (fun h => h.elim h3 h4))), if_pos (.inr h7)]
              rw [hres]
              clear hres
              (try clear h7)
              (try clear h5)
              (try clear h4)
              (try clear h3)
              (try clear h2)
              (try clear h1)
              (first | (have e8 := Decidable.of_not_not h8; subst e8; clear h8) | clear h8 | skip)
              (first | subst h10 | clear h10 | skip)
              (first | subst h9 | clear h9 | skip)
              (first | subst h6 | clear h6 | skip)
              go_enter Tryd.func9, Tryd.ntmps9
              go_wp2_with (first | (go_at_call 15; (with_reducible refine (own_numbers _ _ _ _ A c l _ (HV.out _)).mono ?_); rintro e w1 ⟨v, rfl, hv, hb⟩; obtain ⟨A1, c1, rfl⟩ := Kd.V_slice hv; have hbx := (hb.block w.heap.size (by simp)).trans (World.alloc_heap_new w (.cells _ 34)); have kb0 := blk_cell hbx 0; have kb1 := blk_cell hbx 1; have kb2 := blk_cell hbx 2; have kb3 := blk_cell hbx 3; have fb0 := blk_frozen hbx 0; have fb1 := blk_frozen hbx 1; have fb2 := blk_frozen hbx 2; have fb3 := blk_frozen hbx 3; have HB := Aside0.mk (below_step (below_alloc (Below.refl _ _) _) hb); have HX := Aside0.mk hbx; have HN := Aside0.mk hv; clear hb hbx hv) | (go_at_call 22; (with_reducible refine (own_containsB A1 c1 _ _ d4 (Kd.V_C22 HN.out).2 (Kd.V_C22 HN.out).1).mono ?_); rintro e w2 ⟨rfl, hb⟩; have hbx := (hb.block w.heap.size (blk_lt HX.out)).trans HX.out; clear kb0 kb1 kb2 kb3 fb0 fb1 fb2 fb3; have kb0 := blk_cell hbx 0; have kb1 := blk_cell hbx 1; have kb2 := blk_cell hbx 2; have kb3 := blk_cell hbx 3; have fb0 := blk_frozen hbx 0; have fb1 := blk_frozen hbx 1; have fb2 := blk_frozen hbx 2; have fb3 := blk_frozen hbx 3; have n0_ := Aside0.mk (below_step HB.out hb); have n1_ := Aside0.mk hbx; clear HB HX hb hbx; have HB := n0_; have HX := n1_; clear n0_ n1_; skip) | (go_at_call 21; (with_reducible refine (own_saidB _ w.heap.size _ _ _ _ _ d7 HX.out).mono ?_); rintro e w3 ⟨rfl, hb⟩; have hbx := (hb.block w.heap.size (blk_lt HX.out)).trans HX.out; clear kb0 kb1 kb2 kb3 fb0 fb1 fb2 fb3; have kb0 := blk_cell hbx 0; have kb1 := blk_cell hbx 1; have kb2 := blk_cell hbx 2; have kb3 := blk_cell hbx 3; have fb0 := blk_frozen hbx 0; have fb1 := blk_frozen hbx 1; have fb2 := blk_frozen hbx 2; have fb3 := blk_frozen hbx 3; have n0_ := Aside0.mk (below_step HB.out hb); have n1_ := Aside0.mk hbx; clear HB HX hb hbx; have HB := n0_; have HX := n1_; clear n0_ n1_; skip))
              go_ret
              exact ⟨rfl, by repeat (first | exact HB.out | apply below_alloc | apply pw_below_drewN | apply below_drew1)⟩
def scene_Check.f (a0_0 : Int) (a0_1 : Int) (a0_2 : Int) (l0_3 : List Int) : Option (Int) := some (checkF a0_0 a0_1 a0_2 l0_3)
theorem scene_Check.calls (a0_0 : Int) (a0_1 : Int) (a0_2 : Int) (A0_3 : Option Addr) (c0_3 : Nat) (l0_3 : List Int) (r : Int) (w : World) (hr0_3 : Kd.C (Kd.int .i64) w A0_3 l0_3.length l0_3) (hc0_3 : l0_3.length ≤ c0_3) (h : scene_Check.f a0_0 a0_1 a0_2 l0_3 = some r) :
    Calls Tryd.prog 9 #[.agg #[.int .i64 a0_0, .int .i64 a0_1, .int .i64 a0_2, .slice A0_3 l0_3.length c0_3]] w fun e w' => e = .returned (.int .i64 r) ∧ Below w.heap.size w w' := by
  obtain rfl := Option.some.inj h
  exact own_Check a0_0 a0_1 a0_2 A0_3 c0_3 l0_3 w hr0_3 hc0_3

/-! ### scene_word: function 14 -/
def scene_word.f (a0 : Int) : Option (ByteArray) := if a0 = 1 then (some (⟨#[116, 105, 99, 107]⟩ : ByteArray)) else (if a0 = 2 then (some (⟨#[99, 114, 97, 115, 104]⟩ : ByteArray)) else (if a0 = 3 then (some (⟨#[111, 112, 101, 110]⟩ : ByteArray)) else (if a0 = 4 then (some (⟨#[97, 114, 109]⟩ : ByteArray)) else (some (⟨#[103, 114, 111, 119]⟩ : ByteArray)))))
set_option maxHeartbeats 8000000 in
set_option maxRecDepth 100000 in
theorem scene_word.calls (a0 : Int) (r : ByteArray) (w : World) (h : scene_word.f a0 = some r) :
    Calls Tryd.prog 14 #[.int .i64 a0] w fun e w' => e = .returned (.string r) ∧ Drawn0 w w' := by
  have H : (if a0 = 1 then (some (⟨#[116, 105, 99, 107]⟩ : ByteArray)) else (if a0 = 2 then (some (⟨#[99, 114, 97, 115, 104]⟩ : ByteArray)) else (if a0 = 3 then (some (⟨#[111, 112, 101, 110]⟩ : ByteArray)) else (if a0 = 4 then (some (⟨#[97, 114, 109]⟩ : ByteArray)) else (some (⟨#[103, 114, 111, 119]⟩ : ByteArray)))))) = some r := h
  clear h
  by_cases c2 : a0 = 1
  · rw [if_pos c2] at H
    have c2b0 : (a0 == 1) = true := beq_iff_eq.mpr c2
    have c2b1 : (a0 != 1) = false := bne_eq_false_iff_eq.mpr c2
    clear c2
    obtain rfl := Option.some.inj H
    go_enter Tryd.func14, Tryd.ntmps14
    go_wp2
    go_ret
    exact ⟨by first | rfl | (simp; done) | (simp [*]; done), by repeat (first | exact Drawn0.refl _ | apply Drawn0.step)⟩
  · rw [if_neg c2] at H
    have c2b0 : (a0 == 1) = false := beq_eq_false_iff_ne.mpr c2
    have c2b1 : (a0 != 1) = true := bne_iff_ne.mpr c2
    by_cases c3 : a0 = 2
    · rw [if_pos c3] at H
      have c3b0 : (a0 == 2) = true := beq_iff_eq.mpr c3
      have c3b1 : (a0 != 2) = false := bne_eq_false_iff_eq.mpr c3
      clear c3
      obtain rfl := Option.some.inj H
      go_enter Tryd.func14, Tryd.ntmps14
      go_wp2
      go_ret
      exact ⟨by first | rfl | (simp; done) | (simp [*]; done), by repeat (first | exact Drawn0.refl _ | apply Drawn0.step)⟩
    · rw [if_neg c3] at H
      have c3b0 : (a0 == 2) = false := beq_eq_false_iff_ne.mpr c3
      have c3b1 : (a0 != 2) = true := bne_iff_ne.mpr c3
      by_cases c4 : a0 = 3
      · rw [if_pos c4] at H
        have c4b0 : (a0 == 3) = true := beq_iff_eq.mpr c4
        have c4b1 : (a0 != 3) = false := bne_eq_false_iff_eq.mpr c4
        clear c4
        obtain rfl := Option.some.inj H
        go_enter Tryd.func14, Tryd.ntmps14
        go_wp2
        go_ret
        exact ⟨by first | rfl | (simp; done) | (simp [*]; done), by repeat (first | exact Drawn0.refl _ | apply Drawn0.step)⟩
      · rw [if_neg c4] at H
        have c4b0 : (a0 == 3) = false := beq_eq_false_iff_ne.mpr c4
        have c4b1 : (a0 != 3) = true := bne_iff_ne.mpr c4
        by_cases c5 : a0 = 4
        · rw [if_pos c5] at H
          have c5b0 : (a0 == 4) = true := beq_iff_eq.mpr c5
          have c5b1 : (a0 != 4) = false := bne_eq_false_iff_eq.mpr c5
          clear c5
          obtain rfl := Option.some.inj H
          go_enter Tryd.func14, Tryd.ntmps14
          go_wp2
          go_ret
          exact ⟨by first | rfl | (simp; done) | (simp [*]; done), by repeat (first | exact Drawn0.refl _ | apply Drawn0.step)⟩
        · rw [if_neg c5] at H
          have c5b0 : (a0 == 4) = false := beq_eq_false_iff_ne.mpr c5
          have c5b1 : (a0 != 4) = true := bne_iff_ne.mpr c5
          obtain rfl := Option.some.inj H
          go_enter Tryd.func14, Tryd.ntmps14
          go_wp2
          go_ret
          exact ⟨by first | rfl | (simp; done) | (simp [*]; done), by repeat (first | exact Drawn0.refl _ | apply Drawn0.step)⟩

/-! ### strconv_Itoa: function 16 -/
/-- The library's table of powers of ten reads as its text lays it. -/
def TabOk (w : World) : Prop := Lib.TabIs Tryd.prog w (Rows.scenePrintsRow.named.getD 0 default) .u64 Lib.pow10Tab
theorem TabOk.below {w w1 : World} (h : TabOk w) (hb : Below w.heap.size w w1) : TabOk w1 := by
  unfold TabOk Lib.TabIs World.var? at h ⊢
  obtain ⟨g, hg, h⟩ := Option.bind_eq_some_iff.1 h
  rw [hg, Option.bind_some]
  have hlt : g < w.heap.size := by
    refine Decidable.of_not_not fun hn => ?_
    rw [Array.getElem?_eq_none (by omega)] at h
    cases h
  rw [hb.block g hlt]
  exact h
/-- A number's text, by the library. -/
def itoaB (n : Int) : ByteArray := ⟨(Lib.itoa n).toArray⟩
def numI (n : Int) : Bool := decide (-9223372036854775808 ≤ n) && decide (n ≤ 9223372036854775807)
def strconv_Itoa.f (a0 : Int) : Option (ByteArray) := if numI a0 = true then some (itoaB a0) else none
theorem below_grow (w : World) (k : Nat) (os : Array Obj) : Below w.heap.size w (Sort.grow (w.drewN k) os) :=
  ⟨rfl, rfl, rfl, by show w.heap.size ≤ (w.heap ++ os).size; rw [Array.size_append]; omega, fun _ hj => Sort.heap_grow_old (w.drewN k) os hj⟩
theorem strconv_Itoa.calls (a0 : Int) (r : ByteArray) (w : World) (hT : TabOk w) (h : strconv_Itoa.f a0 = some r) :
    Calls Tryd.prog 16 #[.int .i64 a0] w fun e w' => e = .returned (.string r) ∧ Below w.heap.size w w' := by
  unfold strconv_Itoa.f at h
  by_cases hn : numI a0 = true
  · rw [if_pos hn] at h
    unfold numI at hn
    simp only [Bool.and_eq_true, decide_eq_true_eq] at hn
    obtain rfl := Option.some.inj h
    refine (Any.strconv_Itoa Tryd.laysM171 a0 hn.1 hn.2 w hT).mono ?_
    rintro e w' ⟨rfl, k, os, rfl⟩
    exact ⟨rfl, below_grow _ _ _⟩
  · rw [if_neg hn] at h
    exact absurd h (by simp)


/-! ### strings_Join: function 17 -/
/-- A call of Join: the elements, one behind the other. -/
def joinB (l : List ByteArray) (sep : ByteArray) : ByteArray := ⟨(Lib.join (l.map (·.data.toList)) sep.data.toList).toArray⟩
def strings_Join.f (l0 : List ByteArray) (a1 : ByteArray) : Option (ByteArray) := if (joinB l0 a1).size ≤ 140737488355328 ∧ l0.length ≤ 140737488355328 then some (joinB l0 a1) else none
theorem strings_Join.calls (A0 : Option Addr) (c0 : Nat) (l0 : List ByteArray) (a1 : ByteArray) (r : ByteArray) (w : World) (hr0 : Kd.C Kd.string w A0 l0.length l0) (hc0 : l0.length ≤ c0) (h : strings_Join.f l0 a1 = some r) :
    Calls Tryd.prog 17 #[.slice A0 l0.length c0, .string a1] w fun e w' => e = .returned (.string r) ∧ Below w.heap.size w w' := by
  unfold strings_Join.f at h
  by_cases hn : (joinB l0 a1).size ≤ 140737488355328 ∧ l0.length ≤ 140737488355328
  · rw [if_pos hn] at h
    obtain rfl := Option.some.inj h
    cases l0 with
    | nil =>
      refine (Tryd.strings_Join_none A0 c0 a1 w).mono ?_
      rintro e w' ⟨rfl, rfl⟩
      exact ⟨rfl, Below.refl _ _⟩
    | cons x l =>
      obtain ⟨ad, rfl, hx⟩ := Kd.at_string hr0 0 (by omega) (by simp)
      obtain ⟨b, o, rfl, hlt⟩ : ∃ b o, ad = ⟨b, o, none⟩ ∧ b < w.heap.size := by
        obtain ⟨b, o, sp⟩ := ad
        have hx1 : w.cell? ⟨b, o, sp⟩ = some (.string (rdOf ByteArray.empty (x :: l) 0)) := hx
        unfold World.cell? at hx1
        cases hb : w.heap[b]? with
        | none => simp only [hb] at hx1; exact absurd hx1 (by simp)
        | some ob =>
          have hlt := (Array.getElem?_eq_some_iff.1 hb).1
          cases sp with
          | none => exact ⟨b, o, rfl, hlt⟩
          | some k =>
            simp only [hb] at hx1
            cases ob <;> simp at hx1
      have hcells : ∀ (j : Nat) y, (x :: l)[j]? = some y → w.cell? ⟨b, o + j, none⟩ = some (.string y) := by
        intro j y hy
        obtain ⟨hj, hjy⟩ := List.getElem?_eq_some_iff.1 hy
        obtain ⟨ad2, e2, hx2⟩ := Kd.at_string hr0 (j : Int) (by omega) (by omega)
        obtain rfl := Option.some.inj e2
        rw [Int.toNat_natCast, add_at] at hx2
        rw [hx2]
        congr 2
        unfold rdOf
        rw [Int.toNat_natCast, List.getD_eq_getElem?_getD, hy]
        rfl
      refine (Tryd.strings_Join b o c0 (x :: l) a1 w hcells hlt hn.2 hc0 ?_).mono ?_
      · have := hn.1
        unfold joinB at this
        simpa [ByteArray.size] using this
      · rintro e w' ⟨rfl, hb⟩
        exact ⟨rfl, hb⟩
  · rw [if_neg hn] at h
    exact absurd h (by simp)

/-! ### scene_Print: function 7 -/
mutual
def scene_Print.l0 : Nat → List ByteArray → List (S34) → Int → Int → Option (ByteArray × Int)
  | 0, _, _, _, _ => none
  | k + 1, x4, x13, x14, x15 => if x15 < x14 then (if 0 ≤ x15 then (if x15 < (x13.length : Int) then ((scene_Check.f ((rd_T34 x13 x15).f0) ((rd_T34 x13 x15).f1) ((rd_T34 x13 x15).f2) ((rd_T34 x13 x15).f3)).bind fun t146 => (if t146 = 0 then ((scene_word.f ((rd_T34 x13 x15).f0)).bind fun t147 => (if x4.length < 8796093022208 then ((scene_numbers.f ((rd_T34 x13 x15).f0) ((rd_T34 x13 x15).f1) ((rd_T34 x13 x15).f2) ((rd_T34 x13 x15).f3)).bind fun t151 => (scene_Print.l1 k (x4 ++ [t147]) x13 x14 x15 t151 (t151.length : Int) 0)) else (none))) else (some ((⟨#[]⟩ : ByteArray), t146)))) else (none)) else (none)) else ((strings_Join.f x4 (⟨#[]⟩ : ByteArray)).bind fun t143 => (some (t143, 0)))
def scene_Print.l1 : Nat → List ByteArray → List (S34) → Int → Int → List Int → Int → Int → Option (ByteArray × Int)
  | 0, _, _, _, _, _, _, _ => none
  | k + 1, x4, x13, x14, x15, x31, x32, x33 => if x33 < x32 then (if 0 ≤ x33 then (if x33 < (x31.length : Int) then ((strconv_Itoa.f (rd x31 x33)).bind fun t155 => ((some (([(⟨#[32]⟩ : ByteArray), t155] : List ByteArray) : List ByteArray)).bind fun y156 => (if x4.length + y156.length < 8796093022208 then (scene_Print.l1 k (x4 ++ y156) x13 x14 x15 x31 x32 (wrap64 (x33 + 1))) else (none)))) else (none)) else (none)) else (if x4.length < 8796093022208 then (scene_Print.l0 k (x4 ++ [(⟨#[32, 59, 10]⟩ : ByteArray)]) x13 x14 (wrap64 (x15 + 1))) else (none))
end
def scene_Print.f (k : Nat) (l0 : List (S34)) : Option (ByteArray × Int) := if (l0.length : Int) > 1000 then (some ((⟨#[]⟩ : ByteArray), 5)) else (scene_Print.l0 k ([] : List ByteArray) l0 (l0.length : Int) 0)
theorem scene_Print.mono_l : ∀ k, (∀ y0 y1 y2 y3, LeO (scene_Print.l0 k y0 y1 y2 y3) (scene_Print.l0 (k + 1) y0 y1 y2 y3)) ∧ (∀ y0 y1 y2 y3 y4 y5 y6, LeO (scene_Print.l1 k y0 y1 y2 y3 y4 y5 y6) (scene_Print.l1 (k + 1) y0 y1 y2 y3 y4 y5 y6))
  | 0 => ⟨fun _ _ _ _ r h => by simp [scene_Print.l0] at h, fun _ _ _ _ _ _ _ r h => by simp [scene_Print.l1] at h⟩
  | k + 1 => by
    obtain ⟨ih0, ih1⟩ := scene_Print.mono_l k
    refine ⟨?_, ?_⟩
    · intro y0 y1 y2 y3
      unfold scene_Print.l0
      repeat' first
      | (with_reducible exact ih0 _ _ _ _)
      | (with_reducible exact ih1 _ _ _ _ _ _ _)
      | (with_reducible exact LeO.refl _)
      | (with_reducible exact LeO.none _)
      | (with_reducible refine LeO.ite ?_ ?_)
      | (with_reducible refine LeO.bind ?_ (fun _ => ?_))
      | exact ih0 _ _ _ _
      | exact ih1 _ _ _ _ _ _ _
      | exact LeO.none _
      | refine LeO.ite ?_ ?_
      | refine LeO.bind ?_ (fun _ => ?_)
    · intro y0 y1 y2 y3 y4 y5 y6
      unfold scene_Print.l1
      repeat' first
      | (with_reducible exact ih0 _ _ _ _)
      | (with_reducible exact ih1 _ _ _ _ _ _ _)
      | (with_reducible exact LeO.refl _)
      | (with_reducible exact LeO.none _)
      | (with_reducible refine LeO.ite ?_ ?_)
      | (with_reducible refine LeO.bind ?_ (fun _ => ?_))
      | exact ih0 _ _ _ _
      | exact ih1 _ _ _ _ _ _ _
      | exact LeO.none _
      | refine LeO.ite ?_ ?_
      | refine LeO.bind ?_ (fun _ => ?_)
theorem scene_Print.mono : ∀ a0 k, LeO (scene_Print.f k a0) (scene_Print.f (k + 1) a0) := by
  intro a0 k
  obtain ⟨ih0, ih1⟩ := scene_Print.mono_l k
  unfold scene_Print.f
  repeat' first
      | (with_reducible exact ih0 _ _ _ _)
      | (with_reducible exact ih1 _ _ _ _ _ _ _)
      | (with_reducible exact LeO.refl _)
      | (with_reducible exact LeO.none _)
      | (with_reducible refine LeO.ite ?_ ?_)
      | (with_reducible refine LeO.bind ?_ (fun _ => ?_))
      | exact ih0 _ _ _ _
      | exact ih1 _ _ _ _ _ _ _
      | exact LeO.none _
      | refine LeO.ite ?_ ?_
      | refine LeO.bind ?_ (fun _ => ?_)
set_option maxHeartbeats 8000000 in
set_option maxRecDepth 100000 in
theorem scene_Print.calls (k : Nat) (A0 : Option Addr) (c0 : Nat) (l0 : List (S34)) (r1 : ByteArray) (r2 : Int) (w : World) (hr0 : Kd.C k34 w A0 l0.length l0) (hc0 : l0.length ≤ c0) (hT : TabOk w) (h : scene_Print.f k l0 = some (r1, r2)) :
    Calls Tryd.prog 7 #[.slice A0 l0.length c0] w fun e w' => e = .returned (.tuple #[.string r1, .int .i64 r2]) ∧ Below w.heap.size w w' := by
  have hu34 := Tryd.underlying34
  have HR0 := Aside0.mk hr0
  have HC0 := Aside0.mk hc0
  clear hr0 hc0
  have HT := Aside0.mk hT
  clear hT
  have HB := Aside0.mk (Below.refl w.heap.size w)
  have H : (if (l0.length : Int) > 1000 then (some ((⟨#[]⟩ : ByteArray), 5)) else (scene_Print.l0 k ([] : List ByteArray) l0 (l0.length : Int) 0)) = some (r1, r2) := h
  clear h
  by_cases c2 : (l0.length : Int) > 1000
  · rw [if_pos c2] at H
    have c2b0 : decide (1000 < (l0.length : Int)) = true := decide_eq_true c2
    have c2b1 : decide (1000 < l0.length) = true := decide_eq_true (by omega)
    clear c2
    simp only [Option.some.injEq, Prod.mk.injEq] at H
    obtain ⟨rfl, rfl⟩ := H
    go_enter Tryd.func7, Tryd.ntmps7
    go_wp2
    go_ret2
    exact ⟨by first | rfl | (simp [errW_none, errW_some] <;> rfl) | (simp [*, errW_none, errW_some] <;> rfl), by repeat (first | (with_reducible first | exact HB.out | apply below_alloc | apply pw_below_drewN | apply below_drew1) | exact HB.out)⟩
  · rw [if_neg c2] at H
    have c2b0 : decide (1000 < (l0.length : Int)) = false := decide_eq_false c2
    have c2b1 : decide (1000 < l0.length) = false := decide_eq_false (by omega)
    clear c2
    have H' := Aside0.mk H
    clear H
    go_enter Tryd.func7, Tryd.ntmps7
    go_wp2
    go_loopg [4, 15] k (fun kq v4 v15 w' => ∃ (x4_1 : List ByteArray) (x15_1 : Int), v15 = .int .i64 x15_1 ∧ Aside0 (scene_Print.l0 kq x4_1 l0 (l0.length : Int) x15_1 = some (r1, r2)) ∧ Aside0 (kq ≤ k) ∧ Aside0 (Kd.R Kd.string 9 w' w.heap.size (fun _ => True) v4 x4_1) ∧ Aside0 (Below w.heap.size w w'))
    case atStart => exact ⟨(([] : List ByteArray)), (0), (by first | rfl | (simp; done) | (simp [*]; done)), H', ⟨Nat.le_refl _⟩, ⟨by first | exact Kd.R_nil _ _ _ _ _ | exact Kd.N_nil _ _ _ _ _ | exact Kd.V_nil _ _ _ _ _ | exact Kd.Q_nil _ _ _ _ _ | exact Kd.S_nil _ _ _ _ _⟩, ⟨by repeat (first | (with_reducible first | exact HB.out | apply below_alloc | apply pw_below_drewN | apply below_drew1) | exact HB.out)⟩⟩
    case round =>
      clear H'
      try clear c2
      try clear c2b0
      try clear c2b1
      try clear p2
      obtain ⟨x4_1, x15_1, rfl, HA, HK1, HO_4, HB⟩ := hrel
      cases gk with
      | zero => exact absurd HA.out (by simp [scene_Print.l0])
      | succ k1 =>
        have H := HA.out
        clear HA
        simp only [scene_Print.l0] at H
        by_cases c3 : x15_1 < (l0.length : Int)
        · rw [if_pos c3] at H
          have c3b0 : decide (x15_1 < (l0.length : Int)) = true := decide_eq_true c3
          clear c3
          by_cases c4 : 0 ≤ x15_1
          · rw [if_pos c4] at H
            have c4b0 : decide (0 ≤ x15_1) = true := decide_eq_true c4
            clear c4
            by_cases c5 : x15_1 < (l0.length : Int)
            · rw [if_pos c5] at H
              have c5b0 : decide (x15_1 < (l0.length : Int)) = true := decide_eq_true c5
              clear c5
              replace H := Option.bind_eq_some_iff.mp H
              obtain ⟨t146, A60, H⟩ := H
              replace H : (if t146 = 0 then ((scene_word.f ((rd_T34 l0 x15_1).f0)).bind fun t147 => (if x4_1.length < 8796093022208 then ((scene_numbers.f ((rd_T34 l0 x15_1).f0) ((rd_T34 l0 x15_1).f1) ((rd_T34 l0 x15_1).f2) ((rd_T34 l0 x15_1).f3)).bind fun t151 => (scene_Print.l1 k1 (x4_1 ++ [t147]) l0 (l0.length : Int) x15_1 t151 (t151.length : Int) 0)) else (none))) else (some ((⟨#[]⟩ : ByteArray), t146))) = some (r1, r2) := H
              have A6 := Aside0.mk A60
              clear A60
              by_cases c7 : t146 = 0
              · rw [if_pos c7] at H
                have c7b0 : (t146 == 0) = true := beq_iff_eq.mpr c7
                have c7b1 : (t146 != 0) = false := bne_eq_false_iff_eq.mpr c7
                clear c7
                replace H := Option.bind_eq_some_iff.mp H
                obtain ⟨t147, A80, H⟩ := H
                replace H : (if x4_1.length < 8796093022208 then ((scene_numbers.f ((rd_T34 l0 x15_1).f0) ((rd_T34 l0 x15_1).f1) ((rd_T34 l0 x15_1).f2) ((rd_T34 l0 x15_1).f3)).bind fun t151 => (scene_Print.l1 k1 (x4_1 ++ [t147]) l0 (l0.length : Int) x15_1 t151 (t151.length : Int) 0)) else (none)) = some (r1, r2) := H
                have A8 := Aside0.mk A80
                clear A80
                by_cases c9 : x4_1.length < 8796093022208
                · rw [if_pos c9] at H
                  have LMc9 := Aside0.mk c9
                  clear c9
                  obtain ⟨y148, hy148⟩ : ∃ y_ : List ByteArray, y_ = (x4_1 ++ [t147]) := ⟨_, rfl⟩
                  replace H : ((scene_numbers.f ((rd_T34 l0 x15_1).f0) ((rd_T34 l0 x15_1).f1) ((rd_T34 l0 x15_1).f2) ((rd_T34 l0 x15_1).f3)).bind fun t151 => (scene_Print.l1 k1 y148 l0 (l0.length : Int) x15_1 t151 (t151.length : Int) 0)) = some (r1, r2) := by first | (rw [hy148]; with_reducible exact H) | (have H2_ := (Option.bind_some _ _).symm.trans H; rw [hy148]; with_reducible exact H2_) | (have H2_ := (Option.bind_some _ _).symm.trans H; with_reducible exact H2_) | with_reducible exact H | (rw [hy148]; exact H) | exact H
                  have Ny148 := Aside0.mk hy148
                  clear hy148
                  replace H := Option.bind_eq_some_iff.mp H
                  obtain ⟨t151, A100, H⟩ := H
                  replace H : (scene_Print.l1 k1 y148 l0 (l0.length : Int) x15_1 t151 (t151.length : Int) 0) = some (r1, r2) := H
                  have A10 := Aside0.mk A100
                  clear A100
                  have H' := Aside0.mk H
                  clear H
                  have p144 : 0 ≤ (x15_1 : Int) := of_decide_eq_true (by first | (with_reducible assumption) | assumption)
                  have q144 : x15_1 < (l0.length : Int) := of_decide_eq_true (by first | (with_reducible assumption) | assumption)
                  obtain ⟨ad144, A144_3, c144_3, e144, hx144_0, hx144_1, hx144_2, hx144_3, hl144_3, hi144_3⟩ := at_T34 HR0.out x15_1 p144 q144
                  cases e144
                  replace hx144_0 := (HB.out.cell (World.block_lt_of_cell? w _ hx144_0)).trans hx144_0
                  replace hx144_1 := (HB.out.cell (World.block_lt_of_cell? w _ hx144_1)).trans hx144_1
                  replace hx144_2 := (HB.out.cell (World.block_lt_of_cell? w _ hx144_2)).trans hx144_2
                  replace hx144_3 := (HB.out.cell (World.block_lt_of_cell? w _ hx144_3)).trans hx144_3
                  have HR144_3 := Aside0.mk hi144_3
                  have HC144_3 := Aside0.mk hl144_3
                  clear hi144_3 hl144_3
                  replace p144 := eq_true p144
                  replace q144 := eq_true q144
                  go_wp2_with (first | ((with_reducible refine gate_dst (N := 6) rfl ?_); refine box_event ?hg (N := 6) ?hd (cs := #[.int .i64 0, .int .i64 0, .int .i64 0, .slice none 0 0]) (t := 34) ?hr ?_; (case hd => rfl); (case hg => rfl); (case hr => first | (go_simp; done) | (go_simp; rfl) | (simp only [pf_or128]; go_simp; done) | (simp only [pf_or128]; go_simp; rfl)); intro gb145 hg w11 hbox hb; have n0_ := Aside0.mk (Kd.R_below (by (with_reducible repeat (first | apply Kd.R_alloc | apply Kd.R_drewN | apply Kd.R_drew)); exact HO_4.out) hb); have n1_ := Aside0.mk (below_step (by repeat (first | (with_reducible first | exact HB.out | apply below_alloc | apply pw_below_drewN | apply below_drew1) | exact HB.out)) hb); have n2_ := Aside0.mk (hbox); have n3_ := Aside0.mk ((by rw [hg]; exact (below_size (by repeat (first | (with_reducible first | exact HB.out | apply below_alloc | apply pw_below_drewN | apply below_drew1) | exact HB.out))) : w.heap.size ≤ gb145)); have n4_ := Aside0.mk ((by rw [hg]; exact (below_size (by repeat (first | (with_reducible first | exact HB.out | apply below_alloc | apply pw_below_drewN | apply below_drew1) | exact HB.out))) : w.heap.size ≤ gb145)); clear HO_4; clear HB; have HO_4 := n0_; have HB := n1_; have BK145 := n2_; have GW145 := n3_; have GE145 := n4_; clear n0_ n1_ n2_ n3_ n4_; clear hb hbox hg; have hcz12_0 : w11.cell? ⟨gb145, 0, none⟩ = some (.int .i64 0) := (blk_cell BK145.out 0).trans rfl; have hcz12_1 : w11.cell? ⟨gb145, 1, none⟩ = some (.int .i64 0) := (blk_cell BK145.out 1).trans rfl; have hcz12_2 : w11.cell? ⟨gb145, 2, none⟩ = some (.int .i64 0) := (blk_cell BK145.out 2).trans rfl; have hcz12_3 : w11.cell? ⟨gb145, 3, none⟩ = some (.slice none 0 0) := (blk_cell BK145.out 3).trans rfl; have hfz12_0 := blk_frozen BK145.out 0; have hfz12_1 := blk_frozen BK145.out 1; have hfz12_2 := blk_frozen BK145.out 2; have hfz12_3 := blk_frozen BK145.out 3) | ((with_reducible refine gate_callee (f := 9) rfl ?_); refine goesL_ (some 20) rfl rfl Tryd.func9 (by kernel_rfl) rfl #[.agg #[.int .i64 ((rd_T34 l0 x15_1).f0), .int .i64 ((rd_T34 l0 x15_1).f1), .int .i64 ((rd_T34 l0 x15_1).f2), .slice A144_3 ((rd_T34 l0 x15_1).f3).length c144_3]] rfl (by (try simp only [List.map_toArray, List.map_cons, List.map_nil]); first | done | rfl | (simp only [List.length_drop, List.length_take]; rfl)) ?_; (with_reducible refine (scene_Check.calls ((rd_T34 l0 x15_1).f0) ((rd_T34 l0 x15_1).f1) ((rd_T34 l0 x15_1).f2) _ _ ((rd_T34 l0 x15_1).f3) t146 _ ?side1 ?side2 A6.out).mono ?_); (case side1 => exact Kd.C_below HR144_3.out (by repeat (first | (with_reducible first | exact HB.out | apply below_alloc | apply pw_below_drewN | apply below_drew1 | refine below_set ?_ GE145.out) | exact HB.out))); (case side2 => exact HC144_3.out); rintro e w13 ⟨rfl, hb⟩; refine ⟨_, rfl, ?_⟩; have n0_ := Aside0.mk (Kd.R_below (by (with_reducible repeat (first | apply Kd.R_alloc | apply Kd.R_drewN | apply Kd.R_drew)); exact (Kd.R_mono (Kd.R_far (p := ⟨gb145, 3, none⟩) (Kd.R_far (p := ⟨gb145, 2, none⟩) (Kd.R_far (p := ⟨gb145, 1, none⟩) (Kd.R_far (p := ⟨gb145, 0, none⟩) (Kd.R_types HO_4.out BK145.out (by decide)) (fun _ hk => hk.2) (.int .i64 ((rd_T34 l0 x15_1).f0))) (fun _ hk => hk.2) (.int .i64 ((rd_T34 l0 x15_1).f1))) (fun _ hk => hk.2) (.int .i64 ((rd_T34 l0 x15_1).f2))) (fun _ hk => hk.2) (.slice A144_3 ((rd_T34 l0 x15_1).f3).length c144_3)) (fun _ h_ => h_.1))) hb); have n1_ := Aside0.mk (blk_below (g := gb145) (o := .cells #[.int .i64 ((rd_T34 l0 x15_1).f0), .int .i64 ((rd_T34 l0 x15_1).f1), .int .i64 ((rd_T34 l0 x15_1).f2), .slice A144_3 ((rd_T34 l0 x15_1).f3).length c144_3] 34 (0, 0)) (by (with_reducible repeat (first | refine blk_drewN ?_ _ | refine blk_drew ?_ | refine blk_alloc ?_ _)); refine blk_put (cs := #[.int .i64 ((rd_T34 l0 x15_1).f0), .int .i64 ((rd_T34 l0 x15_1).f1), .int .i64 ((rd_T34 l0 x15_1).f2), .slice none 0 0]) ?_ 3 _ rfl; (with_reducible repeat (first | refine blk_drewN ?_ _ | refine blk_drew ?_ | refine blk_alloc ?_ _)); refine blk_put (cs := #[.int .i64 ((rd_T34 l0 x15_1).f0), .int .i64 ((rd_T34 l0 x15_1).f1), .int .i64 0, .slice none 0 0]) ?_ 2 _ rfl; (with_reducible repeat (first | refine blk_drewN ?_ _ | refine blk_drew ?_ | refine blk_alloc ?_ _)); refine blk_put (cs := #[.int .i64 ((rd_T34 l0 x15_1).f0), .int .i64 0, .int .i64 0, .slice none 0 0]) ?_ 1 _ rfl; (with_reducible repeat (first | refine blk_drewN ?_ _ | refine blk_drew ?_ | refine blk_alloc ?_ _)); refine blk_put (cs := #[.int .i64 0, .int .i64 0, .int .i64 0, .slice none 0 0]) ?_ 0 _ rfl; (with_reducible repeat (first | refine blk_drewN ?_ _ | refine blk_drew ?_ | refine blk_alloc ?_ _)); exact BK145.out) hb); have n2_ := Aside0.mk (below_step (by repeat (first | (with_reducible first | exact HB.out | apply below_alloc | apply pw_below_drewN | apply below_drew1 | refine below_set ?_ GE145.out) | exact HB.out)) hb); clear HO_4; clear BK145; clear HB; have HO_4 := n0_; have BK145 := n1_; have HB := n2_; clear n0_ n1_ n2_; (try clear hb); (try clear hb2); (try clear hk); (try clear hi); have hcz14_0 : w13.cell? ⟨gb145, 0, none⟩ = some (.int .i64 ((rd_T34 l0 x15_1).f0)) := (blk_cell BK145.out 0).trans rfl; have hcz14_1 : w13.cell? ⟨gb145, 1, none⟩ = some (.int .i64 ((rd_T34 l0 x15_1).f1)) := (blk_cell BK145.out 1).trans rfl; have hcz14_2 : w13.cell? ⟨gb145, 2, none⟩ = some (.int .i64 ((rd_T34 l0 x15_1).f2)) := (blk_cell BK145.out 2).trans rfl; have hcz14_3 : w13.cell? ⟨gb145, 3, none⟩ = some (.slice A144_3 ((rd_T34 l0 x15_1).f3).length c144_3) := (blk_cell BK145.out 3).trans rfl; have hfz14_0 := blk_frozen BK145.out 0; have hfz14_1 := blk_frozen BK145.out 1; have hfz14_2 := blk_frozen BK145.out 2; have hfz14_3 := blk_frozen BK145.out 3) | ((with_reducible refine gate_callee (f := 14) rfl ?_); refine goesL_ (some 27) rfl rfl Tryd.func14 (by kernel_rfl) rfl #[.int .i64 ((rd_T34 l0 x15_1).f0)] rfl (by (try simp only [List.map_toArray, List.map_cons, List.map_nil]); first | done | rfl | (simp only [List.length_drop, List.length_take]; rfl)) ?_; (with_reducible refine (scene_word.calls ((rd_T34 l0 x15_1).f0) t147 _ A8.out).mono ?_); rintro e w' ⟨rfl, ⟨nd, rfl⟩⟩; refine ⟨_, rfl, ?_⟩) | ((with_reducible refine gate_builtin (b := .append) (xs := #[.tmp 24, .tmp 28]) rfl ?_); at_builtin; refine Kd.R_append Kd.string (w0 := w) w.heap.size rfl (.tmp 24) (.tmp 28) 42 9 (.string ⟨#[]⟩) 16 rfl Tryd.underlying42 info9 rfl (by decide) (by omega) u4 x4_1 t147 [.string t147] (fun _ => True) (fun _ => False) rfl rfl ?aP (fun _ hk => hk.elim) ?aF ?aO ?aB ?aS ?aL ?_; (case aP => exact rfl); (case aB => exact (by repeat (first | (with_reducible first | exact HB.out | apply below_alloc | apply pw_below_drewN | apply below_drew1 | refine below_set ?_ GE145.out) | exact HB.out))); (case aF => exact (fun _ _ => trivial)); (case aO => exact (by (with_reducible repeat (first | apply Kd.R_alloc | apply Kd.R_drewN | apply Kd.R_drew)); exact HO_4.out)); (case aS => exact (below_size (by repeat (first | (with_reducible first | exact HB.out | apply below_alloc | apply pw_below_drewN | apply below_drew1 | refine below_set ?_ GE145.out) | exact HB.out)))); (case aL => have := LMc9.out; omega); intro v149 w15 ho hb hg hat; rw [← Ny148.out] at ho; have n0_ := Aside0.mk (blk_grown (g := gb145) (o := .cells #[.int .i64 ((rd_T34 l0 x15_1).f0), .int .i64 ((rd_T34 l0 x15_1).f1), .int .i64 ((rd_T34 l0 x15_1).f2), .slice A144_3 ((rd_T34 l0 x15_1).f3).length c144_3] 34 (0, 0)) (by (with_reducible repeat (first | refine blk_drewN ?_ _ | refine blk_drew ?_ | refine blk_alloc ?_ _)); exact BK145.out) hg (Kd.R_ne HO_4.out BK145.out (by decide))); have n1_ := Aside0.mk (hb); have n2_ := Aside0.mk (ho); clear BK145; clear HB; clear HO_4; have BK145 := n0_; have HB := n1_; have HO150 := n2_; clear n0_ n1_ n2_; clear ho hb hg hat; have hcz16_0 : w15.cell? ⟨gb145, 0, none⟩ = some (.int .i64 ((rd_T34 l0 x15_1).f0)) := (blk_cell BK145.out 0).trans rfl; have hcz16_1 : w15.cell? ⟨gb145, 1, none⟩ = some (.int .i64 ((rd_T34 l0 x15_1).f1)) := (blk_cell BK145.out 1).trans rfl; have hcz16_2 : w15.cell? ⟨gb145, 2, none⟩ = some (.int .i64 ((rd_T34 l0 x15_1).f2)) := (blk_cell BK145.out 2).trans rfl; have hcz16_3 : w15.cell? ⟨gb145, 3, none⟩ = some (.slice A144_3 ((rd_T34 l0 x15_1).f3).length c144_3) := (blk_cell BK145.out 3).trans rfl; have hfz16_0 := blk_frozen BK145.out 0; have hfz16_1 := blk_frozen BK145.out 1; have hfz16_2 := blk_frozen BK145.out 2; have hfz16_3 := blk_frozen BK145.out 3) | ((with_reducible refine gate_callee (f := 15) rfl ?_); refine goesL_ (some 31) rfl rfl Tryd.func15 (by kernel_rfl) rfl #[.agg #[.int .i64 ((rd_T34 l0 x15_1).f0), .int .i64 ((rd_T34 l0 x15_1).f1), .int .i64 ((rd_T34 l0 x15_1).f2), .slice A144_3 ((rd_T34 l0 x15_1).f3).length c144_3]] rfl (by (try simp only [List.map_toArray, List.map_cons, List.map_nil]); first | done | rfl | (simp only [List.length_drop, List.length_take]; rfl)) ?_; (with_reducible refine (scene_numbers.calls ((rd_T34 l0 x15_1).f0) ((rd_T34 l0 x15_1).f1) ((rd_T34 l0 x15_1).f2) (fun k_ => k_ < w.heap.size) _ _ ((rd_T34 l0 x15_1).f3) t151 _ ?side1 A10.out).mono ?_); (case side1 => exact Kd.V_mk HC144_3.out (Kd.F_below (Kd.C_F (Kd.heap_int .i64) HR144_3.out) (by repeat (first | (with_reducible first | exact HB.out | apply below_alloc | apply pw_below_drewN | apply below_drew1 | refine below_set ?_ GE145.out) | exact HB.out)))); rintro e w17 ⟨v152, rfl, ho0, hb⟩; refine ⟨_, rfl, ?_⟩; have n0_ := Aside0.mk (Kd.R_below (by (with_reducible repeat (first | apply Kd.R_alloc | apply Kd.R_drewN | apply Kd.R_drew)); exact HO150.out) hb); have n1_ := Aside0.mk (Kd.V_lower (Kd.V_mono (ok' := fun k_ => some k_ ≠ (v149 : Value).ownBlock ∧ k_ ≠ gb145) ho0 (fun k_ hk_ => ⟨Or.elim hk_ (fun hs_ => fun e_ => Nat.not_le.2 hs_ (Kd.R_base HO150.out k_ e_.symm)) (fun hn_ => (Kd.fresh' (Kd.R_lt (by (with_reducible repeat (first | apply Kd.R_alloc | apply Kd.R_drewN | apply Kd.R_drew)); exact HO150.out)) k_ hn_)), Or.elim hk_ (fun hs_ => fun e_ => Nat.not_le.2 hs_ (by rw [e_]; exact GW145.out)) (fun hn_ => (Kd.freshB (g := gb145) (o := .cells #[.int .i64 ((rd_T34 l0 x15_1).f0), .int .i64 ((rd_T34 l0 x15_1).f1), .int .i64 ((rd_T34 l0 x15_1).f2), .slice A144_3 ((rd_T34 l0 x15_1).f3).length c144_3] 34 (0, 0)) (by (with_reducible repeat (first | refine blk_drewN ?_ _ | refine blk_drew ?_ | refine blk_alloc ?_ _)); exact BK145.out) k_ hn_))⟩)) (below_size (by repeat (first | (with_reducible first | exact HB.out | apply below_alloc | apply pw_below_drewN | apply below_drew1 | refine below_set ?_ GE145.out) | exact HB.out)))); have n2_ := Aside0.mk (blk_below (g := gb145) (o := .cells #[.int .i64 ((rd_T34 l0 x15_1).f0), .int .i64 ((rd_T34 l0 x15_1).f1), .int .i64 ((rd_T34 l0 x15_1).f2), .slice A144_3 ((rd_T34 l0 x15_1).f3).length c144_3] 34 (0, 0)) (by (with_reducible repeat (first | refine blk_drewN ?_ _ | refine blk_drew ?_ | refine blk_alloc ?_ _)); exact BK145.out) hb); have n3_ := Aside0.mk (below_step (by repeat (first | (with_reducible first | exact HB.out | apply below_alloc | apply pw_below_drewN | apply below_drew1 | refine below_set ?_ GE145.out) | exact HB.out)) hb); clear HO150; clear BK145; clear HB; have HO150 := n0_; have HO153 := n1_; have BK145 := n2_; have HB := n3_; clear n0_ n1_ n2_ n3_; (try clear hb); (try clear hb2); (try clear hk); (try clear hi); (try clear ho0); obtain ⟨Ao18, co18, eo18⟩ := Kd.V_slice HO153.out; subst eo18))
                  go_loopg [4, 33] k1 (fun kq v4 v33 w' => ∃ (x4_2 : List ByteArray) (x33_2 : Int), v33 = .int .i64 x33_2 ∧ Aside0 (scene_Print.l1 kq x4_2 l0 (l0.length : Int) x15_1 t151 (t151.length : Int) x33_2 = some (r1, r2)) ∧ Aside0 (kq ≤ k1) ∧ Aside0 (Kd.R Kd.string 9 w' w.heap.size (fun _ => True) v4 x4_2) ∧ Aside0 (Kd.V (Kd.int .i64) 3 w' w.heap.size (fun k_ => some k_ ≠ (v4 : Value).ownBlock ∧ k_ ≠ gb145) (.slice Ao18 t151.length co18) t151) ∧ Aside0 (w'.heap[gb145]? = some (.cells #[.int .i64 ((rd_T34 l0 x15_1).f0), .int .i64 ((rd_T34 l0 x15_1).f1), .int .i64 ((rd_T34 l0 x15_1).f2), (.slice A144_3 ((rd_T34 l0 x15_1).f3).length c144_3)] 34 (0, 0))) ∧ Aside0 (Below w.heap.size w w'))
                  case atStart => exact ⟨(y148), (0), (by first | rfl | (simp; done) | (simp [*]; done)), H', ⟨Nat.le_refl _⟩, ⟨by (with_reducible repeat (first | apply Kd.R_alloc | apply Kd.R_drewN | apply Kd.R_drew)); exact HO150.out⟩, ⟨by (with_reducible repeat (first | apply Kd.V_alloc | apply Kd.V_drewN | apply Kd.V_drew)); exact HO153.out⟩, ⟨by (with_reducible repeat (first | refine blk_drewN ?_ _ | refine blk_drew ?_ | refine blk_alloc ?_ _)); exact BK145.out⟩, ⟨by repeat (first | (with_reducible first | exact HB.out | apply below_alloc | apply pw_below_drewN | apply below_drew1 | refine below_set ?_ GE145.out) | exact HB.out)⟩⟩
                  case round =>
                    clear H'
                    try clear c1
                    try clear p1
                    try clear q1
                    try clear hx1
                    try clear c2
                    try clear c2b0
                    try clear c2b1
                    try clear p2
                    try clear c3
                    try clear c3b0
                    try clear c4
                    try clear c4b0
                    try clear c5
                    try clear c5b0
                    try clear c7
                    try clear c7b0
                    try clear c7b1
                    try clear c9
                    try clear c14
                    try clear p14
                    try clear q14
                    try clear hx14
                    try clear c15
                    try clear hcz12_0
                    try clear hcz12_1
                    try clear hcz12_2
                    try clear hcz12_3
                    try clear hcz14_0
                    try clear hcz14_1
                    try clear hcz14_2
                    try clear hcz14_3
                    try clear hcz16_0
                    try clear hcz16_1
                    try clear hcz16_2
                    try clear hcz16_3
                    try clear hfz12_0
                    try clear hfz12_1
                    try clear hfz12_2
                    try clear hfz12_3
                    try clear hfz14_0
                    try clear hfz14_1
                    try clear hfz14_2
                    try clear hfz14_3
                    try clear hfz16_0
                    try clear hfz16_1
                    try clear hfz16_2
                    try clear hfz16_3
                    try clear hx144_0
                    try clear hx144_1
                    try clear hx144_2
                    try clear hx144_3
                    try clear p144
                    try clear p2
                    try clear q144
                    obtain ⟨x4_2, x33_2, rfl, HA, HK2, HO_4, HO_31, BK145, HB⟩ := hrel
                    cases gk with
                    | zero => exact absurd HA.out (by simp [scene_Print.l1])
                    | succ k2 =>
                      have H := HA.out
                      clear HA
                      simp only [scene_Print.l1] at H
                      by_cases c19 : x33_2 < (t151.length : Int)
                      · rw [if_pos c19] at H
                        have c19b0 : decide (x33_2 < (t151.length : Int)) = true := decide_eq_true c19
                        clear c19
                        by_cases c20 : 0 ≤ x33_2
                        · rw [if_pos c20] at H
                          have c20b0 : decide (0 ≤ x33_2) = true := decide_eq_true c20
                          clear c20
                          by_cases c21 : x33_2 < (t151.length : Int)
                          · rw [if_pos c21] at H
                            have c21b0 : decide (x33_2 < (t151.length : Int)) = true := decide_eq_true c21
                            clear c21
                            replace H := Option.bind_eq_some_iff.mp H
                            obtain ⟨t155, A220, H⟩ := H
                            replace H : ((some (([(⟨#[32]⟩ : ByteArray), t155] : List ByteArray) : List ByteArray)).bind fun y156 => (if x4_2.length + y156.length < 8796093022208 then (scene_Print.l1 k2 (x4_2 ++ y156) l0 (l0.length : Int) x15_1 t151 (t151.length : Int) (wrap64 (x33_2 + 1))) else (none))) = some (r1, r2) := H
                            have A22 := Aside0.mk A220
                            clear A220
                            obtain ⟨y156, hy156⟩ : ∃ y_ : List ByteArray, y_ = (([(⟨#[32]⟩ : ByteArray), t155] : List ByteArray)) := ⟨_, rfl⟩
                            replace H : (if x4_2.length + y156.length < 8796093022208 then (scene_Print.l1 k2 (x4_2 ++ y156) l0 (l0.length : Int) x15_1 t151 (t151.length : Int) (wrap64 (x33_2 + 1))) else (none)) = some (r1, r2) := by first | (rw [hy156]; with_reducible exact H) | (have H2_ := (Option.bind_some _ _).symm.trans H; rw [hy156]; with_reducible exact H2_) | (have H2_ := (Option.bind_some _ _).symm.trans H; with_reducible exact H2_) | with_reducible exact H | (rw [hy156]; exact H) | exact H
                            have Ny156 := Aside0.mk hy156
                            clear hy156
                            by_cases c23 : x4_2.length + y156.length < 8796093022208
                            · rw [if_pos c23] at H
                              have LMc23 := Aside0.mk c23
                              clear c23
                              obtain ⟨y159, hy159⟩ : ∃ y_ : List ByteArray, y_ = (x4_2 ++ y156) := ⟨_, rfl⟩
                              replace H : (scene_Print.l1 k2 y159 l0 (l0.length : Int) x15_1 t151 (t151.length : Int) (wrap64 (x33_2 + 1))) = some (r1, r2) := by first | (rw [hy159]; with_reducible exact H) | (have H2_ := (Option.bind_some _ _).symm.trans H; rw [hy159]; with_reducible exact H2_) | (have H2_ := (Option.bind_some _ _).symm.trans H; with_reducible exact H2_) | with_reducible exact H | (rw [hy159]; exact H) | exact H
                              have Ny159 := Aside0.mk hy159
                              clear hy159
                              have H' := Aside0.mk H
                              clear H
                              have p154 : 0 ≤ (x33_2 : Int) := of_decide_eq_true (by first | (with_reducible assumption) | assumption)
                              have q154 : x33_2 < (t151.length : Int) := of_decide_eq_true (by first | (with_reducible assumption) | assumption)
                              obtain ⟨ad154, e154, hx154_0⟩ := Kd.at_int (Kd.V_reads' HO_31.out).2.2 x33_2 p154 q154
                              cases e154
                              replace p154 := eq_true p154
                              replace q154 := eq_true q154
                              go_wp2_with (first | ((with_reducible refine gate_callee (f := 16) rfl ?_); refine goesL_ (some 39) rfl rfl Tryd.func16 (by kernel_rfl) rfl #[.int .i64 (rd t151 x33_2)] rfl (by (try simp only [List.map_toArray, List.map_cons, List.map_nil]); first | done | rfl | (simp only [List.length_drop, List.length_take]; rfl)) ?_; (with_reducible refine (strconv_Itoa.calls (rd t151 x33_2) t155 _ ?side1 A22.out).mono ?_); (case side1 => exact TabOk.below HT.out (by repeat (first | (with_reducible first | exact HB.out | apply below_alloc | apply pw_below_drewN | apply below_drew1 | refine below_set ?_ GE145.out) | exact HB.out))); rintro e w24 ⟨rfl, hb⟩; refine ⟨_, rfl, ?_⟩; have n0_ := Aside0.mk (Kd.R_below (by (with_reducible repeat (first | apply Kd.R_alloc | apply Kd.R_drewN | apply Kd.R_drew)); exact HO_4.out) hb); have n1_ := Aside0.mk (Kd.V_below (by (with_reducible repeat (first | apply Kd.V_alloc | apply Kd.V_drewN | apply Kd.V_drew)); exact HO_31.out) hb); have n2_ := Aside0.mk (blk_below (g := gb145) (o := .cells #[.int .i64 ((rd_T34 l0 x15_1).f0), .int .i64 ((rd_T34 l0 x15_1).f1), .int .i64 ((rd_T34 l0 x15_1).f2), .slice A144_3 ((rd_T34 l0 x15_1).f3).length c144_3] 34 (0, 0)) (by (with_reducible repeat (first | refine blk_drewN ?_ _ | refine blk_drew ?_ | refine blk_alloc ?_ _)); exact BK145.out) hb); have n3_ := Aside0.mk (below_step (by repeat (first | (with_reducible first | exact HB.out | apply below_alloc | apply pw_below_drewN | apply below_drew1 | refine below_set ?_ GE145.out) | exact HB.out)) hb); clear HO_4; clear HO_31; clear BK145; clear HB; have HO_4 := n0_; have HO_31 := n1_; have BK145 := n2_; have HB := n3_; clear n0_ n1_ n2_ n3_; (try clear hb); (try clear hb2); (try clear hk); (try clear hi)) | ((with_reducible refine gate_dst (N := 40) rfl ?_); refine Kd.R_lit Kd.string _ 9 ?hg (N := 40) ?hd (xs := ([(⟨#[32]⟩ : ByteArray), t155] : List ByteArray)) (inner := [.string (⟨#[32]⟩ : ByteArray), .string t155]) (ok := fun _ => True) (okp := fun _ => True) ?hr ?hp (fun _ hk => hk) trivial (Below.refl _ _) (Nat.le_refl _) (by simp) ?_; (case hd => rfl); (case hg => rfl); (case hr => first | (go_simp; done) | (go_simp; rfl) | (simp only [pf_or128]; go_simp; done) | (simp only [pf_or128]; go_simp; rfl)); (case hp => exact (Reps.one (show Kd.M Kd.string _ _ _ (⟨#[32]⟩ : ByteArray) [.string (⟨#[32]⟩ : ByteArray)] from rfl) (Reps.one (show Kd.M Kd.string _ _ _ t155 [.string t155] from rfl) (Reps.none _ _)))); intro v157 w25 ho26 hb hg_ hnew_; clear hg_ hnew_; (first | rw [← Ny156.out] at ho26 | (simp only [Int.reduceToNat] at ho26; rw [← Ny156.out] at ho26)); have n0_ := Aside0.mk (Kd.R_elder' (by (with_reducible repeat (first | apply Kd.R_alloc | apply Kd.R_drewN | apply Kd.R_drew)); exact HO_4.out) (by first | exact Kd.R_base ho26 | exact Kd.S_base ho26) hb); have n1_ := Aside0.mk (Kd.V_elder' (by (with_reducible repeat (first | apply Kd.V_alloc | apply Kd.V_drewN | apply Kd.V_drew)); exact HO_31.out) (by first | exact Kd.R_base ho26 | exact Kd.S_base ho26) hb); have n2_ := Aside0.mk (Kd.R_lower (Kd.R_new' ho26 (Kd.R_lt (by (with_reducible repeat (first | apply Kd.R_alloc | apply Kd.R_drewN | apply Kd.R_drew)); exact HO_4.out))) (below_size (by repeat (first | (with_reducible first | exact HB.out | apply below_alloc | apply pw_below_drewN | apply below_drew1 | refine below_set ?_ GE145.out) | exact HB.out)))); have n3_ := Aside0.mk (blk_below (g := gb145) (o := .cells #[.int .i64 ((rd_T34 l0 x15_1).f0), .int .i64 ((rd_T34 l0 x15_1).f1), .int .i64 ((rd_T34 l0 x15_1).f2), .slice A144_3 ((rd_T34 l0 x15_1).f3).length c144_3] 34 (0, 0)) (by (with_reducible repeat (first | refine blk_drewN ?_ _ | refine blk_drew ?_ | refine blk_alloc ?_ _)); exact BK145.out) hb); have n4_ := Aside0.mk (below_step (by repeat (first | (with_reducible first | exact HB.out | apply below_alloc | apply pw_below_drewN | apply below_drew1 | refine below_set ?_ GE145.out) | exact HB.out)) hb); clear HO_4; clear HO_31; clear BK145; clear HB; have HO_4 := n0_; have HO_31 := n1_; have HO158 := n2_; have BK145 := n3_; have HB := n4_; clear n0_ n1_ n2_ n3_ n4_; clear hb ho26; obtain ⟨Ao28, co28, eo28⟩ := Kd.R_slice HO158.out; subst eo28) | ((with_reducible refine gate_builtin (b := .append) (xs := #[.tmp 37, .tmp 40]) rfl ?_); at_builtin; refine Kd.R_append_rows Kd.string (w0 := w) w.heap.size rfl (.tmp 37) (.tmp 40) 42 9 (.string ⟨#[]⟩) 16 rfl Tryd.underlying42 info9 rfl (by decide) (by omega) u4 x4_2 y156 _ _ _ (fun k_ => some k_ ≠ (.slice Ao28 y156.length co28 : Value).ownBlock) (fun _ => False) rfl rfl ?aO ?aR (fun _ _ h => h) (fun _ h => h.elim) ?aF ?aB ?aS ?aL ?_; (case aR => repeat (first | exact (Kd.R_reads' HO158.out).2.2 | (with_reducible refine Kd.C_alloc ?_ _) | (with_reducible refine Kd.C_drewN ?_ _) | (with_reducible refine Kd.C_drew ?_))); (case aB => exact (by repeat (first | (with_reducible first | exact HB.out | apply below_alloc | apply pw_below_drewN | apply below_drew1 | refine below_set ?_ GE145.out) | exact HB.out))); (case aF => exact (fun k_ hk => Kd.fresh' (Kd.R_lt (by (with_reducible repeat (first | apply Kd.R_alloc | apply Kd.R_drewN | apply Kd.R_drew)); exact HO158.out)) k_ hk)); (case aO => exact (by (with_reducible repeat (first | apply Kd.R_alloc | apply Kd.R_drewN | apply Kd.R_drew)); exact Kd.R_mono HO_4.out (fun _ hk => hk.2))); (case aS => exact (below_size (by repeat (first | (with_reducible first | exact HB.out | apply below_alloc | apply pw_below_drewN | apply below_drew1 | refine below_set ?_ GE145.out) | exact HB.out)))); (case aL => have := LMc23.out; omega); intro v160 w27 ho hb hg hat; rw [← Ny159.out] at ho; have n0_ := Aside0.mk (Kd.V_afterv (ok := (fun k_ => some k_ ≠ (.slice Ao28 y156.length co28 : Value).ownBlock ∧ k_ ≠ gb145)) (by (with_reducible repeat (first | apply Kd.V_alloc | apply Kd.V_drewN | apply Kd.V_drew)); exact Kd.V_mono HO_31.out (fun _ hk => ⟨⟨hk.2, hk.1.2⟩, hk.1.1⟩)) hg hat); have n1_ := Aside0.mk (blk_grown (g := gb145) (o := .cells #[.int .i64 ((rd_T34 l0 x15_1).f0), .int .i64 ((rd_T34 l0 x15_1).f1), .int .i64 ((rd_T34 l0 x15_1).f2), .slice A144_3 ((rd_T34 l0 x15_1).f3).length c144_3] 34 (0, 0)) (by (with_reducible repeat (first | refine blk_drewN ?_ _ | refine blk_drew ?_ | refine blk_alloc ?_ _)); exact BK145.out) hg (Kd.R_ne HO_4.out BK145.out (by decide))); have n2_ := Aside0.mk (Kd.R_after (ok := (fun _ => True)) (by (with_reducible repeat (first | apply Kd.R_alloc | apply Kd.R_drewN | apply Kd.R_drew)); exact HO158.out) hg hat); have n3_ := Aside0.mk (hb); have n4_ := Aside0.mk (ho); clear HO_31; clear BK145; clear HO158; clear HB; clear HO_4; have HO_31 := n0_; have BK145 := n1_; have HO158 := n2_; have HB := n3_; have HO161 := n4_; clear n0_ n1_ n2_ n3_ n4_; clear ho hb hg hat))
                              go_roundg k2
                              case measure => have := HK1.out; have := HK2.out; omega
                              case rel => exact ⟨(y159), (wrap64 (x33_2 + 1)), (by first | rfl | (simp; done) | (simp [*]; done)), H', ⟨by have := HK1.out; have := HK2.out; omega⟩, ⟨by (with_reducible repeat (first | apply Kd.R_alloc | apply Kd.R_drewN | apply Kd.R_drew)); exact Kd.R_mono HO161.out (fun _ hk => trivial)⟩, ⟨by (with_reducible repeat (first | apply Kd.V_alloc | apply Kd.V_drewN | apply Kd.V_drew)); exact Kd.V_mono HO_31.out (fun _ hk => ⟨hk.2, hk.1.2⟩)⟩, ⟨by (with_reducible repeat (first | refine blk_drewN ?_ _ | refine blk_drew ?_ | refine blk_alloc ?_ _)); exact BK145.out⟩, ⟨by repeat (first | (with_reducible first | exact HB.out | apply below_alloc | apply pw_below_drewN | apply below_drew1 | refine below_set ?_ GE145.out) | exact HB.out)⟩⟩
                            · rw [if_neg c23] at H
                              exact absurd H (by simp)
                          · rw [if_neg c21] at H
                            exact absurd H (by simp)
                        · rw [if_neg c20] at H
                          exact absurd H (by simp)
                      · rw [if_neg c19] at H
                        have c19b0 : decide (x33_2 < (t151.length : Int)) = false := decide_eq_false c19
                        clear c19
                        by_cases c29 : x4_2.length < 8796093022208
                        · rw [if_pos c29] at H
                          have LMc29 := Aside0.mk c29
                          clear c29
                          obtain ⟨y162, hy162⟩ : ∃ y_ : List ByteArray, y_ = (x4_2 ++ [(⟨#[32, 59, 10]⟩ : ByteArray)]) := ⟨_, rfl⟩
                          replace H : (scene_Print.l0 k2 y162 l0 (l0.length : Int) (wrap64 (x15_1 + 1))) = some (r1, r2) := by first | (rw [hy162]; with_reducible exact H) | (have H2_ := (Option.bind_some _ _).symm.trans H; rw [hy162]; with_reducible exact H2_) | (have H2_ := (Option.bind_some _ _).symm.trans H; with_reducible exact H2_) | with_reducible exact H | (rw [hy162]; exact H) | exact H
                          have Ny162 := Aside0.mk hy162
                          clear hy162
                          have H' := Aside0.mk H
                          clear H
                          go_wp2_with (first | ((with_reducible refine gate_builtin (b := .append) (xs := #[.tmp 43, .tmp 44]) rfl ?_); at_builtin; refine Kd.R_append Kd.string (w0 := w) w.heap.size rfl (.tmp 43) (.tmp 44) 42 9 (.string ⟨#[]⟩) 16 rfl Tryd.underlying42 info9 rfl (by decide) (by omega) u4 x4_2 (⟨#[32, 59, 10]⟩ : ByteArray) [.string (⟨#[32, 59, 10]⟩ : ByteArray)] (fun _ => True) (fun _ => False) rfl rfl ?aP (fun _ hk => hk.elim) ?aF ?aO ?aB ?aS ?aL ?_; (case aP => exact rfl); (case aB => exact (by repeat (first | (with_reducible first | exact HB.out | apply below_alloc | apply pw_below_drewN | apply below_drew1 | refine below_set ?_ GE145.out) | exact HB.out))); (case aF => exact (fun _ _ => trivial)); (case aO => exact (by (with_reducible repeat (first | apply Kd.R_alloc | apply Kd.R_drewN | apply Kd.R_drew)); exact HO_4.out)); (case aS => exact (below_size (by repeat (first | (with_reducible first | exact HB.out | apply below_alloc | apply pw_below_drewN | apply below_drew1 | refine below_set ?_ GE145.out) | exact HB.out)))); (case aL => have := LMc29.out; omega); intro v163 w30 ho hb hg hat; rw [← Ny162.out] at ho; have n0_ := Aside0.mk (Kd.V_afterv (ok := (fun k_ => k_ ≠ gb145)) (by (with_reducible repeat (first | apply Kd.V_alloc | apply Kd.V_drewN | apply Kd.V_drew)); exact Kd.V_mono HO_31.out (fun _ hk => ⟨hk.2, hk.1⟩)) hg hat); have n1_ := Aside0.mk (blk_grown (g := gb145) (o := .cells #[.int .i64 ((rd_T34 l0 x15_1).f0), .int .i64 ((rd_T34 l0 x15_1).f1), .int .i64 ((rd_T34 l0 x15_1).f2), .slice A144_3 ((rd_T34 l0 x15_1).f3).length c144_3] 34 (0, 0)) (by (with_reducible repeat (first | refine blk_drewN ?_ _ | refine blk_drew ?_ | refine blk_alloc ?_ _)); exact BK145.out) hg (Kd.R_ne HO_4.out BK145.out (by decide))); have n2_ := Aside0.mk (hb); have n3_ := Aside0.mk (ho); clear HO_31; clear BK145; clear HB; clear HO_4; have HO_31 := n0_; have BK145 := n1_; have HB := n2_; have HO164 := n3_; clear n0_ n1_ n2_ n3_; clear ho hb hg hat))
                          go_roundg k2
                          case measure => have := HK1.out; have := HK2.out; omega
                          case rel => exact ⟨(y162), (wrap64 (x15_1 + 1)), (by first | rfl | (simp; done) | (simp [*]; done)), H', ⟨by have := HK1.out; have := HK2.out; omega⟩, ⟨by (with_reducible repeat (first | apply Kd.R_alloc | apply Kd.R_drewN | apply Kd.R_drew)); exact HO164.out⟩, ⟨by repeat (first | (with_reducible first | exact HB.out | apply below_alloc | apply pw_below_drewN | apply below_drew1 | refine below_set ?_ GE145.out) | exact HB.out)⟩⟩
                        · rw [if_neg c29] at H
                          exact absurd H (by simp)
                · rw [if_neg c9] at H
                  exact absurd H (by simp)
              · rw [if_neg c7] at H
                have c7b0 : (t146 == 0) = false := beq_eq_false_iff_ne.mpr c7
                have c7b1 : (t146 != 0) = true := bne_iff_ne.mpr c7
                simp only [Option.some.injEq, Prod.mk.injEq] at H
                obtain ⟨rfl, rfl⟩ := H
                have p144 : 0 ≤ (x15_1 : Int) := of_decide_eq_true (by first | (with_reducible assumption) | assumption)
                have q144 : x15_1 < (l0.length : Int) := of_decide_eq_true (by first | (with_reducible assumption) | assumption)
                obtain ⟨ad144, A144_3, c144_3, e144, hx144_0, hx144_1, hx144_2, hx144_3, hl144_3, hi144_3⟩ := at_T34 HR0.out x15_1 p144 q144
                cases e144
                replace hx144_0 := (HB.out.cell (World.block_lt_of_cell? w _ hx144_0)).trans hx144_0
                replace hx144_1 := (HB.out.cell (World.block_lt_of_cell? w _ hx144_1)).trans hx144_1
                replace hx144_2 := (HB.out.cell (World.block_lt_of_cell? w _ hx144_2)).trans hx144_2
                replace hx144_3 := (HB.out.cell (World.block_lt_of_cell? w _ hx144_3)).trans hx144_3
                have HR144_3 := Aside0.mk hi144_3
                have HC144_3 := Aside0.mk hl144_3
                clear hi144_3 hl144_3
                replace p144 := eq_true p144
                replace q144 := eq_true q144
                go_wp2_with (first | ((with_reducible refine gate_dst (N := 6) rfl ?_); refine box_event ?hg (N := 6) ?hd (cs := #[.int .i64 0, .int .i64 0, .int .i64 0, .slice none 0 0]) (t := 34) ?hr ?_; (case hd => rfl); (case hg => rfl); (case hr => first | (go_simp; done) | (go_simp; rfl) | (simp only [pf_or128]; go_simp; done) | (simp only [pf_or128]; go_simp; rfl)); intro gb145 hg w31 hbox hb; have n0_ := Aside0.mk (Kd.R_below (by (with_reducible repeat (first | apply Kd.R_alloc | apply Kd.R_drewN | apply Kd.R_drew)); exact HO_4.out) hb); have n1_ := Aside0.mk (below_step (by repeat (first | (with_reducible first | exact HB.out | apply below_alloc | apply pw_below_drewN | apply below_drew1) | exact HB.out)) hb); have n2_ := Aside0.mk (hbox); have n3_ := Aside0.mk ((by rw [hg]; exact (below_size (by repeat (first | (with_reducible first | exact HB.out | apply below_alloc | apply pw_below_drewN | apply below_drew1) | exact HB.out))) : w.heap.size ≤ gb145)); have n4_ := Aside0.mk ((by rw [hg]; exact (below_size (by repeat (first | (with_reducible first | exact HB.out | apply below_alloc | apply pw_below_drewN | apply below_drew1) | exact HB.out))) : w.heap.size ≤ gb145)); clear HO_4; clear HB; have HO_4 := n0_; have HB := n1_; have BK145 := n2_; have GW145 := n3_; have GE145 := n4_; clear n0_ n1_ n2_ n3_ n4_; clear hb hbox hg; have hcz32_0 : w31.cell? ⟨gb145, 0, none⟩ = some (.int .i64 0) := (blk_cell BK145.out 0).trans rfl; have hcz32_1 : w31.cell? ⟨gb145, 1, none⟩ = some (.int .i64 0) := (blk_cell BK145.out 1).trans rfl; have hcz32_2 : w31.cell? ⟨gb145, 2, none⟩ = some (.int .i64 0) := (blk_cell BK145.out 2).trans rfl; have hcz32_3 : w31.cell? ⟨gb145, 3, none⟩ = some (.slice none 0 0) := (blk_cell BK145.out 3).trans rfl; have hfz32_0 := blk_frozen BK145.out 0; have hfz32_1 := blk_frozen BK145.out 1; have hfz32_2 := blk_frozen BK145.out 2; have hfz32_3 := blk_frozen BK145.out 3) | ((with_reducible refine gate_callee (f := 9) rfl ?_); refine goesL_ (some 20) rfl rfl Tryd.func9 (by kernel_rfl) rfl #[.agg #[.int .i64 ((rd_T34 l0 x15_1).f0), .int .i64 ((rd_T34 l0 x15_1).f1), .int .i64 ((rd_T34 l0 x15_1).f2), .slice A144_3 ((rd_T34 l0 x15_1).f3).length c144_3]] rfl (by (try simp only [List.map_toArray, List.map_cons, List.map_nil]); first | done | rfl | (simp only [List.length_drop, List.length_take]; rfl)) ?_; (with_reducible refine (scene_Check.calls ((rd_T34 l0 x15_1).f0) ((rd_T34 l0 x15_1).f1) ((rd_T34 l0 x15_1).f2) _ _ ((rd_T34 l0 x15_1).f3) t146 _ ?side1 ?side2 A6.out).mono ?_); (case side1 => exact Kd.C_below HR144_3.out (by repeat (first | (with_reducible first | exact HB.out | apply below_alloc | apply pw_below_drewN | apply below_drew1 | refine below_set ?_ GE145.out) | exact HB.out))); (case side2 => exact HC144_3.out); rintro e w33 ⟨rfl, hb⟩; refine ⟨_, rfl, ?_⟩; have n0_ := Aside0.mk (Kd.R_below (by (with_reducible repeat (first | apply Kd.R_alloc | apply Kd.R_drewN | apply Kd.R_drew)); exact (Kd.R_mono (Kd.R_far (p := ⟨gb145, 3, none⟩) (Kd.R_far (p := ⟨gb145, 2, none⟩) (Kd.R_far (p := ⟨gb145, 1, none⟩) (Kd.R_far (p := ⟨gb145, 0, none⟩) (Kd.R_types HO_4.out BK145.out (by decide)) (fun _ hk => hk.2) (.int .i64 ((rd_T34 l0 x15_1).f0))) (fun _ hk => hk.2) (.int .i64 ((rd_T34 l0 x15_1).f1))) (fun _ hk => hk.2) (.int .i64 ((rd_T34 l0 x15_1).f2))) (fun _ hk => hk.2) (.slice A144_3 ((rd_T34 l0 x15_1).f3).length c144_3)) (fun _ h_ => h_.1))) hb); have n1_ := Aside0.mk (blk_below (g := gb145) (o := .cells #[.int .i64 ((rd_T34 l0 x15_1).f0), .int .i64 ((rd_T34 l0 x15_1).f1), .int .i64 ((rd_T34 l0 x15_1).f2), .slice A144_3 ((rd_T34 l0 x15_1).f3).length c144_3] 34 (0, 0)) (by (with_reducible repeat (first | refine blk_drewN ?_ _ | refine blk_drew ?_ | refine blk_alloc ?_ _)); refine blk_put (cs := #[.int .i64 ((rd_T34 l0 x15_1).f0), .int .i64 ((rd_T34 l0 x15_1).f1), .int .i64 ((rd_T34 l0 x15_1).f2), .slice none 0 0]) ?_ 3 _ rfl; (with_reducible repeat (first | refine blk_drewN ?_ _ | refine blk_drew ?_ | refine blk_alloc ?_ _)); refine blk_put (cs := #[.int .i64 ((rd_T34 l0 x15_1).f0), .int .i64 ((rd_T34 l0 x15_1).f1), .int .i64 0, .slice none 0 0]) ?_ 2 _ rfl; (with_reducible repeat (first | refine blk_drewN ?_ _ | refine blk_drew ?_ | refine blk_alloc ?_ _)); refine blk_put (cs := #[.int .i64 ((rd_T34 l0 x15_1).f0), .int .i64 0, .int .i64 0, .slice none 0 0]) ?_ 1 _ rfl; (with_reducible repeat (first | refine blk_drewN ?_ _ | refine blk_drew ?_ | refine blk_alloc ?_ _)); refine blk_put (cs := #[.int .i64 0, .int .i64 0, .int .i64 0, .slice none 0 0]) ?_ 0 _ rfl; (with_reducible repeat (first | refine blk_drewN ?_ _ | refine blk_drew ?_ | refine blk_alloc ?_ _)); exact BK145.out) hb); have n2_ := Aside0.mk (below_step (by repeat (first | (with_reducible first | exact HB.out | apply below_alloc | apply pw_below_drewN | apply below_drew1 | refine below_set ?_ GE145.out) | exact HB.out)) hb); clear HO_4; clear BK145; clear HB; have HO_4 := n0_; have BK145 := n1_; have HB := n2_; clear n0_ n1_ n2_; (try clear hb); (try clear hb2); (try clear hk); (try clear hi)))
                go_ret2
                exact ⟨by first | rfl | (simp [errW_none, errW_some] <;> rfl) | (simp [*, errW_none, errW_some] <;> rfl), by repeat (first | (with_reducible first | exact HB.out | apply below_alloc | apply pw_below_drewN | apply below_drew1 | refine below_set ?_ GE145.out) | exact HB.out)⟩
            · rw [if_neg c5] at H
              exact absurd H (by simp)
          · rw [if_neg c4] at H
            exact absurd H (by simp)
        · rw [if_neg c3] at H
          have c3b0 : decide (x15_1 < (l0.length : Int)) = false := decide_eq_false c3
          clear c3
          replace H := Option.bind_eq_some_iff.mp H
          obtain ⟨t143, A340, H⟩ := H
          replace H : (some (t143, 0)) = some (r1, r2) := H
          have A34 := Aside0.mk A340
          clear A340
          simp only [Option.some.injEq, Prod.mk.injEq] at H
          obtain ⟨rfl, rfl⟩ := H
          obtain ⟨Ao35, co35, eo35⟩ := Kd.R_slice HO_4.out
          subst eo35
          go_wp2_with (first | ((with_reducible refine gate_callee (f := 17) rfl ?_); refine goesL_ (some 48) rfl rfl Tryd.func17 (by kernel_rfl) rfl #[.slice Ao35 x4_1.length co35, .string (⟨#[]⟩ : ByteArray)] rfl (by (try simp only [List.map_toArray, List.map_cons, List.map_nil]); first | done | rfl | (simp only [List.length_drop, List.length_take]; rfl)) ?_; (with_reducible refine (strings_Join.calls _ _ x4_1 (⟨#[]⟩ : ByteArray) t143 _ ?side1 ?side2 A34.out).mono ?_); (case side1 => repeat (first | exact (Kd.R_reads' HO_4.out).2.2 | (with_reducible refine Kd.C_alloc ?_ _) | (with_reducible refine Kd.C_drewN ?_ _) | (with_reducible refine Kd.C_drew ?_))); (case side2 => exact (Kd.R_reads' HO_4.out).2.1); rintro e w36 ⟨rfl, hb⟩; refine ⟨_, rfl, ?_⟩; have n0_ := Aside0.mk (Kd.R_below (by (with_reducible repeat (first | apply Kd.R_alloc | apply Kd.R_drewN | apply Kd.R_drew)); exact HO_4.out) hb); have n1_ := Aside0.mk (below_step (by repeat (first | (with_reducible first | exact HB.out | apply below_alloc | apply pw_below_drewN | apply below_drew1) | exact HB.out)) hb); clear HO_4; clear HB; have HO_4 := n0_; have HB := n1_; clear n0_ n1_; (try clear hb); (try clear hb2); (try clear hk); (try clear hi)))
          go_ret2
          exact ⟨by first | rfl | (simp [errW_none, errW_some] <;> rfl) | (simp [*, errW_none, errW_some] <;> rfl), by repeat (first | (with_reducible first | exact HB.out | apply below_alloc | apply pw_below_drewN | apply below_drew1) | exact HB.out)⟩

/-! ### argosyref27_is: function 31 -/
def argosyref27_is.f (a0 : Int) : Option (Bool) := if a0 ≥ (-1099511627776) then (some (decide (a0 ≤ 1099511627776))) else (some false)
set_option maxHeartbeats 8000000 in
set_option maxRecDepth 100000 in
theorem argosyref27_is.calls (a0 : Int) (r : Bool) (w : World) (h : argosyref27_is.f a0 = some r) :
    Calls Tryd.prog 31 #[.int .i64 a0] w fun e w' => e = .returned (.bool r) ∧ Drawn0 w w' := by
  have H : (if a0 ≥ (-1099511627776) then (some (decide (a0 ≤ 1099511627776))) else (some false)) = some r := h
  clear h
  by_cases c2 : a0 ≥ (-1099511627776)
  · rw [if_pos c2] at H
    have c2b0 : decide ((-1099511627776) ≤ a0) = true := decide_eq_true c2
    clear c2
    obtain rfl := Option.some.inj H
    go_enter Tryd.func31, Tryd.ntmps31
    go_wp2
    go_ret
    exact ⟨by first | rfl | (simp; done) | (simp [*]; done), by repeat (first | exact Drawn0.refl _ | apply Drawn0.step)⟩
  · rw [if_neg c2] at H
    have c2b0 : decide ((-1099511627776) ≤ a0) = false := decide_eq_false c2
    clear c2
    obtain rfl := Option.some.inj H
    go_enter Tryd.func31, Tryd.ntmps31
    go_wp2
    go_ret
    exact ⟨by first | rfl | (simp; done) | (simp [*]; done), by repeat (first | exact Drawn0.refl _ | apply Drawn0.step)⟩

end Go.Proofs.YtfmbdmkiamedeaaDoor.PScenePrints
