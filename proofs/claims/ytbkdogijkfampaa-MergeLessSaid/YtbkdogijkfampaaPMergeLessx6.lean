-- Written by a patched print (wip/mkprint.py), for this claim.
import Derived.Test.YtbkdogijkfampaaPMergeLessx0
import Derived.Test.YtbkdogijkfampaaPMergeLessx1
import Derived.Test.YtbkdogijkfampaaPMergeLessx2
import Derived.Test.YtbkdogijkfampaaPMergeLessx4
import Derived.Test.YtbkdogijkfampaaPMergeLessx5
namespace Go.Proofs.Ytbkdogijkfampaa.PMergeLess
open Go.RowKit Go.Proofs.YtbkdogijkfampaaW.PrintWords Go.Proofs.YtbkdogijkfampaaW.PrintLast Go.Proofs.YtbkdogijkfampaaW.PrintMore
attribute [local go_sem] max2_int min2_int max_two min_two max_three min_three max_four min_four   -- for this text's walks alone
set_option linter.unusedVariables false
set_option linter.unusedSimpArgs false

/-! ### argosylaw12_MergeLess: function 8 -/
section
open Go.Shelf
attribute [local go_sem] Oper.semAt_some
/-- How many events of a branch are let in. -/
def cutL (l0 : List (List S45)) (l1 : List Int) (i : Nat) : Int := if (i : Int) < (l1.length : Int) then (if wrap64 (rd l1 (i : Int)) < ((rdLL l0 (i : Int)).length : Int) then wrap64 (rd l1 (i : Int)) else ((rdLL l0 (i : Int)).length : Int)) else ((rdLL l0 (i : Int)).length : Int)
def lessM (l0 : List (List S45)) (l1 : List Int) : Nat → Nat → List (List S45) → Option (List (List S45))
  | 0, _, acc => some acc
  | d + 1, i, acc => if 0 ≤ cutL l0 l1 i ∧ acc.length < 5864062014805 then lessM l0 l1 d (i + 1) (acc ++ [(rdLL l0 (i : Int)).take (cutL l0 l1 i).toNat]) else none
def cmpM (n m : List Int) : Nat → Nat → Option Bool
  | 0, _ => some true
  | d + 1, j => if j < m.length ∧ ¬ rd m (j : Int) > rd n (j : Int) then cmpM n m d (j + 1) else none
def lessEnd (k : Nat) (l0 : List (List S45)) (h : List S45) : Option Bool :=
  if (l0.length : Int) < 1 then argosylaw12_lives.f k else if (l0.length : Int) > 64 then argosylaw12_lives.f k else (merge_Check.f k (h.take (h.length / 2)) (l0.length : Int)).bind fun e => if e = 0 then argosylaw12_lives.f k else none
def lessF (k : Nat) (l0 : List (List S45)) (l1 : List Int) : Option Bool :=
  (argosylaw12_few.f k l0).bind fun t => if t = true then (lessM l0 l1 l0.length 0 []).bind fun l => (merge_Merge.f k l0).bind fun h => (merge_Merge.f k l).bind fun m => if h.2.length = m.2.length then (cmpM h.2 m.2 h.2.length 0).bind fun _ => lessEnd k l0 h.1 else none else argosylaw12_lives.f k
theorem C_takeL {α : Type} {d : Kd α} {W : World} {A : Option Addr} {xs : List α} (m : Nat) (h : d.C W A xs.length xs) : d.C W A (xs.take m).length (xs.take m) := by
  obtain ⟨h1, h2, h3⟩ := h
  have hl : (xs.take m).length ≤ xs.length := by rw [List.length_take]; omega
  refine ⟨rfl, by omega, fun hn => ?_⟩
  obtain ⟨ad, e, hc⟩ := h3 (by omega)
  refine ⟨ad, e, fun j p hj => hc j p ?_⟩
  rw [List.getElem?_take] at hj
  split at hj
  · exact hj
  · cases hj
set_option maxRecDepth 100000 in
set_option maxHeartbeats 4000000 in
theorem own_Less (k : Nat) (A0 : Option Addr) (c0 : Nat) (l0 : List (List S45)) (A1 : Option Addr) (c1 : Nat) (l1 : List Int) (r : Bool) (w : World) (hr0 : Kd.C (Kd.slice 45 k45) w A0 l0.length l0) (hc0 : l0.length ≤ c0) (hr1 : Kd.C (Kd.int .u8) w A1 l1.length l1) (hc1 : l1.length ≤ c1) (h : lessF k l0 l1 = some r) :
    Calls Try.prog 8 #[.slice A0 l0.length c0, .slice A1 l1.length c1] w fun e w' => e = .returned (.bool r) ∧ Below w.heap.size w w' := by
  have HR0 := Aside0.mk hr0
  have HC0 := Aside0.mk hc0
  have HR1 := Aside0.mk hr1
  have HC1 := Aside0.mk hc1
  have HV0 := Aside0.mk (Kd.V_mk (e := 25) (base := w.heap.size) hc0 (Kd.C_F (Kd.heap_slice 45 k45_heap) hr0))
  clear hr0 hc0 hr1 hc1
  unfold lessF at h
  obtain ⟨t, ht, h⟩ := Option.bind_eq_some_iff.mp h
  have HT := Aside0.mk ht
  clear ht
  cases t with
  | false =>
    rw [if_neg (by decide)] at h
    have HL := Aside0.mk h
    clear h
    go_enter Try.func8, Try.ntmps8
    go_wp2_with (first | (go_at_call 9; (with_reducible refine (argosylaw12_few.calls k _ _ l0 false _ ?s1 HC0.out HT.out).mono ?_); (case s1 => repeat (first | exact HR0.out | (with_reducible refine Kd.C_drewN ?_ _) | (with_reducible refine Kd.C_drew ?_))); rintro e w' ⟨rfl, ⟨nd, rfl⟩⟩) | (go_at_call 10; (with_reducible refine (argosylaw12_lives.calls k r _ HL.out).mono ?_); rintro e w1 ⟨rfl, hb⟩; have HB := Aside0.mk (below_step (show Below w.heap.size w _ from by repeat (first | (with_reducible first | exact Below.refl _ _ | apply below_alloc | apply pw_below_drewN | apply below_drew1) | exact Below.refl _ _)) hb); clear hb))
    go_ret
    exact ⟨rfl, HB.out⟩
  | true =>
    rw [if_pos rfl] at h
    obtain ⟨l, hl, h⟩ := Option.bind_eq_some_iff.mp h
    obtain ⟨⟨h1, h2⟩, hh, h⟩ := Option.bind_eq_some_iff.mp h
    obtain ⟨⟨m1, m2⟩, hmm, h⟩ := Option.bind_eq_some_iff.mp h
    by_cases hln : h2.length = m2.length
    · rw [if_pos hln] at h
      obtain ⟨u, hu, h⟩ := Option.bind_eq_some_iff.mp h
      have HL := Aside0.mk hl
      have HH := Aside0.mk hh
      have HM := Aside0.mk hmm
      have HU := Aside0.mk hu
      have HE := Aside0.mk h
      have HLN := Aside0.mk hln
      clear hl hh hmm hu h hln
      go_enter Try.func8, Try.ntmps8
      go_wp2_with (first | (go_at_call 9; (with_reducible refine (argosylaw12_few.calls k _ _ l0 true _ ?s1 HC0.out HT.out).mono ?_); (case s1 => repeat (first | exact HR0.out | (with_reducible refine Kd.C_drewN ?_ _) | (with_reducible refine Kd.C_drew ?_))); rintro e w' ⟨rfl, ⟨nd, rfl⟩⟩))
      have hN0 : Kd.N (Kd.slice 45 k45) 25 (w.drewN nd) w.heap.size (fun _ => True) (.slice none 0 0) ([] : List (List S45)) := Kd.N_nil _ _ _ _ _
      have HN0 := Aside0.mk hN0
      have HB0 := Aside0.mk (pw_below_drewN (Below.refl w.heap.size w) nd)
      clear hN0
      go_loopg [5, 6] l0.length (fun d v5 v6 wx => ∃ (i : Nat) (acc : List (List S45)) (Av : Option Addr) (cv : Nat), v5 = .slice Av acc.length cv ∧ v6 = .int .i64 (i : Int) ∧ i + d = l0.length ∧ Aside0 (lessM l0 l1 d i acc = some l) ∧ Aside0 (Kd.N (Kd.slice 45 k45) 25 wx w.heap.size (fun _ => True) (.slice Av acc.length cv) acc) ∧ Aside0 (Below w.heap.size w wx))
      case atStart => exact ⟨0, [], none, 0, rfl, rfl, by omega, HL, HN0, HB0⟩
      case round =>
        clear HL HN0 HB0
        obtain ⟨i, acc, Av, cv, rfl, rfl, hid, HL, HN, HB⟩ := hrel
        by_cases hi : i < l0.length
        · obtain ⟨d, rfl⟩ : ∃ d, gk = d + 1 := ⟨gk - 1, by omega⟩
          have hl := HL.out
          simp only [lessM] at hl
          by_cases hg : 0 ≤ cutL l0 l1 i ∧ acc.length < 5864062014805
          · rw [if_pos hg] at hl
            have HL2 := Aside0.mk hl
            obtain ⟨ad, Ae0, ce0, e1, hce0, _, _⟩ := at_LL HR0.out (i : Int) (by omega) (by omega)
            subst e1
            obtain ⟨cs, hcl, hF, hcc0⟩ := Kd.V_get HV0.out ([] : List S45) (i : Int) (by omega) (by omega)
            obtain ⟨Ae, ce, rfl, hle, hFe⟩ := Kd.FK_slice_open hF
            have hce : w.cell? (ad.add i) = some (.slice Ae (rdLL l0 (i : Int)).length ce) := by
              have := hcc0 0 _ rfl
              rwa [show (i : Int).toNat * (Kd.slice 45 k45).sz + 0 = i from by show (i : Int).toNat * 1 + 0 = _; omega] at this
            have hle : (rdLL l0 (i : Int)).length ≤ ce := hle
            have hce2 := cell_b HB.out hce
            have hFw : Kd.F k45 wr (fun k_ => k_ < w.heap.size) Ae (rdLL l0 (i : Int)).length (rdLL l0 (i : Int)) := Kd.F_below hFe HB.out
            have hib : decide ((i : Int) < (l0.length : Int)) = true := decide_eq_true (by omega)
            have hib2 : decide (i < l0.length) = true := decide_eq_true hi
            have i0 := eq_true (show (0 : Int) ≤ (i : Int) by omega)
            have i1 := eq_true (show (i : Int) < (l0.length : Int) by omega)
            have hokp : ∀ k, k < w.heap.size → True ∧ some k ≠ (Value.slice Av acc.length cv).ownBlock := fun k hk => ⟨trivial, fun e => by have := Kd.N_base HN.out k e.symm; omega⟩
            have HOKP := Aside0.mk hokp
            have HOL := Aside0.mk hg.2
            have HMX := Aside0.mk (Kd.C_max HR0.out)
            have hgc := hg.1
            unfold cutL at hgc
            simp only [cutL] at hl
            clear HL hce hce0 hF hcc0 hFe hokp hg hcl
            generalize rdLL l0 (i : Int) = xe at *
            by_cases hc : i < l1.length
            · rw [if_pos (by omega)] at hl hgc
              obtain ⟨adc, ec, hcc⟩ := Kd.at_int HR1.out (i : Int) (by omega) (by omega)
              rw [Int.toNat_natCast] at hcc
              subst ec
              have hcc2 := cell_b HB.out hcc
              have j0 : decide ((i : Int) < (l1.length : Int)) = true := decide_eq_true (by omega)
              have j1 := eq_true (show (i : Int) < (l1.length : Int) by omega)
              clear hcc
              by_cases hm : wrap64 (rd l1 (i : Int)) < (xe.length : Int)
              · rw [if_pos hm] at hl hgc
                have HL2 := Aside0.mk hl
                have p0 := eq_true hm
                have p1 := eq_true hgc
                have p2 := eq_true (show wrap64 (rd l1 (i : Int)) ≤ (ce : Int) by omega)
                have hxl : (xe.take (wrap64 (rd l1 (i : Int))).toNat).length = (wrap64 (rd l1 (i : Int))).toNat := by rw [List.length_take]; omega
                have hp : Kd.FK (Kd.slice 45 k45) wr (fun k_ => k_ < w.heap.size) (xe.take (wrap64 (rd l1 (i : Int))).toNat) [.slice Ae (wrap64 (rd l1 (i : Int))).toNat ce] := by
                  have := Kd.FK_slice_mk (e := 45) (c := ce) (l := xe.take (wrap64 (rd l1 (i : Int))).toNat) (by omega) (Kd.F_imp hFw (fun W' h => C_takeL _ h))
                  rwa [hxl] at this
                have HP := Aside0.mk hp
                clear hl hgc hp hxl hFw hm
                go_wp2_with (first | ((with_reducible refine gate_builtin (b := .append) (xs := #[.tmp 39, .tmp 46]) rfl ?_); at_builtin; refine Kd.N_append (Kd.slice 45 k45) (w0 := w) w.heap.size rfl (.tmp 39) (.tmp 46) 22 25 (.slice none 0 0) 24 rfl Try.underlying22 info25S rfl (by decide) (by omega) _ acc _ [.slice Ae (wrap64 (rd l1 (i : Int))).toNat ce] (fun _ => True) (fun k_ => k_ < w.heap.size) rfl rfl HP.out HOKP.out (fun _ _ => trivial) HN.out HB.out HB.out.size (by have := HOL.out; omega) ?_; intro v1 w1 hN1 hb1 hg1 hat1; obtain ⟨An, cn, rfl⟩ := Kd.V_slice (Kd.N_V (base' := 0) hN1); have HN1 := Aside0.mk hN1; have HB1 := Aside0.mk hb1; clear hN1 hb1 hg1 hat1))
                go_roundg d
                case measure => omega
                case rel => exact ⟨i + 1, _, _, _, (by rw [List.length_append]; rfl), by first | rfl | (congr 1; omega) | (congr 1; unfold wrap64; have := HMX.out; omega), by omega, HL2, HN1, HB1⟩

              · rw [if_neg hm] at hl hgc
                have HL2 := Aside0.mk hl
                have p0 := eq_false hm
                have p2 := eq_true (show (xe.length : Int) ≤ (ce : Int) by omega)
                have p3 := eq_true hle
                have hxl : (xe.take (xe.length : Int).toNat).length = xe.length := by rw [List.length_take]; omega
                have hp : Kd.FK (Kd.slice 45 k45) wr (fun k_ => k_ < w.heap.size) (xe.take (xe.length : Int).toNat) [.slice Ae xe.length ce] := by
                  have := Kd.FK_slice_mk (e := 45) (c := ce) (l := xe.take (xe.length : Int).toNat) (by omega) (Kd.F_imp hFw (fun W' h => C_takeL _ h))
                  rwa [hxl] at this
                have HP := Aside0.mk hp
                clear hl hgc hp hxl hFw hm
                go_wp2_with (first | ((with_reducible refine gate_builtin (b := .append) (xs := #[.tmp 39, .tmp 46]) rfl ?_); at_builtin; refine Kd.N_append (Kd.slice 45 k45) (w0 := w) w.heap.size rfl (.tmp 39) (.tmp 46) 22 25 (.slice none 0 0) 24 rfl Try.underlying22 info25S rfl (by decide) (by omega) _ acc _ [.slice Ae xe.length ce] (fun _ => True) (fun k_ => k_ < w.heap.size) rfl rfl HP.out HOKP.out (fun _ _ => trivial) HN.out HB.out HB.out.size (by have := HOL.out; omega) ?_; intro v1 w1 hN1 hb1 hg1 hat1; obtain ⟨An, cn, rfl⟩ := Kd.V_slice (Kd.N_V (base' := 0) hN1); have HN1 := Aside0.mk hN1; have HB1 := Aside0.mk hb1; clear hN1 hb1 hg1 hat1))
                go_roundg d
                case measure => omega
                case rel => exact ⟨i + 1, _, _, _, (by rw [List.length_append]; rfl), by first | rfl | (congr 1; omega) | (congr 1; unfold wrap64; have := HMX.out; omega), by omega, HL2, HN1, HB1⟩

            · rw [if_neg (by omega)] at hl hgc
              have j0 : decide ((i : Int) < (l1.length : Int)) = false := decide_eq_false (by omega)
              have j2 : decide (i < l1.length) = false := decide_eq_false hc
              have HL2 := Aside0.mk hl
              have p2 := eq_true (show (xe.length : Int) ≤ (ce : Int) by omega)
              have p3 := eq_true hle
              have hxl : (xe.take (xe.length : Int).toNat).length = xe.length := by rw [List.length_take]; omega
              have hp : Kd.FK (Kd.slice 45 k45) wr (fun k_ => k_ < w.heap.size) (xe.take (xe.length : Int).toNat) [.slice Ae xe.length ce] := by
                have := Kd.FK_slice_mk (e := 45) (c := ce) (l := xe.take (xe.length : Int).toNat) (by omega) (Kd.F_imp hFw (fun W' h => C_takeL _ h))
                rwa [hxl] at this
              have HP := Aside0.mk hp
              clear hl hgc hp hxl hFw
              go_wp2_with (first | ((with_reducible refine gate_builtin (b := .append) (xs := #[.tmp 39, .tmp 46]) rfl ?_); at_builtin; refine Kd.N_append (Kd.slice 45 k45) (w0 := w) w.heap.size rfl (.tmp 39) (.tmp 46) 22 25 (.slice none 0 0) 24 rfl Try.underlying22 info25S rfl (by decide) (by omega) _ acc _ [.slice Ae xe.length ce] (fun _ => True) (fun k_ => k_ < w.heap.size) rfl rfl HP.out HOKP.out (fun _ _ => trivial) HN.out HB.out HB.out.size (by have := HOL.out; omega) ?_; intro v1 w1 hN1 hb1 hg1 hat1; obtain ⟨An, cn, rfl⟩ := Kd.V_slice (Kd.N_V (base' := 0) hN1); have HN1 := Aside0.mk hN1; have HB1 := Aside0.mk hb1; clear hN1 hb1 hg1 hat1))
              go_roundg d
              case measure => omega
              case rel => exact ⟨i + 1, _, _, _, (by rw [List.length_append]; rfl), by first | rfl | (congr 1; omega) | (congr 1; unfold wrap64; have := HMX.out; omega), by omega, HL2, HN1, HB1⟩
          · rw [if_neg hg] at hl; cases hl
        · obtain rfl : gk = 0 := by omega
          have hl := HL.out
          simp only [lessM, Option.some.injEq] at hl
          subst hl
          have hib : decide ((i : Int) < (l0.length : Int)) = false := decide_eq_false (by omega)
          have hib2 : decide (i < l0.length) = false := decide_eq_false hi
          have HVl := Aside0.mk (Kd.N_V (base' := 0) HN.out)
          clear HL HN hi hid
          have hne : ((h2.length : Int) != (m2.length : Int)) = false := bne_eq_false_iff_eq.mpr (by have := HLN.out; omega)
          go_wp2_with (first | (go_at_call 11; (with_reducible refine (merge_Merge.calls k (fun k_ => k_ < w.heap.size) A0 c0 l0 h1 h2 _ ?s1 HH.out).mono ?_); (case s1 => exact Kd.V_mk HC0.out (Kd.F_below (Kd.C_F (Kd.heap_slice 45 k45_heap) HR0.out) (show Below w.heap.size w _ from by repeat (first | (with_reducible first | exact HB.out | apply below_alloc | apply pw_below_drewN | apply below_drew1) | exact HB.out)))); rintro e w1 ⟨v0, v1, rfl, ho0, ho1, hb⟩; obtain ⟨Ah, ch, rfl⟩ := Kd.V_slice (Kd.N_V (base' := 0) ho0); obtain ⟨An, cn, rfl⟩ := Kd.R_slice ho1; have HCh := Aside0.mk (Kd.N_reads' ho0).2; have HCn := Aside0.mk (Kd.R_reads' ho1).2; have HV1 := Aside0.mk (Kd.V_old (show Kd.V (Kd.slice 45 k45) 25 _ 0 _ (.slice Av acc.length cv) acc from by first | exact HVl.out) hb); have HB1 := Aside0.mk (below_step (show Below w.heap.size w _ from by repeat (first | (with_reducible first | exact HB.out | apply below_alloc | apply pw_below_drewN | apply below_drew1) | exact HB.out)) hb); clear HVl HB hb ho0 ho1; have HB := HB1; clear HB1) | (go_at_call 11; (with_reducible refine (merge_Merge.calls k (fun _ => True) Av cv acc m1 m2 _ ?s1 HM.out).mono ?_); (case s1 => exact Kd.V_mono HV1.out (fun _ _ => trivial)); rintro e w2 ⟨v0, v1, rfl, ho0, ho1, hb⟩; obtain ⟨Ah2, ch2, rfl⟩ := Kd.V_slice (Kd.N_V (base' := 0) ho0); obtain ⟨Am, cm, rfl⟩ := Kd.R_slice ho1; have HCm := Aside0.mk (Kd.R_reads' ho1).2; have HB1 := Aside0.mk (below_step (show Below w.heap.size w _ from by repeat (first | (with_reducible first | exact HB.out | apply below_alloc | apply pw_below_drewN | apply below_drew1) | exact HB.out)) hb); have HBw := Aside0.mk hb; clear HB hb ho0 ho1; have HB := HB1; clear HB1))
          have HI0 := Aside0.mk (Below.refl w2.heap.size w2)
          clear HV1
          go_loopg [12] h2.length (fun d v12 wx => ∃ (j : Nat), v12 = .int .i64 (j : Int) ∧ j + d = h2.length ∧ Aside0 (cmpM h2 m2 d j = some u) ∧ Aside0 (Below w2.heap.size w2 wx))
          case atStart => exact ⟨0, rfl, by omega, HU, HI0⟩
          case round =>
            clear HU HI0
            obtain ⟨j, rfl, hjd, HU, HI⟩ := hrel
            by_cases hj : j < h2.length
            · obtain ⟨d, rfl⟩ : ∃ d, gk = d + 1 := ⟨gk - 1, by omega⟩
              have hu := HU.out
              simp only [cmpM] at hu
              by_cases hg : j < m2.length ∧ ¬ rd m2 (j : Int) > rd h2 (j : Int)
              · rw [if_pos hg] at hu
                have HU2 := Aside0.mk hu
                obtain ⟨adn, en, hcn⟩ := Kd.at_int HCn.out.2 (j : Int) (by omega) (by omega)
                obtain ⟨adm, em, hcm⟩ := Kd.at_int HCm.out.2 (j : Int) (by omega) (by omega)
                rw [Int.toNat_natCast] at hcn hcm
                subst en
                subst em
                have hcn2 := cell_b HI.out (cell_b HBw.out hcn)
                have hcm2 := cell_b HI.out hcm
                have g0 : decide ((j : Int) < (h2.length : Int)) = true := decide_eq_true (by omega)
                have g1 : decide (j < h2.length) = true := decide_eq_true hj
                have i0 := eq_true (show (0 : Int) ≤ (j : Int) by omega)
                have i1 := eq_true (show (j : Int) < (h2.length : Int) by omega)
                have i2 := eq_true (show (j : Int) < (m2.length : Int) by have := hg.1; omega)
                have g2 : decide (rd h2 (j : Int) < rd m2 (j : Int)) = false := decide_eq_false (by have := hg.2; omega)
                have HMX := Aside0.mk (Kd.C_max HCn.out.2)
                clear hu HU hcn hcm hg
                go_wp2
                repeat (go_quiet (fail); try go_wp2)
                go_roundg d
                case measure => omega
                case rel => exact ⟨j + 1, by have := HMX.out; first | rfl | (congr 1; omega) | (congr 1; unfold wrap64; omega), by omega, HU2, ⟨by repeat (first | (with_reducible first | exact HI.out | apply below_alloc | apply pw_below_drewN | apply below_drew1) | exact HI.out)⟩⟩
              · rw [if_neg hg] at hu; cases hu
            · obtain rfl : gk = 0 := by omega
              have g0 : decide ((j : Int) < (h2.length : Int)) = false := decide_eq_false (by omega)
              have g1 : decide (j < h2.length) = false := decide_eq_false hj
              have HBr := Aside0.mk (HB.out.trans (HI.out.mono HB.out.size))
              have HCr := Aside0.mk (Kd.C_below (Kd.C_below HCh.out.2 HBw.out) HI.out)
              clear HI HU hj hjd HB
              have he := HE.out
              unfold lessEnd at he
              by_cases hn1 : (l0.length : Int) < 1
              · rw [if_pos hn1] at he
                have HL := Aside0.mk he
                have k0 : decide ((l0.length : Int) < 1) = true := decide_eq_true hn1
                have k1 : decide (l0.length < 1) = true := decide_eq_true (by omega)
                clear he HE
                go_wp2_with (go_at_call 10; (with_reducible refine (argosylaw12_lives.calls k r _ HL.out).mono ?_); rintro e w3 ⟨rfl, hb⟩; have HB1 := Aside0.mk (below_step (show Below w.heap.size w _ from by repeat (first | (with_reducible first | exact HBr.out | apply below_alloc | apply pw_below_drewN | apply below_drew1) | exact HBr.out)) hb); clear hb)
                go_ret
                exact ⟨rfl, HB1.out⟩
              · rw [if_neg hn1] at he
                have k0 : decide ((l0.length : Int) < 1) = false := decide_eq_false hn1
                have k1 : decide (l0.length < 1) = false := decide_eq_false (by omega)
                by_cases hn2 : (l0.length : Int) > 64
                · rw [if_pos hn2] at he
                  have HL := Aside0.mk he
                  have k2 : decide ((64 : Int) < (l0.length : Int)) = true := decide_eq_true hn2
                  have k3 : decide (64 < l0.length) = true := decide_eq_true (by omega)
                  clear he HE
                  go_wp2_with (go_at_call 10; (with_reducible refine (argosylaw12_lives.calls k r _ HL.out).mono ?_); rintro e w3 ⟨rfl, hb⟩; have HB1 := Aside0.mk (below_step (show Below w.heap.size w _ from by repeat (first | (with_reducible first | exact HBr.out | apply below_alloc | apply pw_below_drewN | apply below_drew1) | exact HBr.out)) hb); clear hb)
                  go_ret
                  exact ⟨rfl, HB1.out⟩
                · rw [if_neg hn2] at he
                  obtain ⟨e, hce, he⟩ := Option.bind_eq_some_iff.mp he
                  by_cases he0 : e = 0
                  · rw [if_pos he0] at he
                    subst he0
                    have HL := Aside0.mk he
                    have HK := Aside0.mk hce
                    have k2 : decide ((64 : Int) < (l0.length : Int)) = false := decide_eq_false (by omega)
                    have k3 : decide (64 < l0.length) = false := decide_eq_false (by omega)
                    have hmx := Kd.C_max HCr.out
                    have hwq : wrap64 ((h1.length : Int) / 2) = ((h1.length / 2 : Nat) : Int) := by unfold wrap64; omega
                    have q0 := eq_true (show 0 ≤ wrap64 ((h1.length : Int) / 2) by rw [hwq]; omega)
                    have q1 := eq_true (show wrap64 ((h1.length : Int) / 2) ≤ (ch : Int) by rw [hwq]; have := HCh.out.1; omega)
                    have hlq : (wrap64 ((h1.length : Int) / 2)).toNat = (h1.take (h1.length / 2)).length := by rw [hwq, List.length_take, Int.toNat_natCast]; omega
                    have ck : ∀ W : World, Below wr.heap.size wr W → Calls Try.prog 19 #[.slice Ah (wrap64 ((h1.length : Int) / 2)).toNat ch, .int .i64 (l0.length : Int)] W fun e w' => e = .returned (.int .i64 0) ∧ Below W.heap.size W w' := fun W hb => by
                      rw [hlq]
                      exact merge_Check.calls k Ah ch (h1.take (h1.length / 2)) _ 0 W (Kd.C_below (C_takeL _ HCr.out) hb) (by have := HCh.out.1; rw [List.length_take]; omega) HK.out
                    have CK := Aside0.mk ck
                    clear he HE hce hmx hwq hlq ck
                    go_wp2_with (first | (go_at_call 19; (with_reducible refine (CK.out _ (by repeat (first | (with_reducible first | exact Below.refl _ _ | apply below_alloc | apply pw_below_drewN | apply below_drew1) | exact Below.refl _ _))).mono ?_); rintro e w4 ⟨rfl, hb⟩; have HBq := Aside0.mk (below_step (show Below w.heap.size w _ from by repeat (first | (with_reducible first | exact HBr.out | apply below_alloc | apply pw_below_drewN | apply below_drew1) | exact HBr.out)) hb); clear hb HBr; have HBr := HBq; clear HBq) | (go_at_call 10; (with_reducible refine (argosylaw12_lives.calls k r _ HL.out).mono ?_); rintro e w3 ⟨rfl, hb⟩; have HB1 := Aside0.mk (below_step (show Below w.heap.size w _ from by repeat (first | (with_reducible first | exact HBr.out | apply below_alloc | apply pw_below_drewN | apply below_drew1) | exact HBr.out)) hb); clear hb))
                    go_ret
                    exact ⟨rfl, HB1.out⟩
                  · rw [if_neg he0] at he; cases he
    · rw [if_neg hln] at h; cases h
end
def argosylaw12_MergeLess.f (k : Nat) (l0 : List (List S45)) (l1 : List Int) : Option Bool := lessF k l0 l1
theorem argosylaw12_MergeLess.calls (k : Nat) (A0 : Option Addr) (c0 : Nat) (l0 : List (List S45)) (A1 : Option Addr) (c1 : Nat) (l1 : List Int) (r : Bool) (w : World) (hr0 : Kd.C (Kd.slice 45 k45) w A0 l0.length l0) (hc0 : l0.length ≤ c0) (hr1 : Kd.C (Kd.int .u8) w A1 l1.length l1) (hc1 : l1.length ≤ c1) (h : argosylaw12_MergeLess.f k l0 l1 = some r) :
    Calls Try.prog 8 #[.slice A0 l0.length c0, .slice A1 l1.length c1] w fun e w' => e = .returned (.bool r) ∧ Below w.heap.size w w' := own_Less k A0 c0 l0 A1 c1 l1 r w hr0 hc0 hr1 hc1 h
theorem argosylaw12_MergeLess_k45_opens {H : Type} {enc : TypeId × Value → H} {w : World} {spare : Nat → Bool} {held : Bool} : pfOpens enc Try.prog w spare held k45 45 (fun x : S45 => ((Lit.int .i64 x.f0).wf = true ∧ (Lit.int .i64 x.f1).wf = true ∧ (Lit.int .i64 x.f2).wf = true ∧ (x.f3.length * 8 ≤ 140737488351232 ∧ ∀ y0 ∈ x.f3, (Lit.int .i64 y0).wf = true))) := by
  intro fuel cs x h hw
  obtain ⟨hl, n, hf⟩ := pf_fields Try.underlying45 (by kernel_rfl) (by kernel_rfl) h hw
  match cs, hl with
  | [v0, v1, v2, v3], _ =>
    obtain ⟨_, h0, g0⟩ := hf 0 _ v0 rfl rfl
    obtain ⟨_, h1, g1⟩ := hf 1 _ v1 rfl rfl
    obtain ⟨_, h2, g2⟩ := hf 2 _ v2 rfl rfl
    obtain ⟨_, h3, g3⟩ := hf 3 _ v3 rfl rfl
    obtain ⟨x0, e0, q0⟩ := (pfOpens_int .i64 (by kernel_rfl)) _ _ _ h0 g0
    obtain ⟨x1, e1, q1⟩ := (pfOpens_int .i64 (by kernel_rfl)) _ _ _ h1 g1
    obtain ⟨x2, e2, q2⟩ := (pfOpens_int .i64 (by kernel_rfl)) _ _ _ h2 g2
    obtain ⟨x3, e3, q3⟩ := (pfOpens_slice (0 : Int) 8 (by kernel_rfl) (by kernel_rfl) (by kernel_rfl) (pfOpens_int .i64 (by kernel_rfl))) _ _ _ h3 g3
    exact ⟨⟨x0, x1, x2, x3⟩, ⟨[v0], _, rfl, e0, [v1], _, rfl, e1, [v2], _, rfl, e2, e3⟩, q0, q1, q2, q3⟩

/-- THE ONE PURE STATEMENT of argosylaw12_MergeLess: yours. -/
def argosylaw12_MergeLess.Pure : Prop := ∀ (l0 : List (List (S45))) (l1 : List Int), l0.length * 24 ≤ 140737488351232 → (∀ s ∈ l0, (s.length * 48 ≤ 140737488351232 ∧ ∀ y0 ∈ s, ((Lit.int .i64 y0.f0).wf = true ∧ (Lit.int .i64 y0.f1).wf = true ∧ (Lit.int .i64 y0.f2).wf = true ∧ (y0.f3.length * 8 ≤ 140737488351232 ∧ ∀ y1 ∈ y0.f3, (Lit.int .i64 y1).wf = true)))) → l1.length ≤ maxLen → l1.length * 1 ≤ 140737488351232 → (∀ x ∈ l1, (Lit.int .u8 x).wf = true) → ∃ k, argosylaw12_MergeLess.f k l0 l1 = some true
theorem argosylaw12_MergeLess.walk (P : argosylaw12_MergeLess.Pure) (a0 : Option Addr) (cap0 : Nat) (l0 : List (List (S45))) (a1 : Option Addr) (len1 cap1 : Nat) (z1 : List Int) (w : World) (hr0 : Kd.C (Kd.slice 45 k45) w a0 l0.length l0) (hc0 : l0.length ≤ cap0) (hm0 : l0.length * 24 ≤ 140737488351232) (hs0 : ∀ s ∈ l0, (s.length * 48 ≤ 140737488351232 ∧ ∀ y0 ∈ s, ((Lit.int .i64 y0.f0).wf = true ∧ (Lit.int .i64 y0.f1).wf = true ∧ (Lit.int .i64 y0.f2).wf = true ∧ (y0.f3.length * 8 ≤ 140737488351232 ∧ ∀ y1 ∈ y0.f3, (Lit.int .i64 y1).wf = true)))) (w1 : (a1 = none ∧ len1 = 0 ∧ cap1 = 0 ∧ z1 = []) ∨ ∃ x, a1 = some x ∧ len1 ≤ cap1 ∧ cap1 ≤ maxLen ∧ z1.length = cap1 ∧ (∀ i, i < z1.length → w.cell? (x.add i) = some (.int .u8 (z1.getD i 0))) ∧ ∀ n ∈ z1, (Lit.int .u8 n).wf = true) (y1 : len1 * 1 ≤ 140737488351232) :
    Calls Try.prog 8 #[.slice a0 l0.length cap0, .slice a1 len1 cap1] w fun e w' => e = .returned (.bool true) ∧ Below w.heap.size w w' := by
  obtain ⟨l1, rfl, hr1, hm1, hw1, hc1⟩ := ReadsInt.ofRowC w1
  obtain ⟨k, h⟩ := P l0 l1 hm0 hs0 hm1 y1 hw1
  refine (argosylaw12_MergeLess.calls k _ _ l0 _ _ l1 true w hr0 hc0 (Kd.C_of_reads (d := (0 : Int)) (h1 := fun _ => rfl) hr1) hc1 h).mono ?_
  rintro e w' ⟨rfl, hd⟩
  exact ⟨rfl, hd⟩

end Go.Proofs.Ytbkdogijkfampaa.PMergeLess
