-- Written by a patched print (wip/mkprint.py), for this claim.
import Derived.Test.YtbkdogijkfampaaPMergeLessx0
import Derived.Test.YtbkdogijkfampaaPMergeLessx1
namespace Go.Proofs.Ytbkdogijkfampaa.PMergeLess
open Go.RowKit Go.Proofs.YtbkdogijkfampaaW.PrintWords Go.Proofs.YtbkdogijkfampaaW.PrintLast Go.Proofs.YtbkdogijkfampaaW.PrintMore
attribute [local go_sem] max2_int min2_int max_two min_two max_three min_three max_four min_four   -- for this text's walks alone
set_option linter.unusedVariables false
set_option linter.unusedSimpArgs false

/-! ### merge_all: function 25 -/
section
open Go.Shelf
attribute [local go_sem] Oper.semAt_some
/-- The end of a round of one's own. -/
def minePost (l : Nat) (r : Loop) (R : Ending → World → Prop) : Exit → Act → World → Prop
  | .normal, _, W => W.heap[l]? = some (.loop { r with state := .busy }) ∧ R (.returned (.bool true)) (W.putObj l (.loop { r with state := .ready, pending := none }))
  | .ret, _, W => W.heap[l]? = some (.loop { r with state := .busy }) ∧ R (.returned (.bool false)) (W.putObj l (.loop { r with state := .done, pending := some .ret }))
  | _, _, _ => False
theorem yieldAt_mine {F : Fence} {n : Nat} {P : Program} {l : Nat} {r : Loop} {args : Array Value} {W : World} {R : Ending → World → Prop} (hfn : F.fn r.fn) (hr : W.heap[l]? = some (.loop r)) (hst : r.state = .ready) (hs : args.size = r.params.size)
    (h : ∀ K : Act → World → Prop, (∀ a1 W1, W1.heap[l]? = some (.loop r) → r.body.wpIn (F.inRound l) n P (minePost l r R) a1 (W1.putObj l (.loop { r with state := .busy })) → K a1 W1) → r.assign.wpIn (F.inRound l) n P (Exit.then K (fun _ _ _ => False))
      { tmps := (r.params.zip args).foldl (fun t (p, v) => t.setIfInBounds p v) r.tmps, defers := [] } W) :
    YieldAt F n P l args W R := by
  refine ⟨r.fn, _, r.assign, r.body, run_yield hr hs, roundIn_of_wpIn hfn (wpIn_mono (h (fun a1 W1 => W1.heap[l]? = some (.loop r) ∧ r.body.wpIn (F.inRound l) n P (minePost l r R) a1 (W1.putObj l (.loop { r with state := .busy }))) (fun _ _ h1 h2 => ⟨h1, h2⟩)) ?_)⟩
  rintro e a1 W1 hp
  cases e with
  | normal =>
    obtain ⟨h1, h2⟩ := hp
    refine ⟨_, run_beginRound h1 hst, wpIn_mono h2 ?_⟩
    rintro e a2 W2 hq
    cases e with
    | normal =>
      obtain ⟨h3, h4⟩ := hq
      exact ⟨_, _, run_endRound none h3, h4⟩
    | ret =>
      obtain ⟨h3, h4⟩ := hq
      exact ⟨_, _, run_endRound (some .ret) h3, h4⟩
    | exit id => exact hq.elim
    | goto t => exact hq.elim
    | panic c => exact hq.elim
    | outgrown => exact hq.elim
  | _ => exact hp.elim
theorem range_mine {F : Fence} {n : Nat} {P : Program} {g : Operand} {ps : Array Tmp} {assign body : Code} {Q : Exit → Act → World → Prop} {a : Act} {w : World} (hro : F.round = none) (h1 : 1 ≤ n) {gf : Nat} {lb : Array Value}
    (hg : a.eval g = .func (.func gf) #[] lb) (hFg : F.fn gf) (eg : ∀ args w, (callFunc gf args).run P w = .ok (.enter gf args) w)
    (h : ∀ r : Loop, F.fn r.fn → r.state = .ready → r.pending = none → r.tmps = a.tmps → r.params = ps → r.assign = assign → r.body = body → CallsIn F (n - 1) P gf (#[.func (.yield (w.heap.size + 1)) #[] #[]] ++ lb) ((w.alloc (.deferred (some []))).alloc (.loop r)) fun e W =>
      (∃ v, e = .returned v) ∧ ∃ st pe, st ≠ LoopState.busy ∧ W.heap[w.heap.size + 1]? = some (.loop { r with state := st, pending := pe }) ∧
        (match pe with
         | none => Q .normal { a with defers := { target := .collected w.heap.size, args := #[] } :: a.defers } (W.putObj (w.heap.size + 1) (.loop { r with state := .exhausted, pending := pe }))
         | some c => c.wpIn F n P Q { a with defers := { target := .collected w.heap.size, args := #[] } :: a.defers } (W.putObj (w.heap.size + 1) (.loop { r with state := .exhausted, pending := pe })))) :
    (Code.rangeFunc g ps assign body).wpIn F n P Q a w := by
  refine wpIn_rangeFunc fun fn hfn => ?_
  rw [hro]
  refine ⟨w.heap.size + 1, [{ target := .collected w.heap.size, args := #[] }], ((w.alloc (.deferred (some []))).alloc (.loop { state := .ready, pending := none, fn, tmps := a.tmps, params := ps, assign, body, defers := w.heap.size })), { target := .fn (.func gf) lb, args := #[.func (.yield (w.heap.size + 1)) #[] #[]] }, ((w.alloc (.deferred (some []))).alloc (.loop { state := .ready, pending := none, fn, tmps := a.tmps, params := ps, assign, body, defers := w.heap.size })), gf, #[.func (.yield (w.heap.size + 1)) #[] #[]] ++ lb, ((w.alloc (.deferred (some []))).alloc (.loop { state := .ready, pending := none, fn, tmps := a.tmps, params := ps, assign, body, defers := w.heap.size })), run_enterLoop_outer _ _ _ _ _, ?_, ?_, ?_, fun _ => h1, ?_⟩
  · simp only [resolve, hg]
    simp [go_sem]
  · intro f' hf'; simp [Target.leads] at hf'; subst hf'; exact hFg
  · simp [invoke, go_sem, eg]
  · refine (h { state := .ready, pending := none, fn, tmps := a.tmps, params := ps, assign, body, defers := w.heap.size } hfn rfl rfl rfl rfl rfl rfl).mono ?_
    rintro e W ⟨⟨v, rfl⟩, st, pe, hst, hl, hq⟩
    exact ⟨pe, _, run_endLoop hl hst, hq⟩
def rdLL (xs : List (List S45)) (i : Int) : (List S45) := xs.getD i.toNat ([] : List S45)
theorem at_LL {w : World} {A : Option Addr} {n : Nat} {xs : List (List S45)} (h : Kd.C (Kd.slice 45 k45) w A n xs) (i : Int) (h0 : 0 ≤ i) (h1 : i < n) : ∃ ad A0 c0, A = some ad ∧ w.cell? (ad.add i.toNat) = some (.slice A0 (rdLL xs i).length c0) ∧ (rdLL xs i).length ≤ c0 ∧ k45.C w A0 (rdLL xs i).length (rdLL xs i) := by
  obtain ⟨ad, c, e, _, hK, hc0⟩ := Kd.C_get h ([] : List S45) i h0 h1
  have hc : ∀ j u, c[j]? = some u → w.cell? (ad.add (i.toNat * 1 + j)) = some u := hc0
  obtain ⟨A0, c0, rfl, l0, g0⟩ := hK
  exact ⟨ad, A0, c0, e, by have hq := hc 0 _ rfl; rwa [Nat.mul_one, Nat.add_zero] at hq, l0, g0⟩

def evM (l0 : List (List S45)) (hv : List Int) (i : Int) : S45 := rd_T45 (rdLL l0 i) (rd hv i)
def canM (l0 : List (List S45)) (hv : List Int) (i : Int) : Option Bool :=
  if rd hv i < ((rdLL l0 i).length : Int) then merge_next.f hv (evM l0 hv i).f0 (evM l0 hv i).f1 (evM l0 hv i).f2 (evM l0 hv i).f3 i else some false
def pickM (l0 : List (List S45)) (hv : List Int) : Nat → Nat → Option (Option Nat)
  | 0, _ => some none
  | d + 1, i => (canM l0 hv (i : Int)).bind fun t => if t = true then some (some i) else pickM l0 hv d (i + 1)
def genM (l0 : List (List S45)) : Nat → List Int → List S45 → Option (List S45 × List Int)
  | 0, _, _ => none
  | k + 1, hv, out => (pickM l0 hv l0.length 0).bind fun p => match p with
    | none => some (out, hv)
    | some i => if out.length < 2932031007402 then genM l0 k (hv.set i (wrap64 (rd hv (i : Int) + 1))) (out ++ [evM l0 hv (i : Int)]) else none
theorem cell_b {W0 W : World} {a : Addr} {v : Value} (hb : Below W0.heap.size W0 W) (h : W0.cell? a = some v) : W.cell? a = some v := by
  have hlt : a.block < W0.heap.size := by
    unfold World.cell? at h
    cases hx : W0.heap[a.block]? with
    | none => simp [hx] at h
    | some o => exact (Array.getElem?_eq_some_iff.1 hx).1
  rw [World.cell?_of_block (hb.block _ hlt)]
  exact h
theorem ev_at {W : World} {okV : Nat → Prop} {base : Nat} {A0 : Option Addr} {c0 : Nat} {l0 : List (List S45)} (hV : Kd.V (Kd.slice 45 k45) 25 W base okV (.slice A0 l0.length c0) l0) (i : Nat) (hi : i < l0.length) :
    ∃ ad A1 c1, A0 = some ad ∧ W.cell? (ad.add i) = some (.slice A1 (rdLL l0 (i : Int)).length c1) ∧ (rdLL l0 (i : Int)).length ≤ 9223372036854775807 ∧ (∀ j : Int, 0 ≤ j → j < ((rdLL l0 (i : Int)).length : Int) →
      ∃ ad2 A3 c3, A1 = some ad2 ∧ W.cell? (ad2.add (j.toNat * 4)) = some (.int .i64 (rd_T45 (rdLL l0 (i : Int)) j).f0) ∧ W.cell? ⟨(ad2.add (j.toNat * 4)).block, (ad2.add (j.toNat * 4)).off + 1, none⟩ = some (.int .i64 (rd_T45 (rdLL l0 (i : Int)) j).f1) ∧ W.cell? ⟨(ad2.add (j.toNat * 4)).block, (ad2.add (j.toNat * 4)).off + 2, none⟩ = some (.int .i64 (rd_T45 (rdLL l0 (i : Int)) j).f2) ∧ W.cell? ⟨(ad2.add (j.toNat * 4)).block, (ad2.add (j.toNat * 4)).off + 3, none⟩ = some (.slice A3 (rd_T45 (rdLL l0 (i : Int)) j).f3.length c3) ∧ (rd_T45 (rdLL l0 (i : Int)) j).f3.length ≤ c3 ∧ (Kd.int .i64).C W A3 (rd_T45 (rdLL l0 (i : Int)) j).f3.length (rd_T45 (rdLL l0 (i : Int)) j).f3 ∧
        Kd.FK k45 W okV (rd_T45 (rdLL l0 (i : Int)) j) [.int .i64 (rd_T45 (rdLL l0 (i : Int)) j).f0, .int .i64 (rd_T45 (rdLL l0 (i : Int)) j).f1, .int .i64 (rd_T45 (rdLL l0 (i : Int)) j).f2, .slice A3 (rd_T45 (rdLL l0 (i : Int)) j).f3.length c3]) := by
  obtain ⟨ad, A1, c1, rfl, hc1, hl1, hC1⟩ := at_LL (Kd.V_reads' hV).2.2 (i : Int) (by omega) (by omega)
  obtain ⟨cs, hcl, hF, hcc⟩ := Kd.V_get hV ([] : List S45) (i : Int) (by omega) (by omega)
  obtain ⟨A1', c1', rfl, hl', hF1⟩ := Kd.FK_slice_open hF
  have hc1' : W.cell? (ad.add (i : Int).toNat) = some (.slice A1' (l0.getD (i : Int).toNat []).length c1') := by
    have := hcc 0 _ rfl
    rwa [show (i : Int).toNat * (Kd.slice 45 k45).sz + 0 = (i : Int).toNat from by show (i : Int).toNat * 1 + 0 = _; omega] at this
  rw [hc1] at hc1'
  have e := Option.some.inj hc1'
  injection e with e1 e2 e3
  subst e1
  subst e3
  refine ⟨ad, A1, c1, rfl, by rw [Int.toNat_natCast] at hc1; exact hc1, Kd.C_max hC1, fun j h0 h1 => ?_⟩
  have hV1 : Kd.V k45 45 W base okV (.slice A1 (rdLL l0 (i : Int)).length c1) (rdLL l0 (i : Int)) := Kd.V_mk hl1 hF1
  obtain ⟨ad2, A3, c3, rfl, k0, k1, k2, k3, hl3, hC3⟩ := at_T45 (Kd.V_reads' hV1).2.2 j h0 h1
  obtain ⟨cs2, _, hF2, hcc2⟩ := Kd.V_get hV1 z45 j h0 h1
  obtain ⟨A3', c3', rfl, hl3', hF3⟩ := k45_openF hF2
  have k3' : W.cell? ⟨(ad2.add (j.toNat * 4)).block, (ad2.add (j.toNat * 4)).off + 3, none⟩ = some (.slice A3' ((rdLL l0 (i : Int)).getD j.toNat z45).f3.length c3') := by
    have := hcc2 3 _ rfl
    rw [← add_field _ _ 3 (by omega)]
    exact this
  rw [k3] at k3'
  have e := Option.some.inj k3'
  injection e with e1 e2 e3
  subst e1
  subst e3
  exact ⟨ad2, A3, c3, rfl, k0, k1, k2, k3, hl3, hC3, hF2⟩
theorem rd_set (hv : List Int) (i : Nat) (v : Int) (hi : i < hv.length) (j : Int) : rd (hv.set i v) j = if j.toNat = i then v else rd hv j := by
  unfold rd
  rw [List.getD_eq_getElem?_getD, List.getD_eq_getElem?_getD, List.getElem?_set]
  by_cases h : i = j.toNat
  · rw [if_pos h, if_pos h.symm]
    subst h
    simp [hi]
  · rw [if_neg h, if_neg (fun e => h e.symm)]
structure keepM (n0 Bl Bh g : Nat) (w0 W W' : World) : Prop where
  below : Below n0 w0 W'
  bl : W'.heap[Bl]? = W.heap[Bl]?
  bh : W'.heap[Bh]? = W.heap[Bh]?
  hg : W'.heap[g]? = W.heap[g]?
  size : W.heap.size ≤ W'.heap.size
set_option maxRecDepth 100000 in
set_option maxHeartbeats 2000000 in
theorem own_all1 (n l Bl Bh g cap : Nat) (A0 : Option Addr) (c0 : Nat) (l0 : List (List S45)) (okV : Nat → Prop) (hn : l0.length ≤ 64) (w0 : World)
    (hV : ∀ W, Below w0.heap.size w0 W → Kd.V (Kd.slice 45 k45) 25 W w0.heap.size okV (.slice A0 l0.length c0) l0)
    (J : List S45 → World → Prop) (hJb : ∀ pre W W', J pre W → Below W.heap.size W W' → J pre W') (hJw : ∀ pre W j v, J pre W → J pre (W.setCell ⟨g, j, none⟩ v))
    (hg0 : w0.heap.size ≤ g) (hBl0 : Bl ≠ g) (hBh0 : Bh ≠ g)
    (hY : ∀ pre x A3 c3 i W1, J pre W1 → Below w0.heap.size w0 W1 → pre.length < 2932031007402 → x.f3.length ≤ c3 → Kd.FK k45 W1 okV x [.int .i64 x.f0, .int .i64 x.f1, .int .i64 x.f2, .slice A3 x.f3.length c3] →
      YieldAt Fence.wide (n - 1) Try.prog l #[.agg #[.int .i64 x.f0, .int .i64 x.f1, .int .i64 x.f2, .slice A3 x.f3.length c3, .int .i64 i]] W1 fun e W' => e = .returned (.bool true) ∧ J (pre ++ [x]) W' ∧ keepM w0.heap.size Bl Bh g w0 W1 W')
    (k : Nat) (hv0 : List Int) (out0 r1 : List S45) (r2 : List Int) (W : World) (h : genM l0 k hv0 out0 = some (r1, r2)) (hlen : hv0.length = l0.length) (hpos : ∀ i, 0 ≤ rd hv0 i)
    (hJ : J out0 W) (hWb : Below w0.heap.size w0 W) (hBl : Boxed W Bl 22 (.slice A0 l0.length c0)) (hBh : Boxed W Bh 26 (.slice (some ⟨g, 0, none⟩) hv0.length cap)) (hR : Kd.R (Kd.int .i64) 3 W w0.heap.size (fun k => k = g) (.slice (some ⟨g, 0, none⟩) hv0.length cap) hv0) :
    CallsIn Fence.wide n Try.prog 33 #[.func (.yield l) #[] #[], .pointer (some ⟨Bl, 0, none⟩), .pointer (some ⟨Bh, 0, none⟩)] W fun e W' => (∃ v, e = .returned v) ∧ J r1 W' ∧ Below w0.heap.size w0 W' ∧ Kd.R (Kd.int .i64) 3 W' w0.heap.size (fun k => k = g) (.slice (some ⟨g, 0, none⟩) r2.length cap) r2 ∧ r2.length = l0.length := by
  refine callsIn_wide.2 ?_
  have HV0 := Aside0.mk hV
  have HJb := Aside0.mk hJb
  have HJw := Aside0.mk hJw
  have HY := Aside0.mk hY
  clear hV hJb hJw hY
  go_enter Try.func33, Try.ntmps33
  go_wp2
  go_step3
  go_wp2
  go_step3
  go_wp2
  go_loopg [] k (fun kq wr => ∃ (hv : List Int) (out : List S45), Aside0 (genM l0 kq hv out = some (r1, r2)) ∧ hv.length = l0.length ∧ Aside0 (∀ i, 0 ≤ rd hv i) ∧ Aside0 (J out wr) ∧ Aside0 (Below w0.heap.size w0 wr) ∧ Boxed wr Bl 22 (.slice A0 l0.length c0) ∧ Boxed wr Bh 26 (.slice (some ⟨g, 0, none⟩) hv.length cap) ∧ Aside0 (Kd.R (Kd.int .i64) 3 wr w0.heap.size (fun k => k = g) (.slice (some ⟨g, 0, none⟩) hv.length cap) hv))
  case atStart => exact ⟨hv0, out0, ⟨h⟩, hlen, ⟨hpos⟩, ⟨hJ⟩, ⟨hWb⟩, hBl, hBh, ⟨hR⟩⟩
  case round =>
    clear h hlen hpos hJ hWb hBl hBh hR
    obtain ⟨hv, out, HG, hlen, HP, HJ, HB, bL, bH, HR⟩ := hrel
    have HL := Aside0.mk hlen
    clear hlen
    cases gk with
    | zero => exact absurd HG.out (by simp [genM])
    | succ kf =>
      have H := HG.out
      clear HG
      simp only [genM] at H
      obtain ⟨p, hp, H⟩ := Option.bind_eq_some_iff.mp H
      have HP1 := Aside0.mk hp
      have HH := Aside0.mk H
      clear hp H
      have cL := bL.cell
      have cH := bH.cell
      go_wp2
      clear cL cH
      go_loopg [9] l0.length (fun d v9 wx => ∃ i : Nat, v9 = .int .i64 (i : Int) ∧ i + d = l0.length ∧ Aside0 (pickM l0 hv d i = some p) ∧ Aside0 (J out wx) ∧ Aside0 (Below w0.heap.size w0 wx) ∧ Boxed wx Bl 22 (.slice A0 l0.length c0) ∧ Boxed wx Bh 26 (.slice (some ⟨g, 0, none⟩) hv.length cap) ∧ Aside0 (Kd.R (Kd.int .i64) 3 wx w0.heap.size (fun k => k = g) (.slice (some ⟨g, 0, none⟩) hv.length cap) hv))
      case atStart => exact ⟨0, rfl, by omega, HP1, HJ, HB, bL, bH, HR⟩
      case round =>
        clear HP1 HJ HB bL bH HR
        obtain ⟨i, rfl, hid, HP1, HJ, HB, bL, bH, HR⟩ := hrel
        have cL := bL.cell
        have cH := bH.cell
        by_cases hi : i < l0.length
        · obtain ⟨d, rfl⟩ : ∃ d, gk = d + 1 := ⟨gk - 1, by omega⟩
          have H := HP1.out
          clear HP1
          simp only [pickM] at H
          obtain ⟨t, ht, H⟩ := Option.bind_eq_some_iff.mp H
          have HT := Aside0.mk ht
          have HH2 := Aside0.mk H
          clear ht H
          obtain ⟨ad, A1, c1, e1, hc0, hmax, hE⟩ := ev_at (HV0.out w0 (Below.refl _ _)) i hi
          have hc1 := cell_b HB.out hc0
          have HMX := Aside0.mk hmax
          clear hc0 hmax
          have HE := Aside0.mk hE
          clear hE
          have hdH := Kd.R_cell (0 : Int) HR.out (i : Int) (by omega) (by have := HL.out; omega)
          have hd1 : wr.cell? ⟨g, (i : Int).toNat, none⟩ = some (.int .i64 (rd hv (i : Int))) := hdH.1
          have hd2 := hdH.2
          clear hdH
          subst e1
          rw [Int.toNat_natCast] at hd1 hd2
          have i0 := eq_true (show (0 : Int) ≤ (i : Int) by omega)
          have i1 := eq_true (show (i : Int) < (l0.length : Int) by omega)
          have i2 := eq_true (show (i : Int) < (hv.length : Int) by have := HL.out; omega)
          have i1b : decide ((i : Int) < (l0.length : Int)) = true := decide_eq_true (by omega)
          by_cases hlt : rd hv (i : Int) < ((rdLL l0 (i : Int)).length : Int)
          · obtain ⟨ad2, A3, c3, e2, j0, j1, j2, j3, hl3, hC3, hF3⟩ := HE.out (rd hv (i : Int)) (HP.out _) hlt
            clear HE
            subst e2
            have ht := HT.out
            unfold canM at ht
            rw [if_pos hlt] at ht
            clear HT
            have hx : ∃ x, evM l0 hv (i : Int) = x := ⟨_, rfl⟩
            obtain ⟨x, hx⟩ := hx
            have hx2 : rd_T45 (rdLL l0 (i : Int)) (rd hv (i : Int)) = x := hx
            rw [hx2] at j0 j1 j2 j3 hl3 hC3 hF3
            have k0 := cell_b HB.out j0
            have k1 := cell_b HB.out j1
            have k2 := cell_b HB.out j2
            have k3 := cell_b HB.out j3
            have J0 := Aside0.mk j0
            have J1 := Aside0.mk j1
            have J2 := Aside0.mk j2
            have J3 := Aside0.mk j3
            clear j0 j1 j2 j3
            replace hC3 := Kd.C_below hC3 HB.out
            rw [hx] at ht
            have HT := Aside0.mk ht
            have hcap := (Kd.R_reads' HR.out).2.1
            have hCH := (Kd.R_reads' HR.out).2.2
            have p0 := eq_true (HP.out (i : Int))
            have p1 := eq_true hlt
            have hltb : decide (rd hv (i : Int) < ((rdLL l0 (i : Int)).length : Int)) = true := decide_eq_true hlt
            have HF3 := Aside0.mk hF3
            clear ht hx2 hF3
            cases t with
            | false =>
              have H := HH2.out
              rw [if_neg (by decide)] at H
              have HP1 := Aside0.mk H
              clear HH2 H hlt hx
              have hmo : Try.prog.follows .mixedOrders = true := by kernel_rfl
              refine (wpIn_wide (n := n)).1 ?_
              gi_wp2
              gi_region_with_o (first | (refine ⟨trivial, wide_room, ?_⟩; gi_at_call 34; (with_reducible refine (CallsIn.mono (callsIn_wide.2 (merge_next.calls (some ⟨g, 0, none⟩) cap hv x.f0 x.f1 x.f2 A3 c3 x.f3 (i : Int) _ _ ?s1 hcap ?s3 hl3 HT.out)) ?_)); (case s1 => repeat (first | exact hCH | (with_reducible refine Kd.C_alloc ?_ _) | (with_reducible refine Kd.C_drewN ?_ _) | (with_reducible refine Kd.C_drew ?_))); (case s3 => repeat (first | exact hC3 | (with_reducible refine Kd.C_alloc ?_ _) | (with_reducible refine Kd.C_drewN ?_ _) | (with_reducible refine Kd.C_drew ?_))); rintro e w' ⟨rfl, hb⟩; have HQ := Aside0.mk (below_step (show Below wr.heap.size wr _ from by repeat (first | (with_reducible first | exact Below.refl _ _ | apply below_alloc | apply pw_below_drewN | apply below_drew1) | exact Below.refl _ _)) hb); clear hb))
              all_goals
                gi_wp2
                go_roundg d
                case measure => omega
                case rel => exact ⟨i + 1, by first | rfl | (congr 1; omega), by omega, HP1, ⟨HJb.out _ _ _ HJ.out HQ.out⟩, ⟨HB.out.trans (HQ.out.mono HB.out.size)⟩, (HQ.out.block Bl (Array.getElem?_eq_some_iff.1 bL).1).trans bL, (HQ.out.block Bh (Array.getElem?_eq_some_iff.1 bH).1).trans bH, ⟨Kd.R_below HR.out HQ.out⟩⟩
            | true =>
              have H := HH2.out
              rw [if_pos rfl] at H
              obtain rfl := Option.some.inj H
              have H := HH.out
              simp only at H
              clear HH2 HH hlt
              by_cases hol : out.length < 2932031007402
              · rw [if_pos hol, hx] at H
                have HG := Aside0.mk H
                clear H hx
                have hmo : Try.prog.follows .mixedOrders = true := by kernel_rfl
                refine (wpIn_wide (n := n)).1 ?_
                gi_wp2
                gi_region_with_o (first | (refine ⟨trivial, wide_room, ?_⟩; gi_at_call 34; (with_reducible refine (CallsIn.mono (callsIn_wide.2 (merge_next.calls (some ⟨g, 0, none⟩) cap hv x.f0 x.f1 x.f2 A3 c3 x.f3 (i : Int) _ _ ?s1 hcap ?s3 hl3 HT.out)) ?_)); (case s1 => repeat (first | exact hCH | (with_reducible refine Kd.C_alloc ?_ _) | (with_reducible refine Kd.C_drewN ?_ _) | (with_reducible refine Kd.C_drew ?_))); (case s3 => repeat (first | exact hC3 | (with_reducible refine Kd.C_alloc ?_ _) | (with_reducible refine Kd.C_drewN ?_ _) | (with_reducible refine Kd.C_drew ?_))); rintro e w' ⟨rfl, hb⟩; have HQ := Aside0.mk (below_step (show Below wr.heap.size wr _ from by repeat (first | (with_reducible first | exact Below.refl _ _ | apply below_alloc | apply pw_below_drewN | apply below_drew1) | exact Below.refl _ _)) hb); clear hb))
                all_goals
                  have bL2 : Boxed w' Bl 22 (.slice (some ad) l0.length c0) := (HQ.out.block Bl (Array.getElem?_eq_some_iff.1 bL).1).trans bL
                  have bH2 : Boxed w' Bh 26 (.slice (some ⟨g, 0, none⟩) hv.length cap) := (HQ.out.block Bh (Array.getElem?_eq_some_iff.1 bH).1).trans bH
                  have HB2 := Aside0.mk (HB.out.trans (HQ.out.mono HB.out.size))
                  have HJ2 := Aside0.mk (HJb.out _ _ _ HJ.out HQ.out)
                  have HR2 := Aside0.mk (Kd.R_below HR.out HQ.out)
                  have hdH := Kd.R_cell (0 : Int) HR2.out (i : Int) (by omega) (by have := HL.out; omega)
                  have hd3 : w'.cell? ⟨g, (i : Int).toNat, none⟩ = some (.int .i64 (rd hv (i : Int))) := hdH.1
                  have hd4 := hdH.2
                  rw [Int.toNat_natCast] at hd3 hd4
                  have cL2 := bL2.cell
                  have cH2 := bH2.cell
                  obtain ⟨hR3, hgr⟩ := Kd.R_put HR2.out (i : Int) (wrap64 (rd hv (i : Int) + 1))
                  rw [Int.toNat_natCast] at hR3 hgr
                  clear hdH
                  have hb3 : Below w0.heap.size w0 (w'.setCell ⟨g, i, none⟩ (.int .i64 (wrap64 (rd hv (i : Int) + 1)))) := HB2.out.grown hgr HB2.out.size (fun k e => by cases e; exact hg0)
                  have HB3 := Aside0.mk hb3
                  have q0 := cell_b hb3 J0.out
                  have q1 := cell_b hb3 J1.out
                  have q2 := cell_b hb3 J2.out
                  have q3 := cell_b hb3 J3.out
                  obtain ⟨fn, tmps, assign, body, hyy, hYR⟩ := HY.out out x A3 c3 (i : Int) _ (HJw.out out w' i (.int .i64 (wrap64 (rd hv (i : Int) + 1))) HJ2.out) hb3 hol hl3 (Kd.FK_below HF3.out hb3)
                  have HYR := Aside0.mk hYR
                  have HR3 := Aside0.mk hR3
                  have HGR := Aside0.mk hgr
                  clear hYR hb3 hR3 hgr
                  gi_wp2_with (refine ⟨wide_room, ?_⟩; (with_reducible refine RoundIn.mono HYR.out ?_); rintro e W3 ⟨rfl, hJ3, hk3⟩; have HJ3 := Aside0.mk hJ3; have HK3 := Aside0.mk hk3; clear hJ3 hk3)
                  go_roundg kf
                  case measure => omega
                  case rel =>
                    have bL3 : W3.heap[Bl]? = w'.heap[Bl]? := HK3.out.bl.trans (HGR.out.block Bl (Array.getElem?_eq_some_iff.1 bL2).1 (fun e => hBl0 (Option.some.inj e)))
                    have bH3 : W3.heap[Bh]? = w'.heap[Bh]? := HK3.out.bh.trans (HGR.out.block Bh (Array.getElem?_eq_some_iff.1 bH2).1 (fun e => hBh0 (Option.some.inj e)))
                    refine ⟨hv.set i (wrap64 (rd hv (i : Int) + 1)), out ++ [x], HG, by rw [List.length_set]; exact HL.out, ⟨fun j => ?_⟩, HJ3, ⟨HK3.out.below⟩, bL3.trans bL2, by rw [List.length_set]; exact bH3.trans bH2, ⟨?_⟩⟩
                    · rw [rd_set hv i _ (by have := HL.out; omega)]
                      have h1 := HP.out (i : Int)
                      have h2 := of_eq_true p1
                      have h3 := HMX.out
                      split
                      · unfold wrap64; omega
                      · exact HP.out j
                    · rw [List.length_set]
                      exact Kd.R_step HR3.out (fun k hk _ => by subst hk; exact HK3.out.hg)
              · rw [if_neg hol] at H
                cases H
          · have ht := HT.out
            clear HT
            unfold canM at ht
            rw [if_neg hlt] at ht
            obtain rfl := Option.some.inj ht
            have H := HH2.out
            rw [if_neg (by decide)] at H
            have HP1 := Aside0.mk H
            have hltb : decide (rd hv (i : Int) < ((rdLL l0 (i : Int)).length : Int)) = false := decide_eq_false hlt
            clear HH2 H ht hlt HE
            go_wp2
            repeat (go_quiet (fail); try go_wp2)
            go_roundg d
            case measure => omega
            case rel => exact ⟨i + 1, by first | rfl | (congr 1; omega), by omega, HP1, ⟨HJb.out _ _ _ HJ.out (pw_below_drewN (Below.refl _ _) _)⟩, ⟨pw_below_drewN HB.out _⟩, bL, bH, ⟨Kd.R_drewN HR.out _⟩⟩
        · obtain rfl : gk = 0 := by omega
          have H := HP1.out
          clear HP1
          simp only [pickM] at H
          obtain rfl := Option.some.inj H
          have H := HH.out
          simp only [Option.some.injEq, Prod.mk.injEq] at H
          obtain ⟨rfl, rfl⟩ := H
          have i1b : decide ((i : Int) < (l0.length : Int)) = false := decide_eq_false (by omega)
          go_wp2
          refine bodyPost_ret (results_none rfl _ _ _) rfl ?_
          exact ⟨⟨_, rfl⟩, HJ.out, HB.out, HR.out, HL.out⟩
theorem wpListIn_N_append {α : Type} {F : Fence} {n : Nat} {P : Program} {ops : Array Oper} {rest : List Oper} {o : Oper} {a : Act} {Q : Exit → Act → World → Prop} (d : Kd α) {w0 W : World} (base : Nat) (hgd : o.guard = none) (s x : Operand) (t e : TypeId) (z : Value) (bytes : Nat)
    (ho : o.op = .call { callee := .builtin .append, args := #[s, x], argTypes := #[t, t] })
    (ht : P.underlying t = some (.slice e)) (hinfo : (P.info? e).map (fun i => (i.zero, i.size, i.bytes)) = some (some z, d.sz, bytes)) (hz : z.cells.size = d.sz) (hs0 : 0 < d.sz) (hb0 : 0 < bytes)
    (v : Value) (xs : List α) (p : α) (cs : List Value) (ok okp : Nat → Prop) (hs : a.eval s = v) (hx : a.eval x = .slice (some ⟨W.heap.size, 0, none⟩) 1 1) (hp : Kd.FK d W okp p cs) (hokp : ∀ k, okp k → ok k ∧ some k ≠ v.ownBlock) (hfresh : ∀ k, W.heap.size ≤ k → ok k)
    (HO : Kd.N d e W base ok v xs) (HB : Below base w0 W) (hbase : base ≤ W.heap.size) (hl : (xs.length + 1) * bytes ≤ 140737488355328)
    (h : ∀ v1 w1, Kd.N d e w1 base ok v1 (xs ++ [p]) → Below base w0 w1 → W.grownBy w1 v.ownBlock → (v1.ownBlock = v.ownBlock ∨ ∃ b, v1.ownBlock = some b ∧ W.heap.size ≤ b) → wpListIn F n P ops Q rest (a.put o.dst v1) w1) :
    wpListIn F n P ops Q (o :: rest) a (W.alloc (.cells cs.toArray e)) := by
  obtain ⟨h0, rows, hlr, hR, hf⟩ := HO
  obtain ⟨g0, inner, hown, hr⟩ := Kd.raw_any hR
  obtain ⟨i0, hi, hzz⟩ := Option.map_eq_some_iff.1 hinfo
  simp only [Prod.mk.injEq] at hzz
  obtain ⟨hz0, hz1, hz2⟩ := hzz
  have hcl : cs.length = d.sz := (Kd.FK_raw hp).2.1
  have hlen : rows.length + 1 ≤ 140737488355328 := by rw [hlr]; exact Nat.le_trans (Nat.le_mul_of_pos_right _ hb0) hl
  refine wpListIn_plain hgd fun K hK' => ?_
  obtain ⟨v1, w1, hrun, hown1, hg1, _, hat⟩ := run_append_own_at (P := P) (W.alloc (.cells cs.toArray e)) base t o.type e i0 z d.sz bytes ht hi hz0 hz1 hz2 hz hs0 v rows.length inner (hown.alloc _) ⟨W.heap.size, 0, none⟩ 1 1 cs (by rw [hcl]; simp)
    (by simpa using World.news_of_block (cs := cs.toArray) (t := e) (fr := (0, 0)) (heap_alloc_new W (.cells cs.toArray e))) (Kd.FK_raw hp).2.2 (by simp only [maxLen]; omega) (by rw [hlr]; exact hl) (by simp; omega)
  have hg : W.grownBy w1 v.ownBlock := World.grownBy.trans (World.grownBy_alloc W _ _) hg1
  have hat1 : v1.ownBlock = v.ownBlock ∨ ∃ b, v1.ownBlock = some b ∧ W.heap.size ≤ b := by
    rcases hat with hat | hat
    · exact .inl hat
    · exact .inr ⟨_, hat, by simp⟩
  have hr1 := Kd.R_appended (d := Kd.raw d.sz) (okp := fun _ => False) g0 hr (Kd.FK_raw hp) (fun _ hk => hk.elim) (fun _ _ => trivial) hown1 hg hat1
  have hN := Kd.N_appended h0 hlr hf (ys := [p]) (news := [cs]) rfl (fun j y c hy hc => by
    rcases j with _ | j
    · simp only [List.getElem?_cons_zero, Option.some.injEq] at hy hc
      rw [← hy, ← hc]; exact hp
    · simp at hy) hokp hfresh hr1 hg hat1
  unfold Oper.wpIn
  refine ⟨?_, ?_⟩
  · simp [Oper.about, ho, resolve, Target.leads, Sem.run_pure]
  · rw [Oper.semAt_plain F _ _ (by rw [ho]; intro c hc'; cases hc')]
    simp [execOp, ho, resolve, invoke, builtin, hs, hx, hrun, Result.andThen]
    exact hK' _ _ (h v1 w1 hN ((HB.alloc hbase _).grown hg1 (by simp; omega) (own_base hown)) hg hat1)
theorem own_allM (A0 A1 : Option Addr) (n0 c0 n1 c1 : Nat) (w : World) :
    Calls Try.prog 25 #[.slice A0 n0 c0, .slice A1 n1 c1] w fun e w' => e = .returned (.func (.func 33) #[] #[.pointer (some ⟨w.heap.size, 0, none⟩), .pointer (some ⟨w.heap.size + 1, 0, none⟩)]) ∧ (w.alloc (.cells #[.slice A0 n0 c0] 22)).alloc (.cells #[.slice A1 n1 c1] 26) = w' := by
  go_enter Try.func25, Try.ntmps25
  go_wp2
  go_ret
  exact ⟨rfl, rfl⟩
end

/-! ### merge_Merge: function 11 -/
section
open Go.Shelf
attribute [local go_sem] Oper.semAt_some
def okJ (P0_ : Nat → Prop) (b l D ob Bl Bh g k : Nat) : Prop := (P0_ k ∧ k < b) ∨ (b ≤ k ∧ k ≠ g ∧ k ≠ ob ∧ k ≠ l ∧ k ≠ D ∧ k ≠ Bl ∧ k ≠ Bh)
def JMg (P0_ : Nat → Prop) (b l D ob Bl Bh g : Nat) (rec : Loop) (out : List S45) (W : World) : Prop :=
  W.heap[l]? = some (.loop rec) ∧ W.heap[D]? = some (.deferred (some [])) ∧ ∃ v, Boxed W ob 25 v ∧ Kd.N k45 45 W b (okJ P0_ b l D ob Bl Bh g) v out
def mergeF (k : Nat) (l0 : List (List S45)) : Option (List S45 × List Int) := if 1 ≤ l0.length ∧ l0.length ≤ 64 then genM l0 k (List.replicate l0.length 0) [] else some ([], [])
set_option maxRecDepth 100000 in
set_option maxHeartbeats 4000000 in
theorem own_Merge (k : Nat) (P0_ : Nat → Prop) (A0 : Option Addr) (c0 : Nat) (l0 : List (List S45)) (r1 : List S45) (r2 : List Int) (w : World) (hs0 : Kd.V (Kd.slice 45 k45) 25 w w.heap.size (fun k_ => P0_ k_) (.slice A0 l0.length c0) l0) (h : mergeF k l0 = some (r1, r2)) :
    Calls Try.prog 11 #[.slice A0 l0.length c0] w fun e w' => ∃ v0_ v1_ : Value, e = .returned (.tuple #[v0_, v1_]) ∧ Kd.N k45 45 w' w.heap.size (fun k_ => (P0_ k_ ∨ w.heap.size ≤ k_) ∧ some k_ ≠ (v1_ : Value).ownBlock) v0_ r1 ∧ Kd.R (Kd.int .i64) 3 w' w.heap.size (fun k_ => (w.heap.size ≤ k_)) v1_ r2 ∧ Below w.heap.size w w' := by
  have HV := Aside0.mk hs0
  have H := Aside0.mk h
  clear hs0 h
  refine (callsIn_wide (n := 9)).1 ?_
  refine callsIn_of_wp_marks Try.func11 rfl trivial ?_ rfl
  simp only [Try.ntmps11, List.size_toArray, List.length_cons, List.length_nil, Nat.reduceAdd, Nat.reduceSub, Array.replicate_succ, Array.replicate_zero, List.push_toArray, List.append_toArray, List.nil_append, List.cons_append]
  refine wpIn_wide.2 ?_
  by_cases hn : 1 ≤ l0.length ∧ l0.length ≤ 64
  · have hG := H.out
    unfold mergeF at hG
    rw [if_pos hn] at hG
    have HG := Aside0.mk hG
    have hIs : merge_is.f (l0.length : Int) = some true := by unfold merge_is.f; rw [if_pos (by omega), decide_eq_true (by omega)]
    have HIs := Aside0.mk hIs
    have hb1 : decide ((0 : Int) ≤ (l0.length : Int)) = true := decide_eq_true (by omega)
    clear hG H hIs
    go_wp2_with (first | (go_at_call 24; (with_reducible refine (merge_is.calls (l0.length : Int) true _ HIs.out).mono ?_); rintro e w' ⟨rfl, ⟨nd, rfl⟩⟩) | ((with_reducible refine gate_dst (N := 13) rfl ?_); refine Kd.R_make (Kd.int .i64) (w0 := w) w.heap.size 3 rfl (N := 13) rfl 26 _ _ rfl (l0.length : Int) rfl rfl Try.underlying26 (.int .i64 0) 8 info3 rfl (by decide) (by omega) 0 (ok := fun _ => True) (okp := fun _ => True) rfl (fun _ hk => hk) trivial ?m1 ?m2 ?m3 ?m4 ?_; (case m1 => omega); (case m2 => omega); (case m3 => exact pw_below_drewN (Below.refl _ _) _); (case m4 => exact Nat.le_refl _); intro v1 w1 ho hb hg hnew; rw [Int.toNat_natCast] at ho; obtain ⟨g, cap, rfl, hg1, hg2, hg3⟩ := Kd.R_form ho (by simp; omega); have HO := Aside0.mk ho; have HB := Aside0.mk hb; clear ho hb hg hnew hg3) | (go_at_call 25; (with_reducible refine (own_allM A0 (some ⟨g, 0, none⟩) l0.length c0 _ cap _).mono ?_); rintro e w' ⟨rfl, rfl⟩))
    have hlen : (List.replicate l0.length (0 : Int)).length = l0.length := by simp
    have hpos : ∀ i, 0 ≤ rd (List.replicate l0.length (0 : Int)) i := by
      intro i
      unfold rd
      rw [List.getD_eq_getElem?_getD, List.getElem?_replicate]
      split <;> simp
    have bO := ((Boxed.new w1 25 (.slice none 0 0)).alloc (.cells #[.slice A0 l0.length c0] 22)).alloc (.cells #[.slice (some ⟨g, 0, none⟩) l0.length cap] 26)
    have bL := (Boxed.new (w1.alloc (.cells #[.slice none 0 0] 25)) 22 (.slice A0 l0.length c0)).alloc (.cells #[.slice (some ⟨g, 0, none⟩) l0.length cap] 26)
    have bH := Boxed.new ((w1.alloc (.cells #[.slice none 0 0] 25)).alloc (.cells #[.slice A0 l0.length c0] 22)) 26 (.slice (some ⟨g, 0, none⟩) l0.length cap)
    simp only [World.size_alloc] at bL bH
    have hws := HB.out.size
    have hB0 : Below w.heap.size w (((w1.alloc (.cells #[.slice none 0 0] 25)).alloc (.cells #[.slice A0 l0.length c0] 22)).alloc (.cells #[.slice (some ⟨g, 0, none⟩) l0.length cap] 26)) := ((HB.out.alloc hws _).alloc (by simp; omega) _).alloc (by simp; omega) _
    have hR0 := Kd.R_alloc (Kd.R_alloc (Kd.R_alloc HO.out (.cells #[.slice none 0 0] 25)) (.cells #[.slice A0 l0.length c0] 22)) (.cells #[.slice (some ⟨g, 0, none⟩) l0.length cap] 26)
    have hsz : (((w1.alloc (.cells #[.slice none 0 0] 25)).alloc (.cells #[.slice A0 l0.length c0] 22)).alloc (.cells #[.slice (some ⟨g, 0, none⟩) l0.length cap] 26)).heap.size = w1.heap.size + 3 := by simp
    obtain ⟨W0, hW0⟩ : ∃ W0, ((w1.alloc (.cells #[.slice none 0 0] 25)).alloc (.cells #[.slice A0 l0.length c0] 22)).alloc (.cells #[.slice (some ⟨g, 0, none⟩) l0.length cap] 26) = W0 := ⟨_, rfl⟩
    rw [hW0] at bO bL bH hB0 hR0 hsz ⊢
    clear hW0 HO
    refine (wpIn_wide (n := 9)).1 ?_
    refine range_mine rfl (by omega) (gf := 33) (lb := #[.pointer (some ⟨w1.heap.size + 1, 0, none⟩), .pointer (some ⟨w1.heap.size + 1 + 1, 0, none⟩)]) rfl trivial (enters_of Try.func33 (by kernel_rfl) rfl) (fun rec hfn hst hpe htm hps has hbo => ?_)
    have hD1 : ((W0.alloc (.deferred (some []))).alloc (.loop rec)).heap[W0.heap.size + 1]? = some (.loop rec) := by
      have := World.alloc_heap_new (W0.alloc (.deferred (some []))) (.loop rec); rwa [World.size_alloc] at this
    have hD0 : ((W0.alloc (.deferred (some []))).alloc (.loop rec)).heap[W0.heap.size]? = some (.deferred (some [])) :=
      (Below.heap_alloc _ _ _ (by simp)).trans (World.alloc_heap_new W0 _)
    refine (own_all1 8 (W0.heap.size + 1) (w1.heap.size + 1) (w1.heap.size + 1 + 1) g cap A0 c0 l0 (fun k => P0_ k ∧ k < w.heap.size) hn.2 w (fun W hb => Kd.V_old HV.out hb) (JMg P0_ w.heap.size (W0.heap.size + 1) W0.heap.size w1.heap.size (w1.heap.size + 1) (w1.heap.size + 1 + 1) g rec) ?hJb ?hJw hg1 (by omega) (by omega) ?hY k (List.replicate l0.length 0) [] r1 r2 _ HG.out hlen hpos ?hJ ?hWb ?hBl ?hBh ?hR).mono ?_
    case hJb =>
      rintro pre W W' ⟨h1, h2, v, h5, h6⟩ hb
      have tr : ∀ {k : Nat} {o : Obj}, W.heap[k]? = some o → W'.heap[k]? = some o := fun h => (hb.block _ (Array.getElem?_eq_some_iff.1 h).1).trans h
      exact ⟨tr h1, tr h2, v, tr h5, Kd.N_below h6 hb⟩
    case hJw =>
      rintro pre W j u ⟨h1, h2, v, h5, h6⟩
      have tr : ∀ {k : Nat} {o : Obj}, k ≠ g → W.heap[k]? = some o → (W.setCell ⟨g, j, none⟩ u).heap[k]? = some o := fun hk h => (Below.heap_setCell W ⟨g, j, none⟩ u _ hk).trans h
      exact ⟨tr (by omega) h1, tr (by omega) h2, v, tr (by omega) h5, Kd.N_far h6 (fun k hk => by unfold okJ at hk; show k ≠ g; omega) u⟩
    case hJ => exact ⟨hD1, hD0, _, Boxed.alloc (Boxed.alloc bO _) _, Kd.N_nil _ _ _ _ _⟩
    case hWb => exact (hB0.alloc (by omega) _).alloc (by simp; omega) _
    case hBl => exact (bL.alloc _).alloc _
    case hBh => rw [hlen]; exact (bH.alloc _).alloc _
    case hR => exact Kd.R_of_own (h1 := fun _ => rfl) (Kd.own_of_R (Kd.R_alloc (Kd.R_alloc hR0 _) _)) (fun k e => by simp [Value.ownBlock] at e; exact e.symm)
    case hY =>
      rintro pre x A3 c3 i W1 ⟨hl, hD, v, bO1, hN⟩ hb hplen hl3 hFK
      have HN := Aside0.mk hN
      have HF := Aside0.mk hFK
      have HB1 := Aside0.mk hb
      clear hN hFK hb
      refine yieldAt_mine (r := rec) trivial hl hst (by rw [hps]; rfl) (fun K hK => ?_)
      rw [has, hps, htm]
      have HK := Aside0.mk hK
      clear hK
      dsimp only
      gi_wp2
      have hl1 : W0.heap.size + 1 < W1.heap.size := (Array.getElem?_eq_some_iff.1 hl).1
      have hlA : (W1.alloc (.cells #[.int .i64 x.f0, .int .i64 x.f1, .int .i64 x.f2, .slice A3 x.f3.length c3, .int .i64 i] 53)).heap[W0.heap.size + 1]? = some (.loop rec) := (Below.heap_alloc W1 _ _ hl1).trans hl
      refine HK.out _ _ hlA ?_
      clear HK
      have hsz2 : ((W1.alloc (.cells #[.int .i64 x.f0, .int .i64 x.f1, .int .i64 x.f2, .slice A3 x.f3.length c3, .int .i64 i] 53)).putObj (W0.heap.size + 1) (.loop { rec with state := .busy })).heap.size = W1.heap.size + 1 := by simp [World.putObj]
      have tr2 : ∀ k, k < W1.heap.size → k ≠ W0.heap.size + 1 → ((W1.alloc (.cells #[.int .i64 x.f0, .int .i64 x.f1, .int .i64 x.f2, .slice A3 x.f3.length c3, .int .i64 i] 53)).putObj (W0.heap.size + 1) (.loop { rec with state := .busy })).heap[k]? = W1.heap[k]? := fun k hk hne => (World.putObj_heap_other hne).trans (Below.heap_alloc W1 _ _ hk)
      have hT2 : ((W1.alloc (.cells #[.int .i64 x.f0, .int .i64 x.f1, .int .i64 x.f2, .slice A3 x.f3.length c3, .int .i64 i] 53)).putObj (W0.heap.size + 1) (.loop { rec with state := .busy })).heap[W1.heap.size]? = some (.cells #[.int .i64 x.f0, .int .i64 x.f1, .int .i64 x.f2, .slice A3 x.f3.length c3, .int .i64 i] 53 (0, 0)) := (World.putObj_heap_other (by omega)).trans (World.alloc_heap_new W1 _)
      have hL2 : ((W1.alloc (.cells #[.int .i64 x.f0, .int .i64 x.f1, .int .i64 x.f2, .slice A3 x.f3.length c3, .int .i64 i] 53)).putObj (W0.heap.size + 1) (.loop { rec with state := .busy })).heap[W0.heap.size + 1]? = some (.loop { rec with state := .busy }) := World.putObj_heap_same (by simp; omega)
      have hB2 : Below w.heap.size w ((W1.alloc (.cells #[.int .i64 x.f0, .int .i64 x.f1, .int .i64 x.f2, .slice A3 x.f3.length c3, .int .i64 i] 53)).putObj (W0.heap.size + 1) (.loop { rec with state := .busy })) := (HB1.out.alloc HB1.out.size _).grown (grownBy_putObj' _ (W0.heap.size + 1) _) (by have := HB1.out.size; simp; omega) (fun k e => by cases e; omega)
      obtain ⟨W2, hW2⟩ : ∃ W2, (W1.alloc (.cells #[.int .i64 x.f0, .int .i64 x.f1, .int .i64 x.f2, .slice A3 x.f3.length c3, .int .i64 i] 53)).putObj (W0.heap.size + 1) (.loop { rec with state := .busy }) = W2 := ⟨_, rfl⟩
      rw [hW2] at hsz2 tr2 hT2 hL2 hB2 ⊢
      clear hW2 hlA
      rw [hbo]
      have hbs := HB1.out.size
      have bO2 : Boxed W2 w1.heap.size 25 v := (tr2 _ bO1.lt (by omega)).trans bO1
      have cO := bO2.cell
      have fO := bO2.frozen
      have c0' : W2.cell? ⟨W1.heap.size, 0, none⟩ = some (.int .i64 x.f0) := by simp [World.cell?, hT2]
      have c1' : W2.cell? ⟨W1.heap.size, 1, none⟩ = some (.int .i64 x.f1) := by simp [World.cell?, hT2]
      have c2' : W2.cell? ⟨W1.heap.size, 2, none⟩ = some (.int .i64 x.f2) := by simp [World.cell?, hT2]
      have c3' : W2.cell? ⟨W1.heap.size, 3, none⟩ = some (.slice A3 x.f3.length c3) := by simp [World.cell?, hT2]
      have hN2 := Kd.N_step HN.out (w1 := W2) (fun k hk hlt => tr2 k hlt (by unfold okJ at hk; omega))
      have HN2 := Aside0.mk hN2
      have hF2 := Kd.FK_step HF.out (W1 := W2) (fun k hk hlt => tr2 k hlt (by omega))
      have hown : ∀ k, (k = w1.heap.size + 1 ∨ k = w1.heap.size + 1 + 1 ∨ k = g ∨ k = W0.heap.size ∨ k = W0.heap.size + 1 ∨ k = w1.heap.size) → some k ≠ v.ownBlock := fun k hk e => by
        have := hN2.1 k e.symm
        unfold okJ at this
        omega
      have hF3 := Kd.FK_mono hF2 (ok' := fun k => okJ P0_ w.heap.size (W0.heap.size + 1) W0.heap.size w1.heap.size (w1.heap.size + 1) (w1.heap.size + 1 + 1) g k ∧ some k ≠ v.ownBlock) (fun k hk => ⟨.inl hk, fun e => by have := Kd.N_base hN2 k e.symm; omega⟩)
      have HF3 := Aside0.mk hF3
      have HB2 := Aside0.mk hB2
      clear hN2 hF2 hF3 hB2 HN HF bO1
      obtain ⟨Ao, co, rfl⟩ := Kd.V_slice (Kd.N_V (base' := 0) HN2.out)
      have HSZ2 := Aside0.mk hsz2
      have HSZ := Aside0.mk hsz
      clear hsz2 hsz
      gi_wp2_with (gi_at_builtin; refine wpListIn_N_append k45 (w0 := w) w.heap.size rfl (.tmp 18) (.tmp 21) 25 45 (.agg #[(.int .i64 0), (.int .i64 0), (.int .i64 0), (.slice none 0 0)]) 48 rfl Try.underlying25 info45 rfl (by decide) (by omega) _ pre x [.int .i64 x.f0, .int .i64 x.f1, .int .i64 x.f2, .slice A3 x.f3.length c3] (okJ P0_ w.heap.size (W0.heap.size + 1) W0.heap.size w1.heap.size (w1.heap.size + 1) (w1.heap.size + 1 + 1) g) _ rfl rfl HF3.out (fun _ h => h) ?af HN2.out HB2.out HB2.out.size (by omega) ?_; (case af => intro k hk; have := HSZ.out; have := HSZ2.out; unfold okJ; omega); intro v1 w3 hN3 hb3 hg3 hat3; obtain ⟨An, cn, rfl⟩ := Kd.V_slice (Kd.N_V (base' := 0) hN3); have HN3 := Aside0.mk hN3; have HB3 := Aside0.mk hb3; have HG3 := Aside0.mk hg3; have bO3 := bO2.kept hg3 (hown _ (by omega)); have cO3 := bO3.cell; have fO3 := bO3.frozen; clear hN3 hb3 hg3 hat3)
      have hsz2 := HSZ2.out
      have hsz := HSZ.out
      have hrr : { rec with state := .ready, pending := none } = rec := by
        cases rec
        simp only at hst hpe
        subst hst hpe
        rfl
      have hlen1 : (pre ++ [x]).length = pre.length + 1 := by simp
      have hN3 := HN3.out
      rw [hlen1] at hN3
      have hs3 : W2.heap.size ≤ w3.heap.size := HG3.out.size
      have tr3 : ∀ k, k < W2.heap.size → some k ≠ (Value.slice Ao pre.length co).ownBlock → k ≠ w1.heap.size → (w3.setCell ⟨w1.heap.size, 0, none⟩ (.slice An (pre.length + 1) cn)).heap[k]? = W2.heap[k]? := fun k hk hne ho => (Below.heap_setCell w3 ⟨w1.heap.size, 0, none⟩ _ k ho).trans (HG3.out.block k hk hne)
      have hL3 := (tr3 (W0.heap.size + 1) (by omega) (hown _ (by omega)) (by omega)).trans hL2
      refine ⟨hL3, rfl, ?_, ?_⟩
      · rw [hrr]
        refine ⟨World.putObj_heap_same (Array.getElem?_eq_some_iff.1 hL3).1, ?_, .slice An (pre.length + 1) cn, ?_, ?_⟩
        · exact ((World.putObj_heap_other (by omega)).trans ((tr3 W0.heap.size (by omega) (hown _ (by omega)) (by omega)).trans (tr2 _ (by omega) (by omega)))).trans hD
        · exact (World.putObj_heap_other (by omega)).trans (bO3.set _)
        · exact Kd.N_step (Kd.N_far (p := ⟨w1.heap.size, 0, none⟩) hN3 (fun k hk => by unfold okJ at hk; show k ≠ w1.heap.size; omega) _) (fun k hk _ => World.putObj_heap_other (by unfold okJ at hk; omega))
      · have trf : ∀ k, (k = w1.heap.size + 1 ∨ k = w1.heap.size + 1 + 1 ∨ k = g) → ((w3.setCell ⟨w1.heap.size, 0, none⟩ (.slice An (pre.length + 1) cn)).putObj (W0.heap.size + 1) (.loop { rec with state := .ready, pending := none })).heap[k]? = W1.heap[k]? := fun k hk =>
          (World.putObj_heap_other (by omega)).trans ((tr3 k (by omega) (hown _ (by omega)) (by omega)).trans (tr2 _ (by omega) (by omega)))
        refine ⟨?_, trf _ (.inl rfl), trf _ (.inr (.inl rfl)), trf _ (.inr (.inr rfl)), ?_⟩
        · exact ((HB3.out.grown (grownBy_setCell' w3 w1.heap.size _) HB3.out.size (fun k e => by cases e; omega))).grown (grownBy_putObj' _ (W0.heap.size + 1) _) (by have := HB3.out.size; simp [World.setCell]; omega) (fun k e => by cases e; omega)
        · simp [World.putObj, World.setCell]; omega
    · rintro e w' ⟨hv, ⟨h1, h2, v, h5, h6⟩, hB', hR', hlen'⟩
      refine ⟨hv, .ready, none, by simp, ?_, ?_⟩
      · rw [h1]
        cases rec
        simp only at hst hpe
        subst hst hpe
        rfl
      · have hs0 : W0.heap.size + 1 < w'.heap.size := (Array.getElem?_eq_some_iff.1 h1).1
        have bO' : Boxed (w'.putObj (W0.heap.size + 1) (.loop { rec with state := .exhausted, pending := none })) w1.heap.size 25 v := (World.putObj_heap_other (by omega)).trans h5
        have hD' : (w'.putObj (W0.heap.size + 1) (.loop { rec with state := .exhausted, pending := none })).heap[W0.heap.size]? = some (.deferred (some [])) := (World.putObj_heap_other (by omega)).trans h2
        have hN' := Kd.N_step h6 (w1 := w'.putObj (W0.heap.size + 1) (.loop { rec with state := .exhausted, pending := none })) (fun k hk _ => World.putObj_heap_other (by unfold okJ at hk; omega))
        have hR'' := Kd.R_step hR' (w1 := w'.putObj (W0.heap.size + 1) (.loop { rec with state := .exhausted, pending := none })) (fun k hk _ => World.putObj_heap_other (by omega))
        have hB'' : Below w.heap.size w (w'.putObj (W0.heap.size + 1) (.loop { rec with state := .exhausted, pending := none })) := hB'.grown (grownBy_putObj' _ (W0.heap.size + 1) _) hB'.size (fun k e => by cases e; omega)
        obtain ⟨W2, hW2⟩ : ∃ W2, w'.putObj (W0.heap.size + 1) (.loop { rec with state := .exhausted, pending := none }) = W2 := ⟨_, rfl⟩
        rw [hW2] at bO' hD' hN' hR'' hB'' ⊢
        clear hW2
        have cO := bO'.cell
        go_wp2
        rw [hsz] at hD'
        refine ⟨by simp, .inl ⟨_, _, rfl, run_takeDeferred hD', ?_⟩⟩
        refine ⟨_, results_tmp2 rfl _ _ _, v, .slice (some ⟨g, 0, none⟩) l0.length cap, rfl, ?_, ?_, ?_⟩
        · exact Kd.N_mono (Kd.N_step hN' (fun k hk _ => World.putObj_heap_other (by unfold okJ at hk; omega))) (fun k hk => by
            unfold okJ at hk
            refine ⟨?_, ?_⟩
            · rcases hk with hk | hk
              · exact .inl hk.1
              · exact .inr hk.1
            · intro e
              have : k = g := by simpa [Value.ownBlock] using e
              omega)
        · rw [← hlen']
          exact Kd.R_mono (Kd.R_step hR'' (fun k hk _ => World.putObj_heap_other (by omega))) (fun k hk => by omega)
        · exact hB''.grown (grownBy_putObj' _ (w1.heap.size + 3) _) hB''.size (fun k e => by cases e; omega)
  · have hG := H.out
    unfold mergeF at hG
    rw [if_neg hn] at hG
    simp only [Option.some.injEq, Prod.mk.injEq] at hG
    obtain ⟨rfl, rfl⟩ := hG
    have hIs : merge_is.f (l0.length : Int) = some false := by
      unfold merge_is.f
      by_cases h1 : (l0.length : Int) ≥ 1
      · rw [if_pos h1, decide_eq_false (by omega)]
      · rw [if_neg h1]
    have HIs := Aside0.mk hIs
    clear H hIs hn
    go_wp2_with (first | (go_at_call 24; (with_reducible refine (merge_is.calls (l0.length : Int) false _ HIs.out).mono ?_); rintro e w' ⟨rfl, ⟨nd, rfl⟩⟩))
    exact ⟨_, results_tmp2 rfl _ _ _, .slice none 0 0, .slice none 0 0, rfl, Kd.N_nil _ _ _ _ _, Kd.R_nil _ _ _ _ _, pw_below_drewN (Below.refl _ _) _⟩
end
theorem genM_mono (l0 : List (List S45)) : ∀ k (hv : List Int) (out : List S45), LeO (genM l0 k hv out) (genM l0 (k + 1) hv out)
  | 0, _, _ => fun r h => by simp [genM] at h
  | k + 1, hv, out => by
    rw [genM, genM]
    refine LeO.bind (LeO.refl _) (fun p => ?_)
    cases p with
    | none => exact LeO.refl _
    | some i => exact LeO.ite (genM_mono l0 k _ _) (LeO.refl _)
def merge_Merge.f (k : Nat) (l0 : List (List S45)) : Option (List S45 × List Int) := mergeF k l0
theorem merge_Merge.mono : ∀ a0 k, LeO (merge_Merge.f k a0) (merge_Merge.f (k + 1) a0) := fun a0 k => by
  unfold merge_Merge.f mergeF
  exact LeO.ite (genM_mono a0 k _ _) (LeO.refl _)
theorem merge_Merge.calls (k : Nat) (P0_ : Nat → Prop) (A0 : Option Addr) (c0 : Nat) (l0 : List (List S45)) (r1 : List S45) (r2 : List Int) (w : World) (hs0 : Kd.V (Kd.slice 45 k45) 25 w w.heap.size (fun k_ => P0_ k_) (.slice A0 l0.length c0) l0) (h : merge_Merge.f k l0 = some (r1, r2)) :
    Calls Try.prog 11 #[.slice A0 l0.length c0] w fun e w' => ∃ v0_ v1_ : Value, e = .returned (.tuple #[v0_, v1_]) ∧ Kd.N k45 45 w' w.heap.size (fun k_ => (P0_ k_ ∨ w.heap.size ≤ k_) ∧ some k_ ≠ (v1_ : Value).ownBlock) v0_ r1 ∧ Kd.R (Kd.int .i64) 3 w' w.heap.size (fun k_ => (w.heap.size ≤ k_)) v1_ r2 ∧ Below w.heap.size w w' := own_Merge k P0_ A0 c0 l0 r1 r2 w hs0 h

/-! ### argosyref01_Same: function 14 -/
def argosyref01_Same.l0 : Nat → List Int → List Int → Int → Option (Bool)
  | 0, _, _, _ => none
  | k + 1, x0, x1, x5 => if x5 < (x0.length : Int) then (if 0 ≤ x5 then (if x5 < (x1.length : Int) then (if (rd x0 x5) = (rd x1 x5) then (argosyref01_Same.l0 k x0 x1 (wrap64 (x5 + 1))) else (some false)) else (none)) else (none)) else (some true)
def argosyref01_Same.f (k : Nat) (l0 : List Int) (l1 : List Int) : Option (Bool) := if (l0.length : Int) = (l1.length : Int) then (argosyref01_Same.l0 k l0 l1 0) else (some false)
theorem argosyref01_Same.mono_l : ∀ k, (∀ y0 y1 y2, LeO (argosyref01_Same.l0 k y0 y1 y2) (argosyref01_Same.l0 (k + 1) y0 y1 y2))
  | 0 => fun _ _ _ r h => by simp [argosyref01_Same.l0] at h
  | k + 1 => by
    have ih0 := argosyref01_Same.mono_l k
    · intro y0 y1 y2
      unfold argosyref01_Same.l0
      repeat' first
      | (with_reducible exact ih0 _ _ _)
      | (with_reducible exact LeO.refl _)
      | (with_reducible exact LeO.none _)
      | (with_reducible refine LeO.ite ?_ ?_)
      | (with_reducible refine LeO.bind ?_ (fun _ => ?_))
      | exact ih0 _ _ _
      | exact LeO.none _
      | refine LeO.ite ?_ ?_
      | refine LeO.bind ?_ (fun _ => ?_)
theorem argosyref01_Same.mono : ∀ a0 a1 k, LeO (argosyref01_Same.f k a0 a1) (argosyref01_Same.f (k + 1) a0 a1) := by
  intro a0 a1 k
  have ih0 := argosyref01_Same.mono_l k
  unfold argosyref01_Same.f
  repeat' first
      | (with_reducible exact ih0 _ _ _)
      | (with_reducible exact LeO.refl _)
      | (with_reducible exact LeO.none _)
      | (with_reducible refine LeO.ite ?_ ?_)
      | (with_reducible refine LeO.bind ?_ (fun _ => ?_))
      | exact ih0 _ _ _
      | exact LeO.none _
      | refine LeO.ite ?_ ?_
      | refine LeO.bind ?_ (fun _ => ?_)
set_option maxHeartbeats 8000000 in
set_option maxRecDepth 100000 in
theorem argosyref01_Same.calls (k : Nat) (A0 : Option Addr) (c0 : Nat) (l0 : List Int) (A1 : Option Addr) (c1 : Nat) (l1 : List Int) (r : Bool) (w : World) (hr0 : Kd.C (Kd.int .i64) w A0 l0.length l0) (hc0 : l0.length ≤ c0) (hr1 : Kd.C (Kd.int .i64) w A1 l1.length l1) (hc1 : l1.length ≤ c1) (h : argosyref01_Same.f k l0 l1 = some r) :
    Calls Try.prog 14 #[.slice A0 l0.length c0, .slice A1 l1.length c1] w fun e w' => e = .returned (.bool r) ∧ Drawn0 w w' := by
  have HR0 := Aside0.mk hr0
  have HC0 := Aside0.mk hc0
  clear hr0 hc0
  have HR1 := Aside0.mk hr1
  have HC1 := Aside0.mk hc1
  clear hr1 hc1
  have H : (if (l0.length : Int) = (l1.length : Int) then (argosyref01_Same.l0 k l0 l1 0) else (some false)) = some r := h
  clear h
  by_cases c3 : (l0.length : Int) = (l1.length : Int)
  · rw [if_pos c3] at H
    have c3b0 : ((l0.length : Int) == (l1.length : Int)) = true := beq_iff_eq.mpr c3
    have c3b1 : ((l0.length : Int) != (l1.length : Int)) = false := bne_eq_false_iff_eq.mpr c3
    have c3b2 : (l0.length == l1.length) = true := by first | simpa using c3 | (simp at c3 ⊢; omega)
    clear c3
    have H' := Aside0.mk H
    clear H
    go_enter Try.func14, Try.ntmps14
    go_wp2
    repeat (go_quiet (fail); try go_wp2)
    go_loopg [5] k (fun kq v5 w' => ∃ (x5_1 : Int), v5 = .int .i64 x5_1 ∧ Aside0 (argosyref01_Same.l0 kq l0 l1 x5_1 = some r) ∧ Aside0 (kq ≤ k) ∧ Drawn0 w w')
    case atStart => exact ⟨(0), (by first | rfl | (simp; done) | (simp [*]; done)), H', ⟨Nat.le_refl _⟩, by repeat (first | exact Drawn0.refl _ | apply Drawn0.step)⟩
    case round =>
      clear H'
      try clear c1
      try clear p2
      try clear c3
      try clear c3b0
      try clear c3b1
      try clear c3b2
      obtain ⟨x5_1, rfl, HA, HK1, ⟨m1, rfl⟩⟩ := hrel
      cases gk with
      | zero => exact absurd HA.out (by simp [argosyref01_Same.l0])
      | succ k1 =>
        have H := HA.out
        clear HA
        simp only [argosyref01_Same.l0] at H
        by_cases c4 : x5_1 < (l0.length : Int)
        · rw [if_pos c4] at H
          have c4b0 : decide (x5_1 < (l0.length : Int)) = true := decide_eq_true c4
          clear c4
          by_cases c5 : 0 ≤ x5_1
          · rw [if_pos c5] at H
            have c5b0 : decide (0 ≤ x5_1) = true := decide_eq_true c5
            clear c5
            by_cases c6 : x5_1 < (l1.length : Int)
            · rw [if_pos c6] at H
              have c6b0 : decide (x5_1 < (l1.length : Int)) = true := decide_eq_true c6
              clear c6
              by_cases c7 : (rd l0 x5_1) = (rd l1 x5_1)
              · rw [if_pos c7] at H
                have c7b0 : ((rd l0 x5_1) == (rd l1 x5_1)) = true := beq_iff_eq.mpr c7
                have c7b1 : ((rd l0 x5_1) != (rd l1 x5_1)) = false := bne_eq_false_iff_eq.mpr c7
                clear c7
                have H' := Aside0.mk H
                clear H
                have p105 : 0 ≤ (x5_1 : Int) := of_decide_eq_true (by first | (with_reducible assumption) | assumption)
                have q105 : x5_1 < (l0.length : Int) := of_decide_eq_true (by first | (with_reducible assumption) | assumption)
                obtain ⟨ad105, e105, hx105_0⟩ := Kd.at_int HR0.out x5_1 p105 q105
                cases e105
                replace p105 := eq_true p105
                replace q105 := eq_true q105
                have p106 : 0 ≤ (x5_1 : Int) := of_decide_eq_true (by first | (with_reducible assumption) | assumption)
                have q106 : x5_1 < (l1.length : Int) := of_decide_eq_true (by first | (with_reducible assumption) | assumption)
                obtain ⟨ad106, e106, hx106_0⟩ := Kd.at_int HR1.out x5_1 p106 q106
                cases e106
                replace p106 := eq_true p106
                replace q106 := eq_true q106
                go_wp2
                repeat (go_quiet (fail); try go_wp2)
                go_roundg k1
                case measure => have := HK1.out; omega
                case rel => exact ⟨(wrap64 (x5_1 + 1)), (by first | rfl | (simp; done) | (simp [*]; done)), H', ⟨by have := HK1.out; omega⟩, by repeat (first | exact Drawn0.refl _ | apply Drawn0.step)⟩
              · rw [if_neg c7] at H
                have c7b0 : ((rd l0 x5_1) == (rd l1 x5_1)) = false := beq_eq_false_iff_ne.mpr c7
                have c7b1 : ((rd l0 x5_1) != (rd l1 x5_1)) = true := bne_iff_ne.mpr c7
                obtain rfl := Option.some.inj H
                have p105 : 0 ≤ (x5_1 : Int) := of_decide_eq_true (by first | (with_reducible assumption) | assumption)
                have q105 : x5_1 < (l0.length : Int) := of_decide_eq_true (by first | (with_reducible assumption) | assumption)
                obtain ⟨ad105, e105, hx105_0⟩ := Kd.at_int HR0.out x5_1 p105 q105
                cases e105
                replace p105 := eq_true p105
                replace q105 := eq_true q105
                have p106 : 0 ≤ (x5_1 : Int) := of_decide_eq_true (by first | (with_reducible assumption) | assumption)
                have q106 : x5_1 < (l1.length : Int) := of_decide_eq_true (by first | (with_reducible assumption) | assumption)
                obtain ⟨ad106, e106, hx106_0⟩ := Kd.at_int HR1.out x5_1 p106 q106
                cases e106
                replace p106 := eq_true p106
                replace q106 := eq_true q106
                go_wp2
                repeat (go_quiet (fail); try go_wp2)
                go_ret
                exact ⟨by first | rfl | (simp; done) | (simp [*]; done), by repeat (first | exact Drawn0.refl _ | apply Drawn0.step)⟩
            · rw [if_neg c6] at H
              exact absurd H (by simp)
          · rw [if_neg c5] at H
            exact absurd H (by simp)
        · rw [if_neg c4] at H
          have c4b0 : decide (x5_1 < (l0.length : Int)) = false := decide_eq_false c4
          clear c4
          obtain rfl := Option.some.inj H
          go_wp2
          repeat (go_quiet (fail); try go_wp2)
          go_ret
          exact ⟨by first | rfl | (simp; done) | (simp [*]; done), by repeat (first | exact Drawn0.refl _ | apply Drawn0.step)⟩
  · rw [if_neg c3] at H
    have c3b0 : ((l0.length : Int) == (l1.length : Int)) = false := beq_eq_false_iff_ne.mpr c3
    have c3b1 : ((l0.length : Int) != (l1.length : Int)) = true := bne_iff_ne.mpr c3
    have c3b2 : (l0.length == l1.length) = false := by first | simpa using c3 | (simp at c3 ⊢; omega)
    obtain rfl := Option.some.inj H
    go_enter Try.func14, Try.ntmps14
    go_wp2
    repeat (go_quiet (fail); try go_wp2)
    go_ret
    exact ⟨by first | rfl | (simp; done) | (simp [*]; done), by repeat (first | exact Drawn0.refl _ | apply Drawn0.step)⟩

/-! ### argosyref10_Same: function 27 -/
def argosyref10_Same.f (k : Nat) (a0_0 : Int) (a0_1 : Int) (a0_2 : Int) (l0_3 : List Int) (a1_0 : Int) (a1_1 : Int) (a1_2 : Int) (l1_3 : List Int) : Option (Bool) := if a0_0 = a1_0 then (if a0_1 = a1_1 then (if a0_2 = a1_2 then ((argosyref01_Same.f k l0_3 l1_3).bind fun t109 => (some t109)) else (some false)) else (some false)) else (some false)
theorem argosyref10_Same.mono : ∀ a0 a1 a2 a3 a4 a5 a6 a7 k, LeO (argosyref10_Same.f k a0 a1 a2 a3 a4 a5 a6 a7) (argosyref10_Same.f (k + 1) a0 a1 a2 a3 a4 a5 a6 a7) := by
  intro a0 a1 a2 a3 a4 a5 a6 a7 k
  unfold argosyref10_Same.f
  repeat' first
      | (with_reducible exact argosyref01_Same.mono _ _ _)
      | (with_reducible exact LeO.refl _)
      | (with_reducible exact LeO.none _)
      | (with_reducible refine LeO.ite ?_ ?_)
      | (with_reducible refine LeO.bind ?_ (fun _ => ?_))
      | exact argosyref01_Same.mono _ _ _
      | exact LeO.none _
      | refine LeO.ite ?_ ?_
      | refine LeO.bind ?_ (fun _ => ?_)
set_option maxHeartbeats 8000000 in
set_option maxRecDepth 100000 in
theorem argosyref10_Same.calls (k : Nat) (a0_0 : Int) (a0_1 : Int) (a0_2 : Int) (A0_3 : Option Addr) (c0_3 : Nat) (l0_3 : List Int) (a1_0 : Int) (a1_1 : Int) (a1_2 : Int) (A1_3 : Option Addr) (c1_3 : Nat) (l1_3 : List Int) (r : Bool) (w : World) (hr0_3 : Kd.C (Kd.int .i64) w A0_3 l0_3.length l0_3) (hc0_3 : l0_3.length ≤ c0_3) (hr1_3 : Kd.C (Kd.int .i64) w A1_3 l1_3.length l1_3) (hc1_3 : l1_3.length ≤ c1_3) (h : argosyref10_Same.f k a0_0 a0_1 a0_2 l0_3 a1_0 a1_1 a1_2 l1_3 = some r) :
    Calls Try.prog 27 #[.agg #[.int .i64 a0_0, .int .i64 a0_1, .int .i64 a0_2, .slice A0_3 l0_3.length c0_3], .agg #[.int .i64 a1_0, .int .i64 a1_1, .int .i64 a1_2, .slice A1_3 l1_3.length c1_3]] w fun e w' => e = .returned (.bool r) ∧ Below w.heap.size w w' := by
  have hu45 := Try.underlying45
  have HR0_3 := Aside0.mk hr0_3
  have HC0_3 := Aside0.mk hc0_3
  clear hr0_3 hc0_3
  have HR1_3 := Aside0.mk hr1_3
  have HC1_3 := Aside0.mk hc1_3
  clear hr1_3 hc1_3
  have HB := Aside0.mk (Below.refl w.heap.size w)
  have H : (if a0_0 = a1_0 then (if a0_1 = a1_1 then (if a0_2 = a1_2 then ((argosyref01_Same.f k l0_3 l1_3).bind fun t109 => (some t109)) else (some false)) else (some false)) else (some false)) = some r := h
  clear h
  by_cases c3 : a0_0 = a1_0
  · rw [if_pos c3] at H
    have c3b0 : (a0_0 == a1_0) = true := beq_iff_eq.mpr c3
    have c3b1 : (a0_0 != a1_0) = false := bne_eq_false_iff_eq.mpr c3
    clear c3
    by_cases c4 : a0_1 = a1_1
    · rw [if_pos c4] at H
      have c4b0 : (a0_1 == a1_1) = true := beq_iff_eq.mpr c4
      have c4b1 : (a0_1 != a1_1) = false := bne_eq_false_iff_eq.mpr c4
      clear c4
      by_cases c5 : a0_2 = a1_2
      · rw [if_pos c5] at H
        have c5b0 : (a0_2 == a1_2) = true := beq_iff_eq.mpr c5
        have c5b1 : (a0_2 != a1_2) = false := bne_eq_false_iff_eq.mpr c5
        clear c5
        replace H := Option.bind_eq_some_iff.mp H
        obtain ⟨t109, A60, H⟩ := H
        replace H : (some t109) = some r := H
        have A6 := Aside0.mk A60
        clear A60
        obtain rfl := Option.some.inj H
        go_enter Try.func27, Try.ntmps27
        go_wp2_with (first | ((with_reducible refine gate_dst (N := 2) rfl ?_); refine box_event ?hg (N := 2) ?hd (cs := #[.int .i64 a0_0, .int .i64 a0_1, .int .i64 a0_2, .slice A0_3 l0_3.length c0_3]) (t := 45) ?hr ?_; (case hd => rfl); (case hg => rfl); (case hr => first | (go_simp; done) | (go_simp; rfl) | (simp only [pf_or128]; go_simp; done) | (simp only [pf_or128]; go_simp; rfl)); intro gb107 hg w7 hbox hb; have n0_ := Aside0.mk (below_step (by repeat (first | (with_reducible first | exact HB.out | apply below_alloc | apply pw_below_drewN | apply below_drew1) | exact HB.out)) hb); have n1_ := Aside0.mk (hbox); have n2_ := Aside0.mk ((by rw [hg]; exact (below_size (by repeat (first | (with_reducible first | exact HB.out | apply below_alloc | apply pw_below_drewN | apply below_drew1) | exact HB.out))) : w.heap.size ≤ gb107)); have n3_ := Aside0.mk ((by rw [hg]; exact (below_size (by repeat (first | (with_reducible first | exact HB.out | apply below_alloc | apply pw_below_drewN | apply below_drew1) | exact HB.out))) : w.heap.size ≤ gb107)); clear HB; have HB := n0_; have BK107 := n1_; have GW107 := n2_; have GE107 := n3_; clear n0_ n1_ n2_ n3_; clear hb hbox hg) | ((with_reducible refine gate_dst (N := 3) rfl ?_); refine box_event ?hg (N := 3) ?hd (cs := #[.int .i64 a1_0, .int .i64 a1_1, .int .i64 a1_2, .slice A1_3 l1_3.length c1_3]) (t := 45) ?hr ?_; (case hd => rfl); (case hg => rfl); (case hr => first | (go_simp; done) | (go_simp; rfl) | (simp only [pf_or128]; go_simp; done) | (simp only [pf_or128]; go_simp; rfl)); intro gb108 hg w8 hbox hb; have n0_ := Aside0.mk (blk_below (g := gb107) (o := .cells #[.int .i64 a0_0, .int .i64 a0_1, .int .i64 a0_2, .slice A0_3 l0_3.length c0_3] 45 (0, 0)) (by (with_reducible repeat (first | refine blk_drewN ?_ _ | refine blk_drew ?_ | refine blk_alloc ?_ _)); exact BK107.out) hb); have n1_ := Aside0.mk (below_step (by repeat (first | (with_reducible first | exact HB.out | apply below_alloc | apply pw_below_drewN | apply below_drew1 | refine below_set ?_ GE107.out) | exact HB.out)) hb); have n2_ := Aside0.mk (hbox); have n3_ := Aside0.mk ((by rw [hg]; exact (below_size (by repeat (first | (with_reducible first | exact HB.out | apply below_alloc | apply pw_below_drewN | apply below_drew1 | refine below_set ?_ GE107.out) | exact HB.out))) : w.heap.size ≤ gb108)); have n4_ := Aside0.mk ((by rw [hg]; exact (below_size (by repeat (first | (with_reducible first | exact HB.out | apply below_alloc | apply pw_below_drewN | apply below_drew1 | refine below_set ?_ GE107.out) | exact HB.out))) : w.heap.size ≤ gb108)); have n5_ := Aside0.mk ((by rw [hg]; exact Nat.ne_of_lt (blk_lt (g := gb107) (o := .cells #[.int .i64 a0_0, .int .i64 a0_1, .int .i64 a0_2, .slice A0_3 l0_3.length c0_3] 45 (0, 0)) (by (with_reducible repeat (first | refine blk_drewN ?_ _ | refine blk_drew ?_ | refine blk_alloc ?_ _)); exact BK107.out)) : gb107 ≠ gb108)); have n6_ := Aside0.mk ((by rw [hg]; exact Nat.ne_of_gt (blk_lt (g := gb107) (o := .cells #[.int .i64 a0_0, .int .i64 a0_1, .int .i64 a0_2, .slice A0_3 l0_3.length c0_3] 45 (0, 0)) (by (with_reducible repeat (first | refine blk_drewN ?_ _ | refine blk_drew ?_ | refine blk_alloc ?_ _)); exact BK107.out)) : gb108 ≠ gb107)); clear BK107; clear HB; have BK107 := n0_; have HB := n1_; have BK108 := n2_; have GW108 := n3_; have GE108 := n4_; have NB107_108 := n5_; have NB108_107 := n6_; clear n0_ n1_ n2_ n3_ n4_ n5_ n6_; clear hb hbox hg; have hnb9 := NB107_108.out; have hnc9 := NB108_107.out; have hcz10_0 : w8.cell? ⟨gb107, 0, none⟩ = some (.int .i64 a0_0) := (blk_cell BK107.out 0).trans rfl; have hcz10_1 : w8.cell? ⟨gb107, 1, none⟩ = some (.int .i64 a0_1) := (blk_cell BK107.out 1).trans rfl; have hcz10_2 : w8.cell? ⟨gb107, 2, none⟩ = some (.int .i64 a0_2) := (blk_cell BK107.out 2).trans rfl; have hcz10_3 : w8.cell? ⟨gb107, 3, none⟩ = some (.slice A0_3 l0_3.length c0_3) := (blk_cell BK107.out 3).trans rfl; have hfz10_0 := blk_frozen BK107.out 0; have hfz10_1 := blk_frozen BK107.out 1; have hfz10_2 := blk_frozen BK107.out 2; have hfz10_3 := blk_frozen BK107.out 3; have hcz11_0 : w8.cell? ⟨gb108, 0, none⟩ = some (.int .i64 a1_0) := (blk_cell BK108.out 0).trans rfl; have hcz11_1 : w8.cell? ⟨gb108, 1, none⟩ = some (.int .i64 a1_1) := (blk_cell BK108.out 1).trans rfl; have hcz11_2 : w8.cell? ⟨gb108, 2, none⟩ = some (.int .i64 a1_2) := (blk_cell BK108.out 2).trans rfl; have hcz11_3 : w8.cell? ⟨gb108, 3, none⟩ = some (.slice A1_3 l1_3.length c1_3) := (blk_cell BK108.out 3).trans rfl; have hfz11_0 := blk_frozen BK108.out 0; have hfz11_1 := blk_frozen BK108.out 1; have hfz11_2 := blk_frozen BK108.out 2; have hfz11_3 := blk_frozen BK108.out 3) | (go_at_call 14; (with_reducible refine (argosyref01_Same.calls k _ _ l0_3 _ _ l1_3 t109 _ ?side1 ?side2 ?side3 ?side4 A6.out).mono ?_); (case side1 => repeat (first | exact (Kd.C_below HR0_3.out HB.out) | (with_reducible refine Kd.C_alloc ?_ _) | (with_reducible refine Kd.C_drewN ?_ _) | (with_reducible refine Kd.C_drew ?_))); (case side2 => exact HC0_3.out); (case side3 => repeat (first | exact (Kd.C_below HR1_3.out HB.out) | (with_reducible refine Kd.C_alloc ?_ _) | (with_reducible refine Kd.C_drewN ?_ _) | (with_reducible refine Kd.C_drew ?_))); (case side4 => exact HC1_3.out); rintro e w' ⟨rfl, ⟨nd, rfl⟩⟩))
        go_ret
        exact ⟨by first | rfl | (simp [errW_none, errW_some] <;> rfl) | (simp [*, errW_none, errW_some] <;> rfl), by repeat (first | (with_reducible first | exact HB.out | apply below_alloc | apply pw_below_drewN | apply below_drew1 | refine below_set ?_ GE107.out | refine below_set ?_ GE108.out) | exact HB.out)⟩
      · rw [if_neg c5] at H
        have c5b0 : (a0_2 == a1_2) = false := beq_eq_false_iff_ne.mpr c5
        have c5b1 : (a0_2 != a1_2) = true := bne_iff_ne.mpr c5
        obtain rfl := Option.some.inj H
        go_enter Try.func27, Try.ntmps27
        go_wp2_with (first | ((with_reducible refine gate_dst (N := 2) rfl ?_); refine box_event ?hg (N := 2) ?hd (cs := #[.int .i64 a0_0, .int .i64 a0_1, .int .i64 a0_2, .slice A0_3 l0_3.length c0_3]) (t := 45) ?hr ?_; (case hd => rfl); (case hg => rfl); (case hr => first | (go_simp; done) | (go_simp; rfl) | (simp only [pf_or128]; go_simp; done) | (simp only [pf_or128]; go_simp; rfl)); intro gb107 hg w12 hbox hb; have n0_ := Aside0.mk (below_step (by repeat (first | (with_reducible first | exact HB.out | apply below_alloc | apply pw_below_drewN | apply below_drew1) | exact HB.out)) hb); have n1_ := Aside0.mk (hbox); have n2_ := Aside0.mk ((by rw [hg]; exact (below_size (by repeat (first | (with_reducible first | exact HB.out | apply below_alloc | apply pw_below_drewN | apply below_drew1) | exact HB.out))) : w.heap.size ≤ gb107)); have n3_ := Aside0.mk ((by rw [hg]; exact (below_size (by repeat (first | (with_reducible first | exact HB.out | apply below_alloc | apply pw_below_drewN | apply below_drew1) | exact HB.out))) : w.heap.size ≤ gb107)); clear HB; have HB := n0_; have BK107 := n1_; have GW107 := n2_; have GE107 := n3_; clear n0_ n1_ n2_ n3_; clear hb hbox hg) | ((with_reducible refine gate_dst (N := 3) rfl ?_); refine box_event ?hg (N := 3) ?hd (cs := #[.int .i64 a1_0, .int .i64 a1_1, .int .i64 a1_2, .slice A1_3 l1_3.length c1_3]) (t := 45) ?hr ?_; (case hd => rfl); (case hg => rfl); (case hr => first | (go_simp; done) | (go_simp; rfl) | (simp only [pf_or128]; go_simp; done) | (simp only [pf_or128]; go_simp; rfl)); intro gb108 hg w13 hbox hb; have n0_ := Aside0.mk (blk_below (g := gb107) (o := .cells #[.int .i64 a0_0, .int .i64 a0_1, .int .i64 a0_2, .slice A0_3 l0_3.length c0_3] 45 (0, 0)) (by (with_reducible repeat (first | refine blk_drewN ?_ _ | refine blk_drew ?_ | refine blk_alloc ?_ _)); exact BK107.out) hb); have n1_ := Aside0.mk (below_step (by repeat (first | (with_reducible first | exact HB.out | apply below_alloc | apply pw_below_drewN | apply below_drew1 | refine below_set ?_ GE107.out) | exact HB.out)) hb); have n2_ := Aside0.mk (hbox); have n3_ := Aside0.mk ((by rw [hg]; exact (below_size (by repeat (first | (with_reducible first | exact HB.out | apply below_alloc | apply pw_below_drewN | apply below_drew1 | refine below_set ?_ GE107.out) | exact HB.out))) : w.heap.size ≤ gb108)); have n4_ := Aside0.mk ((by rw [hg]; exact (below_size (by repeat (first | (with_reducible first | exact HB.out | apply below_alloc | apply pw_below_drewN | apply below_drew1 | refine below_set ?_ GE107.out) | exact HB.out))) : w.heap.size ≤ gb108)); have n5_ := Aside0.mk ((by rw [hg]; exact Nat.ne_of_lt (blk_lt (g := gb107) (o := .cells #[.int .i64 a0_0, .int .i64 a0_1, .int .i64 a0_2, .slice A0_3 l0_3.length c0_3] 45 (0, 0)) (by (with_reducible repeat (first | refine blk_drewN ?_ _ | refine blk_drew ?_ | refine blk_alloc ?_ _)); exact BK107.out)) : gb107 ≠ gb108)); have n6_ := Aside0.mk ((by rw [hg]; exact Nat.ne_of_gt (blk_lt (g := gb107) (o := .cells #[.int .i64 a0_0, .int .i64 a0_1, .int .i64 a0_2, .slice A0_3 l0_3.length c0_3] 45 (0, 0)) (by (with_reducible repeat (first | refine blk_drewN ?_ _ | refine blk_drew ?_ | refine blk_alloc ?_ _)); exact BK107.out)) : gb108 ≠ gb107)); clear BK107; clear HB; have BK107 := n0_; have HB := n1_; have BK108 := n2_; have GW108 := n3_; have GE108 := n4_; have NB107_108 := n5_; have NB108_107 := n6_; clear n0_ n1_ n2_ n3_ n4_ n5_ n6_; clear hb hbox hg; have hnb14 := NB107_108.out; have hnc14 := NB108_107.out; have hcz15_0 : w13.cell? ⟨gb107, 0, none⟩ = some (.int .i64 a0_0) := (blk_cell BK107.out 0).trans rfl; have hcz15_1 : w13.cell? ⟨gb107, 1, none⟩ = some (.int .i64 a0_1) := (blk_cell BK107.out 1).trans rfl; have hcz15_2 : w13.cell? ⟨gb107, 2, none⟩ = some (.int .i64 a0_2) := (blk_cell BK107.out 2).trans rfl; have hcz15_3 : w13.cell? ⟨gb107, 3, none⟩ = some (.slice A0_3 l0_3.length c0_3) := (blk_cell BK107.out 3).trans rfl; have hfz15_0 := blk_frozen BK107.out 0; have hfz15_1 := blk_frozen BK107.out 1; have hfz15_2 := blk_frozen BK107.out 2; have hfz15_3 := blk_frozen BK107.out 3; have hcz16_0 : w13.cell? ⟨gb108, 0, none⟩ = some (.int .i64 a1_0) := (blk_cell BK108.out 0).trans rfl; have hcz16_1 : w13.cell? ⟨gb108, 1, none⟩ = some (.int .i64 a1_1) := (blk_cell BK108.out 1).trans rfl; have hcz16_2 : w13.cell? ⟨gb108, 2, none⟩ = some (.int .i64 a1_2) := (blk_cell BK108.out 2).trans rfl; have hcz16_3 : w13.cell? ⟨gb108, 3, none⟩ = some (.slice A1_3 l1_3.length c1_3) := (blk_cell BK108.out 3).trans rfl; have hfz16_0 := blk_frozen BK108.out 0; have hfz16_1 := blk_frozen BK108.out 1; have hfz16_2 := blk_frozen BK108.out 2; have hfz16_3 := blk_frozen BK108.out 3))
        go_ret
        exact ⟨by first | rfl | (simp [errW_none, errW_some] <;> rfl) | (simp [*, errW_none, errW_some] <;> rfl), by repeat (first | (with_reducible first | exact HB.out | apply below_alloc | apply pw_below_drewN | apply below_drew1 | refine below_set ?_ GE107.out | refine below_set ?_ GE108.out) | exact HB.out)⟩
    · rw [if_neg c4] at H
      have c4b0 : (a0_1 == a1_1) = false := beq_eq_false_iff_ne.mpr c4
      have c4b1 : (a0_1 != a1_1) = true := bne_iff_ne.mpr c4
      obtain rfl := Option.some.inj H
      go_enter Try.func27, Try.ntmps27
      go_wp2_with (first | ((with_reducible refine gate_dst (N := 2) rfl ?_); refine box_event ?hg (N := 2) ?hd (cs := #[.int .i64 a0_0, .int .i64 a0_1, .int .i64 a0_2, .slice A0_3 l0_3.length c0_3]) (t := 45) ?hr ?_; (case hd => rfl); (case hg => rfl); (case hr => first | (go_simp; done) | (go_simp; rfl) | (simp only [pf_or128]; go_simp; done) | (simp only [pf_or128]; go_simp; rfl)); intro gb107 hg w17 hbox hb; have n0_ := Aside0.mk (below_step (by repeat (first | (with_reducible first | exact HB.out | apply below_alloc | apply pw_below_drewN | apply below_drew1) | exact HB.out)) hb); have n1_ := Aside0.mk (hbox); have n2_ := Aside0.mk ((by rw [hg]; exact (below_size (by repeat (first | (with_reducible first | exact HB.out | apply below_alloc | apply pw_below_drewN | apply below_drew1) | exact HB.out))) : w.heap.size ≤ gb107)); have n3_ := Aside0.mk ((by rw [hg]; exact (below_size (by repeat (first | (with_reducible first | exact HB.out | apply below_alloc | apply pw_below_drewN | apply below_drew1) | exact HB.out))) : w.heap.size ≤ gb107)); clear HB; have HB := n0_; have BK107 := n1_; have GW107 := n2_; have GE107 := n3_; clear n0_ n1_ n2_ n3_; clear hb hbox hg) | ((with_reducible refine gate_dst (N := 3) rfl ?_); refine box_event ?hg (N := 3) ?hd (cs := #[.int .i64 a1_0, .int .i64 a1_1, .int .i64 a1_2, .slice A1_3 l1_3.length c1_3]) (t := 45) ?hr ?_; (case hd => rfl); (case hg => rfl); (case hr => first | (go_simp; done) | (go_simp; rfl) | (simp only [pf_or128]; go_simp; done) | (simp only [pf_or128]; go_simp; rfl)); intro gb108 hg w18 hbox hb; have n0_ := Aside0.mk (blk_below (g := gb107) (o := .cells #[.int .i64 a0_0, .int .i64 a0_1, .int .i64 a0_2, .slice A0_3 l0_3.length c0_3] 45 (0, 0)) (by (with_reducible repeat (first | refine blk_drewN ?_ _ | refine blk_drew ?_ | refine blk_alloc ?_ _)); exact BK107.out) hb); have n1_ := Aside0.mk (below_step (by repeat (first | (with_reducible first | exact HB.out | apply below_alloc | apply pw_below_drewN | apply below_drew1 | refine below_set ?_ GE107.out) | exact HB.out)) hb); have n2_ := Aside0.mk (hbox); have n3_ := Aside0.mk ((by rw [hg]; exact (below_size (by repeat (first | (with_reducible first | exact HB.out | apply below_alloc | apply pw_below_drewN | apply below_drew1 | refine below_set ?_ GE107.out) | exact HB.out))) : w.heap.size ≤ gb108)); have n4_ := Aside0.mk ((by rw [hg]; exact (below_size (by repeat (first | (with_reducible first | exact HB.out | apply below_alloc | apply pw_below_drewN | apply below_drew1 | refine below_set ?_ GE107.out) | exact HB.out))) : w.heap.size ≤ gb108)); have n5_ := Aside0.mk ((by rw [hg]; exact Nat.ne_of_lt (blk_lt (g := gb107) (o := .cells #[.int .i64 a0_0, .int .i64 a0_1, .int .i64 a0_2, .slice A0_3 l0_3.length c0_3] 45 (0, 0)) (by (with_reducible repeat (first | refine blk_drewN ?_ _ | refine blk_drew ?_ | refine blk_alloc ?_ _)); exact BK107.out)) : gb107 ≠ gb108)); have n6_ := Aside0.mk ((by rw [hg]; exact Nat.ne_of_gt (blk_lt (g := gb107) (o := .cells #[.int .i64 a0_0, .int .i64 a0_1, .int .i64 a0_2, .slice A0_3 l0_3.length c0_3] 45 (0, 0)) (by (with_reducible repeat (first | refine blk_drewN ?_ _ | refine blk_drew ?_ | refine blk_alloc ?_ _)); exact BK107.out)) : gb108 ≠ gb107)); clear BK107; clear HB; have BK107 := n0_; have HB := n1_; have BK108 := n2_; have GW108 := n3_; have GE108 := n4_; have NB107_108 := n5_; have NB108_107 := n6_; clear n0_ n1_ n2_ n3_ n4_ n5_ n6_; clear hb hbox hg; have hnb19 := NB107_108.out; have hnc19 := NB108_107.out; have hcz20_0 : w18.cell? ⟨gb107, 0, none⟩ = some (.int .i64 a0_0) := (blk_cell BK107.out 0).trans rfl; have hcz20_1 : w18.cell? ⟨gb107, 1, none⟩ = some (.int .i64 a0_1) := (blk_cell BK107.out 1).trans rfl; have hcz20_2 : w18.cell? ⟨gb107, 2, none⟩ = some (.int .i64 a0_2) := (blk_cell BK107.out 2).trans rfl; have hcz20_3 : w18.cell? ⟨gb107, 3, none⟩ = some (.slice A0_3 l0_3.length c0_3) := (blk_cell BK107.out 3).trans rfl; have hfz20_0 := blk_frozen BK107.out 0; have hfz20_1 := blk_frozen BK107.out 1; have hfz20_2 := blk_frozen BK107.out 2; have hfz20_3 := blk_frozen BK107.out 3; have hcz21_0 : w18.cell? ⟨gb108, 0, none⟩ = some (.int .i64 a1_0) := (blk_cell BK108.out 0).trans rfl; have hcz21_1 : w18.cell? ⟨gb108, 1, none⟩ = some (.int .i64 a1_1) := (blk_cell BK108.out 1).trans rfl; have hcz21_2 : w18.cell? ⟨gb108, 2, none⟩ = some (.int .i64 a1_2) := (blk_cell BK108.out 2).trans rfl; have hcz21_3 : w18.cell? ⟨gb108, 3, none⟩ = some (.slice A1_3 l1_3.length c1_3) := (blk_cell BK108.out 3).trans rfl; have hfz21_0 := blk_frozen BK108.out 0; have hfz21_1 := blk_frozen BK108.out 1; have hfz21_2 := blk_frozen BK108.out 2; have hfz21_3 := blk_frozen BK108.out 3))
      go_ret
      exact ⟨by first | rfl | (simp [errW_none, errW_some] <;> rfl) | (simp [*, errW_none, errW_some] <;> rfl), by repeat (first | (with_reducible first | exact HB.out | apply below_alloc | apply pw_below_drewN | apply below_drew1 | refine below_set ?_ GE107.out | refine below_set ?_ GE108.out) | exact HB.out)⟩
  · rw [if_neg c3] at H
    have c3b0 : (a0_0 == a1_0) = false := beq_eq_false_iff_ne.mpr c3
    have c3b1 : (a0_0 != a1_0) = true := bne_iff_ne.mpr c3
    obtain rfl := Option.some.inj H
    go_enter Try.func27, Try.ntmps27
    go_wp2_with (first | ((with_reducible refine gate_dst (N := 2) rfl ?_); refine box_event ?hg (N := 2) ?hd (cs := #[.int .i64 a0_0, .int .i64 a0_1, .int .i64 a0_2, .slice A0_3 l0_3.length c0_3]) (t := 45) ?hr ?_; (case hd => rfl); (case hg => rfl); (case hr => first | (go_simp; done) | (go_simp; rfl) | (simp only [pf_or128]; go_simp; done) | (simp only [pf_or128]; go_simp; rfl)); intro gb107 hg w22 hbox hb; have n0_ := Aside0.mk (below_step (by repeat (first | (with_reducible first | exact HB.out | apply below_alloc | apply pw_below_drewN | apply below_drew1) | exact HB.out)) hb); have n1_ := Aside0.mk (hbox); have n2_ := Aside0.mk ((by rw [hg]; exact (below_size (by repeat (first | (with_reducible first | exact HB.out | apply below_alloc | apply pw_below_drewN | apply below_drew1) | exact HB.out))) : w.heap.size ≤ gb107)); have n3_ := Aside0.mk ((by rw [hg]; exact (below_size (by repeat (first | (with_reducible first | exact HB.out | apply below_alloc | apply pw_below_drewN | apply below_drew1) | exact HB.out))) : w.heap.size ≤ gb107)); clear HB; have HB := n0_; have BK107 := n1_; have GW107 := n2_; have GE107 := n3_; clear n0_ n1_ n2_ n3_; clear hb hbox hg) | ((with_reducible refine gate_dst (N := 3) rfl ?_); refine box_event ?hg (N := 3) ?hd (cs := #[.int .i64 a1_0, .int .i64 a1_1, .int .i64 a1_2, .slice A1_3 l1_3.length c1_3]) (t := 45) ?hr ?_; (case hd => rfl); (case hg => rfl); (case hr => first | (go_simp; done) | (go_simp; rfl) | (simp only [pf_or128]; go_simp; done) | (simp only [pf_or128]; go_simp; rfl)); intro gb108 hg w23 hbox hb; have n0_ := Aside0.mk (blk_below (g := gb107) (o := .cells #[.int .i64 a0_0, .int .i64 a0_1, .int .i64 a0_2, .slice A0_3 l0_3.length c0_3] 45 (0, 0)) (by (with_reducible repeat (first | refine blk_drewN ?_ _ | refine blk_drew ?_ | refine blk_alloc ?_ _)); exact BK107.out) hb); have n1_ := Aside0.mk (below_step (by repeat (first | (with_reducible first | exact HB.out | apply below_alloc | apply pw_below_drewN | apply below_drew1 | refine below_set ?_ GE107.out) | exact HB.out)) hb); have n2_ := Aside0.mk (hbox); have n3_ := Aside0.mk ((by rw [hg]; exact (below_size (by repeat (first | (with_reducible first | exact HB.out | apply below_alloc | apply pw_below_drewN | apply below_drew1 | refine below_set ?_ GE107.out) | exact HB.out))) : w.heap.size ≤ gb108)); have n4_ := Aside0.mk ((by rw [hg]; exact (below_size (by repeat (first | (with_reducible first | exact HB.out | apply below_alloc | apply pw_below_drewN | apply below_drew1 | refine below_set ?_ GE107.out) | exact HB.out))) : w.heap.size ≤ gb108)); have n5_ := Aside0.mk ((by rw [hg]; exact Nat.ne_of_lt (blk_lt (g := gb107) (o := .cells #[.int .i64 a0_0, .int .i64 a0_1, .int .i64 a0_2, .slice A0_3 l0_3.length c0_3] 45 (0, 0)) (by (with_reducible repeat (first | refine blk_drewN ?_ _ | refine blk_drew ?_ | refine blk_alloc ?_ _)); exact BK107.out)) : gb107 ≠ gb108)); have n6_ := Aside0.mk ((by rw [hg]; exact Nat.ne_of_gt (blk_lt (g := gb107) (o := .cells #[.int .i64 a0_0, .int .i64 a0_1, .int .i64 a0_2, .slice A0_3 l0_3.length c0_3] 45 (0, 0)) (by (with_reducible repeat (first | refine blk_drewN ?_ _ | refine blk_drew ?_ | refine blk_alloc ?_ _)); exact BK107.out)) : gb108 ≠ gb107)); clear BK107; clear HB; have BK107 := n0_; have HB := n1_; have BK108 := n2_; have GW108 := n3_; have GE108 := n4_; have NB107_108 := n5_; have NB108_107 := n6_; clear n0_ n1_ n2_ n3_ n4_ n5_ n6_; clear hb hbox hg; have hnb24 := NB107_108.out; have hnc24 := NB108_107.out; have hcz25_0 : w23.cell? ⟨gb107, 0, none⟩ = some (.int .i64 a0_0) := (blk_cell BK107.out 0).trans rfl; have hcz25_1 : w23.cell? ⟨gb107, 1, none⟩ = some (.int .i64 a0_1) := (blk_cell BK107.out 1).trans rfl; have hcz25_2 : w23.cell? ⟨gb107, 2, none⟩ = some (.int .i64 a0_2) := (blk_cell BK107.out 2).trans rfl; have hcz25_3 : w23.cell? ⟨gb107, 3, none⟩ = some (.slice A0_3 l0_3.length c0_3) := (blk_cell BK107.out 3).trans rfl; have hfz25_0 := blk_frozen BK107.out 0; have hfz25_1 := blk_frozen BK107.out 1; have hfz25_2 := blk_frozen BK107.out 2; have hfz25_3 := blk_frozen BK107.out 3; have hcz26_0 : w23.cell? ⟨gb108, 0, none⟩ = some (.int .i64 a1_0) := (blk_cell BK108.out 0).trans rfl; have hcz26_1 : w23.cell? ⟨gb108, 1, none⟩ = some (.int .i64 a1_1) := (blk_cell BK108.out 1).trans rfl; have hcz26_2 : w23.cell? ⟨gb108, 2, none⟩ = some (.int .i64 a1_2) := (blk_cell BK108.out 2).trans rfl; have hcz26_3 : w23.cell? ⟨gb108, 3, none⟩ = some (.slice A1_3 l1_3.length c1_3) := (blk_cell BK108.out 3).trans rfl; have hfz26_0 := blk_frozen BK108.out 0; have hfz26_1 := blk_frozen BK108.out 1; have hfz26_2 := blk_frozen BK108.out 2; have hfz26_3 := blk_frozen BK108.out 3))
    go_ret
    exact ⟨by first | rfl | (simp [errW_none, errW_some] <;> rfl) | (simp [*, errW_none, errW_some] <;> rfl), by repeat (first | (with_reducible first | exact HB.out | apply below_alloc | apply pw_below_drewN | apply below_drew1 | refine below_set ?_ GE107.out | refine below_set ?_ GE108.out) | exact HB.out)⟩

end Go.Proofs.Ytbkdogijkfampaa.PMergeLess
