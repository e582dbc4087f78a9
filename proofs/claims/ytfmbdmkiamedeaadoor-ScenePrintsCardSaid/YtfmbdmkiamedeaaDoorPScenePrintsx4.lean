-- Written by a patched print (wip/mkprint.py), for this claim.
import Derived.Test.YtfmbdmkiamedeaaDoorPScenePrintsx0
import Derived.Test.YtfmbdmkiamedeaaDoorPScenePrintsx1
import Derived.Test.YtfmbdmkiamedeaaDoorPScenePrintsx2
import Derived.Test.YtfmbdmkiamedeaaDoorPScenePrintsx3
namespace Go.Proofs.YtfmbdmkiamedeaaDoor.PScenePrints
open Go.RowKit Go.Proofs.YtfmbdmkiamedeaaDoorW.PrintWords Go.Proofs.YtfmbdmkiamedeaaDoorW.PrintLast Go.Proofs.YtfmbdmkiamedeaaDoorW.PrintMore
attribute [local go_sem] max2_int min2_int max_two min_two max_three min_three max_four min_four   -- for this text's walks alone
set_option linter.unusedVariables false
set_option linter.unusedSimpArgs false

/-! ### scene_reader_take: function 25 -/
def formF (a : ByteArray) : Int × Int × Int × Bool := (scene_formed.f a).getD (0, 0, 0, false)
theorem formF_is (a : ByteArray) : scene_formed.f a = some (formF a) := by
  obtain ⟨x, y, z, t, h⟩ := formed_some a
  unfold formF
  rw [h]; rfl
/-- A piece taken: the state, and the error. -/
def takeF (s : RS) (a : ByteArray) : RS × Int :=
  if s.op = false then beginF (formF a) s
  else if a.toList = ([59] : List UInt8) then ((shutF s).1, if (shutF s).2 = true then 0 else 10)
  else if (numberF a).2 = true ∧ (s.nums.length : Int) < s.mo then ({ s with nums := s.nums ++ [(numberF a).1] }, 0) else (s, 10)
set_option maxHeartbeats 8000000 in
set_option maxRecDepth 100000 in
theorem own_take (a : ByteArray) (rb : Nat) (okE : Nat → Prop) (s : RS) (w0 w : World) (hb0 : Below w0.heap.size w0 w) (hbr : w0.heap.size ≤ rb) (hrE : ¬ okE rb) (hfresh : ∀ k, w.heap.size ≤ k → okE k) (hlen : s.out.length < 2932031007402) (hnl : s.nums.length < 17592186044415) (hD : RD w0.heap.size rb okE s w) :
    Calls Tryd.prog 25 #[.pointer (some ⟨rb, 0, none⟩), .string a] w fun e w' => e = .returned (.int .i64 (takeF s a).2) ∧ RD w0.heap.size rb okE (takeF s a).1 w' ∧ Below w0.heap.size w0 w' ∧ keepE rb okE w w' := by
  have HRD := Aside0.mk hD
  obtain ⟨vo, vn, hD⟩ := hD
  have hbW : w0.heap.size ≤ w.heap.size := Nat.le_trans hbr (Nat.le_of_lt (blk_lt hD.blk))
  have cr1 : w.cell? ⟨rb, 1, none⟩ = some (.bool s.op) := (blk_cell hD.blk 1).trans rfl
  have HB0 := Aside0.mk hb0
  have HBW := Aside0.mk hbW
  have HFR := Aside0.mk hfresh
  have HLEN := Aside0.mk hlen
  have HNL := Aside0.mk hnl
  have HD := Aside0.mk hD
  clear hD hb0 hbW hfresh hlen hnl
  cases hop : s.op with
  | false =>
    rw [hop] at cr1
    have hF : takeF s a = beginF (formF a) s := by unfold takeF; rw [if_pos hop]
    rw [hF]
    have HFF := Aside0.mk (formF_is a)
    clear hF
    go_enter Tryd.func25, Tryd.ntmps25
    go_wp2_with (go_at_call 38; (with_reducible refine (own_begin a (formF a) HFF.out rb okE s w0 _ HB0.out hbr hrE HRD.out).mono ?_); rintro e w1 ⟨rfl, hd, hb, hk⟩; have HD1 := Aside0.mk hd; have HB1 := Aside0.mk hb; have HK1 := Aside0.mk hk; clear hd hb hk)
    go_ret
    exact ⟨rfl, HD1.out, HB1.out, HK1.out⟩
  | true =>
    rw [hop] at cr1
    have hne : ¬ s.op = false := by rw [hop]; decide
    obtain ⟨N, hN⟩ : ∃ N, numberF a = N := ⟨_, rfl⟩
    have num : ∀ W : World, Calls Tryd.prog 13 #[.string a] W fun e w' => e = .returned (.tuple #[.int .i64 N.1, .bool N.2]) ∧ Below W.heap.size W w' := fun W => by have := own_Number a W; rwa [hN] at this
    have NUM := Aside0.mk num
    clear num
    by_cases h59 : a.toList = ([59] : List UInt8)
    · have e0 : (a.toList == ([59] : List UInt8)) = true := beq_iff_eq.mpr h59
      have hF : takeF s a = ((shutF s).1, if (shutF s).2 = true then 0 else 10) := by unfold takeF; rw [if_neg hne, if_pos h59]
      rw [hF]
      clear hF h59 hN hne
      cases hsh : (shutF s).2 with
      | true =>
        rw [if_pos rfl]
        go_enter Tryd.func25, Tryd.ntmps25
        go_wp2_with (first | (go_at_call 13; (with_reducible refine (NUM.out _).mono ?_); rintro e w1 ⟨rfl, hb⟩; have HQ := Aside0.mk (below_step (show Below w.heap.size w _ from by repeat (first | (with_reducible first | exact Below.refl _ _ | apply below_alloc | apply pw_below_drewN | apply below_drew1) | exact Below.refl _ _)) hb); clear hb) | (go_at_call 39; (with_reducible refine (own_shut rb okE s w0 _ ?s1 hbr hrE ?s2 HLEN.out ?s3).mono ?_); (case s1 => exact HB0.out.trans (HQ.out.mono HBW.out)); (case s2 => exact fun k hk => HFR.out k (Nat.le_trans HQ.out.size hk)); (case s3 => exact ⟨_, _, HD.out.below HQ.out⟩); rintro e w2 ⟨he, hd, hb, hk⟩; rw [hsh] at he; subst he; have HD1 := Aside0.mk hd; have HB1 := Aside0.mk hb; have HK1 := Aside0.mk ((keepE_below (rb := rb) (okE := okE) HQ.out).trans hk); clear hd hb hk))
        go_ret
        exact ⟨rfl, HD1.out, HB1.out, HK1.out⟩
      | false =>
        rw [if_neg (by decide)]
        go_enter Tryd.func25, Tryd.ntmps25
        go_wp2_with (first | (go_at_call 13; (with_reducible refine (NUM.out _).mono ?_); rintro e w1 ⟨rfl, hb⟩; have HQ := Aside0.mk (below_step (show Below w.heap.size w _ from by repeat (first | (with_reducible first | exact Below.refl _ _ | apply below_alloc | apply pw_below_drewN | apply below_drew1) | exact Below.refl _ _)) hb); clear hb) | (go_at_call 39; (with_reducible refine (own_shut rb okE s w0 _ ?s1 hbr hrE ?s2 HLEN.out ?s3).mono ?_); (case s1 => exact HB0.out.trans (HQ.out.mono HBW.out)); (case s2 => exact fun k hk => HFR.out k (Nat.le_trans HQ.out.size hk)); (case s3 => exact ⟨_, _, HD.out.below HQ.out⟩); rintro e w2 ⟨he, hd, hb, hk⟩; rw [hsh] at he; subst he; have HD1 := Aside0.mk hd; have HB1 := Aside0.mk hb; have HK1 := Aside0.mk ((keepE_below (rb := rb) (okE := okE) HQ.out).trans hk); clear hd hb hk))
        go_ret
        exact ⟨rfl, HD1.out, HB1.out, HK1.out⟩
    · have e0 : (a.toList == ([59] : List UInt8)) = false := beq_eq_false_iff_ne.mpr h59
      obtain ⟨n, t⟩ := N
      cases t with
      | false =>
        have hF : takeF s a = (s, 10) := by unfold takeF; rw [if_neg hne, if_neg h59, if_neg (by rw [hN]; simp)]
        rw [hF]
        clear hF h59 hN hne
        go_enter Tryd.func25, Tryd.ntmps25
        go_wp2_with (go_at_call 13; (with_reducible refine (NUM.out _).mono ?_); rintro e w1 ⟨rfl, hb⟩; have hq := below_step (show Below w.heap.size w _ from by repeat (first | (with_reducible first | exact Below.refl _ _ | apply below_alloc | apply pw_below_drewN | apply below_drew1) | exact Below.refl _ _)) hb; have hd1 := HD.out.below hq; have HQ := Aside0.mk hq; have HD1 := Aside0.mk hd1; clear hb hq hd1)
        go_quiet (fail)
        go_wp2
        go_ret
        exact ⟨rfl, ⟨_, _, HD1.out.below (pw_below_drewN (Below.refl _ _) _)⟩, pw_below_drewN (HB0.out.trans (HQ.out.mono HBW.out)) _, (keepE_below HQ.out).trans (keepE_below (pw_below_drewN (Below.refl _ _) _))⟩
      | true =>
        obtain ⟨An, cn, rfl⟩ := Kd.R_slice HD.out.nums
        by_cases hm : (s.nums.length : Int) < s.mo
        · have hF : takeF s a = ({ s with nums := s.nums ++ [n] }, 0) := by unfold takeF; rw [if_neg hne, if_neg h59, hN, if_pos ⟨rfl, hm⟩]
          rw [hF]
          have m0 : decide ((s.nums.length : Int) < s.mo) = true := decide_eq_true hm
          clear hF h59 hN hne hm
          go_enter Tryd.func25, Tryd.ntmps25
          go_wp2_with (go_at_call 13; (with_reducible refine (NUM.out _).mono ?_); rintro e w1 ⟨rfl, hb⟩; have hq := below_step (show Below w.heap.size w _ from by repeat (first | (with_reducible first | exact Below.refl _ _ | apply below_alloc | apply pw_below_drewN | apply below_drew1) | exact Below.refl _ _)) hb; have hd1 := HD.out.below hq; have cr4 : w1.cell? ⟨rb, 4, none⟩ = some (.int .i64 s.mo) := (blk_cell hd1.blk 4).trans rfl; have cr5 : w1.cell? ⟨rb, 5, none⟩ = some (.slice An s.nums.length cn) := (blk_cell hd1.blk 5).trans rfl; have HQ := Aside0.mk hq; have HD1 := Aside0.mk hd1; clear hb hq hd1)
          go_quiet (fail)
          have hq2 := pw_below_drewN (Below.refl w1.heap.size w1) nq
          have hd2 := HD1.out.below hq2
          have hb2 := HB0.out.trans ((HQ.out.trans (hq2.mono HQ.out.size)).mono HBW.out)
          have hk2 : keepE rb okE w (w1.drewN nq) := (keepE_below HQ.out).trans (keepE_below hq2)
          have hf2 : ∀ k, (w1.drewN nq).heap.size ≤ k → okE k := fun k hk => HFR.out k (Nat.le_trans (Nat.le_trans HQ.out.size hq2.size) hk)
          obtain ⟨W1, hW1⟩ : ∃ W1, w1.drewN nq = W1 := ⟨_, rfl⟩
          rw [hW1] at hd2 hb2 hk2 hf2 ⊢
          clear hW1 hq2 cr4 cr5 HD1 HQ
          have cr5 : W1.cell? ⟨rb, 5, none⟩ = some (.slice An s.nums.length cn) := (blk_cell hd2.blk 5).trans rfl
          have HD2 := Aside0.mk hd2
          have HB2 := Aside0.mk hb2
          have HK2 := Aside0.mk hk2
          have hf3 : ∀ k, W1.heap.size ≤ k → okE k ∧ some k ≠ vo.ownBlock := fun k hk => ⟨hf2 k hk, fun e => by have := Kd.N_lt hd2.out k e.symm; omega⟩
          have HF3 := Aside0.mk hf3
          have hrv : some rb ≠ (Value.slice An s.nums.length cn).ownBlock := fun e => hrE ((hd2.nums.1 rb e.symm).1)
          have HRV := Aside0.mk hrv
          clear hd2 hb2 hk2 hf2 hf3 hrv
          go_wp2_with (first | ((with_reducible refine gate_builtin (b := .append) (xs := #[.tmp 44, .tmp 46]) rfl ?_); at_builtin; refine Kd.R_append (Kd.int .i64) (w0 := w0) w0.heap.size rfl (.tmp 44) (.tmp 46) 32 3 (.int .i64 0) 8 rfl Tryd.underlying32 info3 rfl (by decide) (by omega) (.slice An s.nums.length cn) s.nums n [.int .i64 n] (fun k => okE k ∧ some k ≠ vo.ownBlock) (fun _ => False) rfl rfl rfl (fun _ hk => hk.elim) HF3.out HD2.out.nums HB2.out HB2.out.size (by have := HNL.out; omega) ?_; intro v1 w2 ho hb hg hat; obtain ⟨A1, c1, rfl⟩ := Kd.R_slice ho; rw [List.length_append] at ho hat ⊢; have hbk := blk_grown HD2.out.blk hg HRV.out; have cr6 : w2.cell? ⟨rb, 5, none⟩ = some (.slice An s.nums.length cn) := (blk_cell hbk 5).trans rfl; have fr6 := blk_frozen hbk 5; have HO := Aside0.mk ho; have HB3 := Aside0.mk hb; have HG := Aside0.mk hg; have HAT := Aside0.mk hat; have HBK := Aside0.mk hbk; clear ho hb hg hat hbk))
          go_ret
          refine ⟨rfl, ⟨vo, .slice A1 (s.nums.length + 1) c1, ⟨blk_set HBK.out 5 _, ?_, ?_⟩⟩, below_set HB3.out hbr, ?_⟩
          · exact Kd.N_far (p := ⟨rb, 5, none⟩) (Kd.N_after HD2.out.out HG.out HAT.out) (fun k hk e => hrE ((show k = rb from e) ▸ hk.1)) _
          · exact Kd.R_far (p := ⟨rb, 5, none⟩) HO.out (fun k hk e => hrE ((show k = rb from e) ▸ hk.1)) _
          · exact HK2.out.trans ((keepE_grown HG.out (fun k e => (HD2.out.nums.1 k e).1)).trans (keepE_set _ 5 _))
        · have hF : takeF s a = (s, 10) := by unfold takeF; rw [if_neg hne, if_neg h59, if_neg (fun h => hm h.2)]
          rw [hF]
          have m0 : decide ((s.nums.length : Int) < s.mo) = false := decide_eq_false hm
          clear hF h59 hN hne hm
          go_enter Tryd.func25, Tryd.ntmps25
          go_wp2_with (go_at_call 13; (with_reducible refine (NUM.out _).mono ?_); rintro e w1 ⟨rfl, hb⟩; have hq := below_step (show Below w.heap.size w _ from by repeat (first | (with_reducible first | exact Below.refl _ _ | apply below_alloc | apply pw_below_drewN | apply below_drew1) | exact Below.refl _ _)) hb; have hd1 := HD.out.below hq; have cr4 : w1.cell? ⟨rb, 4, none⟩ = some (.int .i64 s.mo) := (blk_cell hd1.blk 4).trans rfl; have cr5 : w1.cell? ⟨rb, 5, none⟩ = some (.slice An s.nums.length cn) := (blk_cell hd1.blk 5).trans rfl; have HQ := Aside0.mk hq; have HD1 := Aside0.mk hd1; clear hb hq hd1)
          go_quiet (fail)
          go_wp2
          go_ret
          exact ⟨rfl, ⟨_, _, HD1.out.below (pw_below_drewN (Below.refl _ _) _)⟩, pw_below_drewN (HB0.out.trans (HQ.out.mono HBW.out)) _, (keepE_below HQ.out).trans (keepE_below (pw_below_drewN (Below.refl _ _) _))⟩

/-! ### scene_Read: function 11 -/
section
open Go.Shelf
attribute [local go_sem] Oper.semAt_some
theorem results_c3 {fn : Func} {a b c : Tmp} {ta tb tc : TypeId} {P : Program} {tmps : Array Value} {w : World} {pa pb pc : Addr} {va vb vc : Value} (h : fn.results = #[.cell a ta, .cell b tb, .cell c tc])
    (ha : tmps.getD a undef = .pointer (some pa)) (hb : tmps.getD b undef = .pointer (some pb)) (hc : tmps.getD c undef = .pointer (some pc))
    (la : (loadVar ta pa).run P w = .ok va w) (lb : (loadVar tb pb).run P w = .ok vb w) (lc : (loadVar tc pc).run P w = .ok vc w) : (results fn tmps).run P w = .ok (.tuple #[va, vb, vc]) w := by
  simp [results, h, ha, hb, hc, la, lb, lc, asAddr, Sem.run_bind, Result.andThen, ← Array.getD_eq_getD_getElem?]
theorem load23S {W : World} {b : Nat} {v : Value} (h : Boxed W b 22 v) : (loadVar 22 ⟨b, 0, none⟩).run Tryd.prog W = .ok v W := by
  have hc := h.cell
  have hu := Tryd.underlying22
  simp [loadVar, go_sem, *]
theorem load3S {W : World} {b : Nat} {v : Value} (h : Boxed W b 3 v) : (loadVar 3 ⟨b, 0, none⟩).run Tryd.prog W = .ok v W := by
  have hc := h.cell
  have hu := Tryd.underlying3
  simp [loadVar, go_sem, *]
theorem load24S {W : World} {b : Nat} {v : Value} (h : Boxed W b 25 v) : (loadVar 25 ⟨b, 0, none⟩).run Tryd.prog W = .ok v W := by
  have hc := h.cell
  have hu := Tryd.underlying25
  simp [loadVar, go_sem, *]
theorem RDv.step {b rb : Nat} {okE : Nat → Prop} {s : RS} {vo vn : Value} {W W1 : World} (h : RDv b rb okE s vo vn W) (hk : ∀ k, (okE k ∨ k = rb) → k < W.heap.size → W1.heap[k]? = W.heap[k]?) : RDv b rb okE s vo vn W1 :=
  ⟨(hk rb (.inr rfl) (blk_lt h.blk)).trans h.blk, Kd.N_step h.out (fun k ho hl => hk k (.inl ho.1) hl), Kd.R_step h.nums (fun k ho hl => hk k (.inl ho.1) hl)⟩
theorem RD.step {b rb : Nat} {okE : Nat → Prop} {s : RS} {W W1 : World} (h : RD b rb okE s W) (hk : ∀ k, (okE k ∨ k = rb) → k < W.heap.size → W1.heap[k]? = W.heap[k]?) : RD b rb okE s W1 := by
  obtain ⟨vo, vn, h⟩ := h
  exact ⟨vo, vn, h.step hk⟩
theorem RD.bound {b rb : Nat} {okE : Nat → Prop} {s : RS} {W : World} (h : RD b rb okE s W) : RD b rb (fun k => okE k ∧ k < W.heap.size) s W := by
  obtain ⟨vo, vn, h⟩ := h
  exact ⟨vo, vn, h.blk, Kd.N_mono (Kd.N_bound h.out) (fun k hk => ⟨⟨hk.1.1, hk.2⟩, hk.1.2⟩), Kd.R_mono (Kd.R_bound h.nums) (fun k hk => ⟨⟨hk.1.1, hk.2.2.1⟩, hk.1.2⟩)⟩
theorem RD.mono {b rb : Nat} {okE okE' : Nat → Prop} {s : RS} {W : World} (h : RD b rb okE s W) (hok : ∀ k, okE k → okE' k) : RD b rb okE' s W := by
  obtain ⟨vo, vn, h⟩ := h
  exact ⟨vo, vn, h.blk, Kd.N_mono h.out (fun k hk => ⟨hok k hk.1, hk.2⟩), Kd.R_mono h.nums (fun k hk => ⟨hok k hk.1, hk.2⟩)⟩
/-- What holds of the reader's state all along. -/
structure InvR (s : RS) : Prop where
  out : s.out.length ≤ 1000
  op : s.op = true → s.out.length < 1000
  nums : s.nums.length ≤ 70
  mo : s.mo ≤ 70
theorem form_mo (a : ByteArray) : (formF a).2.2.1 ≤ 70 := by
  obtain ⟨x, y, z, t, h⟩ := formed_some a
  have hf : formF a = (x, y, z, t) := by unfold formF; rw [h]; rfl
  rw [hf]
  clear hf
  unfold scene_formed.f at h
  repeat' split at h
  all_goals (simp only [Option.some.injEq, Prod.mk.injEq] at h; obtain ⟨_, _, h, _⟩ := h; show z ≤ 70; omega)
theorem takeF_inv (s : RS) (a : ByteArray) (h : InvR s) : InvR (takeF s a).1 := by
  unfold takeF
  by_cases h1 : s.op = false
  · rw [if_pos h1]
    unfold beginF
    split
    · split
      · exact h
      · exact ⟨h.out, fun _ => by have := h.out; show s.out.length < 1000; omega, h.nums, form_mo a⟩
    · exact h
  · rw [if_neg h1]
    have hop := h.op (by simpa using h1)
    split
    · simp only
      unfold shutF
      split
      · exact h
      · exact ⟨by simp; omega, fun e => by simp at e, by simp, h.mo⟩
    · split
      · rename_i h3
        have := h3.2
        have := h.mo
        exact ⟨h.out, h.op, by simp; omega, h.mo⟩
      · exact h
def stepR (st : RS × Option (Int × Int)) (p : ByteArray × Int) : (RS × Option (Int × Int)) × Bool :=
  if (takeF st.1 p.1).2 = 0 then (((takeF st.1 p.1).1, none), true) else (((takeF st.1 p.1).1, some (p.2, (takeF st.1 p.1).2)), false)
def okR (N M k : Nat) : Prop := (N + 3 ≤ k ∧ k < M) ∨ M + 8 ≤ k
def recR (rec : Loop) : Option (Int × Int) → Loop
  | none => rec
  | some _ => { rec with state := .done, pending := some .ret }
/-- What holds while the pieces are taken. -/
structure JR (w : World) (M : Nat) (rec : Loop) (st : RS × Option (Int × Int)) (W : World) : Prop where
  loop : W.heap[M + 4]? = some (.loop (recR rec st.2))
  dfr : W.heap[M + 3]? = some (.deferred (some []))
  ptr : Boxed W (M + 1) 52 (.pointer (some ⟨M, 0, none⟩))
  rd : RD w.heap.size M (okR w.heap.size M) st.1 W
  r1 : Boxed W w.heap.size 22 (.slice none 0 0)
  r2 : Boxed W (w.heap.size + 1) 3 (.int .i64 (st.2.getD (0, 0)).1)
  r3 : Boxed W (w.heap.size + 2) 25 (.int .i64 (st.2.getD (0, 0)).2)
  below : Below w.heap.size w W
  inv : InvR st.1
theorem JR.step {w W W1 : World} {M : Nat} {rec : Loop} {st : RS × Option (Int × Int)} (h : JR w M rec st W) (hM : w.heap.size + 3 ≤ M) (hk : ∀ k, (k < M + 2 ∨ k = M + 3 ∨ k = M + 4 ∨ M + 8 ≤ k) → w.heap.size ≤ k → k < W.heap.size → W1.heap[k]? = W.heap[k]?) (hb : Below w.heap.size w W1) : JR w M rec st W1 := by
  have lt : ∀ {k : Nat} {o : Obj}, W.heap[k]? = some o → k < W.heap.size := fun h => (Array.getElem?_eq_some_iff.1 h).1
  exact ⟨(hk _ (by omega) (by omega) (lt h.loop)).trans h.loop, (hk _ (by omega) (by omega) (lt h.dfr)).trans h.dfr, (hk _ (by omega) (by omega) (lt h.ptr)).trans h.ptr,
    h.rd.step (fun k ho hl => hk k (by unfold okR at ho; omega) (by unfold okR at ho; omega) hl),
    (hk _ (by omega) (by omega) (lt h.r1)).trans h.r1, (hk _ (by omega) (by omega) (lt h.r2)).trans h.r2, (hk _ (by omega) (by omega) (lt h.r3)).trans h.r3, hb, h.inv⟩
def readF (cls : Int → Int) (s : ByteArray) : List S34 × Int × Int :=
  if (s.size : Int) > 65536 then ([], 0, 5)
  else if badG s s.size 0 ≥ 0 then ([], badG s s.size 0, 4)
  else match (runP stepR (⟨[], false, 0, 0, 0, []⟩, none) (pcG s cls s.size 0 false (-1))).1 with
    | (_, some (a, e)) => ([], a, e)
    | (r, none) => if r.op = true then ([], (s.size : Int), 10) else (r.out, (s.size : Int), 0)
theorem own_pieces15 (s : ByteArray) (w : World) :
    Calls Tryd.prog 24 #[.string s] w fun e w' => e = .returned (.func (.func 35) #[] #[.pointer (some ⟨w.heap.size, 0, none⟩)]) ∧ w.alloc (.cells #[.string s] 9) = w' := by
  go_enter Tryd.func24, Tryd.ntmps24
  go_wp2
  go_ret
  exact ⟨rfl, rfl⟩
set_option maxRecDepth 100000 in
set_option maxHeartbeats 4000000 in
theorem own_Read (cls : Int → Int) (hcls : ∀ (r : Int) (W : World), Calls Tryd.prog 37 #[.int .i64 r] W fun e W' => e = .returned (.int .i64 (cls r)) ∧ Below W.heap.size W W') (s : ByteArray) (r1 : List S34) (r2 r3 : Int) (w : World) (h : readF cls s = (r1, r2, r3)) :
    Calls Tryd.prog 11 #[.string s] w fun e w' => ∃ v0_ : Value, e = .returned (.tuple #[v0_, .int .i64 r2, .int .i64 r3]) ∧ Kd.N k34 34 w' w.heap.size (fun k_ => w.heap.size ≤ k_) v0_ r1 ∧ Below w.heap.size w w' := by
  have HC := Aside0.mk hcls
  clear hcls
  refine (callsIn_wide (n := 9)).1 ?_
  refine callsIn_of_wp_marks Tryd.func11 rfl trivial ?_ rfl
  simp only [Tryd.ntmps11, List.size_toArray, List.length_cons, List.length_nil, Nat.reduceAdd, Nat.reduceSub, Array.replicate_succ, Array.replicate_zero, List.push_toArray, List.append_toArray, List.nil_append, List.cons_append]
  refine wpIn_wide.2 ?_
  have y1 := ((Boxed.new w 22 (.slice none 0 0)).alloc (.cells #[.int .i64 0] 3)).alloc (.cells #[.int .i64 0] 25)
  have y2 := (Boxed.new (w.alloc (.cells #[.slice none 0 0] 22)) 3 (.int .i64 0)).alloc (.cells #[.int .i64 0] 25)
  have y3 := Boxed.new ((w.alloc (.cells #[.slice none 0 0] 22)).alloc (.cells #[.int .i64 0] 3)) 25 (.int .i64 0)
  simp only [World.size_alloc] at y2 y3
  have hB0 : Below w.heap.size w (((w.alloc (.cells #[.slice none 0 0] 22)).alloc (.cells #[.int .i64 0] 3)).alloc (.cells #[.int .i64 0] 25)) := below_alloc (below_alloc (below_alloc (Below.refl _ _) _) _) _
  have Y := Aside0.mk (And.intro y1 (And.intro y2 (And.intro y3 hB0)))
  clear y1 y2 y3 hB0
  unfold readF at h
  by_cases hz : (s.size : Int) > 65536
  · rw [if_pos hz] at h
    simp only [Prod.mk.injEq] at h
    obtain ⟨rfl, rfl, rfl⟩ := h
    have z0 : decide ((65536 : Int) < (s.size : Int)) = true := decide_eq_true hz
    go_wp2
    have y1 := ((Boxed.new w 22 (.slice none 0 0)).alloc (.cells #[.int .i64 0] 3)).alloc (.cells #[.int .i64 5] 25)
    have y2 := (Boxed.new (w.alloc (.cells #[.slice none 0 0] 22)) 3 (.int .i64 0)).alloc (.cells #[.int .i64 5] 25)
    have y3 := Boxed.new ((w.alloc (.cells #[.slice none 0 0] 22)).alloc (.cells #[.int .i64 0] 3)) 25 (.int .i64 5)
    simp only [World.size_alloc] at y2 y3
    exact ⟨_, results_c3 rfl rfl rfl rfl (load23S y1) (load3S y2) (load24S y3), .slice none 0 0, rfl, Kd.N_nil _ _ _ _ _, below_alloc (below_alloc (below_alloc (Below.refl _ _) _) _) _⟩
  · rw [if_neg hz] at h
    have z0 : decide ((65536 : Int) < (s.size : Int)) = false := decide_eq_false hz
    obtain ⟨bd, hbd⟩ : ∃ bd, badG s s.size 0 = bd := ⟨_, rfl⟩
    rw [hbd] at h
    have hB : glyph_Bad.f s = some bd := by unfold glyph_Bad.f; rw [hbd]
    have HBd := Aside0.mk hB
    clear hB hbd
    by_cases hb : bd ≥ 0
    · rw [if_pos hb] at h
      simp only [Prod.mk.injEq] at h
      obtain ⟨rfl, rfl, rfl⟩ := h
      have b0 : decide ((0 : Int) ≤ bd) = true := decide_eq_true hb
      clear hz
      go_wp2_with (go_at_call 23; (with_reducible refine (glyph_Bad.calls s bd _ HBd.out).mono ?_); rintro e w1 ⟨rfl, hb1⟩; have x1 : Boxed w1 w.heap.size 22 (.slice none 0 0) := (hb1.block _ Y.out.1.lt).trans Y.out.1; have x2 : Boxed w1 (w.heap.size + 1) 3 (.int .i64 0) := (hb1.block _ Y.out.2.1.lt).trans Y.out.2.1; have x3 : Boxed w1 (w.heap.size + 1 + 1) 25 (.int .i64 0) := (hb1.block _ Y.out.2.2.1.lt).trans Y.out.2.2.1; have HB1 := Aside0.mk (Y.out.2.2.2.trans (hb1.mono Y.out.2.2.2.size)); have c1 := x1.cell; have c2 := x2.cell; have c3 := x3.cell; have f1 := x1.frozen; have f2 := x2.frozen; have f3 := x3.frozen; have X := Aside0.mk (And.intro x1 (And.intro x2 x3)); clear x1 x2 x3 hb1)
      have y1 : Boxed (((w1.setCell ⟨w.heap.size, 0, none⟩ (.slice none 0 0)).setCell ⟨w.heap.size + 1, 0, none⟩ (.int .i64 bd)).setCell ⟨w.heap.size + 1 + 1, 0, none⟩ (.int .i64 4)) w.heap.size 22 (.slice none 0 0) := (((X.out.1).set (.slice none 0 0)).other (by omega) _).other (by omega) _
      have y2 : Boxed (((w1.setCell ⟨w.heap.size, 0, none⟩ (.slice none 0 0)).setCell ⟨w.heap.size + 1, 0, none⟩ (.int .i64 bd)).setCell ⟨w.heap.size + 1 + 1, 0, none⟩ (.int .i64 4)) (w.heap.size + 1) 3 (.int .i64 bd) := (((X.out.2.1).other (by omega) _).set (.int .i64 bd)).other (by omega) _
      have y3 : Boxed (((w1.setCell ⟨w.heap.size, 0, none⟩ (.slice none 0 0)).setCell ⟨w.heap.size + 1, 0, none⟩ (.int .i64 bd)).setCell ⟨w.heap.size + 1 + 1, 0, none⟩ (.int .i64 4)) (w.heap.size + 1 + 1) 25 (.int .i64 4) := (((X.out.2.2).other (by omega) _).other (by omega) _).set (.int .i64 4)
      exact ⟨_, results_c3 rfl rfl rfl rfl (load23S y1) (load3S y2) (load24S y3), .slice none 0 0, rfl, Kd.N_nil _ _ _ _ _, below_set (below_set (below_set HB1.out (Nat.le_refl _)) (by simp)) (by show w.heap.size ≤ w.heap.size + 1 + 1; omega)⟩
    · rw [if_neg hb] at h
      have b0 : decide ((0 : Int) ≤ bd) = false := decide_eq_false hb
      clear hz hb
      have H := Aside0.mk h
      clear h
      go_wp2_with (first | (go_at_call 23; (with_reducible refine (glyph_Bad.calls s bd _ HBd.out).mono ?_); rintro e w1 ⟨rfl, hb1⟩; have x1 : Boxed w1 w.heap.size 22 (.slice none 0 0) := (hb1.block _ Y.out.1.lt).trans Y.out.1; have x2 : Boxed w1 (w.heap.size + 1) 3 (.int .i64 0) := (hb1.block _ Y.out.2.1.lt).trans Y.out.2.1; have x3 : Boxed w1 (w.heap.size + 1 + 1) 25 (.int .i64 0) := (hb1.block _ Y.out.2.2.1.lt).trans Y.out.2.2.1; have HB1 := Aside0.mk (Y.out.2.2.2.trans (hb1.mono Y.out.2.2.2.size)); have HS1 : Aside0 (w.heap.size + 3 ≤ w1.heap.size) := ⟨by have := x3.lt; omega⟩; have X := Aside0.mk (And.intro x1 (And.intro x2 x3)); clear x1 x2 x3 hb1) | (go_at_call 24; (with_reducible refine (own_pieces15 s _).mono ?_); rintro e w' ⟨rfl, rfl⟩))
      have hM := HS1.out
      have bR := (Below.heap_alloc ((w1.alloc (.cells (rcells ⟨[], false, 0, 0, 0, []⟩ (.slice none 0 0) (.slice none 0 0)) 56)).alloc (.cells #[.pointer (some ⟨w1.heap.size, 0, none⟩)] 52)) (.cells #[.string s] 9) w1.heap.size (by simp; omega)).trans ((Below.heap_alloc (w1.alloc (.cells (rcells ⟨[], false, 0, 0, 0, []⟩ (.slice none 0 0) (.slice none 0 0)) 56)) (.cells #[.pointer (some ⟨w1.heap.size, 0, none⟩)] 52) w1.heap.size (by simp)).trans (World.alloc_heap_new w1 (.cells (rcells ⟨[], false, 0, 0, 0, []⟩ (.slice none 0 0) (.slice none 0 0)) 56)))
      have bP := (Boxed.new (w1.alloc (.cells (rcells ⟨[], false, 0, 0, 0, []⟩ (.slice none 0 0) (.slice none 0 0)) 56)) 52 (.pointer (some ⟨w1.heap.size, 0, none⟩))).alloc (.cells #[.string s] 9)
      have bS := Boxed.new ((w1.alloc (.cells (rcells ⟨[], false, 0, 0, 0, []⟩ (.slice none 0 0) (.slice none 0 0)) 56)).alloc (.cells #[.pointer (some ⟨w1.heap.size, 0, none⟩)] 52)) 9 (.string s)
      have x1 := ((X.out.1.alloc (.cells (rcells ⟨[], false, 0, 0, 0, []⟩ (.slice none 0 0) (.slice none 0 0)) 56)).alloc (.cells #[.pointer (some ⟨w1.heap.size, 0, none⟩)] 52)).alloc (.cells #[.string s] 9)
      have x2 := ((X.out.2.1.alloc (.cells (rcells ⟨[], false, 0, 0, 0, []⟩ (.slice none 0 0) (.slice none 0 0)) 56)).alloc (.cells #[.pointer (some ⟨w1.heap.size, 0, none⟩)] 52)).alloc (.cells #[.string s] 9)
      have x3 := ((X.out.2.2.alloc (.cells (rcells ⟨[], false, 0, 0, 0, []⟩ (.slice none 0 0) (.slice none 0 0)) 56)).alloc (.cells #[.pointer (some ⟨w1.heap.size, 0, none⟩)] 52)).alloc (.cells #[.string s] 9)
      have hB0 := below_alloc (below_alloc (below_alloc HB1.out (.cells (rcells ⟨[], false, 0, 0, 0, []⟩ (.slice none 0 0) (.slice none 0 0)) 56)) (.cells #[.pointer (some ⟨w1.heap.size, 0, none⟩)] 52)) (.cells #[.string s] 9)
      have hsz : (((w1.alloc (.cells (rcells ⟨[], false, 0, 0, 0, []⟩ (.slice none 0 0) (.slice none 0 0)) 56)).alloc (.cells #[.pointer (some ⟨w1.heap.size, 0, none⟩)] 52)).alloc (.cells #[.string s] 9)).heap.size = w1.heap.size + 3 := by simp
      simp only [World.size_alloc] at bP bS
      show (Code.rangeFunc _ _ _ _).wp _ _ _ (((w1.alloc (.cells (rcells ⟨[], false, 0, 0, 0, []⟩ (.slice none 0 0) (.slice none 0 0)) 56)).alloc (.cells #[.pointer (some ⟨w1.heap.size, 0, none⟩)] 52)).alloc (.cells #[.string s] 9))
      obtain ⟨W0, hW0⟩ : ∃ W0, ((w1.alloc (.cells (rcells ⟨[], false, 0, 0, 0, []⟩ (.slice none 0 0) (.slice none 0 0)) 56)).alloc (.cells #[.pointer (some ⟨w1.heap.size, 0, none⟩)] 52)).alloc (.cells #[.string s] 9) = W0 := ⟨_, rfl⟩
      rw [hW0] at bR bP bS x1 x2 x3 hB0 hsz ⊢
      clear hW0 X HB1 HS1 Y
      obtain ⟨M, hMM⟩ : ∃ M, w1.heap.size = M := ⟨_, rfl⟩
      simp only [hMM] at bR bP bS hM hsz ⊢
      clear hMM w1
      refine (wpIn_wide (n := 9)).1 ?_
      refine range_mine rfl (by omega) (gf := 35) (lb := #[.pointer (some ⟨M + 1 + 1, 0, none⟩)]) rfl trivial (enters_of Tryd.func35 (by kernel_rfl) rfl) (fun rec hfn hst hpe htm hps has hbo => ?_)
      rw [hsz]
      have hJ0 : JR w M rec (⟨[], false, 0, 0, 0, []⟩, none) ((W0.alloc (.deferred (some []))).alloc (.loop rec)) := by
        refine ⟨?_, ?_, (bP.alloc _).alloc _, ⟨_, _, RDv.below ⟨bR, Kd.N_nil _ _ _ _ _, Kd.R_nil _ _ _ _ _⟩ (below_alloc (below_alloc (Below.refl _ _) _) _)⟩, (x1.alloc _).alloc _, (x2.alloc _).alloc _, (x3.alloc _).alloc _, below_alloc (below_alloc hB0 _) _, ⟨by simp, fun e => by simp at e, by simp, by simp⟩⟩
        · have := World.alloc_heap_new (W0.alloc (.deferred (some []))) (.loop rec)
          rw [World.size_alloc, hsz] at this
          exact this
        · have := (Below.heap_alloc (W0.alloc (.deferred (some []))) (.loop rec) W0.heap.size (by simp)).trans (World.alloc_heap_new W0 (.deferred (some [])))
          rw [hsz] at this
          exact this
      have HYP : HypP 8 (M + 4) s (M + 2) (M + 5) (M + 6) (M + 7) stepR (JR w M rec) (fun st => st.2 = none) := by
        have tmps0 := htm
        refine ⟨?_, ?_, ?_, ?_, ?_, by omega, by omega, by omega, by omega, by omega⟩
        · intro st W W' h hb
          exact h.step hM (fun k _ _ hk => hb.block k hk) (h.below.trans (hb.mono h.below.size))
        · intro st W v h
          exact h.step hM (fun k hk _ _ => Below.heap_setCell W ⟨M + 6, 0, none⟩ v k (by show k ≠ M + 6; omega)) (below_set h.below (by show w.heap.size ≤ M + 6; omega))
        · intro st W p h
          exact h.step hM (fun k hk _ _ => Lib.iterAt_other W (M + 7) k s p (by omega)) (Lib.below_iterAt h.below (by omega) s p)
        · rintro st p hl h2
          unfold stepR at h2 ⊢
          split
          · rfl
          · rename_i hne
            rw [if_neg hne] at h2
            cases h2
        · rintro ⟨rs, o⟩ p W1 hj hl hIt
          simp only at hl
          subst hl
          obtain ⟨ps, pa⟩ := p
          have hInv := hj.inv
          obtain ⟨rs1, te, hT⟩ : ∃ rs1 te, takeF rs ps = (rs1, te) := ⟨_, _, rfl⟩
          have hInv1 : InvR rs1 := by have := takeF_inv rs ps hInv; rw [hT] at this; exact this
          have hStep : stepR (rs, none) (ps, pa) = if te = 0 then ((rs1, none), true) else ((rs1, some (pa, te)), false) := by unfold stepR; rw [hT]
          rw [hStep]
          refine yieldAt_mine (r := rec) trivial hj.loop hst (by rw [hps]; rfl) (fun K hK => ?_)
          rw [has, hps, htm]
          have HK := Aside0.mk hK
          have HJ := Aside0.mk hj
          have HT := Aside0.mk hT
          have HI1 := Aside0.mk hInv1
          have HI := Aside0.mk hInv
          clear hK hj hStep hT hInv1 hInv
          dsimp only
          gi_wp2
          have hl1 : M + 4 < W1.heap.size := (Array.getElem?_eq_some_iff.1 HJ.out.loop).1
          have hlA : (W1.alloc (.cells #[.string ps, .int .i64 pa] 60)).heap[M + 4]? = some (.loop rec) := (Below.heap_alloc W1 _ _ hl1).trans HJ.out.loop
          refine HK.out _ _ hlA ?_
          clear HK
          have hsz2 : ((W1.alloc (.cells #[.string ps, .int .i64 pa] 60)).putObj (M + 4) (.loop { rec with state := .busy })).heap.size = W1.heap.size + 1 := by simp [World.putObj]
          have tr2 : ∀ k, k < W1.heap.size → k ≠ M + 4 → ((W1.alloc (.cells #[.string ps, .int .i64 pa] 60)).putObj (M + 4) (.loop { rec with state := .busy })).heap[k]? = W1.heap[k]? := fun k hk hne => (World.putObj_heap_other hne).trans (Below.heap_alloc W1 _ _ hk)
          have hT2 : ((W1.alloc (.cells #[.string ps, .int .i64 pa] 60)).putObj (M + 4) (.loop { rec with state := .busy })).heap[W1.heap.size]? = some (.cells #[.string ps, .int .i64 pa] 60 (0, 0)) := (World.putObj_heap_other (by omega)).trans (World.alloc_heap_new W1 _)
          have hL2 : ((W1.alloc (.cells #[.string ps, .int .i64 pa] 60)).putObj (M + 4) (.loop { rec with state := .busy })).heap[M + 4]? = some (.loop { rec with state := .busy }) := World.putObj_heap_same (by simp; omega)
          have hB2 : Below w.heap.size w ((W1.alloc (.cells #[.string ps, .int .i64 pa] 60)).putObj (M + 4) (.loop { rec with state := .busy })) := (HJ.out.below.alloc HJ.out.below.size _).grown (grownBy_putObj' _ (M + 4) _) (by have := HJ.out.below.size; simp; omega) (fun k e => by cases e; omega)
          obtain ⟨W2, hW2⟩ : ∃ W2, (W1.alloc (.cells #[.string ps, .int .i64 pa] 60)).putObj (M + 4) (.loop { rec with state := .busy }) = W2 := ⟨_, rfl⟩
          rw [hW2] at hsz2 tr2 hT2 hL2 hB2 ⊢
          clear hW2 hlA
          rw [hbo]
          have hR2 : RD w.heap.size M (fun k => okR w.heap.size M k ∧ k ≠ W1.heap.size) rs W2 := by
            refine RD.mono (RD.bound HJ.out.rd |>.step (fun k hk hlt => tr2 k hlt ?_)) (fun k hk => ⟨hk.1, by have := hk.2; omega⟩)
            rcases hk with hk | hk
            · have := hk.1; unfold okR at this; omega
            · omega
          have cP : W2.cell? ⟨M + 1, 0, none⟩ = some (.pointer (some ⟨M, 0, none⟩)) := Boxed.cell ((tr2 _ HJ.out.ptr.lt (by omega)).trans HJ.out.ptr)
          have c0' : W2.cell? ⟨W1.heap.size, 0, none⟩ = some (.string ps) := by simp [World.cell?, hT2]
          have HW2 := Aside0.mk (And.intro hsz2 (And.intro tr2 (And.intro hT2 (And.intro hL2 (And.intro hB2 hR2)))))
          clear hsz2 tr2 hT2 hL2 hB2 hR2
          by_cases h0 : te = 0
          · subst h0
            rw [if_pos rfl]
            gi_wp2_with (((first | refine ⟨trivial, ?_⟩ | refine ⟨trivial, wide_roomS, ?_⟩ | skip); gi_at_call 25; (with_reducible refine (CallsIn.mono (CallsIn.inRound (M + 4) (callsIn_wide.2 (own_take ps M (fun k => okR w.heap.size M k ∧ k ≠ W1.heap.size) rs w W2 HW2.out.2.2.2.2.1 (by omega) (fun e => by have := e.1; unfold okR at this; omega) (fun k hk => by have := HW2.out.1; unfold okR; omega) (by have := HI.out.out; omega) (by have := HI.out.nums; omega) HW2.out.2.2.2.2.2))) ?_)); rw [HT.out]; rintro e w3 ⟨rfl, hd, hb, hk⟩; have HD3 := Aside0.mk hd; have HB3 := Aside0.mk hb; have HK3 := Aside0.mk hk; clear hd hb hk))
            have hsz2 := HW2.out.1
            have tr2 := HW2.out.2.1
            have tr3 : ∀ k, k < W1.heap.size → ¬ okR w.heap.size M k → k ≠ M → w3.heap[k]? = W2.heap[k]? := fun k hk ho hm => HK3.out.2 k (by omega) (fun e => ho e.1) hm
            have hL3 := (tr3 (M + 4) hl1 (by unfold okR; omega) (by omega)).trans HW2.out.2.2.2.1
            have hrr : { rec with state := .ready, pending := none } = rec := by
              cases rec
              simp only at hst hpe
              subst hst hpe
              rfl
            refine ⟨hL3, rfl, ?_, ?_⟩
            · rw [hrr]
              have tr : ∀ k, k < W1.heap.size → ¬ okR w.heap.size M k → k ≠ M → k ≠ M + 4 → (w3.putObj (M + 4) (.loop rec)).heap[k]? = W1.heap[k]? := fun k hk ho hm hm4 => (World.putObj_heap_other hm4).trans ((tr3 k hk ho hm).trans (tr2 k hk hm4))
              refine ⟨World.putObj_heap_same (Array.getElem?_eq_some_iff.1 hL3).1, (tr _ (by omega) (by unfold okR; omega) (by omega) (by omega)).trans HJ.out.dfr, (tr _ (by omega) (by unfold okR; omega) (by omega) (by omega)).trans HJ.out.ptr, (RD.mono HD3.out (fun k hk => hk.1)).step (fun k hk _ => World.putObj_heap_other (by unfold okR at hk; omega)), (tr _ (by omega) (by unfold okR; omega) (by omega) (by omega)).trans HJ.out.r1, (tr _ (by omega) (by unfold okR; omega) (by omega) (by omega)).trans HJ.out.r2, (tr _ (by omega) (by unfold okR; omega) (by omega) (by omega)).trans HJ.out.r3, HB3.out.grown (grownBy_putObj' _ (M + 4) _) HB3.out.size (fun k e => by cases e; omega), HI1.out⟩
            · have tr : ∀ k, k < W1.heap.size → ¬ okR w.heap.size M k → k ≠ M → k ≠ M + 4 → (w3.putObj (M + 4) (.loop { rec with state := .ready, pending := none })).heap[k]? = W1.heap[k]? := fun k hk ho hm hm4 => (World.putObj_heap_other hm4).trans ((tr3 k hk ho hm).trans (tr2 k hk hm4))
              exact ⟨by have := HK3.out.1; simp [World.putObj]; omega, tr _ (by omega) (by unfold okR; omega) (by omega) (by omega), tr _ (by omega) (by unfold okR; omega) (by omega) (by omega), tr _ (by omega) (by unfold okR; omega) (by omega) (by omega), tr _ (by omega) (by unfold okR; omega) (by omega) (by omega)⟩
          · rw [if_neg h0]
            have n0 : (te != 0) = true := bne_iff_ne.mpr h0
            have hmo : Tryd.prog.follows .mixedOrders = true := by kernel_rfl
            gi_wp2_with (((first | refine ⟨trivial, ?_⟩ | refine ⟨trivial, wide_roomS, ?_⟩ | skip); gi_at_call 25; (with_reducible refine (CallsIn.mono (CallsIn.inRound (M + 4) (callsIn_wide.2 (own_take ps M (fun k => okR w.heap.size M k ∧ k ≠ W1.heap.size) rs w W2 HW2.out.2.2.2.2.1 (by omega) (fun e => by have := e.1; unfold okR at this; omega) (fun k hk => by have := HW2.out.1; unfold okR; omega) (by have := HI.out.out; omega) (by have := HI.out.nums; omega) HW2.out.2.2.2.2.2))) ?_)); rw [HT.out]; rintro e w3 ⟨rfl, hd, hb, hk⟩; have HD3 := Aside0.mk hd; have HB3 := Aside0.mk hb; have HK3 := Aside0.mk hk; clear hd hb hk))
            have hsz2 := HW2.out.1
            have tr2 := HW2.out.2.1
            have tr3 : ∀ k, k < W1.heap.size → ¬ okR w.heap.size M k → k ≠ M → w3.heap[k]? = W2.heap[k]? := fun k hk ho hm => HK3.out.2 k (by omega) (fun e => ho e.1) hm
            have x1 : Boxed w3 w.heap.size 22 (.slice none 0 0) := (tr3 _ (by omega) (by unfold okR; omega) (by omega)).trans ((tr2 _ (by omega) (by omega)).trans HJ.out.r1)
            have x2 : Boxed w3 (w.heap.size + 1) 3 (.int .i64 0) := (tr3 _ (by omega) (by unfold okR; omega) (by omega)).trans ((tr2 _ (by omega) (by omega)).trans HJ.out.r2)
            have x3 : Boxed w3 (w.heap.size + 1 + 1) 25 (.int .i64 0) := (tr3 _ (by omega) (by unfold okR; omega) (by omega)).trans ((tr2 _ (by omega) (by omega)).trans HJ.out.r3)
            have hbx : w3.heap[W1.heap.size]? = some (.cells #[.string ps, .int .i64 pa] 60 (0, 0)) := (HK3.out.2 W1.heap.size (by omega) (fun e => e.2 rfl) (by omega)).trans HW2.out.2.2.1
            have cb : w3.cell? ⟨W1.heap.size, 1, none⟩ = some (.int .i64 pa) := by simp [World.cell?, hbx]
            have c1 := x1.cell
            have c2 := x2.cell
            have c3 := x3.cell
            have f1 := x1.frozen
            have f2 := x2.frozen
            have f3 := x3.frozen
            have e1 : (w.heap.size = W1.heap.size) = False := eq_false (by omega)
            have e2 : (w.heap.size + 1 = W1.heap.size) = False := eq_false (by omega)
            have e3 : (w.heap.size + 1 + 1 = W1.heap.size) = False := eq_false (by omega)
            have e4 : (W1.heap.size = w.heap.size) = False := eq_false (by omega)
            have e5 : (W1.heap.size = w.heap.size + 1) = False := eq_false (by omega)
            have e6 : (W1.heap.size = w.heap.size + 1 + 1) = False := eq_false (by omega)
            have HX := Aside0.mk (And.intro x1 (And.intro x2 (And.intro x3 (And.intro hsz2 (And.intro tr2 tr3)))))
            clear x1 x2 x3 hbx hsz2 tr2 tr3
            gi_region_with_o (fail)
            all_goals
              gi_wp2
              obtain ⟨x1, x2, x3, hsz2, tr2, tr3⟩ := HX.out
              have hL3 := (tr3 (M + 4) hl1 (by unfold okR; omega) (by omega)).trans HW2.out.2.2.2.1
              have q1 : Boxed ((((w3.setCell ⟨w.heap.size, 0, none⟩ (.slice none 0 0)).setCell ⟨w.heap.size + 1, 0, none⟩ (.int .i64 pa)).setCell ⟨w.heap.size + 1 + 1, 0, none⟩ (.int .i64 te)).drew) w.heap.size 22 (.slice none 0 0) := ((x1.set (.slice none 0 0)).other (by omega) (.int .i64 pa) (B' := w.heap.size + 1)).other (by omega) (.int .i64 te) (B' := w.heap.size + 1 + 1)
              have q2 : Boxed ((((w3.setCell ⟨w.heap.size, 0, none⟩ (.slice none 0 0)).setCell ⟨w.heap.size + 1, 0, none⟩ (.int .i64 pa)).setCell ⟨w.heap.size + 1 + 1, 0, none⟩ (.int .i64 te)).drew) (w.heap.size + 1) 3 (.int .i64 pa) := ((x2.other (by omega) (.slice none 0 0) (B' := w.heap.size)).set (.int .i64 pa)).other (by omega) (.int .i64 te) (B' := w.heap.size + 1 + 1)
              have q3 : Boxed ((((w3.setCell ⟨w.heap.size, 0, none⟩ (.slice none 0 0)).setCell ⟨w.heap.size + 1, 0, none⟩ (.int .i64 pa)).setCell ⟨w.heap.size + 1 + 1, 0, none⟩ (.int .i64 te)).drew) (w.heap.size + 1 + 1) 25 (.int .i64 te) := ((x3.other (by omega) (.slice none 0 0) (B' := w.heap.size)).other (by omega) (.int .i64 pa) (B' := w.heap.size + 1)).set (.int .i64 te)
              have qf : ∀ k, k ≠ w.heap.size → k ≠ w.heap.size + 1 → k ≠ w.heap.size + 1 + 1 → ((((w3.setCell ⟨w.heap.size, 0, none⟩ (.slice none 0 0)).setCell ⟨w.heap.size + 1, 0, none⟩ (.int .i64 pa)).setCell ⟨w.heap.size + 1 + 1, 0, none⟩ (.int .i64 te)).drew).heap[k]? = w3.heap[k]? := fun k h1 h2 h3 => (Below.heap_setCell _ ⟨w.heap.size + 1 + 1, 0, none⟩ _ k h3).trans ((Below.heap_setCell _ ⟨w.heap.size + 1, 0, none⟩ _ k h2).trans (Below.heap_setCell _ ⟨w.heap.size, 0, none⟩ _ k h1))
              have qB : Below w.heap.size w ((((w3.setCell ⟨w.heap.size, 0, none⟩ (.slice none 0 0)).setCell ⟨w.heap.size + 1, 0, none⟩ (.int .i64 pa)).setCell ⟨w.heap.size + 1 + 1, 0, none⟩ (.int .i64 te)).drew) := below_drew1 (below_set (below_set (below_set HB3.out (Nat.le_refl _)) (by show w.heap.size ≤ w.heap.size + 1; omega)) (by show w.heap.size ≤ w.heap.size + 1 + 1; omega))
              have qs : ((((w3.setCell ⟨w.heap.size, 0, none⟩ (.slice none 0 0)).setCell ⟨w.heap.size + 1, 0, none⟩ (.int .i64 pa)).setCell ⟨w.heap.size + 1 + 1, 0, none⟩ (.int .i64 te)).drew).heap.size = w3.heap.size := by simp [World.setCell, World.drew]
              obtain ⟨V, hV⟩ : ∃ V, (((w3.setCell ⟨w.heap.size, 0, none⟩ (.slice none 0 0)).setCell ⟨w.heap.size + 1, 0, none⟩ (.int .i64 pa)).setCell ⟨w.heap.size + 1 + 1, 0, none⟩ (.int .i64 te)).drew = V := ⟨_, rfl⟩
              rw [hV] at q1 q2 q3 qf qB qs ⊢
              clear hV
              have hLV := (qf (M + 4) (by omega) (by omega) (by omega)).trans hL3
              have tr : ∀ {rc : Loop} (k : Nat), k < W1.heap.size → ¬ okR w.heap.size M k → k ≠ M → k ≠ M + 4 → w.heap.size + 3 ≤ k → (V.putObj (M + 4) (.loop rc)).heap[k]? = W1.heap[k]? := fun k hk ho hm hm4 hr => (World.putObj_heap_other hm4).trans ((qf k (by omega) (by omega) (by omega)).trans ((tr3 k hk ho hm).trans (tr2 k hk hm4)))
              refine ⟨hLV, rfl, ?_, ?_⟩
              · exact ⟨World.putObj_heap_same (Array.getElem?_eq_some_iff.1 hLV).1, (tr _ (by omega) (by unfold okR; omega) (by omega) (by omega) (by omega)).trans HJ.out.dfr, (tr _ (by omega) (by unfold okR; omega) (by omega) (by omega) (by omega)).trans HJ.out.ptr, (RD.mono HD3.out (fun k hk => hk.1)).step (fun k hk _ => (World.putObj_heap_other (by unfold okR at hk; omega)).trans (qf k (by unfold okR at hk; omega) (by unfold okR at hk; omega) (by unfold okR at hk; omega))), (World.putObj_heap_other (by omega)).trans q1, (World.putObj_heap_other (by omega)).trans q2, (World.putObj_heap_other (by omega)).trans q3, qB.grown (grownBy_putObj' _ (M + 4) _) qB.size (fun k e => by cases e; omega), HI1.out⟩
              · exact ⟨by have := HK3.out.1; simp [World.putObj]; omega, tr _ (by omega) (by unfold okR; omega) (by omega) (by omega) (by omega), tr _ (by omega) (by unfold okR; omega) (by omega) (by omega) (by omega), tr _ (by omega) (by unfold okR; omega) (by omega) (by omega) (by omega), tr _ (by omega) (by unfold okR; omega) (by omega) (by omega) (by omega)⟩
      have hs2 : ((W0.alloc (.deferred (some []))).alloc (.loop rec)).heap.size = M + 5 := by simp; omega
      have HYP2 := HYP
      refine (own_pieces1 (n := 8) (l := M + 4) (Bs := M + 2) (J := JR w M rec) (step := stepR) (live := fun st => st.2 = none) cls HC.out ((W0.alloc (.deferred (some []))).alloc (.loop rec)) (by rw [hs2]; exact HYP) (⟨[], false, 0, 0, 0, []⟩, none) rfl hJ0 ((bS.alloc _).alloc _)).mono ?_
      rintro e W' ⟨hv, hJ⟩
      refine ⟨hv, ?_⟩
      have hr := H.out
      clear HYP HYP2 hJ0 H
      obtain ⟨⟨rs, o⟩, hrun⟩ : ∃ x, (runP stepR (⟨[], false, 0, 0, 0, []⟩, none) (pcG s cls s.size 0 false (-1))).1 = x := ⟨_, rfl⟩
      rw [hrun] at hJ hr
      clear hrun
      have tr : ∀ {rc : Loop} {k : Nat}, k ≠ M + 4 → (W'.putObj (M + 3 + 1) (.loop rc)).heap[k]? = W'.heap[k]? := fun hk => World.putObj_heap_other hk
      have bel : ∀ {rc : Loop}, Below w.heap.size w (W'.putObj (M + 3 + 1) (.loop rc)) := hJ.below.grown (grownBy_putObj' _ (M + 4) _) hJ.below.size (fun k e => by cases e; omega)
      cases o with
      | some o =>
        obtain ⟨at_, er⟩ := o
        simp only [Prod.mk.injEq] at hr
        obtain ⟨rfl, rfl, rfl⟩ := hr
        refine ⟨.done, some .ret, by simp, hJ.loop, ?_⟩
        have y1 : Boxed (W'.putObj (M + 3 + 1) (.loop { rec with state := .exhausted, pending := some .ret })) w.heap.size 22 (.slice none 0 0) := (tr (rc := { rec with state := .exhausted, pending := some .ret }) (by omega)).trans hJ.r1
        have y2 : Boxed (W'.putObj (M + 3 + 1) (.loop { rec with state := .exhausted, pending := some .ret })) (w.heap.size + 1) 3 (.int .i64 at_) := (tr (rc := { rec with state := .exhausted, pending := some .ret }) (by omega)).trans hJ.r2
        have y3 : Boxed (W'.putObj (M + 3 + 1) (.loop { rec with state := .exhausted, pending := some .ret })) (w.heap.size + 1 + 1) 25 (.int .i64 er) := (tr (rc := { rec with state := .exhausted, pending := some .ret }) (by omega)).trans hJ.r3
        have yD := (tr (rc := { rec with state := .exhausted, pending := some .ret }) (by omega)).trans hJ.dfr
        have yB := bel (rc := { rec with state := .exhausted, pending := some .ret })
        obtain ⟨W2, hW2⟩ : ∃ W2, W'.putObj (M + 3 + 1) (.loop { rec with state := .exhausted, pending := some .ret }) = W2 := ⟨_, rfl⟩
        rw [hW2] at y1 y2 y3 yD yB ⊢
        clear hW2 bel tr hJ
        refine wpIn_wide.2 ?_
        go_wp2
        refine ⟨by simp, .inl ⟨_, _, rfl, run_takeDeferred yD, ?_⟩⟩
        exact ⟨_, results_c3 rfl rfl rfl rfl (load23S ((World.putObj_heap_other (by omega)).trans y1)) (load3S ((World.putObj_heap_other (by omega)).trans y2)) (load24S ((World.putObj_heap_other (by omega)).trans y3)), .slice none 0 0, rfl, Kd.N_nil _ _ _ _ _, yB.grown (grownBy_putObj' _ (M + 3) _) yB.size (fun k e => by cases e; omega)⟩
      | none =>
        have hlr : W'.heap[M + 4]? = some (.loop { rec with state := .ready, pending := none }) := by
          have := hJ.loop
          cases rec
          simp only at hst hpe
          subst hst hpe
          exact this
        refine ⟨.ready, none, by simp, hlr, ?_⟩
        have y1 : Boxed (W'.putObj (M + 3 + 1) (.loop { rec with state := .exhausted, pending := none })) w.heap.size 22 (.slice none 0 0) := (tr (by omega)).trans hJ.r1
        have y2 : Boxed (W'.putObj (M + 3 + 1) (.loop { rec with state := .exhausted, pending := none })) (w.heap.size + 1) 3 (.int .i64 0) := (tr (by omega)).trans hJ.r2
        have y3 : Boxed (W'.putObj (M + 3 + 1) (.loop { rec with state := .exhausted, pending := none })) (w.heap.size + 1 + 1) 25 (.int .i64 0) := (tr (by omega)).trans hJ.r3
        have yP : Boxed (W'.putObj (M + 3 + 1) (.loop { rec with state := .exhausted, pending := none })) (M + 1) 52 (.pointer (some ⟨M, 0, none⟩)) := (tr (by omega)).trans hJ.ptr
        have yD := (tr (rc := { rec with state := .exhausted, pending := none }) (show M + 3 ≠ M + 4 by omega)).trans hJ.dfr
        have yB := bel (rc := { rec with state := .exhausted, pending := none })
        have yR := hJ.rd.step (W1 := W'.putObj (M + 3 + 1) (.loop { rec with state := .exhausted, pending := none })) (fun k hk _ => tr (by unfold okR at hk; omega))
        obtain ⟨W2, hW2⟩ : ∃ W2, W'.putObj (M + 3 + 1) (.loop { rec with state := .exhausted, pending := none }) = W2 := ⟨_, rfl⟩
        rw [hW2] at y1 y2 y3 yP yD yB yR ⊢
        clear hW2 bel tr hJ hlr
        obtain ⟨vo, vn, hR⟩ := yR
        obtain ⟨Ao, co, rfl⟩ := Kd.V_slice (Kd.N_V (base' := 0) hR.out)
        have cP := yP.cell
        have cr0 : W2.cell? ⟨M, 0, none⟩ = some (.slice Ao rs.out.length co) := (blk_cell hR.blk 0).trans rfl
        have cr1 : W2.cell? ⟨M, 1, none⟩ = some (.bool rs.op) := (blk_cell hR.blk 1).trans rfl
        have c1 := y1.cell
        have c2 := y2.cell
        have c3 := y3.cell
        have f1 := y1.frozen
        have f2 := y2.frozen
        have f3 := y3.frozen
        have HY := Aside0.mk (And.intro y1 (And.intro y2 (And.intro y3 (And.intro yD (And.intro yB hR)))))
        clear y1 y2 y3 yP yD yB hR
        cases hop : rs.op with
        | true =>
          rw [hop] at cr1
          simp only [hop, if_true, Prod.mk.injEq] at hr
          obtain ⟨rfl, rfl, rfl⟩ := hr
          go_wp2
          obtain ⟨y1, y2, y3, yD, yB, hR⟩ := HY.out
          have q1 := ((y1.set (.slice none 0 0)).other (by omega) (.int .i64 (s.size : Int)) (B' := w.heap.size + 1)).other (by omega) (.int .i64 10) (B' := w.heap.size + 1 + 1)
          have q2 := ((y2.other (by omega) (.slice none 0 0) (B' := w.heap.size)).set (.int .i64 (s.size : Int))).other (by omega) (.int .i64 10) (B' := w.heap.size + 1 + 1)
          have q3 := ((y3.other (by omega) (.slice none 0 0) (B' := w.heap.size)).other (by omega) (.int .i64 (s.size : Int)) (B' := w.heap.size + 1)).set (.int .i64 10)
          have qf : ∀ k, k ≠ w.heap.size → k ≠ w.heap.size + 1 → k ≠ w.heap.size + 1 + 1 → (((W2.setCell ⟨w.heap.size, 0, none⟩ (.slice none 0 0)).setCell ⟨w.heap.size + 1, 0, none⟩ (.int .i64 (s.size : Int))).setCell ⟨w.heap.size + 1 + 1, 0, none⟩ (.int .i64 10)).heap[k]? = W2.heap[k]? := fun k h1 h2 h3 => (Below.heap_setCell _ ⟨w.heap.size + 1 + 1, 0, none⟩ _ k h3).trans ((Below.heap_setCell _ ⟨w.heap.size + 1, 0, none⟩ _ k h2).trans (Below.heap_setCell _ ⟨w.heap.size, 0, none⟩ _ k h1))
          have qB : Below w.heap.size w (((W2.setCell ⟨w.heap.size, 0, none⟩ (.slice none 0 0)).setCell ⟨w.heap.size + 1, 0, none⟩ (.int .i64 (s.size : Int))).setCell ⟨w.heap.size + 1 + 1, 0, none⟩ (.int .i64 10)) := below_set (below_set (below_set yB (Nat.le_refl _)) (by show w.heap.size ≤ w.heap.size + 1; omega)) (by show w.heap.size ≤ w.heap.size + 1 + 1; omega)
          refine ⟨by simp, .inl ⟨_, _, rfl, run_takeDeferred ((qf (M + 3) (by omega) (by omega) (by omega)).trans yD), ?_⟩⟩
          exact ⟨_, results_c3 rfl rfl rfl rfl (load23S ((World.putObj_heap_other (by omega)).trans q1)) (load3S ((World.putObj_heap_other (by omega)).trans q2)) (load24S ((World.putObj_heap_other (by omega)).trans q3)), .slice none 0 0, rfl, Kd.N_nil _ _ _ _ _, qB.grown (grownBy_putObj' _ (M + 3) _) qB.size (fun k e => by cases e; omega)⟩
        | false =>
          rw [hop] at cr1
          simp only [hop, Bool.false_eq_true, if_false, Prod.mk.injEq] at hr
          obtain ⟨rfl, rfl, rfl⟩ := hr
          go_wp2
          obtain ⟨y1, y2, y3, yD, yB, hR⟩ := HY.out
          have q1 := ((y1.set (.slice Ao rs.out.length co)).other (by omega) (.int .i64 (s.size : Int)) (B' := w.heap.size + 1)).other (by omega) (.int .i64 0) (B' := w.heap.size + 1 + 1)
          have q2 := ((y2.other (by omega) (.slice Ao rs.out.length co) (B' := w.heap.size)).set (.int .i64 (s.size : Int))).other (by omega) (.int .i64 0) (B' := w.heap.size + 1 + 1)
          have q3 := ((y3.other (by omega) (.slice Ao rs.out.length co) (B' := w.heap.size)).other (by omega) (.int .i64 (s.size : Int)) (B' := w.heap.size + 1)).set (.int .i64 0)
          have qf : ∀ k, k ≠ w.heap.size → k ≠ w.heap.size + 1 → k ≠ w.heap.size + 1 + 1 → (((W2.setCell ⟨w.heap.size, 0, none⟩ (.slice Ao rs.out.length co)).setCell ⟨w.heap.size + 1, 0, none⟩ (.int .i64 (s.size : Int))).setCell ⟨w.heap.size + 1 + 1, 0, none⟩ (.int .i64 0)).heap[k]? = W2.heap[k]? := fun k h1 h2 h3 => (Below.heap_setCell _ ⟨w.heap.size + 1 + 1, 0, none⟩ _ k h3).trans ((Below.heap_setCell _ ⟨w.heap.size + 1, 0, none⟩ _ k h2).trans (Below.heap_setCell _ ⟨w.heap.size, 0, none⟩ _ k h1))
          have qB : Below w.heap.size w (((W2.setCell ⟨w.heap.size, 0, none⟩ (.slice Ao rs.out.length co)).setCell ⟨w.heap.size + 1, 0, none⟩ (.int .i64 (s.size : Int))).setCell ⟨w.heap.size + 1 + 1, 0, none⟩ (.int .i64 0)) := below_set (below_set (below_set yB (Nat.le_refl _)) (by show w.heap.size ≤ w.heap.size + 1; omega)) (by show w.heap.size ≤ w.heap.size + 1 + 1; omega)
          refine ⟨by simp, .inl ⟨_, _, rfl, run_takeDeferred ((qf (M + 3) (by omega) (by omega) (by omega)).trans yD), ?_⟩⟩
          exact ⟨_, results_c3 rfl rfl rfl rfl (load23S ((World.putObj_heap_other (by omega)).trans q1)) (load3S ((World.putObj_heap_other (by omega)).trans q2)) (load24S ((World.putObj_heap_other (by omega)).trans q3)), .slice Ao rs.out.length co, rfl, Kd.N_mono (Kd.N_step hR.out (fun k hk _ => (World.putObj_heap_other (by have := hk.1; unfold okR at this; omega)).trans (qf k (by have := hk.1; unfold okR at this; omega) (by have := hk.1; unfold okR at this; omega) (by have := hk.1; unfold okR at this; omega)))) (fun k hk => by have := hk.1; unfold okR at this; omega), qB.grown (grownBy_putObj' _ (M + 3) _) qB.size (fun k e => by cases e; omega)⟩
end
def vruneK (x : Int) : Prop := 0 ≤ x ∧ x ≤ 1114111 ∧ (x < 55296 ∨ 57343 < x)
instance (x : Int) : Decidable (vruneK x) := by unfold vruneK; infer_instance
def widK (x : Int) : Int := if vruneK x then (if x < 128 then 1 else if x < 2048 then 2 else if x < 65536 then 3 else 4) else 0
theorem widK_bad {x : Int} (h : ¬ vruneK x) : widK x = 0 := if_neg h
theorem widK_ok {x : Int} (h : vruneK x) : widK x = (if x < 128 then 1 else if x < 2048 then 2 else if x < 65536 then 3 else 4) := if_pos h
theorem widK_zero (x : Int) : widK x = 0 ↔ ¬ vruneK x := by
  constructor
  · intro h hv
    rw [widK_ok hv] at h
    split at h
    · omega
    · split at h
      · omega
      · split at h <;> omega
  · exact widK_bad
theorem RuneLen_K {k : Nat} (hk : 1 ≤ k) {x : Int} (h0 : 0 ≤ x) (h1 : x ≤ 1114111) : (utf8_RuneLen.f k x).bind (fun t => some (mx 0 t)) = some (widK x) := by
  obtain ⟨k, rfl⟩ : ∃ m, k = m + 1 := ⟨k - 1, by omega⟩
  unfold utf8_RuneLen.f
  have hmx : ∀ n : Int, 0 ≤ n → mx 0 n = n := fun n hn => by unfold mx; omega
  rw [if_neg (by omega)]
  by_cases a : x ≤ 127
  · rw [if_pos a, Option.bind_some, hmx 1 (by omega), widK_ok (by unfold vruneK; omega), if_pos (by omega)]
  rw [if_neg a]
  by_cases b : x ≤ 2047
  · rw [if_pos b, Option.bind_some, hmx 2 (by omega), widK_ok (by unfold vruneK; omega), if_neg (by omega), if_pos (by omega)]
  rw [if_neg b]
  by_cases c : 55296 ≤ x
  · rw [if_pos c]
    simp only [utf8_RuneLen.j0]
    by_cases d : x ≤ 57343
    · rw [if_pos (decide_eq_true d), Option.bind_some, widK_bad (by unfold vruneK; omega)]
      rfl
    · rw [if_neg (by simpa using d)]
      by_cases e : x ≤ 65535
      · rw [if_pos e, Option.bind_some, hmx 3 (by omega), widK_ok (by unfold vruneK; omega), if_neg (by omega), if_neg (by omega), if_pos (by omega)]
      · rw [if_neg e, if_pos h1, Option.bind_some, hmx 4 (by omega), widK_ok (by unfold vruneK; omega), if_neg (by omega), if_neg (by omega), if_neg (by omega)]
  · rw [if_neg c]
    simp only [utf8_RuneLen.j0]
    rw [if_neg (by decide), if_pos (by omega), Option.bind_some, hmx 3 (by omega), widK_ok (by unfold vruneK; omega), if_neg (by omega), if_neg (by omega), if_pos (by omega)]
theorem Width_K {k : Nat} (hk : 1 ≤ k) (x : Int) : glyph_Width.f k x = some (widK x) := by
  unfold glyph_Width.f
  by_cases a : x < 0
  · rw [if_pos a, widK_bad (by unfold vruneK; omega)]
  rw [if_neg a]
  by_cases b : x > 1114111
  · rw [if_pos b, widK_bad (by unfold vruneK; omega)]
  rw [if_neg b, show wrap32 x = x from by unfold wrap32; omega]
  exact RuneLen_K hk (by omega) (by omega)
def clsK (x : Int) : Int := if widK x = 0 then 0 else classG x
theorem Class_K (x : Int) : glyph_Class.f 1 x = some (clsK x) := by
  unfold glyph_Class.f clsK
  rw [Width_K (by omega), Option.bind_some]
  split <;> rfl
def scene_Read.f (a0 : ByteArray) : Option (List S34 × Int × Int) := some (readF clsK a0)
theorem scene_Read.calls (a0 : ByteArray) (r1 : List S34) (r2 : Int) (r3 : Int) (w : World) (h : scene_Read.f a0 = some (r1, r2, r3)) :
    Calls Tryd.prog 11 #[.string a0] w fun e w' => ∃ v0_ : Value, e = .returned (.tuple #[v0_, .int .i64 r2, .int .i64 r3]) ∧ Kd.N k34 34 w' w.heap.size (fun k_ => (w.heap.size ≤ k_)) v0_ r1 ∧ Below w.heap.size w w' :=
  own_Read clsK (fun r W => glyph_Class.calls 1 r (clsK r) W (Class_K r)) a0 r1 r2 r3 w (Option.some.inj h)

/-! ### argosyref01_Same: function 26 -/
def argosyref01_Same.l0 : Nat → List Int → List Int → Int → Option (Bool)
  | 0, _, _, _ => none
  | k + 1, x0, x1, x5 => if x5 < (x0.length : Int) then (if 0 ≤ x5 then (if x5 < (x1.length : Int) then (if (rd x0 x5) = (rd x1 x5) then (argosyref01_Same.l0 k x0 x1 (wrap64 (x5 + 1))) else (some false)) else (none)) else (none)) else (some true)
def argosyref01_Same.f (k : Nat) (l0 : List Int) (l1 : List Int) : Option (Bool) := if (l0.length : Int) = (l1.length : Int) then (argosyref01_Same.l0 k l0 l1 0) else (some false)
theorem argosyref01_Same.mono_l : ∀ k, (∀ y0 y1 y2, LeO (argosyref01_Same.l0 k y0 y1 y2) (argosyref01_Same.l0 (k + 1) y0 y1 y2))
  | 0 => fun _ _ _ r h => by simp [argosyref01_Same.l0] at h
  | k + 1 => by
    have ih0 := argosyref01_Same.mono_l k
    · intro y0 y1 y2
      unfold argosyref01_Same.l0
      repeat' first
      | (with_reducible exact ih0 _ _ _)
      | (with_reducible exact LeO.refl _)
      | (with_reducible exact LeO.none _)
      | (with_reducible refine LeO.ite ?_ ?_)
      | (with_reducible refine LeO.bind ?_ (fun _ => ?_))
      | exact ih0 _ _ _
      | exact LeO.none _
      | refine LeO.ite ?_ ?_
      | refine LeO.bind ?_ (fun _ => ?_)
theorem argosyref01_Same.mono : ∀ a0 a1 k, LeO (argosyref01_Same.f k a0 a1) (argosyref01_Same.f (k + 1) a0 a1) := by
  intro a0 a1 k
  have ih0 := argosyref01_Same.mono_l k
  unfold argosyref01_Same.f
  repeat' first
      | (with_reducible exact ih0 _ _ _)
      | (with_reducible exact LeO.refl _)
      | (with_reducible exact LeO.none _)
      | (with_reducible refine LeO.ite ?_ ?_)
      | (with_reducible refine LeO.bind ?_ (fun _ => ?_))
      | exact ih0 _ _ _
      | exact LeO.none _
      | refine LeO.ite ?_ ?_
      | refine LeO.bind ?_ (fun _ => ?_)
set_option maxHeartbeats 8000000 in
set_option maxRecDepth 100000 in
theorem argosyref01_Same.calls (k : Nat) (A0 : Option Addr) (c0 : Nat) (l0 : List Int) (A1 : Option Addr) (c1 : Nat) (l1 : List Int) (r : Bool) (w : World) (hr0 : Kd.C (Kd.int .i64) w A0 l0.length l0) (hc0 : l0.length ≤ c0) (hr1 : Kd.C (Kd.int .i64) w A1 l1.length l1) (hc1 : l1.length ≤ c1) (h : argosyref01_Same.f k l0 l1 = some r) :
    Calls Tryd.prog 26 #[.slice A0 l0.length c0, .slice A1 l1.length c1] w fun e w' => e = .returned (.bool r) ∧ Drawn0 w w' := by
  have HR0 := Aside0.mk hr0
  have HC0 := Aside0.mk hc0
  clear hr0 hc0
  have HR1 := Aside0.mk hr1
  have HC1 := Aside0.mk hc1
  clear hr1 hc1
  have H : (if (l0.length : Int) = (l1.length : Int) then (argosyref01_Same.l0 k l0 l1 0) else (some false)) = some r := h
  clear h
  by_cases c3 : (l0.length : Int) = (l1.length : Int)
  · rw [if_pos c3] at H
    have c3b0 : ((l0.length : Int) == (l1.length : Int)) = true := beq_iff_eq.mpr c3
    have c3b1 : ((l0.length : Int) != (l1.length : Int)) = false := bne_eq_false_iff_eq.mpr c3
    have c3b2 : (l0.length == l1.length) = true := by first | simpa using c3 | (simp at c3 ⊢; omega)
    clear c3
    have H' := Aside0.mk H
    clear H
    go_enter Tryd.func26, Tryd.ntmps26
    go_wp2
    repeat (go_quiet (fail); try go_wp2)
    go_loopg [5] k (fun kq v5 w' => ∃ (x5_1 : Int), v5 = .int .i64 x5_1 ∧ Aside0 (argosyref01_Same.l0 kq l0 l1 x5_1 = some r) ∧ Aside0 (kq ≤ k) ∧ Drawn0 w w')
    case atStart => exact ⟨(0), (by first | rfl | (simp; done) | (simp [*]; done)), H', ⟨Nat.le_refl _⟩, by repeat (first | exact Drawn0.refl _ | apply Drawn0.step)⟩
    case round =>
      clear H'
      try clear c1
      try clear c2
      try clear p2
      try clear c3
      try clear c3b0
      try clear c3b1
      try clear c3b2
      obtain ⟨x5_1, rfl, HA, HK1, ⟨m1, rfl⟩⟩ := hrel
      cases gk with
      | zero => exact absurd HA.out (by simp [argosyref01_Same.l0])
      | succ k1 =>
        have H := HA.out
        clear HA
        simp only [argosyref01_Same.l0] at H
        by_cases c4 : x5_1 < (l0.length : Int)
        · rw [if_pos c4] at H
          have c4b0 : decide (x5_1 < (l0.length : Int)) = true := decide_eq_true c4
          clear c4
          by_cases c5 : 0 ≤ x5_1
          · rw [if_pos c5] at H
            have c5b0 : decide (0 ≤ x5_1) = true := decide_eq_true c5
            clear c5
            by_cases c6 : x5_1 < (l1.length : Int)
            · rw [if_pos c6] at H
              have c6b0 : decide (x5_1 < (l1.length : Int)) = true := decide_eq_true c6
              clear c6
              by_cases c7 : (rd l0 x5_1) = (rd l1 x5_1)
              · rw [if_pos c7] at H
                have c7b0 : ((rd l0 x5_1) == (rd l1 x5_1)) = true := beq_iff_eq.mpr c7
                have c7b1 : ((rd l0 x5_1) != (rd l1 x5_1)) = false := bne_eq_false_iff_eq.mpr c7
                clear c7
                have H' := Aside0.mk H
                clear H
                have p108 : 0 ≤ (x5_1 : Int) := of_decide_eq_true (by first | (with_reducible assumption) | assumption)
                have q108 : x5_1 < (l0.length : Int) := of_decide_eq_true (by first | (with_reducible assumption) | assumption)
                obtain ⟨ad108, e108, hx108_0⟩ := Kd.at_int HR0.out x5_1 p108 q108
                cases e108
                replace p108 := eq_true p108
                replace q108 := eq_true q108
                have p109 : 0 ≤ (x5_1 : Int) := of_decide_eq_true (by first | (with_reducible assumption) | assumption)
                have q109 : x5_1 < (l1.length : Int) := of_decide_eq_true (by first | (with_reducible assumption) | assumption)
                obtain ⟨ad109, e109, hx109_0⟩ := Kd.at_int HR1.out x5_1 p109 q109
                cases e109
                replace p109 := eq_true p109
                replace q109 := eq_true q109
                go_wp2
                repeat (go_quiet (fail); try go_wp2)
                go_roundg k1
                case measure => have := HK1.out; omega
                case rel => exact ⟨(wrap64 (x5_1 + 1)), (by first | rfl | (simp; done) | (simp [*]; done)), H', ⟨by have := HK1.out; omega⟩, by repeat (first | exact Drawn0.refl _ | apply Drawn0.step)⟩
              · rw [if_neg c7] at H
                have c7b0 : ((rd l0 x5_1) == (rd l1 x5_1)) = false := beq_eq_false_iff_ne.mpr c7
                have c7b1 : ((rd l0 x5_1) != (rd l1 x5_1)) = true := bne_iff_ne.mpr c7
                obtain rfl := Option.some.inj H
                have p108 : 0 ≤ (x5_1 : Int) := of_decide_eq_true (by first | (with_reducible assumption) | assumption)
                have q108 : x5_1 < (l0.length : Int) := of_decide_eq_true (by first | (with_reducible assumption) | assumption)
                obtain ⟨ad108, e108, hx108_0⟩ := Kd.at_int HR0.out x5_1 p108 q108
                cases e108
                replace p108 := eq_true p108
                replace q108 := eq_true q108
                have p109 : 0 ≤ (x5_1 : Int) := of_decide_eq_true (by first | (with_reducible assumption) | assumption)
                have q109 : x5_1 < (l1.length : Int) := of_decide_eq_true (by first | (with_reducible assumption) | assumption)
                obtain ⟨ad109, e109, hx109_0⟩ := Kd.at_int HR1.out x5_1 p109 q109
                cases e109
                replace p109 := eq_true p109
                replace q109 := eq_true q109
                go_wp2
                repeat (go_quiet (fail); try go_wp2)
                go_ret
                exact ⟨by first | rfl | (simp; done) | (simp [*]; done), by repeat (first | exact Drawn0.refl _ | apply Drawn0.step)⟩
            · rw [if_neg c6] at H
              exact absurd H (by simp)
          · rw [if_neg c5] at H
            exact absurd H (by simp)
        · rw [if_neg c4] at H
          have c4b0 : decide (x5_1 < (l0.length : Int)) = false := decide_eq_false c4
          clear c4
          obtain rfl := Option.some.inj H
          go_wp2
          repeat (go_quiet (fail); try go_wp2)
          go_ret
          exact ⟨by first | rfl | (simp; done) | (simp [*]; done), by repeat (first | exact Drawn0.refl _ | apply Drawn0.step)⟩
  · rw [if_neg c3] at H
    have c3b0 : ((l0.length : Int) == (l1.length : Int)) = false := beq_eq_false_iff_ne.mpr c3
    have c3b1 : ((l0.length : Int) != (l1.length : Int)) = true := bne_iff_ne.mpr c3
    have c3b2 : (l0.length == l1.length) = false := by first | simpa using c3 | (simp at c3 ⊢; omega)
    obtain rfl := Option.some.inj H
    go_enter Tryd.func26, Tryd.ntmps26
    go_wp2
    repeat (go_quiet (fail); try go_wp2)
    go_ret
    exact ⟨by first | rfl | (simp; done) | (simp [*]; done), by repeat (first | exact Drawn0.refl _ | apply Drawn0.step)⟩

end Go.Proofs.YtfmbdmkiamedeaaDoor.PScenePrints
