-- Written by a patched print (wip/mkprint.py), for this claim.
import Derived.Test.YtbkdogijkfampaaPMergeLessx0
import Derived.Test.YtbkdogijkfampaaPMergeLessx1
import Derived.Test.YtbkdogijkfampaaPMergeLessx2
import Derived.Test.YtbkdogijkfampaaPMergeLessx3
namespace Go.Proofs.Ytbkdogijkfampaa.PMergeLess
open Go.RowKit Go.Proofs.YtbkdogijkfampaaW.PrintWords Go.Proofs.YtbkdogijkfampaaW.PrintLast Go.Proofs.YtbkdogijkfampaaW.PrintMore
attribute [local go_sem] max2_int min2_int max_two min_two max_three min_three max_four min_four   -- for this text's walks alone
set_option linter.unusedVariables false
set_option linter.unusedSimpArgs false

/-! ### merge_Split: function 16 -/
section
open Go.Shelf
attribute [local go_sem] Oper.semAt_some
/-- A row of the call's own (from block b on) of events whose stamps lie below b: stable under whatever touches neither its own block nor a block below b. -/
def rowS (P0_ : Nat → Prop) (b : Nat) (W : World) (v : Value) (xs : List S45) : Prop :=
  ∃ rows : List (List Value), rows.length = xs.length ∧ (Kd.raw k45.sz).R 45 W b (fun k => some k = v.ownBlock) v rows ∧ ∀ (j : Nat) (x : S45) (c : List Value), xs[j]? = some x → rows[j]? = some c → Kd.FK k45 W (fun k => P0_ k ∧ k < b) x c
theorem rowS_nil (P0_ : Nat → Prop) (b : Nat) (W : World) : rowS P0_ b W (.slice none 0 0) [] := ⟨[], rfl, Kd.R_nil _ _ _ _ _, fun j x c hx => by simp at hx⟩
theorem rowS_step {P0_ : Nat → Prop} {b : Nat} {W W1 : World} {v : Value} {xs : List S45} (h : rowS P0_ b W v xs) (hm : ∀ k, (k < b ∨ v.ownBlock = some k) → k < W.heap.size → W1.heap[k]? = W.heap[k]?) : rowS P0_ b W1 v xs := by
  obtain ⟨rows, h1, h2, h3⟩ := h
  exact ⟨rows, h1, Kd.R_step h2 (fun k hk hlt => hm k (.inr hk.symm) hlt), fun j x c hx hc => Kd.FK_step (h3 j x c hx hc) (fun k hk hlt => hm k (.inl hk.2) hlt)⟩
theorem rowS_base {P0_ : Nat → Prop} {b : Nat} {W : World} {v : Value} {xs : List S45} (h : rowS P0_ b W v xs) : ∀ k, v.ownBlock = some k → b ≤ k ∧ k < W.heap.size := by
  obtain ⟨rows, h1, h2, h3⟩ := h
  exact fun k e => ⟨Kd.R_base h2 k e, Kd.R_lt h2 k e⟩
theorem rowS_slice {P0_ : Nat → Prop} {b : Nat} {W : World} {v : Value} {xs : List S45} (h : rowS P0_ b W v xs) : ∃ A c, v = .slice A xs.length c := by
  obtain ⟨rows, h1, h2, h3⟩ := h
  obtain ⟨A, c, e⟩ := Kd.R_slice h2
  exact ⟨A, c, by rw [e, h1]⟩
theorem rowS_N {P0_ : Nat → Prop} {b : Nat} {W : World} {v : Value} {xs : List S45} (h : rowS P0_ b W v xs) (ok : Nat → Prop) (hok : ∀ k, ((P0_ k ∧ k < b) ∨ v.ownBlock = some k) → ok k) : Kd.N k45 45 W b ok v xs := by
  have hb := rowS_base h
  obtain ⟨rows, h1, h2, h3⟩ := h
  exact ⟨fun k e => hok k (.inr e), rows, h1, h2, fun j x c hx hc => Kd.FK_mono (h3 j x c hx hc) (fun k hk => ⟨hok k (.inl hk), fun e => by have := (hb k e.symm).1; omega⟩)⟩
theorem rowS_appended {P0_ : Nat → Prop} {b : Nat} {W w1 : World} {v v1 : Value} {xs : List S45} {rows : List (List Value)} {x : S45} {cs : List Value} (h1 : rows.length = xs.length) (h3 : ∀ (j : Nat) (x : S45) (c : List Value), xs[j]? = some x → rows[j]? = some c → Kd.FK k45 W (fun k => P0_ k ∧ k < b) x c)
    (hx : Kd.FK k45 W (fun k => P0_ k ∧ k < b) x cs) (hb : b ≤ W.heap.size) (hv : ∀ k, v.ownBlock = some k → b ≤ k) (hr : (Kd.raw k45.sz).R 45 w1 b (fun _ => True) v1 (rows ++ [cs])) (hg : W.grownBy w1 v.ownBlock) : rowS P0_ b w1 v1 (xs ++ [x]) := by
  have st : ∀ k, k < b → k < W.heap.size → w1.heap[k]? = W.heap[k]? := fun k hk hlt => hg.block k hlt (fun e => by have := hv k e.symm; omega)
  refine ⟨rows ++ [cs], by simp [h1], Kd.raw_tight hr, fun j y c hy hc => ?_⟩
  rcases Nat.lt_or_ge j xs.length with hj | hj
  · rw [List.getElem?_append_left hj] at hy
    rw [List.getElem?_append_left (by omega)] at hc
    exact Kd.FK_step (h3 j y c hy hc) (fun k hk hlt => st k hk.2 hlt)
  · rw [List.getElem?_append_right hj] at hy
    rw [List.getElem?_append_right (by omega)] at hc
    rcases hd : j - xs.length with _ | m
    · rw [hd] at hy
      rw [h1, hd] at hc
      simp only [List.getElem?_cons_zero, Option.some.injEq] at hy hc
      rw [← hy, ← hc]
      exact Kd.FK_step hx (fun k hk hlt => st k hk.2 hlt)
    · rw [hd] at hy
      simp at hy
theorem info25S : (Try.prog.info? 25).map (fun i => (i.zero, i.size, i.bytes)) = some (some (.slice none 0 0), 1, 24) := by kernel_rfl
abbrev SV := Option Addr × Nat × Nat
def encSV (s : SV) : Value := .slice s.1 s.2.1 s.2.2
def kSV : Kd SV := Kd.scalar encSV (fun _ => rfl)
def rowsAt (rows : List (List S45)) (i : Int) : List S45 := rows.getD i.toNat []
structure SInv (P0_ : Nat → Prop) (w : World) (g cap ob cap2 n : Nat) (hv : List Int) (vs : List SV) (rows : List (List S45)) (W : World) : Prop where
  hl : hv.length = n
  vl : vs.length = n
  rl : rows.length = n
  had : Kd.R (Kd.int .i64) 3 W w.heap.size (fun k => k = g) (.slice (some ⟨g, 0, none⟩) hv.length cap) hv
  out : Kd.R kSV 25 W w.heap.size (fun k => k = ob) (.slice (some ⟨ob, 0, none⟩) vs.length cap2) vs
  row : ∀ (i : Nat) (s : SV) (xs : List S45), vs[i]? = some s → rows[i]? = some xs → rowS P0_ w.heap.size W (encSV s) xs
  apart : ∀ (i j : Nat) (s t : SV) (b : Nat), i ≠ j → vs[i]? = some s → vs[j]? = some t → (encSV s).ownBlock = some b → (encSV t).ownBlock ≠ some b
  away : ∀ (i : Nat) (s : SV) (b : Nat), vs[i]? = some s → (encSV s).ownBlock = some b → b ≠ g ∧ b ≠ ob
  below : Below w.heap.size w W
theorem SInv_N {P0_ : Nat → Prop} {w : World} {g cap ob cap2 n : Nat} {hv : List Int} {vs : List SV} {rows : List (List S45)} {W : World} (h : SInv P0_ w g cap ob cap2 n hv vs rows W) :
    Kd.N (Kd.slice 45 k45) 25 W w.heap.size (fun k_ => P0_ k_ ∨ w.heap.size ≤ k_) (.slice (some ⟨ob, 0, none⟩) vs.length cap2) rows := by
  have hob : w.heap.size ≤ ob := Kd.R_base h.out ob rfl
  obtain ⟨h0, rv, hl, hR, hf⟩ := Kd.R_N h.out
  refine ⟨fun k e => .inr (Kd.R_base h.out k e), rv, by rw [hl, h.vl, h.rl], hR, fun j xs c hx hc => ?_⟩
  have hj : j < vs.length := by
    have := (List.getElem?_eq_some_iff.1 hx).1
    have := h.vl
    have := h.rl
    omega
  have hs : vs[j]? = some vs[j] := List.getElem?_eq_getElem hj
  have hr := h.row j _ xs hs hx
  obtain ⟨A, c', e⟩ := rowS_slice hr
  have hK := Kd.FK_now (hf j _ c hs hc)
  have hc2 : c = [.slice A xs.length c'] := by rw [← e]; exact hK
  rw [hc2]
  have hN := rowS_N hr (fun k => (P0_ k ∨ w.heap.size ≤ k) ∧ some k ≠ (Value.slice (some ⟨ob, 0, none⟩) vs.length cap2).ownBlock) (fun k hk => by
    rcases hk with hk | hk
    · refine ⟨.inl hk.1, fun e2 => ?_⟩
      have : k = ob := by simpa [Value.ownBlock] using e2
      omega
    · refine ⟨.inr (rowS_base hr k hk).1, fun e2 => ?_⟩
      have : k = ob := by simpa [Value.ownBlock] using e2
      exact (h.away j _ k hs hk).2 this)
  rw [e] at hN
  have hV := Kd.N_V (base' := 0) hN
  exact Kd.FK_slice_mk (Kd.V_at hV).2.1 (Kd.V_at hV).2.2
def splitM (k : Nat) : List S45 → List Int → List (List S45) → Option (Option (List (List S45)))
  | [], _, rows => some (some rows)
  | e :: es, hv, rows => (merge_owner.f k hv e.f0 e.f1 e.f2 e.f3).bind fun o => if o < 0 then some none else if (rowsAt rows o).length < 2932031007402 then splitM k es (hv.set o.toNat (wrap64 (rd hv o + 1))) (rows.set o.toNat (rowsAt rows o ++ [e])) else none
def splitF (k : Nat) (l0 : List S45) (n : Int) : Option (List (List S45) × Int) :=
  if 1 ≤ n ∧ n ≤ 64 then (splitM k l0 (List.replicate n.toNat 0) (List.replicate n.toNat [])).bind fun p => match p with | none => some ([], 2) | some rows => some (rows, 0) else some ([], 2)
/-- Whose next event one is: a branch, or nobody's. -/
theorem owner_l0 (hv : List Int) (n : Int) (hn : 0 ≤ n) (a b c : Int) (s : List Int) (o : Int) : ∀ (k : Nat) (i : Int), merge_owner.l0 k hv n i a b c s = some o → o < n ∨ o < 0
  | 0, _, h => by simp [merge_owner.l0] at h
  | k + 1, i, h => by
    rw [merge_owner.l0] at h
    by_cases hi : i < n
    · rw [if_pos hi] at h
      obtain ⟨t, _, h⟩ := Option.bind_eq_some_iff.mp h
      by_cases ht : t = true
      · rw [if_pos ht] at h
        obtain rfl := Option.some.inj h
        exact .inl hi
      · rw [if_neg ht] at h
        exact owner_l0 hv n hn a b c s o k _ h
    · rw [if_neg hi] at h
      obtain rfl := Option.some.inj h
      exact .inr (by decide)
theorem owner_range (k : Nat) (hv : List Int) (a b c : Int) (s : List Int) (o : Int) (h : merge_owner.f k hv a b c s = some o) : o < hv.length ∨ o < 0 := by
  unfold merge_owner.f at h
  exact owner_l0 hv _ (by omega) a b c s o k 0 h
theorem ev1_at {W : World} {okV : Nat → Prop} {base : Nat} {A0 : Option Addr} {c0 : Nat} {l0 : List S45} (hV : Kd.V k45 45 W base okV (.slice A0 l0.length c0) l0) (j : Int) (h0 : 0 ≤ j) (h1 : j < (l0.length : Int)) :
    ∃ ad2 A3 c3, A0 = some ad2 ∧ W.cell? (ad2.add (j.toNat * 4)) = some (.int .i64 (rd_T45 l0 j).f0) ∧ W.cell? ⟨(ad2.add (j.toNat * 4)).block, (ad2.add (j.toNat * 4)).off + 1, none⟩ = some (.int .i64 (rd_T45 l0 j).f1) ∧ W.cell? ⟨(ad2.add (j.toNat * 4)).block, (ad2.add (j.toNat * 4)).off + 2, none⟩ = some (.int .i64 (rd_T45 l0 j).f2) ∧ W.cell? ⟨(ad2.add (j.toNat * 4)).block, (ad2.add (j.toNat * 4)).off + 3, none⟩ = some (.slice A3 (rd_T45 l0 j).f3.length c3) ∧ (rd_T45 l0 j).f3.length ≤ c3 ∧ (Kd.int .i64).C W A3 (rd_T45 l0 j).f3.length (rd_T45 l0 j).f3 ∧
        Kd.FK k45 W okV (rd_T45 l0 j) [.int .i64 (rd_T45 l0 j).f0, .int .i64 (rd_T45 l0 j).f1, .int .i64 (rd_T45 l0 j).f2, .slice A3 (rd_T45 l0 j).f3.length c3] := by
  obtain ⟨ad2, A3, c3, rfl, k0, k1, k2, k3, hl3, hC3⟩ := at_T45 (Kd.V_reads' hV).2.2 j h0 h1
  obtain ⟨cs2, _, hF2, hcc2⟩ := Kd.V_get hV z45 j h0 h1
  obtain ⟨A3', c3', rfl, hl3', hF3⟩ := k45_openF hF2
  have k3' : W.cell? ⟨(ad2.add (j.toNat * 4)).block, (ad2.add (j.toNat * 4)).off + 3, none⟩ = some (.slice A3' (l0.getD j.toNat z45).f3.length c3') := by
    have := hcc2 3 _ rfl
    rw [← add_field _ _ 3 (by omega)]
    exact this
  rw [k3] at k3'
  have e := Option.some.inj k3'
  injection e with e1 e2 e3
  subst e1
  subst e3
  exact ⟨ad2, A3, c3, rfl, k0, k1, k2, k3, hl3, hC3, hF2⟩
theorem SInv_below {P0_ : Nat → Prop} {w : World} {g cap ob cap2 n : Nat} {hv : List Int} {vs : List SV} {rows : List (List S45)} {W W1 : World} (h : SInv P0_ w g cap ob cap2 n hv vs rows W) (hb : Below W.heap.size W W1) : SInv P0_ w g cap ob cap2 n hv vs rows W1 :=
  ⟨h.hl, h.vl, h.rl, Kd.R_below h.had hb, Kd.R_below h.out hb, fun i s xs hs hx => rowS_step (h.row i s xs hs hx) (fun k _ hlt => hb.block k hlt), h.apart, h.away, h.below.trans (hb.mono h.below.size)⟩
theorem SInv_had {P0_ : Nat → Prop} {w : World} {g cap ob cap2 n : Nat} {hv : List Int} {vs : List SV} {rows : List (List S45)} {W : World} (h : SInv P0_ w g cap ob cap2 n hv vs rows W) (hgob : g ≠ ob) (hg : w.heap.size ≤ g) (o v : Int) :
    SInv P0_ w g cap ob cap2 n (hv.set o.toNat v) vs rows (W.setCell ⟨g, o.toNat, none⟩ (.int .i64 v)) := by
  obtain ⟨hR3, hgr⟩ := Kd.R_put h.had o v
  refine ⟨by rw [List.length_set]; exact h.hl, h.vl, h.rl, by rw [List.length_set]; exact hR3, Kd.R_grown h.out hgr (fun k hk e => hgob ((Option.some.inj e).symm.trans hk)), fun i s xs hs hx => rowS_step (h.row i s xs hs hx) (fun k hk hlt => hgr.block k hlt (fun e => ?_)), h.apart, h.away, h.below.grown hgr h.below.size (fun k e => by cases e; exact hg)⟩
  obtain rfl := Option.some.inj e
  rcases hk with hk | hk
  · omega
  · exact (h.away i s k hs hk).1 rfl
theorem SInv_app {P0_ : Nat → Prop} {w : World} {g cap ob cap2 n : Nat} {hv : List Int} {vs : List SV} {rows : List (List S45)} {W w1 : World} (h : SInv P0_ w g cap ob cap2 n hv vs rows W) (hgob : g ≠ ob) (hob : w.heap.size ≤ ob) (o : Int) (s s1 : SV) (xs1 : List S45) (hs : vs[o.toNat]? = some s)
    (hr1 : rowS P0_ w.heap.size w1 (encSV s1) xs1) (hb1 : Below w.heap.size w w1) (hg1 : W.grownBy w1 (encSV s).ownBlock) (hat : (encSV s1).ownBlock = (encSV s).ownBlock ∨ ∃ b, (encSV s1).ownBlock = some b ∧ W.heap.size ≤ b) :
    SInv P0_ w g cap ob cap2 n hv (vs.set o.toNat s1) (rows.set o.toNat xs1) (w1.setCell ⟨ob, o.toNat, none⟩ (encSV s1)) := by
  have hsg : ∀ k, (encSV s).ownBlock = some k → k ≠ g ∧ k ≠ ob := fun k e => h.away _ s k hs e
  have hglt : g < W.heap.size := Kd.R_lt h.had g rfl
  have hoblt : ob < W.heap.size := Kd.R_lt h.out ob rfl
  have hs1 : ∀ k, (encSV s1).ownBlock = some k → k ≠ g ∧ k ≠ ob := fun k e => by
    rcases hat with hat | ⟨b, hb, hle⟩
    · exact hsg k (hat ▸ e)
    · rw [hb] at e
      obtain rfl := Option.some.inj e
      omega
  have hH1 := Kd.R_grown h.had hg1 (fun k hk e => (hsg k e.symm).1 hk)
  have hO1 := Kd.R_grown h.out hg1 (fun k hk e => (hsg k e.symm).2 hk)
  obtain ⟨hO2, hgr⟩ := Kd.R_put hO1 o s1
  have far : ∀ k, k ≠ ob → k < w1.heap.size → (w1.setCell ⟨ob, o.toNat, none⟩ (encSV s1)).heap[k]? = w1.heap[k]? := fun k hk hlt => hgr.block k hlt (fun e => hk (Option.some.inj e))
  have hrl : ∀ (i : Nat) (t : SV) (k : Nat), vs[i]? = some t → (encSV t).ownBlock = some k → w.heap.size ≤ k ∧ k < W.heap.size := by
    intro i t k ht e
    have hi : i < vs.length := (List.getElem?_eq_some_iff.1 ht).1
    have h2 := h.vl
    have h3 := h.rl
    exact rowS_base (h.row i t rows[i] ht (List.getElem?_eq_getElem (by omega))) k e
  have set_at : ∀ {β : Type} (l : List β) (i : Nat) (y t : β), (l.set o.toNat y)[i]? = some t → (i = o.toNat ∧ t = y) ∨ (i ≠ o.toNat ∧ l[i]? = some t) := by
    intro β l i y t ht
    rw [List.getElem?_set] at ht
    by_cases hi : o.toNat = i
    · rw [if_pos hi] at ht
      split at ht
      · exact .inl ⟨hi.symm, (Option.some.inj ht).symm⟩
      · cases ht
    · rw [if_neg hi] at ht
      exact .inr ⟨fun e => hi e.symm, ht⟩
  refine ⟨h.hl, by rw [List.length_set]; exact h.vl, by rw [List.length_set]; exact h.rl, Kd.R_step hH1 (fun k hk hlt => far k (by omega) hlt), by rw [List.length_set]; exact hO2, ?_, ?_, ?_, hb1.grown hgr hb1.size (fun k e => by cases e; exact hob)⟩
  · intro i t xs ht hx
    rcases set_at _ _ _ _ ht with ⟨hi, rfl⟩ | ⟨hi, ht⟩
    · rcases set_at _ _ _ _ hx with ⟨_, rfl⟩ | ⟨hi2, _⟩
      · refine rowS_step hr1 (fun k hk hlt => far k ?_ hlt)
        rcases hk with hk | hk
        · omega
        · exact (hs1 k hk).2
      · exact absurd hi hi2
    · rcases set_at _ _ _ _ hx with ⟨hi2, _⟩ | ⟨_, hx⟩
      · exact absurd hi2 hi
      · refine rowS_step (rowS_step (h.row i t xs ht hx) (fun k hk hlt => hg1.block k hlt (fun e => ?_))) (fun k hk hlt => far k ?_ hlt)
        · rcases hk with hk | hk
          · have := (hrl _ s k hs e.symm).1
            omega
          · exact h.apart i o.toNat t s k hi ht hs hk e.symm
        · rcases hk with hk | hk
          · omega
          · exact (h.away i t k ht hk).2
  · intro i j t u b hij ht hu e
    rcases set_at _ _ _ _ ht with ⟨hi, rfl⟩ | ⟨hi, ht⟩
    · rcases set_at _ _ _ _ hu with ⟨hj, rfl⟩ | ⟨hj, hu⟩
      · exact absurd (hi.trans hj.symm) hij
      · intro e2
        have h5 := (hrl _ _ _ hu e2).2
        rcases hat with hat | ⟨b', hb', hle⟩
        · exact h.apart o.toNat j s u b (fun e => hj e.symm) hs hu (hat ▸ e) e2
        · rw [hb'] at e
          obtain rfl := Option.some.inj e
          omega
    · rcases set_at _ _ _ _ hu with ⟨hj, hq⟩ | ⟨hj, hu⟩
      · intro e2
        rw [hq] at e2
        have h5 := (hrl _ _ _ ht e).2
        rcases hat with hat | ⟨b', hb', hle⟩
        · exact h.apart i o.toNat t s b hi ht hs e (hat ▸ e2)
        · rw [hb'] at e2
          obtain rfl := Option.some.inj e2
          omega
      · exact h.apart i j t u b hij ht hu e
  · intro i t b ht e
    rcases set_at _ _ _ _ ht with ⟨hi, rfl⟩ | ⟨hi, ht⟩
    · exact hs1 b e
    · exact h.away i t b ht e
end
section
open Go.Shelf
attribute [local go_sem] Oper.semAt_some
def merge_Split.T12 : Bool × List (List Nat × List Nat) := (true, [([], []), ([], []), ([], []), ([], []), ([2, 3], [2, 3]), ([4], [4]), ([], []), ([6], [6]), ([5, 7], [5, 7]), ([0, 1, 0, 1, 2, 3, 4, 5, 6, 7, 8], [0, 1]), ([9, 8, 8, 0, 1, 2, 3, 4, 5, 6, 7, 8], [8, 9])])
def merge_Split.B12 : List Nat := [0, 0, 0, 0, 12, 28, 0, 64, 252, 511, 1023]
theorem merge_Split.tab12 : rtab .any (opsOf Try.f16 12) = merge_Split.T12 := by kernel_rfl
theorem merge_Split.bits12 : waitsOk merge_Split.T12.2 merge_Split.B12 = true := by kernel_rfl
set_option maxRecDepth 100000 in
set_option maxHeartbeats 4000000 in
theorem own_Split (k : Nat) (P0_ : Nat → Prop) (A0 : Option Addr) (c0 : Nat) (l0 : List S45) (n : Int) (r1 : List (List S45)) (r2 : Int) (w : World) (hs0 : Kd.V k45 45 w w.heap.size (fun k_ => P0_ k_) (.slice A0 l0.length c0) l0) (h : splitF k l0 n = some (r1, r2)) :
    Calls Try.prog 16 #[.slice A0 l0.length c0, .int .i64 n] w fun e w' => ∃ v0_ : Value, e = .returned (.tuple #[v0_, .int .i64 r2]) ∧ Kd.N (Kd.slice 45 k45) 25 w' w.heap.size (fun k_ => P0_ k_ ∨ w.heap.size ≤ k_) v0_ r1 ∧ Below w.heap.size w w' := by
  have HV := Aside0.mk hs0
  have H := Aside0.mk h
  clear hs0 h
  go_enter Try.func16, Try.ntmps16
  by_cases hn : 1 ≤ n ∧ n ≤ 64
  · have hG := H.out
    unfold splitF at hG
    rw [if_pos hn] at hG
    obtain ⟨p, hp, hG⟩ := Option.bind_eq_some_iff.mp hG
    have HP := Aside0.mk hp
    have HG := Aside0.mk hG
    have hIs : merge_is.f n = some true := by unfold merge_is.f; rw [if_pos (by omega), decide_eq_true (by omega)]
    have HIs := Aside0.mk hIs
    clear hG H hIs hp
    go_wp2_with (first | (go_at_call 24; (with_reducible refine (merge_is.calls n true _ HIs.out).mono ?_); rintro e w' ⟨rfl, ⟨nd, rfl⟩⟩) | ((with_reducible refine gate_dst (N := 15) rfl ?_); refine Kd.R_make (Kd.int .i64) (w0 := w) w.heap.size 3 rfl (N := 15) rfl 26 _ _ rfl n rfl rfl Try.underlying26 (.int .i64 0) 8 info3 rfl (by decide) (by omega) 0 (ok := fun _ => True) (okp := fun _ => True) rfl (fun _ hk => hk) trivial ?m1 ?m2 ?m3 ?m4 ?_; (case m1 => omega); (case m2 => omega); (case m3 => exact pw_below_drewN (Below.refl _ _) _); (case m4 => exact Nat.le_refl _); intro v1 w1 ho hb hg hnew; obtain ⟨g, cap, rfl, hg1, hg2, hg3⟩ := Kd.R_form ho (by simp; omega); have HO := Aside0.mk ho; have HB := Aside0.mk hb; clear ho hb hg hnew hg3) | ((with_reducible refine gate_dst (N := 17) rfl ?_); refine Kd.R_make kSV (w0 := w) w.heap.size 25 rfl (N := 17) rfl 22 _ _ rfl n rfl rfl Try.underlying22 (.slice none 0 0) 24 info25S rfl (by decide) (by omega) ((none, 0, 0) : SV) (ok := fun _ => True) (okp := fun _ => True) rfl (fun _ hk => hk) trivial ?n1 ?n2 ?n3 ?n4 ?_; (case n1 => omega); (case n2 => omega); (case n3 => exact HB.out); (case n4 => exact HB.out.size); intro v2 w2 ho2 hb2 hgr2 hnew2; obtain ⟨ob, cap2, rfl, ho1, ho3, ho4⟩ := Kd.R_form ho2 (by simp; omega); have HO2 := Aside0.mk ho2; have HB2 := Aside0.mk hb2; have HG2 := Aside0.mk hgr2; have HN2 := Aside0.mk hnew2; clear ho2 hb2 hgr2 hnew2 ho4))
    have hgob : g ≠ ob := by
      obtain ⟨b, hb1, hb2⟩ := HN2.out
      have : ob = b := by simpa [Value.ownBlock] using hb1
      omega
    have hI0 : SInv P0_ w g cap ob cap2 n.toNat (List.replicate n.toNat 0) (List.replicate n.toNat ((none, 0, 0) : SV)) (List.replicate n.toNat []) w2 := by
      refine ⟨by simp, by simp, by simp, ?_, ?_, ?_, ?_, ?_, HB2.out⟩
      · exact Kd.R_of_own (h1 := fun _ => rfl) (Kd.own_of_R (Kd.R_grown HO.out HG2.out (fun k _ e => by cases e))) (fun k e => by simp [Value.ownBlock] at e; exact e.symm)
      · exact Kd.R_of_own (h1 := fun _ => rfl) (Kd.own_of_R HO2.out) (fun k e => by simp [Value.ownBlock] at e; exact e.symm)
      · intro i s xs hs hx
        rw [List.getElem?_replicate] at hs hx
        split at hs
        · rename_i hlt
          rw [if_pos hlt] at hx
          obtain rfl := Option.some.inj hs
          obtain rfl := Option.some.inj hx
          exact rowS_nil _ _ _
        · cases hs
      · intro i j s t b _ hs _ e
        rw [List.getElem?_replicate] at hs
        split at hs
        · obtain rfl := Option.some.inj hs
          simp [encSV, Value.ownBlock] at e
        · cases hs
      · intro i s b hs e
        rw [List.getElem?_replicate] at hs
        split at hs
        · obtain rfl := Option.some.inj hs
          simp [encSV, Value.ownBlock] at e
        · cases hs
    have HI0 := Aside0.mk hI0
    have hln : (List.replicate n.toNat (0 : Int)).length = n.toNat := by simp
    clear HO HB HO2 HB2 HG2 HN2 hI0 ho3 hg2
    go_loopg [20] l0.length (fun d v20 wx => ∃ (j : Nat) (hv : List Int) (vs : List SV) (rows : List (List S45)), v20 = .int .i64 (j : Int) ∧ j + d = l0.length ∧ Aside0 (splitM k (l0.drop j) hv rows = some p) ∧ Aside0 (∀ i, 0 ≤ rd hv i ∧ rd hv i ≤ j) ∧ Aside0 (SInv P0_ w g cap ob cap2 n.toNat hv vs rows wx))
    case atStart => exact ⟨0, _, _, _, rfl, by omega, HP, ⟨fun i => by unfold rd; rw [List.getD_eq_getElem?_getD, List.getElem?_replicate]; split <;> simp⟩, HI0⟩
    case round =>
      clear HP HI0
      obtain ⟨j, hv, vs, rows, rfl, hj, HP, HR, HI⟩ := hrel
      by_cases hlt : j < l0.length
      · obtain ⟨d, rfl⟩ : ∃ d, gk = d + 1 := ⟨gk - 1, by omega⟩
        have hp := HP.out
        rw [List.drop_eq_getElem_cons hlt] at hp
        simp only [splitM] at hp
        have hx : l0[j] = rd_T45 l0 (j : Int) := by unfold rd_T45; rw [List.getD_eq_getElem?_getD, Int.toNat_natCast, List.getElem?_eq_getElem hlt]; rfl
        rw [hx] at hp
        obtain ⟨o, ho, hp⟩ := Option.bind_eq_some_iff.mp hp
        obtain ⟨ad, A3, c3, e1, j0, j1, j2, j3, hl3, hC3, hFx⟩ := ev1_at (Kd.V_old HV.out (Below.refl _ _)) (j : Int) (by omega) (by omega)
        have HFX := Aside0.mk hFx
        clear hFx
        generalize rd_T45 l0 (j : Int) = x at *
        have HO := Aside0.mk ho
        have HP1 := Aside0.mk hp
        subst e1
        have k0 := cell_b HI.out.below j0
        have k1 := cell_b HI.out.below j1
        have k2 := cell_b HI.out.below j2
        have k3 := cell_b HI.out.below j3
        rw [Int.toNat_natCast] at k0 k1 k2 k3
        have hC3' := Kd.C_below hC3 HI.out.below
        have hCH := (Kd.R_reads' HI.out.had).2.2
        have hcapH := (Kd.R_reads' HI.out.had).2.1
        have hjb : decide ((j : Int) < (l0.length : Int)) = true := decide_eq_true (by omega)
        have hjb2 : decide (j < l0.length) = true := decide_eq_true hlt
        have i0 := eq_true (show (0 : Int) ≤ (j : Int) by omega)
        have i1 := eq_true (show (j : Int) < (l0.length : Int) by omega)
        clear ho hp hx HP j0 j1 j2 j3 hC3
        have hhl := HI.out.hl
        have HHL := Aside0.mk hhl
        have ow : ∀ W : World, Below wr.heap.size wr W → Calls Try.prog 28 #[.slice (some ⟨g, 0, none⟩) n.toNat cap, .agg #[.int .i64 x.f0, .int .i64 x.f1, .int .i64 x.f2, .slice A3 x.f3.length c3]] W fun e w' => e = .returned (.int .i64 o) ∧ Below W.heap.size W w' := fun W hb => by
          have := merge_owner.calls k (some ⟨g, 0, none⟩) cap hv x.f0 x.f1 x.f2 A3 c3 x.f3 o W (Kd.C_below hCH hb) hcapH (Kd.C_below hC3' hb) hl3 HO.out
          rwa [hhl] at this
        have OW := Aside0.mk ow
        clear hhl ow
        by_cases hneg : o < 0
        · have hp := HP1.out
          rw [if_pos hneg] at hp
          obtain rfl := Option.some.inj hp
          have hG := HG.out
          simp only [Option.some.injEq, Prod.mk.injEq] at hG
          obtain ⟨rfl, rfl⟩ := hG
          have o0 : decide (o < 0) = true := decide_eq_true hneg
          have hbelow := Aside0.mk HI.out.below
          clear HP1 HG
          go_wp2_with (go_at_call 28; (with_reducible refine (OW.out _ (by repeat (first | (with_reducible first | exact Below.refl _ _ | apply below_alloc | apply pw_below_drewN | apply below_drew1) | exact Below.refl _ _))).mono ?_); rintro e w' ⟨rfl, hb⟩; have HQ := Aside0.mk (below_step (show Below wr.heap.size wr _ from by repeat (first | (with_reducible first | exact Below.refl _ _ | apply below_alloc | apply pw_below_drewN | apply below_drew1) | exact Below.refl _ _)) hb); have HQ2 := Aside0.mk hb; clear hb)
          go_ret2
          exact ⟨_, rfl, Kd.N_nil _ _ _ _ _, hbelow.out.trans (HQ.out.mono hbelow.out.size)⟩
        · have hp := HP1.out
          rw [if_neg hneg] at hp
          split at hp
          case isFalse => cases hp
          case isTrue hol =>
          have HP2 := Aside0.mk hp
          have hor : o < (n.toNat : Int) := by
            rcases owner_range _ _ _ _ _ _ _ HO.out with h | h
            · have := HI.out.hl; omega
            · omega
          have o0 : decide (o < 0) = false := decide_eq_false hneg
          have o1 := eq_true (show (0 : Int) ≤ o by omega)
          have o2 := eq_true (show o < max n 0 by omega)
          have HOR := Aside0.mk hor
          have HNEG := Aside0.mk hneg
          have HOL := Aside0.mk hol
          clear HP1 hp hor hneg hol
          go_wp2_with (go_at_call 28; (with_reducible refine (OW.out _ (by repeat (first | (with_reducible first | exact Below.refl _ _ | apply below_alloc | apply pw_below_drewN | apply below_drew1) | exact Below.refl _ _))).mono ?_); rintro e w' ⟨rfl, hb⟩; have HQ := Aside0.mk (below_step (show Below wr.heap.size wr _ from by repeat (first | (with_reducible first | exact Below.refl _ _ | apply below_alloc | apply pw_below_drewN | apply below_drew1) | exact Below.refl _ _)) hb); have HQ2 := Aside0.mk hb; clear hb; have hdH := Kd.R_cell (0 : Int) (Kd.R_below HI.out.had HQ.out) o (by have := HNEG.out; omega) (by have := HOR.out; have := HI.out.hl; omega); have hd3 : w'.cell? ⟨g, o.toNat, none⟩ = some (.int .i64 (rd hv o)) := hdH.1; have hd4 := hdH.2; clear hdH)
          have hI3 := SInv_had (SInv_below HI.out HQ.out) hgob hg1 o (wrap64 (rd hv o + 1))
          have hbx := blk_far ((HQ2.out.block wr.heap.size (by simp)).trans (World.alloc_heap_new wr _)) (p := ⟨g, o.toNat, none⟩) (by have := Kd.R_lt HI.out.had g rfl; show wr.heap.size ≠ g; omega) (.int .i64 (wrap64 (rd hv o + 1)))
          have hF3 := Kd.FK_below HFX.out hI3.below
          have hI4 := SInv_below hI3 (below_drew1 (Below.refl _ _))
          have hF4 := Kd.FK_below hF3 (below_drew1 (Below.refl _ _))
          have hbx4 := (show (w'.setCell ⟨g, o.toNat, none⟩ (.int .i64 (wrap64 (rd hv o + 1)))).drew.heap[wr.heap.size]? = _ from hbx)
          obtain ⟨s, hs⟩ : ∃ s, vs[o.toNat]? = some s := ⟨_, List.getElem?_eq_getElem (by have := HOR.out; have := HNEG.out; have := HI.out.vl; omega)⟩
          have hrx : rows[o.toNat]? = some (rowsAt rows o) := by
            have : o.toNat < rows.length := by have := HOR.out; have := HNEG.out; have := HI.out.rl; omega
            unfold rowsAt
            rw [List.getD_eq_getElem?_getD, List.getElem?_eq_getElem this]; rfl
          have hrw := hI4.row o.toNat s _ hs hrx
          have hown : ∀ k, (encSV s).ownBlock = some k → w.heap.size ≤ k := fun k e => (rowS_base hrw k e).1
          obtain ⟨rw0, hl0, hR0, hFR⟩ := hrw
          have hs0 := (Kd.R_cell ((none, 0, 0) : SV) hI4.out o (by have := HNEG.out; omega) (by have := HOR.out; have := HI.out.vl; omega)).1
          have hrd : rdOf ((none, 0, 0) : SV) vs o = s := by unfold rdOf; rw [List.getD_eq_getElem?_getD, hs]; rfl
          rw [hrd] at hs0
          have hs0 : (w'.setCell ⟨g, o.toNat, none⟩ (.int .i64 (wrap64 (rd hv o + 1)))).drew.cell? ⟨ob, o.toNat, none⟩ = some (.slice s.1 s.2.1 s.2.2) := hs0
          have hs1 := blk_cell hbx4 0
          have hs2 := blk_cell hbx4 1
          have hs3 := blk_cell hbx4 2
          have hs4 := blk_cell hbx4 3
          have HB4 := Aside0.mk hI4.below
          have HI4 := Aside0.mk hI4
          have HF4 := Aside0.mk hF4
          have HS := Aside0.mk hs
          have HOWN := Aside0.mk hown
          have HL0 := Aside0.mk hl0
          have HR0 := Aside0.mk hR0
          have HFR := Aside0.mk hFR
          clear hI3 hI4 hF3 hF4 hbx hbx4 hs hown hl0 hR0 hFR hrx hrd HI HQ HQ2 HFX
          generalize w'.setCell ⟨g, o.toNat, none⟩ (.int .i64 (wrap64 (rd hv o + 1))) = W3 at *
          refine start_ (n := 11) (S := fun w' => w'.cell? ⟨ob, o.toNat, none⟩ = some (.slice s.1 s.2.1 s.2.2) ∧ w'.cell? ⟨wr.heap.size, 0, none⟩ = some (.int .i64 x.f0) ∧ w'.cell? ⟨wr.heap.size, 1, none⟩ = some (.int .i64 x.f1) ∧ w'.cell? ⟨wr.heap.size, 2, none⟩ = some (.int .i64 x.f2) ∧ w'.cell? ⟨wr.heap.size, 3, none⟩ = some (.slice A3 x.f3.length c3)) (ds := [8, 10]) #[false, false, false, false, false, false, false, false, false, false, false] (by kernel_rfl) rfl rfl ⟨hs0, hs1, hs2, hs3, hs4⟩ (fun hHeld => ?_)
          refine with_tabW merge_Split.tab12 merge_Split.bits12 (fun HT_ HW_ => ?_)
          refine pure_ (i := 0) (N := some 35) (v := ?_) (a' := ?_) #[true, false, false, false, false, false, false, false, false, false, false] rfl rfl (any_of HT_.out (by kernel_rfl)) (fun _ _ _ h => h) (Or.inl ⟨by rfl, ?_⟩) ?_ ?_
          rotate_left
          · intro w'
            go_simp
            with_reducible rfl
          rotate_left
          · simp only [Act.put, List.setIfInBounds_toArray, List.set_cons_zero, List.set_cons_succ, i64_w, i32_w, IntKind.wrap_u8, IntKind.wrap_u32]
            rfl
          refine pure_ (i := 1) (N := some 36) (v := ?_) (a' := ?_) #[true, true, false, false, false, false, false, false, false, false, false] rfl rfl (any_of HT_.out (by kernel_rfl)) (fun _ _ _ h => h) (Or.inl ⟨by rfl, ?_⟩) ?_ ?_
          rotate_left
          · intro w'
            go_simp
            with_reducible rfl
          rotate_left
          · simp only [Act.put, List.setIfInBounds_toArray, List.set_cons_zero, List.set_cons_succ, i64_w, i32_w, IntKind.wrap_u8, IntKind.wrap_u32]
            rfl
          refine pure_ (i := 2) (N := some 37) (v := ?_) (a' := ?_) #[true, true, true, false, false, false, false, false, false, false, false] rfl rfl (any_of HT_.out (by kernel_rfl)) (fun _ _ _ h => h) (Or.inl ⟨by rfl, ?_⟩) ?_ ?_
          rotate_left
          · intro w'
            go_simp
            with_reducible rfl
          rotate_left
          · simp only [Act.put, List.setIfInBounds_toArray, List.set_cons_zero, List.set_cons_succ, i64_w, i32_w, IntKind.wrap_u8, IntKind.wrap_u32]
            rfl
          refine pure_ (i := 3) (N := some 38) (v := ?_) (a' := ?_) #[true, true, true, true, false, false, false, false, false, false, false] rfl rfl (any_of HT_.out (by kernel_rfl)) (fun _ _ _ h => h) (Or.inl ⟨by rfl, ?_⟩) ?_ ?_
          rotate_left
          · intro w'
            go_simp
            with_reducible rfl
          rotate_left
          · simp only [Act.put, List.setIfInBounds_toArray, List.set_cons_zero, List.set_cons_succ, i64_w, i32_w, IntKind.wrap_u8, IntKind.wrap_u32]
            rfl
          refine pure_ (i := 4) (N := some 39) (v := ?_) (a' := ?_) #[true, true, true, true, true, false, false, false, false, false, false] rfl rfl (any_of HT_.out (by kernel_rfl)) (fun _ _ _ h => h) (Or.inl ⟨by rfl, ?_⟩) ?_ ?_
          rotate_left
          · intro w'
            go_simp
            with_reducible rfl
          rotate_left
          · simp only [Act.put, List.setIfInBounds_toArray, List.set_cons_zero, List.set_cons_succ, i64_w, i32_w, IntKind.wrap_u8, IntKind.wrap_u32]
            rfl
          refine take_ (i := 5) (N := some 40) (v := ?_) (a' := ?_) #[true, true, true, true, true, true, false, false, false, false, false] rfl rfl (take_ofW HT_.out HW_.out (by kernel_rfl)) (fun _ _ _ h => h) (Or.inl ⟨by rfl, ?_⟩) hHeld ?_ ?_
          rotate_left
          · rintro w' ⟨s0, s1, s2, s3, s4⟩
            go_simp
            with_reducible rfl
          rotate_left
          · simp only [Act.put, List.setIfInBounds_toArray, List.set_cons_zero, List.set_cons_succ, i64_w, i32_w, IntKind.wrap_u8, IntKind.wrap_u32]
            rfl
          refine take_ (i := 6) (N := some 41) (v := ?_) (a' := ?_) #[true, true, true, true, true, true, true, false, false, false, false] rfl rfl (take_ofW HT_.out HW_.out (by kernel_rfl)) (fun _ _ _ h => h) (Or.inl ⟨by rfl, ?_⟩) hHeld ?_ ?_
          rotate_left
          · rintro w' ⟨s0, s1, s2, s3, s4⟩
            go_simp
            with_reducible rfl
          rotate_left
          · simp only [Act.put, List.setIfInBounds_toArray, List.set_cons_zero, List.set_cons_succ, i64_w, i32_w, IntKind.wrap_u8, IntKind.wrap_u32]
            rfl
          refine one_ (i := 7) (N := some 42) #[true, true, true, true, true, true, true, true, false, false, false] rfl rfl (one_of HT_.out (by kernel_rfl)) (by decide) (fun K hK => ?_)
          refine value_ (w1 := ?_) (v := ?_) (by rfl) rfl ?_ ?_
          rotate_left 2
          · go_simp
            constructor
            · rfl
            · rfl
          refine hK.out _ _ ⟨(World.cell?_alloc_lt _ _ _ (World.block_lt_of_cell? _ _ (hHeld.1))).trans (hHeld.1), (World.cell?_alloc_lt _ _ _ (World.block_lt_of_cell? _ _ (hHeld.2.1))).trans (hHeld.2.1), (World.cell?_alloc_lt _ _ _ (World.block_lt_of_cell? _ _ (hHeld.2.2.1))).trans (hHeld.2.2.1), (World.cell?_alloc_lt _ _ _ (World.block_lt_of_cell? _ _ (hHeld.2.2.2.1))).trans (hHeld.2.2.2.1), (World.cell?_alloc_lt _ _ _ (World.block_lt_of_cell? _ _ (hHeld.2.2.2.2))).trans (hHeld.2.2.2.2)⟩ (fun hHeld => ?_)
          clear hK K
          refine norm_ (a' := ?_) ?_ ?_
          rotate_left
          · show Act.put _ (some 42) _ = _
            simp only [Act.put, List.setIfInBounds_toArray, List.set_cons_zero, List.set_cons_succ, i64_w, i32_w, IntKind.wrap_u8, IntKind.wrap_u32]
            rfl
          refine last_ (i := 8) (N := some 43) #[true, true, true, true, true, true, true, true, true, false, false] rfl rfl (one_of HT_.out (by kernel_rfl)) (by decide) (fun K hK => ?_)
          refine Kd.R_append_step (Kd.raw k45.sz) (w0 := w) w.heap.size (by rfl) (.tmp 40) (.tmp 42) 25 45 (.agg #[(.int .i64 0), (.int .i64 0), (.int .i64 0), (.slice none 0 0)]) 48 rfl Try.underlying25 info45 rfl (by decide) (by omega) (encSV s) rw0 [.int .i64 x.f0, .int .i64 x.f1, .int .i64 x.f2, .slice A3 x.f3.length c3] [.int .i64 x.f0, .int .i64 x.f1, .int .i64 x.f2, .slice A3 x.f3.length c3] (fun _ => True) (fun _ => False) rfl rfl (Kd.FK_raw HF4.out) (fun _ hk => hk.elim) (fun _ _ => trivial) (Kd.raw_any HR0.out) HB4.out HB4.out.size (by have := HOL.out; have := HL0.out; omega) ?_
          intro v1 w1 hr1 hb1 hg1 hat1
          obtain ⟨A1, c1, rfl⟩ := Kd.R_slice hr1
          have HRW := Aside0.mk (rowS_appended HL0.out HFR.out HF4.out HB4.out.size HOWN.out hr1 hg1)
          have HB5 := Aside0.mk hb1
          have HG5 := Aside0.mk hg1
          have HAT := Aside0.mk hat1
          have HO5 := Kd.R_cell ((none, 0, 0) : SV) (Kd.R_grown HI4.out.out HG5.out (fun k hk e => (HI4.out.away o.toNat s k HS.out e.symm).2 hk)) o (by have := HNEG.out; omega) (by have := HOR.out; have := HI4.out.vl; omega)
          have cO5 := HO5.1
          have fO5 := HO5.2
          clear HO5 hr1 hb1 hg1 hat1
          refine hK.out _ _ ?_
          clear hK K
          refine norm_ (a' := ?_) ?_ ?_
          rotate_left
          · show Act.put _ (some 43) _ = _
            simp only [Act.put, List.setIfInBounds_toArray, List.set_cons_zero, List.set_cons_succ, i64_w, i32_w, IntKind.wrap_u8, IntKind.wrap_u32]
            rfl
          refine pure_ (i := 9) (N := some 44) (v := ?_) (a' := ?_) #[true, true, true, true, true, true, true, true, true, true, false] rfl rfl (any_of HT_.out (by kernel_rfl)) (fun _ _ _ h => h) (Or.inl ⟨by rfl, ?_⟩) ?_ ?_
          rotate_left
          · intro w'
            go_simp
            with_reducible rfl
          rotate_left
          · simp only [Act.put, List.setIfInBounds_toArray, List.set_cons_zero, List.set_cons_succ, i64_w, i32_w, IntKind.wrap_u8, IntKind.wrap_u32]
            rfl
          refine last_ (i := 10) (N := none) #[true, true, true, true, true, true, true, true, true, true, true] rfl rfl (one_of HT_.out (by kernel_rfl)) (by decide) (fun K hK => ?_)
          refine skip_ (w1 := ?_) (by rfl) rfl ?_ ?_
          rotate_left
          · go_simp
            rfl
          refine hK.out _ _ ?_
          clear hK K
          refine done_ (done_of HT_.out (by kernel_rfl)) ?_
          have hRW := HRW.out
          have hAT := HAT.out
          rw [List.length_append] at hRW hAT
          have hI6 := SInv_app HI4.out hgob ho1 o s (A1, rw0.length + 1, c1) (rowsAt rows o ++ [x]) HS.out hRW HB5.out HG5.out hAT
          have HI6 := Aside0.mk hI6
          have hmx := Kd.C_max (Kd.V_reads' HV.out).2.2
          have hrd : ∀ i, 0 ≤ rd (hv.set o.toNat (wrap64 (rd hv o + 1))) i ∧ rd (hv.set o.toNat (wrap64 (rd hv o + 1))) i ≤ ((j + 1 : Nat) : Int) := by
            intro i
            rw [rd_set hv o.toNat _ (by have := HOR.out; have := HNEG.out; have := HHL.out; omega)]
            have h1 := HR.out o
            have h2 := HR.out i
            split
            · unfold wrap64; omega
            · omega
          have HRD := Aside0.mk hrd
          have HMX := Aside0.mk hmx
          clear hI6 hmx hrd hRW hAT HI4 HRW HB5 HG5 HAT cO5 fO5 hs0 hs1 hs2 hs3 hs4
          go_wp2
          go_roundg d
          case measure => omega
          case rel => exact ⟨j + 1, _, _, _, by have := HMX.out; first | rfl | (congr 1; omega) | (congr 1; unfold wrap64; omega), by omega, HP2, HRD, HI6⟩
      · obtain rfl : gk = 0 := by omega
        have hp := HP.out
        rw [List.drop_eq_nil_of_le (by omega)] at hp
        simp only [splitM, Option.some.injEq] at hp
        subst hp
        have hG := HG.out
        simp only [Option.some.injEq, Prod.mk.injEq] at hG
        obtain ⟨rfl, rfl⟩ := hG
        have hjb : decide ((j : Int) < (l0.length : Int)) = false := decide_eq_false (by omega)
        have hjb2 : decide (j < l0.length) = false := decide_eq_false (by omega)
        clear HP HG hj hlt
        go_wp2
        go_ret2
        exact ⟨_, rfl, by have := SInv_N HI.out; rw [HI.out.vl] at this; exact this, HI.out.below⟩
  · have hG := H.out
    unfold splitF at hG
    rw [if_neg hn] at hG
    simp only [Option.some.injEq, Prod.mk.injEq] at hG
    obtain ⟨rfl, rfl⟩ := hG
    have hIs : merge_is.f n = some false := by
      unfold merge_is.f
      by_cases h1 : n ≥ 1
      · rw [if_pos h1, decide_eq_false (by omega)]
      · rw [if_neg h1]
    have HIs := Aside0.mk hIs
    clear H hIs hn
    go_wp2_with (first | (go_at_call 24; (with_reducible refine (merge_is.calls n false _ HIs.out).mono ?_); rintro e w' ⟨rfl, ⟨nd, rfl⟩⟩))
    go_ret2
    exact ⟨_, rfl, Kd.N_nil _ _ _ _ _, pw_below_drewN (Below.refl _ _) _⟩
end
theorem splitM_mono (k : Nat) : ∀ (l : List S45) (hv : List Int) (rows : List (List S45)), LeO (splitM k l hv rows) (splitM (k + 1) l hv rows)
  | [], _, _ => LeO.refl _
  | e :: es, hv, rows => by
    rw [splitM, splitM]
    refine LeO.bind (merge_owner.mono _ _ _ _ _ k) (fun o => ?_)
    exact LeO.ite (LeO.refl _) (LeO.ite (splitM_mono k es _ _) (LeO.refl _))
def merge_Split.f (k : Nat) (l0 : List S45) (a1 : Int) : Option (List (List S45) × Int) := splitF k l0 a1
theorem merge_Split.mono : ∀ a0 a1 k, LeO (merge_Split.f k a0 a1) (merge_Split.f (k + 1) a0 a1) := fun a0 a1 k => by
  unfold merge_Split.f splitF
  exact LeO.ite (LeO.bind (splitM_mono k a0 _ _) (fun _ => LeO.refl _)) (LeO.refl _)
theorem merge_Split.calls (k : Nat) (P0_ : Nat → Prop) (A0 : Option Addr) (c0 : Nat) (l0 : List S45) (a1 : Int) (r1 : List (List S45)) (r2 : Int) (w : World) (hs0 : Kd.V k45 45 w w.heap.size (fun k_ => P0_ k_) (.slice A0 l0.length c0) l0) (h : merge_Split.f k l0 a1 = some (r1, r2)) :
    Calls Try.prog 16 #[.slice A0 l0.length c0, .int .i64 a1] w fun e w' => ∃ v0_ : Value, e = .returned (.tuple #[v0_, .int .i64 r2]) ∧ Kd.N (Kd.slice 45 k45) 25 w' w.heap.size (fun k_ => P0_ k_ ∨ w.heap.size ≤ k_) v0_ r1 ∧ Below w.heap.size w w' := own_Split k P0_ A0 c0 l0 a1 r1 r2 w hs0 h

/-! ### merge_Check: function 19 -/
def merge_Check.f (k : Nat) (l0 : List (S45)) (a1 : Int) : Option (Int) := (merge_Split.f k l0 a1).bind fun bt115 => (some bt115.2)
theorem merge_Check.mono : ∀ a0 a1 k, LeO (merge_Check.f k a0 a1) (merge_Check.f (k + 1) a0 a1) := by
  intro a0 a1 k
  unfold merge_Check.f
  repeat' first
      | (with_reducible exact merge_Split.mono _ _ _)
      | (with_reducible exact LeO.refl _)
      | (with_reducible exact LeO.none _)
      | (with_reducible refine LeO.ite ?_ ?_)
      | (with_reducible refine LeO.bind ?_ (fun _ => ?_))
      | exact merge_Split.mono _ _ _
      | exact LeO.none _
      | refine LeO.ite ?_ ?_
      | refine LeO.bind ?_ (fun _ => ?_)
set_option maxHeartbeats 8000000 in
set_option maxRecDepth 100000 in
theorem merge_Check.calls (k : Nat) (A0 : Option Addr) (c0 : Nat) (l0 : List (S45)) (a1 : Int) (r : Int) (w : World) (hr0 : Kd.C k45 w A0 l0.length l0) (hc0 : l0.length ≤ c0) (h : merge_Check.f k l0 a1 = some r) :
    Calls Try.prog 19 #[.slice A0 l0.length c0, .int .i64 a1] w fun e w' => e = .returned (.int .i64 r) ∧ Below w.heap.size w w' := by
  have HR0 := Aside0.mk hr0
  have HC0 := Aside0.mk hc0
  clear hr0 hc0
  have HB := Aside0.mk (Below.refl w.heap.size w)
  have H : ((merge_Split.f k l0 a1).bind fun bt115 => (some bt115.2)) = some r := h
  clear h
  replace H := Option.bind_eq_some_iff.mp H
  obtain ⟨⟨t115, t118⟩, A30, H⟩ := H
  replace H : (some t118) = some r := H
  have A3 := Aside0.mk A30
  clear A30
  obtain rfl := Option.some.inj H
  go_enter Try.func19, Try.ntmps19
  go_wp2_with (first | ((with_reducible refine gate_callee (f := 16) rfl ?_); refine goesL_ (some 10) rfl rfl Try.func16 (by kernel_rfl) rfl #[.slice A0 l0.length c0, .int .i64 a1] rfl (by (try simp only [List.map_toArray, List.map_cons, List.map_nil]); first | done | rfl | (simp only [List.length_drop, List.length_take]; rfl)) ?_; (with_reducible refine (merge_Split.calls k (fun k_ => k_ < w.heap.size) _ _ l0 a1 t115 t118 _ ?side1 A3.out).mono ?_); (case side1 => exact Kd.V_mk HC0.out (Kd.F_below (Kd.C_F k45_heap HR0.out) (by repeat (first | (with_reducible first | exact HB.out | apply below_alloc | apply pw_below_drewN | apply below_drew1) | exact HB.out)))); rintro e w4 ⟨v116, rfl, ho0, hb⟩; refine ⟨_, rfl, ?_⟩; have n0_ := Aside0.mk (Kd.N_lower (Kd.N_mono (ok' := fun k_ => True) ho0 (fun k_ hk_ => trivial)) (below_size (by repeat (first | (with_reducible first | exact HB.out | apply below_alloc | apply pw_below_drewN | apply below_drew1) | exact HB.out)))); have n1_ := Aside0.mk (below_step (by repeat (first | (with_reducible first | exact HB.out | apply below_alloc | apply pw_below_drewN | apply below_drew1) | exact HB.out)) hb); clear HB; have HO117 := n0_; have HB := n1_; clear n0_ n1_; (try clear hb); (try clear hb2); (try clear hk); (try clear hi); (try clear ho0)))
  go_ret
  exact ⟨by first | rfl | (simp [errW_none, errW_some] <;> rfl) | (simp [*, errW_none, errW_some] <;> rfl), by repeat (first | (with_reducible first | exact HB.out | apply below_alloc | apply pw_below_drewN | apply below_drew1) | exact HB.out)⟩

/-! ### stamp_Rank: function 31 -/
section
open Go.Shelf
attribute [local go_sem] Oper.semAt_some
def rankF (r : Int) (t : Int × Int × Int) : Int := if t.2.1 < t.2.2 then bits .or .i64 r 1 else if t.2.2 < t.2.1 then bits .or .i64 r 2 else r
def rankW (l : List (Int × Int × Int)) : Int := l.foldl rankF 0
theorem rankW_snoc (l : List (Int × Int × Int)) (t : Int × Int × Int) : rankW (l ++ [t]) = rankF (rankW l) t := by simp [rankW]
set_option maxRecDepth 100000 in
set_option maxHeartbeats 4000000 in
theorem own_Rank (A0 A1 : Option Addr) (c0 c1 : Nat) (l0 l1 : List Int) (w : World) (hr0 : Kd.C (Kd.int .i64) w A0 l0.length l0) (hr1 : Kd.C (Kd.int .i64) w A1 l1.length l1) (hn0 : l0.length ≤ 17592186044416) (hn1 : l1.length ≤ 17592186044416) :
    CallsIn Fence.wide 9 Try.prog 31 #[.slice A0 l0.length c0, .slice A1 l1.length c1] w fun e w' => e = .returned (.int .i64 (rankW (upto l0 l1 (lenS l0 l1)))) ∧ Below w.heap.size w w' := by
  have HR0 := Aside0.mk hr0
  have HR1 := Aside0.mk hr1
  clear hr0 hr1
  refine callsIn_of_wp_marks Try.func31 rfl trivial ?_ rfl
  simp only [Try.ntmps31, List.size_toArray, List.length_cons, List.length_nil, Nat.reduceAdd, Nat.reduceSub, Array.replicate_succ, Array.replicate_zero, List.push_toArray, List.append_toArray, List.nil_append, List.cons_append]
  gi_wp2_with ((first | refine ⟨trivial, ?_⟩ | refine ⟨trivial, wide_room, ?_⟩); gi_at_call 36; (with_reducible refine (CallsIn.mono (callsIn_wide.2 (own_beside A0 A1 l0.length c0 l1.length c1 _)) ?_)); rintro e w' ⟨rfl, rfl⟩)
  have bS := ((Boxed.new w 59 (.int .i64 0)).alloc (.cells #[.slice A0 l0.length c0] 26)).alloc (.cells #[.slice A1 l1.length c1] 26)
  have bA := (Boxed.new (w.alloc (.cells #[.int .i64 0] 59)) 26 (.slice A0 l0.length c0)).alloc (.cells #[.slice A1 l1.length c1] 26)
  have bB := Boxed.new ((w.alloc (.cells #[.int .i64 0] 59)).alloc (.cells #[.slice A0 l0.length c0] 26)) 26 (.slice A1 l1.length c1)
  simp only [World.size_alloc] at bA bB
  have hB0 : Below w.heap.size w (((w.alloc (.cells #[.int .i64 0] 59)).alloc (.cells #[.slice A0 l0.length c0] 26)).alloc (.cells #[.slice A1 l1.length c1] 26)) := (((Below.refl _ w).alloc (Nat.le_refl _) _).alloc (by simp) _).alloc (by simp; omega) _
  have hsz : (((w.alloc (.cells #[.int .i64 0] 59)).alloc (.cells #[.slice A0 l0.length c0] 26)).alloc (.cells #[.slice A1 l1.length c1] 26)).heap.size = w.heap.size + 3 := by simp
  obtain ⟨W0, hW0⟩ : ∃ W0, ((w.alloc (.cells #[.int .i64 0] 59)).alloc (.cells #[.slice A0 l0.length c0] 26)).alloc (.cells #[.slice A1 l1.length c1] 26) = W0 := ⟨_, rfl⟩
  rw [hW0] at bS bA bB hB0 hsz ⊢
  clear hW0
  refine wpIn_rangeFunc_ownH rfl (by omega) (gf := 40) (lb := #[.pointer (some ⟨w.heap.size + 1, 0, none⟩), .pointer (some ⟨w.heap.size + 1 + 1, 0, none⟩)]) rfl trivial (enters_of Try.func40 (by kernel_rfl) rfl)
    (own_stops (9 - 1) (w.heap.size + 1) (w.heap.size + 1 + 1) A0 A1 c0 c1 l0 l1 w W0 HR0.out HR1.out hn0 hn1 (lenS l0 l1) rfl hB0 bA bB) besK_t (besK_b (by omega) (by omega) (by omega)) (Below.refl _ _) (fun _ => rfl)
    (fun pre W => (Boxed W w.heap.size 59 (.int .i64 (rankW pre)) ∧ Below w.heap.size w W) ∧ w.heap.size + 3 ≤ W.heap.size)
    (fun _ _ _ => False)
    (OwnFrom.and (OwnFrom.and (Own.from (boxed_own _ _ _) _) (ownFrom_below (Nat.le_refl _) (by omega))) (ownFrom_size _ _))
    (fun _ _ _ _ _ hs _ _ => hs)
    ⟨⟨bS, hB0⟩, by omega⟩
    (fun x a' W => ∃ Bx, w.heap.size + 2 < Bx ∧ tripBox W Bx x ∧ a' = { tmps := #[.slice A0 l0.length c0, .slice A1 l1.length c1, undef, undef, .int .i64 0, .pointer (some ⟨w.heap.size, 0, none⟩), .pointer (some ⟨Bx, 0, none⟩), .slice A0 l0.length c0, .slice A1 l1.length c1, .func (.func 40) #[] #[.pointer (some ⟨w.heap.size + 1, 0, none⟩), .pointer (some ⟨w.heap.size + 1 + 1, 0, none⟩)], .agg #[.int .i64 x.1, .int .i64 x.2.1, .int .i64 x.2.2], undef, undef, undef, undef, undef, undef, undef, undef, undef, undef, undef, undef, undef, undef, undef, undef, undef], defers := [] })
    (fun x a' _ X Y row hs hg hr => by obtain ⟨Bx, h1, h2, h3⟩ := hs; exact ⟨Bx, h1, tripBox_own Bx x () X Y row h2 hg (fun r e => (hr r e).2), h3⟩)
    ?assign ?body ?done ?stop
  case assign =>
    rintro l pre x W K ⟨⟨bS1, hB1⟩, hs1⟩ hK
    have := hB1.size
    dsimp only [encT]
    gi_wp2
    exact hK _ _ ((KeepsOthers.alloc _ _).from _) (besK_alloc _ this (by omega) (by omega)) ⟨⟨bS1.alloc _, hB1.alloc hB1.size _⟩, by simp; omega⟩ ⟨W.heap.size, by omega, tripBox.new W x, rfl⟩
  case body =>
    rintro l pre x a' W hl ⟨r, hr⟩ ⟨⟨bS1, hB1⟩, hs1⟩ ⟨Bx, hBx, bX, rfl⟩ hlt
    have cS := bS1.cell
    have fS := bS1.frozen
    have c1 := bX.cell1
    have c2 := bX.cell2
    have hsc := setCell_size' W ⟨w.heap.size, 0, none⟩
    have R := rankW_snoc pre x
    have RR := Aside0.mk R
    clear R
    by_cases h1 : x.2.1 < x.2.2
    · have R : rankW (pre ++ [x]) = bits .or .i64 (rankW pre) 1 := by rw [RR.out]; unfold rankF; rw [if_pos h1]
      have RR := Aside0.mk R
      clear R hsc
      gi_wp2
      exact ⟨(KeepsOthers.setCell _ _ _).from _, besK_set _ (Nat.le_refl _) (by omega) (by omega), ⟨by rw [RR.out]; exact bS1.set _, hB1.setCell (p := ⟨w.heap.size, 0, none⟩) (Nat.le_refl _) _⟩, by rw [setCell_size']; exact hs1⟩
    · by_cases h2 : x.2.2 < x.2.1
      · have R : rankW (pre ++ [x]) = bits .or .i64 (rankW pre) 2 := by rw [RR.out]; unfold rankF; rw [if_neg h1, if_pos h2]
        have RR := Aside0.mk R
        clear R hsc
        gi_wp2
        exact ⟨(KeepsOthers.setCell _ _ _).from _, besK_set _ (Nat.le_refl _) (by omega) (by omega), ⟨by rw [RR.out]; exact bS1.set _, hB1.setCell (p := ⟨w.heap.size, 0, none⟩) (Nat.le_refl _) _⟩, by rw [setCell_size']; exact hs1⟩
      · have R : rankW (pre ++ [x]) = rankW pre := by rw [RR.out]; unfold rankF; rw [if_neg h1, if_neg h2]
        have RR := Aside0.mk R
        clear R hsc
        gi_wp2
        exact ⟨KeepsFrom.refl _ _, besK_refl _, ⟨by rw [RR.out]; exact bS1, hB1⟩, hs1⟩
  case done =>
    rintro D zs W hD rfl ⟨⟨bS1, hB1⟩, hs1⟩ hK
    have cS := bS1.cell
    gi_wp2
    refine ⟨by simp, .inl ⟨_, _, rfl, run_takeDeferred hK, ?_⟩⟩
    exact ⟨_, results_tmp rfl _ _ _, rfl, hB1.trans (belowK_b (w := w) (Nat.le_refl _) W D _ _ (by omega) hK rfl rfl)⟩
  case stop =>
    rintro D c pre W _ _ h _
    exact h.elim
end
def stamp_Rank.f (l0 l1 : List Int) : Option Int := if l0.length ≤ 17592186044416 ∧ l1.length ≤ 17592186044416 then some (rankW (upto l0 l1 (lenS l0 l1))) else none
theorem stamp_Rank.calls (A0 : Option Addr) (c0 : Nat) (l0 : List Int) (A1 : Option Addr) (c1 : Nat) (l1 : List Int) (r : Int) (w : World) (hr0 : Kd.C (Kd.int .i64) w A0 l0.length l0) (hc0 : l0.length ≤ c0) (hr1 : Kd.C (Kd.int .i64) w A1 l1.length l1) (hc1 : l1.length ≤ c1) (h : stamp_Rank.f l0 l1 = some r) :
    Calls Try.prog 31 #[.slice A0 l0.length c0, .slice A1 l1.length c1] w fun e w' => e = .returned (.int .i64 r) ∧ Below w.heap.size w w' := by
  unfold stamp_Rank.f at h
  by_cases hl : l0.length ≤ 17592186044416 ∧ l1.length ≤ 17592186044416
  · rw [if_pos hl] at h
    obtain rfl := Option.some.inj h
    exact callsIn_wide.1 (own_Rank A0 A1 c0 c1 l0 l1 w hr0 hr1 hl.1 hl.2)
  · rw [if_neg hl] at h; cases h

end Go.Proofs.Ytbkdogijkfampaa.PMergeLess
