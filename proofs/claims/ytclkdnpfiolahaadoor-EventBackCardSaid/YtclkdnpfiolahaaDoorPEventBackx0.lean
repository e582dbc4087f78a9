-- Written by a patched print (wip/mkprint.py), for this claim.
import Derived.Test.YtclkdnpfiolahaaDoorProg
import Derived.Lib.SliceRun
import Derived.Lib.LaidTab
import Derived.Test.YtclkdnpfiolahaaDoorRows
import Derived.Test.YtclkdnpfiolahaaDoorLays
import Derived.SliceStrings
import Derived.Lib.OthersKept
import Derived.Lib.TrimU
import Derived.Lib.SlBytesConst
import Derived.Lib.ConvBytes
import Derived.Below
import Derived.Deep.Draws
import Derived.Deep.AppendLies
import Derived.Maps.AppendAt
import Derived.OwnWalk
import Derived.Laws.BytesArg
import Derived.Laws.MakeOwn
import Derived.Laws.OwnMore
import Derived.Deep.OwnRows
import Derived.Tactics
import Derived.Lib.ConvBytes
import Derived.Laws.Slices
import Derived.WalkKit
import Derived.KernelRfl
import Derived.RowKit3
import Derived.Deep.LoopGhost
import Derived.Deep.QuietTactic
import Derived.BigQuiet
import Derived.WideLaws
import Derived.Deep.DeepCutAuto
import Derived.Deep.CutBlock
import Derived.Deep.RegionHeld3
import Derived.Laws.Rows
import Derived.Lib.AppendStr
import Derived.ArgAppend
import Derived.Laws.IdiomCopy
import Derived.OrdersHeld
import Derived.Laws.BitsLemmas
import Derived.RowKit
import Derived.Test.YtclkdnpfiolahaaDoorWWords
import Derived.Test.YtclkdnpfiolahaaDoorWLast
import Derived.Test.YtclkdnpfiolahaaDoorWTab
import Derived.Test.YtclkdnpfiolahaaDoorWFour
import Derived.Test.YtclkdnpfiolahaaDoorWQPut
import Derived.Test.YtclkdnpfiolahaaDoorWApart
import Derived.Test.YtclkdnpfiolahaaDoorWArr
import Derived.Test.YtclkdnpfiolahaaDoorWZeros
import Derived.Test.YtclkdnpfiolahaaDoorWFoot
import Derived.Test.YtclkdnpfiolahaaDoorWKept
import Derived.Test.YtclkdnpfiolahaaDoorWShare
import Derived.Test.YtclkdnpfiolahaaDoorWN
import Derived.Test.YtclkdnpfiolahaaDoorWFootNe
import Derived.Test.YtclkdnpfiolahaaDoorWAt
import Derived.Test.YtclkdnpfiolahaaDoorWEqStruct
import Derived.Test.YtclkdnpfiolahaaDoorWRepsOne
import Derived.Test.YtclkdnpfiolahaaDoorWInv
import Derived.Test.YtclkdnpfiolahaaDoorWInvWords
import Derived.Test.YtclkdnpfiolahaaDoorWGuard
import Derived.Test.YtclkdnpfiolahaaDoorWNEv
import Derived.Test.YtclkdnpfiolahaaDoorWMore
namespace Go.Proofs.YtclkdnpfiolahaaDoor.PEventBack
open Go.RowKit Go.Proofs.YtclkdnpfiolahaaDoorW.PrintWords Go.Proofs.YtclkdnpfiolahaaDoorW.PrintLast Go.Proofs.YtclkdnpfiolahaaDoorW.PrintMore
attribute [local go_sem] max2_int min2_int max_two min_two max_three min_three max_four min_four   -- for this text's walks alone
set_option linter.unusedVariables false
set_option linter.unusedSimpArgs false

theorem pf_C_stringN {P : Program} {w : World} {src dst e : TypeId} {A : Option Addr} {n c : Nat} {xs : List Int} (hs : P.underlying src = some (.slice e)) (he : P.underlying e = some (.int .u8)) (hd : P.underlying dst = some .string)
    (h : (Kd.int .u8).C w A n xs) : ∀ m : Nat, (convert src dst (.slice A n c)).run P (w.drewN m) = .ok (.string (strOfNums xs)) (w.drewN m) := fun m => Kd.C_string (w := w.drewN m) hs he hd h
theorem print_take_ofM {α : Type} {P : Program} (enc : α → Value) (d : α) (t e : TypeId) (kl km : IntKind) {i : TypeInfo} (ht : P.underlying t = some (.slice e)) (hi : P.info? e = some i) (hsz : i.size = 1) (A : Option Addr) (c : Nat) (xs : List α) (j : Int) (h0 : 0 ≤ j) (hm : j ≤ xs.length) (hc : xs.length ≤ c) :
    (∀ W : World, (Instr.slice t (.slice A xs.length c) none (some (.int kl j)) (some (.int km j))).run P W = .ok (.slice A (xs.take j.toNat).length (xs.take j.toNat).length) W) ∧
      (∀ w : World, ReadsOf enc d w A xs.length xs → ReadsOf enc d w A (xs.take j.toNat).length (xs.take j.toNat)) ∧ (xs.take j.toNat).length ≤ (xs.take j.toNat).length := by
  have hl : (xs.take j.toNat).length = j.toNat := by rw [List.length_take]; omega
  refine ⟨fun W => ?_, fun w h => by rw [hl]; exact h.take_ j.toNat (by omega), Nat.le_refl _⟩
  have hel : P.elem t = e := by simp [Program.elem, ht]
  have hu : P.underlying t = some (.slice (P.elem t)) := by rw [hel]; exact ht
  have ha : (A.map fun x => x.add 0) = A := by cases A <;> simp [Addr.add]
  rw [run_slice_hm W t A xs.length c hu kl km j j h0 (Int.le_refl _) (by omega), hel, hl]
  simp [sizeOf, typeInfo, hi, hsz, sliced, Result.andThen, ha]
theorem print_mid_ofM {α : Type} {P : Program} (enc : α → Value) (d : α) (t e : TypeId) (kl kh km : IntKind) {i : TypeInfo} (ht : P.underlying t = some (.slice e)) (hi : P.info? e = some i) (hsz : i.size = 1) (A : Option Addr) (c : Nat) (xs : List α) (a b : Int) (h0 : 0 ≤ a) (h1 : a ≤ b) (hm : b ≤ xs.length) (hc : xs.length ≤ c) :
    ∃ A' : Option Addr, (∀ W : World, (Instr.slice t (.slice A xs.length c) (some (.int kl a)) (some (.int kh b)) (some (.int km b))).run P W = .ok (.slice A' ((xs.take b.toNat).drop a.toNat).length ((xs.take b.toNat).drop a.toNat).length) W) ∧
      (∀ w : World, ReadsOf enc d w A xs.length xs → ReadsOf enc d w A' ((xs.take b.toNat).drop a.toNat).length ((xs.take b.toNat).drop a.toNat)) ∧ ((xs.take b.toNat).drop a.toNat).length ≤ ((xs.take b.toNat).drop a.toNat).length := by
  have hlt : (xs.take b.toNat).length = b.toNat := by rw [List.length_take]; omega
  have hl : ((xs.take b.toNat).drop a.toNat).length = b.toNat - a.toNat := by rw [List.length_drop, hlt]
  refine ⟨if b.toNat = a.toNat then A else A.map (·.add a.toNat), fun W => ?_, fun w h => ?_, Nat.le_refl _⟩
  · have hel : P.elem t = e := by simp [Program.elem, ht]
    have hu : P.underlying t = some (.slice (P.elem t)) := by rw [hel]; exact ht
    rw [run_slice_lhm W t A xs.length c hu kl kh km a b b h0 h1 (Int.le_refl _) (by omega), hel, hl]
    simp [sizeOf, typeInfo, hi, hsz, sliced, Result.andThen]
  · have h2 := (h.take_ b.toNat (by omega)).drop_ (c := b.toNat) a.toNat (by omega) (by omega)
    rw [hl]
    exact h2
theorem pf_encs_at {α : Type} (enc : α → Value) (d : α) (xs : List α) (j : Nat) (u : Value) (h : (encs enc xs)[j]? = some u) : j < xs.length ∧ u = enc (xs.getD j d) := by
  unfold encs at h
  rw [List.getElem?_map] at h
  rcases Nat.lt_or_ge j xs.length with hj | hj
  · rw [List.getElem?_eq_getElem hj] at h
    refine ⟨hj, ?_⟩
    rw [List.getD_eq_getElem?_getD, List.getElem?_eq_getElem hj]
    simpa using h.symm
  · rw [List.getElem?_eq_none hj] at h
    simp at h
theorem pf_append_full {P : Program} {ops : Array Oper} {rest : List Oper} {o : Oper} {a : Act} {Q : Exit → Act → World → Prop} (k : IntKind) {w0 W : World} (base : Nat) (hgd : o.guard = none) (s x : Operand) (t e bytes : Nat)
    (ho : o.op = .call { callee := .builtin .append, args := #[s, x], argTypes := #[t, t] })
    (ht : P.underlying t = some (.slice e)) (hinfo : (P.info? e).map (fun i => (i.zero, i.size, i.bytes)) = some (some (.int k 0), 1, bytes)) (hb0 : 0 < bytes)
    (A' : Option Addr) (xs ys : List Int) (A : Option Addr) (m c : Nat) (ok : Nat → Prop) (hs : a.eval s = .slice A' xs.length xs.length) (hx : a.eval x = .slice A m c)
    (HC : (Kd.int k).C W A' xs.length xs) (HR : (Kd.int k).C W A m ys) (hpos : 0 < ys.length) (hfresh : ∀ k, W.heap.size ≤ k → ok k)
    (HB : Below base w0 W) (hbase : base ≤ W.heap.size) (hl : (xs.length + m) * bytes ≤ 140737488355328)
    (h : ∀ v1 w1, (Kd.int k).R e w1 base ok v1 (xs ++ ys) → Below base w0 w1 → W.grownBy w1 none → (v1.ownBlock = none ∨ ∃ b, v1.ownBlock = some b ∧ W.heap.size ≤ b) → wpList P ops Q rest (a.put o.dst v1) w1) :
    wpList P ops Q (o :: rest) a W := by
  obtain ⟨i0, hi, hzz⟩ := Option.map_eq_some_iff.1 hinfo
  simp only [Prod.mk.injEq] at hzz
  obtain ⟨hz0, hz1, hz2⟩ := hzz
  have h1 := Kd.reads_of_C (enc := Value.int k) (d := (0 : Int)) (h1 := fun _ => rfl) HC
  have h2 := Kd.reads_of_C (enc := Value.int k) (d := (0 : Int)) (h1 := fun _ => rfl) HR
  obtain ⟨hm, _, h2c⟩ := h2
  obtain ⟨ad, rfl, h2d⟩ := h2c (by omega)
  have hlen : xs.length + m ≤ 140737488355328 := Nat.le_trans (Nat.le_mul_of_pos_right _ hb0) hl
  refine wpList_append_grows W hgd s x t ho e i0 (.int k 0) 1 bytes ht hi hz0 hz1 hz2 rfl (by omega) A' xs.length xs.length (encs (Value.int k) xs) hs ?_ (by simp [encs]) ?_ ad m c (encs (Value.int k) ys) hx (by simp [encs, hm]) ?_ ?_ (by omega) (by simp only [maxLen]; omega) hl ?_
  · intro hn
    rcases Nat.eq_zero_or_pos xs.length with h0 | h0
    · exact ⟨h0, h0⟩
    · obtain ⟨ad', he, _⟩ := h1.2.2 h0
      rw [hn] at he
      cases he
  · intro b hb j u hu
    obtain ⟨hj, rfl⟩ := pf_encs_at _ (0 : Int) _ _ _ hu
    obtain ⟨ad', he, hcell⟩ := h1.2.2 (by omega)
    rw [hb] at he
    cases he
    exact hcell j hj
  · intro j u hu
    obtain ⟨hj, rfl⟩ := pf_encs_at _ (0 : Int) _ _ _ hu
    exact h2d j (by omega)
  · intro u hu
    unfold encs at hu
    obtain ⟨z, _, rfl⟩ := List.mem_map.1 hu
    rfl
  · intro v' w' hown hg
    have hown2 : w'.ownsRow W.heap.size e 1 v' (xs ++ ys).length (encs (Value.int k) (xs ++ ys)) := by
      have : encs (Value.int k) (xs ++ ys) = encs (Value.int k) xs ++ encs (Value.int k) ys := by simp [encs]
      rw [this, List.length_append, hm]
      exact hown
    have hblk : ∃ g, v'.ownBlock = some g ∧ W.heap.size ≤ g := by
      rcases hown2.2 with ⟨_, hn⟩ | ⟨g, cap, cur, rfl, hb, _⟩
      · exfalso
        simp at hn
        rw [hn.2] at hpos
        simp at hpos
      · exact ⟨g, rfl, hb⟩
    obtain ⟨g, hgv, hgb⟩ := hblk
    have hR : (Kd.int k).R e w' W.heap.size ok v' (xs ++ ys) := Kd.R_of_own (h1 := fun _ => rfl) hown2 (fun q hq => by rw [hgv] at hq; cases hq; exact hfresh _ hgb)
    exact h v' w' (Kd.R_lower hR hbase) (HB.grown hg hbase (fun _ hk => by cases hk)) hg (.inr ⟨g, hgv, hgb⟩)
/-- A row of the call's own, or a slice that came in (at world b), cut to its very length: what is appended to either is a row of the call's own. -/
def pf_RF (k : IntKind) (e : Nat) (b W : World) (ok : Nat → Prop) (v : Value) (xs : List Int) : Prop :=
  (Kd.int k).R e W b.heap.size ok v xs ∨ ∃ A, v = .slice A xs.length xs.length ∧ (Kd.int k).C b A xs.length xs
theorem pf_RF_append {P : Program} {ops : Array Oper} {rest : List Oper} {o : Oper} {a : Act} {Q : Exit → Act → World → Prop} (k : IntKind) {b W : World} (hgd : o.guard = none) (s x : Operand) (t e bytes : Nat)
    (ho : o.op = .call { callee := .builtin .append, args := #[s, x], argTypes := #[t, t] })
    (ht : P.underlying t = some (.slice e)) (hinfo : (P.info? e).map (fun i => (i.zero, i.size, i.bytes)) = some (some (.int k 0), 1, bytes)) (hb0 : 0 < bytes)
    (v : Value) (xs : List Int) (y : Int) (hs : a.eval s = v) (hx : a.eval x = .slice (some ⟨W.heap.size, 0, none⟩) 1 1)
    (HO : pf_RF k e b W (fun _ => True) v xs) (HB : Below b.heap.size b W) (hl : (xs.length + 1) * bytes ≤ 140737488355328)
    (h : ∀ v1 w1, (Kd.int k).R e w1 b.heap.size (fun _ => True) v1 (xs ++ [y]) → Below b.heap.size b w1 → wpList P ops Q rest (a.put o.dst v1) w1) :
    wpList P ops Q (o :: rest) a (W.alloc (.cells #[.int k y] e)) := by
  rcases HO with HO | ⟨A, rfl, HC⟩
  · exact Kd.R_append (Kd.int k) (w0 := b) b.heap.size hgd s x t e (.int k 0) bytes ho ht hinfo rfl Nat.one_pos hb0 v xs y [.int k y] (fun _ => True) (fun _ => False) hs hx rfl (fun _ hk => hk.elim) (fun _ _ => trivial) HO HB HB.size hl
      (fun v1 w1 h1 h2 _ _ => h v1 w1 h1 h2)
  · have hone : (Kd.int k).C (W.alloc (.cells #[.int k y] e)) (some ⟨W.heap.size, 0, none⟩) 1 [y] := by
      refine Kd.C_of_reads (h1 := fun _ => rfl) (d := (0 : Int)) ⟨rfl, by omega, fun _ => ⟨_, rfl, fun j hj => ?_⟩⟩
      obtain rfl : j = 0 := by omega
      have := World.news_of_block (w := W.alloc (.cells #[.int k y] e)) (cs := #[.int k y]) (t := e) (fr := (0, 0)) (heap_alloc_new W _) 0 (.int k y) rfl
      simpa using this
    exact pf_append_full k (w0 := b) b.heap.size hgd s x t e bytes ho ht hinfo hb0 A xs [y] _ 1 1 (fun _ => True) hs hx (Kd.C_below (Kd.C_below HC HB) ((Below.refl _ W).alloc (Nat.le_refl _) _)) hone (by simp) (fun _ _ => trivial)
      (HB.alloc HB.size _) (by have := HB.size; simp; omega) hl (fun v1 w1 h1 h2 _ _ => h v1 w1 h1 h2)
theorem pf_add_at (b j : Nat) : (⟨b, 0, none⟩ : Addr).add j = ⟨b, j, none⟩ := by
  unfold Addr.add
  split
  · rename_i h; rw [h]
  · simp
theorem pf_C_lit (w : World) (e : TypeId) (m : Nat × Nat) (cs : Array Value) (xs : List Int) (hcs : cs = (xs.map (Value.int .u8)).toArray) (n : Nat) (hn : xs.length = n) (hl : n ≤ 9223372036854775807) :
    (Kd.int .u8).C (w.alloc (.cells cs e m)) (some ⟨w.heap.size, 0, none⟩) n xs := by
  subst hcs hn
  refine Kd.C_of_reads (d := (0 : Int)) (h1 := fun _ => rfl) ⟨rfl, hl, fun _ => ⟨_, rfl, fun j hj => ?_⟩⟩
  rw [pf_add_at]
  simp [World.cell?, World.alloc, -World.alloc_eq, List.getD_eq_getElem?_getD, hj]
theorem pf_C_bytes (w : World) (e : TypeId) (s : ByteArray) (hl : s.size ≤ 9223372036854775807) :
    (Kd.int .u8).C (Lib.bytesWorld w e s) (some ⟨w.heap.size, 0, none⟩) s.size (bytesOf s) := by
  refine Kd.C_of_reads (d := (0 : Int)) (h1 := fun _ => rfl) ⟨bytesOf_length s, hl, fun _ => ⟨_, rfl, fun j hj => ?_⟩⟩
  rw [pf_add_at, Lib.bytesWorld_cell w e s j hj]
  have hj' : j < s.data.size := hj
  simp [bytesOf, List.getD_eq_getElem?_getD, Array.getElem?_eq_getElem hj']
theorem pf_below_bytes (w : World) (e : TypeId) (s : ByteArray) : Below w.heap.size w (Lib.bytesWorld w e s) :=
  ⟨rfl, rfl, rfl, by rw [Lib.bytesWorld_size]; omega, fun k hk => Lib.bytesWorld_at_old w e s k hk⟩
theorem pf_below_bytes' {w W : World} {e : TypeId} {s : ByteArray} (h : Below w.heap.size w W) : Below w.heap.size w (Lib.bytesWorld W e s) := below_step h (pf_below_bytes W e s)
theorem pf_conv_bytes {P : Program} (w : World) (src dst e : TypeId) (s : ByteArray) {u : TypeDesc}
    (hs : P.underlying src = some u) (hd : P.underlying dst = some (.slice e)) (he : P.underlying e = some (.int .u8)) :
    (convert src dst (.string s)).run P w = .ok (.slice (some ⟨w.heap.size, 0, none⟩) (bytesOf s).length (grownCap w s.size 0 e)) (Lib.bytesWorld w e s) := by
  rw [bytesOf_length]
  exact Lib.run_convert_string_bytes w src dst e s hs hd he
theorem pf_C_bytes' (w : World) (e : TypeId) (s : ByteArray) (hl : s.size < 140737488355328) :
    (Kd.int .u8).C (Lib.bytesWorld w e s) (some ⟨w.heap.size, 0, none⟩) (bytesOf s).length (bytesOf s) := by
  have := pf_C_bytes w e s (by omega)
  rw [bytesOf_length]
  exact this
theorem pf_cap_bytes (w : World) (e : TypeId) (s : ByteArray) : (bytesOf s).length ≤ grownCap w s.size 0 e := by
  rw [bytesOf_length]
  exact grownCap_ge w s.size 0 e
theorem pf_open_strs {H : Type} {enc : TypeId × Value → H} {P : Program} {w : World} {spare : Nat → Bool} {held : Bool} {t e : TypeId} {a : Option Addr} {len cap : Nat} {d : DataW H} {p : List MemPlace}
    (ht : P.underlying t = some (.slice e)) (he : P.underlying e = some .string) (hc : P.cellsOf e = 1) (h : DataW.Trod enc P w 0 spare held t (.slice a len cap) d p) :
    ∃ l : List ByteArray, len = l.length ∧ Kd.C Kd.string w a l.length l ∧ l.length ≤ cap ∧ l.length ≤ maxLen ∧ ∀ s ∈ l, s.size ≤ maxLen := by
  obtain ⟨fuel, hf⟩ := h
  rcases Go.ChangeShapes.open_strings ht he hc hf with ⟨hcs, _⟩ | ⟨x, l, c, ss, hcs, _, hl, hm, hz, _, hcell, hsz⟩
  · simp [Value.cells] at hcs
    obtain ⟨rfl, rfl, rfl⟩ := hcs
    exact ⟨[], rfl, Kd.C_nil _ _, Nat.le_refl _, Nat.zero_le _, fun s hs => by cases hs⟩
  · simp [Value.cells] at hcs
    obtain ⟨rfl, rfl, rfl⟩ := hcs
    have hss : len ≤ ss.length := by rw [hz]; split <;> omega
    have hl2 : (ss.take len).length = len := by rw [List.length_take]; omega
    refine ⟨ss.take len, hl2.symm, ?_, by omega, by omega, fun s hs => hsz s (List.mem_of_mem_take hs)⟩
    rw [hl2]
    refine Kd.C_of_reads (d := ByteArray.empty) (h1 := fun _ => rfl) ⟨hl2, ?_, fun _ => ⟨_, rfl, fun j hj => ?_⟩⟩
    · exact Nat.le_trans (by omega : len ≤ maxLen) (by decide)
    · rw [hcell j (by omega)]
      congr 2
      rw [List.getD_eq_getElem?_getD, List.getD_eq_getElem?_getD, List.getElem?_take_of_lt hj]
theorem pf_or128_fin : ∀ y : Fin 256, Go.bits .or .u8 128 (Go.bits .and .u8 (y.val : Int) 63) = 128 + (y.val : Int) % 64 := by decide +kernel
theorem pf_or128 (x : Int) : Go.bits .or .u8 128 (Go.bits .and .u8 (x % 256) 63) = 128 + x % 64 := by
  obtain ⟨n, hn⟩ : ∃ n : Nat, x % 256 = (n : Int) := ⟨(x % 256).toNat, by omega⟩
  have := pf_or128_fin ⟨n, by omega⟩
  rw [hn, this]
  simp only
  omega
theorem pf_add_add (a : Addr) (m i : Nat) : (a.add m).add i = a.add (m + i) := by
  by_cases hi : i = 0
  · subst hi
    simp [Addr.add]
  · rw [add_field a m i (by omega)]
    generalize a.add m = b
    simp [Addr.add, hi]
theorem pf_weightsAll {H : Type} {P : Program} {e : TypeId} {d : DataW H} : ∀ {l : List (DataW H)}, d ∈ l → ∀ {n : Nat}, n ∈ d.weights P e → n ∈ DataW.weightsAll P e l
  | [], h, _, _ => by cases h
  | x :: r, h, n, hn => by
    unfold DataW.weightsAll
    rcases List.mem_cons.1 h with rfl | h
    · exact List.mem_append_left _ hn
    · exact List.mem_append_right _ (pf_weightsAll h hn)
theorem pf_weightsEach {H : Type} {P : Program} : ∀ {ts : List TypeId} {ds : List (DataW H)} {j : Nat} {t : TypeId} {d : DataW H}, ts[j]? = some t → ds[j]? = some d → ∀ {n : Nat}, n ∈ d.weights P t → n ∈ DataW.weightsEach P ts ds
  | [], _, _, _, _, h, _, _, _ => by simp at h
  | _ :: _, [], _, _, _, _, h, _, _ => by simp at h
  | t :: ts, d :: ds, 0, t', d', h1, h2, n, hn => by
    simp only [List.getElem?_cons_zero, Option.some.injEq] at h1 h2
    subst h1
    subst h2
    unfold DataW.weightsEach
    exact List.mem_append_left _ hn
  | t :: ts, d :: ds, j + 1, t', d', h1, h2, n, hn => by
    simp only [List.getElem?_cons_succ] at h1 h2
    unfold DataW.weightsEach
    exact List.mem_append_right _ (pf_weightsEach h1 h2 hn)
/-- What a type's values tell, opened out of the statement's data. -/
def pfOpens {H α : Type} (enc : TypeId × Value → H) (P : Program) (w : World) (spare : Nat → Bool) (held : Bool) (d : Kd α) (t : TypeId) (Q : α → Prop) : Prop :=
  ∀ (fuel : Nat) (cs : List Value) (x : DataW H × List MemPlace), DataW.trod enc P w 0 spare held fuel t cs = some x → (∀ n ∈ x.1.weights P t, n ≤ reachBytes) → ∃ y : α, d.K w y cs ∧ Q y
section
variable {H α : Type} {enc : TypeId × Value → H} {P : Program} {w : World} {spare : Nat → Bool} {held : Bool}
theorem pfOpens_int {t : TypeId} (k : IntKind) (ht : P.underlying t = some (.int k)) : pfOpens enc P w spare held (Kd.int k) t (fun n => (Lit.int k n).wf = true) := by
  intro fuel cs x h _
  obtain ⟨n, rfl, _, hw⟩ := DataW.trod_int ht h
  exact ⟨n, rfl, hw⟩
theorem pfOpens_string {t : TypeId} (ht : P.underlying t = some .string) : pfOpens enc P w spare held Kd.string t (fun s => s.size ≤ 140737488351232) := by
  intro fuel cs x h hw
  obtain ⟨s, rfl, rfl, _⟩ := DataW.trod_string ht h
  refine ⟨s, rfl, ?_⟩
  have := hw s.data.toList.length (by unfold DataW.weights; exact List.mem_singleton.2 rfl)
  rw [Array.length_toList] at this
  exact this
theorem pfOpens_bool {t : TypeId} (ht : P.underlying t = some .bool) : pfOpens enc P w spare held Kd.bool t (fun _ => True) := by
  intro fuel cs x h _
  obtain ⟨b, rfl, _⟩ := DataW.trod_bool ht h
  exact ⟨b, rfl, trivial⟩
theorem pf_row_of {d : Kd α} {t e : TypeId} {Q : α → Prop} (z : α) (B : Nat) (ht : P.underlying t = some (.slice e)) (hc : P.cellsOf e = d.sz) (hB : P.bytesOf e = B) (hE : pfOpens enc P w spare held d e Q) {fuel : Nat} {cs : List Value} {x : DataW H × List MemPlace} (h : DataW.trod enc P w 0 spare held fuel t cs = some x) (hw : ∀ n ∈ x.1.weights P t, n ≤ reachBytes) :
    ∃ (l : List α) (A : Option Addr) (c : Nat), cs = [.slice A l.length c] ∧ l.length ≤ c ∧ d.C w A l.length l ∧ l.length * B ≤ 140737488351232 ∧ ∀ y ∈ l, Q y := by
  rcases DataW.trod_slice ht h with ⟨rfl, _⟩ | ⟨a, len, cap, elems, rest, n, _, rfl, rfl, hb, hl, hm, hlen, hel, _, _⟩
  · exact ⟨[], none, 0, rfl, Nat.le_refl _, Kd.C_nil _ _, by simp, fun y hy => by cases hy⟩
  · unfold DataW.weights at hw
    rw [ht] at hw
    have hw0 := hw _ (List.mem_cons_self ..)
    have each : ∀ i, i < len → ∃ (y : α) (c : List Value), d.K w y c ∧ Q y ∧ w.cells? 0 (a.add (i * P.cellsOf e)) (P.cellsOf e) = some c := by
      intro i hi
      have h1 := hel i hi
      rw [List.getElem?_eq_getElem (by omega)] at h1
      obtain ⟨c, hcs, hy⟩ := Option.bind_eq_some_iff.1 h1
      obtain ⟨y, hK, hQ⟩ := hE n c _ hy (fun m hm2 => hw m (List.mem_cons_of_mem _ (List.mem_append_left _ (pf_weightsAll (List.mem_map.2 ⟨_, List.getElem_mem (by omega), rfl⟩) hm2))))
      exact ⟨y, c, hK, hQ, hcs⟩
    let f : Nat → α := fun i => if hi : i < len then Classical.choose (each i hi) else z
    have hf : ∀ i, i < len → ∃ c : List Value, d.K w (f i) c ∧ Q (f i) ∧ w.cells? 0 (a.add (i * P.cellsOf e)) (P.cellsOf e) = some c := by
      intro i hi
      have := Classical.choose_spec (each i hi)
      show ∃ c : List Value, d.K w (if hi : i < len then Classical.choose (each i hi) else z) c ∧ Q (if hi : i < len then Classical.choose (each i hi) else z) ∧ _
      rw [dif_pos hi]
      exact this
    have hll : ((List.range len).map f).length = len := by simp
    refine ⟨(List.range len).map f, some a, cap, by rw [hll], by rw [hll]; exact hl, ?_, ?len, ?_⟩
    case len =>
      rw [hll]
      simp only [List.length_map] at hw0
      rw [hB] at hw0
      exact Nat.le_trans (Nat.mul_le_mul_right _ (by omega)) hw0
    · refine ⟨rfl, ?_, fun _ => ⟨a, rfl, fun j p hj => ?_⟩⟩
      · rw [hll]
        exact Nat.le_trans (by omega : len ≤ maxLen) (by decide)
      · have hj' : j < len := by have := (List.getElem?_eq_some_iff.1 hj).1; rwa [hll] at this
        rw [List.getElem?_map, List.getElem?_range hj'] at hj
        obtain rfl := Option.some.inj hj
        obtain ⟨c, hK, hQ, hcs⟩ := hf j hj'
        refine ⟨c, d.K_len hK, hK, fun i u hi => ?_⟩
        obtain ⟨hb2, hl2, hcell⟩ := World.cells?_some hcs
        have hi' : i < P.cellsOf e := by
          have := (List.getElem?_eq_some_iff.1 hi).1
          omega
        have h3 := hcell i hi'
        rw [hi] at h3
        rw [← h3, ← hc, pf_add_add]
    · intro y hy
      obtain ⟨i, hi, rfl⟩ := List.mem_map.1 hy
      exact (hf i (List.mem_range.1 hi)).choose_spec.2.1
theorem pfOpens_slice {d : Kd α} {t e : TypeId} {Q : α → Prop} (z : α) (B : Nat) (ht : P.underlying t = some (.slice e)) (hc : P.cellsOf e = d.sz) (hB : P.bytesOf e = B) (hE : pfOpens enc P w spare held d e Q) : pfOpens enc P w spare held (Kd.slice e d) t (fun l => l.length * B ≤ 140737488351232 ∧ ∀ y ∈ l, Q y) := by
  intro fuel cs x h hw
  obtain ⟨l, A, c, rfl, hl, hC, hm, hQ⟩ := pf_row_of z B ht hc hB hE h hw
  exact ⟨l, ⟨A, c, rfl, hl, hC⟩, hm, hQ⟩
theorem pf_open_rows {d : Kd α} {t e : TypeId} {Q : α → Prop} (z : α) (B : Nat) (ht : P.underlying t = some (.slice e)) (hc : P.cellsOf e = d.sz) (hB : P.bytesOf e = B) (hE : pfOpens enc P w spare held d e Q) {a : Option Addr} {len cap : Nat} {y : DataW H} {p : List MemPlace} {ts : List TypeId} {ds : List (DataW H)} {j : Nat}
    (hsz : (DataW.weightsEach P ts ds).all (· ≤ reachBytes) = true) (hts : ts[j]? = some t) (hds : ds[j]? = some y) (h : DataW.Trod enc P w 0 spare held t (.slice a len cap) y p) :
    ∃ l : List α, len = l.length ∧ d.C w a l.length l ∧ l.length ≤ cap ∧ l.length * B ≤ 140737488351232 ∧ ∀ x ∈ l, Q x := by
  obtain ⟨fuel, hf⟩ := h
  obtain ⟨l, A, c, he, hl, hC, hm, hQ⟩ := pf_row_of z B ht hc hB hE hf (fun n hn => of_decide_eq_true (List.all_eq_true.1 hsz n (pf_weightsEach hts hds hn)))
  simp [Value.cells] at he
  obtain ⟨rfl, rfl, rfl⟩ := he
  exact ⟨l, rfl, hC, hl, hm, hQ⟩
/-- A struct's fields, one cell each. -/
theorem pf_fields {t : TypeId} {fs : Array Field} (ht : P.underlying t = some (.struct fs)) (h1' : (List.range fs.size).all (fun i => match fs[i]? with | some f => f.offset == i && P.cellsOf f.type == 1 | none => false) = true) (hc : P.cellsOf t = fs.size) {fuel : Nat} {cs : List Value} {x : DataW H × List MemPlace} (h : DataW.trod enc P w 0 spare held fuel t cs = some x) (hw : ∀ n ∈ x.1.weights P t, n ≤ reachBytes) :
    cs.length = fs.size ∧ ∃ n, ∀ (i : Nat) (f : Field) (v : Value), fs[i]? = some f → cs[i]? = some v → ∃ y, DataW.trod enc P w 0 spare held n f.type [v] = some y ∧ ∀ n ∈ y.1.weights P f.type, n ≤ reachBytes := by
  have h1 : ∀ (i : Nat) (f : Field), fs[i]? = some f → f.offset = i ∧ P.cellsOf f.type = 1 := by
    intro i f hi
    have hlt : i < fs.size := (Array.getElem?_eq_some_iff.1 hi).1
    have := List.all_eq_true.1 h1' i (List.mem_range.2 hlt)
    rw [hi] at this
    simpa using this
  obtain ⟨xs, n, _, hxe, hl, hx, hf⟩ := DataW.trod_struct ht h
  refine ⟨hl.trans hc, n, fun i f v hi hv => ?_⟩
  have h2 := hf i f hi
  obtain ⟨ho, hc1⟩ := h1 i f hi
  have hlt : i < fs.size := (Array.getElem?_eq_some_iff.1 hi).1
  have hlc : i < cs.length := (List.getElem?_eq_some_iff.1 hv).1
  have hlx : i < xs.length := by omega
  rw [ho, hc1, List.drop_eq_getElem_cons hlc, List.take_succ_cons, List.take_zero, List.getElem?_eq_getElem hlx] at h2
  rw [List.getElem?_eq_getElem hlc] at hv
  obtain rfl := Option.some.inj hv
  refine ⟨_, h2, fun m hm => ?_⟩
  subst hxe
  unfold DataW.weights at hw
  simp only [ht] at hw
  refine hw m (pf_weightsEach (j := i) ?_ ?_ hm)
  · rw [List.getElem?_map, Array.getElem?_toList, hi]; rfl
  · rw [List.getElem?_map, List.getElem?_eq_getElem hlx]; rfl
end



def errW : Option Int → Value
  | none => .nilIface
  | some c => .iface 0 (.int .i64 c)
theorem errW_none : errW none = .nilIface := rfl
theorem errW_some (c : Int) : errW (some c) = .iface 0 (.int .i64 c) := rfl

theorem info3 : (Tryd.prog.info? 3).map (fun i => (i.zero, i.size, i.bytes)) = some (some (.int .i64 0), 1, 8) := by kernel_rfl
theorem info5 : (Tryd.prog.info? 5).map (fun i => (i.zero, i.size, i.bytes)) = some (some (.int .u8 0), 1, 1) := by kernel_rfl
theorem info9 : (Tryd.prog.info? 9).map (fun i => (i.zero, i.size, i.bytes)) = some (some (.string ⟨#[]⟩), 1, 16) := by kernel_rfl
-- the values' own types
def rd_L1 (xs : List (List Int)) (i : Int) : (List Int) := xs.getD i.toNat ([] : List Int)
theorem at_L1 {w : World} {A : Option Addr} {n : Nat} {xs : List (List Int)} (h : Kd.C (Kd.slice 3 (Kd.int .i64)) w A n xs) (i : Int) (h0 : 0 ≤ i) (h1 : i < n) : ∃ ad A0 c0, A = some ad ∧ w.cell? (ad.add i.toNat) = some (.slice A0 (rd_L1 xs i).length c0) ∧ (rd_L1 xs i).length ≤ c0 ∧ (Kd.int .i64).C w A0 (rd_L1 xs i).length (rd_L1 xs i) := by
  obtain ⟨ad, c, e, _, hK, hc0⟩ := Kd.C_get h ([] : List Int) i h0 h1
  have hc : ∀ j u, c[j]? = some u → w.cell? (ad.add (i.toNat * 1 + j)) = some u := hc0
  obtain ⟨A0, c0, rfl, l0, g0⟩ := hK
  exact ⟨ad, A0, c0, e, by have hq := hc 0 _ rfl; rwa [Nat.mul_one, Nat.add_zero] at hq, l0, g0⟩

/-! #### struct type 27 -/
structure S27 where
  f0 : Int
  f1 : Int
  f2 : Int
  f3 : (List Int)
def z27 : S27 := ⟨(0 : Int), (0 : Int), (0 : Int), ([] : List Int)⟩
def k27 : Kd S27 := Kd.iso (Kd.pair (Kd.int .i64) (Kd.pair (Kd.int .i64) (Kd.pair (Kd.int .i64) (Kd.slice 3 (Kd.int .i64))))) (fun x : S27 => (x.f0, x.f1, x.f2, x.f3))
theorem k27_open {w : World} {x : S27} {cs : List Value} (h : k27.K w x cs) : ∃ A3 c3, cs = [.int .i64 x.f0, .int .i64 x.f1, .int .i64 x.f2, .slice A3 x.f3.length c3] ∧ x.f3.length ≤ c3 ∧ (Kd.int .i64).C w A3 x.f3.length x.f3 := by
  obtain ⟨_, _, rfl, rfl, ⟨_, _, rfl, rfl, ⟨_, _, rfl, rfl, ⟨A3, c3, rfl, l3, g3⟩⟩⟩⟩ := h
  exact ⟨A3, c3, rfl, l3, g3⟩
theorem k27_openM {w : World} {base : Nat} {ok : Nat → Prop} {x : S27} {cs : List Value} (h : k27.M w base ok x cs) : ∃ v3, cs = [.int .i64 x.f0, .int .i64 x.f1, .int .i64 x.f2, v3] ∧ (Kd.int .i64).R 3 w base ok v3 x.f3 := by
  obtain ⟨_, _, rfl, rfl, ⟨_, _, rfl, rfl, ⟨_, _, rfl, rfl, ⟨v3, rfl, g3⟩⟩⟩⟩ := h
  exact ⟨v3, rfl, g3⟩
theorem k27_mk (w : World) (x : S27) {A3 : Option Addr} {c3 : Nat} (l3 : x.f3.length ≤ c3) (g3 : (Kd.int .i64).C w A3 x.f3.length x.f3) : k27.K w x [.int .i64 x.f0, .int .i64 x.f1, .int .i64 x.f2, .slice A3 x.f3.length c3] := ⟨[.int .i64 x.f0], [.int .i64 x.f1, .int .i64 x.f2, .slice A3 x.f3.length c3], rfl, rfl, ⟨[.int .i64 x.f1], [.int .i64 x.f2, .slice A3 x.f3.length c3], rfl, rfl, ⟨[.int .i64 x.f2], [.slice A3 x.f3.length c3], rfl, rfl, ⟨A3, c3, rfl, l3, g3⟩⟩⟩⟩
theorem k27_mkM (w : World) (base : Nat) (ok : Nat → Prop) (x : S27) {v3 : Value} (g3 : (Kd.int .i64).R 3 w base ok v3 x.f3) : k27.M w base ok x [.int .i64 x.f0, .int .i64 x.f1, .int .i64 x.f2, v3] := ⟨[.int .i64 x.f0], [.int .i64 x.f1, .int .i64 x.f2, v3], rfl, rfl, ⟨[.int .i64 x.f1], [.int .i64 x.f2, v3], rfl, rfl, ⟨[.int .i64 x.f2], [v3], rfl, rfl, ⟨v3, rfl, g3⟩⟩⟩⟩
def rd_T27 (xs : List S27) (i : Int) : S27 := xs.getD i.toNat z27
theorem at_T27 {w : World} {A : Option Addr} {n : Nat} {xs : List S27} (h : Kd.C k27 w A n xs) (i : Int) (h0 : 0 ≤ i) (h1 : i < n) : ∃ ad A3 c3, A = some ad ∧ w.cell? (ad.add (i.toNat * 4)) = some (.int .i64 (rd_T27 xs i).f0) ∧ w.cell? ⟨(ad.add (i.toNat * 4)).block, (ad.add (i.toNat * 4)).off + 1, none⟩ = some (.int .i64 (rd_T27 xs i).f1) ∧ w.cell? ⟨(ad.add (i.toNat * 4)).block, (ad.add (i.toNat * 4)).off + 2, none⟩ = some (.int .i64 (rd_T27 xs i).f2) ∧ w.cell? ⟨(ad.add (i.toNat * 4)).block, (ad.add (i.toNat * 4)).off + 3, none⟩ = some (.slice A3 (rd_T27 xs i).f3.length c3) ∧ (rd_T27 xs i).f3.length ≤ c3 ∧ (Kd.int .i64).C w A3 (rd_T27 xs i).f3.length (rd_T27 xs i).f3 := by
  obtain ⟨ad, c, e, _, hK, hc0⟩ := Kd.C_get h z27 i h0 h1
  have hc : ∀ j u, c[j]? = some u → w.cell? (ad.add (i.toNat * 4 + j)) = some u := hc0
  obtain ⟨A3, c3, rfl, l3, g3⟩ := k27_open hK
  exact ⟨ad, A3, c3, e, hc 0 _ rfl, by rw [← add_field _ _ 1 (by omega)]; exact hc 1 _ rfl, by rw [← add_field _ _ 2 (by omega)]; exact hc 2 _ rfl, by rw [← add_field _ _ 3 (by omega)]; exact hc 3 _ rfl, l3, g3⟩

def rd_L4 (xs : List (List Int)) (i : Int) : (List Int) := xs.getD i.toNat ([] : List Int)
theorem at_L4 {w : World} {A : Option Addr} {n : Nat} {xs : List (List Int)} (h : Kd.C (Kd.slice 5 (Kd.int .u8)) w A n xs) (i : Int) (h0 : 0 ≤ i) (h1 : i < n) : ∃ ad A0 c0, A = some ad ∧ w.cell? (ad.add i.toNat) = some (.slice A0 (rd_L4 xs i).length c0) ∧ (rd_L4 xs i).length ≤ c0 ∧ (Kd.int .u8).C w A0 (rd_L4 xs i).length (rd_L4 xs i) := by
  obtain ⟨ad, c, e, _, hK, hc0⟩ := Kd.C_get h ([] : List Int) i h0 h1
  have hc : ∀ j u, c[j]? = some u → w.cell? (ad.add (i.toNat * 1 + j)) = some u := hc0
  obtain ⟨A0, c0, rfl, l0, g0⟩ := hK
  exact ⟨ad, A0, c0, e, by have hq := hc 0 _ rfl; rwa [Nat.mul_one, Nat.add_zero] at hq, l0, g0⟩

def rd_L6 (xs : List (List ByteArray)) (i : Int) : (List ByteArray) := xs.getD i.toNat ([] : List ByteArray)
theorem at_L6 {w : World} {A : Option Addr} {n : Nat} {xs : List (List ByteArray)} (h : Kd.C (Kd.slice 9 Kd.string) w A n xs) (i : Int) (h0 : 0 ≤ i) (h1 : i < n) : ∃ ad A0 c0, A = some ad ∧ w.cell? (ad.add i.toNat) = some (.slice A0 (rd_L6 xs i).length c0) ∧ (rd_L6 xs i).length ≤ c0 ∧ Kd.string.C w A0 (rd_L6 xs i).length (rd_L6 xs i) := by
  obtain ⟨ad, c, e, _, hK, hc0⟩ := Kd.C_get h ([] : List ByteArray) i h0 h1
  have hc : ∀ j u, c[j]? = some u → w.cell? (ad.add (i.toNat * 1 + j)) = some u := hc0
  obtain ⟨A0, c0, rfl, l0, g0⟩ := hK
  exact ⟨ad, A0, c0, e, by have hq := hc 0 _ rfl; rwa [Nat.mul_one, Nat.add_zero] at hq, l0, g0⟩

end Go.Proofs.YtclkdnpfiolahaaDoor.PEventBack
