/- A stamp's bytes are read as the stamp, behind whatever stands ahead of them: no condition. -/
import Derived.Test.YtklblahjihjlpaaPStampBackx3
set_option linter.unusedVariables false
set_option linter.unusedSimpArgs false
namespace Go.Proofs.Ytklblahjihjlpaa.Pure
open Go.RowKit Go.Proofs.Ytklblahjihjlpaa.PStampBack Go.Proofs.YtklblahjihjlpaaW.PrintWords Go.Proofs.YtklblahjihjlpaaW.PrintLast Go.Proofs.YtklblahjihjlpaaW.PrintMore

/-! ### Bytes -/
def isB (l : List Int) : Prop := ∀ x ∈ l, 0 ≤ x ∧ x < 256
theorem isB_of_wf {l : List Int} (h : ∀ x ∈ l, (Lit.int .u8 x).wf = true) : isB l := by
  intro x hx
  have := h x hx
  simp [Lit.wf, IntKind.min, IntKind.max, IntKind.bits, IntKind.signed] at this
  omega
theorem i64_of_wf {x : Int} (h : (Lit.int .i64 x).wf = true) : -9223372036854775808 ≤ x ∧ x ≤ 9223372036854775807 := by
  simp [Lit.wf, IntKind.min, IntKind.max, IntKind.bits, IntKind.signed] at h
  omega
theorem toList_loop (s : ByteArray) : ∀ (d i : Nat) (r : List UInt8), s.size - i = d → ByteArray.toList.loop s i r = r.reverse ++ s.data.toList.drop i := by
  intro d
  have hl : s.data.toList.length = s.size := Array.length_toList
  induction d with
  | zero =>
    intro i r h
    unfold ByteArray.toList.loop
    rw [if_neg (by omega), List.drop_eq_nil_of_le (by omega), List.append_nil]
  | succ d ih =>
    intro i r h
    unfold ByteArray.toList.loop
    rw [if_pos (by omega), ih (i + 1) _ (by omega)]
    have hi : i < s.data.toList.length := by omega
    rw [List.drop_eq_getElem_cons hi, List.reverse_cons, List.append_assoc]
    have : s.get! i = s.data.toList[i] := by
      have hs : i < s.size := by omega
      simp [ByteArray.get!, getElem!_pos, hs]
    rw [this]; rfl
theorem bytes_toList (s : ByteArray) : s.toList = s.data.toList := by
  unfold ByteArray.toList
  rw [toList_loop s _ 0 [] rfl]
  simp
theorem bytes_ext {a b : ByteArray} (h : a.toList = b.toList) : a = b := by
  rw [bytes_toList, bytes_toList] at h
  cases a; cases b
  congr 1
  exact Array.toList_inj.1 h
theorem son_data (xs : List Int) : (strOfNums xs).data.toList = xs.map fun n => UInt8.ofNat n.toNat := by simp [strOfNums]
theorem son_size (xs : List Int) : (strOfNums xs).size = xs.length := by simp [strOfNums, ByteArray.size]
theorem son_append (xs ys : List Int) : strOfNums (xs ++ ys) = strOfNums xs ++ strOfNums ys := by
  apply bytes_ext
  rw [bytes_toList, bytes_toList, son_data]
  simp [strOfNums]
theorem son_nil : strOfNums [] = (⟨#[]⟩ : ByteArray) := rfl
theorem u8_inj {a b : Int} (ha : 0 ≤ a ∧ a < 256) (hb : 0 ≤ b ∧ b < 256) (h : UInt8.ofNat a.toNat = UInt8.ofNat b.toNat) : a = b := by
  have := congrArg UInt8.toNat h
  simp [UInt8.toNat_ofNat'] at this
  omega
theorem map_u8_inj : ∀ {xs ys : List Int}, isB xs → isB ys → (xs.map fun n => UInt8.ofNat n.toNat) = (ys.map fun n => UInt8.ofNat n.toNat) → xs = ys
  | [], [], _, _, _ => rfl
  | [], y :: ys, _, _, h => by simp at h
  | x :: xs, [], _, _, h => by simp at h
  | x :: xs, y :: ys, hx, hy, h => by
    simp only [List.map_cons, List.cons.injEq] at h
    rw [u8_inj (hx x (by simp)) (hy y (by simp)) h.1, map_u8_inj (fun z hz => hx z (by simp [hz])) (fun z hz => hy z (by simp [hz])) h.2]
theorem son_inj {xs ys : List Int} (hx : isB xs) (hy : isB ys) (h : strOfNums xs = strOfNums ys) : xs = ys := by
  have := congrArg (fun s : ByteArray => s.data.toList) h
  simp only [son_data] at this
  exact map_u8_inj hx hy this
theorem son_toList_inj {xs ys : List Int} (hx : isB xs) (hy : isB ys) : (strOfNums xs).toList = (strOfNums ys).toList ↔ xs = ys :=
  ⟨fun h => son_inj hx hy (bytes_ext h), fun h => by rw [h]⟩
theorem son_bt {xs : List Int} (hx : isB xs) (i : Int) (h0 : 0 ≤ i) (h : i < xs.length) : bt (strOfNums xs) i = rd xs i := by
  have hi : i.toNat < xs.length := by omega
  unfold bt rd
  rw [dif_pos (by rw [son_size]; exact hi)]
  have hg : (strOfNums xs)[i.toNat]'(by rw [son_size]; exact hi) = UInt8.ofNat (xs[i.toNat]).toNat := by
    show (strOfNums xs).data[i.toNat]'_ = _
    simp [strOfNums]
  rw [hg, List.getD_eq_getElem?_getD, List.getElem?_eq_getElem hi]
  have := hx _ (List.getElem_mem hi)
  simp [UInt8.toNat_ofNat']
  omega
theorem son_extract (xs : List Int) (a b : Nat) : (strOfNums xs).extract a b = strOfNums ((xs.take b).drop a) := by
  apply bytes_ext
  rw [bytes_toList, bytes_toList, son_data]
  simp [strOfNums, ByteArray.data_extract, List.drop_take, List.map_take, List.map_drop, List.extract]
theorem isB_append {xs ys : List Int} (hx : isB xs) (hy : isB ys) : isB (xs ++ ys) := by
  intro z hz
  rcases List.mem_append.1 hz with h | h
  · exact hx z h
  · exact hy z h
theorem isB_take {xs : List Int} (h : isB xs) (n : Nat) : isB (xs.take n) := fun z hz => h z (List.mem_of_mem_take hz)
theorem isB_drop {xs : List Int} (h : isB xs) (n : Nat) : isB (xs.drop n) := fun z hz => h z (List.mem_of_mem_drop hz)
theorem rd_at {xs : List Int} (i : Int) (h0 : 0 ≤ i) (h : i < xs.length) : rd xs i = xs[i.toNat]'(by omega) := by
  unfold rd
  rw [List.getD_eq_getElem?_getD, List.getElem?_eq_getElem (by omega)]; rfl
theorem rd_isB {xs : List Int} (hx : isB xs) (i : Int) (h0 : 0 ≤ i) (h : i < xs.length) : 0 ≤ rd xs i ∧ rd xs i < 256 := by
  rw [rd_at i h0 h]
  exact hx _ (List.getElem_mem _)
theorem w64 {x : Int} (h : -9223372036854775808 ≤ x ∧ x ≤ 9223372036854775807) : wrap64 x = x := by
  unfold wrap64
  omega

/-! ### Numbers alike -/
theorem Same_loop (a b : List Int) (hl : a.length = b.length) (ha : a.length ≤ 1152921504606846976) : ∀ (d k i : Nat), i + d = a.length → d < k → argosyref01_Same.l0 k a b (i : Int) = some (decide (a.drop i = b.drop i)) := by
  intro d
  induction d with
  | zero =>
    intro k i hi hk
    obtain ⟨k, rfl⟩ : ∃ m, k = m + 1 := ⟨k - 1, by omega⟩
    simp only [argosyref01_Same.l0]
    rw [if_neg (by omega), List.drop_eq_nil_of_le (by omega), List.drop_eq_nil_of_le (by omega)]
    simp
  | succ d ih =>
    intro k i hi hk
    obtain ⟨k, rfl⟩ : ∃ m, k = m + 1 := ⟨k - 1, by omega⟩
    simp only [argosyref01_Same.l0]
    have h1 : i < a.length := by omega
    have h2 : i < b.length := by omega
    have hra : rd a (i : Int) = a[i] := by rw [rd_at _ (by omega) (by omega)]; rfl
    have hrb : rd b (i : Int) = b[i] := by rw [rd_at _ (by omega) (by omega)]; rfl
    rw [if_pos (by omega), if_pos (by omega), if_pos (by omega), hra, hrb, List.drop_eq_getElem_cons h1, List.drop_eq_getElem_cons h2]
    by_cases h : a[i] = b[i]
    · rw [if_pos h, w64 (by omega), show ((i : Int) + 1) = ((i + 1 : Nat) : Int) from by omega, ih k (i + 1) (by omega) (by omega)]
      rw [h]
      congr 1
      rw [decide_eq_decide]
      simp only [List.cons.injEq, true_and]
    · rw [if_neg h, decide_eq_false]
      simp only [List.cons.injEq]
      exact fun hc => h hc.1
theorem Same_is {k : Nat} {a b : List Int} (ha : a.length ≤ 1152921504606846976) (hk : a.length < k) : argosyref01_Same.f k a b = some (decide (a = b)) := by
  unfold argosyref01_Same.f
  by_cases hl : a.length = b.length
  · rw [if_pos (by omega)]
    have := Same_loop a b hl ha a.length k 0 (by omega) hk
    simpa using this
  · rw [if_neg (by omega)]
    have : a ≠ b := fun h => hl (by rw [h])
    simp [this]

/-! ### Stamps -/
theorem atS_nat (l : List Int) (j : Nat) : atS l (j : Int) = l.getD j 0 := by
  unfold atS
  by_cases h : j < l.length
  · rw [if_pos (by omega)]; unfold rd; simp
  · rw [if_neg (by omega), List.getD_eq_getElem?_getD, List.getElem?_eq_none (by omega)]; rfl
theorem lenS_comm (a b : List Int) : lenS a b = lenS b a := by unfold lenS; split <;> split <;> omega
theorem lenS_le {a b : List Int} {n : Nat} (ha : a.length ≤ n) (hb : b.length ≤ n) : lenS a b ≤ n := by unfold lenS; split <;> omega
theorem le_lenS (a b : List Int) : a.length ≤ lenS a b ∧ b.length ≤ lenS a b := by unfold lenS; split <;> omega
theorem lenS_lt {a b : List Int} {i : Nat} : i < lenS a b ↔ i < a.length ∨ i < b.length := by unfold lenS; split <;> omega
def lessT (t : Int × Int × Int) : Bool := decide (t.2.1 < t.2.2)
def moreT (t : Int × Int × Int) : Bool := decide (t.2.2 < t.2.1)
def lessS (a b : List Int) : Bool := (upto a b (lenS a b)).any lessT
def moreS (a b : List Int) : Bool := (upto a b (lenS a b)).any moreT
def encR (l m : Bool) : Int := if m then (if l then 3 else 2) else (if l then 1 else 0)
theorem rankF_enc (l m : Bool) (t : Int × Int × Int) : rankF (encR l m) t = encR (l || lessT t) (m || moreT t) := by
  unfold rankF
  by_cases h1 : t.2.1 < t.2.2
  · have h2 : ¬ t.2.2 < t.2.1 := by omega
    rw [if_pos h1]
    have e1 : lessT t = true := decide_eq_true h1
    have e2 : moreT t = false := decide_eq_false h2
    rw [e1, e2]
    cases l <;> cases m <;> decide +kernel
  · have e1 : lessT t = false := decide_eq_false h1
    rw [if_neg h1, e1]
    by_cases h2 : t.2.2 < t.2.1
    · have e2 : moreT t = true := decide_eq_true h2
      rw [if_pos h2, e2]
      cases l <;> cases m <;> decide +kernel
    · have e2 : moreT t = false := decide_eq_false h2
      rw [if_neg h2, e2]
      cases l <;> cases m <;> rfl
theorem rankW_gen (L : List (Int × Int × Int)) : ∀ l m : Bool, L.foldl rankF (encR l m) = encR (l || L.any lessT) (m || L.any moreT) := by
  induction L with
  | nil => intro l m; simp
  | cons t L ih => intro l m; rw [List.foldl_cons, rankF_enc, ih]; simp [Bool.or_assoc]
theorem rankW_is (a b : List Int) : rankW (upto a b (lenS a b)) = encR (lessS a b) (moreS a b) := by
  have := rankW_gen (upto a b (lenS a b)) false false
  simp only [Bool.false_or] at this
  exact this
theorem Rank_is {a b : List Int} (ha : a.length ≤ 1000000) (hb : b.length ≤ 1000000) : stamp_Rank.f a b = some (encR (lessS a b) (moreS a b)) := by
  unfold stamp_Rank.f
  rw [if_pos ⟨ha, hb⟩, rankW_is]
theorem any_upto (a b : List Int) (N : Nat) (p : Int × Int × Int → Bool) : (upto a b N).any p = true ↔ ∃ j, j < N ∧ p (trip a b j) = true := by
  unfold upto
  rw [List.any_eq_true]
  constructor
  · rintro ⟨x, hx, hp⟩
    obtain ⟨j, hj, rfl⟩ := List.mem_map.1 hx
    exact ⟨j, List.mem_range.1 hj, hp⟩
  · rintro ⟨j, hj, hp⟩
    exact ⟨_, List.mem_map.2 ⟨j, List.mem_range.2 hj, rfl⟩, hp⟩
theorem lessS_iff (a b : List Int) : lessS a b = true ↔ ∃ j, a.getD j 0 < b.getD j 0 := by
  unfold lessS
  rw [any_upto]
  constructor
  · rintro ⟨j, _, h⟩
    refine ⟨j, ?_⟩
    have := of_decide_eq_true h
    simpa only [trip, atS_nat] using this
  · rintro ⟨j, h⟩
    refine ⟨j, ?_, ?_⟩
    · by_cases hj : j < lenS a b
      · exact hj
      · have := le_lenS a b
        rw [List.getD_eq_getElem?_getD, List.getD_eq_getElem?_getD, List.getElem?_eq_none (by omega), List.getElem?_eq_none (by omega)] at h
        simp at h
    · unfold lessT
      simp only [trip, atS_nat]
      exact decide_eq_true h
theorem moreS_iff (a b : List Int) : moreS a b = true ↔ ∃ j, b.getD j 0 < a.getD j 0 := by
  unfold moreS
  rw [any_upto]
  constructor
  · rintro ⟨j, _, h⟩
    refine ⟨j, ?_⟩
    have := of_decide_eq_true h
    simpa only [trip, atS_nat] using this
  · rintro ⟨j, h⟩
    refine ⟨j, ?_, ?_⟩
    · by_cases hj : j < lenS a b
      · exact hj
      · have := le_lenS a b
        rw [List.getD_eq_getElem?_getD, List.getD_eq_getElem?_getD, List.getElem?_eq_none (by omega), List.getElem?_eq_none (by omega)] at h
        simp at h
    · unfold moreT
      simp only [trip, atS_nat]
      exact decide_eq_true h
theorem bool_ext {p q : Bool} (h : p = true ↔ q = true) : p = q := by cases p <;> cases q <;> simp_all
theorem moreS_swap (a b : List Int) : moreS a b = lessS b a := bool_ext (by rw [moreS_iff, lessS_iff])
theorem few_is (l : List Int) : argosylaw09_few.f l = some (decide (l.length ≤ 300)) := by
  unfold argosylaw09_few.f
  congr 1
  rw [decide_eq_decide]
  omega
theorem Check_is {l : List Int} (h : l.length ≤ 1000000) : stamp_Check.f l = some (if chkS l = true then 2 else 0) := by unfold stamp_Check.f; rw [if_pos h]
theorem Clone_is {l : List Int} (h : l.length ≤ 1000000) : slices_Clone_int_int.f l = some l := by unfold slices_Clone_int_int.f; rw [if_pos (by omega)]
theorem Next_is {a b : List Int} (i : Int) (ha : a.length ≤ 1000000) (hb : b.length ≤ 1000000) : stamp_Next.f a b i = some (nextS a b i) := by unfold stamp_Next.f; rw [if_pos ⟨ha, hb⟩]
theorem Join_is {a b : List Int} (ha : a.length ≤ 1000000) (hb : b.length ≤ 1000000) : stamp_Join.f a b = some (joinW (upto a b (lenS a b))) := by unfold stamp_Join.f; rw [if_pos ⟨ha, hb⟩]
def tickS (l : List Int) (i : Int) : List Int × Int := if chkS l = true ∨ i < 0 ∨ i ≥ l.length ∨ rd l i = 1099511627776 then ([], 2) else (l.set i.toNat (wrap64 (rd l i + 1)), 0)
theorem Tick_is {l : List Int} (i : Int) (h : l.length ≤ 1000000) : stamp_Tick.f l i = some (tickS l i) := by
  unfold stamp_Tick.f tickS
  rw [Check_is h, Option.bind_some]
  by_cases hc : chkS l = true
  · rw [if_pos hc, if_neg (by decide), if_pos (.inl hc)]
  · rw [if_neg hc, if_pos rfl]
    by_cases h1 : i < 0
    · rw [if_pos h1, if_pos (.inr (.inl h1))]
    · rw [if_neg h1]
      by_cases h2 : i ≥ l.length
      · rw [if_pos h2, if_pos (.inr (.inr (.inl h2)))]
      · rw [if_neg h2, if_pos (by omega), if_pos (by omega)]
        by_cases h3 : rd l i = 1099511627776
        · rw [if_pos h3, if_pos (.inr (.inr (.inr h3)))]
        · rw [if_neg h3, Clone_is h, Option.bind_some, if_pos (by omega), if_neg (by rintro (q | q | q | q) <;> contradiction)]
theorem Same_of {k : Nat} {a b : List Int} (ha : a.length ≤ 1000000) (hk : 1000001 ≤ k) : argosyref01_Same.f k a b = some (decide (a = b)) := Same_is (by omega) (by omega)
theorem lives_is {k : Nat} (hk : 1000001 ≤ k) : argosylaw09_lives.f k = some true := by
  unfold argosylaw09_lives.f
  have t1 : stamp_Tick.f ([1, 2] : List Int) 0 = some ([2, 2], 0) := by decide +kernel
  have t2 : stamp_Rank.f ([1, 2] : List Int) [1, 3] = some 1 := by decide +kernel
  have t3 : stamp_Rank.f ([1, 2] : List Int) [2, 1] = some 3 := by decide +kernel
  have t4 : stamp_Rank.f ([1] : List Int) [1, 0] = some 0 := by decide +kernel
  have t5 : stamp_Join.f ([1, 5] : List Int) [2, 3] = some [2, 5] := by decide +kernel
  have t6 : stamp_Next.f ([1, 2] : List Int) [2, 1] 0 = some true := by decide +kernel
  have t7 : stamp_Next.f ([1, 2] : List Int) [2, 3] 0 = some false := by decide +kernel
  have s1 := Same_of (k := k) (a := [2, 5]) (b := [2, 5]) (by simp) hk
  have s2 := Same_of (k := k) (a := [2, 2]) (b := [2, 2]) (by simp) hk
  rw [t1, Option.bind_some, t2, Option.bind_some, if_pos rfl, t3, Option.bind_some, if_pos rfl, t4, Option.bind_some, if_pos rfl, t5, Option.bind_some, s1, Option.bind_some, if_pos (by decide)]
  dsimp only
  rw [s2, Option.bind_some, if_pos (by decide), if_pos rfl, t6, Option.bind_some, if_pos rfl, t7, Option.bind_some, if_neg (by decide)]

/-! ### Next, ticks -/
theorem chkS_iff (l : List Int) : chkS l = false ↔ 1 ≤ l.length ∧ l.length ≤ 64 ∧ ∀ x ∈ l, 0 ≤ x ∧ x ≤ 1099511627776 := by
  unfold chkS
  simp only [Bool.or_eq_false_iff, decide_eq_false_iff_not, List.any_eq_false]
  constructor
  · rintro ⟨⟨h1, h2⟩, h3⟩
    refine ⟨by omega, by omega, fun x hx => ?_⟩
    have := h3 x hx
    unfold badS at this
    simp at this
    omega
  · rintro ⟨h1, h2, h3⟩
    refine ⟨⟨by omega, by omega⟩, fun x hx => ?_⟩
    have := h3 x hx
    unfold badS
    simp
    omega
theorem allB_iff (i : Int) (a b : List Int) : allB i (upto a b (lenS a b)) = true ↔ ∀ j : Nat, (j : Int) = i ∨ b.getD j 0 ≤ a.getD j 0 := by
  unfold allB upto
  rw [List.all_eq_true]
  constructor
  · intro h j
    by_cases hj : j < lenS a b
    · have := h _ (List.mem_map.2 ⟨j, List.mem_range.2 hj, rfl⟩)
      unfold holdsS at this
      simpa only [trip, atS_nat, Bool.or_eq_true, decide_eq_true_eq] using this
    · have := le_lenS a b
      rw [List.getD_eq_getElem?_getD, List.getD_eq_getElem?_getD, List.getElem?_eq_none (by omega), List.getElem?_eq_none (by omega)]
      exact .inr (Int.le_refl _)
  · intro h x hx
    obtain ⟨j, hj, rfl⟩ := List.mem_map.1 hx
    have := h j
    unfold holdsS
    simpa only [trip, atS_nat, Bool.or_eq_true, decide_eq_true_eq] using this
theorem nextS_iff (a b : List Int) (i : Int) : nextS a b i = true ↔ 0 ≤ i ∧ atS a i ≠ 9223372036854775807 ∧ atS b i = wrap64 (atS a i + 1) ∧ ∀ j : Nat, (j : Int) = i ∨ b.getD j 0 ≤ a.getD j 0 := by
  unfold nextS
  by_cases h : i < 0 ∨ atS a i = 9223372036854775807 ∨ atS b i ≠ wrap64 (atS a i + 1)
  · rw [if_pos h]
    constructor
    · intro h; cases h
    · rintro ⟨h1, h2, h3, _⟩
      rcases h with h | h | h
      · omega
      · exact absurd h h2
      · exact absurd h3 h
  · rw [if_neg h, allB_iff]
    constructor
    · intro h4
      refine ⟨?_, fun h2 => h (.inr (.inl h2)), ?_, h4⟩
      · by_cases h0 : i < 0
        · exact absurd (.inl h0) h
        · omega
      · by_cases h3 : atS b i = wrap64 (atS a i + 1)
        · exact h3
        · exact absurd (.inr (.inr h3)) h
    · exact fun h => h.2.2.2
theorem wrap_ne (x : Int) : x ≠ wrap64 (x + 1) := by unfold wrap64; omega
theorem tickS_err {l : List Int} {i : Int} (h : (tickS l i).2 ≠ 0) : tickS l i = ([], 2) := by
  unfold tickS at h ⊢
  split
  · rfl
  · rename_i hc; rw [if_neg hc] at h; exact absurd rfl h
theorem tickS_ok {l : List Int} {i : Int} (h : (tickS l i).2 = 0) : ∃ n : Nat, i = (n : Int) ∧ n < l.length ∧ l.length ≤ 64 ∧ 0 ≤ l.getD n 0 ∧ l.getD n 0 < 1099511627776 ∧ (tickS l i) = (l.set n (l.getD n 0 + 1), 0) := by
  unfold tickS at h ⊢
  by_cases hc : chkS l = true ∨ i < 0 ∨ i ≥ l.length ∨ rd l i = 1099511627776
  · rw [if_pos hc] at h; cases h
  · rw [if_neg hc]
    have c1 : chkS l = false := by cases hb : chkS l with
      | true => exact absurd (.inl hb) hc
      | false => rfl
    have c2 : ¬ i < 0 := fun q => hc (.inr (.inl q))
    have c3 : ¬ i ≥ l.length := fun q => hc (.inr (.inr (.inl q)))
    have c4 : ¬ rd l i = 1099511627776 := fun q => hc (.inr (.inr (.inr q)))
    obtain ⟨k1, k2, k3⟩ := (chkS_iff l).1 c1
    obtain ⟨n, rfl⟩ : ∃ n : Nat, i = (n : Int) := ⟨i.toNat, by omega⟩
    have hn : n < l.length := by omega
    have e : rd l (n : Int) = l.getD n 0 := by unfold rd; simp
    have hm : l.getD n 0 ∈ l := by
      rw [List.getD_eq_getElem?_getD, List.getElem?_eq_getElem hn]
      exact List.getElem_mem hn
    have hb := k3 _ hm
    rw [e] at c4 ⊢
    refine ⟨n, rfl, hn, k2, hb.1, by omega, ?_⟩
    rw [Int.toNat_natCast, w64 (by omega)]
theorem set_getD (l : List Int) (n j : Nat) (v : Int) (hn : n < l.length) : (l.set n v).getD j 0 = if j = n then v else l.getD j 0 := by
  rw [List.getD_eq_getElem?_getD, List.getD_eq_getElem?_getD, List.getElem?_set]
  by_cases h : n = j
  · subst h; simp [hn]
  · rw [if_neg h, if_neg (fun q => h q.symm)]

/-! ### Numbers as few bytes -/
def enc (n : Nat) : List Int := if n < 128 then [(n : Int)] else ((128 + n % 128 : Nat) : Int) :: enc (n / 128)
termination_by n
decreasing_by omega
theorem enc_lt {n : Nat} (h : n < 128) : enc n = [(n : Int)] := by rw [enc, if_pos h]
theorem enc_ge {n : Nat} (h : ¬ n < 128) : enc n = ((128 + n % 128 : Nat) : Int) :: enc (n / 128) := by rw [enc, if_neg h]
theorem enc_isB (n : Nat) : isB (enc n) := by
  induction n using Nat.strongRecOn with
  | _ n ih =>
    by_cases h : n < 128
    · rw [enc_lt h]
      intro x hx
      simp at hx
      omega
    · rw [enc_ge h]
      intro x hx
      rcases List.mem_cons.1 hx with rfl | hx
      · omega
      · exact ih (n / 128) (by omega) x hx
theorem enc_len : ∀ (d n : Nat), n < 128 ^ (d + 1) → 1 ≤ (enc n).length ∧ (enc n).length ≤ d + 1
  | 0, n, h => by rw [enc_lt (by simpa using h)]; simp
  | d + 1, n, h => by
    by_cases hn : n < 128
    · rw [enc_lt hn]; simp
    · rw [enc_ge hn]
      have := enc_len d (n / 128) (by rw [Nat.pow_succ] at h; omega)
      simp; omega
theorem enc_small {n : Nat} (h : n ≤ 1099511627776) : 1 ≤ (enc n).length ∧ (enc n).length ≤ 6 := enc_len 5 n (by omega)
theorem enc_zero : ∀ (n : Nat) (q : List Int), enc n = q ++ [0] → q = [] := by
  intro n
  induction n using Nat.strongRecOn with
  | _ n ih =>
    intro q h
    by_cases hn : n < 128
    · rw [enc_lt hn] at h
      cases q with
      | nil => rfl
      | cons x q => simp at h
    · rw [enc_ge hn] at h
      cases q with
      | nil => rfl
      | cons x q =>
        simp only [List.cons_append, List.cons.injEq] at h
        have hq := ih (n / 128) (by omega) q h.2
        subst hq
        have h2 := h.2
        by_cases hm : n / 128 < 128
        · rw [enc_lt hm] at h2
          simp at h2
          omega
        · rw [enc_ge hm] at h2
          have hl := (enc_len (n / 128) (n / 128 / 128) (Nat.lt_of_lt_of_le (Nat.lt_pow_self (by omega)) (Nat.pow_le_pow_right (by omega) (by omega)))).1
          simp at h2
          rw [h2.2] at hl
          simp at hl
def valI : List Int → Int
  | [] => 0
  | c :: r => c % 128 + 128 * valI r
theorem valI_snoc : ∀ (p : List Int) (c : Int), valI (p ++ [c]) = valI p + (c % 128) * 128 ^ p.length
  | [], c => by simp [valI]
  | x :: p, c => by
    simp only [List.cons_append, valI, valI_snoc p c, List.length_cons, Int.pow_succ, Int.mul_add]
    rw [Int.add_assoc]
    congr 2
    rw [← Int.mul_assoc, Int.mul_comm 128 (c % 128), Int.mul_assoc, Int.mul_comm 128]
theorem valI_nonneg : ∀ p : List Int, 0 ≤ valI p
  | [] => Int.le_refl _
  | x :: p => by have := valI_nonneg p; simp only [valI]; omega
theorem enc_valI : ∀ (p : List Int) (c : Int), (∀ x ∈ p, 128 ≤ x ∧ x < 256) → 0 ≤ c → c < 128 → (p = [] ∨ 0 < c) → enc (valI (p ++ [c])).toNat = p ++ [c] ∧ (0 < c → 0 < valI (p ++ [c]))
  | [], c, _, h0, h1, _ => by
    have : valI ([] ++ [c]) = c := by simp [valI]; omega
    rw [this, enc_lt (by omega)]
    exact ⟨by simp; omega, fun h => h⟩
  | x :: p, c, hp, h0, h1, hc => by
    have hc' : 0 < c := by rcases hc with h | h; · cases h
                           · exact h
    have ih := enc_valI p c (fun z hz => hp z (by simp [hz])) h0 h1 (.inr hc')
    have hpos := ih.2 hc'
    have hx := hp x (by simp)
    have hv : valI (x :: p ++ [c]) = x % 128 + 128 * valI (p ++ [c]) := rfl
    have hge : ¬ (valI (x :: p ++ [c])).toNat < 128 := by rw [hv]; omega
    refine ⟨?_, fun _ => by rw [hv]; omega⟩
    rw [enc_ge hge]
    have h2 : (valI (x :: p ++ [c])).toNat / 128 = (valI (p ++ [c])).toNat := by rw [hv]; omega
    rw [h2, ih.1]
    simp only [List.cons_append, List.cons.injEq, and_true]
    have h3 : (valI (x :: p ++ [c])).toNat % 128 = (x % 128).toNat := by rw [hv]; omega
    rw [List.cons_append] at h3
    rw [h3]
    omega
theorem wraps_i64 (n : Int) (h0 : 0 ≤ n) (h1 : n < 2 ^ 62) : IntKind.i64.wrap n = n := by rw [IntKind.wrap_i64]; omega
theorem and127 {x : Int} (h0 : 0 ≤ x) (h1 : x < 2 ^ 62) : Go.bits .and .i64 x 127 = x % 128 := bits_mask .i64 62 (by decide) wraps_i64 7 (by decide) x h0 h1
theorem or_flip {x y : Int} (hx : 0 ≤ x ∧ x < 2 ^ 62) (hy : 0 ≤ y ∧ y < 2 ^ 62) : Go.bits .or .i64 x y = Go.bits .or .i64 y x := by
  obtain ⟨a, rfl⟩ := Int.eq_ofNat_of_zero_le hx.1
  obtain ⟨b, rfl⟩ := Int.eq_ofNat_of_zero_le hy.1
  have ha : a < 2 ^ 62 := by exact_mod_cast hx.2
  have hb : b < 2 ^ 62 := by exact_mod_cast hy.2
  have h1 := bits_nat .i64 62 (by decide) wraps_i64 a b ha hb
  have h2 := bits_nat .i64 62 (by decide) wraps_i64 b a hb ha
  rw [h1.2, h2.2, Nat.or_comm]
theorem or128 {y : Int} (h0 : 0 ≤ y) (h1 : y < 128) : Go.bits .or .i64 y 128 = 128 + y := by
  rw [or_flip (by omega) (by omega)]
  exact bits_join .i64 62 (by decide) wraps_i64 7 128 y (by omega) (by decide) (by omega) h0 h1 (by omega)
theorem put_byte {x : Int} (h0 : 0 ≤ x) (h1 : x < 2 ^ 62) : (Go.bits .or .i64 (Go.bits .and .i64 x 127) 128) % 256 = 128 + x % 128 := by
  rw [and127 h0 h1, or128 (by omega) (by omega)]
  omega
theorem put_loop : ∀ (d k : Nat) (l : List Int) (n : Nat), n < 128 ^ (d + 1) → d < k → l.length + d < 140737488355328 → d ≤ 7 → wire_put.l0 k l n = some (l ++ enc n)
  | d, k, l, n, hn, hk, hl, hd => by
    obtain ⟨k, rfl⟩ : ∃ m, k = m + 1 := ⟨k - 1, by omega⟩
    simp only [wire_put.l0]
    have hbig : n < 2 ^ 62 := by
      have : 128 ^ (d + 1) ≤ 128 ^ 8 := Nat.pow_le_pow_right (by omega) (by omega)
      omega
    by_cases h : n < 128
    · rw [if_neg (by omega), if_pos (by omega), enc_lt h]
      congr 3
      omega
    · cases d with
      | zero => simp at hn; omega
      | succ d =>
        rw [if_pos (by omega), if_pos (by omega), put_byte (by omega) (by omega), enc_ge h]
        have hb : (n : Int) / 128 = ((n / 128 : Nat) : Int) := by omega
        rw [hb, put_loop d k _ (n / 128) (by rw [Nat.pow_succ] at hn; omega) (by omega) (by simp; omega) (by omega)]
        simp
theorem is_in {n : Int} (h0 : 0 ≤ n) (h1 : n ≤ 1099511627776) : wire_is.f n = some true := by unfold wire_is.f; rw [if_pos h0, decide_eq_true h1]
theorem is_out {n : Int} (h : ¬ (0 ≤ n ∧ n ≤ 1099511627776)) : wire_is.f n = some false := by
  unfold wire_is.f
  by_cases h0 : n ≥ 0
  · rw [if_pos h0, decide_eq_false (by omega)]
  · rw [if_neg h0]
theorem put_ok {k : Nat} {l : List Int} {n : Int} (h0 : 0 ≤ n) (h1 : n ≤ 1099511627776) (hl : l.length ≤ 140737488355000) (hk : 6 ≤ k) : wire_put.f k l n = some (l ++ enc n.toNat) := by
  have := put_loop 5 k l n.toNat (by omega) (by omega) (by omega) (by omega)
  rw [Int.toNat_of_nonneg h0] at this
  exact this
def encs : List Int → Option (List Int)
  | [] => some []
  | n :: l => if 0 ≤ n ∧ n ≤ 1099511627776 then (encs l).map (enc n.toNat ++ ·) else none
theorem Puts_loop (l : List Int) (hl : l.length ≤ 1000) : ∀ (d k i : Nat) (b : List Int), i + d = l.length → d + 7 ≤ k → b.length + 6 * d ≤ 140737488355000 →
    wire_Puts.l0 k b l (l.length : Int) (i : Int) = some (match encs (l.drop i) with | some r => (b ++ r, 0) | none => ([], 2)) := by
  intro d
  induction d with
  | zero =>
    intro k i b hi hk hb
    obtain ⟨k, rfl⟩ : ∃ m, k = m + 1 := ⟨k - 1, by omega⟩
    simp only [wire_Puts.l0]
    rw [if_neg (by omega), List.drop_eq_nil_of_le (by omega)]
    simp [encs]
  | succ d ih =>
    intro k i b hi hk hb
    obtain ⟨k, rfl⟩ : ∃ m, k = m + 1 := ⟨k - 1, by omega⟩
    simp only [wire_Puts.l0]
    have hlt : i < l.length := by omega
    rw [if_pos (by omega), if_pos (by omega), if_pos (by omega), List.drop_eq_getElem_cons hlt]
    have hr : rd l (i : Int) = l[i] := by rw [rd_at _ (by omega) (by omega)]; rfl
    rw [hr]
    by_cases h : 0 ≤ l[i] ∧ l[i] ≤ 1099511627776
    · rw [is_in h.1 h.2]
      simp only [Option.bind_some, if_true]
      rw [put_ok h.1 h.2 (by omega) (by omega)]
      simp only [Option.bind_some]
      rw [w64 (by omega)]
      have hlen := (enc_small (n := l[i].toNat) (by omega)).2
      have := ih k (i + 1) (b ++ enc l[i].toNat) (by omega) (by omega) (by simp; omega)
      rw [show ((i : Int) + 1) = ((i + 1 : Nat) : Int) from by omega, this]
      simp only [encs, if_pos h]
      cases encs (l.drop (i + 1)) <;> simp
    · rw [is_out h]
      simp only [encs, if_neg h]
      rfl
theorem Puts_is {k : Nat} {b l : List Int} (hk : 300 ≤ k) (hb : b.length ≤ 140737488350000) :
    wire_Puts.f k b l = some ((if l.length ≤ 255 then (match encs l with | some r => (b ++ enc l.length ++ r, 0) | none => ([], 2)) else ([], 5)) : List Int × Int) := by
  unfold wire_Puts.f wire_putF.f
  by_cases h : l.length ≤ 255
  · rw [if_neg (by omega), if_pos (by omega), if_pos (Int.le_refl _), show ((b.length : Int) : Int).toNat = b.length from by omega, List.take_length, put_ok (by omega) (by omega) (by omega) (by omega)]
    simp only [Option.bind_some, Int.toNat_natCast]
    have hlen := (enc_small (n := l.length) (by omega)).2
    have := Puts_loop l (by omega) l.length k 0 (b ++ enc l.length) (by omega) (by omega) (by simp; omega)
    rw [show ((0 : Nat) : Int) = 0 from rfl] at this
    rw [this, if_pos h]
    simp
  · rw [if_pos (by omega), if_neg h]
/-! ### Numbers that are taken -/
def tk : Nat → Nat → Int → List Int → Int × Int × Int
  | 0, _, _, _ => (0, 0, 4)
  | _ + 1, _, _, [] => (0, 0, 3)
  | d + 1, i, acc, c :: r => if c < 128 then (if acc + c * 128 ^ i ≤ 1099511627776 ∧ ¬ (0 < i ∧ c = 0) then (acc + c * 128 ^ i, (i : Int) + 1, 0) else (0, 0, 4)) else tk d (i + 1) (acc + (c - 128) * 128 ^ i) r
def fin (at_ : Int) (t : Int × Int × Int) : Int × Int × Int := if t.2.2 = 0 then (t.1, at_ + t.2.1, 0) else (0, 0, t.2.2)
/-- What is told of the number at a place. -/
def takeS (l : List Int) (at_ : Int) : Int × Int × Int := if at_ < 0 ∨ at_ > l.length then (0, 0, 2) else fin at_ (tk 6 0 0 (l.drop at_.toNat))
theorem wraps8 (n : Int) (h0 : 0 ≤ n) (h1 : n < 2 ^ 8) : IntKind.u8.wrap n = n := by rw [IntKind.wrap_u8]; omega
theorem and127_8 {c : Int} (h : 0 ≤ c ∧ c < 256) : Go.bits .and .u8 c 127 = c % 128 := bits_mask .u8 8 (by decide) wraps8 7 (by decide) c h.1 (by omega)
theorem pow128 {i : Nat} (h : i ≤ 6) : (128 : Int) ^ i = 1 ∨ (128 : Int) ^ i = 128 ∨ (128 : Int) ^ i = 16384 ∨ (128 : Int) ^ i = 2097152 ∨ (128 : Int) ^ i = 268435456 ∨ (128 : Int) ^ i = 34359738368 ∨ (128 : Int) ^ i = 4398046511104 := by
  obtain rfl | rfl | rfl | rfl | rfl | rfl | rfl : i = 0 ∨ i = 1 ∨ i = 2 ∨ i = 3 ∨ i = 4 ∨ i = 5 ∨ i = 6 := by omega
  all_goals simp
theorem shl_or {i : Nat} (hi : i ≤ 5) {acc c : Int} (h0 : 0 ≤ acc) (h1 : acc < 128 ^ i) (hc : 0 ≤ c ∧ c < 256) :
    Go.bits .or .i64 acc (shl .i64 (wrap64 (Go.bits .and .u8 c 127)) (wrap64 (7 * (i : Int)))) = acc + (c % 128) * 128 ^ i := by
  rw [and127_8 hc, w64 (by omega), w64 (by omega)]
  have hm : 0 ≤ c % 128 ∧ c % 128 < 128 := by omega
  have hs : shl .i64 (c % 128) (7 * (i : Int)) = (c % 128) * 128 ^ i := by
    unfold shl
    rw [show (7 * (i : Int)).toNat = 7 * i from by omega, Nat.min_eq_left (by simp [IntKind.bits]; omega), show ((2 : Int) ^ (7 * i)) = 128 ^ i from by rw [Int.pow_mul]; rfl]
    apply wraps_i64
    · rcases pow128 (i := i) (by omega) with h | h | h | h | h | h | h <;> rw [h] <;> omega
    · rcases pow128 (i := i) (by omega) with h | h | h | h | h | h | h <;> rw [h] <;> omega
  have hb : 0 ≤ (c % 128) * 128 ^ i ∧ (c % 128) * 128 ^ i < 2 ^ 62 ∧ acc < 2 ^ 62 := by
    rcases pow128 (i := i) (by omega) with h | h | h | h | h | h | h <;> rw [h] at h1 ⊢ <;> omega
  rw [hs, or_flip (by omega) (by omega), Int.add_comm]
  have hp : (2 : Int) ^ (7 * i) = 128 ^ i := by rw [Int.pow_mul]; rfl
  exact bits_join .i64 62 (by decide) wraps_i64 (7 * i) _ _ hb.1 (by rw [hp]; exact Int.mul_emod_left _ _) hb.2.1 h0 (by rw [hp]; exact h1) hb.2.2
theorem take_round (x0 : List Int) (x1 : Int) (y : List Int) (hy : isB y) (hlen : (y.length : Int) = x0.length - x1) (hx : 0 ≤ x1) (hbig : x0.length ≤ 140737488355328)
    (i k : Nat) (acc : Int) (hd : i ≤ 5) (h0 : 0 ≤ acc) (h1 : acc < 128 ^ i) (hlt : i < y.length) : wire_Take.l0 (k + 2) x0 x1 acc y (y.length : Int) (i : Int) =
      if y[i] < 128 then some (fin x1 (if acc + y[i] * 128 ^ i ≤ 1099511627776 ∧ ¬ (0 < i ∧ y[i] = 0) then (acc + y[i] * 128 ^ i, (i : Int) + 1, 0) else (0, 0, 4)))
      else if i = 5 then some (0, 0, 4) else wire_Take.l0 k x0 x1 (acc + (y[i] - 128) * 128 ^ i) y (y.length : Int) ((i + 1 : Nat) : Int) := by
  have hc := rd_isB hy (i : Int) (by omega) (by omega)
  have hr : rd y (i : Int) = y[i] := by rw [rd_at _ (by omega) (by omega)]; rfl
  have hN := shl_or (i := i) (by omega) h0 h1 hc
  have hp := pow128 (i := i) (by omega)
  rw [← hr]
  simp only [wire_Take.l0]
  generalize rd y (i : Int) = c at *
  rw [if_pos (by omega), if_pos (by omega), if_pos (by omega), if_pos (by rw [w64 (by omega)]; omega), hN]
  by_cases hc1 : c < 128
  · have he : c % 128 = c := by omega
    have hnn : 0 ≤ acc + c * 128 ^ i := by rcases hp with h | h | h | h | h | h | h <;> rw [h] <;> omega
    rw [if_pos hc1, if_pos hc1, he]
    have hfin : fin x1 (acc + c * 128 ^ i, (i : Int) + 1, 0) = (acc + c * 128 ^ i, x1 + ((i : Int) + 1), 0) := rfl
    by_cases hm : acc + c * 128 ^ i ≤ 1099511627776
    · rw [is_in hnn hm]
      simp only [Option.bind_some, if_true]
      by_cases hz : 0 < i ∧ c = 0
      · rw [if_neg (show ¬ (acc + c * 128 ^ i ≤ 1099511627776 ∧ ¬ (0 < i ∧ c = 0)) from fun h => h.2 hz), if_pos (show (i : Int) > 0 by omega)]
        simp only [wire_Take.j2]
        rw [if_pos (by simp [hz.2])]
        rfl
      · rw [if_pos (show acc + c * 128 ^ i ≤ 1099511627776 ∧ ¬ (0 < i ∧ c = 0) from ⟨hm, hz⟩), hfin]
        by_cases hi0 : (i : Int) > 0
        · rw [if_pos hi0]
          simp only [wire_Take.j2]
          rw [if_neg (by simp; omega), if_pos hc1, w64 (x := x1 + i) (by omega), w64 (by omega), Int.add_assoc]
        · rw [if_neg hi0]
          simp only [wire_Take.j2, Bool.false_eq_true, if_false]
          rw [if_pos hc1, w64 (x := x1 + i) (by omega), w64 (by omega), Int.add_assoc]
    · rw [is_out (by omega)]
      simp only [Option.bind_some, Bool.false_eq_true, if_false, wire_Take.j2, if_true]
      rw [if_neg (by omega)]
      rfl
  · have he : c % 128 = c - 128 := by omega
    rw [if_neg hc1, if_neg hc1, he]
    simp only [wire_Take.j2, Bool.false_eq_true, if_false]
    rw [if_neg hc1]
    by_cases h5 : i = 5
    · rw [if_pos (by omega), if_pos h5, if_pos (by rw [w64 (by omega)]; omega)]
    · rw [if_neg (by omega), if_neg h5, w64 (by omega)]
      rfl
theorem take_loop (x0 : List Int) (x1 : Int) (y : List Int) (hy : isB y) (hlen : (y.length : Int) = x0.length - x1) (hx : 0 ≤ x1) (hbig : x0.length ≤ 140737488355328) :
    ∀ (d i k : Nat) (acc : Int), i + d = 5 → 0 ≤ acc → acc < 128 ^ i → i ≤ y.length → 2 * d + 2 ≤ k → wire_Take.l0 k x0 x1 acc y (y.length : Int) (i : Int) = some (fin x1 (tk (d + 1) i acc (y.drop i))) := by
  intro d
  induction d with
  | zero =>
    intro i k acc hd h0 h1 hi hk
    obtain ⟨k, rfl⟩ : ∃ m, k = m + 2 := ⟨k - 2, by omega⟩
    by_cases hlt : i < y.length
    · rw [take_round x0 x1 y hy hlen hx hbig i k acc (by omega) h0 h1 hlt, List.drop_eq_getElem_cons hlt]
      simp only [tk]
      by_cases hc : y[i] < 128
      · rw [if_pos hc, if_pos hc]
      · rw [if_neg hc, if_neg hc, if_pos (by omega)]; rfl
    · rw [List.drop_eq_nil_of_le (by omega)]
      simp only [wire_Take.l0, tk]
      rw [if_neg (by omega), if_neg (by rw [w64 (by omega)]; omega)]
      rfl
  | succ d ih =>
    intro i k acc hd h0 h1 hi hk
    obtain ⟨k, rfl⟩ : ∃ m, k = m + 2 := ⟨k - 2, by omega⟩
    by_cases hlt : i < y.length
    · rw [take_round x0 x1 y hy hlen hx hbig i k acc (by omega) h0 h1 hlt, List.drop_eq_getElem_cons hlt]
      have hb := hy _ (List.getElem_mem hlt)
      simp only [tk]
      by_cases hc : y[i] < 128
      · rw [if_pos hc, if_pos hc]
      · rw [if_neg hc, if_neg hc, if_neg (by omega)]
        have hp := pow128 (i := i) (by omega)
        have hp1 : (128 : Int) ^ (i + 1) = 128 * 128 ^ i := by rw [Int.pow_succ, Int.mul_comm]
        refine ih (i + 1) k _ (by omega) ?_ ?_ (by omega) (by omega)
        · rcases hp with h | h | h | h | h | h | h <;> rw [h] <;> omega
        · rw [hp1]
          rcases hp with h | h | h | h | h | h | h <;> rw [h] at h1 ⊢ <;> omega
    · rw [List.drop_eq_nil_of_le (by omega)]
      simp only [wire_Take.l0, tk]
      rw [if_neg (by omega), if_neg (by rw [w64 (by omega)]; omega)]
      rfl
theorem Take_is {k : Nat} {l : List Int} {a : Int} (hl : isB l) (hbig : l.length ≤ 140737488355328) (hk : 14 ≤ k) : wire_Take.f k l a = some (takeS l a) := by
  obtain ⟨k, rfl⟩ : ∃ m, k = m + 1 := ⟨k - 1, by omega⟩
  unfold wire_Take.f takeS
  by_cases h0 : a < 0
  · rw [if_pos h0, if_pos (.inl h0)]
    simp [wire_Take.j0]
  · rw [if_neg h0]
    by_cases h1 : a > l.length
    · rw [if_pos (.inr h1), decide_eq_true h1]
      simp [wire_Take.j0]
    · rw [if_neg (by omega), decide_eq_false h1]
      simp only [wire_Take.j0, Bool.false_eq_true, if_false]
      rw [if_pos (by omega), if_pos (by omega)]
      simp only [Option.bind_some]
      have := take_loop l a (l.drop a.toNat) (isB_drop hl _) (by rw [List.length_drop]; omega) (by omega) hbig 5 0 k 0 (by omega) (by omega) (by simp) (by omega) (by omega)
      rw [List.drop_zero] at this
      exact this
/-- What is told of a list of so many numbers. -/
def takesS (l : List Int) : Nat → Int → List Int → List Int × Int × Int
  | 0, at_, out => (out, at_, 0)
  | n + 1, at_, out => if (takeS l at_).2.2 = 0 then takesS l n (takeS l at_).2.1 (out ++ [(takeS l at_).1]) else ([], 0, (takeS l at_).2.2)
def TakesS (l : List Int) (at_ : Int) : List Int × Int × Int :=
  if (takeS l at_).2.2 = 0 then (if (takeS l at_).1 > 255 then ([], 0, 5) else takesS l (takeS l at_).1.toNat (takeS l at_).2.1 []) else ([], 0, (takeS l at_).2.2)
theorem Takes_loop {l : List Int} (hl : isB l) (hbig : l.length ≤ 140737488355328) (n : Nat) (hn : n ≤ 255) : ∀ (d k i : Nat) (a : Int) (out : List Int), i + d = n → d + 15 ≤ k → out.length = i →
    wire_Takes.l0 k l a out (n : Int) (i : Int) = some (takesS l d a out) := by
  intro d
  induction d with
  | zero =>
    intro k i a out hi hk ho
    obtain ⟨k, rfl⟩ : ∃ m, k = m + 1 := ⟨k - 1, by omega⟩
    simp only [wire_Takes.l0, takesS]
    rw [if_neg (by omega)]
  | succ d ih =>
    intro k i a out hi hk ho
    obtain ⟨k, rfl⟩ : ∃ m, k = m + 1 := ⟨k - 1, by omega⟩
    simp only [wire_Takes.l0, takesS]
    rw [if_pos (by omega), Take_is hl hbig (by omega)]
    simp only [Option.bind_some]
    by_cases h : (takeS l a).2.2 = 0
    · rw [if_pos h, if_pos h, if_pos (by omega), w64 (by omega)]
      exact ih k (i + 1) _ _ (by omega) (by omega) (by simp [ho])
    · rw [if_neg h, if_neg h]
theorem tk_nonneg : ∀ (d i : Nat) (acc : Int) (r : List Int), isB r → 0 ≤ acc → 0 ≤ (tk d i acc r).1
  | 0, i, acc, r, _, _ => by simp [tk]
  | d + 1, i, acc, [], _, _ => by simp [tk]
  | d + 1, i, acc, c :: r, hr, h0 => by
    have hc := hr c (by simp)
    have hp : (0 : Int) < 128 ^ i := Int.pow_pos (by omega)
    simp only [tk]
    by_cases h : c < 128
    · rw [if_pos h]
      split
      · have := Int.mul_nonneg hc.1 (Int.le_of_lt hp)
        show 0 ≤ acc + c * 128 ^ i
        omega
      · simp
    · rw [if_neg h]
      have := Int.mul_nonneg (show 0 ≤ c - 128 by omega) (Int.le_of_lt hp)
      exact tk_nonneg d _ _ r (fun z hz => hr z (by simp [hz])) (by omega)
theorem takeS_nonneg {l : List Int} (hl : isB l) (a : Int) : 0 ≤ (takeS l a).1 := by
  unfold takeS
  split
  · simp
  · unfold fin
    split
    · exact tk_nonneg _ _ _ _ (isB_drop hl _) (by omega)
    · simp
theorem Takes_is {k : Nat} {l : List Int} {a : Int} (hl : isB l) (hbig : l.length ≤ 140737488355328) (hk : 300 ≤ k) : wire_Takes.f k l a = some (TakesS l a) := by
  unfold wire_Takes.f TakesS
  rw [Take_is hl hbig (by omega)]
  simp only [Option.bind_some]
  by_cases h : (takeS l a).2.2 = 0
  · rw [if_pos h, if_pos h]
    by_cases h2 : (takeS l a).1 > 255
    · rw [if_pos h2, if_pos h2]
    · have hn := takeS_nonneg hl a
      rw [if_neg h2, if_neg h2]
      have := Takes_loop hl hbig (takeS l a).1.toNat (by omega) (takeS l a).1.toNat k 0 (takeS l a).2.1 [] (by omega) (by omega) rfl
      rw [Int.toNat_of_nonneg hn] at this
      exact this
  · rw [if_neg h, if_neg h]

/-! ### What is put is taken -/
theorem pow_split (acc n i : Int) (P : Int) : acc + (n % 128) * P + (n / 128) * (128 * P) = acc + n * P := by
  have h : n * P = (n % 128) * P + (n / 128) * (128 * P) := by
    rw [← Int.mul_assoc, ← Int.add_mul]
    congr 1
    omega
  rw [h, Int.add_assoc]
theorem tk_back : ∀ (n : Nat) (d i : Nat) (acc : Int) (r : List Int), (enc n).length ≤ d → acc + n * 128 ^ i ≤ 1099511627776 → (i = 0 ∨ 0 < n) →
    tk d i acc (enc n ++ r) = (acc + n * 128 ^ i, (i : Int) + (enc n).length, 0) := by
  intro n
  induction n using Nat.strongRecOn with
  | _ n ih =>
    intro d i acc r hd hm hi
    by_cases h : n < 128
    · rw [enc_lt h] at hd ⊢
      obtain ⟨d, rfl⟩ : ∃ m, d = m + 1 := ⟨d - 1, by simp at hd; omega⟩
      simp only [List.cons_append, List.nil_append, tk]
      rw [if_pos (by omega), if_pos ⟨hm, by omega⟩]
      rfl
    · rw [enc_ge h] at hd ⊢
      obtain ⟨d, rfl⟩ : ∃ m, d = m + 1 := ⟨d - 1, by simp at hd; omega⟩
      simp only [List.cons_append, tk]
      rw [if_neg (by omega)]
      have e1 : ((128 + n % 128 : Nat) : Int) - 128 = (n : Int) % 128 := by omega
      have e2 : acc + (n : Int) % 128 * 128 ^ i + ((n / 128 : Nat) : Int) * 128 ^ (i + 1) = acc + n * 128 ^ i := by
        rw [show ((n / 128 : Nat) : Int) = (n : Int) / 128 from by omega, Int.pow_succ, Int.mul_comm (128 ^ i) 128]
        exact pow_split acc n i (128 ^ i)
      rw [e1, ih (n / 128) (by omega) d (i + 1) _ r (by simp at hd; omega) (by rw [e2]; exact hm) (.inr (by omega)), e2]
      congr 2
      simp
      omega
theorem tk_short : ∀ (n : Nat) (d i : Nat) (acc : Int) (m : Nat), (enc n).length ≤ d → m < (enc n).length → tk d i acc ((enc n).take m) = (0, 0, 3) := by
  intro n
  induction n using Nat.strongRecOn with
  | _ n ih =>
    intro d i acc m hd hm
    obtain ⟨d, rfl⟩ : ∃ q, d = q + 1 := ⟨d - 1, by omega⟩
    cases m with
    | zero => simp [tk]
    | succ m =>
      by_cases h : n < 128
      · rw [enc_lt h] at hm
        simp at hm
      · rw [enc_ge h] at hd hm ⊢
        simp only [List.take_succ_cons, tk]
        rw [if_neg (by omega)]
        exact ih (n / 128) (by omega) d (i + 1) _ m (by simp at hd; omega) (by simp at hm; omega)
theorem takeS_back {b r : List Int} {n : Nat} (hn : n ≤ 1099511627776) : takeS (b ++ (enc n ++ r)) (b.length : Int) = ((n : Int), (b.length : Int) + (enc n).length, 0) := by
  unfold takeS
  rw [if_neg (by simp; omega), show ((b.length : Int)).toNat = b.length from by omega, List.drop_left, tk_back n 6 0 0 r (enc_small hn).2 (by simp; omega) (.inl rfl)]
  simp [fin]
theorem takeS_short {b : List Int} {n m : Nat} (hn : n ≤ 1099511627776) (hm : m < (enc n).length) : takeS (b ++ (enc n).take m) (b.length : Int) = (0, 0, 3) := by
  unfold takeS
  rw [if_neg (by simp; omega), show ((b.length : Int)).toNat = b.length from by omega, List.drop_left, tk_short n 6 0 0 m (enc_small hn).2 hm]
  rfl
theorem takesS_back : ∀ (l r : List Int), encs l = some r → ∀ (b post out : List Int), takesS (b ++ (r ++ post)) l.length (b.length : Int) out = (out ++ l, (b.length : Int) + r.length, 0)
  | [], r, h, b, post, out => by
    simp [encs] at h
    subst h
    simp [takesS]
  | n :: l, r, h, b, post, out => by
    simp only [encs] at h
    by_cases hn : 0 ≤ n ∧ n ≤ 1099511627776
    · rw [if_pos hn] at h
      obtain ⟨r', hr', rfl⟩ := Option.map_eq_some_iff.1 h
      have hb := takeS_back (b := b) (r := r' ++ post) (n := n.toNat) (by omega)
      rw [Int.toNat_of_nonneg hn.1] at hb
      simp only [List.length_cons, takesS]
      rw [List.append_assoc, hb]
      simp only [if_true]
      have := takesS_back l r' hr' (b ++ enc n.toNat) post (out ++ [n])
      rw [List.append_assoc] at this
      rw [show (b.length : Int) + (enc n.toNat).length = ((b ++ enc n.toNat).length : Int) from by simp, this]
      simp
      omega
    · rw [if_neg hn] at h
      cases h
theorem takesS_short : ∀ (l r : List Int), encs l = some r → ∀ (b out : List Int) (m : Nat), m < r.length → takesS (b ++ r.take m) l.length (b.length : Int) out = ([], 0, 3)
  | [], r, h, b, out, m, hm => by
    simp [encs] at h
    subst h
    simp at hm
  | n :: l, r, h, b, out, m, hm => by
    simp only [encs] at h
    by_cases hn : 0 ≤ n ∧ n ≤ 1099511627776
    · rw [if_pos hn] at h
      obtain ⟨r', hr', rfl⟩ := Option.map_eq_some_iff.1 h
      simp only [List.length_cons, takesS]
      by_cases hlt : m < (enc n.toNat).length
      · rw [List.take_append_of_le_length (by omega), takeS_short (by omega) hlt]
        simp
      · have ht : (enc n.toNat ++ r').take m = enc n.toNat ++ r'.take (m - (enc n.toNat).length) := by
          rw [List.take_append, List.take_of_length_le (by omega)]
        have hb := takeS_back (b := b) (r := r'.take (m - (enc n.toNat).length)) (n := n.toNat) (by omega)
        rw [Int.toNat_of_nonneg hn.1] at hb
        rw [ht, hb]
        simp only [if_true]
        have := takesS_short l r' hr' (b ++ enc n.toNat) (out ++ [n]) (m - (enc n.toNat).length) (by simp at hm; omega)
        rw [List.append_assoc] at this
        rw [show (b.length : Int) + (enc n.toNat).length = ((b ++ enc n.toNat).length : Int) from by simp, this]
    · rw [if_neg hn] at h
      cases h
theorem TakesS_back {l r b post : List Int} (h : encs l = some r) (hl : l.length ≤ 255) : TakesS (b ++ (enc l.length ++ (r ++ post))) (b.length : Int) = (l, (b.length : Int) + ((enc l.length).length + r.length), 0) := by
  have hb := takeS_back (b := b) (r := r ++ post) (n := l.length) (by omega)
  unfold TakesS
  rw [hb]
  simp only [if_true]
  rw [if_neg (by omega)]
  have := takesS_back l r h (b ++ enc l.length) post []
  rw [List.append_assoc] at this
  rw [show (b.length : Int) + (enc l.length).length = ((b ++ enc l.length).length : Int) from by simp, Int.toNat_natCast, this]
  simp
  omega
theorem TakesS_short {l r b : List Int} {m : Nat} (h : encs l = some r) (hl : l.length ≤ 255) (hm : m < (enc l.length ++ r).length) : (TakesS (b ++ (enc l.length ++ r).take m) (b.length : Int)).2.2 = 3 := by
  unfold TakesS
  by_cases hlt : m < (enc l.length).length
  · rw [List.take_append_of_le_length (by omega), takeS_short (by omega) hlt]
    simp
  · have ht : (enc l.length ++ r).take m = enc l.length ++ r.take (m - (enc l.length).length) := by
      rw [List.take_append, List.take_of_length_le (by omega)]
    have hb := takeS_back (b := b) (r := r.take (m - (enc l.length).length)) (n := l.length) (by omega)
    rw [ht, hb]
    simp only [if_true]
    rw [if_neg (by omega)]
    have := takesS_short l r h (b ++ enc l.length) [] (m - (enc l.length).length) (by simp at hm; omega)
    rw [List.append_assoc] at this
    rw [show (b.length : Int) + (enc l.length).length = ((b ++ enc l.length).length : Int) from by simp, Int.toNat_natCast, this]
theorem encs_isB : ∀ (l r : List Int), encs l = some r → isB r ∧ r.length ≤ 6 * l.length
  | [], r, h => by
    simp [encs] at h
    subst h
    exact ⟨fun x hx => by simp at hx, by simp⟩
  | n :: l, r, h => by
    simp only [encs] at h
    by_cases hn : 0 ≤ n ∧ n ≤ 1099511627776
    · rw [if_pos hn] at h
      obtain ⟨r', hr', rfl⟩ := Option.map_eq_some_iff.1 h
      have := encs_isB l r' hr'
      have h2 := (enc_small (n := n.toNat) (by omega)).2
      exact ⟨isB_append (enc_isB _) this.1, by simp; omega⟩
    · rw [if_neg hn] at h
      cases h
/-! ### What is taken has just these bytes -/
theorem tk_once : ∀ (d : Nat) (p r : List Int), (∀ x ∈ p, 128 ≤ x ∧ x < 256) → isB r → (tk d p.length (valI p) r).2.2 = 0 →
    0 ≤ (tk d p.length (valI p) r).1 ∧ (tk d p.length (valI p) r).1 ≤ 1099511627776 ∧ ∃ m : Nat, 1 ≤ m ∧ m ≤ r.length ∧ (tk d p.length (valI p) r).2.1 = p.length + m ∧ p ++ r.take m = enc (tk d p.length (valI p) r).1.toNat := by
  intro d
  induction d with
  | zero => intro p r _ _ h; simp [tk] at h
  | succ d ih =>
    intro p r hp hr h
    cases r with
    | nil => simp [tk] at h
    | cons c r =>
      have hc := hr c (by simp)
      simp only [tk] at h ⊢
      by_cases h1 : c < 128
      · rw [if_pos h1] at h ⊢
        by_cases h2 : valI p + c * 128 ^ p.length ≤ 1099511627776 ∧ ¬ (0 < p.length ∧ c = 0)
        · rw [if_pos h2] at h ⊢
          have hv : valI (p ++ [c]) = valI p + c * 128 ^ p.length := by rw [valI_snoc, Int.emod_eq_of_lt hc.1 h1]
          have hnn := valI_nonneg (p ++ [c])
          refine ⟨by rw [← hv]; exact hnn, h2.1, 1, Nat.le_refl _, by simp, by simp, ?_⟩
          simp only [List.take_succ_cons, List.take_zero]
          rw [← hv]
          refine ((enc_valI p c hp hc.1 h1 ?_).1).symm
          rcases Nat.eq_zero_or_pos p.length with h3 | h3
          · exact .inl (List.eq_nil_of_length_eq_zero h3)
          · exact .inr (by omega)
        · rw [if_neg h2] at h
          simp at h
      · rw [if_neg h1] at h ⊢
        have hv : valI (p ++ [c]) = valI p + (c - 128) * 128 ^ p.length := by rw [valI_snoc, show c % 128 = c - 128 from by omega]
        have hl : (p ++ [c]).length = p.length + 1 := by simp
        have := ih (p ++ [c]) r (by
          intro x hx
          rcases List.mem_append.1 hx with h | h
          · exact hp x h
          · simp at h; omega) (fun x hx => hr x (by simp [hx])) (by rw [hl, hv]; exact h)
        rw [hl, hv] at this
        obtain ⟨a1, a2, m, a3, a4, a5, a6⟩ := this
        refine ⟨a1, a2, m + 1, by omega, by simp; omega, by rw [a5]; omega, ?_⟩
        rw [← a6]
        simp
theorem takeS_once {l : List Int} (hl : isB l) {a : Int} (h : (takeS l a).2.2 = 0) : 0 ≤ a ∧ a ≤ l.length ∧ 0 ≤ (takeS l a).1 ∧ (takeS l a).1 ≤ 1099511627776 ∧ ∃ m : Nat, 1 ≤ m ∧ a + m ≤ l.length ∧ (takeS l a).2.1 = a + m ∧ (l.drop a.toNat).take m = enc (takeS l a).1.toNat := by
  unfold takeS at h ⊢
  by_cases h0 : a < 0 ∨ a > l.length
  · rw [if_pos h0] at h
    simp at h
  · rw [if_neg h0] at h ⊢
    have hf : (tk 6 0 0 (l.drop a.toNat)).2.2 = 0 := by
      unfold fin at h
      by_cases h2 : (tk 6 0 0 (l.drop a.toNat)).2.2 = 0
      · exact h2
      · rw [if_neg h2] at h
        exact h
    have := tk_once 6 [] (l.drop a.toNat) (by simp) (isB_drop hl _) hf
    obtain ⟨a1, a2, m, a3, a4, a5, a6⟩ := this
    unfold fin
    rw [if_pos hf]
    rw [List.length_drop] at a4
    refine ⟨by omega, by omega, a1, a2, m, a3, by omega, ?_, ?_⟩
    · show a + (tk 6 0 0 (l.drop a.toNat)).2.1 = _
      have a5' : (tk 6 0 0 (l.drop a.toNat)).2.1 = ((0 : Nat) : Int) + m := a5
      rw [a5']
      simp
    · exact a6
theorem takesS_once {l : List Int} (hl : isB l) : ∀ (d : Nat) (a : Int) (out : List Int), 0 ≤ a → a ≤ l.length → (takesS l d a out).2.2 = 0 →
    ∃ ys r, (takesS l d a out).1 = out ++ ys ∧ ys.length = d ∧ encs ys = some r ∧ (takesS l d a out).2.1 = a + r.length ∧ a + r.length ≤ l.length ∧ (l.drop a.toNat).take r.length = r
  | 0, a, out, h0, h1, h => ⟨[], [], by simp [takesS], rfl, rfl, by simp [takesS], by simpa using h1, by simp⟩
  | d + 1, a, out, h0, h1, h => by
    simp only [takesS] at h ⊢
    by_cases h2 : (takeS l a).2.2 = 0
    · rw [if_pos h2] at h ⊢
      obtain ⟨_, _, b1, b2, m, b3, b4, b5, b6⟩ := takeS_once hl h2
      rw [b5] at h ⊢
      obtain ⟨ys, r, c1, c2, c3, c4, c5, c6⟩ := takesS_once hl d (a + m) (out ++ [(takeS l a).1]) (by omega) b4 h
      have hlen : (enc (takeS l a).1.toNat).length = m := by
        rw [← b6, List.length_take, List.length_drop]
        omega
      refine ⟨(takeS l a).1 :: ys, enc (takeS l a).1.toNat ++ r, by rw [c1]; simp, by simp [c2], ?_, ?_, ?_, ?_⟩
      · simp only [encs]
        rw [if_pos ⟨b1, b2⟩, c3]
        rfl
      · rw [c4, List.length_append, hlen]; omega
      · rw [List.length_append, hlen]; omega
      · rw [List.length_append, hlen, List.take_add, b6, List.drop_drop, show a.toNat + m = (a + m).toNat from by omega, c6]
    · rw [if_neg h2] at h
      exact absurd h h2
theorem takesS_err (l : List Int) : ∀ (d : Nat) (a : Int) (out : List Int), (takesS l d a out).2.2 ≠ 0 → (takesS l d a out).1 = [] ∧ (takesS l d a out).2.1 = 0
  | 0, a, out, h => by simp [takesS] at h
  | d + 1, a, out, h => by
    simp only [takesS] at h ⊢
    by_cases h2 : (takeS l a).2.2 = 0
    · rw [if_pos h2] at h ⊢
      exact takesS_err l d _ _ h
    · rw [if_neg h2]
      exact ⟨rfl, rfl⟩
theorem TakesS_err {l : List Int} {a : Int} (h : (TakesS l a).2.2 ≠ 0) : (TakesS l a).1 = [] ∧ (TakesS l a).2.1 = 0 := by
  unfold TakesS at h ⊢
  by_cases h2 : (takeS l a).2.2 = 0
  · rw [if_pos h2] at h ⊢
    by_cases h3 : (takeS l a).1 > 255
    · rw [if_pos h3]; exact ⟨rfl, rfl⟩
    · rw [if_neg h3] at h ⊢
      exact takesS_err l _ _ _ h
  · rw [if_neg h2]; exact ⟨rfl, rfl⟩
theorem takeS_err {l : List Int} {a : Int} (h : (takeS l a).2.2 ≠ 0) : (takeS l a).1 = 0 ∧ (takeS l a).2.1 = 0 := by
  unfold takeS at h ⊢
  split
  · exact ⟨rfl, rfl⟩
  · rename_i h2
    rw [if_neg h2] at h
    unfold fin at h ⊢
    split
    · rename_i h3
      rw [if_pos h3] at h
      exact absurd rfl h
    · exact ⟨rfl, rfl⟩
theorem TakesS_once {l : List Int} (hl : isB l) {a : Int} (h : (TakesS l a).2.2 = 0) : 0 ≤ a ∧ a ≤ l.length ∧ (TakesS l a).1.length ≤ 255 ∧ ∃ r, encs (TakesS l a).1 = some r ∧
    (TakesS l a).2.1 = a + (enc (TakesS l a).1.length ++ r).length ∧ a + (enc (TakesS l a).1.length ++ r).length ≤ l.length ∧ (l.drop a.toNat).take (enc (TakesS l a).1.length ++ r).length = enc (TakesS l a).1.length ++ r := by
  unfold TakesS at h ⊢
  by_cases h2 : (takeS l a).2.2 = 0
  · rw [if_pos h2] at h ⊢
    by_cases h3 : (takeS l a).1 > 255
    · rw [if_pos h3] at h
      simp at h
    · rw [if_neg h3] at h ⊢
      obtain ⟨a0, a1, b1, b2, m, b3, b4, b5, b6⟩ := takeS_once hl h2
      rw [b5] at h ⊢
      obtain ⟨ys, r, c1, c2, c3, c4, c5, c6⟩ := takesS_once hl (takeS l a).1.toNat (a + m) [] (by omega) b4 h
      rw [List.nil_append] at c1
      have hlen : (enc (takeS l a).1.toNat).length = m := by
        rw [← b6, List.length_take, List.length_drop]
        omega
      rw [c1, c2, c4]
      refine ⟨a0, a1, by omega, r, c3, ?_, ?_, ?_⟩
      · rw [List.length_append, hlen]; omega
      · rw [List.length_append, hlen]; omega
      · rw [List.length_append, hlen, List.take_add, b6, List.drop_drop, show a.toNat + m = (a + m).toNat from by omega, c6]
  · rw [if_neg h2] at h
    exact absurd h h2
theorem enc_mono : ∀ (m n : Nat), n ≤ m → (enc n).length ≤ (enc m).length := by
  intro m
  induction m using Nat.strongRecOn with
  | _ m ih =>
    intro n h
    by_cases hn : n < 128
    · rw [enc_lt hn]
      have := (enc_len m m (Nat.lt_of_lt_of_le (Nat.lt_pow_self (by omega)) (Nat.pow_le_pow_right (by omega) (by omega)))).1
      simpa using this
    · rw [enc_ge hn, enc_ge (n := m) (by omega)]
      have := ih (m / 128) (by omega) (n / 128) (by omega)
      simp; omega

theorem chk_encs : ∀ l : List Int, (∀ x ∈ l, 0 ≤ x ∧ x ≤ 1099511627776) → ∃ r, encs l = some r
  | [], _ => ⟨_, rfl⟩
  | x :: l, h => by
    obtain ⟨r, hr⟩ := chk_encs l (fun y hy => h y (by simp [hy]))
    simp only [encs, hr]
    rw [if_pos (h x (by simp))]
    exact ⟨_, rfl⟩
theorem StampBack_at {k : Nat} (hk : 1000020 ≤ k) (b l : List Int) (hb : isB b) : argosylaw09_StampBack.f k b l = some true := by
  obtain ⟨k, rfl⟩ : ∃ m, k = m + 1 := ⟨k - 1, by omega⟩
  have hlv := lives_is (k := k) (by omega)
  unfold argosylaw09_StampBack.f
  rw [few_is, Option.bind_some]
  have hj : argosylaw09_StampBack.j0 (k + 1) b l true = some true := by
    rw [argosylaw09_StampBack.j0, if_pos rfl, hlv]; rfl
  by_cases h1 : (b.length : Int) > 1000
  · rw [if_pos h1]; exact hj
  · rw [if_neg h1]
    by_cases h2 : l.length ≤ 300
    · rw [decide_eq_true h2, argosylaw09_StampBack.j0, if_neg (by decide)]
      unfold stamp_Bytes.f
      cases hc : chkS l with
      | true =>
        have hck : stamp_Check.f l = some 2 := by rw [Check_is (by omega), hc]; rfl
        rw [hck, Option.bind_some, if_neg (by decide), Option.bind_some]
        dsimp only
        rw [if_neg (by decide), if_pos (by simp), Option.bind_some, if_pos rfl, hlv]
        rfl
      | false =>
        obtain ⟨k1, k2, k3⟩ := (chkS_iff l).1 hc
        obtain ⟨r, hr⟩ := chk_encs l k3
        have hrB := encs_isB l r hr
        have hel := enc_small (n := l.length) (by omega)
        have hck : stamp_Check.f l = some 0 := by rw [Check_is (by omega), hc]; rfl
        rw [hck, Option.bind_some, if_pos rfl, Puts_is (by omega) (by omega), if_pos (by omega), hr]
        simp only [Option.bind_some, if_true]
        unfold stamp_Read.f
        have hT := TakesS_back (b := b) (post := []) hr (by omega)
        rw [List.append_nil, ← List.append_assoc] at hT
        rw [Takes_is (isB_append (isB_append hb (enc_isB _)) hrB.1) (by simp; omega) (by omega), hT]
        simp only [Option.bind_some, if_true, hck]
        rw [Same_of (by omega) (by omega), Option.bind_some, if_pos (decide_eq_true rfl), if_pos (by simp), hlv]
        rfl
    · rw [decide_eq_false h2]; exact hj
theorem StampBack : argosylaw09_StampBack.Pure := fun b l _ _ h _ _ _ => ⟨1000020, StampBack_at (Nat.le_refl _) b l (isB_of_wf h)⟩

end Go.Proofs.Ytklblahjihjlpaa.Pure
