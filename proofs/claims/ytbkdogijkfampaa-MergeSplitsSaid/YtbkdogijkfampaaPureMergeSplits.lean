/- Any events are a history or not, are split, and stand ahead of one another, as the document says: no condition. -/
import Derived.Test.YtbkdogijkfampaaPMergeSplitsx9
set_option linter.unusedVariables false
set_option linter.unusedSimpArgs false
namespace Go.Proofs.Ytbkdogijkfampaa.Pure
open Go.RowKit Go.Proofs.Ytbkdogijkfampaa.PMergeSplits Go.Proofs.YtbkdogijkfampaaW.PrintWords Go.Proofs.YtbkdogijkfampaaW.PrintLast Go.Proofs.YtbkdogijkfampaaW.PrintMore

/-! ### Bytes -/
def isB (l : List Int) : Prop := ∀ x ∈ l, 0 ≤ x ∧ x < 256
theorem isB_of_wf {l : List Int} (h : ∀ x ∈ l, (Lit.int .u8 x).wf = true) : isB l := by
  intro x hx
  have := h x hx
  simp [Lit.wf, IntKind.min, IntKind.max, IntKind.bits, IntKind.signed] at this
  omega
theorem i64_of_wf {x : Int} (h : (Lit.int .i64 x).wf = true) : -9223372036854775808 ≤ x ∧ x ≤ 9223372036854775807 := by
  simp [Lit.wf, IntKind.min, IntKind.max, IntKind.bits, IntKind.signed] at h
  omega
theorem toList_loop (s : ByteArray) : ∀ (d i : Nat) (r : List UInt8), s.size - i = d → ByteArray.toList.loop s i r = r.reverse ++ s.data.toList.drop i := by
  intro d
  have hl : s.data.toList.length = s.size := Array.length_toList
  induction d with
  | zero =>
    intro i r h
    unfold ByteArray.toList.loop
    rw [if_neg (by omega), List.drop_eq_nil_of_le (by omega), List.append_nil]
  | succ d ih =>
    intro i r h
    unfold ByteArray.toList.loop
    rw [if_pos (by omega), ih (i + 1) _ (by omega)]
    have hi : i < s.data.toList.length := by omega
    rw [List.drop_eq_getElem_cons hi, List.reverse_cons, List.append_assoc]
    have : s.get! i = s.data.toList[i] := by
      have hs : i < s.size := by omega
      simp [ByteArray.get!, getElem!_pos, hs]
    rw [this]; rfl
theorem bytes_toList (s : ByteArray) : s.toList = s.data.toList := by
  unfold ByteArray.toList
  rw [toList_loop s _ 0 [] rfl]
  simp
theorem bytes_ext {a b : ByteArray} (h : a.toList = b.toList) : a = b := by
  rw [bytes_toList, bytes_toList] at h
  cases a; cases b
  congr 1
  exact Array.toList_inj.1 h
theorem son_data (xs : List Int) : (strOfNums xs).data.toList = xs.map fun n => UInt8.ofNat n.toNat := by simp [strOfNums]
theorem son_size (xs : List Int) : (strOfNums xs).size = xs.length := by simp [strOfNums, ByteArray.size]
theorem son_append (xs ys : List Int) : strOfNums (xs ++ ys) = strOfNums xs ++ strOfNums ys := by
  apply bytes_ext
  rw [bytes_toList, bytes_toList, son_data]
  simp [strOfNums]
theorem son_nil : strOfNums [] = (⟨#[]⟩ : ByteArray) := rfl
theorem u8_inj {a b : Int} (ha : 0 ≤ a ∧ a < 256) (hb : 0 ≤ b ∧ b < 256) (h : UInt8.ofNat a.toNat = UInt8.ofNat b.toNat) : a = b := by
  have := congrArg UInt8.toNat h
  simp [UInt8.toNat_ofNat'] at this
  omega
theorem map_u8_inj : ∀ {xs ys : List Int}, isB xs → isB ys → (xs.map fun n => UInt8.ofNat n.toNat) = (ys.map fun n => UInt8.ofNat n.toNat) → xs = ys
  | [], [], _, _, _ => rfl
  | [], y :: ys, _, _, h => by simp at h
  | x :: xs, [], _, _, h => by simp at h
  | x :: xs, y :: ys, hx, hy, h => by
    simp only [List.map_cons, List.cons.injEq] at h
    rw [u8_inj (hx x (by simp)) (hy y (by simp)) h.1, map_u8_inj (fun z hz => hx z (by simp [hz])) (fun z hz => hy z (by simp [hz])) h.2]
theorem son_inj {xs ys : List Int} (hx : isB xs) (hy : isB ys) (h : strOfNums xs = strOfNums ys) : xs = ys := by
  have := congrArg (fun s : ByteArray => s.data.toList) h
  simp only [son_data] at this
  exact map_u8_inj hx hy this
theorem son_toList_inj {xs ys : List Int} (hx : isB xs) (hy : isB ys) : (strOfNums xs).toList = (strOfNums ys).toList ↔ xs = ys :=
  ⟨fun h => son_inj hx hy (bytes_ext h), fun h => by rw [h]⟩
theorem son_bt {xs : List Int} (hx : isB xs) (i : Int) (h0 : 0 ≤ i) (h : i < xs.length) : bt (strOfNums xs) i = rd xs i := by
  have hi : i.toNat < xs.length := by omega
  unfold bt rd
  rw [dif_pos (by rw [son_size]; exact hi)]
  have hg : (strOfNums xs)[i.toNat]'(by rw [son_size]; exact hi) = UInt8.ofNat (xs[i.toNat]).toNat := by
    show (strOfNums xs).data[i.toNat]'_ = _
    simp [strOfNums]
  rw [hg, List.getD_eq_getElem?_getD, List.getElem?_eq_getElem hi]
  have := hx _ (List.getElem_mem hi)
  simp [UInt8.toNat_ofNat']
  omega
theorem son_extract (xs : List Int) (a b : Nat) : (strOfNums xs).extract a b = strOfNums ((xs.take b).drop a) := by
  apply bytes_ext
  rw [bytes_toList, bytes_toList, son_data]
  simp [strOfNums, ByteArray.data_extract, List.drop_take, List.map_take, List.map_drop, List.extract]
theorem isB_append {xs ys : List Int} (hx : isB xs) (hy : isB ys) : isB (xs ++ ys) := by
  intro z hz
  rcases List.mem_append.1 hz with h | h
  · exact hx z h
  · exact hy z h
theorem isB_take {xs : List Int} (h : isB xs) (n : Nat) : isB (xs.take n) := fun z hz => h z (List.mem_of_mem_take hz)
theorem isB_drop {xs : List Int} (h : isB xs) (n : Nat) : isB (xs.drop n) := fun z hz => h z (List.mem_of_mem_drop hz)
theorem rd_at {xs : List Int} (i : Int) (h0 : 0 ≤ i) (h : i < xs.length) : rd xs i = xs[i.toNat]'(by omega) := by
  unfold rd
  rw [List.getD_eq_getElem?_getD, List.getElem?_eq_getElem (by omega)]; rfl
theorem rd_isB {xs : List Int} (hx : isB xs) (i : Int) (h0 : 0 ≤ i) (h : i < xs.length) : 0 ≤ rd xs i ∧ rd xs i < 256 := by
  rw [rd_at i h0 h]
  exact hx _ (List.getElem_mem _)
theorem w64 {x : Int} (h : -9223372036854775808 ≤ x ∧ x ≤ 9223372036854775807) : wrap64 x = x := by
  unfold wrap64
  omega

/-! ### Numbers alike -/
theorem Same_loop (a b : List Int) (hl : a.length = b.length) (ha : a.length ≤ 1152921504606846976) : ∀ (d k i : Nat), i + d = a.length → d < k → argosyref01_Same.l0 k a b (i : Int) = some (decide (a.drop i = b.drop i)) := by
  intro d
  induction d with
  | zero =>
    intro k i hi hk
    obtain ⟨k, rfl⟩ : ∃ m, k = m + 1 := ⟨k - 1, by omega⟩
    simp only [argosyref01_Same.l0]
    rw [if_neg (by omega), List.drop_eq_nil_of_le (by omega), List.drop_eq_nil_of_le (by omega)]
    simp
  | succ d ih =>
    intro k i hi hk
    obtain ⟨k, rfl⟩ : ∃ m, k = m + 1 := ⟨k - 1, by omega⟩
    simp only [argosyref01_Same.l0]
    have h1 : i < a.length := by omega
    have h2 : i < b.length := by omega
    have hra : rd a (i : Int) = a[i] := by rw [rd_at _ (by omega) (by omega)]; rfl
    have hrb : rd b (i : Int) = b[i] := by rw [rd_at _ (by omega) (by omega)]; rfl
    rw [if_pos (by omega), if_pos (by omega), if_pos (by omega), hra, hrb, List.drop_eq_getElem_cons h1, List.drop_eq_getElem_cons h2]
    by_cases h : a[i] = b[i]
    · rw [if_pos h, w64 (by omega), show ((i : Int) + 1) = ((i + 1 : Nat) : Int) from by omega, ih k (i + 1) (by omega) (by omega)]
      rw [h]
      congr 1
      rw [decide_eq_decide]
      simp only [List.cons.injEq, true_and]
    · rw [if_neg h, decide_eq_false]
      simp only [List.cons.injEq]
      exact fun hc => h hc.1
theorem Same_is {k : Nat} {a b : List Int} (ha : a.length ≤ 1152921504606846976) (hk : a.length < k) : argosyref01_Same.f k a b = some (decide (a = b)) := by
  unfold argosyref01_Same.f
  by_cases hl : a.length = b.length
  · rw [if_pos (by omega)]
    have := Same_loop a b hl ha a.length k 0 (by omega) hk
    simpa using this
  · rw [if_neg (by omega)]
    have : a ≠ b := fun h => hl (by rw [h])
    simp [this]

/-! ### Stamps, for the merge (out of the packs of the stamp chapter) -/
theorem atS_nat (l : List Int) (j : Nat) : atS l (j : Int) = l.getD j 0 := by
  unfold atS
  by_cases h : j < l.length
  · rw [if_pos (by omega)]; unfold rd; simp
  · rw [if_neg (by omega), List.getD_eq_getElem?_getD, List.getElem?_eq_none (by omega)]; rfl
theorem lenS_comm (a b : List Int) : lenS a b = lenS b a := by unfold lenS; split <;> split <;> omega
theorem lenS_le {a b : List Int} {n : Nat} (ha : a.length ≤ n) (hb : b.length ≤ n) : lenS a b ≤ n := by unfold lenS; split <;> omega
theorem le_lenS (a b : List Int) : a.length ≤ lenS a b ∧ b.length ≤ lenS a b := by unfold lenS; split <;> omega
theorem lenS_lt {a b : List Int} {i : Nat} : i < lenS a b ↔ i < a.length ∨ i < b.length := by unfold lenS; split <;> omega
theorem any_upto (a b : List Int) (N : Nat) (p : Int × Int × Int → Bool) : (upto a b N).any p = true ↔ ∃ j, j < N ∧ p (trip a b j) = true := by
  unfold upto
  rw [List.any_eq_true]
  constructor
  · rintro ⟨x, hx, hp⟩
    obtain ⟨j, hj, rfl⟩ := List.mem_map.1 hx
    exact ⟨j, List.mem_range.1 hj, hp⟩
  · rintro ⟨j, hj, hp⟩
    exact ⟨_, List.mem_map.2 ⟨j, List.mem_range.2 hj, rfl⟩, hp⟩
theorem bool_ext {p q : Bool} (h : p = true ↔ q = true) : p = q := by cases p <;> cases q <;> simp_all
theorem Next_is {a b : List Int} (i : Int) (ha : a.length ≤ 1000000) (hb : b.length ≤ 1000000) : stamp_Next.f a b i = some (nextS a b i) := by unfold stamp_Next.f; rw [if_pos ⟨ha, hb⟩]
theorem Same_of {k : Nat} {a b : List Int} (ha : a.length ≤ 1000000) (hk : 1000001 ≤ k) : argosyref01_Same.f k a b = some (decide (a = b)) := Same_is (by omega) (by omega)
theorem allB_iff (i : Int) (a b : List Int) : allB i (upto a b (lenS a b)) = true ↔ ∀ j : Nat, (j : Int) = i ∨ b.getD j 0 ≤ a.getD j 0 := by
  unfold allB upto
  rw [List.all_eq_true]
  constructor
  · intro h j
    by_cases hj : j < lenS a b
    · have := h _ (List.mem_map.2 ⟨j, List.mem_range.2 hj, rfl⟩)
      unfold holdsS at this
      simpa only [trip, atS_nat, Bool.or_eq_true, decide_eq_true_eq] using this
    · have := le_lenS a b
      rw [List.getD_eq_getElem?_getD, List.getD_eq_getElem?_getD, List.getElem?_eq_none (by omega), List.getElem?_eq_none (by omega)]
      exact .inr (Int.le_refl _)
  · intro h x hx
    obtain ⟨j, hj, rfl⟩ := List.mem_map.1 hx
    have := h j
    unfold holdsS
    simpa only [trip, atS_nat, Bool.or_eq_true, decide_eq_true_eq] using this
theorem nextS_iff (a b : List Int) (i : Int) : nextS a b i = true ↔ 0 ≤ i ∧ atS a i ≠ 9223372036854775807 ∧ atS b i = wrap64 (atS a i + 1) ∧ ∀ j : Nat, (j : Int) = i ∨ b.getD j 0 ≤ a.getD j 0 := by
  unfold nextS
  by_cases h : i < 0 ∨ atS a i = 9223372036854775807 ∨ atS b i ≠ wrap64 (atS a i + 1)
  · rw [if_pos h]
    constructor
    · intro h; cases h
    · rintro ⟨h1, h2, h3, _⟩
      rcases h with h | h | h
      · omega
      · exact absurd h h2
      · exact absurd h3 h
  · rw [if_neg h, allB_iff]
    constructor
    · intro h4
      refine ⟨?_, fun h2 => h (.inr (.inl h2)), ?_, h4⟩
      · by_cases h0 : i < 0
        · exact absurd (.inl h0) h
        · omega
      · by_cases h3 : atS b i = wrap64 (atS a i + 1)
        · exact h3
        · exact absurd (.inr (.inr h3)) h
    · exact fun h => h.2.2.2
theorem wrap_ne (x : Int) : x ≠ wrap64 (x + 1) := by unfold wrap64; omega
theorem set_getD (l : List Int) (n j : Nat) (v : Int) (hn : n < l.length) : (l.set n v).getD j 0 = if j = n then v else l.getD j 0 := by
  rw [List.getD_eq_getElem?_getD, List.getD_eq_getElem?_getD, List.getElem?_set]
  by_cases h : n = j
  · subst h; simp [hn]
  · rw [if_neg h, if_neg (fun q => h q.symm)]
theorem getD_ge {l : List Int} {j : Nat} (h : l.length ≤ j) : l.getD j 0 = 0 := by
  rw [List.getD_eq_getElem?_getD, List.getElem?_eq_none h]; rfl
theorem rd_nat (l : List Int) (j : Nat) : rd l (j : Int) = l.getD j 0 := by unfold rd; simp

/-! ### Ranks of stamps (out of the pack of the stamp chapter) -/
def lessT (t : Int × Int × Int) : Bool := decide (t.2.1 < t.2.2)
def moreT (t : Int × Int × Int) : Bool := decide (t.2.2 < t.2.1)
def lessS (a b : List Int) : Bool := (upto a b (lenS a b)).any lessT
def moreS (a b : List Int) : Bool := (upto a b (lenS a b)).any moreT
def encR (l m : Bool) : Int := if m then (if l then 3 else 2) else (if l then 1 else 0)
theorem rankF_enc (l m : Bool) (t : Int × Int × Int) : rankF (encR l m) t = encR (l || lessT t) (m || moreT t) := by
  unfold rankF
  by_cases h1 : t.2.1 < t.2.2
  · have h2 : ¬ t.2.2 < t.2.1 := by omega
    rw [if_pos h1]
    have e1 : lessT t = true := decide_eq_true h1
    have e2 : moreT t = false := decide_eq_false h2
    rw [e1, e2]
    cases l <;> cases m <;> decide +kernel
  · have e1 : lessT t = false := decide_eq_false h1
    rw [if_neg h1, e1]
    by_cases h2 : t.2.2 < t.2.1
    · have e2 : moreT t = true := decide_eq_true h2
      rw [if_pos h2, e2]
      cases l <;> cases m <;> decide +kernel
    · have e2 : moreT t = false := decide_eq_false h2
      rw [if_neg h2, e2]
      cases l <;> cases m <;> rfl
theorem rankW_gen (L : List (Int × Int × Int)) : ∀ l m : Bool, L.foldl rankF (encR l m) = encR (l || L.any lessT) (m || L.any moreT) := by
  induction L with
  | nil => intro l m; simp
  | cons t L ih => intro l m; rw [List.foldl_cons, rankF_enc, ih]; simp [Bool.or_assoc]
theorem rankW_is (a b : List Int) : rankW (upto a b (lenS a b)) = encR (lessS a b) (moreS a b) := by
  have := rankW_gen (upto a b (lenS a b)) false false
  simp only [Bool.false_or] at this
  exact this
theorem Rank_is {a b : List Int} (ha : a.length ≤ 1000000) (hb : b.length ≤ 1000000) : stamp_Rank.f a b = some (encR (lessS a b) (moreS a b)) := by
  unfold stamp_Rank.f
  rw [if_pos ⟨by omega, by omega⟩, rankW_is]
theorem lessS_iff (a b : List Int) : lessS a b = true ↔ ∃ j, a.getD j 0 < b.getD j 0 := by
  unfold lessS
  rw [any_upto]
  constructor
  · rintro ⟨j, _, h⟩
    refine ⟨j, ?_⟩
    have := of_decide_eq_true h
    simpa only [trip, atS_nat] using this
  · rintro ⟨j, h⟩
    refine ⟨j, ?_, ?_⟩
    · by_cases hj : j < lenS a b
      · exact hj
      · have := le_lenS a b
        rw [List.getD_eq_getElem?_getD, List.getD_eq_getElem?_getD, List.getElem?_eq_none (by omega), List.getElem?_eq_none (by omega)] at h
        simp at h
    · unfold lessT
      simp only [trip, atS_nat]
      exact decide_eq_true h
theorem moreS_iff (a b : List Int) : moreS a b = true ↔ ∃ j, b.getD j 0 < a.getD j 0 := by
  unfold moreS
  rw [any_upto]
  constructor
  · rintro ⟨j, _, h⟩
    refine ⟨j, ?_⟩
    have := of_decide_eq_true h
    simpa only [trip, atS_nat] using this
  · rintro ⟨j, h⟩
    refine ⟨j, ?_, ?_⟩
    · by_cases hj : j < lenS a b
      · exact hj
      · have := le_lenS a b
        rw [List.getD_eq_getElem?_getD, List.getD_eq_getElem?_getD, List.getElem?_eq_none (by omega), List.getElem?_eq_none (by omega)] at h
        simp at h
    · unfold moreT
      simp only [trip, atS_nat]
      exact decide_eq_true h

/-! ### Sums over places, and fuel -/
theorem le_from {α : Type} {f : Nat → Option α} (h : ∀ k, LeO (f k) (f (k + 1))) {k m : Nat} (hk : k ≤ m) {r : α} (hr : f k = some r) : f m = some r := by
  induction hk with
  | refl => exact hr
  | step _ ih => exact h _ _ ih
def sumTo (f : Nat → Int) : Nat → Int
  | 0 => 0
  | n + 1 => sumTo f n + f n
theorem sumTo_congr {f g : Nat → Int} : ∀ n, (∀ j, j < n → f j = g j) → sumTo f n = sumTo g n
  | 0, _ => rfl
  | n + 1, h => by rw [sumTo, sumTo, sumTo_congr n (fun j hj => h j (by omega)), h n (by omega)]
theorem sumTo_le {f g : Nat → Int} : ∀ n, (∀ j, j < n → f j ≤ g j) → sumTo f n ≤ sumTo g n
  | 0, _ => Int.le_refl _
  | n + 1, h => by
    have h1 := sumTo_le n (fun j hj => h j (by omega))
    have h2 := h n (by omega)
    rw [sumTo, sumTo]
    omega
theorem sumTo_lt {f g : Nat → Int} : ∀ n i, i < n → f i < g i → (∀ j, j < n → f j ≤ g j) → sumTo f n < sumTo g n
  | 0, i, hi, _, _ => absurd hi (Nat.not_lt_zero i)
  | n + 1, i, hi, hlt, h => by
    rw [sumTo, sumTo]
    have h2 := h n (by omega)
    by_cases hn : i = n
    · subst hn
      have h1 := sumTo_le i (fun j hj => h j (by omega))
      omega
    · have h1 := sumTo_lt n i (by omega) hlt (fun j hj => h j (by omega))
      omega
theorem sumTo_at {f g : Nat → Int} {c : Int} : ∀ n i, i < n → g i = f i + c → (∀ j, j < n → j ≠ i → g j = f j) → sumTo g n = sumTo f n + c
  | 0, i, hi, _, _ => absurd hi (Nat.not_lt_zero i)
  | n + 1, i, hi, hg, h => by
    rw [sumTo, sumTo]
    by_cases hn : i = n
    · subst hn
      rw [sumTo_congr i (fun j hj => h j (by omega) (by omega)), hg]
      omega
    · rw [sumTo_at n i (by omega) hg (fun j hj hne => h j (by omega) hne), h n (by omega) (fun e => hn e.symm)]
      omega
theorem sumTo_nonneg {f : Nat → Int} : ∀ n, (∀ j, j < n → 0 ≤ f j) → 0 ≤ sumTo f n
  | 0, _ => Int.le_refl _
  | n + 1, h => by
    have h1 := sumTo_nonneg n (fun j hj => h j (by omega))
    have h2 := h n (by omega)
    rw [sumTo]
    omega
theorem sumTo_ge {f : Nat → Int} : ∀ n i, i < n → (∀ j, j < n → 0 ≤ f j) → f i ≤ sumTo f n
  | 0, i, hi, _ => absurd hi (Nat.not_lt_zero i)
  | n + 1, i, hi, h => by
    rw [sumTo]
    have h2 := h n (by omega)
    by_cases hn : i = n
    · subst hn
      have h1 := sumTo_nonneg i (fun j hj => h j (by omega))
      omega
    · have h1 := sumTo_ge n i (by omega) (fun j hj => h j (by omega))
      omega

/-! ### The examples -/
theorem lives_is {k : Nat} (hk : 100 ≤ k) : argosylaw12_lives.f k = some true :=
  le_from argosylaw12_lives.mono hk (by decide +kernel)

/-! ### The merge -/
theorem rdLL_nat (l : List (List S45)) (i : Nat) : rdLL l (i : Int) = l.getD i [] := by unfold rdLL; rw [Int.toNat_natCast]
def lenP (l : List (List S45)) (i : Nat) : Int := ((l.getD i []).length : Int)
def hadP (hv : List Int) (i : Nat) : Int := hv.getD i 0
def evP (l : List (List S45)) (hv : List Int) (i : Nat) : S45 := rd_T45 (l.getD i []) (hadP hv i)
def nextP (hv s : List Int) (i : Int) : Bool := decide (s.length = hv.length) && nextS hv s i
def canP (l : List (List S45)) (hv : List Int) (i : Nat) : Bool := decide (hadP hv i < lenP l i) && nextP hv (evP l hv i).f3 i
def pickP (l : List (List S45)) (hv : List Int) : Nat → Nat → Option Nat
  | 0, _ => none
  | d + 1, i => if canP l hv i = true then some i else pickP l hv d (i + 1)
def genP (l : List (List S45)) : Nat → List Int → List S45 → List S45 × List Int
  | 0, hv, out => (out, hv)
  | m + 1, hv, out => match pickP l hv l.length 0 with
    | none => (out, hv)
    | some i => genP l m (hv.set i (hadP hv i + 1)) (out ++ [evP l hv i])
theorem next_is {hv s : List Int} (a b c i : Int) (h : hv.length ≤ 1000000) : merge_next.f hv a b c s i = some (nextP hv s i) := by
  unfold merge_next.f nextP
  by_cases hl : s.length = hv.length
  · rw [if_pos (by omega), Next_is _ h (by omega), decide_eq_true hl]
    simp
  · rw [if_neg (by omega), decide_eq_false hl]
    simp
theorem can_is {l : List (List S45)} {hv : List Int} (i : Nat) (h : hv.length ≤ 1000000) : canM l hv (i : Int) = some (canP l hv i) := by
  unfold canM canP
  rw [rd_nat, rdLL_nat]
  show (if hadP hv i < lenP l i then _ else _) = _
  by_cases hlt : hadP hv i < lenP l i
  · rw [if_pos hlt, next_is _ _ _ _ h, decide_eq_true hlt, Bool.true_and]
    unfold evM evP hadP
    rw [rdLL_nat, rd_nat]
  · rw [if_neg hlt, decide_eq_false hlt, Bool.false_and]
theorem pick_is {l : List (List S45)} {hv : List Int} (h : hv.length ≤ 1000000) : ∀ d i, pickM l hv d i = some (pickP l hv d i)
  | 0, _ => rfl
  | d + 1, i => by
    rw [pickM, can_is i h, Option.bind_some, pickP]
    by_cases hc : canP l hv i = true
    · rw [if_pos hc, if_pos hc]
    · rw [if_neg hc, if_neg hc]; exact pick_is h d (i + 1)
theorem pick_some {l : List (List S45)} {hv : List Int} : ∀ d i j, pickP l hv d i = some j → i ≤ j ∧ j < i + d ∧ canP l hv j = true ∧ ∀ m, i ≤ m → m < j → canP l hv m = false
  | 0, _, _, h => by simp [pickP] at h
  | d + 1, i, j, h => by
    rw [pickP] at h
    by_cases hc : canP l hv i = true
    · rw [if_pos hc] at h
      obtain rfl := Option.some.inj h
      exact ⟨Nat.le_refl _, by omega, hc, fun m h1 h2 => by omega⟩
    · rw [if_neg hc] at h
      obtain ⟨h1, h2, h3, h4⟩ := pick_some d (i + 1) j h
      refine ⟨by omega, by omega, h3, fun m hm1 hm2 => ?_⟩
      by_cases hm : m = i
      · subst hm; exact Bool.eq_false_iff.2 hc
      · exact h4 m (by omega) hm2
theorem pick_none {l : List (List S45)} {hv : List Int} : ∀ d i, pickP l hv d i = none → ∀ m, i ≤ m → m < i + d → canP l hv m = false
  | 0, _, _, m, h1, h2 => by omega
  | d + 1, i, h, m, h1, h2 => by
    rw [pickP] at h
    by_cases hc : canP l hv i = true
    · rw [if_pos hc] at h; cases h
    · rw [if_neg hc] at h
      by_cases hm : m = i
      · subst hm; exact Bool.eq_false_iff.2 hc
      · exact pick_none d (i + 1) h m (by omega) (by omega)
structure InvP (l : List (List S45)) (hv : List Int) (out : List S45) : Prop where
  hl : hv.length = l.length
  lo : ∀ i, 0 ≤ hadP hv i
  hi : ∀ i, i < l.length → hadP hv i ≤ lenP l i
  cnt : (out.length : Int) = sumTo (hadP hv) l.length
def totP (l : List (List S45)) : Int := sumTo (lenP l) l.length
theorem hadP_set {hv : List Int} {i : Nat} (hi : i < hv.length) (v : Int) (j : Nat) : hadP (hv.set i v) j = if j = i then v else hadP hv j := by
  unfold hadP
  rw [List.getD_eq_getElem?_getD, List.getD_eq_getElem?_getD, List.getElem?_set]
  by_cases h : i = j
  · subst h; simp [hi]
  · rw [if_neg h, if_neg (fun e => h e.symm)]
theorem InvP.step {l : List (List S45)} {hv : List Int} {out : List S45} (h : InvP l hv out) {i : Nat} (hi : i < l.length) (hc : canP l hv i = true) (x : S45) : InvP l (hv.set i (hadP hv i + 1)) (out ++ [x]) ∧ (out.length : Int) < totP l := by
  have hlt : hadP hv i < lenP l i := by unfold canP at hc; simp at hc; exact hc.1
  have hiv : i < hv.length := by rw [h.hl]; exact hi
  refine ⟨⟨by rw [List.length_set]; exact h.hl, fun j => ?_, fun j hj => ?_, ?_⟩, ?_⟩
  · rw [hadP_set hiv]; split
    · have := h.lo i; omega
    · exact h.lo j
  · rw [hadP_set hiv]; split
    · rename_i e; subst e; omega
    · exact h.hi j hj
  · rw [sumTo_at (f := hadP hv) (c := 1) l.length i hi (by rw [hadP_set hiv, if_pos rfl]) (fun j _ hne => by rw [hadP_set hiv, if_neg hne]), ← h.cnt]
    simp
  · rw [h.cnt]
    exact sumTo_lt l.length i hi hlt (fun j hj => h.hi j hj)
theorem wrap_had {l : List (List S45)} {hv : List Int} {out : List S45} (h : InvP l hv out) (ht : totP l ≤ 150) {i : Nat} (hi : i < l.length) : wrap64 (hadP hv i + 1) = hadP hv i + 1 := by
  have h1 := h.lo i
  have h2 := h.hi i hi
  have h3 : lenP l i ≤ totP l := sumTo_ge l.length i hi (fun j _ => by unfold lenP; omega)
  unfold wrap64
  omega
theorem gen_is {l : List (List S45)} (hn : l.length ≤ 1000000) (ht : totP l ≤ 150) : ∀ (m k : Nat) (hv : List Int) (out : List S45), InvP l hv out → totP l ≤ out.length + m → m < k → genM l k hv out = some (genP l m hv out)
  | 0, k, hv, out, hI, hm, hk => by
    obtain ⟨k, rfl⟩ : ∃ q, k = q + 1 := ⟨k - 1, by omega⟩
    rw [genM, pick_is (by rw [hI.hl]; exact hn), Option.bind_some]
    cases hp : pickP l hv l.length 0 with
    | none => rfl
    | some i =>
      obtain ⟨_, h2, h3, _⟩ := pick_some _ _ _ hp
      have := (hI.step (by omega) h3 z45).2
      omega
  | m + 1, k, hv, out, hI, hm, hk => by
    obtain ⟨k, rfl⟩ : ∃ q, k = q + 1 := ⟨k - 1, by omega⟩
    rw [genM, pick_is (by rw [hI.hl]; exact hn), Option.bind_some, genP]
    cases hp : pickP l hv l.length 0 with
    | none => rfl
    | some i =>
      obtain ⟨_, h2, h3, _⟩ := pick_some _ _ _ hp
      have hi : i < l.length := by omega
      obtain ⟨hI2, hlt⟩ := hI.step hi h3 (evP l hv i)
      have he : evM l hv (i : Int) = evP l hv i := by unfold evM evP hadP; rw [rdLL_nat, rd_nat]
      simp only
      rw [if_pos (by omega), he, rd_nat]
      show genM l k (hv.set i (wrap64 (hadP hv i + 1))) _ = _
      rw [wrap_had hI ht hi]
      exact gen_is hn ht m k _ _ hI2 (by rw [List.length_append]; simp; omega) (by omega)
theorem inv0 (l : List (List S45)) : InvP l (List.replicate l.length 0) [] := by
  have h0 : ∀ i, hadP (List.replicate l.length (0 : Int)) i = 0 := by
    intro i
    unfold hadP
    rw [List.getD_eq_getElem?_getD, List.getElem?_replicate]
    split <;> rfl
  refine ⟨by simp, fun i => by rw [h0]; exact Int.le_refl _, fun i _ => by rw [h0]; unfold lenP; omega, ?_⟩
  rw [sumTo_congr (g := fun _ => 0) _ (fun j _ => h0 j)]
  have : ∀ n, sumTo (fun _ => 0) n = 0 := fun n => by induction n with | zero => rfl | succ n ih => rw [sumTo, ih]; rfl
  rw [this]; rfl
theorem Merge_is {k : Nat} {l : List (List S45)} (hn : l.length ≤ 1000000) (ht : totP l ≤ 150) (hk : 151 ≤ k) : merge_Merge.f k l = some (if 1 ≤ l.length ∧ l.length ≤ 64 then genP l 150 (List.replicate l.length 0) [] else ([], [])) := by
  unfold merge_Merge.f mergeF
  by_cases h : 1 ≤ l.length ∧ l.length ≤ 64
  · rw [if_pos h, if_pos h]
    exact gen_is hn ht 150 k _ _ (inv0 l) (by simp; omega) (by omega)
  · rw [if_neg h, if_neg h]

/-! ### The document's next (after the pack merge) -/
theorem AtR_is (l : List Int) (i : Int) : argosyref09_At.f l i = some (atS l i) := by
  unfold argosyref09_At.f atS
  by_cases h : i < 0
  · rw [if_pos h, if_neg (by omega)]
  · by_cases h2 : i ≥ l.length
    · rw [if_neg h, if_pos h2, if_neg (by omega)]
    · rw [if_neg h, if_neg h2, if_pos (by omega), if_pos (by omega), if_pos (by omega)]
theorem NextR_l1 (a : List Int) (i : Int) (ha : a.length ≤ 1000000) : ∀ (d k j : Nat), j + d = a.length → d < k → ∃ b, argosyref09_Next.l1 k a i (j : Int) = some b ∧ (b = true ↔ ∀ m, j ≤ m → m < a.length → (m : Int) = i ∨ 0 ≤ a.getD m 0) := by
  intro d
  induction d with
  | zero =>
    intro k j hj hk
    obtain ⟨k, rfl⟩ : ∃ m, k = m + 1 := ⟨k - 1, by omega⟩
    simp only [argosyref09_Next.l1]
    rw [if_neg (by omega)]
    exact ⟨true, rfl, by simp; intro m h1 h2; omega⟩
  | succ d ih =>
    intro k j hj hk
    obtain ⟨k, rfl⟩ : ∃ m, k = m + 1 := ⟨k - 1, by omega⟩
    simp only [argosyref09_Next.l1]
    obtain ⟨b, hb, hi⟩ := ih k (j + 1) (by omega) (by omega)
    rw [if_pos (by omega), w64 (by omega), show ((j : Int) + 1) = ((j + 1 : Nat) : Int) from by omega, hb]
    by_cases h : (j : Int) = i
    · rw [if_pos h]
      refine ⟨b, rfl, hi.trans ⟨fun q m h1 h2 => ?_, fun q m h1 h2 => q m (by omega) h2⟩⟩
      by_cases e : m = j
      · subst e; exact .inl h
      · exact q m (by omega) h2
    · rw [if_neg h, if_pos (by omega), rd_nat]
      by_cases h2 : a.getD j 0 < 0
      · rw [if_pos h2]
        refine ⟨false, rfl, by simp only [Bool.false_eq_true, false_iff]; intro q; have := q j (Nat.le_refl _) (by omega); omega⟩
      · rw [if_neg h2]
        refine ⟨b, rfl, hi.trans ⟨fun q m h1 h3 => ?_, fun q m h1 h3 => q m (by omega) h3⟩⟩
        by_cases e : m = j
        · subst e; exact .inr (by omega)
        · exact q m (by omega) h3
theorem NextR_l0 (a s : List Int) (i : Int) (ha : a.length ≤ 1000000) (hs : s.length ≤ 1000000) : ∀ (d k j : Nat), j + d = s.length → d + 1000002 ≤ k → ∃ b, argosyref09_Next.l0 k a s i (j : Int) = some b ∧ (b = true ↔ ∀ m, j ≤ m → (m : Int) = i ∨ s.getD m 0 ≤ a.getD m 0) := by
  intro d
  induction d with
  | zero =>
    intro k j hj hk
    obtain ⟨k, rfl⟩ : ∃ m, k = m + 1 := ⟨k - 1, by omega⟩
    simp only [argosyref09_Next.l0]
    rw [if_neg (by omega)]
    by_cases hle : s.length ≤ a.length
    · obtain ⟨b, hb, hi⟩ := NextR_l1 a i ha (a.length - s.length) k s.length (by omega) (by omega)
      refine ⟨b, hb, hi.trans ⟨fun q m h1 => ?_, fun q m h1 h2 => ?_⟩⟩
      · rw [getD_ge (l := s) (by omega)]
        by_cases h2 : m < a.length
        · exact q m (by omega) h2
        · rw [getD_ge (by omega)]; exact .inr (Int.le_refl _)
      · have := q m (by omega)
        rw [getD_ge (l := s) (by omega)] at this
        exact this
    · obtain ⟨k, rfl⟩ : ∃ m, k = m + 1 := ⟨k - 1, by omega⟩
      simp only [argosyref09_Next.l1]
      rw [if_neg (by omega)]
      refine ⟨true, rfl, by simp only [true_iff]; intro m h1; rw [getD_ge (l := s) (by omega), getD_ge (by omega)]; exact .inr (Int.le_refl _)⟩
  | succ d ih =>
    intro k j hj hk
    obtain ⟨k, rfl⟩ : ∃ m, k = m + 1 := ⟨k - 1, by omega⟩
    simp only [argosyref09_Next.l0]
    obtain ⟨b, hb, hi⟩ := ih k (j + 1) (by omega) (by omega)
    rw [if_pos (by omega), w64 (by omega), show ((j : Int) + 1) = ((j + 1 : Nat) : Int) from by omega, hb]
    by_cases h : (j : Int) = i
    · rw [if_pos h]
      refine ⟨b, rfl, hi.trans ⟨fun q m h1 => ?_, fun q m h1 => q m (by omega)⟩⟩
      by_cases e : m = j
      · subst e; exact .inl h
      · exact q m (by omega)
    · rw [if_neg h, if_pos (by omega), rd_nat, AtR_is, Option.bind_some, atS_nat]
      by_cases h2 : s.getD j 0 > a.getD j 0
      · rw [if_pos h2]
        refine ⟨false, rfl, by simp only [Bool.false_eq_true, false_iff]; intro q; have := q j (Nat.le_refl _); omega⟩
      · rw [if_neg h2]
        refine ⟨b, rfl, hi.trans ⟨fun q m h1 => ?_, fun q m h1 => q m (by omega)⟩⟩
        by_cases e : m = j
        · subst e; exact .inr (by omega)
        · exact q m (by omega)
theorem NextR_is {k : Nat} {a s : List Int} (i : Int) (ha : a.length ≤ 1000000) (hs : s.length ≤ 1000000) (hk : 2000010 ≤ k) : argosyref09_Next.f k a s i = some (nextS a s i) := by
  obtain ⟨k, rfl⟩ : ∃ m, k = m + 1 := ⟨k - 1, by omega⟩
  unfold argosyref09_Next.f
  rw [AtR_is, Option.bind_some]
  have hj : ∀ b : Bool, argosyref09_Next.j0 (k + 1) a s i b = if b = true then some false else argosyref09_Next.l0 k a s i 0 := fun b => by simp only [argosyref09_Next.j0]
  by_cases h1 : atS a i = 9223372036854775807
  · rw [if_pos h1, hj, if_pos rfl]
    unfold nextS
    rw [if_pos (.inr (.inl h1))]
  · rw [if_neg h1, AtR_is, Option.bind_some]
    by_cases h2 : atS s i = wrap64 (atS a i + 1)
    · rw [if_pos h2, hj]
      by_cases h0 : i < 0
      · rw [if_pos (decide_eq_true h0)]
        unfold nextS
        rw [if_pos (.inl h0)]
      · rw [if_neg (by rw [decide_eq_false h0]; decide)]
        obtain ⟨b, hb, hi⟩ := NextR_l0 a s i ha hs s.length k 0 (by omega) (by omega)
        rw [show ((0 : Nat) : Int) = 0 from rfl] at hb
        rw [hb]
        congr 1
        apply bool_ext
        rw [hi, nextS_iff]
        exact ⟨fun q => ⟨by omega, h1, h2, fun j => q j (Nat.zero_le _)⟩, fun q m _ => q.2.2.2 m⟩
    · rw [if_neg h2, hj, if_pos rfl]
      unfold nextS
      rw [if_pos (.inr (.inr h2))]
theorem nextR_is {k : Nat} {hv s : List Int} (a b c i : Int) (h : hv.length ≤ 1000000) (hk : 2000010 ≤ k) : argosyref12_next.f k hv a b c s i = some (nextP hv s i) := by
  unfold argosyref12_next.f nextP
  by_cases hl : s.length = hv.length
  · rw [if_pos (by omega), NextR_is _ h (by omega) hk, decide_eq_true hl]
    simp
  · rw [if_neg (by omega), decide_eq_false hl]
    simp

/-! ### Ranks of long stamps -/
theorem moreS_swap (a b : List Int) : moreS a b = lessS b a := bool_ext (by rw [moreS_iff, lessS_iff])
theorem above_loop (a b : List Int) (ha : a.length ≤ 17592186044416) (hb : b.length ≤ 17592186044416) : ∀ (d k j : Nat), j + d = lenS a b → 2 * d + 2 ≤ k → ∃ r, argosyref09_above.l0 k a b (j : Int) = some r ∧ (r = true ↔ ∃ m, j ≤ m ∧ m < lenS a b ∧ b.getD m 0 < a.getD m 0) := by
  intro d
  induction d with
  | zero =>
    intro k j hj hk
    obtain ⟨k, rfl⟩ : ∃ m, k = m + 2 := ⟨k - 2, by omega⟩
    have hn := lenS_lt (a := a) (b := b) (i := j)
    simp only [argosyref09_above.l0, argosyref09_above.j1]
    rw [if_neg (by omega), if_neg (by rw [decide_eq_false (by omega)]; decide)]
    exact ⟨false, rfl, by simp only [Bool.false_eq_true, false_iff]; rintro ⟨m, h1, h2, _⟩; omega⟩
  | succ d ih =>
    intro k j hj hk
    obtain ⟨k, rfl⟩ : ∃ m, k = m + 2 := ⟨k - 2, by omega⟩
    have hn := lenS_lt (a := a) (b := b) (i := j)
    have hle := lenS_le ha hb
    have hw : wrap64 ((j : Int) + 1) = ((j + 1 : Nat) : Int) := by rw [w64 (by omega)]; omega
    have hjl : j < lenS a b := by omega
    obtain ⟨r, hr, hi⟩ := ih k (j + 1) (by omega) (by omega)
    have key : ∃ r, argosyref09_above.j1 (k + 1) a b (j : Int) true = some r ∧ (r = true ↔ ∃ m, j ≤ m ∧ m < lenS a b ∧ b.getD m 0 < a.getD m 0) := by
      simp only [argosyref09_above.j1, if_true]
      rw [AtR_is, AtR_is, Option.bind_some, Option.bind_some, atS_nat, atS_nat, hw, hr]
      by_cases h : a.getD j 0 > b.getD j 0
      · rw [if_pos h]
        exact ⟨true, rfl, by simp only [true_iff]; exact ⟨j, Nat.le_refl _, hjl, h⟩⟩
      · rw [if_neg h]
        refine ⟨r, rfl, ?_⟩
        rw [hi]
        clear hi
        constructor
        · rintro ⟨m, h1, h2, h3⟩
          exact ⟨m, Nat.le_of_succ_le h1, h2, h3⟩
        · rintro ⟨m, h1, h2, h3⟩
          refine ⟨m, ?_, h2, h3⟩
          by_cases e : m = j
          · subst e; exact absurd h3 h
          · omega
    obtain ⟨r', hr', hi'⟩ := key
    refine ⟨r', ?_, hi'⟩
    clear hi hi'
    rw [argosyref09_above.l0]
    by_cases h : (j : Int) < (a.length : Int)
    · rw [if_pos h]; exact hr'
    · rw [if_neg h, decide_eq_true (by omega)]; exact hr'
theorem above_is {k : Nat} {a b : List Int} (ha : a.length ≤ 17592186044416) (hb : b.length ≤ 17592186044416) (hk : 35184372088900 ≤ k) : argosyref09_above.f k a b = some (moreS a b) := by
  have hle := lenS_le ha hb
  obtain ⟨r, hr, hi⟩ := above_loop a b ha hb (lenS a b) k 0 (by omega) (by omega)
  unfold argosyref09_above.f
  rw [show ((0 : Nat) : Int) = 0 from rfl] at hr
  rw [hr]
  congr 1
  apply bool_ext
  rw [hi, moreS_iff]
  constructor
  · rintro ⟨m, _, _, h⟩; exact ⟨m, h⟩
  · rintro ⟨m, h⟩
    refine ⟨m, Nat.zero_le _, ?_, h⟩
    rw [lenS_lt]
    by_cases h1 : m < a.length ∨ m < b.length
    · exact h1
    · rw [List.getD_eq_getElem?_getD, List.getD_eq_getElem?_getD, List.getElem?_eq_none (by omega), List.getElem?_eq_none (by omega)] at h
      simp at h
theorem RankR_is {k : Nat} {a b : List Int} (ha : a.length ≤ 17592186044416) (hb : b.length ≤ 17592186044416) (hk : 35184372088900 ≤ k) : argosyref09_Rank.f k a b = some (encR (lessS a b) (moreS a b)) := by
  obtain ⟨k, rfl⟩ : ∃ m, k = m + 1 := ⟨k - 1, by omega⟩
  unfold argosyref09_Rank.f
  rw [above_is ha hb hk, Option.bind_some, above_is hb ha hk, Option.bind_some, moreS_swap b a]
  simp only [argosyref09_Rank.j0]
  cases moreS a b <;> cases lessS a b <;> rfl

/-! ### Events alike -/
theorem ev_ext {a b : S45} (h0 : a.f0 = b.f0) (h1 : a.f1 = b.f1) (h2 : a.f2 = b.f2) (h3 : a.f3 = b.f3) : a = b := by
  cases a; cases b; simp_all
theorem SameEv_is {k : Nat} {a b : S45} (ha : a.f3.length ≤ 1000000) (hk : 1000001 ≤ k) : ∃ r, argosyref10_Same.f k a.f0 a.f1 a.f2 a.f3 b.f0 b.f1 b.f2 b.f3 = some r ∧ (r = true ↔ a = b) := by
  unfold argosyref10_Same.f
  by_cases h0 : a.f0 = b.f0
  · rw [if_pos h0]
    by_cases h1 : a.f1 = b.f1
    · rw [if_pos h1]
      by_cases h2 : a.f2 = b.f2
      · rw [if_pos h2, Same_of ha hk]
        exact ⟨_, rfl, by rw [decide_eq_true_iff]; exact ⟨ev_ext h0 h1 h2, fun h => by rw [h]⟩⟩
      · rw [if_neg h2]; exact ⟨_, rfl, ⟨fun h => (by cases h), fun h => absurd (congrArg S45.f2 h) h2⟩⟩
    · rw [if_neg h1]; exact ⟨_, rfl, ⟨fun h => (by cases h), fun h => absurd (congrArg S45.f1 h) h1⟩⟩
  · rw [if_neg h0]; exact ⟨_, rfl, ⟨fun h => (by cases h), fun h => absurd (congrArg S45.f0 h) h0⟩⟩
theorem rd_T45_nat (l : List S45) (i : Nat) (h : i < l.length) : rd_T45 l (i : Int) = l[i] := by
  unfold rd_T45
  rw [Int.toNat_natCast, List.getD_eq_getElem?_getD, List.getElem?_eq_getElem h]; rfl
theorem SameAll_loop (a b : List S45) (hl : a.length = b.length) (hm : a.length ≤ 1000000000) (hs : ∀ x ∈ a, x.f3.length ≤ 1000000) : ∀ (d k i : Nat), i + d = a.length → 1000002 + d ≤ k → ∃ r, argosyref10_SameAll.l0 k a b (i : Int) = some r ∧ (r = true ↔ a.drop i = b.drop i) := by
  intro d
  induction d with
  | zero =>
    intro k i hi hk
    obtain ⟨k, rfl⟩ : ∃ m, k = m + 1 := ⟨k - 1, by omega⟩
    rw [argosyref10_SameAll.l0, if_neg (by omega), List.drop_eq_nil_of_le (by omega), List.drop_eq_nil_of_le (by omega)]
    exact ⟨_, rfl, by simp⟩
  | succ d ih =>
    intro k i hi hk
    obtain ⟨k, rfl⟩ : ∃ m, k = m + 1 := ⟨k - 1, by omega⟩
    have h1 : i < a.length := by omega
    have h2 : i < b.length := by omega
    rw [argosyref10_SameAll.l0, if_pos (by omega), if_pos (by omega), if_pos (by omega), rd_T45_nat a i h1, rd_T45_nat b i h2]
    obtain ⟨r, hr, hiff⟩ := SameEv_is (k := k) (a := a[i]) (b := b[i]) (hs _ (List.getElem_mem h1)) (by omega)
    rw [hr, Option.bind_some]
    by_cases h : r = true
    · rw [if_pos h, show wrap64 ((i : Int) + 1) = ((i + 1 : Nat) : Int) from by unfold wrap64; omega]
      obtain ⟨q, hq, hqi⟩ := ih k (i + 1) (by omega) (by omega)
      refine ⟨q, hq, ?_⟩
      rw [hqi]
      have he := hiff.1 h
      exact ⟨fun e => by rw [List.drop_eq_getElem_cons h1, List.drop_eq_getElem_cons h2, he, e], fun e => by rw [List.drop_eq_getElem_cons h1, List.drop_eq_getElem_cons h2] at e; exact (List.cons.inj e).2⟩
    · rw [if_neg h]
      refine ⟨_, rfl, ⟨fun h => (by cases h), fun e => ?_⟩⟩
      rw [List.drop_eq_getElem_cons h1, List.drop_eq_getElem_cons h2] at e
      exact absurd (hiff.2 (List.cons.inj e).1) h
theorem SameAll_is {k : Nat} {a b : List S45} (hm : a.length ≤ 1000000000) (hs : ∀ x ∈ a, x.f3.length ≤ 1000000) (hk : 2000000000 ≤ k) : ∃ r, argosyref10_SameAll.f k a b = some r ∧ (r = true ↔ a = b) := by
  unfold argosyref10_SameAll.f
  by_cases h : a.length = b.length
  · rw [if_pos (by omega)]
    have := SameAll_loop a b h hm hs a.length k 0 (by omega) (by omega)
    simpa using this
  · rw [if_neg (by omega)]
    exact ⟨_, rfl, ⟨fun h => (by cases h), fun e => absurd (congrArg List.length e) h⟩⟩
theorem SameAll_self {k : Nat} {a : List S45} (hm : a.length ≤ 1000000000) (hs : ∀ x ∈ a, x.f3.length ≤ 1000000) (hk : 2000000000 ≤ k) : argosyref10_SameAll.f k a a = some true := by
  obtain ⟨r, hr, hi⟩ := SameAll_is (b := a) hm hs hk
  rw [hr, hi.2 rfl]

/-! ### The split -/
def ownP (hv s : List Int) : Nat → Nat → Option Nat
  | 0, _ => none
  | d + 1, i => if nextP hv s (i : Int) = true then some i else ownP hv s d (i + 1)
def splitP : List S45 → List Int → List (List S45) → Option (List (List S45))
  | [], _, rows => some rows
  | e :: es, hv, rows => match ownP hv e.f3 hv.length 0 with
    | none => none
    | some o => splitP es (hv.set o (hadP hv o + 1)) (rows.set o (rows.getD o [] ++ [e]))
def encO' : Option Nat → Int
  | none => -1
  | some i => i
theorem owner_loop {hv s : List Int} (a b c : Int) (h : hv.length ≤ 1000000) : ∀ (d k i : Nat), i + d = hv.length → d < k → merge_owner.l0 k hv (hv.length : Int) (i : Int) a b c s = some (encO' (ownP hv s d i))
  | d, k, i, hi, hk => by
    obtain ⟨k, rfl⟩ : ∃ m, k = m + 1 := ⟨k - 1, by omega⟩
    rw [merge_owner.l0]
    cases d with
    | zero => rw [if_neg (by omega)]; rfl
    | succ d =>
      rw [if_pos (by omega), next_is _ _ _ _ h, Option.bind_some, ownP]
      by_cases hc : nextP hv s (i : Int) = true
      · rw [if_pos hc, if_pos hc]; rfl
      · rw [if_neg hc, if_neg hc, show wrap64 ((i : Int) + 1) = ((i + 1 : Nat) : Int) from by unfold wrap64; omega]
        exact owner_loop a b c h d k (i + 1) (by omega) (by omega)
theorem owner_is {k : Nat} {hv s : List Int} (a b c : Int) (h : hv.length ≤ 1000000) (hk : hv.length < k) : merge_owner.f k hv a b c s = some (encO' (ownP hv s hv.length 0)) := by
  unfold merge_owner.f
  exact owner_loop a b c h hv.length k 0 (by omega) hk
theorem own_some {hv s : List Int} : ∀ d i j, ownP hv s d i = some j → i ≤ j ∧ j < i + d ∧ nextP hv s (j : Int) = true
  | 0, _, _, h => by simp [ownP] at h
  | d + 1, i, j, h => by
    rw [ownP] at h
    by_cases hc : nextP hv s (i : Int) = true
    · rw [if_pos hc] at h
      obtain rfl := Option.some.inj h
      exact ⟨Nat.le_refl _, by omega, hc⟩
    · rw [if_neg hc] at h
      obtain ⟨h1, h2, h3⟩ := own_some d (i + 1) j h
      exact ⟨by omega, by omega, h3⟩
theorem own_none {hv s : List Int} : ∀ d i, ownP hv s d i = none → ∀ m : Nat, i ≤ m → m < i + d → nextP hv s (m : Int) = false
  | 0, _, _, m, h1, h2 => by omega
  | d + 1, i, h, m, h1, h2 => by
    rw [ownP] at h
    by_cases hc : nextP hv s (i : Int) = true
    · rw [if_pos hc] at h; cases h
    · rw [if_neg hc] at h
      by_cases hm : m = i
      · subst hm; exact Bool.eq_false_iff.2 hc
      · exact own_none d (i + 1) h m (by omega) (by omega)
/-- Small counts. -/
def smallP (hv : List Int) (B : Nat) : Prop := ∀ i, 0 ≤ hadP hv i ∧ hadP hv i ≤ (B : Int)
theorem nextP_iff {hv s : List Int} {B : Nat} (hB : B ≤ 1000000000) (h : smallP hv B) (i : Nat) : nextP hv s (i : Int) = true ↔ s.length = hv.length ∧ s.getD i 0 = hadP hv i + 1 ∧ ∀ j, j ≠ i → s.getD j 0 ≤ hadP hv j := by
  unfold nextP
  rw [Bool.and_eq_true, decide_eq_true_iff, nextS_iff, atS_nat, atS_nat]
  have h1 := h i
  have hw : wrap64 (hv.getD i 0 + 1) = hadP hv i + 1 := by
    show wrap64 (hadP hv i + 1) = _
    unfold wrap64; omega
  rw [hw]
  constructor
  · rintro ⟨h2, _, _, h3, h4⟩
    refine ⟨h2, h3, fun j hj => ?_⟩
    rcases h4 j with h5 | h5
    · omega
    · exact h5
  · rintro ⟨h2, h3, h4⟩
    refine ⟨h2, by omega, ?_, h3, fun j => ?_⟩
    · show hadP hv i ≠ _
      omega
    · by_cases hj : j = i
      · exact .inl (by rw [hj])
      · exact .inr (h4 j hj)
theorem next_one {hv s : List Int} {B : Nat} (hB : B ≤ 1000000000) (h : smallP hv B) {i j : Nat} (hi : nextP hv s (i : Int) = true) (hj : nextP hv s (j : Int) = true) : i = j := by
  by_cases e : i = j
  · exact e
  · have h1 := ((nextP_iff hB h i).1 hi).2.1
    have h2 := ((nextP_iff hB h j).1 hj).2.2 i e
    omega
theorem own_of_next {hv s : List Int} {B : Nat} (hB : B ≤ 1000000000) (h : smallP hv B) {i : Nat} (hi : i < hv.length) (hn : nextP hv s (i : Int) = true) : ownP hv s hv.length 0 = some i := by
  cases hp : ownP hv s hv.length 0 with
  | none =>
    have := own_none _ _ hp i (by omega) (by omega)
    rw [hn] at this; cases this
  | some j =>
    obtain ⟨_, _, h3⟩ := own_some _ _ _ hp
    rw [next_one hB h h3 hn]
theorem smallP_set {hv : List Int} {B : Nat} (h : smallP hv B) {o : Nat} (ho : o < hv.length) : smallP (hv.set o (hadP hv o + 1)) (B + 1) := by
  intro i
  rw [hadP_set ho]
  have h1 := h o
  have h2 := h i
  split <;> omega
theorem getD_set {β : Type} (l : List β) (z : β) (o : Nat) (v : β) (ho : o < l.length) (i : Nat) : (l.set o v).getD i z = if i = o then v else l.getD i z := by
  rw [List.getD_eq_getElem?_getD, List.getD_eq_getElem?_getD, List.getElem?_set]
  by_cases h : o = i
  · subst h; simp [ho]
  · rw [if_neg h, if_neg (fun e => h e.symm)]
theorem split_is {k : Nat} : ∀ (l : List S45) (hv : List Int) (rows : List (List S45)) (B : Nat), B + l.length ≤ 1000000 → smallP hv B → hv.length ≤ 1000 → rows.length = hv.length → (∀ i, (rows.getD i []).length ≤ B) → 1001 ≤ k → splitM k l hv rows = some (splitP l hv rows)
  | [], _, _, _, _, _, _, _, _, _ => rfl
  | e :: es, hv, rows, B, hB, hs, hn, hr, hl, hk => by
    rw [List.length_cons] at hB
    rw [splitM, owner_is _ _ _ (by omega) (by omega), Option.bind_some, splitP]
    cases hp : ownP hv e.f3 hv.length 0 with
    | none => rw [show encO' none = -1 from rfl, if_pos (by omega)]
    | some o =>
      obtain ⟨_, h2, h3⟩ := own_some _ _ _ hp
      have ho : o < hv.length := by omega
      have hra : rowsAt rows (o : Int) = rows.getD o [] := by unfold rowsAt; rw [Int.toNat_natCast]
      have h1 := hl o
      have h4 := hs o
      rw [show encO' (some o) = (o : Int) from rfl, if_neg (by omega), hra, if_pos (by omega), Int.toNat_natCast, rd_nat]
      show splitM k es (hv.set o (wrap64 (hadP hv o + 1))) _ = _
      rw [show wrap64 (hadP hv o + 1) = hadP hv o + 1 from by unfold wrap64; omega]
      refine split_is es _ _ (B + 1) (by omega) (smallP_set hs ho) (by rw [List.length_set]; exact hn) (by rw [List.length_set, List.length_set]; exact hr) (fun i => ?_) hk
      rw [getD_set _ _ _ _ (by omega)]
      split
      · rw [List.length_append, List.length_singleton]; omega
      · have := hl i; omega
theorem small0 (n : Nat) : smallP (List.replicate n 0) 0 := by
  intro i
  unfold hadP
  rw [List.getD_eq_getElem?_getD, List.getElem?_replicate]
  split <;> simp
theorem nil0 {β : Type} (n i : Nat) : (List.replicate n ([] : List β)).getD i [] = [] := by
  rw [List.getD_eq_getElem?_getD, List.getElem?_replicate]
  split <;> rfl
/-- What the split tells. -/
def histP (l : List S45) (n : Int) : Option (List (List S45)) := if 1 ≤ n ∧ n ≤ 64 then splitP l (List.replicate n.toNat 0) (List.replicate n.toNat []) else none
def encH : Option (List (List S45)) → List (List S45) × Int
  | none => ([], 2)
  | some r => (r, 0)
theorem Split_is {k : Nat} {l : List S45} {n : Int} (hl : l.length ≤ 1000000) (hk : 1001 ≤ k) : merge_Split.f k l n = some (encH (histP l n)) := by
  unfold merge_Split.f splitF histP
  by_cases h : 1 ≤ n ∧ n ≤ 64
  · rw [if_pos h, if_pos h, split_is l _ _ 0 (by omega) (small0 _) (by simp; omega) (by simp) (fun i => by rw [nil0]; simp) hk, Option.bind_some]
    cases splitP l (List.replicate n.toNat 0) (List.replicate n.toNat []) with
    | none => rfl
    | some r => rfl
  · rw [if_neg h, if_neg h]; rfl
theorem Check_is {k : Nat} {l : List S45} {n : Int} (hl : l.length ≤ 1000000) (hk : 1001 ≤ k) : merge_Check.f k l n = some (encH (histP l n)).2 := by
  unfold merge_Check.f
  rw [Split_is hl hk]; rfl

/-! ### Histories -/
theorem inv_small {l : List (List S45)} {hv : List Int} {out : List S45} (h : InvP l hv out) (ht : totP l ≤ 150) : smallP hv 150 := by
  intro i
  refine ⟨h.lo i, ?_⟩
  by_cases hi : i < l.length
  · have h2 := h.hi i hi
    have h3 : lenP l i ≤ totP l := sumTo_ge l.length i hi (fun j _ => by unfold lenP; omega)
    omega
  · have : hadP hv i = 0 := by unfold hadP; rw [List.getD_eq_getElem?_getD, List.getElem?_eq_none (by rw [h.hl]; omega)]; rfl
    rw [this]; decide
theorem take_ev {l : List (List S45)} {hv : List Int} {i : Nat} (h0 : 0 ≤ hadP hv i) (hlt : hadP hv i < lenP l i) : (l.getD i []).take (hadP hv i).toNat ++ [evP l hv i] = (l.getD i []).take (hadP hv i + 1).toNat := by
  unfold lenP at hlt
  have h1 : (hadP hv i).toNat < (l.getD i []).length := by omega
  rw [show (hadP hv i + 1).toNat = (hadP hv i).toNat + 1 from by omega, List.take_add_one, List.getElem?_eq_getElem h1]
  congr 1
  show [evP l hv i] = [(l.getD i [])[(hadP hv i).toNat]]
  unfold evP rd_T45
  rw [List.getD_eq_getElem?_getD, List.getElem?_eq_getElem h1]
  rfl
/-- What was merged splits into its branches' first events. -/
theorem gen_split {l : List (List S45)} (ht : totP l ≤ 150) : ∀ (m : Nat) (hv : List Int) (out : List S45) (rows : List (List S45)), InvP l hv out → rows.length = l.length → (∀ i, i < l.length → rows.getD i [] = (l.getD i []).take (hadP hv i).toNat) →
    ∃ tail rows', (genP l m hv out).1 = out ++ tail ∧ splitP tail hv rows = some rows' ∧ rows'.length = l.length ∧ (∀ i, i < l.length → rows'.getD i [] = (l.getD i []).take (hadP (genP l m hv out).2 i).toNat) ∧ InvP l (genP l m hv out).2 (genP l m hv out).1
  | 0, hv, out, rows, hI, hr, h => ⟨[], rows, by rw [List.append_nil]; rfl, rfl, hr, h, hI⟩
  | m + 1, hv, out, rows, hI, hr, h => by
    rw [genP]
    cases hp : pickP l hv l.length 0 with
    | none => exact ⟨[], rows, by rw [List.append_nil], rfl, hr, h, hI⟩
    | some i =>
      obtain ⟨_, h2, h3, _⟩ := pick_some _ _ _ hp
      have hi : i < l.length := by omega
      have hiv : i < hv.length := by rw [hI.hl]; exact hi
      have hlt : hadP hv i < lenP l i := by unfold canP at h3; simp at h3; exact h3.1
      have hnx : nextP hv (evP l hv i).f3 (i : Int) = true := by unfold canP at h3; rw [Bool.and_eq_true] at h3; exact h3.2
      obtain ⟨hI2, _⟩ := hI.step hi h3 (evP l hv i)
      obtain ⟨tail, rows', e1, e2, e3, e4, e5⟩ := gen_split ht m (hv.set i (hadP hv i + 1)) (out ++ [evP l hv i]) (rows.set i (rows.getD i [] ++ [evP l hv i])) hI2 (by rw [List.length_set]; exact hr) (fun j hj => by
        rw [getD_set _ _ _ _ (by omega), hadP_set hiv]
        by_cases hji : j = i
        · subst hji
          rw [if_pos rfl, if_pos rfl, h j hj]
          exact take_ev (hI.lo j) hlt
        · rw [if_neg hji, if_neg hji]
          exact h j hj)
      refine ⟨evP l hv i :: tail, rows', ?_, ?_, e3, e4, e5⟩
      · simp only
        rw [e1, List.append_assoc]; rfl
      · rw [splitP, own_of_next (B := 150) (by omega) (inv_small hI ht) hiv hnx]
        exact e2
/-- The end of a merge: nothing can be told. -/
theorem gen_stuck {l : List (List S45)} : ∀ (m : Nat) (hv : List Int) (out : List S45), InvP l hv out → totP l ≤ out.length + m → ∀ i, i < l.length → canP l (genP l m hv out).2 i = false
  | 0, hv, out, hI, hm, i, hi => by
    cases hc : canP l hv i with
    | false => exact hc
    | true =>
      have := (hI.step hi hc z45).2
      omega
  | m + 1, hv, out, hI, hm, i, hi => by
    rw [genP]
    cases hp : pickP l hv l.length 0 with
    | none => exact pick_none _ _ hp i (by omega) (by omega)
    | some j =>
      obtain ⟨_, h2, h3, _⟩ := pick_some _ _ _ hp
      obtain ⟨hI2, hlt⟩ := hI.step (show j < l.length by omega) h3 (evP l hv j)
      exact gen_stuck m _ _ hI2 (by rw [List.length_append, List.length_singleton]; omega) i hi
theorem split_stamps : ∀ (h : List S45) (hv : List Int) (rows R : List (List S45)), splitP h hv rows = some R → ∀ x ∈ h, x.f3.length = hv.length
  | [], _, _, _, _, x, hx => by cases hx
  | e :: es, hv, rows, R, hs, x, hx => by
    rw [splitP] at hs
    cases hp : ownP hv e.f3 hv.length 0 with
    | none => rw [hp] at hs; cases hs
    | some o =>
      rw [hp] at hs
      obtain ⟨_, _, h3⟩ := own_some _ _ _ hp
      rcases List.mem_cons.1 hx with rfl | hx
      · unfold nextP at h3; simp at h3; exact h3.1
      · have := split_stamps es _ _ _ hs x hx
        rwa [List.length_set] at this
/-- Each event of a history stands above what was had ahead of it, at its branch. -/
theorem split_above : ∀ (h : List S45) (hv : List Int) (rows R : List (List S45)) (B : Nat), splitP h hv rows = some R → B + h.length ≤ 1000000 → smallP hv B → ∀ x ∈ h, ∀ s : List Int, (∀ j, s.getD j 0 ≤ hadP hv j) → ∃ j, s.getD j 0 < x.f3.getD j 0
  | [], _, _, _, _, _, _, _, x, hx => by cases hx
  | e :: es, hv, rows, R, B, hs, hB, hsm, x, hx => by
    intro s hle
    rw [List.length_cons] at hB
    rw [splitP] at hs
    cases hp : ownP hv e.f3 hv.length 0 with
    | none => rw [hp] at hs; cases hs
    | some o =>
      rw [hp] at hs
      obtain ⟨_, h2, h3⟩ := own_some _ _ _ hp
      have ho : o < hv.length := by omega
      obtain ⟨_, h4, _⟩ := (nextP_iff (by omega) hsm o).1 h3
      rcases List.mem_cons.1 hx with rfl | hx
      · exact ⟨o, by have := hle o; omega⟩
      · refine split_above es _ _ _ (B + 1) hs (by omega) (smallP_set hsm ho) x hx s (fun j => ?_)
        rw [hadP_set ho]
        have := hle j
        split
        · rename_i e; subst e; omega
        · exact this
theorem split_pairs : ∀ (h : List S45) (hv : List Int) (rows R : List (List S45)) (B : Nat), splitP h hv rows = some R → B + h.length ≤ 1000000 → smallP hv B → ∀ (i k : Nat) (hi : i < h.length) (hk : k < i), ∃ j, (h[k]'(by omega)).f3.getD j 0 < h[i].f3.getD j 0
  | [], _, _, _, _, _, _, _, i, _, hi, _ => absurd hi (Nat.not_lt_zero i)
  | e :: es, hv, rows, R, B, hs, hB, hsm, i, k, hi, hk => by
    rw [List.length_cons] at hB
    rw [splitP] at hs
    cases hp : ownP hv e.f3 hv.length 0 with
    | none => rw [hp] at hs; cases hs
    | some o =>
      rw [hp] at hs
      obtain ⟨_, h2, h3⟩ := own_some _ _ _ hp
      have ho : o < hv.length := by omega
      obtain ⟨_, h4, h5⟩ := (nextP_iff (by omega) hsm o).1 h3
      obtain ⟨i, rfl⟩ : ∃ q, i = q + 1 := ⟨i - 1, by omega⟩
      rw [List.length_cons] at hi
      cases k with
      | zero =>
        refine split_above es _ _ _ (B + 1) hs (by omega) (smallP_set hsm ho) _ (List.getElem_mem (by omega)) e.f3 (fun j => ?_)
        rw [hadP_set ho]
        split
        · rename_i e2; subst e2; omega
        · rename_i e2; exact h5 j e2
      | succ k => exact split_pairs es _ _ _ (B + 1) hs (by omega) (smallP_set hsm ho) i k (by omega) (by omega)
/-- What a split leaves: rows that go on, and how many events. -/
theorem split_rows : ∀ (h : List S45) (hv : List Int) (rows R : List (List S45)), splitP h hv rows = some R → rows.length = hv.length → R.length = rows.length ∧ (∀ i, ∃ t, R.getD i [] = rows.getD i [] ++ t) ∧ sumTo (lenP R) R.length = sumTo (lenP rows) rows.length + h.length
  | [], _, _, _, hs, _ => by obtain rfl := Option.some.inj hs; exact ⟨rfl, fun i => ⟨[], by rw [List.append_nil]⟩, by simp⟩
  | e :: es, hv, rows, R, hs, hr => by
    rw [splitP] at hs
    cases hp : ownP hv e.f3 hv.length 0 with
    | none => rw [hp] at hs; cases hs
    | some o =>
      rw [hp] at hs
      obtain ⟨_, h2, h3⟩ := own_some _ _ _ hp
      have ho : o < rows.length := by omega
      obtain ⟨h4, h5, h6⟩ := split_rows es _ _ _ hs (by rw [List.length_set, List.length_set]; exact hr)
      rw [List.length_set] at h4 h6
      refine ⟨h4, fun i => ?_, ?_⟩
      · obtain ⟨t, ht⟩ := h5 i
        rw [getD_set _ _ _ _ ho] at ht
        by_cases hi : i = o
        · subst hi
          rw [if_pos rfl, List.append_assoc] at ht
          exact ⟨_, ht⟩
        · rw [if_neg hi] at ht
          exact ⟨t, ht⟩
      · rw [h6, sumTo_at (f := lenP rows) (c := 1) rows.length o ho (by unfold lenP; rw [getD_set _ _ _ _ ho, if_pos rfl, List.length_append, List.length_singleton]; omega) (fun j _ hne => by unfold lenP; rw [getD_set _ _ _ _ ho, if_neg hne]), List.length_cons]
        omega
/-- Of a history no part is stuck. -/
theorem split_can : ∀ (h : List S45) (hv : List Int) (rows R : List (List S45)) (B : Nat), splitP h hv rows = some R → rows.length = hv.length → B + h.length ≤ 1000000 → smallP hv B → (∀ i, i < hv.length → hadP hv i = lenP rows i) →
    ∀ v : List Int, v.length = hv.length → smallP v 1000000 → (∀ i, i < hv.length → hadP hv i ≤ hadP v i) → (∃ i, i < hv.length ∧ hadP v i < lenP R i) → ∃ i, i < hv.length ∧ canP R v i = true
  | [], hv, rows, R, B, hs, hr, hB, hsm, hlen, v, hv1, hv2, hv3, hv4 => by
    obtain rfl := Option.some.inj hs
    obtain ⟨i, hi, hlt⟩ := hv4
    have h1 := hlen i hi
    have h2 := hv3 i hi
    omega
  | e :: es, hv, rows, R, B, hs, hr, hB, hsm, hlen, v, hv1, hv2, hv3, hv4 => by
    rw [List.length_cons] at hB
    rw [splitP] at hs
    cases hp : ownP hv e.f3 hv.length 0 with
    | none => rw [hp] at hs; cases hs
    | some o =>
      rw [hp] at hs
      obtain ⟨_, h2, h3⟩ := own_some _ _ _ hp
      have ho : o < hv.length := by omega
      have hor : o < rows.length := by omega
      obtain ⟨h4, h5, h6⟩ := (nextP_iff (by omega) hsm o).1 h3
      by_cases hge : hadP hv o + 1 ≤ hadP v o
      · obtain ⟨i, hi, hc⟩ := split_can es _ _ R (B + 1) hs (by rw [List.length_set, List.length_set]; exact hr) (by omega) (smallP_set hsm ho) (fun i hi => by
          rw [List.length_set] at hi
          rw [hadP_set ho]
          unfold lenP
          rw [getD_set _ _ _ _ hor]
          by_cases hio : i = o
          · subst hio
            have := hlen i hi
            unfold lenP at this
            rw [if_pos rfl, if_pos rfl, List.length_append, List.length_singleton]; omega
          · rw [if_neg hio, if_neg hio]
            exact hlen i hi) v (by rw [List.length_set]; exact hv1) hv2 (fun i hi => by
          rw [List.length_set] at hi
          rw [hadP_set ho]
          split
          · rename_i e; subst e; exact hge
          · exact hv3 i hi) (by rw [List.length_set]; exact hv4)
        rw [List.length_set] at hi
        exact ⟨i, hi, hc⟩
      · have hvo : hadP v o = hadP hv o := by have := hv3 o ho; omega
        obtain ⟨_, hpre, _⟩ := split_rows es _ _ _ hs (by rw [List.length_set, List.length_set]; exact hr)
        obtain ⟨t, hto⟩ := hpre o
        rw [getD_set _ _ _ _ hor, if_pos rfl] at hto
        have hl := hlen o ho
        unfold lenP at hl
        have hev : evP R v o = e := by
          unfold evP rd_T45
          rw [hvo, hto, hl, Int.toNat_natCast, List.getD_eq_getElem?_getD, List.append_assoc, List.getElem?_append_right (Nat.le_refl _), Nat.sub_self]
          rfl
        refine ⟨o, ho, ?_⟩
        unfold canP
        rw [Bool.and_eq_true, decide_eq_true_iff, hev]
        refine ⟨?_, (nextP_iff (B := 1000000) (by omega) hv2 o).2 ⟨by rw [hv1]; exact h4, by rw [hvo]; exact h5, fun j hj => ?_⟩⟩
        · unfold lenP
          rw [hto, hvo, hl, List.length_append, List.length_append, List.length_singleton]
          omega
        · have h7 := h6 j hj
          by_cases hjl : j < hv.length
          · have := hv3 j hjl; omega
          · have e1 : hadP hv j = 0 := by unfold hadP; rw [List.getD_eq_getElem?_getD, List.getElem?_eq_none (by omega)]; rfl
            have := (hv2 j).1
            omega

/-! ### What the merge tells -/
theorem gen_stamps {l : List (List S45)} : ∀ (m : Nat) (hv : List Int) (out : List S45), hv.length = l.length → ∀ x ∈ (genP l m hv out).1, x ∈ out ∨ x.f3.length = l.length
  | 0, _, _, _, x, hx => .inl hx
  | m + 1, hv, out, hl, x, hx => by
    rw [genP] at hx
    cases hp : pickP l hv l.length 0 with
    | none => rw [hp] at hx; exact .inl hx
    | some i =>
      rw [hp] at hx
      obtain ⟨_, _, h3, _⟩ := pick_some _ _ _ hp
      rcases gen_stamps m _ _ (by rw [List.length_set]; exact hl) x hx with h | h
      · rcases List.mem_append.1 h with h | h
        · exact .inl h
        · obtain rfl := List.mem_singleton.1 h
          unfold canP nextP at h3
          simp at h3
          exact .inr (h3.2.1.trans hl)
      · exact .inr h
theorem gen_len {l : List (List S45)} : ∀ (m : Nat) (hv : List Int) (out : List S45), (genP l m hv out).1.length ≤ out.length + m ∧ (genP l m hv out).2.length = hv.length
  | 0, _, _ => ⟨Nat.le_refl _, rfl⟩
  | m + 1, hv, out => by
    rw [genP]
    cases hp : pickP l hv l.length 0 with
    | none => exact ⟨(by show out.length ≤ out.length + (m + 1); omega), rfl⟩
    | some i =>
      obtain ⟨h1, h2⟩ := gen_len m (hv.set i (hadP hv i + 1)) (out ++ [evP l hv i])
      simp only
      rw [List.length_append] at h1
      rw [List.length_set] at h2
      exact ⟨by simp at h1; omega, h2⟩
/-- What the merge of few branches' logs tells. -/
def mergeP (l : List (List S45)) : List S45 × List Int := if 1 ≤ l.length ∧ l.length ≤ 64 then genP l 150 (List.replicate l.length 0) [] else ([], [])
theorem mergeP_len (l : List (List S45)) : (mergeP l).1.length ≤ 150 ∧ (mergeP l).2.length ≤ 64 ∧ ∀ x ∈ (mergeP l).1, x.f3.length = l.length ∧ l.length ≤ 64 := by
  unfold mergeP
  by_cases h : 1 ≤ l.length ∧ l.length ≤ 64
  · rw [if_pos h]
    obtain ⟨h1, h2⟩ := gen_len (l := l) 150 (List.replicate l.length 0) []
    refine ⟨by simpa using h1, by rw [h2]; simp; exact h.2, fun x hx => ?_⟩
    rcases gen_stamps 150 _ _ (by simp) x hx with h3 | h3
    · cases h3
    · exact ⟨h3, h.2⟩
  · rw [if_neg h]
    exact ⟨by simp, by simp, fun x hx => by cases hx⟩

/-! ### Histories, on -/
theorem split_mem : ∀ (h : List S45) (hv : List Int) (rows R : List (List S45)), splitP h hv rows = some R → rows.length = hv.length → ∀ i, ∀ x ∈ R.getD i [], x ∈ rows.getD i [] ∨ x ∈ h
  | [], _, _, _, hs, _, i, x, hx => by obtain rfl := Option.some.inj hs; exact .inl hx
  | e :: es, hv, rows, R, hs, hr, i, x, hx => by
    rw [splitP] at hs
    cases hp : ownP hv e.f3 hv.length 0 with
    | none => rw [hp] at hs; cases hs
    | some o =>
      rw [hp] at hs
      obtain ⟨_, h2, _⟩ := own_some _ _ _ hp
      rcases split_mem es _ _ _ hs (by rw [List.length_set, List.length_set]; exact hr) i x hx with h | h
      · rw [getD_set _ _ _ _ (by omega)] at h
        split at h
        · rename_i e2; subst e2
          rcases List.mem_append.1 h with h | h
          · exact .inl h
          · exact .inr (by rw [List.mem_singleton.1 h]; exact List.mem_cons_self ..)
        · exact .inl h
      · exact .inr (List.mem_cons_of_mem _ h)
theorem had0 (n i : Nat) : hadP (List.replicate n 0) i = 0 := by
  unfold hadP
  rw [List.getD_eq_getElem?_getD, List.getElem?_replicate]
  split <;> rfl
/-- The merge of few branches' logs: a history that splits into first events; nothing more can be told. -/
theorem merge_split {l : List (List S45)} (h1 : 1 ≤ l.length) (h2 : l.length ≤ 64) (ht : totP l ≤ 150) :
    ∃ R, histP (mergeP l).1 (l.length : Int) = some R ∧ R.length = l.length ∧ (∀ i, i < l.length → R.getD i [] = (l.getD i []).take (hadP (mergeP l).2 i).toNat) ∧ InvP l (mergeP l).2 (mergeP l).1 ∧ (∀ i, i < l.length → canP l (mergeP l).2 i = false) := by
  obtain ⟨tail, R, e1, e2, e3, e4, e5⟩ := gen_split ht 150 _ [] (List.replicate l.length []) (inv0 l) (by simp) (fun i _ => by rw [nil0, had0]; rfl)
  rw [List.nil_append] at e1
  have hm : mergeP l = genP l 150 (List.replicate l.length 0) [] := by unfold mergeP; rw [if_pos ⟨h1, h2⟩]
  rw [hm]
  refine ⟨R, ?_, e3, e4, e5, fun i hi => gen_stuck 150 _ _ (inv0 l) (by simp; omega) i hi⟩
  unfold histP
  rw [if_pos (by omega), Int.toNat_natCast, e1]
  exact e2
theorem hist_len {h : List S45} {n : Int} {R : List (List S45)} (hh : histP h n = some R) : 1 ≤ n ∧ n ≤ 64 ∧ (R.length : Int) = n ∧ totP R = h.length ∧ (∀ x ∈ h, (x.f3.length : Int) = n) ∧ (∀ i, ∀ x ∈ R.getD i [], x ∈ h) ∧ splitP h (List.replicate n.toNat 0) (List.replicate n.toNat []) = some R := by
  unfold histP at hh
  by_cases hn : 1 ≤ n ∧ n ≤ 64
  · rw [if_pos hn] at hh
    obtain ⟨e1, e2, e3⟩ := split_rows _ _ _ _ hh (by simp)
    rw [List.length_replicate] at e1
    refine ⟨hn.1, hn.2, by omega, ?_, fun x hx => ?_, fun i x hx => ?_, hh⟩
    · unfold totP
      rw [e3, sumTo_congr (g := fun _ => 0) _ (fun j _ => by unfold lenP; rw [nil0]; rfl)]
      have : ∀ n, sumTo (fun _ => 0) n = 0 := fun n => by induction n with | zero => rfl | succ n ih => rw [sumTo, ih]; rfl
      rw [this]; omega
    · have := split_stamps _ _ _ _ hh x hx
      rw [List.length_replicate] at this
      omega
    · rcases split_mem _ _ _ _ hh (by simp) i x hx with h | h
      · rw [nil0] at h; cases h
      · exact h
  · rw [if_neg hn] at hh; cases hh
/-- A history that was split is merged whole. -/
theorem hist_whole {h : List S45} {n : Int} {R : List (List S45)} (hl : h.length ≤ 150) (hh : histP h n = some R) : histP (mergeP R).1 n = some R ∧ (mergeP R).1.length = h.length := by
  obtain ⟨hn1, hn2, e1, e2, e3, e4, e5⟩ := hist_len hh
  have ht : totP R ≤ 150 := by omega
  obtain ⟨R', f1, f2, f3, f4, f5⟩ := merge_split (l := R) (by omega) (by omega) ht
  have full : ∀ i, i < R.length → hadP (mergeP R).2 i = lenP R i := by
    intro i hi
    have h1 := f4.hi i hi
    by_cases hlt : hadP (mergeP R).2 i < lenP R i
    · have hz : (List.replicate n.toNat (0 : Int)).length = R.length := by simp; omega
      obtain ⟨j, hj, hc⟩ := split_can h _ _ R 0 e5 (by simp) (by omega) (small0 _) (fun i _ => by rw [had0]; unfold lenP; rw [nil0]; rfl) (mergeP R).2 (by rw [f4.hl, hz]) (fun i => by have := inv_small f4 ht i; omega) (fun i _ => by rw [had0]; exact f4.lo i) ⟨i, by rw [hz]; exact hi, hlt⟩
      rw [f5 j (by rw [← hz]; exact hj)] at hc
      cases hc
    · omega
  have hR : R' = R := by
    apply List.ext_getElem f2
    intro i h1 h2
    have := f3 i h2
    rw [full i h2] at this
    unfold lenP at this
    rw [Int.toNat_natCast, List.take_length, List.getD_eq_getElem?_getD, List.getD_eq_getElem?_getD, List.getElem?_eq_getElem h1, List.getElem?_eq_getElem h2] at this
    exact this
  subst hR
  refine ⟨by rw [← e1]; exact f1, ?_⟩
  have := f4.cnt
  rw [sumTo_congr _ full] at this
  have : totP R' = _ := this.symm
  omega

/-! ### Rows alike -/
theorem rd_L4_nat (l : List (List S45)) (i : Nat) : rd_L4 l (i : Int) = l.getD i [] := by unfold rd_L4; rw [Int.toNat_natCast]
theorem SameRows_loop {l : List (List S45)} (hn : l.length ≤ 64) (hlen : ∀ i, (l.getD i []).length ≤ 1000) (hst : ∀ i, ∀ x ∈ l.getD i [], x.f3.length ≤ 64) : ∀ (d k i : Nat), i + d = l.length → 2000000000 + d + 1 ≤ k → argosyref11_SameRows.l0 k l l (i : Int) = some true
  | d, k, i, hi, hk => by
    obtain ⟨k, rfl⟩ : ∃ m, k = m + 1 := ⟨k - 1, by omega⟩
    rw [argosyref11_SameRows.l0]
    cases d with
    | zero => rw [if_neg (by omega)]
    | succ d =>
      rw [if_pos (by omega), if_pos (by omega), if_pos (by omega), rd_L4_nat, SameAll_self (by have := hlen i; omega) (fun x hx => by have := hst i x hx; omega) (by omega), Option.bind_some, if_pos rfl, show wrap64 ((i : Int) + 1) = ((i + 1 : Nat) : Int) from by unfold wrap64; omega]
      exact SameRows_loop hn hlen hst d k (i + 1) (by omega) (by omega)
theorem SameRows_self {k : Nat} {l : List (List S45)} (hn : l.length ≤ 64) (hlen : ∀ i, (l.getD i []).length ≤ 1000) (hst : ∀ i, ∀ x ∈ l.getD i [], x.f3.length ≤ 64) (hk : 2000001000 ≤ k) : argosyref11_SameRows.f k l l = some true := by
  unfold argosyref11_SameRows.f
  rw [if_pos rfl]
  exact SameRows_loop hn hlen hst l.length k 0 (by omega) (by omega)

/-! ### The document's branches -/
def bP : List S45 → List Int → List Int → Option (List Int)
  | [], _, out => some out
  | e :: es, hv, out => match ownP hv e.f3 hv.length 0 with
    | none => none
    | some o => bP es (hv.set o (hadP hv o + 1)) (out ++ [(o : Int)])
theorem own_succ {hv s : List Int} : ∀ (d i : Nat), ownP hv s (d + 1) i = match ownP hv s d i with | some j => some j | none => if nextP hv s ((i + d : Nat) : Int) = true then some (i + d) else none
  | 0, i => by simp [ownP]
  | d + 1, i => by
    rw [ownP, own_succ d (i + 1)]
    conv => rhs; rw [ownP]
    by_cases hc : nextP hv s (i : Int) = true
    · rw [if_pos hc, if_pos hc]
    · rw [if_neg hc, if_neg hc, show i + 1 + d = i + (d + 1) from by omega]
theorem bran_l1 {l : List S45} {hv out : List Int} {B : Nat} (hB : B ≤ 1000000000) (hs : smallP hv B) (hn : hv.length ≤ 64) (j : Nat) (hj : j < l.length) (e : S45) (he : l[j] = e) : ∀ (d k i : Nat), i + d = hv.length → 2000011 ≤ k →
    argosyref12_Branches.l1 (k + d) l (hv.length : Int) hv out (j : Int) (encO' (ownP hv e.f3 i 0)) (i : Int) = argosyref12_Branches.l1 k l (hv.length : Int) hv out (j : Int) (encO' (ownP hv e.f3 hv.length 0)) (hv.length : Int)
  | 0, k, i, hi, hk => by obtain rfl : i = hv.length := by omega
                          rfl
  | d + 1, k, i, hi, hk => by
    rw [show k + (d + 1) = (k + d) + 1 from rfl, argosyref12_Branches.l1, if_pos (by omega), if_pos (by omega), if_pos (by omega), rd_T45_nat l j hj, he, nextR_is _ _ _ _ (by omega) (by omega), Option.bind_some, show wrap64 ((i : Int) + 1) = ((i + 1 : Nat) : Int) from by unfold wrap64; omega]
    have hsu := own_succ (hv := hv) (s := e.f3) i 0
    rw [Nat.zero_add] at hsu
    by_cases hc : nextP hv e.f3 (i : Int) = true
    · rw [if_pos hc]
      have h0 : ownP hv e.f3 i 0 = none := by
        cases hp : ownP hv e.f3 i 0 with
        | none => rfl
        | some q =>
          obtain ⟨_, h2, h3⟩ := own_some _ _ _ hp
          have := next_one hB hs h3 hc
          omega
      rw [h0] at hsu
      simp only at hsu
      rw [if_pos hc] at hsu
      rw [show (i : Int) = encO' (ownP hv e.f3 (i + 1) 0) from by rw [hsu]; rfl]
      exact bran_l1 hB hs hn j hj e he d k (i + 1) (by omega) hk
    · rw [if_neg hc]
      have h1 : ownP hv e.f3 (i + 1) 0 = ownP hv e.f3 i 0 := by
        rw [hsu]
        cases hp : ownP hv e.f3 i 0 with
        | none => simp only; rw [if_neg hc]
        | some q => rfl
      rw [← h1]
      exact bran_l1 hB hs hn j hj e he d k (i + 1) (by omega) hk
def encB : Option (List Int) → List Int × Bool
  | none => ([], false)
  | some b => (b, true)
theorem bran_l0 {l : List S45} (hl : l.length ≤ 1000) : ∀ (d k j : Nat) (hv out : List Int) (B : Nat), j + d = l.length → B + d ≤ 1000000 → smallP hv B → hv.length ≤ 64 → out.length + d ≤ 1000 → 2000020 + d * 100 ≤ k →
    argosyref12_Branches.l0 k l (hv.length : Int) hv out (j : Int) = some (encB (bP (l.drop j) hv out))
  | d, k, j, hv, out, B, hj, hB, hs, hn, ho, hk => by
    obtain ⟨k, rfl⟩ : ∃ m, k = m + 1 := ⟨k - 1, by omega⟩
    rw [argosyref12_Branches.l0]
    cases d with
    | zero => rw [if_neg (by omega), List.drop_eq_nil_of_le (by omega)]; rfl
    | succ d =>
      have hjl : j < l.length := by omega
      rw [if_pos (by omega), List.drop_eq_getElem_cons hjl, bP]
      obtain ⟨k, rfl⟩ : ∃ q, k = (q + 1) + hv.length := ⟨k - 1 - hv.length, by omega⟩
      have h1 := bran_l1 (l := l) (out := out) (B := B) (by omega) hs hn j hjl l[j] rfl hv.length (k + 1) 0 (by omega) (by omega)
      rw [show encO' (ownP hv l[j].f3 0 0) = -1 from rfl, show ((0 : Nat) : Int) = 0 from rfl] at h1
      rw [h1, argosyref12_Branches.l1, if_neg (by omega)]
      cases hp : ownP hv l[j].f3 hv.length 0 with
      | none => rw [show encO' none = -1 from rfl, if_pos (by omega)]; rfl
      | some o =>
        obtain ⟨_, h2, h3⟩ := own_some _ _ _ hp
        have ho2 : o < hv.length := by omega
        have h4 := hs o
        rw [show encO' (some o) = (o : Int) from rfl, if_neg (by omega), if_pos (by omega), if_pos (by omega), if_pos (by omega), Int.toNat_natCast, rd_nat, show wrap64 ((j : Int) + 1) = ((j + 1 : Nat) : Int) from by unfold wrap64; omega]
        show argosyref12_Branches.l0 k l _ (hv.set o (wrap64 (hadP hv o + 1))) _ _ = _
        rw [show wrap64 (hadP hv o + 1) = hadP hv o + 1 from by unfold wrap64; omega]
        have h5 := bran_l0 hl d k (j + 1) (hv.set o (hadP hv o + 1)) (out ++ [(o : Int)]) (B + 1) (by omega) (by omega) (smallP_set hs ho2) (by rw [List.length_set]; exact hn) (by rw [List.length_append, List.length_singleton]; omega) (by omega)
        rw [List.length_set] at h5
        exact h5
def histB (l : List S45) (n : Int) : Option (List Int) := if 1 ≤ n ∧ n ≤ 64 then bP l (List.replicate n.toNat 0) [] else none
theorem Branches_is {k : Nat} {l : List S45} {n : Int} (hl : l.length ≤ 1000) (hk : 3000000 ≤ k) : argosyref12_Branches.f k l n = some (encB (histB l n)) := by
  obtain ⟨k, rfl⟩ : ∃ q, k = q + 1 := ⟨k - 1, by omega⟩
  unfold argosyref12_Branches.f histB
  have hj : ∀ b : Bool, argosyref12_Branches.j0 (k + 1) l n b = if b = true then some ([], false) else if 0 ≤ n then if n.toNat ≤ 35184372088832 then argosyref12_Branches.l0 k l n (List.replicate n.toNat 0) [] 0 else none else none := fun b => by rw [argosyref12_Branches.j0]
  by_cases h1 : n < 1
  · rw [if_pos h1, hj, if_pos rfl, if_neg (by omega)]; rfl
  · rw [if_neg h1, hj]
    by_cases h2 : n > 64
    · rw [if_pos (decide_eq_true h2), if_neg (by omega)]; rfl
    · rw [if_neg (by rw [decide_eq_true_iff]; exact h2), if_pos (by omega), if_pos (by omega), if_pos (by omega)]
      have := bran_l0 hl l.length k 0 (List.replicate n.toNat 0) [] 0 (by omega) (by omega) (small0 _) (by simp; omega) (by simp; omega) (by omega)
      rw [List.length_replicate, show ((n.toNat : Nat) : Int) = n from by omega] at this
      exact this
theorem bP_more : ∀ (l : List S45) (hv out b : List Int), bP l hv out = some b → ∃ t, b = out ++ t
  | [], _, out, b, h => by obtain rfl := Option.some.inj h; exact ⟨[], by rw [List.append_nil]⟩
  | e :: es, hv, out, b, h => by
    rw [bP] at h
    cases hp : ownP hv e.f3 hv.length 0 with
    | none => rw [hp] at h; cases h
    | some o =>
      rw [hp] at h
      obtain ⟨t, rfl⟩ := bP_more es _ _ _ h
      exact ⟨[(o : Int)] ++ t, by rw [List.append_assoc]⟩
theorem bP_none : ∀ (l : List S45) (hv out : List Int) (rows : List (List S45)), bP l hv out = none → splitP l hv rows = none
  | [], _, _, _, h => by cases h
  | e :: es, hv, out, rows, h => by
    rw [bP] at h
    rw [splitP]
    cases hp : ownP hv e.f3 hv.length 0 with
    | none => rfl
    | some o =>
      rw [hp] at h
      exact bP_none es _ _ _ h
theorem refM_is : ∀ (l : List S45) (hv out b : List Int) (rows : List (List S45)) (B : Nat), bP l hv out = some b → rows.length = hv.length → B + l.length ≤ 1000000 → (∀ i, (rows.getD i []).length ≤ B) → refM b l out.length rows = splitP l hv rows ∧ ∃ R, splitP l hv rows = some R
  | [], _, _, _, rows, _, _, _, _, _ => ⟨rfl, rows, rfl⟩
  | e :: es, hv, out, b, rows, B, h, hr, hB, hl => by
    rw [List.length_cons] at hB
    rw [bP] at h
    rw [refM, splitP]
    cases hp : ownP hv e.f3 hv.length 0 with
    | none => rw [hp] at h; cases h
    | some o =>
      rw [hp] at h
      obtain ⟨_, h2, _⟩ := own_some _ _ _ hp
      obtain ⟨t, ht⟩ := bP_more es _ _ _ h
      have e1 : rd b (out.length : Int) = (o : Int) := by
        rw [rd_nat, ht, List.append_assoc, List.getD_eq_getElem?_getD, List.getElem?_append_right (Nat.le_refl _), Nat.sub_self]; rfl
      have e2 : out.length < b.length := by rw [ht, List.length_append, List.length_append, List.length_singleton]; omega
      have hra : rowsAt rows (o : Int) = rows.getD o [] := by unfold rowsAt; rw [Int.toNat_natCast]
      have h1 := hl o
      rw [e1, Int.toNat_natCast, if_pos ⟨e2, by omega, by omega⟩, hra, if_pos (by omega)]
      have := refM_is es _ _ _ (rows.set o (rows.getD o [] ++ [e])) (B + 1) h (by rw [List.length_set, List.length_set]; exact hr) (by omega) (fun i => by
        rw [getD_set _ _ _ _ (by omega)]
        split
        · rw [List.length_append, List.length_singleton]; omega
        · have := hl i; omega)
      rw [List.length_append, List.length_singleton] at this
      exact this
theorem RefSplit_is {k : Nat} {l : List S45} {n : Int} (hl : l.length ≤ 1000) (hk : 3000000 ≤ k) : argosyref12_Split.f k l n = some (encH (histP l n)) ∧ argosyref12_Check.f k l n = some (encH (histP l n)).2 := by
  unfold argosyref12_Split.f refF argosyref12_Check.f
  rw [Branches_is hl hk, Option.bind_some, Option.bind_some]
  unfold histB histP
  by_cases h : 1 ≤ n ∧ n ≤ 64
  · simp only [if_pos h]
    cases hb : bP l (List.replicate n.toNat 0) [] with
    | none =>
      rw [bP_none _ _ _ (List.replicate n.toNat []) hb]
      exact ⟨rfl, rfl⟩
    | some b =>
      obtain ⟨e1, R, e2⟩ := refM_is l _ _ _ (List.replicate n.toNat []) 0 hb (by simp) (by omega) (fun i => by rw [nil0]; simp)
      rw [e2]
      rw [e2] at e1
      rw [show (encB (some b)) = (b, true) from rfl, if_pos rfl, if_pos rfl]
      rw [show ([] : List Int).length = 0 from rfl] at e1
      rw [e1]
      exact ⟨rfl, rfl⟩
  · simp only [if_neg h]
    exact ⟨rfl, rfl⟩

theorem Rank_isW {a b : List Int} (ha : a.length ≤ 17592186044416) (hb : b.length ≤ 17592186044416) : stamp_Rank.f a b = some (encR (lessS a b) (moreS a b)) := by
  unfold stamp_Rank.f
  rw [if_pos ⟨ha, hb⟩, rankW_is]
theorem ahead_both {h : List S45} (hs : ∀ x ∈ h, x.f3.length ≤ 17592186044416) (i k : Int) {K : Nat} (hK : 35184372088900 ≤ K) : ∃ r, merge_Ahead.f h i k = some r ∧ argosyref12_Ahead.f K h i k = some r := by
  unfold merge_Ahead.f aheadM thereM argosyref12_Ahead.f
  by_cases hi : 0 ≤ i ∧ i < (h.length : Int)
  · by_cases hk : 0 ≤ k ∧ k < (h.length : Int)
    · have mem : ∀ j : Int, 0 ≤ j → j < (h.length : Int) → rd_T45 h j ∈ h := by
        intro j h0 h1
        obtain ⟨m, rfl⟩ : ∃ m : Nat, j = (m : Int) := ⟨j.toNat, by omega⟩
        rw [rd_T45_nat h m (by omega)]
        exact List.getElem_mem _
      have h1 := hs _ (mem i hi.1 hi.2)
      have h2 := hs _ (mem k hk.1 hk.2)
      rw [if_pos (by simp; omega), if_pos (by simp; omega), Rank_isW h1 h2, Option.bind_some, if_pos (by omega), if_pos (by omega), if_pos (by omega), if_pos (by omega), if_pos (by omega), if_pos (by omega), RankR_is h1 h2 hK, Option.bind_some]
      refine ⟨_, rfl, ?_⟩
      congr 1
    · rw [if_pos (by simp; omega), if_neg (by simp; omega)]
      refine ⟨false, rfl, ?_⟩
      rw [if_pos (by omega)]
      by_cases hk0 : k ≥ 0
      · rw [if_pos hk0, if_pos (by omega), if_neg (by omega)]
      · rw [if_neg hk0]
  · rw [if_neg (by simp; omega)]
    refine ⟨false, rfl, ?_⟩
    by_cases hi0 : i ≥ 0
    · rw [if_pos hi0]
      by_cases hk0 : k ≥ 0
      · rw [if_pos hk0, if_neg (by omega)]
      · rw [if_neg hk0]
    · rw [if_neg hi0]
theorem MergeSplits : argosylaw12_MergeSplits.Pure := fun h n i k hn hs _ _ _ => ⟨35184372088900, by
  have hlv : argosylaw12_lives.f 35184372088900 = some true := lives_is (by decide)
  unfold argosylaw12_MergeSplits.f argosylaw12_short.f
  rw [Option.bind_some]
  by_cases hl : h.length ≤ 150
  · obtain ⟨s1, s2⟩ := RefSplit_is (k := 35184372088900) (l := h) (n := n) (by omega) (by decide)
    obtain ⟨r, a1, a2⟩ := ahead_both (K := 35184372088900) (fun x hx => by have := (hs x hx).2.2.2.1; omega) i k (by decide)
    have hrows : argosyref11_SameRows.f 35184372088900 (encH (histP h n)).1 (encH (histP h n)).1 = some true := by
      cases hh : histP h n with
      | none => exact SameRows_self (by simp [encH]) (fun i => by simp [encH]) (fun i x hx => by simp [encH] at hx) (by decide)
      | some R =>
        obtain ⟨hn1, hn2, e1, e2, e3, e4, _⟩ := hist_len hh
        refine SameRows_self (by show R.length ≤ 64; omega) (fun i => ?_) (fun i x hx => by have := e3 x (e4 i x hx); omega) (by decide)
        show (R.getD i []).length ≤ 1000
        by_cases hi : i < R.length
        · have : lenP R i ≤ totP R := sumTo_ge R.length i hi (fun j _ => by unfold lenP; omega)
          unfold lenP at this
          omega
        · rw [List.getD_eq_getElem?_getD, List.getElem?_eq_none (by omega)]; simp
    rw [if_pos (decide_eq_true (by omega)), Split_is (by omega) (by decide), Option.bind_some, s1, Option.bind_some, hrows, Option.bind_some, if_pos rfl, if_pos rfl, Check_is (by omega) (by decide), Option.bind_some, s2, Option.bind_some, if_pos rfl, a1, Option.bind_some, a2, Option.bind_some, if_pos (by simp), hlv]
    rfl
  · rw [if_neg (by rw [decide_eq_true_iff]; omega), hlv]
    rfl⟩

end Go.Proofs.Ytbkdogijkfampaa.Pure
