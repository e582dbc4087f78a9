/- Any branches' events are merged as the document says: no condition. -/
import Derived.Test.YtbkdogijkfampaaPMergeMergesx7
set_option linter.unusedVariables false
set_option linter.unusedSimpArgs false
namespace Go.Proofs.Ytbkdogijkfampaa.Pure
open Go.RowKit Go.Proofs.Ytbkdogijkfampaa.PMergeMerges Go.Proofs.YtbkdogijkfampaaW.PrintWords Go.Proofs.YtbkdogijkfampaaW.PrintLast Go.Proofs.YtbkdogijkfampaaW.PrintMore

/-! ### Bytes -/
def isB (l : List Int) : Prop := ∀ x ∈ l, 0 ≤ x ∧ x < 256
theorem isB_of_wf {l : List Int} (h : ∀ x ∈ l, (Lit.int .u8 x).wf = true) : isB l := by
  intro x hx
  have := h x hx
  simp [Lit.wf, IntKind.min, IntKind.max, IntKind.bits, IntKind.signed] at this
  omega
theorem i64_of_wf {x : Int} (h : (Lit.int .i64 x).wf = true) : -9223372036854775808 ≤ x ∧ x ≤ 9223372036854775807 := by
  simp [Lit.wf, IntKind.min, IntKind.max, IntKind.bits, IntKind.signed] at h
  omega
theorem toList_loop (s : ByteArray) : ∀ (d i : Nat) (r : List UInt8), s.size - i = d → ByteArray.toList.loop s i r = r.reverse ++ s.data.toList.drop i := by
  intro d
  have hl : s.data.toList.length = s.size := Array.length_toList
  induction d with
  | zero =>
    intro i r h
    unfold ByteArray.toList.loop
    rw [if_neg (by omega), List.drop_eq_nil_of_le (by omega), List.append_nil]
  | succ d ih =>
    intro i r h
    unfold ByteArray.toList.loop
    rw [if_pos (by omega), ih (i + 1) _ (by omega)]
    have hi : i < s.data.toList.length := by omega
    rw [List.drop_eq_getElem_cons hi, List.reverse_cons, List.append_assoc]
    have : s.get! i = s.data.toList[i] := by
      have hs : i < s.size := by omega
      simp [ByteArray.get!, getElem!_pos, hs]
    rw [this]; rfl
theorem bytes_toList (s : ByteArray) : s.toList = s.data.toList := by
  unfold ByteArray.toList
  rw [toList_loop s _ 0 [] rfl]
  simp
theorem bytes_ext {a b : ByteArray} (h : a.toList = b.toList) : a = b := by
  rw [bytes_toList, bytes_toList] at h
  cases a; cases b
  congr 1
  exact Array.toList_inj.1 h
theorem son_data (xs : List Int) : (strOfNums xs).data.toList = xs.map fun n => UInt8.ofNat n.toNat := by simp [strOfNums]
theorem son_size (xs : List Int) : (strOfNums xs).size = xs.length := by simp [strOfNums, ByteArray.size]
theorem son_append (xs ys : List Int) : strOfNums (xs ++ ys) = strOfNums xs ++ strOfNums ys := by
  apply bytes_ext
  rw [bytes_toList, bytes_toList, son_data]
  simp [strOfNums]
theorem son_nil : strOfNums [] = (⟨#[]⟩ : ByteArray) := rfl
theorem u8_inj {a b : Int} (ha : 0 ≤ a ∧ a < 256) (hb : 0 ≤ b ∧ b < 256) (h : UInt8.ofNat a.toNat = UInt8.ofNat b.toNat) : a = b := by
  have := congrArg UInt8.toNat h
  simp [UInt8.toNat_ofNat'] at this
  omega
theorem map_u8_inj : ∀ {xs ys : List Int}, isB xs → isB ys → (xs.map fun n => UInt8.ofNat n.toNat) = (ys.map fun n => UInt8.ofNat n.toNat) → xs = ys
  | [], [], _, _, _ => rfl
  | [], y :: ys, _, _, h => by simp at h
  | x :: xs, [], _, _, h => by simp at h
  | x :: xs, y :: ys, hx, hy, h => by
    simp only [List.map_cons, List.cons.injEq] at h
    rw [u8_inj (hx x (by simp)) (hy y (by simp)) h.1, map_u8_inj (fun z hz => hx z (by simp [hz])) (fun z hz => hy z (by simp [hz])) h.2]
theorem son_inj {xs ys : List Int} (hx : isB xs) (hy : isB ys) (h : strOfNums xs = strOfNums ys) : xs = ys := by
  have := congrArg (fun s : ByteArray => s.data.toList) h
  simp only [son_data] at this
  exact map_u8_inj hx hy this
theorem son_toList_inj {xs ys : List Int} (hx : isB xs) (hy : isB ys) : (strOfNums xs).toList = (strOfNums ys).toList ↔ xs = ys :=
  ⟨fun h => son_inj hx hy (bytes_ext h), fun h => by rw [h]⟩
theorem son_bt {xs : List Int} (hx : isB xs) (i : Int) (h0 : 0 ≤ i) (h : i < xs.length) : bt (strOfNums xs) i = rd xs i := by
  have hi : i.toNat < xs.length := by omega
  unfold bt rd
  rw [dif_pos (by rw [son_size]; exact hi)]
  have hg : (strOfNums xs)[i.toNat]'(by rw [son_size]; exact hi) = UInt8.ofNat (xs[i.toNat]).toNat := by
    show (strOfNums xs).data[i.toNat]'_ = _
    simp [strOfNums]
  rw [hg, List.getD_eq_getElem?_getD, List.getElem?_eq_getElem hi]
  have := hx _ (List.getElem_mem hi)
  simp [UInt8.toNat_ofNat']
  omega
theorem son_extract (xs : List Int) (a b : Nat) : (strOfNums xs).extract a b = strOfNums ((xs.take b).drop a) := by
  apply bytes_ext
  rw [bytes_toList, bytes_toList, son_data]
  simp [strOfNums, ByteArray.data_extract, List.drop_take, List.map_take, List.map_drop, List.extract]
theorem isB_append {xs ys : List Int} (hx : isB xs) (hy : isB ys) : isB (xs ++ ys) := by
  intro z hz
  rcases List.mem_append.1 hz with h | h
  · exact hx z h
  · exact hy z h
theorem isB_take {xs : List Int} (h : isB xs) (n : Nat) : isB (xs.take n) := fun z hz => h z (List.mem_of_mem_take hz)
theorem isB_drop {xs : List Int} (h : isB xs) (n : Nat) : isB (xs.drop n) := fun z hz => h z (List.mem_of_mem_drop hz)
theorem rd_at {xs : List Int} (i : Int) (h0 : 0 ≤ i) (h : i < xs.length) : rd xs i = xs[i.toNat]'(by omega) := by
  unfold rd
  rw [List.getD_eq_getElem?_getD, List.getElem?_eq_getElem (by omega)]; rfl
theorem rd_isB {xs : List Int} (hx : isB xs) (i : Int) (h0 : 0 ≤ i) (h : i < xs.length) : 0 ≤ rd xs i ∧ rd xs i < 256 := by
  rw [rd_at i h0 h]
  exact hx _ (List.getElem_mem _)
theorem w64 {x : Int} (h : -9223372036854775808 ≤ x ∧ x ≤ 9223372036854775807) : wrap64 x = x := by
  unfold wrap64
  omega

/-! ### Numbers alike -/
theorem Same_loop (a b : List Int) (hl : a.length = b.length) (ha : a.length ≤ 1152921504606846976) : ∀ (d k i : Nat), i + d = a.length → d < k → argosyref01_Same.l0 k a b (i : Int) = some (decide (a.drop i = b.drop i)) := by
  intro d
  induction d with
  | zero =>
    intro k i hi hk
    obtain ⟨k, rfl⟩ : ∃ m, k = m + 1 := ⟨k - 1, by omega⟩
    simp only [argosyref01_Same.l0]
    rw [if_neg (by omega), List.drop_eq_nil_of_le (by omega), List.drop_eq_nil_of_le (by omega)]
    simp
  | succ d ih =>
    intro k i hi hk
    obtain ⟨k, rfl⟩ : ∃ m, k = m + 1 := ⟨k - 1, by omega⟩
    simp only [argosyref01_Same.l0]
    have h1 : i < a.length := by omega
    have h2 : i < b.length := by omega
    have hra : rd a (i : Int) = a[i] := by rw [rd_at _ (by omega) (by omega)]; rfl
    have hrb : rd b (i : Int) = b[i] := by rw [rd_at _ (by omega) (by omega)]; rfl
    rw [if_pos (by omega), if_pos (by omega), if_pos (by omega), hra, hrb, List.drop_eq_getElem_cons h1, List.drop_eq_getElem_cons h2]
    by_cases h : a[i] = b[i]
    · rw [if_pos h, w64 (by omega), show ((i : Int) + 1) = ((i + 1 : Nat) : Int) from by omega, ih k (i + 1) (by omega) (by omega)]
      rw [h]
      congr 1
      rw [decide_eq_decide]
      simp only [List.cons.injEq, true_and]
    · rw [if_neg h, decide_eq_false]
      simp only [List.cons.injEq]
      exact fun hc => h hc.1
theorem Same_is {k : Nat} {a b : List Int} (ha : a.length ≤ 1152921504606846976) (hk : a.length < k) : argosyref01_Same.f k a b = some (decide (a = b)) := by
  unfold argosyref01_Same.f
  by_cases hl : a.length = b.length
  · rw [if_pos (by omega)]
    have := Same_loop a b hl ha a.length k 0 (by omega) hk
    simpa using this
  · rw [if_neg (by omega)]
    have : a ≠ b := fun h => hl (by rw [h])
    simp [this]

/-! ### Stamps, for the merge (out of the packs of the stamp chapter) -/
theorem atS_nat (l : List Int) (j : Nat) : atS l (j : Int) = l.getD j 0 := by
  unfold atS
  by_cases h : j < l.length
  · rw [if_pos (by omega)]; unfold rd; simp
  · rw [if_neg (by omega), List.getD_eq_getElem?_getD, List.getElem?_eq_none (by omega)]; rfl
theorem lenS_comm (a b : List Int) : lenS a b = lenS b a := by unfold lenS; split <;> split <;> omega
theorem lenS_le {a b : List Int} {n : Nat} (ha : a.length ≤ n) (hb : b.length ≤ n) : lenS a b ≤ n := by unfold lenS; split <;> omega
theorem le_lenS (a b : List Int) : a.length ≤ lenS a b ∧ b.length ≤ lenS a b := by unfold lenS; split <;> omega
theorem lenS_lt {a b : List Int} {i : Nat} : i < lenS a b ↔ i < a.length ∨ i < b.length := by unfold lenS; split <;> omega
theorem any_upto (a b : List Int) (N : Nat) (p : Int × Int × Int → Bool) : (upto a b N).any p = true ↔ ∃ j, j < N ∧ p (trip a b j) = true := by
  unfold upto
  rw [List.any_eq_true]
  constructor
  · rintro ⟨x, hx, hp⟩
    obtain ⟨j, hj, rfl⟩ := List.mem_map.1 hx
    exact ⟨j, List.mem_range.1 hj, hp⟩
  · rintro ⟨j, hj, hp⟩
    exact ⟨_, List.mem_map.2 ⟨j, List.mem_range.2 hj, rfl⟩, hp⟩
theorem bool_ext {p q : Bool} (h : p = true ↔ q = true) : p = q := by cases p <;> cases q <;> simp_all
theorem Next_is {a b : List Int} (i : Int) (ha : a.length ≤ 1000000) (hb : b.length ≤ 1000000) : stamp_Next.f a b i = some (nextS a b i) := by unfold stamp_Next.f; rw [if_pos ⟨ha, hb⟩]
theorem Same_of {k : Nat} {a b : List Int} (ha : a.length ≤ 1000000) (hk : 1000001 ≤ k) : argosyref01_Same.f k a b = some (decide (a = b)) := Same_is (by omega) (by omega)
theorem allB_iff (i : Int) (a b : List Int) : allB i (upto a b (lenS a b)) = true ↔ ∀ j : Nat, (j : Int) = i ∨ b.getD j 0 ≤ a.getD j 0 := by
  unfold allB upto
  rw [List.all_eq_true]
  constructor
  · intro h j
    by_cases hj : j < lenS a b
    · have := h _ (List.mem_map.2 ⟨j, List.mem_range.2 hj, rfl⟩)
      unfold holdsS at this
      simpa only [trip, atS_nat, Bool.or_eq_true, decide_eq_true_eq] using this
    · have := le_lenS a b
      rw [List.getD_eq_getElem?_getD, List.getD_eq_getElem?_getD, List.getElem?_eq_none (by omega), List.getElem?_eq_none (by omega)]
      exact .inr (Int.le_refl _)
  · intro h x hx
    obtain ⟨j, hj, rfl⟩ := List.mem_map.1 hx
    have := h j
    unfold holdsS
    simpa only [trip, atS_nat, Bool.or_eq_true, decide_eq_true_eq] using this
theorem nextS_iff (a b : List Int) (i : Int) : nextS a b i = true ↔ 0 ≤ i ∧ atS a i ≠ 9223372036854775807 ∧ atS b i = wrap64 (atS a i + 1) ∧ ∀ j : Nat, (j : Int) = i ∨ b.getD j 0 ≤ a.getD j 0 := by
  unfold nextS
  by_cases h : i < 0 ∨ atS a i = 9223372036854775807 ∨ atS b i ≠ wrap64 (atS a i + 1)
  · rw [if_pos h]
    constructor
    · intro h; cases h
    · rintro ⟨h1, h2, h3, _⟩
      rcases h with h | h | h
      · omega
      · exact absurd h h2
      · exact absurd h3 h
  · rw [if_neg h, allB_iff]
    constructor
    · intro h4
      refine ⟨?_, fun h2 => h (.inr (.inl h2)), ?_, h4⟩
      · by_cases h0 : i < 0
        · exact absurd (.inl h0) h
        · omega
      · by_cases h3 : atS b i = wrap64 (atS a i + 1)
        · exact h3
        · exact absurd (.inr (.inr h3)) h
    · exact fun h => h.2.2.2
theorem wrap_ne (x : Int) : x ≠ wrap64 (x + 1) := by unfold wrap64; omega
theorem set_getD (l : List Int) (n j : Nat) (v : Int) (hn : n < l.length) : (l.set n v).getD j 0 = if j = n then v else l.getD j 0 := by
  rw [List.getD_eq_getElem?_getD, List.getD_eq_getElem?_getD, List.getElem?_set]
  by_cases h : n = j
  · subst h; simp [hn]
  · rw [if_neg h, if_neg (fun q => h q.symm)]
theorem getD_ge {l : List Int} {j : Nat} (h : l.length ≤ j) : l.getD j 0 = 0 := by
  rw [List.getD_eq_getElem?_getD, List.getElem?_eq_none h]; rfl
theorem rd_nat (l : List Int) (j : Nat) : rd l (j : Int) = l.getD j 0 := by unfold rd; simp

/-! ### Sums over places, and fuel -/
theorem le_from {α : Type} {f : Nat → Option α} (h : ∀ k, LeO (f k) (f (k + 1))) {k m : Nat} (hk : k ≤ m) {r : α} (hr : f k = some r) : f m = some r := by
  induction hk with
  | refl => exact hr
  | step _ ih => exact h _ _ ih
def sumTo (f : Nat → Int) : Nat → Int
  | 0 => 0
  | n + 1 => sumTo f n + f n
theorem sumTo_congr {f g : Nat → Int} : ∀ n, (∀ j, j < n → f j = g j) → sumTo f n = sumTo g n
  | 0, _ => rfl
  | n + 1, h => by rw [sumTo, sumTo, sumTo_congr n (fun j hj => h j (by omega)), h n (by omega)]
theorem sumTo_le {f g : Nat → Int} : ∀ n, (∀ j, j < n → f j ≤ g j) → sumTo f n ≤ sumTo g n
  | 0, _ => Int.le_refl _
  | n + 1, h => by
    have h1 := sumTo_le n (fun j hj => h j (by omega))
    have h2 := h n (by omega)
    rw [sumTo, sumTo]
    omega
theorem sumTo_lt {f g : Nat → Int} : ∀ n i, i < n → f i < g i → (∀ j, j < n → f j ≤ g j) → sumTo f n < sumTo g n
  | 0, i, hi, _, _ => absurd hi (Nat.not_lt_zero i)
  | n + 1, i, hi, hlt, h => by
    rw [sumTo, sumTo]
    have h2 := h n (by omega)
    by_cases hn : i = n
    · subst hn
      have h1 := sumTo_le i (fun j hj => h j (by omega))
      omega
    · have h1 := sumTo_lt n i (by omega) hlt (fun j hj => h j (by omega))
      omega
theorem sumTo_at {f g : Nat → Int} {c : Int} : ∀ n i, i < n → g i = f i + c → (∀ j, j < n → j ≠ i → g j = f j) → sumTo g n = sumTo f n + c
  | 0, i, hi, _, _ => absurd hi (Nat.not_lt_zero i)
  | n + 1, i, hi, hg, h => by
    rw [sumTo, sumTo]
    by_cases hn : i = n
    · subst hn
      rw [sumTo_congr i (fun j hj => h j (by omega) (by omega)), hg]
      omega
    · rw [sumTo_at n i (by omega) hg (fun j hj hne => h j (by omega) hne), h n (by omega) (fun e => hn e.symm)]
      omega
theorem sumTo_nonneg {f : Nat → Int} : ∀ n, (∀ j, j < n → 0 ≤ f j) → 0 ≤ sumTo f n
  | 0, _ => Int.le_refl _
  | n + 1, h => by
    have h1 := sumTo_nonneg n (fun j hj => h j (by omega))
    have h2 := h n (by omega)
    rw [sumTo]
    omega
theorem sumTo_ge {f : Nat → Int} : ∀ n i, i < n → (∀ j, j < n → 0 ≤ f j) → f i ≤ sumTo f n
  | 0, i, hi, _ => absurd hi (Nat.not_lt_zero i)
  | n + 1, i, hi, h => by
    rw [sumTo]
    have h2 := h n (by omega)
    by_cases hn : i = n
    · subst hn
      have h1 := sumTo_nonneg i (fun j hj => h j (by omega))
      omega
    · have h1 := sumTo_ge n i (by omega) (fun j hj => h j (by omega))
      omega

/-! ### The examples -/
theorem lives_is {k : Nat} (hk : 100 ≤ k) : argosylaw12_lives.f k = some true :=
  le_from argosylaw12_lives.mono hk (by decide +kernel)

/-! ### The merge -/
theorem rdLL_nat (l : List (List S45)) (i : Nat) : rdLL l (i : Int) = l.getD i [] := by unfold rdLL; rw [Int.toNat_natCast]
def lenP (l : List (List S45)) (i : Nat) : Int := ((l.getD i []).length : Int)
def hadP (hv : List Int) (i : Nat) : Int := hv.getD i 0
def evP (l : List (List S45)) (hv : List Int) (i : Nat) : S45 := rd_T45 (l.getD i []) (hadP hv i)
def nextP (hv s : List Int) (i : Int) : Bool := decide (s.length = hv.length) && nextS hv s i
def canP (l : List (List S45)) (hv : List Int) (i : Nat) : Bool := decide (hadP hv i < lenP l i) && nextP hv (evP l hv i).f3 i
def pickP (l : List (List S45)) (hv : List Int) : Nat → Nat → Option Nat
  | 0, _ => none
  | d + 1, i => if canP l hv i = true then some i else pickP l hv d (i + 1)
def genP (l : List (List S45)) : Nat → List Int → List S45 → List S45 × List Int
  | 0, hv, out => (out, hv)
  | m + 1, hv, out => match pickP l hv l.length 0 with
    | none => (out, hv)
    | some i => genP l m (hv.set i (hadP hv i + 1)) (out ++ [evP l hv i])
theorem next_is {hv s : List Int} (a b c i : Int) (h : hv.length ≤ 1000000) : merge_next.f hv a b c s i = some (nextP hv s i) := by
  unfold merge_next.f nextP
  by_cases hl : s.length = hv.length
  · rw [if_pos (by omega), Next_is _ h (by omega), decide_eq_true hl]
    simp
  · rw [if_neg (by omega), decide_eq_false hl]
    simp
theorem can_is {l : List (List S45)} {hv : List Int} (i : Nat) (h : hv.length ≤ 1000000) : canM l hv (i : Int) = some (canP l hv i) := by
  unfold canM canP
  rw [rd_nat, rdLL_nat]
  show (if hadP hv i < lenP l i then _ else _) = _
  by_cases hlt : hadP hv i < lenP l i
  · rw [if_pos hlt, next_is _ _ _ _ h, decide_eq_true hlt, Bool.true_and]
    unfold evM evP hadP
    rw [rdLL_nat, rd_nat]
  · rw [if_neg hlt, decide_eq_false hlt, Bool.false_and]
theorem pick_is {l : List (List S45)} {hv : List Int} (h : hv.length ≤ 1000000) : ∀ d i, pickM l hv d i = some (pickP l hv d i)
  | 0, _ => rfl
  | d + 1, i => by
    rw [pickM, can_is i h, Option.bind_some, pickP]
    by_cases hc : canP l hv i = true
    · rw [if_pos hc, if_pos hc]
    · rw [if_neg hc, if_neg hc]; exact pick_is h d (i + 1)
theorem pick_some {l : List (List S45)} {hv : List Int} : ∀ d i j, pickP l hv d i = some j → i ≤ j ∧ j < i + d ∧ canP l hv j = true ∧ ∀ m, i ≤ m → m < j → canP l hv m = false
  | 0, _, _, h => by simp [pickP] at h
  | d + 1, i, j, h => by
    rw [pickP] at h
    by_cases hc : canP l hv i = true
    · rw [if_pos hc] at h
      obtain rfl := Option.some.inj h
      exact ⟨Nat.le_refl _, by omega, hc, fun m h1 h2 => by omega⟩
    · rw [if_neg hc] at h
      obtain ⟨h1, h2, h3, h4⟩ := pick_some d (i + 1) j h
      refine ⟨by omega, by omega, h3, fun m hm1 hm2 => ?_⟩
      by_cases hm : m = i
      · subst hm; exact Bool.eq_false_iff.2 hc
      · exact h4 m (by omega) hm2
theorem pick_none {l : List (List S45)} {hv : List Int} : ∀ d i, pickP l hv d i = none → ∀ m, i ≤ m → m < i + d → canP l hv m = false
  | 0, _, _, m, h1, h2 => by omega
  | d + 1, i, h, m, h1, h2 => by
    rw [pickP] at h
    by_cases hc : canP l hv i = true
    · rw [if_pos hc] at h; cases h
    · rw [if_neg hc] at h
      by_cases hm : m = i
      · subst hm; exact Bool.eq_false_iff.2 hc
      · exact pick_none d (i + 1) h m (by omega) (by omega)
structure InvP (l : List (List S45)) (hv : List Int) (out : List S45) : Prop where
  hl : hv.length = l.length
  lo : ∀ i, 0 ≤ hadP hv i
  hi : ∀ i, i < l.length → hadP hv i ≤ lenP l i
  cnt : (out.length : Int) = sumTo (hadP hv) l.length
def totP (l : List (List S45)) : Int := sumTo (lenP l) l.length
theorem hadP_set {hv : List Int} {i : Nat} (hi : i < hv.length) (v : Int) (j : Nat) : hadP (hv.set i v) j = if j = i then v else hadP hv j := by
  unfold hadP
  rw [List.getD_eq_getElem?_getD, List.getD_eq_getElem?_getD, List.getElem?_set]
  by_cases h : i = j
  · subst h; simp [hi]
  · rw [if_neg h, if_neg (fun e => h e.symm)]
theorem InvP.step {l : List (List S45)} {hv : List Int} {out : List S45} (h : InvP l hv out) {i : Nat} (hi : i < l.length) (hc : canP l hv i = true) (x : S45) : InvP l (hv.set i (hadP hv i + 1)) (out ++ [x]) ∧ (out.length : Int) < totP l := by
  have hlt : hadP hv i < lenP l i := by unfold canP at hc; simp at hc; exact hc.1
  have hiv : i < hv.length := by rw [h.hl]; exact hi
  refine ⟨⟨by rw [List.length_set]; exact h.hl, fun j => ?_, fun j hj => ?_, ?_⟩, ?_⟩
  · rw [hadP_set hiv]; split
    · have := h.lo i; omega
    · exact h.lo j
  · rw [hadP_set hiv]; split
    · rename_i e; subst e; omega
    · exact h.hi j hj
  · rw [sumTo_at (f := hadP hv) (c := 1) l.length i hi (by rw [hadP_set hiv, if_pos rfl]) (fun j _ hne => by rw [hadP_set hiv, if_neg hne]), ← h.cnt]
    simp
  · rw [h.cnt]
    exact sumTo_lt l.length i hi hlt (fun j hj => h.hi j hj)
theorem wrap_had {l : List (List S45)} {hv : List Int} {out : List S45} (h : InvP l hv out) (ht : totP l ≤ 150) {i : Nat} (hi : i < l.length) : wrap64 (hadP hv i + 1) = hadP hv i + 1 := by
  have h1 := h.lo i
  have h2 := h.hi i hi
  have h3 : lenP l i ≤ totP l := sumTo_ge l.length i hi (fun j _ => by unfold lenP; omega)
  unfold wrap64
  omega
theorem gen_is {l : List (List S45)} (hn : l.length ≤ 1000000) (ht : totP l ≤ 150) : ∀ (m k : Nat) (hv : List Int) (out : List S45), InvP l hv out → totP l ≤ out.length + m → m < k → genM l k hv out = some (genP l m hv out)
  | 0, k, hv, out, hI, hm, hk => by
    obtain ⟨k, rfl⟩ : ∃ q, k = q + 1 := ⟨k - 1, by omega⟩
    rw [genM, pick_is (by rw [hI.hl]; exact hn), Option.bind_some]
    cases hp : pickP l hv l.length 0 with
    | none => rfl
    | some i =>
      obtain ⟨_, h2, h3, _⟩ := pick_some _ _ _ hp
      have := (hI.step (by omega) h3 z45).2
      omega
  | m + 1, k, hv, out, hI, hm, hk => by
    obtain ⟨k, rfl⟩ : ∃ q, k = q + 1 := ⟨k - 1, by omega⟩
    rw [genM, pick_is (by rw [hI.hl]; exact hn), Option.bind_some, genP]
    cases hp : pickP l hv l.length 0 with
    | none => rfl
    | some i =>
      obtain ⟨_, h2, h3, _⟩ := pick_some _ _ _ hp
      have hi : i < l.length := by omega
      obtain ⟨hI2, hlt⟩ := hI.step hi h3 (evP l hv i)
      have he : evM l hv (i : Int) = evP l hv i := by unfold evM evP hadP; rw [rdLL_nat, rd_nat]
      simp only
      rw [if_pos (by omega), he, rd_nat]
      show genM l k (hv.set i (wrap64 (hadP hv i + 1))) _ = _
      rw [wrap_had hI ht hi]
      exact gen_is hn ht m k _ _ hI2 (by rw [List.length_append]; simp; omega) (by omega)
theorem inv0 (l : List (List S45)) : InvP l (List.replicate l.length 0) [] := by
  have h0 : ∀ i, hadP (List.replicate l.length (0 : Int)) i = 0 := by
    intro i
    unfold hadP
    rw [List.getD_eq_getElem?_getD, List.getElem?_replicate]
    split <;> rfl
  refine ⟨by simp, fun i => by rw [h0]; exact Int.le_refl _, fun i _ => by rw [h0]; unfold lenP; omega, ?_⟩
  rw [sumTo_congr (g := fun _ => 0) _ (fun j _ => h0 j)]
  have : ∀ n, sumTo (fun _ => 0) n = 0 := fun n => by induction n with | zero => rfl | succ n ih => rw [sumTo, ih]; rfl
  rw [this]; rfl
theorem Merge_is {k : Nat} {l : List (List S45)} (hn : l.length ≤ 1000000) (ht : totP l ≤ 150) (hk : 151 ≤ k) : merge_Merge.f k l = some (if 1 ≤ l.length ∧ l.length ≤ 64 then genP l 150 (List.replicate l.length 0) [] else ([], [])) := by
  unfold merge_Merge.f mergeF
  by_cases h : 1 ≤ l.length ∧ l.length ≤ 64
  · rw [if_pos h, if_pos h]
    exact gen_is hn ht 150 k _ _ (inv0 l) (by simp; omega) (by omega)
  · rw [if_neg h, if_neg h]

/-! ### The document's next (after the pack merge) -/
theorem AtR_is (l : List Int) (i : Int) : argosyref09_At.f l i = some (atS l i) := by
  unfold argosyref09_At.f atS
  by_cases h : i < 0
  · rw [if_pos h, if_neg (by omega)]
  · by_cases h2 : i ≥ l.length
    · rw [if_neg h, if_pos h2, if_neg (by omega)]
    · rw [if_neg h, if_neg h2, if_pos (by omega), if_pos (by omega), if_pos (by omega)]
theorem NextR_l1 (a : List Int) (i : Int) (ha : a.length ≤ 1000000) : ∀ (d k j : Nat), j + d = a.length → d < k → ∃ b, argosyref09_Next.l1 k a i (j : Int) = some b ∧ (b = true ↔ ∀ m, j ≤ m → m < a.length → (m : Int) = i ∨ 0 ≤ a.getD m 0) := by
  intro d
  induction d with
  | zero =>
    intro k j hj hk
    obtain ⟨k, rfl⟩ : ∃ m, k = m + 1 := ⟨k - 1, by omega⟩
    simp only [argosyref09_Next.l1]
    rw [if_neg (by omega)]
    exact ⟨true, rfl, by simp; intro m h1 h2; omega⟩
  | succ d ih =>
    intro k j hj hk
    obtain ⟨k, rfl⟩ : ∃ m, k = m + 1 := ⟨k - 1, by omega⟩
    simp only [argosyref09_Next.l1]
    obtain ⟨b, hb, hi⟩ := ih k (j + 1) (by omega) (by omega)
    rw [if_pos (by omega), w64 (by omega), show ((j : Int) + 1) = ((j + 1 : Nat) : Int) from by omega, hb]
    by_cases h : (j : Int) = i
    · rw [if_pos h]
      refine ⟨b, rfl, hi.trans ⟨fun q m h1 h2 => ?_, fun q m h1 h2 => q m (by omega) h2⟩⟩
      by_cases e : m = j
      · subst e; exact .inl h
      · exact q m (by omega) h2
    · rw [if_neg h, if_pos (by omega), rd_nat]
      by_cases h2 : a.getD j 0 < 0
      · rw [if_pos h2]
        refine ⟨false, rfl, by simp only [Bool.false_eq_true, false_iff]; intro q; have := q j (Nat.le_refl _) (by omega); omega⟩
      · rw [if_neg h2]
        refine ⟨b, rfl, hi.trans ⟨fun q m h1 h3 => ?_, fun q m h1 h3 => q m (by omega) h3⟩⟩
        by_cases e : m = j
        · subst e; exact .inr (by omega)
        · exact q m (by omega) h3
theorem NextR_l0 (a s : List Int) (i : Int) (ha : a.length ≤ 1000000) (hs : s.length ≤ 1000000) : ∀ (d k j : Nat), j + d = s.length → d + 1000002 ≤ k → ∃ b, argosyref09_Next.l0 k a s i (j : Int) = some b ∧ (b = true ↔ ∀ m, j ≤ m → (m : Int) = i ∨ s.getD m 0 ≤ a.getD m 0) := by
  intro d
  induction d with
  | zero =>
    intro k j hj hk
    obtain ⟨k, rfl⟩ : ∃ m, k = m + 1 := ⟨k - 1, by omega⟩
    simp only [argosyref09_Next.l0]
    rw [if_neg (by omega)]
    by_cases hle : s.length ≤ a.length
    · obtain ⟨b, hb, hi⟩ := NextR_l1 a i ha (a.length - s.length) k s.length (by omega) (by omega)
      refine ⟨b, hb, hi.trans ⟨fun q m h1 => ?_, fun q m h1 h2 => ?_⟩⟩
      · rw [getD_ge (l := s) (by omega)]
        by_cases h2 : m < a.length
        · exact q m (by omega) h2
        · rw [getD_ge (by omega)]; exact .inr (Int.le_refl _)
      · have := q m (by omega)
        rw [getD_ge (l := s) (by omega)] at this
        exact this
    · obtain ⟨k, rfl⟩ : ∃ m, k = m + 1 := ⟨k - 1, by omega⟩
      simp only [argosyref09_Next.l1]
      rw [if_neg (by omega)]
      refine ⟨true, rfl, by simp only [true_iff]; intro m h1; rw [getD_ge (l := s) (by omega), getD_ge (by omega)]; exact .inr (Int.le_refl _)⟩
  | succ d ih =>
    intro k j hj hk
    obtain ⟨k, rfl⟩ : ∃ m, k = m + 1 := ⟨k - 1, by omega⟩
    simp only [argosyref09_Next.l0]
    obtain ⟨b, hb, hi⟩ := ih k (j + 1) (by omega) (by omega)
    rw [if_pos (by omega), w64 (by omega), show ((j : Int) + 1) = ((j + 1 : Nat) : Int) from by omega, hb]
    by_cases h : (j : Int) = i
    · rw [if_pos h]
      refine ⟨b, rfl, hi.trans ⟨fun q m h1 => ?_, fun q m h1 => q m (by omega)⟩⟩
      by_cases e : m = j
      · subst e; exact .inl h
      · exact q m (by omega)
    · rw [if_neg h, if_pos (by omega), rd_nat, AtR_is, Option.bind_some, atS_nat]
      by_cases h2 : s.getD j 0 > a.getD j 0
      · rw [if_pos h2]
        refine ⟨false, rfl, by simp only [Bool.false_eq_true, false_iff]; intro q; have := q j (Nat.le_refl _); omega⟩
      · rw [if_neg h2]
        refine ⟨b, rfl, hi.trans ⟨fun q m h1 => ?_, fun q m h1 => q m (by omega)⟩⟩
        by_cases e : m = j
        · subst e; exact .inr (by omega)
        · exact q m (by omega)
theorem NextR_is {k : Nat} {a s : List Int} (i : Int) (ha : a.length ≤ 1000000) (hs : s.length ≤ 1000000) (hk : 2000010 ≤ k) : argosyref09_Next.f k a s i = some (nextS a s i) := by
  obtain ⟨k, rfl⟩ : ∃ m, k = m + 1 := ⟨k - 1, by omega⟩
  unfold argosyref09_Next.f
  rw [AtR_is, Option.bind_some]
  have hj : ∀ b : Bool, argosyref09_Next.j0 (k + 1) a s i b = if b = true then some false else argosyref09_Next.l0 k a s i 0 := fun b => by simp only [argosyref09_Next.j0]
  by_cases h1 : atS a i = 9223372036854775807
  · rw [if_pos h1, hj, if_pos rfl]
    unfold nextS
    rw [if_pos (.inr (.inl h1))]
  · rw [if_neg h1, AtR_is, Option.bind_some]
    by_cases h2 : atS s i = wrap64 (atS a i + 1)
    · rw [if_pos h2, hj]
      by_cases h0 : i < 0
      · rw [if_pos (decide_eq_true h0)]
        unfold nextS
        rw [if_pos (.inl h0)]
      · rw [if_neg (by rw [decide_eq_false h0]; decide)]
        obtain ⟨b, hb, hi⟩ := NextR_l0 a s i ha hs s.length k 0 (by omega) (by omega)
        rw [show ((0 : Nat) : Int) = 0 from rfl] at hb
        rw [hb]
        congr 1
        apply bool_ext
        rw [hi, nextS_iff]
        exact ⟨fun q => ⟨by omega, h1, h2, fun j => q j (Nat.zero_le _)⟩, fun q m _ => q.2.2.2 m⟩
    · rw [if_neg h2, hj, if_pos rfl]
      unfold nextS
      rw [if_pos (.inr (.inr h2))]
theorem nextR_is {k : Nat} {hv s : List Int} (a b c i : Int) (h : hv.length ≤ 1000000) (hk : 2000010 ≤ k) : argosyref12_next.f k hv a b c s i = some (nextP hv s i) := by
  unfold argosyref12_next.f nextP
  by_cases hl : s.length = hv.length
  · rw [if_pos (by omega), NextR_is _ h (by omega) hk, decide_eq_true hl]
    simp
  · rw [if_neg (by omega), decide_eq_false hl]
    simp

/-! ### Rows of rows, read -/
theorem rd_L3_nat (l : List (List S45)) (i : Nat) : rd_L3 l (i : Int) = l.getD i [] := by unfold rd_L3; rw [Int.toNat_natCast]

/-! ### The document's merge -/
def encO : Option Nat → Int
  | none => -1
  | some i => i
theorem l2_step {l : List (List S45)} {hv : List Int} {out : List S45} {tot x9 : Int} (hI : InvP l hv out) (hn : l.length ≤ 64) {k d : Nat} (hk : 2000011 ≤ k) (hd : d < l.length) :
    argosyref12_Merge.l2 (k + 1) l (l.length : Int) hv tot out x9 (d : Int) = argosyref12_Merge.l2 k l (l.length : Int) hv tot out (if canP l hv d = true then (d : Int) else x9) ((d : Int) - 1) := by
  rw [argosyref12_Merge.l2]
  have hvl := hI.hl
  rw [if_pos (by omega), if_pos (by omega), if_pos (by omega), if_pos (by omega), rd_nat, rd_L3_nat]
  show (if hadP hv d < lenP l d then _ else _) = _
  have hw : wrap64 ((d : Int) - 1) = (d : Int) - 1 := by unfold wrap64; omega
  have h0 := hI.lo d
  by_cases hlt : hadP hv d < lenP l d
  · rw [if_pos hlt]
    show (if 0 ≤ hadP hv d then _ else _) = _
    rw [if_pos h0, nextR_is _ _ _ _ (by omega) (by omega), Option.bind_some, hw]
    show (if nextP hv (evP l hv d).f3 d = true then _ else _) = _
    have hc : canP l hv d = nextP hv (evP l hv d).f3 d := by unfold canP; rw [decide_eq_true hlt, Bool.true_and]
    rw [hc]
    by_cases hx : nextP hv (evP l hv d).f3 d = true
    · rw [if_pos hx, if_pos hx]
    · rw [if_neg hx, if_neg hx]
  · rw [if_neg hlt, hw]
    have hc : canP l hv d = false := by unfold canP; rw [decide_eq_false hlt, Bool.false_and]
    rw [hc]
    rfl
theorem l2_loop {l : List (List S45)} {hv : List Int} {out : List S45} {tot : Int} (hI : InvP l hv out) (hn : l.length ≤ 64) : ∀ (d k : Nat), d ≤ l.length → 2000011 ≤ k →
    argosyref12_Merge.l2 (k + d) l (l.length : Int) hv tot out (encO (pickP l hv (l.length - d) d)) ((d : Int) - 1) = argosyref12_Merge.l2 k l (l.length : Int) hv tot out (encO (pickP l hv l.length 0)) (-1)
  | 0, k, _, _ => rfl
  | d + 1, k, hd, hk => by
    rw [show ((d + 1 : Nat) : Int) - 1 = (d : Int) from by omega, show k + (d + 1) = (k + d) + 1 from rfl, l2_step hI hn (by omega) (by omega)]
    have e : (if canP l hv d = true then (d : Int) else encO (pickP l hv (l.length - (d + 1)) (d + 1))) = encO (pickP l hv (l.length - d) d) := by
      rw [show l.length - d = (l.length - (d + 1)) + 1 from by omega, pickP]
      by_cases hc : canP l hv d = true
      · rw [if_pos hc, if_pos hc]; rfl
      · rw [if_neg hc, if_neg hc]
    rw [e]
    exact l2_loop hI hn d k (by omega) hk
theorem l2_end {l : List (List S45)} {hv : List Int} {out : List S45} (hI : InvP l hv out) (hn : l.length ≤ 64) (ht : totP l ≤ 150) (k : Nat) :
    argosyref12_Merge.l2 (k + 1) l (l.length : Int) hv (totP l) out (encO (pickP l hv l.length 0)) (-1) = match pickP l hv l.length 0 with
      | none => some (out, hv)
      | some i => argosyref12_Merge.l1 k l (l.length : Int) (hv.set i (hadP hv i + 1)) (totP l) (out ++ [evP l hv i]) := by
  cases hp : pickP l hv l.length 0 with
  | none =>
    rw [show encO none = -1 from rfl, argosyref12_Merge.l2, if_neg (by omega), if_pos (by omega)]
  | some i =>
    obtain ⟨_, h2, h3, _⟩ := pick_some _ _ _ hp
    have hi : i < l.length := by omega
    have hvl := hI.hl
    have h0 := hI.lo i
    have hlt : hadP hv i < lenP l i := by unfold canP at h3; simp at h3; exact h3.1
    have hout := (hI.step hi h3 z45).2
    rw [show encO (some i) = (i : Int) from rfl, argosyref12_Merge.l2, if_neg (c := (-1 : Int) ≥ 0) (by omega), if_neg (by omega), if_pos (by omega)]
    rw [if_pos (by omega), if_pos (by omega), rd_nat, rd_L3_nat]
    show (if 0 ≤ hadP hv i then _ else _) = _
    rw [if_pos h0]
    show (if hadP hv i < lenP l i then _ else _) = _
    rw [if_pos hlt, if_pos (by omega), Int.toNat_natCast]
    show argosyref12_Merge.l1 k l _ (hv.set i (wrap64 (hadP hv i + 1))) _ _ = _
    rw [wrap_had hI ht hi]
    rfl
theorem l1_is {l : List (List S45)} (hn : l.length ≤ 64) (ht : totP l ≤ 150) : ∀ (m k : Nat) (hv : List Int) (out : List S45), InvP l hv out → totP l ≤ out.length + m → 2000020 + m * 70 ≤ k → argosyref12_Merge.l1 k l (l.length : Int) hv (totP l) out = some (genP l m hv out)
  | m, k, hv, out, hI, hm, hk => by
    obtain ⟨k, rfl⟩ : ∃ q, k = q + 1 := ⟨k - 1, by omega⟩
    rw [argosyref12_Merge.l1]
    by_cases hlt : (out.length : Int) < totP l
    · rw [if_pos hlt]
      obtain ⟨m, rfl⟩ : ∃ q, m = q + 1 := ⟨m - 1, by omega⟩
      obtain ⟨k, rfl⟩ : ∃ q, k = (q + 1) + l.length := ⟨k - 1 - l.length, by omega⟩
      have e1 : (-1 : Int) = encO (pickP l hv (l.length - l.length) l.length) := by rw [Nat.sub_self]; rfl
      have e2 : wrap64 ((l.length : Int) - 1) = (l.length : Int) - 1 := by unfold wrap64; omega
      rw [e2]
      conv => lhs; arg 7; rw [e1]
      rw [l2_loop hI hn l.length (k + 1) (Nat.le_refl _) (by omega), l2_end hI hn ht k, genP]
      cases hp : pickP l hv l.length 0 with
      | none => rfl
      | some i =>
        obtain ⟨_, h2, h3, _⟩ := pick_some _ _ _ hp
        obtain ⟨hI2, _⟩ := hI.step (show i < l.length by omega) h3 (evP l hv i)
        exact l1_is hn ht m k _ _ hI2 (by rw [List.length_append]; simp; omega) (by omega)
    · rw [if_neg hlt]
      cases m with
      | zero => rfl
      | succ m =>
        rw [genP]
        cases hp : pickP l hv l.length 0 with
        | none => rfl
        | some i =>
          obtain ⟨_, h2, h3, _⟩ := pick_some _ _ _ hp
          have := (hI.step (by omega) h3 z45).2
          omega
theorem l0_is {l : List (List S45)} (hn : l.length ≤ 64) (ht : totP l ≤ 150) (hv : List Int) : ∀ (d k j : Nat), j + d = l.length → argosyref12_Merge.l0 (k + d + 1) l (l.length : Int) hv (sumTo (lenP l) j) (j : Int) = argosyref12_Merge.l1 k l (l.length : Int) hv (totP l) []
  | 0, k, j, hj => by
    rw [argosyref12_Merge.l0, if_neg (by omega)]
    obtain rfl : j = l.length := by omega
    rfl
  | d + 1, k, j, hj => by
    rw [argosyref12_Merge.l0, if_pos (by omega), if_pos (by omega), if_pos (by omega), rd_L3_nat]
    have h1 : sumTo (lenP l) j + lenP l j ≤ totP l := by
      have h2 : ∀ n, j < n → sumTo (lenP l) j + lenP l j ≤ sumTo (lenP l) n := by
        intro n
        induction n with
        | zero => intro h; omega
        | succ n ih =>
          intro h
          rw [sumTo]
          have : 0 ≤ lenP l n := by unfold lenP; omega
          by_cases hjn : j = n
          · subst hjn; omega
          · have := ih (by omega); omega
      exact h2 _ (by omega)
    have h0 : 0 ≤ sumTo (lenP l) j := sumTo_nonneg j (fun i _ => by unfold lenP; omega)
    have h2 : 0 ≤ lenP l j := by unfold lenP; omega
    have e1 : wrap64 (sumTo (lenP l) j + ((l.getD j []).length : Int)) = sumTo (lenP l) (j + 1) := by
      show wrap64 (sumTo (lenP l) j + lenP l j) = sumTo (lenP l) j + lenP l j
      unfold wrap64; omega
    have e2 : wrap64 ((j : Int) + 1) = ((j + 1 : Nat) : Int) := by unfold wrap64; omega
    rw [e1, e2]
    exact l0_is hn ht hv d k (j + 1) (by omega)
theorem MergeR_is {k : Nat} {l : List (List S45)} (ht : totP l ≤ 150) (hk : 2020000 ≤ k) : argosyref12_Merge.f k l = some (if 1 ≤ l.length ∧ l.length ≤ 64 then genP l 150 (List.replicate l.length 0) [] else ([], [])) := by
  obtain ⟨k, rfl⟩ : ∃ q, k = q + 1 := ⟨k - 1, by omega⟩
  unfold argosyref12_Merge.f
  have hj : ∀ b : Bool, argosyref12_Merge.j0 (k + 1) l (l.length : Int) b = if b = true then some ([], []) else if (0 : Int) ≤ (l.length : Int) then if (l.length : Int).toNat ≤ 35184372088832 then argosyref12_Merge.l0 k l (l.length : Int) (List.replicate (l.length : Int).toNat 0) 0 0 else none else none := fun b => by rw [argosyref12_Merge.j0]
  by_cases h1 : l.length < 1
  · rw [if_pos (by omega), hj, if_pos rfl, if_neg (by omega)]
  · rw [if_neg (by omega), hj]
    by_cases h2 : l.length > 64
    · rw [if_pos (by rw [decide_eq_true_iff]; omega), if_neg (by omega)]
    · rw [if_neg (by rw [decide_eq_true_iff]; omega), if_pos (by omega), if_pos (by omega), if_pos (by omega), Int.toNat_natCast]
      obtain ⟨k, rfl⟩ : ∃ q, k = q + l.length + 1 := ⟨k - l.length - 1, by omega⟩
      have := l0_is (by omega) ht (List.replicate l.length 0) l.length k 0 (by omega)
      rw [show sumTo (lenP l) 0 = 0 from rfl, show ((0 : Nat) : Int) = 0 from rfl] at this
      rw [this]
      exact l1_is (by omega) ht 150 k _ _ (inv0 l) (by simp; omega) (by omega)

/-! ### Events alike -/
theorem ev_ext {a b : S45} (h0 : a.f0 = b.f0) (h1 : a.f1 = b.f1) (h2 : a.f2 = b.f2) (h3 : a.f3 = b.f3) : a = b := by
  cases a; cases b; simp_all
theorem SameEv_is {k : Nat} {a b : S45} (ha : a.f3.length ≤ 1000000) (hk : 1000001 ≤ k) : ∃ r, argosyref10_Same.f k a.f0 a.f1 a.f2 a.f3 b.f0 b.f1 b.f2 b.f3 = some r ∧ (r = true ↔ a = b) := by
  unfold argosyref10_Same.f
  by_cases h0 : a.f0 = b.f0
  · rw [if_pos h0]
    by_cases h1 : a.f1 = b.f1
    · rw [if_pos h1]
      by_cases h2 : a.f2 = b.f2
      · rw [if_pos h2, Same_of ha hk]
        exact ⟨_, rfl, by rw [decide_eq_true_iff]; exact ⟨ev_ext h0 h1 h2, fun h => by rw [h]⟩⟩
      · rw [if_neg h2]; exact ⟨_, rfl, ⟨fun h => (by cases h), fun h => absurd (congrArg S45.f2 h) h2⟩⟩
    · rw [if_neg h1]; exact ⟨_, rfl, ⟨fun h => (by cases h), fun h => absurd (congrArg S45.f1 h) h1⟩⟩
  · rw [if_neg h0]; exact ⟨_, rfl, ⟨fun h => (by cases h), fun h => absurd (congrArg S45.f0 h) h0⟩⟩
theorem rd_T45_nat (l : List S45) (i : Nat) (h : i < l.length) : rd_T45 l (i : Int) = l[i] := by
  unfold rd_T45
  rw [Int.toNat_natCast, List.getD_eq_getElem?_getD, List.getElem?_eq_getElem h]; rfl
theorem SameAll_loop (a b : List S45) (hl : a.length = b.length) (hm : a.length ≤ 1000000000) (hs : ∀ x ∈ a, x.f3.length ≤ 1000000) : ∀ (d k i : Nat), i + d = a.length → 1000002 + d ≤ k → ∃ r, argosyref10_SameAll.l0 k a b (i : Int) = some r ∧ (r = true ↔ a.drop i = b.drop i) := by
  intro d
  induction d with
  | zero =>
    intro k i hi hk
    obtain ⟨k, rfl⟩ : ∃ m, k = m + 1 := ⟨k - 1, by omega⟩
    rw [argosyref10_SameAll.l0, if_neg (by omega), List.drop_eq_nil_of_le (by omega), List.drop_eq_nil_of_le (by omega)]
    exact ⟨_, rfl, by simp⟩
  | succ d ih =>
    intro k i hi hk
    obtain ⟨k, rfl⟩ : ∃ m, k = m + 1 := ⟨k - 1, by omega⟩
    have h1 : i < a.length := by omega
    have h2 : i < b.length := by omega
    rw [argosyref10_SameAll.l0, if_pos (by omega), if_pos (by omega), if_pos (by omega), rd_T45_nat a i h1, rd_T45_nat b i h2]
    obtain ⟨r, hr, hiff⟩ := SameEv_is (k := k) (a := a[i]) (b := b[i]) (hs _ (List.getElem_mem h1)) (by omega)
    rw [hr, Option.bind_some]
    by_cases h : r = true
    · rw [if_pos h, show wrap64 ((i : Int) + 1) = ((i + 1 : Nat) : Int) from by unfold wrap64; omega]
      obtain ⟨q, hq, hqi⟩ := ih k (i + 1) (by omega) (by omega)
      refine ⟨q, hq, ?_⟩
      rw [hqi]
      have he := hiff.1 h
      exact ⟨fun e => by rw [List.drop_eq_getElem_cons h1, List.drop_eq_getElem_cons h2, he, e], fun e => by rw [List.drop_eq_getElem_cons h1, List.drop_eq_getElem_cons h2] at e; exact (List.cons.inj e).2⟩
    · rw [if_neg h]
      refine ⟨_, rfl, ⟨fun h => (by cases h), fun e => ?_⟩⟩
      rw [List.drop_eq_getElem_cons h1, List.drop_eq_getElem_cons h2] at e
      exact absurd (hiff.2 (List.cons.inj e).1) h
theorem SameAll_is {k : Nat} {a b : List S45} (hm : a.length ≤ 1000000000) (hs : ∀ x ∈ a, x.f3.length ≤ 1000000) (hk : 2000000000 ≤ k) : ∃ r, argosyref10_SameAll.f k a b = some r ∧ (r = true ↔ a = b) := by
  unfold argosyref10_SameAll.f
  by_cases h : a.length = b.length
  · rw [if_pos (by omega)]
    have := SameAll_loop a b h hm hs a.length k 0 (by omega) (by omega)
    simpa using this
  · rw [if_neg (by omega)]
    exact ⟨_, rfl, ⟨fun h => (by cases h), fun e => absurd (congrArg List.length e) h⟩⟩
theorem SameAll_self {k : Nat} {a : List S45} (hm : a.length ≤ 1000000000) (hs : ∀ x ∈ a, x.f3.length ≤ 1000000) (hk : 2000000000 ≤ k) : argosyref10_SameAll.f k a a = some true := by
  obtain ⟨r, hr, hi⟩ := SameAll_is (b := a) hm hs hk
  rw [hr, hi.2 rfl]

/-! ### Few events, and the examples -/
theorem few_loop {l : List (List S45)} (hn : l.length ≤ 1000000) (hs : ∀ s ∈ l, s.length ≤ 140737488351232) : ∀ (d k j : Nat), j + d = l.length → d < k → argosylaw12_few.l0 k l (sumTo (lenP l) j) (j : Int) = some (decide (totP l ≤ 150))
  | d, k, j, hj, hk => by
    obtain ⟨k, rfl⟩ : ∃ m, k = m + 1 := ⟨k - 1, by omega⟩
    have hmono : ∀ n, j ≤ n → sumTo (lenP l) j ≤ sumTo (lenP l) n := by
      intro n
      induction n with
      | zero => intro h; obtain rfl : j = 0 := by omega
                exact Int.le_refl _
      | succ n ih =>
        intro h
        have h0 : 0 ≤ lenP l n := by unfold lenP; omega
        by_cases hjn : j = n + 1
        · subst hjn; exact Int.le_refl _
        · have := ih (by omega)
          rw [sumTo]; omega
    rw [argosylaw12_few.l0]
    by_cases hlt : j < l.length
    · rw [if_pos (by omega)]
      by_cases h150 : sumTo (lenP l) j ≤ 150
      · rw [if_pos h150, if_pos (by omega), rd_L3_nat]
        obtain ⟨d, rfl⟩ : ∃ q, d = q + 1 := ⟨d - 1, by omega⟩
        have hlen : (l.getD j []).length ≤ 140737488351232 := by
          rw [List.getD_eq_getElem?_getD, List.getElem?_eq_getElem hlt]
          exact hs _ (List.getElem_mem hlt)
        have h0 : 0 ≤ sumTo (lenP l) j := sumTo_nonneg j (fun i _ => by unfold lenP; omega)
        have e1 : wrap64 (sumTo (lenP l) j + ((l.getD j []).length : Int)) = sumTo (lenP l) (j + 1) := by
          show wrap64 (sumTo (lenP l) j + ((l.getD j []).length : Int)) = sumTo (lenP l) j + ((l.getD j []).length : Int)
          unfold wrap64; omega
        have e2 : wrap64 ((j : Int) + 1) = ((j + 1 : Nat) : Int) := by unfold wrap64; omega
        rw [e1, e2]
        exact few_loop hn hs d k (j + 1) (by omega) (by omega)
      · rw [if_neg h150]
        have := hmono l.length (by omega)
        congr 1
        rw [decide_eq_decide]
        unfold totP
        omega
    · rw [if_neg (by omega)]
      obtain rfl : j = l.length := by omega
      rfl
theorem few_is {k : Nat} {l : List (List S45)} (hs : ∀ s ∈ l, s.length ≤ 140737488351232) (hk : 80 ≤ k) : argosylaw12_few.f k l = some (decide (l.length ≤ 70 ∧ totP l ≤ 150)) := by
  unfold argosylaw12_few.f
  by_cases h : l.length ≤ 70
  · rw [if_neg (by omega), show (0 : Int) = sumTo (lenP l) 0 from rfl]
    have := few_loop (by omega) hs l.length k 0 (by omega) (by omega)
    rw [show ((0 : Nat) : Int) = sumTo (lenP l) 0 from rfl] at this
    rw [this]
    congr 1
    rw [decide_eq_decide]
    exact ⟨fun h2 => ⟨h, h2⟩, fun h2 => h2.2⟩
  · rw [if_pos (by omega), decide_eq_false (by omega)]
theorem gen_stamps {l : List (List S45)} : ∀ (m : Nat) (hv : List Int) (out : List S45), hv.length = l.length → ∀ x ∈ (genP l m hv out).1, x ∈ out ∨ x.f3.length = l.length
  | 0, _, _, _, x, hx => .inl hx
  | m + 1, hv, out, hl, x, hx => by
    rw [genP] at hx
    cases hp : pickP l hv l.length 0 with
    | none => rw [hp] at hx; exact .inl hx
    | some i =>
      rw [hp] at hx
      obtain ⟨_, _, h3, _⟩ := pick_some _ _ _ hp
      rcases gen_stamps m _ _ (by rw [List.length_set]; exact hl) x hx with h | h
      · rcases List.mem_append.1 h with h | h
        · exact .inl h
        · obtain rfl := List.mem_singleton.1 h
          unfold canP nextP at h3
          simp at h3
          exact .inr (h3.2.1.trans hl)
      · exact .inr h
theorem gen_len {l : List (List S45)} : ∀ (m : Nat) (hv : List Int) (out : List S45), (genP l m hv out).1.length ≤ out.length + m ∧ (genP l m hv out).2.length = hv.length
  | 0, _, _ => ⟨Nat.le_refl _, rfl⟩
  | m + 1, hv, out => by
    rw [genP]
    cases hp : pickP l hv l.length 0 with
    | none => exact ⟨(by show out.length ≤ out.length + (m + 1); omega), rfl⟩
    | some i =>
      obtain ⟨h1, h2⟩ := gen_len m (hv.set i (hadP hv i + 1)) (out ++ [evP l hv i])
      simp only
      rw [List.length_append] at h1
      rw [List.length_set] at h2
      exact ⟨by simp at h1; omega, h2⟩
/-- What the merge of few branches' logs tells. -/
def mergeP (l : List (List S45)) : List S45 × List Int := if 1 ≤ l.length ∧ l.length ≤ 64 then genP l 150 (List.replicate l.length 0) [] else ([], [])
theorem mergeP_len (l : List (List S45)) : (mergeP l).1.length ≤ 150 ∧ (mergeP l).2.length ≤ 64 ∧ ∀ x ∈ (mergeP l).1, x.f3.length = l.length ∧ l.length ≤ 64 := by
  unfold mergeP
  by_cases h : 1 ≤ l.length ∧ l.length ≤ 64
  · rw [if_pos h]
    obtain ⟨h1, h2⟩ := gen_len (l := l) 150 (List.replicate l.length 0) []
    refine ⟨by simpa using h1, by rw [h2]; simp; exact h.2, fun x hx => ?_⟩
    rcases gen_stamps 150 _ _ (by simp) x hx with h3 | h3
    · cases h3
    · exact ⟨h3, h.2⟩
  · rw [if_neg h]
    exact ⟨by simp, by simp, fun x hx => by cases hx⟩

theorem MergeMerges : argosylaw12_MergeMerges.Pure := fun l hn hs => ⟨2000000000, by
  have hlv : argosylaw12_lives.f 2000000000 = some true := lives_is (by decide)
  unfold argosylaw12_MergeMerges.f
  rw [few_is (fun s hs2 => by have := (hs s hs2).1; omega) (by decide), Option.bind_some]
  by_cases h : l.length ≤ 70 ∧ totP l ≤ 150
  · rw [if_pos (decide_eq_true h), Merge_is (by omega) h.2 (by decide), MergeR_is h.2 (by decide), Option.bind_some, Option.bind_some]
    show ((argosyref10_SameAll.f 2000000000 (mergeP l).1 (mergeP l).1).bind fun t289 => (if t289 = true then ((argosyref01_Same.f 2000000000 (mergeP l).2 (mergeP l).2).bind fun t290 => _) else _)) = _
    obtain ⟨h1, h2, h3⟩ := mergeP_len l
    rw [SameAll_self (by omega) (fun x hx => by have := h3 x hx; omega) (by decide), Option.bind_some, if_pos rfl, Same_of (by omega) (by decide), Option.bind_some, if_pos (by simp), hlv]
    rfl
  · rw [if_neg (by rw [decide_eq_true_iff]; exact h), hlv]
    rfl⟩

end Go.Proofs.Ytbkdogijkfampaa.Pure
