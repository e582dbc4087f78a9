/- Any counts have the bytes, and any bytes are the stamp, that the document says, or none: no condition. -/
import Derived.Test.YtklblahjihjlpaaPStampReadsx6
set_option linter.unusedVariables false
set_option linter.unusedSimpArgs false
namespace Go.Proofs.Ytklblahjihjlpaa.Pure
open Go.RowKit Go.Proofs.Ytklblahjihjlpaa.PStampReads Go.Proofs.YtklblahjihjlpaaW.PrintWords Go.Proofs.YtklblahjihjlpaaW.PrintLast Go.Proofs.YtklblahjihjlpaaW.PrintMore

/-! ### Bytes -/
def isB (l : List Int) : Prop := ∀ x ∈ l, 0 ≤ x ∧ x < 256
theorem isB_of_wf {l : List Int} (h : ∀ x ∈ l, (Lit.int .u8 x).wf = true) : isB l := by
  intro x hx
  have := h x hx
  simp [Lit.wf, IntKind.min, IntKind.max, IntKind.bits, IntKind.signed] at this
  omega
theorem i64_of_wf {x : Int} (h : (Lit.int .i64 x).wf = true) : -9223372036854775808 ≤ x ∧ x ≤ 9223372036854775807 := by
  simp [Lit.wf, IntKind.min, IntKind.max, IntKind.bits, IntKind.signed] at h
  omega
theorem toList_loop (s : ByteArray) : ∀ (d i : Nat) (r : List UInt8), s.size - i = d → ByteArray.toList.loop s i r = r.reverse ++ s.data.toList.drop i := by
  intro d
  have hl : s.data.toList.length = s.size := Array.length_toList
  induction d with
  | zero =>
    intro i r h
    unfold ByteArray.toList.loop
    rw [if_neg (by omega), List.drop_eq_nil_of_le (by omega), List.append_nil]
  | succ d ih =>
    intro i r h
    unfold ByteArray.toList.loop
    rw [if_pos (by omega), ih (i + 1) _ (by omega)]
    have hi : i < s.data.toList.length := by omega
    rw [List.drop_eq_getElem_cons hi, List.reverse_cons, List.append_assoc]
    have : s.get! i = s.data.toList[i] := by
      have hs : i < s.size := by omega
      simp [ByteArray.get!, getElem!_pos, hs]
    rw [this]; rfl
theorem bytes_toList (s : ByteArray) : s.toList = s.data.toList := by
  unfold ByteArray.toList
  rw [toList_loop s _ 0 [] rfl]
  simp
theorem bytes_ext {a b : ByteArray} (h : a.toList = b.toList) : a = b := by
  rw [bytes_toList, bytes_toList] at h
  cases a; cases b
  congr 1
  exact Array.toList_inj.1 h
theorem son_data (xs : List Int) : (strOfNums xs).data.toList = xs.map fun n => UInt8.ofNat n.toNat := by simp [strOfNums]
theorem son_size (xs : List Int) : (strOfNums xs).size = xs.length := by simp [strOfNums, ByteArray.size]
theorem son_append (xs ys : List Int) : strOfNums (xs ++ ys) = strOfNums xs ++ strOfNums ys := by
  apply bytes_ext
  rw [bytes_toList, bytes_toList, son_data]
  simp [strOfNums]
theorem son_nil : strOfNums [] = (⟨#[]⟩ : ByteArray) := rfl
theorem u8_inj {a b : Int} (ha : 0 ≤ a ∧ a < 256) (hb : 0 ≤ b ∧ b < 256) (h : UInt8.ofNat a.toNat = UInt8.ofNat b.toNat) : a = b := by
  have := congrArg UInt8.toNat h
  simp [UInt8.toNat_ofNat'] at this
  omega
theorem map_u8_inj : ∀ {xs ys : List Int}, isB xs → isB ys → (xs.map fun n => UInt8.ofNat n.toNat) = (ys.map fun n => UInt8.ofNat n.toNat) → xs = ys
  | [], [], _, _, _ => rfl
  | [], y :: ys, _, _, h => by simp at h
  | x :: xs, [], _, _, h => by simp at h
  | x :: xs, y :: ys, hx, hy, h => by
    simp only [List.map_cons, List.cons.injEq] at h
    rw [u8_inj (hx x (by simp)) (hy y (by simp)) h.1, map_u8_inj (fun z hz => hx z (by simp [hz])) (fun z hz => hy z (by simp [hz])) h.2]
theorem son_inj {xs ys : List Int} (hx : isB xs) (hy : isB ys) (h : strOfNums xs = strOfNums ys) : xs = ys := by
  have := congrArg (fun s : ByteArray => s.data.toList) h
  simp only [son_data] at this
  exact map_u8_inj hx hy this
theorem son_toList_inj {xs ys : List Int} (hx : isB xs) (hy : isB ys) : (strOfNums xs).toList = (strOfNums ys).toList ↔ xs = ys :=
  ⟨fun h => son_inj hx hy (bytes_ext h), fun h => by rw [h]⟩
theorem son_bt {xs : List Int} (hx : isB xs) (i : Int) (h0 : 0 ≤ i) (h : i < xs.length) : bt (strOfNums xs) i = rd xs i := by
  have hi : i.toNat < xs.length := by omega
  unfold bt rd
  rw [dif_pos (by rw [son_size]; exact hi)]
  have hg : (strOfNums xs)[i.toNat]'(by rw [son_size]; exact hi) = UInt8.ofNat (xs[i.toNat]).toNat := by
    show (strOfNums xs).data[i.toNat]'_ = _
    simp [strOfNums]
  rw [hg, List.getD_eq_getElem?_getD, List.getElem?_eq_getElem hi]
  have := hx _ (List.getElem_mem hi)
  simp [UInt8.toNat_ofNat']
  omega
theorem son_extract (xs : List Int) (a b : Nat) : (strOfNums xs).extract a b = strOfNums ((xs.take b).drop a) := by
  apply bytes_ext
  rw [bytes_toList, bytes_toList, son_data]
  simp [strOfNums, ByteArray.data_extract, List.drop_take, List.map_take, List.map_drop, List.extract]
theorem isB_append {xs ys : List Int} (hx : isB xs) (hy : isB ys) : isB (xs ++ ys) := by
  intro z hz
  rcases List.mem_append.1 hz with h | h
  · exact hx z h
  · exact hy z h
theorem isB_take {xs : List Int} (h : isB xs) (n : Nat) : isB (xs.take n) := fun z hz => h z (List.mem_of_mem_take hz)
theorem isB_drop {xs : List Int} (h : isB xs) (n : Nat) : isB (xs.drop n) := fun z hz => h z (List.mem_of_mem_drop hz)
theorem rd_at {xs : List Int} (i : Int) (h0 : 0 ≤ i) (h : i < xs.length) : rd xs i = xs[i.toNat]'(by omega) := by
  unfold rd
  rw [List.getD_eq_getElem?_getD, List.getElem?_eq_getElem (by omega)]; rfl
theorem rd_isB {xs : List Int} (hx : isB xs) (i : Int) (h0 : 0 ≤ i) (h : i < xs.length) : 0 ≤ rd xs i ∧ rd xs i < 256 := by
  rw [rd_at i h0 h]
  exact hx _ (List.getElem_mem _)
theorem w64 {x : Int} (h : -9223372036854775808 ≤ x ∧ x ≤ 9223372036854775807) : wrap64 x = x := by
  unfold wrap64
  omega

/-! ### Numbers alike -/
theorem Same_loop (a b : List Int) (hl : a.length = b.length) (ha : a.length ≤ 1152921504606846976) : ∀ (d k i : Nat), i + d = a.length → d < k → argosyref01_Same.l0 k a b (i : Int) = some (decide (a.drop i = b.drop i)) := by
  intro d
  induction d with
  | zero =>
    intro k i hi hk
    obtain ⟨k, rfl⟩ : ∃ m, k = m + 1 := ⟨k - 1, by omega⟩
    simp only [argosyref01_Same.l0]
    rw [if_neg (by omega), List.drop_eq_nil_of_le (by omega), List.drop_eq_nil_of_le (by omega)]
    simp
  | succ d ih =>
    intro k i hi hk
    obtain ⟨k, rfl⟩ : ∃ m, k = m + 1 := ⟨k - 1, by omega⟩
    simp only [argosyref01_Same.l0]
    have h1 : i < a.length := by omega
    have h2 : i < b.length := by omega
    have hra : rd a (i : Int) = a[i] := by rw [rd_at _ (by omega) (by omega)]; rfl
    have hrb : rd b (i : Int) = b[i] := by rw [rd_at _ (by omega) (by omega)]; rfl
    rw [if_pos (by omega), if_pos (by omega), if_pos (by omega), hra, hrb, List.drop_eq_getElem_cons h1, List.drop_eq_getElem_cons h2]
    by_cases h : a[i] = b[i]
    · rw [if_pos h, w64 (by omega), show ((i : Int) + 1) = ((i + 1 : Nat) : Int) from by omega, ih k (i + 1) (by omega) (by omega)]
      rw [h]
      congr 1
      rw [decide_eq_decide]
      simp only [List.cons.injEq, true_and]
    · rw [if_neg h, decide_eq_false]
      simp only [List.cons.injEq]
      exact fun hc => h hc.1
theorem Same_is {k : Nat} {a b : List Int} (ha : a.length ≤ 1152921504606846976) (hk : a.length < k) : argosyref01_Same.f k a b = some (decide (a = b)) := by
  unfold argosyref01_Same.f
  by_cases hl : a.length = b.length
  · rw [if_pos (by omega)]
    have := Same_loop a b hl ha a.length k 0 (by omega) hk
    simpa using this
  · rw [if_neg (by omega)]
    have : a ≠ b := fun h => hl (by rw [h])
    simp [this]

/-! ### Stamps -/
theorem atS_nat (l : List Int) (j : Nat) : atS l (j : Int) = l.getD j 0 := by
  unfold atS
  by_cases h : j < l.length
  · rw [if_pos (by omega)]; unfold rd; simp
  · rw [if_neg (by omega), List.getD_eq_getElem?_getD, List.getElem?_eq_none (by omega)]; rfl
theorem lenS_comm (a b : List Int) : lenS a b = lenS b a := by unfold lenS; split <;> split <;> omega
theorem lenS_le {a b : List Int} {n : Nat} (ha : a.length ≤ n) (hb : b.length ≤ n) : lenS a b ≤ n := by unfold lenS; split <;> omega
theorem le_lenS (a b : List Int) : a.length ≤ lenS a b ∧ b.length ≤ lenS a b := by unfold lenS; split <;> omega
theorem lenS_lt {a b : List Int} {i : Nat} : i < lenS a b ↔ i < a.length ∨ i < b.length := by unfold lenS; split <;> omega
def lessT (t : Int × Int × Int) : Bool := decide (t.2.1 < t.2.2)
def moreT (t : Int × Int × Int) : Bool := decide (t.2.2 < t.2.1)
def lessS (a b : List Int) : Bool := (upto a b (lenS a b)).any lessT
def moreS (a b : List Int) : Bool := (upto a b (lenS a b)).any moreT
def encR (l m : Bool) : Int := if m then (if l then 3 else 2) else (if l then 1 else 0)
theorem rankF_enc (l m : Bool) (t : Int × Int × Int) : rankF (encR l m) t = encR (l || lessT t) (m || moreT t) := by
  unfold rankF
  by_cases h1 : t.2.1 < t.2.2
  · have h2 : ¬ t.2.2 < t.2.1 := by omega
    rw [if_pos h1]
    have e1 : lessT t = true := decide_eq_true h1
    have e2 : moreT t = false := decide_eq_false h2
    rw [e1, e2]
    cases l <;> cases m <;> decide +kernel
  · have e1 : lessT t = false := decide_eq_false h1
    rw [if_neg h1, e1]
    by_cases h2 : t.2.2 < t.2.1
    · have e2 : moreT t = true := decide_eq_true h2
      rw [if_pos h2, e2]
      cases l <;> cases m <;> decide +kernel
    · have e2 : moreT t = false := decide_eq_false h2
      rw [if_neg h2, e2]
      cases l <;> cases m <;> rfl
theorem rankW_gen (L : List (Int × Int × Int)) : ∀ l m : Bool, L.foldl rankF (encR l m) = encR (l || L.any lessT) (m || L.any moreT) := by
  induction L with
  | nil => intro l m; simp
  | cons t L ih => intro l m; rw [List.foldl_cons, rankF_enc, ih]; simp [Bool.or_assoc]
theorem rankW_is (a b : List Int) : rankW (upto a b (lenS a b)) = encR (lessS a b) (moreS a b) := by
  have := rankW_gen (upto a b (lenS a b)) false false
  simp only [Bool.false_or] at this
  exact this
theorem Rank_is {a b : List Int} (ha : a.length ≤ 1000000) (hb : b.length ≤ 1000000) : stamp_Rank.f a b = some (encR (lessS a b) (moreS a b)) := by
  unfold stamp_Rank.f
  rw [if_pos ⟨ha, hb⟩, rankW_is]
theorem any_upto (a b : List Int) (N : Nat) (p : Int × Int × Int → Bool) : (upto a b N).any p = true ↔ ∃ j, j < N ∧ p (trip a b j) = true := by
  unfold upto
  rw [List.any_eq_true]
  constructor
  · rintro ⟨x, hx, hp⟩
    obtain ⟨j, hj, rfl⟩ := List.mem_map.1 hx
    exact ⟨j, List.mem_range.1 hj, hp⟩
  · rintro ⟨j, hj, hp⟩
    exact ⟨_, List.mem_map.2 ⟨j, List.mem_range.2 hj, rfl⟩, hp⟩
theorem lessS_iff (a b : List Int) : lessS a b = true ↔ ∃ j, a.getD j 0 < b.getD j 0 := by
  unfold lessS
  rw [any_upto]
  constructor
  · rintro ⟨j, _, h⟩
    refine ⟨j, ?_⟩
    have := of_decide_eq_true h
    simpa only [trip, atS_nat] using this
  · rintro ⟨j, h⟩
    refine ⟨j, ?_, ?_⟩
    · by_cases hj : j < lenS a b
      · exact hj
      · have := le_lenS a b
        rw [List.getD_eq_getElem?_getD, List.getD_eq_getElem?_getD, List.getElem?_eq_none (by omega), List.getElem?_eq_none (by omega)] at h
        simp at h
    · unfold lessT
      simp only [trip, atS_nat]
      exact decide_eq_true h
theorem moreS_iff (a b : List Int) : moreS a b = true ↔ ∃ j, b.getD j 0 < a.getD j 0 := by
  unfold moreS
  rw [any_upto]
  constructor
  · rintro ⟨j, _, h⟩
    refine ⟨j, ?_⟩
    have := of_decide_eq_true h
    simpa only [trip, atS_nat] using this
  · rintro ⟨j, h⟩
    refine ⟨j, ?_, ?_⟩
    · by_cases hj : j < lenS a b
      · exact hj
      · have := le_lenS a b
        rw [List.getD_eq_getElem?_getD, List.getD_eq_getElem?_getD, List.getElem?_eq_none (by omega), List.getElem?_eq_none (by omega)] at h
        simp at h
    · unfold moreT
      simp only [trip, atS_nat]
      exact decide_eq_true h
theorem bool_ext {p q : Bool} (h : p = true ↔ q = true) : p = q := by cases p <;> cases q <;> simp_all
theorem moreS_swap (a b : List Int) : moreS a b = lessS b a := bool_ext (by rw [moreS_iff, lessS_iff])
theorem few_is (l : List Int) : argosylaw09_few.f l = some (decide (l.length ≤ 300)) := by
  unfold argosylaw09_few.f
  congr 1
  rw [decide_eq_decide]
  omega
theorem Check_is {l : List Int} (h : l.length ≤ 1000000) : stamp_Check.f l = some (if chkS l = true then 2 else 0) := by unfold stamp_Check.f; rw [if_pos h]
theorem Clone_is {l : List Int} (h : l.length ≤ 1000000) : slices_Clone_int_int.f l = some l := by unfold slices_Clone_int_int.f; rw [if_pos (by omega)]
theorem Next_is {a b : List Int} (i : Int) (ha : a.length ≤ 1000000) (hb : b.length ≤ 1000000) : stamp_Next.f a b i = some (nextS a b i) := by unfold stamp_Next.f; rw [if_pos ⟨ha, hb⟩]
theorem Join_is {a b : List Int} (ha : a.length ≤ 1000000) (hb : b.length ≤ 1000000) : stamp_Join.f a b = some (joinW (upto a b (lenS a b))) := by unfold stamp_Join.f; rw [if_pos ⟨ha, hb⟩]
def tickS (l : List Int) (i : Int) : List Int × Int := if chkS l = true ∨ i < 0 ∨ i ≥ l.length ∨ rd l i = 1099511627776 then ([], 2) else (l.set i.toNat (wrap64 (rd l i + 1)), 0)
theorem Tick_is {l : List Int} (i : Int) (h : l.length ≤ 1000000) : stamp_Tick.f l i = some (tickS l i) := by
  unfold stamp_Tick.f tickS
  rw [Check_is h, Option.bind_some]
  by_cases hc : chkS l = true
  · rw [if_pos hc, if_neg (by decide), if_pos (.inl hc)]
  · rw [if_neg hc, if_pos rfl]
    by_cases h1 : i < 0
    · rw [if_pos h1, if_pos (.inr (.inl h1))]
    · rw [if_neg h1]
      by_cases h2 : i ≥ l.length
      · rw [if_pos h2, if_pos (.inr (.inr (.inl h2)))]
      · rw [if_neg h2, if_pos (by omega), if_pos (by omega)]
        by_cases h3 : rd l i = 1099511627776
        · rw [if_pos h3, if_pos (.inr (.inr (.inr h3)))]
        · rw [if_neg h3, Clone_is h, Option.bind_some, if_pos (by omega), if_neg (by rintro (q | q | q | q) <;> contradiction)]
theorem Same_of {k : Nat} {a b : List Int} (ha : a.length ≤ 1000000) (hk : 1000001 ≤ k) : argosyref01_Same.f k a b = some (decide (a = b)) := Same_is (by omega) (by omega)
theorem lives_is {k : Nat} (hk : 1000001 ≤ k) : argosylaw09_lives.f k = some true := by
  unfold argosylaw09_lives.f
  have t1 : stamp_Tick.f ([1, 2] : List Int) 0 = some ([2, 2], 0) := by decide +kernel
  have t2 : stamp_Rank.f ([1, 2] : List Int) [1, 3] = some 1 := by decide +kernel
  have t3 : stamp_Rank.f ([1, 2] : List Int) [2, 1] = some 3 := by decide +kernel
  have t4 : stamp_Rank.f ([1] : List Int) [1, 0] = some 0 := by decide +kernel
  have t5 : stamp_Join.f ([1, 5] : List Int) [2, 3] = some [2, 5] := by decide +kernel
  have t6 : stamp_Next.f ([1, 2] : List Int) [2, 1] 0 = some true := by decide +kernel
  have t7 : stamp_Next.f ([1, 2] : List Int) [2, 3] 0 = some false := by decide +kernel
  have s1 := Same_of (k := k) (a := [2, 5]) (b := [2, 5]) (by simp) hk
  have s2 := Same_of (k := k) (a := [2, 2]) (b := [2, 2]) (by simp) hk
  rw [t1, Option.bind_some, t2, Option.bind_some, if_pos rfl, t3, Option.bind_some, if_pos rfl, t4, Option.bind_some, if_pos rfl, t5, Option.bind_some, s1, Option.bind_some, if_pos (by decide)]
  dsimp only
  rw [s2, Option.bind_some, if_pos (by decide), if_pos rfl, t6, Option.bind_some, if_pos rfl, t7, Option.bind_some, if_neg (by decide)]

/-! ### The reference's stamps -/
theorem Is_is (x : Int) : argosyref08_Is.f x = some (!badS x) := by
  unfold argosyref08_Is.f badS
  by_cases h : x ≥ 0
  · rw [if_pos h, decide_eq_false (by omega : ¬ x < 0), Bool.false_or]
    congr 1
    by_cases h2 : x ≤ 1099511627776
    · rw [decide_eq_true h2, decide_eq_false (by omega)]; rfl
    · rw [decide_eq_false h2, decide_eq_true (by omega)]; rfl
  · rw [if_neg h, decide_eq_true (by omega : x < 0), Bool.true_or]; rfl
theorem Right_loop (l : List Int) (hl : l.length ≤ 1000000) : ∀ (d k i : Nat), i + d = l.length → d < k → argosyref09_Right.l0 k l (i : Int) = some (!((l.drop i).any badS) && (decide (1 ≤ l.length) && decide (l.length ≤ 64))) := by
  intro d
  induction d with
  | zero =>
    intro k i hi hk
    obtain ⟨k, rfl⟩ : ∃ m, k = m + 1 := ⟨k - 1, by omega⟩
    simp only [argosyref09_Right.l0]
    rw [if_neg (by omega), List.drop_eq_nil_of_le (by omega)]
    by_cases h : 1 ≤ l.length
    · rw [if_pos (by omega), decide_eq_true h]
      simp only [List.any_nil, Bool.not_false, Bool.true_and]
      congr 1
      rw [decide_eq_decide]; omega
    · rw [if_neg (by omega), decide_eq_false h]; simp
  | succ d ih =>
    intro k i hi hk
    obtain ⟨k, rfl⟩ : ∃ m, k = m + 1 := ⟨k - 1, by omega⟩
    simp only [argosyref09_Right.l0]
    have h1 : i < l.length := by omega
    have hra : rd l (i : Int) = l[i] := by rw [rd_at _ (by omega) (by omega)]; rfl
    rw [if_pos (by omega), if_pos (by omega), hra, Is_is, Option.bind_some, List.drop_eq_getElem_cons h1, List.any_cons]
    cases hb : badS l[i] with
    | true => rw [if_neg (by decide)]; simp
    | false => rw [if_pos (by decide), w64 (by omega), show ((i : Int) + 1) = ((i + 1 : Nat) : Int) from by omega, ih k (i + 1) (by omega) (by omega), Bool.false_or]
theorem Right_is {k : Nat} {l : List Int} (hl : l.length ≤ 1000000) (hk : 1000001 ≤ k) : argosyref09_Right.f k l = some (!chkS l) := by
  unfold argosyref09_Right.f
  have := Right_loop l hl l.length k 0 (by omega) (by omega)
  rw [show ((0 : Nat) : Int) = 0 from rfl] at this
  rw [this]
  congr 1
  unfold chkS
  rw [List.drop_zero]
  by_cases h1 : l.length < 1
  · rw [decide_eq_true h1, decide_eq_false (by omega : ¬ 1 ≤ l.length)]; simp
  · rw [decide_eq_false h1, decide_eq_true (by omega : 1 ≤ l.length)]
    by_cases h2 : 64 < l.length
    · rw [decide_eq_true h2, decide_eq_false (by omega)]; simp
    · rw [decide_eq_false h2, decide_eq_true (by omega)]; simp

/-! ### Numbers as few bytes -/
def enc (n : Nat) : List Int := if n < 128 then [(n : Int)] else ((128 + n % 128 : Nat) : Int) :: enc (n / 128)
termination_by n
decreasing_by omega
theorem enc_lt {n : Nat} (h : n < 128) : enc n = [(n : Int)] := by rw [enc, if_pos h]
theorem enc_ge {n : Nat} (h : ¬ n < 128) : enc n = ((128 + n % 128 : Nat) : Int) :: enc (n / 128) := by rw [enc, if_neg h]
theorem enc_isB (n : Nat) : isB (enc n) := by
  induction n using Nat.strongRecOn with
  | _ n ih =>
    by_cases h : n < 128
    · rw [enc_lt h]
      intro x hx
      simp at hx
      omega
    · rw [enc_ge h]
      intro x hx
      rcases List.mem_cons.1 hx with rfl | hx
      · omega
      · exact ih (n / 128) (by omega) x hx
theorem enc_len : ∀ (d n : Nat), n < 128 ^ (d + 1) → 1 ≤ (enc n).length ∧ (enc n).length ≤ d + 1
  | 0, n, h => by rw [enc_lt (by simpa using h)]; simp
  | d + 1, n, h => by
    by_cases hn : n < 128
    · rw [enc_lt hn]; simp
    · rw [enc_ge hn]
      have := enc_len d (n / 128) (by rw [Nat.pow_succ] at h; omega)
      simp; omega
theorem enc_small {n : Nat} (h : n ≤ 1099511627776) : 1 ≤ (enc n).length ∧ (enc n).length ≤ 6 := enc_len 5 n (by omega)
theorem enc_zero : ∀ (n : Nat) (q : List Int), enc n = q ++ [0] → q = [] := by
  intro n
  induction n using Nat.strongRecOn with
  | _ n ih =>
    intro q h
    by_cases hn : n < 128
    · rw [enc_lt hn] at h
      cases q with
      | nil => rfl
      | cons x q => simp at h
    · rw [enc_ge hn] at h
      cases q with
      | nil => rfl
      | cons x q =>
        simp only [List.cons_append, List.cons.injEq] at h
        have hq := ih (n / 128) (by omega) q h.2
        subst hq
        have h2 := h.2
        by_cases hm : n / 128 < 128
        · rw [enc_lt hm] at h2
          simp at h2
          omega
        · rw [enc_ge hm] at h2
          have hl := (enc_len (n / 128) (n / 128 / 128) (Nat.lt_of_lt_of_le (Nat.lt_pow_self (by omega)) (Nat.pow_le_pow_right (by omega) (by omega)))).1
          simp at h2
          rw [h2.2] at hl
          simp at hl
def valI : List Int → Int
  | [] => 0
  | c :: r => c % 128 + 128 * valI r
theorem valI_snoc : ∀ (p : List Int) (c : Int), valI (p ++ [c]) = valI p + (c % 128) * 128 ^ p.length
  | [], c => by simp [valI]
  | x :: p, c => by
    simp only [List.cons_append, valI, valI_snoc p c, List.length_cons, Int.pow_succ, Int.mul_add]
    rw [Int.add_assoc]
    congr 2
    rw [← Int.mul_assoc, Int.mul_comm 128 (c % 128), Int.mul_assoc, Int.mul_comm 128]
theorem valI_nonneg : ∀ p : List Int, 0 ≤ valI p
  | [] => Int.le_refl _
  | x :: p => by have := valI_nonneg p; simp only [valI]; omega
theorem enc_valI : ∀ (p : List Int) (c : Int), (∀ x ∈ p, 128 ≤ x ∧ x < 256) → 0 ≤ c → c < 128 → (p = [] ∨ 0 < c) → enc (valI (p ++ [c])).toNat = p ++ [c] ∧ (0 < c → 0 < valI (p ++ [c]))
  | [], c, _, h0, h1, _ => by
    have : valI ([] ++ [c]) = c := by simp [valI]; omega
    rw [this, enc_lt (by omega)]
    exact ⟨by simp; omega, fun h => h⟩
  | x :: p, c, hp, h0, h1, hc => by
    have hc' : 0 < c := by rcases hc with h | h; · cases h
                           · exact h
    have ih := enc_valI p c (fun z hz => hp z (by simp [hz])) h0 h1 (.inr hc')
    have hpos := ih.2 hc'
    have hx := hp x (by simp)
    have hv : valI (x :: p ++ [c]) = x % 128 + 128 * valI (p ++ [c]) := rfl
    have hge : ¬ (valI (x :: p ++ [c])).toNat < 128 := by rw [hv]; omega
    refine ⟨?_, fun _ => by rw [hv]; omega⟩
    rw [enc_ge hge]
    have h2 : (valI (x :: p ++ [c])).toNat / 128 = (valI (p ++ [c])).toNat := by rw [hv]; omega
    rw [h2, ih.1]
    simp only [List.cons_append, List.cons.injEq, and_true]
    have h3 : (valI (x :: p ++ [c])).toNat % 128 = (x % 128).toNat := by rw [hv]; omega
    rw [List.cons_append] at h3
    rw [h3]
    omega
theorem wraps_i64 (n : Int) (h0 : 0 ≤ n) (h1 : n < 2 ^ 62) : IntKind.i64.wrap n = n := by rw [IntKind.wrap_i64]; omega
theorem and127 {x : Int} (h0 : 0 ≤ x) (h1 : x < 2 ^ 62) : Go.bits .and .i64 x 127 = x % 128 := bits_mask .i64 62 (by decide) wraps_i64 7 (by decide) x h0 h1
theorem or_flip {x y : Int} (hx : 0 ≤ x ∧ x < 2 ^ 62) (hy : 0 ≤ y ∧ y < 2 ^ 62) : Go.bits .or .i64 x y = Go.bits .or .i64 y x := by
  obtain ⟨a, rfl⟩ := Int.eq_ofNat_of_zero_le hx.1
  obtain ⟨b, rfl⟩ := Int.eq_ofNat_of_zero_le hy.1
  have ha : a < 2 ^ 62 := by exact_mod_cast hx.2
  have hb : b < 2 ^ 62 := by exact_mod_cast hy.2
  have h1 := bits_nat .i64 62 (by decide) wraps_i64 a b ha hb
  have h2 := bits_nat .i64 62 (by decide) wraps_i64 b a hb ha
  rw [h1.2, h2.2, Nat.or_comm]
theorem or128 {y : Int} (h0 : 0 ≤ y) (h1 : y < 128) : Go.bits .or .i64 y 128 = 128 + y := by
  rw [or_flip (by omega) (by omega)]
  exact bits_join .i64 62 (by decide) wraps_i64 7 128 y (by omega) (by decide) (by omega) h0 h1 (by omega)
theorem put_byte {x : Int} (h0 : 0 ≤ x) (h1 : x < 2 ^ 62) : (Go.bits .or .i64 (Go.bits .and .i64 x 127) 128) % 256 = 128 + x % 128 := by
  rw [and127 h0 h1, or128 (by omega) (by omega)]
  omega
theorem put_loop : ∀ (d k : Nat) (l : List Int) (n : Nat), n < 128 ^ (d + 1) → d < k → l.length + d < 140737488355328 → d ≤ 7 → wire_put.l0 k l n = some (l ++ enc n)
  | d, k, l, n, hn, hk, hl, hd => by
    obtain ⟨k, rfl⟩ : ∃ m, k = m + 1 := ⟨k - 1, by omega⟩
    simp only [wire_put.l0]
    have hbig : n < 2 ^ 62 := by
      have : 128 ^ (d + 1) ≤ 128 ^ 8 := Nat.pow_le_pow_right (by omega) (by omega)
      omega
    by_cases h : n < 128
    · rw [if_neg (by omega), if_pos (by omega), enc_lt h]
      congr 3
      omega
    · cases d with
      | zero => simp at hn; omega
      | succ d =>
        rw [if_pos (by omega), if_pos (by omega), put_byte (by omega) (by omega), enc_ge h]
        have hb : (n : Int) / 128 = ((n / 128 : Nat) : Int) := by omega
        rw [hb, put_loop d k _ (n / 128) (by rw [Nat.pow_succ] at hn; omega) (by omega) (by simp; omega) (by omega)]
        simp
theorem is_in {n : Int} (h0 : 0 ≤ n) (h1 : n ≤ 1099511627776) : wire_is.f n = some true := by unfold wire_is.f; rw [if_pos h0, decide_eq_true h1]
theorem is_out {n : Int} (h : ¬ (0 ≤ n ∧ n ≤ 1099511627776)) : wire_is.f n = some false := by
  unfold wire_is.f
  by_cases h0 : n ≥ 0
  · rw [if_pos h0, decide_eq_false (by omega)]
  · rw [if_neg h0]
theorem put_ok {k : Nat} {l : List Int} {n : Int} (h0 : 0 ≤ n) (h1 : n ≤ 1099511627776) (hl : l.length ≤ 140737488355000) (hk : 6 ≤ k) : wire_put.f k l n = some (l ++ enc n.toNat) := by
  have := put_loop 5 k l n.toNat (by omega) (by omega) (by omega) (by omega)
  rw [Int.toNat_of_nonneg h0] at this
  exact this
def encs : List Int → Option (List Int)
  | [] => some []
  | n :: l => if 0 ≤ n ∧ n ≤ 1099511627776 then (encs l).map (enc n.toNat ++ ·) else none
theorem Puts_loop (l : List Int) (hl : l.length ≤ 1000) : ∀ (d k i : Nat) (b : List Int), i + d = l.length → d + 7 ≤ k → b.length + 6 * d ≤ 140737488355000 →
    wire_Puts.l0 k b l (l.length : Int) (i : Int) = some (match encs (l.drop i) with | some r => (b ++ r, 0) | none => ([], 2)) := by
  intro d
  induction d with
  | zero =>
    intro k i b hi hk hb
    obtain ⟨k, rfl⟩ : ∃ m, k = m + 1 := ⟨k - 1, by omega⟩
    simp only [wire_Puts.l0]
    rw [if_neg (by omega), List.drop_eq_nil_of_le (by omega)]
    simp [encs]
  | succ d ih =>
    intro k i b hi hk hb
    obtain ⟨k, rfl⟩ : ∃ m, k = m + 1 := ⟨k - 1, by omega⟩
    simp only [wire_Puts.l0]
    have hlt : i < l.length := by omega
    rw [if_pos (by omega), if_pos (by omega), if_pos (by omega), List.drop_eq_getElem_cons hlt]
    have hr : rd l (i : Int) = l[i] := by rw [rd_at _ (by omega) (by omega)]; rfl
    rw [hr]
    by_cases h : 0 ≤ l[i] ∧ l[i] ≤ 1099511627776
    · rw [is_in h.1 h.2]
      simp only [Option.bind_some, if_true]
      rw [put_ok h.1 h.2 (by omega) (by omega)]
      simp only [Option.bind_some]
      rw [w64 (by omega)]
      have hlen := (enc_small (n := l[i].toNat) (by omega)).2
      have := ih k (i + 1) (b ++ enc l[i].toNat) (by omega) (by omega) (by simp; omega)
      rw [show ((i : Int) + 1) = ((i + 1 : Nat) : Int) from by omega, this]
      simp only [encs, if_pos h]
      cases encs (l.drop (i + 1)) <;> simp
    · rw [is_out h]
      simp only [encs, if_neg h]
      rfl
theorem Puts_is {k : Nat} {b l : List Int} (hk : 300 ≤ k) (hb : b.length ≤ 140737488350000) :
    wire_Puts.f k b l = some ((if l.length ≤ 255 then (match encs l with | some r => (b ++ enc l.length ++ r, 0) | none => ([], 2)) else ([], 5)) : List Int × Int) := by
  unfold wire_Puts.f wire_putF.f
  by_cases h : l.length ≤ 255
  · rw [if_neg (by omega), if_pos (by omega), if_pos (Int.le_refl _), show ((b.length : Int) : Int).toNat = b.length from by omega, List.take_length, put_ok (by omega) (by omega) (by omega) (by omega)]
    simp only [Option.bind_some, Int.toNat_natCast]
    have hlen := (enc_small (n := l.length) (by omega)).2
    have := Puts_loop l (by omega) l.length k 0 (b ++ enc l.length) (by omega) (by omega) (by simp; omega)
    rw [show ((0 : Nat) : Int) = 0 from rfl] at this
    rw [this, if_pos h]
    simp
  · rw [if_pos (by omega), if_neg h]
/-! ### Numbers that are taken -/
def tk : Nat → Nat → Int → List Int → Int × Int × Int
  | 0, _, _, _ => (0, 0, 4)
  | _ + 1, _, _, [] => (0, 0, 3)
  | d + 1, i, acc, c :: r => if c < 128 then (if acc + c * 128 ^ i ≤ 1099511627776 ∧ ¬ (0 < i ∧ c = 0) then (acc + c * 128 ^ i, (i : Int) + 1, 0) else (0, 0, 4)) else tk d (i + 1) (acc + (c - 128) * 128 ^ i) r
def fin (at_ : Int) (t : Int × Int × Int) : Int × Int × Int := if t.2.2 = 0 then (t.1, at_ + t.2.1, 0) else (0, 0, t.2.2)
/-- What is told of the number at a place. -/
def takeS (l : List Int) (at_ : Int) : Int × Int × Int := if at_ < 0 ∨ at_ > l.length then (0, 0, 2) else fin at_ (tk 6 0 0 (l.drop at_.toNat))
theorem wraps8 (n : Int) (h0 : 0 ≤ n) (h1 : n < 2 ^ 8) : IntKind.u8.wrap n = n := by rw [IntKind.wrap_u8]; omega
theorem and127_8 {c : Int} (h : 0 ≤ c ∧ c < 256) : Go.bits .and .u8 c 127 = c % 128 := bits_mask .u8 8 (by decide) wraps8 7 (by decide) c h.1 (by omega)
theorem pow128 {i : Nat} (h : i ≤ 6) : (128 : Int) ^ i = 1 ∨ (128 : Int) ^ i = 128 ∨ (128 : Int) ^ i = 16384 ∨ (128 : Int) ^ i = 2097152 ∨ (128 : Int) ^ i = 268435456 ∨ (128 : Int) ^ i = 34359738368 ∨ (128 : Int) ^ i = 4398046511104 := by
  obtain rfl | rfl | rfl | rfl | rfl | rfl | rfl : i = 0 ∨ i = 1 ∨ i = 2 ∨ i = 3 ∨ i = 4 ∨ i = 5 ∨ i = 6 := by omega
  all_goals simp
theorem shl_or {i : Nat} (hi : i ≤ 5) {acc c : Int} (h0 : 0 ≤ acc) (h1 : acc < 128 ^ i) (hc : 0 ≤ c ∧ c < 256) :
    Go.bits .or .i64 acc (shl .i64 (wrap64 (Go.bits .and .u8 c 127)) (wrap64 (7 * (i : Int)))) = acc + (c % 128) * 128 ^ i := by
  rw [and127_8 hc, w64 (by omega), w64 (by omega)]
  have hm : 0 ≤ c % 128 ∧ c % 128 < 128 := by omega
  have hs : shl .i64 (c % 128) (7 * (i : Int)) = (c % 128) * 128 ^ i := by
    unfold shl
    rw [show (7 * (i : Int)).toNat = 7 * i from by omega, Nat.min_eq_left (by simp [IntKind.bits]; omega), show ((2 : Int) ^ (7 * i)) = 128 ^ i from by rw [Int.pow_mul]; rfl]
    apply wraps_i64
    · rcases pow128 (i := i) (by omega) with h | h | h | h | h | h | h <;> rw [h] <;> omega
    · rcases pow128 (i := i) (by omega) with h | h | h | h | h | h | h <;> rw [h] <;> omega
  have hb : 0 ≤ (c % 128) * 128 ^ i ∧ (c % 128) * 128 ^ i < 2 ^ 62 ∧ acc < 2 ^ 62 := by
    rcases pow128 (i := i) (by omega) with h | h | h | h | h | h | h <;> rw [h] at h1 ⊢ <;> omega
  rw [hs, or_flip (by omega) (by omega), Int.add_comm]
  have hp : (2 : Int) ^ (7 * i) = 128 ^ i := by rw [Int.pow_mul]; rfl
  exact bits_join .i64 62 (by decide) wraps_i64 (7 * i) _ _ hb.1 (by rw [hp]; exact Int.mul_emod_left _ _) hb.2.1 h0 (by rw [hp]; exact h1) hb.2.2
theorem take_round (x0 : List Int) (x1 : Int) (y : List Int) (hy : isB y) (hlen : (y.length : Int) = x0.length - x1) (hx : 0 ≤ x1) (hbig : x0.length ≤ 140737488355328)
    (i k : Nat) (acc : Int) (hd : i ≤ 5) (h0 : 0 ≤ acc) (h1 : acc < 128 ^ i) (hlt : i < y.length) : wire_Take.l0 (k + 2) x0 x1 acc y (y.length : Int) (i : Int) =
      if y[i] < 128 then some (fin x1 (if acc + y[i] * 128 ^ i ≤ 1099511627776 ∧ ¬ (0 < i ∧ y[i] = 0) then (acc + y[i] * 128 ^ i, (i : Int) + 1, 0) else (0, 0, 4)))
      else if i = 5 then some (0, 0, 4) else wire_Take.l0 k x0 x1 (acc + (y[i] - 128) * 128 ^ i) y (y.length : Int) ((i + 1 : Nat) : Int) := by
  have hc := rd_isB hy (i : Int) (by omega) (by omega)
  have hr : rd y (i : Int) = y[i] := by rw [rd_at _ (by omega) (by omega)]; rfl
  have hN := shl_or (i := i) (by omega) h0 h1 hc
  have hp := pow128 (i := i) (by omega)
  rw [← hr]
  simp only [wire_Take.l0]
  generalize rd y (i : Int) = c at *
  rw [if_pos (by omega), if_pos (by omega), if_pos (by omega), if_pos (by rw [w64 (by omega)]; omega), hN]
  by_cases hc1 : c < 128
  · have he : c % 128 = c := by omega
    have hnn : 0 ≤ acc + c * 128 ^ i := by rcases hp with h | h | h | h | h | h | h <;> rw [h] <;> omega
    rw [if_pos hc1, if_pos hc1, he]
    have hfin : fin x1 (acc + c * 128 ^ i, (i : Int) + 1, 0) = (acc + c * 128 ^ i, x1 + ((i : Int) + 1), 0) := rfl
    by_cases hm : acc + c * 128 ^ i ≤ 1099511627776
    · rw [is_in hnn hm]
      simp only [Option.bind_some, if_true]
      by_cases hz : 0 < i ∧ c = 0
      · rw [if_neg (show ¬ (acc + c * 128 ^ i ≤ 1099511627776 ∧ ¬ (0 < i ∧ c = 0)) from fun h => h.2 hz), if_pos (show (i : Int) > 0 by omega)]
        simp only [wire_Take.j2]
        rw [if_pos (by simp [hz.2])]
        rfl
      · rw [if_pos (show acc + c * 128 ^ i ≤ 1099511627776 ∧ ¬ (0 < i ∧ c = 0) from ⟨hm, hz⟩), hfin]
        by_cases hi0 : (i : Int) > 0
        · rw [if_pos hi0]
          simp only [wire_Take.j2]
          rw [if_neg (by simp; omega), if_pos hc1, w64 (x := x1 + i) (by omega), w64 (by omega), Int.add_assoc]
        · rw [if_neg hi0]
          simp only [wire_Take.j2, Bool.false_eq_true, if_false]
          rw [if_pos hc1, w64 (x := x1 + i) (by omega), w64 (by omega), Int.add_assoc]
    · rw [is_out (by omega)]
      simp only [Option.bind_some, Bool.false_eq_true, if_false, wire_Take.j2, if_true]
      rw [if_neg (by omega)]
      rfl
  · have he : c % 128 = c - 128 := by omega
    rw [if_neg hc1, if_neg hc1, he]
    simp only [wire_Take.j2, Bool.false_eq_true, if_false]
    rw [if_neg hc1]
    by_cases h5 : i = 5
    · rw [if_pos (by omega), if_pos h5, if_pos (by rw [w64 (by omega)]; omega)]
    · rw [if_neg (by omega), if_neg h5, w64 (by omega)]
      rfl
theorem take_loop (x0 : List Int) (x1 : Int) (y : List Int) (hy : isB y) (hlen : (y.length : Int) = x0.length - x1) (hx : 0 ≤ x1) (hbig : x0.length ≤ 140737488355328) :
    ∀ (d i k : Nat) (acc : Int), i + d = 5 → 0 ≤ acc → acc < 128 ^ i → i ≤ y.length → 2 * d + 2 ≤ k → wire_Take.l0 k x0 x1 acc y (y.length : Int) (i : Int) = some (fin x1 (tk (d + 1) i acc (y.drop i))) := by
  intro d
  induction d with
  | zero =>
    intro i k acc hd h0 h1 hi hk
    obtain ⟨k, rfl⟩ : ∃ m, k = m + 2 := ⟨k - 2, by omega⟩
    by_cases hlt : i < y.length
    · rw [take_round x0 x1 y hy hlen hx hbig i k acc (by omega) h0 h1 hlt, List.drop_eq_getElem_cons hlt]
      simp only [tk]
      by_cases hc : y[i] < 128
      · rw [if_pos hc, if_pos hc]
      · rw [if_neg hc, if_neg hc, if_pos (by omega)]; rfl
    · rw [List.drop_eq_nil_of_le (by omega)]
      simp only [wire_Take.l0, tk]
      rw [if_neg (by omega), if_neg (by rw [w64 (by omega)]; omega)]
      rfl
  | succ d ih =>
    intro i k acc hd h0 h1 hi hk
    obtain ⟨k, rfl⟩ : ∃ m, k = m + 2 := ⟨k - 2, by omega⟩
    by_cases hlt : i < y.length
    · rw [take_round x0 x1 y hy hlen hx hbig i k acc (by omega) h0 h1 hlt, List.drop_eq_getElem_cons hlt]
      have hb := hy _ (List.getElem_mem hlt)
      simp only [tk]
      by_cases hc : y[i] < 128
      · rw [if_pos hc, if_pos hc]
      · rw [if_neg hc, if_neg hc, if_neg (by omega)]
        have hp := pow128 (i := i) (by omega)
        have hp1 : (128 : Int) ^ (i + 1) = 128 * 128 ^ i := by rw [Int.pow_succ, Int.mul_comm]
        refine ih (i + 1) k _ (by omega) ?_ ?_ (by omega) (by omega)
        · rcases hp with h | h | h | h | h | h | h <;> rw [h] <;> omega
        · rw [hp1]
          rcases hp with h | h | h | h | h | h | h <;> rw [h] at h1 ⊢ <;> omega
    · rw [List.drop_eq_nil_of_le (by omega)]
      simp only [wire_Take.l0, tk]
      rw [if_neg (by omega), if_neg (by rw [w64 (by omega)]; omega)]
      rfl
theorem Take_is {k : Nat} {l : List Int} {a : Int} (hl : isB l) (hbig : l.length ≤ 140737488355328) (hk : 14 ≤ k) : wire_Take.f k l a = some (takeS l a) := by
  obtain ⟨k, rfl⟩ : ∃ m, k = m + 1 := ⟨k - 1, by omega⟩
  unfold wire_Take.f takeS
  by_cases h0 : a < 0
  · rw [if_pos h0, if_pos (.inl h0)]
    simp [wire_Take.j0]
  · rw [if_neg h0]
    by_cases h1 : a > l.length
    · rw [if_pos (.inr h1), decide_eq_true h1]
      simp [wire_Take.j0]
    · rw [if_neg (by omega), decide_eq_false h1]
      simp only [wire_Take.j0, Bool.false_eq_true, if_false]
      rw [if_pos (by omega), if_pos (by omega)]
      simp only [Option.bind_some]
      have := take_loop l a (l.drop a.toNat) (isB_drop hl _) (by rw [List.length_drop]; omega) (by omega) hbig 5 0 k 0 (by omega) (by omega) (by simp) (by omega) (by omega)
      rw [List.drop_zero] at this
      exact this
/-- What is told of a list of so many numbers. -/
def takesS (l : List Int) : Nat → Int → List Int → List Int × Int × Int
  | 0, at_, out => (out, at_, 0)
  | n + 1, at_, out => if (takeS l at_).2.2 = 0 then takesS l n (takeS l at_).2.1 (out ++ [(takeS l at_).1]) else ([], 0, (takeS l at_).2.2)
def TakesS (l : List Int) (at_ : Int) : List Int × Int × Int :=
  if (takeS l at_).2.2 = 0 then (if (takeS l at_).1 > 255 then ([], 0, 5) else takesS l (takeS l at_).1.toNat (takeS l at_).2.1 []) else ([], 0, (takeS l at_).2.2)
theorem Takes_loop {l : List Int} (hl : isB l) (hbig : l.length ≤ 140737488355328) (n : Nat) (hn : n ≤ 255) : ∀ (d k i : Nat) (a : Int) (out : List Int), i + d = n → d + 15 ≤ k → out.length = i →
    wire_Takes.l0 k l a out (n : Int) (i : Int) = some (takesS l d a out) := by
  intro d
  induction d with
  | zero =>
    intro k i a out hi hk ho
    obtain ⟨k, rfl⟩ : ∃ m, k = m + 1 := ⟨k - 1, by omega⟩
    simp only [wire_Takes.l0, takesS]
    rw [if_neg (by omega)]
  | succ d ih =>
    intro k i a out hi hk ho
    obtain ⟨k, rfl⟩ : ∃ m, k = m + 1 := ⟨k - 1, by omega⟩
    simp only [wire_Takes.l0, takesS]
    rw [if_pos (by omega), Take_is hl hbig (by omega)]
    simp only [Option.bind_some]
    by_cases h : (takeS l a).2.2 = 0
    · rw [if_pos h, if_pos h, if_pos (by omega), w64 (by omega)]
      exact ih k (i + 1) _ _ (by omega) (by omega) (by simp [ho])
    · rw [if_neg h, if_neg h]
theorem tk_nonneg : ∀ (d i : Nat) (acc : Int) (r : List Int), isB r → 0 ≤ acc → 0 ≤ (tk d i acc r).1
  | 0, i, acc, r, _, _ => by simp [tk]
  | d + 1, i, acc, [], _, _ => by simp [tk]
  | d + 1, i, acc, c :: r, hr, h0 => by
    have hc := hr c (by simp)
    have hp : (0 : Int) < 128 ^ i := Int.pow_pos (by omega)
    simp only [tk]
    by_cases h : c < 128
    · rw [if_pos h]
      split
      · have := Int.mul_nonneg hc.1 (Int.le_of_lt hp)
        show 0 ≤ acc + c * 128 ^ i
        omega
      · simp
    · rw [if_neg h]
      have := Int.mul_nonneg (show 0 ≤ c - 128 by omega) (Int.le_of_lt hp)
      exact tk_nonneg d _ _ r (fun z hz => hr z (by simp [hz])) (by omega)
theorem takeS_nonneg {l : List Int} (hl : isB l) (a : Int) : 0 ≤ (takeS l a).1 := by
  unfold takeS
  split
  · simp
  · unfold fin
    split
    · exact tk_nonneg _ _ _ _ (isB_drop hl _) (by omega)
    · simp
theorem Takes_is {k : Nat} {l : List Int} {a : Int} (hl : isB l) (hbig : l.length ≤ 140737488355328) (hk : 300 ≤ k) : wire_Takes.f k l a = some (TakesS l a) := by
  unfold wire_Takes.f TakesS
  rw [Take_is hl hbig (by omega)]
  simp only [Option.bind_some]
  by_cases h : (takeS l a).2.2 = 0
  · rw [if_pos h, if_pos h]
    by_cases h2 : (takeS l a).1 > 255
    · rw [if_pos h2, if_pos h2]
    · have hn := takeS_nonneg hl a
      rw [if_neg h2, if_neg h2]
      have := Takes_loop hl hbig (takeS l a).1.toNat (by omega) (takeS l a).1.toNat k 0 (takeS l a).2.1 [] (by omega) (by omega) rfl
      rw [Int.toNat_of_nonneg hn] at this
      exact this
  · rw [if_neg h, if_neg h]

/-! ### The reference: numbers -/
theorem rIs_in {n : Int} (h0 : 0 ≤ n) (h1 : n ≤ 1099511627776) : argosyref08_Is.f n = some true := by unfold argosyref08_Is.f; rw [if_pos h0, decide_eq_true h1]
theorem rIs_out {n : Int} (h : ¬ (0 ≤ n ∧ n ≤ 1099511627776)) : argosyref08_Is.f n = some false := by
  unfold argosyref08_Is.f
  by_cases h0 : n ≥ 0
  · rw [if_pos h0, decide_eq_false (by omega)]
  · rw [if_neg h0]
theorem tmod_pos {a b : Int} (h : 0 ≤ a) : Int.tmod a b = a % b := Int.tmod_eq_emod_of_nonneg h
theorem tdiv_pos {a b : Int} (h : 0 ≤ a) : Int.tdiv a b = a / b := Int.tdiv_eq_ediv_of_nonneg h
theorem rOne_loop : ∀ (d k n : Nat), n < 128 ^ (d + 1) → d < k → d ≤ 7 → argosyref08_One.f k (n : Int) = some (strOfNums (enc n))
  | d, k, n, hn, hk, hd => by
    obtain ⟨k, rfl⟩ : ∃ m, k = m + 1 := ⟨k - 1, by omega⟩
    have hbig : n < 2 ^ 62 := by
      have : 128 ^ (d + 1) ≤ 128 ^ 8 := Nat.pow_le_pow_right (by omega) (by omega)
      omega
    simp only [argosyref08_One.f]
    by_cases h : n < 128
    · rw [if_pos (by omega), enc_lt h]
      congr 3
      omega
    · cases d with
      | zero => simp at hn; omega
      | succ d =>
        rw [if_neg (by omega), enc_ge h, tdiv_pos (by omega), w64 (x := (n : Int) / 128) (by omega), show (n : Int) / 128 = ((n / 128 : Nat) : Int) from by omega]
        simp only [Option.bind_some]
        rw [rOne_loop d k (n / 128) (by rw [Nat.pow_succ] at hn; omega) (by omega) (by omega)]
        simp only [Option.bind_some]
        have hlen := (enc_len d (n / 128) (by rw [Nat.pow_succ] at hn; omega)).2
        rw [if_pos (by rw [son_size, son_size]; simp; omega), ← son_append, tmod_pos (by omega), w64 (by omega)]
        congr 2
        simp only [List.cons_append, List.nil_append, List.cons.injEq, and_true]
        omega
theorem rOne_is {k : Nat} {n : Int} (h0 : 0 ≤ n) (h1 : n ≤ 1099511627776) (hk : 6 ≤ k) : argosyref08_One.f k n = some (strOfNums (enc n.toNat)) := by
  have := rOne_loop 5 k n.toNat (by omega) (by omega) (by omega)
  rw [Int.toNat_of_nonneg h0] at this
  exact this

theorem rPuts_loop (l : List Int) (hl : l.length ≤ 1000) : ∀ (d k i : Nat) (b : List Int), i + d = l.length → d + 7 ≤ k → b.length + 6 * d ≤ 140737488355000 →
    argosyref08_Puts.l0 k l (strOfNums b) (i : Int) = some (match encs (l.drop i) with | some r => (strOfNums (b ++ r), 0) | none => (strOfNums [], 2)) := by
  intro d
  induction d with
  | zero =>
    intro k i b hi hk hb
    obtain ⟨k, rfl⟩ : ∃ m, k = m + 1 := ⟨k - 1, by omega⟩
    simp only [argosyref08_Puts.l0]
    rw [if_neg (by omega), List.drop_eq_nil_of_le (by omega)]
    simp [encs]
  | succ d ih =>
    intro k i b hi hk hb
    obtain ⟨k, rfl⟩ : ∃ m, k = m + 1 := ⟨k - 1, by omega⟩
    simp only [argosyref08_Puts.l0]
    have hlt : i < l.length := by omega
    rw [if_pos (by omega), if_pos (by omega), List.drop_eq_getElem_cons hlt]
    have hr : rd l (i : Int) = l[i] := by rw [rd_at _ (by omega) (by omega)]; rfl
    rw [hr]
    by_cases h : 0 ≤ l[i] ∧ l[i] ≤ 1099511627776
    · rw [rIs_in h.1 h.2]
      simp only [Option.bind_some, if_true]
      rw [rOne_is h.1 h.2 (by omega)]
      simp only [Option.bind_some]
      have hlen := (enc_small (n := l[i].toNat) (by omega)).2
      rw [if_pos (by rw [son_size, son_size]; omega), w64 (by omega), ← son_append]
      have := ih k (i + 1) (b ++ enc l[i].toNat) (by omega) (by omega) (by simp; omega)
      rw [show ((i : Int) + 1) = ((i + 1 : Nat) : Int) from by omega, this]
      simp only [encs, if_pos h]
      cases encs (l.drop (i + 1)) <;> simp
    · rw [rIs_out h]
      simp only [encs, if_neg h]
      rfl
theorem rPuts_is {k : Nat} {b l : List Int} (hk : 300 ≤ k) (hb : b.length ≤ 140737488350000) :
    argosyref08_Puts.f k (strOfNums b) l = some ((if l.length ≤ 255 then (match encs l with | some r => (strOfNums (b ++ enc l.length ++ r), 0) | none => (strOfNums [], 2)) else (strOfNums [], 5)) : ByteArray × Int) := by
  unfold argosyref08_Puts.f
  by_cases h : l.length ≤ 255
  · rw [if_neg (by omega), rOne_is (by omega) (by omega) (by omega)]
    simp only [Option.bind_some, Int.toNat_natCast]
    have hlen := (enc_small (n := l.length) (by omega)).2
    rw [if_pos (by rw [son_size, son_size]; omega), ← son_append]
    have := rPuts_loop l (by omega) l.length k 0 (b ++ enc l.length) (by omega) (by omega) (by simp; omega)
    rw [show ((0 : Nat) : Int) = 0 from rfl] at this
    rw [this, if_pos h]
    simp
  · rw [if_pos (by omega), if_neg h]
    rfl

/-- The bytes that a right number is taken from are just its own. -/
theorem rTake_loop (l : List Int) (hl : isB l) (x1 : Int) (hx : 0 ≤ x1) (hx2 : x1 ≤ l.length) (hbig : l.length ≤ 140737488355328) :
    ∀ (d i k : Nat), i + d = 6 → i ≤ (l.drop x1.toNat).length → (∀ x ∈ (l.drop x1.toNat).take i, 128 ≤ x) → d + 8 ≤ k →
      argosyref08_Take.l0 k (strOfNums l) x1 (valI ((l.drop x1.toNat).take i)) (128 ^ i) (i : Int) = some (fin x1 (tk d i (valI ((l.drop x1.toNat).take i)) ((l.drop x1.toNat).drop i))) := by
  generalize hy : l.drop x1.toNat = y
  have hyB : isB y := by rw [← hy]; exact isB_drop hl _
  have hylen : (y.length : Int) = l.length - x1 := by rw [← hy, List.length_drop]; omega
  intro d
  induction d with
  | zero =>
    intro i k hi hle hp hk
    obtain ⟨k, rfl⟩ : ∃ m, k = m + 1 := ⟨k - 1, by omega⟩
    simp only [argosyref08_Take.l0, tk]
    rw [if_neg (by omega)]
    rfl
  | succ d ih =>
    intro i k hi hle hp hk
    obtain ⟨k, rfl⟩ : ∃ m, k = m + 1 := ⟨k - 1, by omega⟩
    simp only [argosyref08_Take.l0]
    rw [if_pos (by omega), w64 (x := x1 + (i : Int)) (by omega), son_size]
    by_cases hlt : i < y.length
    · have hidx : (x1 + (i : Int)).toNat < l.length := by omega
      have hbt : bt (strOfNums l) (x1 + (i : Int)) = y[i] := by
        rw [son_bt hl _ (by omega) (by omega), rd_at _ (by omega) (by omega)]
        subst hy
        rw [List.getElem_drop]
        congr 1
        omega
      have hb := hyB _ (List.getElem_mem hlt)
      have hpow := pow128 (i := i) (by omega)
      have hp1 : (128 : Int) ^ (i + 1) = 128 * 128 ^ i := by rw [Int.pow_succ, Int.mul_comm]
      have htake : y.take (i + 1) = y.take i ++ [y[i]] := (List.take_append_getElem hlt).symm
      have hv : valI (y.take (i + 1)) = valI (y.take i) + (y[i] % 128) * 128 ^ i := by rw [htake, valI_snoc, List.length_take, Nat.min_eq_left hle]
      have hnn := valI_nonneg (y.take i)
      have hub : ∀ p : List Int, valI p < 128 ^ p.length := by
        intro p
        induction p with
        | nil => simp [valI]
        | cons z p ihp => simp only [valI, List.length_cons, Int.pow_succ]; omega
      have hub1 := hub (y.take i)
      rw [List.length_take, Nat.min_eq_left hle] at hub1
      rw [if_neg (by omega), if_pos (by omega), if_pos (by omega), hbt, w64 (x := y[i]) (by omega), List.drop_eq_getElem_cons hlt]
      simp only [tk]
      rw [tmod_pos hb.1]
      have hi5 : i ≤ 5 := by omega
      have hpow5 : (128 : Int) ^ i ≤ 34359738368 := by
        obtain rfl | rfl | rfl | rfl | rfl | rfl : i = 0 ∨ i = 1 ∨ i = 2 ∨ i = 3 ∨ i = 4 ∨ i = 5 := by omega
        all_goals decide
      have hpos : (0 : Int) < 128 ^ i := Int.pow_pos (by omega)
      by_cases hc : y[i] < 128
      · have he : y[i] % 128 = y[i] := by omega
        have hm1 : 0 ≤ y[i] * 128 ^ i ∧ y[i] * 128 ^ i ≤ 127 * 34359738368 := by rcases hpow with h | h | h | h | h | h | h <;> rw [h] at hpow5 ⊢ <;> omega
        rw [if_neg (by omega), if_pos hc, he, w64 (x := y[i] * 128 ^ i) (by omega), w64 (x := valI (y.take i) + y[i] * 128 ^ i) (by rcases hpow with h | h | h | h | h | h | h <;> rw [h] at hub1 <;> omega)]
        rw [he] at hv
        by_cases hm : valI (y.take i) + y[i] * 128 ^ i ≤ 1099511627776
        · rw [rIs_in (by omega) hm]
          simp only [Option.bind_some, if_true]
          rw [rOne_is (by omega) hm (by omega)]
          simp only [Option.bind_some]
          rw [w64 (x := x1 + (i : Int) + 1) (by omega), if_pos (by omega), if_pos (by omega), if_pos (by omega), son_extract, ← hv]
          have hext : (l.take (x1 + (i : Int) + 1).toNat).drop x1.toNat = y.take (i + 1) := by
            rw [← hy, List.drop_take]
            congr 1
            omega
          rw [hext]
          by_cases hz : 0 < i ∧ y[i] = 0
          · rw [if_neg (show ¬ (valI (y.take (i + 1)) ≤ 1099511627776 ∧ ¬ (0 < i ∧ y[i] = 0)) from fun h => h.2 hz), if_neg]
            · rfl
            · rw [son_toList_inj (enc_isB _) (isB_take hyB _)]
              intro hcon
              rw [htake, hz.2] at hcon
              have := enc_zero _ _ hcon
              have hl0 := congrArg List.length this
              rw [List.length_take, Nat.min_eq_left hle] at hl0
              simp at hl0
              omega
          · rw [if_pos (show valI (y.take (i + 1)) ≤ 1099511627776 ∧ ¬ (0 < i ∧ y[i] = 0) from ⟨by omega, hz⟩), if_pos]
            · simp only [fin, if_true, Int.add_assoc]
            · rw [son_toList_inj (enc_isB _) (isB_take hyB _), htake]
              refine (enc_valI (y.take i) y[i] (fun x hx => ⟨hp x hx, (hyB x (List.mem_of_mem_take hx)).2⟩) hb.1 hc ?_).1
              by_cases hi0 : 0 < i
              · exact .inr (by omega)
              · exact .inl (by rw [show i = 0 from by omega]; rfl)
        · rw [rIs_out (by omega)]
          simp only [Option.bind_some, Bool.false_eq_true, if_false]
          rw [if_neg (by omega)]
          rfl
      · have he : y[i] % 128 = y[i] - 128 := by omega
        have hm1 : 0 ≤ (y[i] - 128) * 128 ^ i ∧ (y[i] - 128) * 128 ^ i ≤ 127 * 34359738368 := by rcases hpow with h | h | h | h | h | h | h <;> rw [h] at hpow5 ⊢ <;> omega
        rw [if_pos (by omega), if_neg hc, he, w64 (x := (y[i] - 128) * 128 ^ i) (by omega), w64 (x := 128 * 128 ^ i) (by omega), w64 (x := valI (y.take i) + (y[i] - 128) * 128 ^ i) (by omega), w64 (x := (i : Int) + 1) (by omega)]
        rw [he] at hv
        have := ih (i + 1) k (by omega) (by omega) (by
          intro x hx
          rw [htake] at hx
          rcases List.mem_append.1 hx with h | h
          · exact hp x h
          · simp at h; omega) (by omega)
        rw [hv, hp1] at this
        exact this
    · rw [if_pos (by omega), List.drop_eq_nil_of_le (by omega)]
      rfl
theorem rTake_is {k : Nat} {l : List Int} {a : Int} (hl : isB l) (hbig : l.length ≤ 140737488355328) (hk : 20 ≤ k) : argosyref08_Take.f k (strOfNums l) a = some (takeS l a) := by
  obtain ⟨k, rfl⟩ : ∃ m, k = m + 1 := ⟨k - 1, by omega⟩
  unfold argosyref08_Take.f takeS
  rw [son_size]
  by_cases h0 : a < 0
  · rw [if_pos h0, if_pos (.inl h0)]
    simp [argosyref08_Take.j0]
  · rw [if_neg h0]
    by_cases h1 : a > l.length
    · rw [if_pos (.inr h1), decide_eq_true h1]
      simp [argosyref08_Take.j0]
    · rw [if_neg (by omega), decide_eq_false h1]
      simp only [argosyref08_Take.j0, Bool.false_eq_true, if_false]
      have := rTake_loop l hl a (by omega) (by omega) hbig 6 0 k (by omega) (by omega) (by simp) (by omega)
      rw [List.drop_zero, List.take_zero] at this
      exact this
theorem rTakes_loop {l : List Int} (hl : isB l) (hbig : l.length ≤ 140737488355328) (n : Nat) (hn : n ≤ 255) : ∀ (d k i : Nat) (a : Int) (out : List Int), i + d = n → d + 21 ≤ k → out.length = i →
    argosyref08_Takes.l0 k (strOfNums l) a (n : Int) out (i : Int) = some (takesS l d a out) := by
  intro d
  induction d with
  | zero =>
    intro k i a out hi hk ho
    obtain ⟨k, rfl⟩ : ∃ m, k = m + 1 := ⟨k - 1, by omega⟩
    simp only [argosyref08_Takes.l0, takesS]
    rw [if_neg (by omega)]
  | succ d ih =>
    intro k i a out hi hk ho
    obtain ⟨k, rfl⟩ : ∃ m, k = m + 1 := ⟨k - 1, by omega⟩
    simp only [argosyref08_Takes.l0, takesS]
    rw [if_pos (by omega), rTake_is hl hbig (by omega)]
    simp only [Option.bind_some]
    by_cases h : (takeS l a).2.2 = 0
    · rw [if_pos h, if_pos h, if_pos (by omega), w64 (by omega)]
      exact ih k (i + 1) _ _ (by omega) (by omega) (by simp [ho])
    · rw [if_neg h, if_neg h]
theorem rTakes_is {k : Nat} {l : List Int} {a : Int} (hl : isB l) (hbig : l.length ≤ 140737488355328) (hk : 300 ≤ k) : argosyref08_Takes.f k (strOfNums l) a = some (TakesS l a) := by
  unfold argosyref08_Takes.f TakesS
  rw [rTake_is hl hbig (by omega)]
  simp only [Option.bind_some]
  by_cases h : (takeS l a).2.2 = 0
  · rw [if_pos h, if_pos h]
    by_cases h2 : (takeS l a).1 > 255
    · rw [if_pos h2, if_pos h2]
    · have hn := takeS_nonneg hl a
      rw [if_neg h2, if_neg h2]
      have := rTakes_loop hl hbig (takeS l a).1.toNat (by omega) (takeS l a).1.toNat k 0 (takeS l a).2.1 [] (by omega) (by omega) rfl
      rw [Int.toNat_of_nonneg hn] at this
      exact this
  · rw [if_neg h, if_neg h]

theorem takesS_len (l : List Int) : ∀ (n : Nat) (a : Int) (out : List Int), (takesS l n a out).1.length ≤ out.length + n
  | 0, a, out => by simp [takesS]
  | n + 1, a, out => by
    simp only [takesS]
    split
    · have := takesS_len l n (takeS l a).2.1 (out ++ [(takeS l a).1])
      simp at this; omega
    · simp
theorem TakesS_len (l : List Int) (a : Int) : (TakesS l a).1.length ≤ 255 := by
  unfold TakesS
  split
  · split
    · simp
    · have := takesS_len l (takeS l a).1.toNat (takeS l a).2.1 []
      simp at this; omega
  · simp
theorem Puts_any {k : Nat} {b l : List Int} (hk : 300 ≤ k) (hb : b.length ≤ 140737488350000) : ∃ r e, wire_Puts.f k b l = some (r, e) ∧ argosyref08_Puts.f k (strOfNums b) l = some (strOfNums r, e) := by
  rw [Puts_is hk hb, rPuts_is hk hb]
  by_cases h : l.length ≤ 255
  · rw [if_pos h, if_pos h]
    cases encs l <;> exact ⟨_, _, rfl, rfl⟩
  · rw [if_neg h, if_neg h]
    exact ⟨_, _, rfl, rfl⟩
theorem Bytes_any {k : Nat} {b l : List Int} (hk : 1000001 ≤ k) (hb : b.length ≤ 1000) (hl : l.length ≤ 300) : ∃ r e, stamp_Bytes.f k b l = some (r, e) ∧ argosyref09_Bytes.f k (strOfNums b) l = some (strOfNums r, e) := by
  unfold stamp_Bytes.f argosyref09_Bytes.f
  rw [Right_is (by omega) hk]
  cases hc : chkS l with
  | true =>
    have hck : stamp_Check.f l = some 2 := by rw [Check_is (by omega), hc]; rfl
    rw [hck]
    exact ⟨[], 2, rfl, rfl⟩
  | false =>
    have hck : stamp_Check.f l = some 0 := by rw [Check_is (by omega), hc]; rfl
    rw [hck]
    obtain ⟨r, e, p1, p2⟩ := Puts_any (k := k) (b := b) (l := l) (by omega) (by omega)
    rw [p1, p2]
    exact ⟨r, e, rfl, rfl⟩
theorem Read_any {k : Nat} {b : List Int} {a : Int} (hk : 1000001 ≤ k) (hB : isB b) (hb : b.length ≤ 3000) : ∃ r n e, r.length ≤ 300 ∧ stamp_Read.f k b a = some (r, n, e) ∧ argosyref09_Read.f k (strOfNums b) a = some (r, n, e) := by
  unfold stamp_Read.f argosyref09_Read.f
  rw [Takes_is hB (by omega) (by omega), rTakes_is hB (by omega) (by omega)]
  have hlen := TakesS_len b a
  generalize TakesS b a = T at *
  obtain ⟨l, n, e⟩ := T
  dsimp only at hlen
  simp only [Option.bind_some]
  by_cases he : e = 0
  · rw [if_pos he, if_pos he, Right_is (by omega) hk]
    cases hc : chkS l with
    | true =>
      have hck : stamp_Check.f l = some 2 := by rw [Check_is (by omega), hc]; rfl
      rw [hck]
      exact ⟨[], 0, 2, by simp, rfl, rfl⟩
    | false =>
      have hck : stamp_Check.f l = some 0 := by rw [Check_is (by omega), hc]; rfl
      rw [hck]
      exact ⟨l, n, 0, by omega, rfl, rfl⟩
  · rw [if_neg he, if_neg he]
    exact ⟨[], 0, e, by simp, rfl, rfl⟩
theorem StampReads_at {k : Nat} (hk : 1000020 ≤ k) (o l b : List Int) (a : Int) (hb : isB b) : argosylaw09_StampReads.f k o l b a = some true := by
  obtain ⟨k, rfl⟩ : ∃ m, k = m + 1 := ⟨k - 1, by omega⟩
  have hlv := lives_is (k := k) (by omega)
  unfold argosylaw09_StampReads.f
  rw [few_is, Option.bind_some]
  have hj : argosylaw09_StampReads.j0 (k + 1) o l b a true = some true := by
    rw [argosylaw09_StampReads.j0, if_pos rfl, hlv]; rfl
  by_cases h1 : (o.length : Int) > 1000
  · rw [if_pos h1]; exact hj
  · rw [if_neg h1]
    by_cases h2 : l.length ≤ 300
    · rw [if_pos (decide_eq_true h2)]
      by_cases h3 : (b.length : Int) > 3000
      · rw [decide_eq_true h3]; exact hj
      · rw [decide_eq_false h3, argosylaw09_StampReads.j0, if_neg (by decide)]
        obtain ⟨r, e, p1, p2⟩ := Bytes_any (k := k) (b := o) (l := l) (by omega) (by omega) h2
        obtain ⟨s, n, f, hs, p3, p4⟩ := Read_any (k := k) (b := b) (a := a) (by omega) hb (by omega)
        rw [p1, p2, p3, p4]
        simp only [Option.bind_some, if_true]
        rw [Same_of (by omega) (by omega), Option.bind_some, if_pos (decide_eq_true rfl), hlv]
        rfl
    · rw [if_neg (by rw [decide_eq_false h2]; decide)]; exact hj
theorem StampReads : argosylaw09_StampReads.Pure := fun o l b a _ _ _ _ _ _ _ _ h _ => ⟨1000020, StampReads_at (Nat.le_refl _) o l b a (isB_of_wf h)⟩

end Go.Proofs.Ytklblahjihjlpaa.Pure
