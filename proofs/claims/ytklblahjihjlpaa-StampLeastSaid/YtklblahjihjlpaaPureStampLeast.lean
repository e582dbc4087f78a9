/- Of stamps of one length the join is Before neither, and Before, or the same as, each that is Before neither: no condition. -/
import Derived.Test.YtklblahjihjlpaaPStampLeastx3
set_option linter.unusedVariables false
set_option linter.unusedSimpArgs false
namespace Go.Proofs.Ytklblahjihjlpaa.Pure
open Go.RowKit Go.Proofs.Ytklblahjihjlpaa.PStampLeast Go.Proofs.YtklblahjihjlpaaW.PrintWords Go.Proofs.YtklblahjihjlpaaW.PrintLast Go.Proofs.YtklblahjihjlpaaW.PrintMore

/-! ### Bytes -/
def isB (l : List Int) : Prop := ∀ x ∈ l, 0 ≤ x ∧ x < 256
theorem isB_of_wf {l : List Int} (h : ∀ x ∈ l, (Lit.int .u8 x).wf = true) : isB l := by
  intro x hx
  have := h x hx
  simp [Lit.wf, IntKind.min, IntKind.max, IntKind.bits, IntKind.signed] at this
  omega
theorem i64_of_wf {x : Int} (h : (Lit.int .i64 x).wf = true) : -9223372036854775808 ≤ x ∧ x ≤ 9223372036854775807 := by
  simp [Lit.wf, IntKind.min, IntKind.max, IntKind.bits, IntKind.signed] at h
  omega
theorem toList_loop (s : ByteArray) : ∀ (d i : Nat) (r : List UInt8), s.size - i = d → ByteArray.toList.loop s i r = r.reverse ++ s.data.toList.drop i := by
  intro d
  have hl : s.data.toList.length = s.size := Array.length_toList
  induction d with
  | zero =>
    intro i r h
    unfold ByteArray.toList.loop
    rw [if_neg (by omega), List.drop_eq_nil_of_le (by omega), List.append_nil]
  | succ d ih =>
    intro i r h
    unfold ByteArray.toList.loop
    rw [if_pos (by omega), ih (i + 1) _ (by omega)]
    have hi : i < s.data.toList.length := by omega
    rw [List.drop_eq_getElem_cons hi, List.reverse_cons, List.append_assoc]
    have : s.get! i = s.data.toList[i] := by
      have hs : i < s.size := by omega
      simp [ByteArray.get!, getElem!_pos, hs]
    rw [this]; rfl
theorem bytes_toList (s : ByteArray) : s.toList = s.data.toList := by
  unfold ByteArray.toList
  rw [toList_loop s _ 0 [] rfl]
  simp
theorem bytes_ext {a b : ByteArray} (h : a.toList = b.toList) : a = b := by
  rw [bytes_toList, bytes_toList] at h
  cases a; cases b
  congr 1
  exact Array.toList_inj.1 h
theorem son_data (xs : List Int) : (strOfNums xs).data.toList = xs.map fun n => UInt8.ofNat n.toNat := by simp [strOfNums]
theorem son_size (xs : List Int) : (strOfNums xs).size = xs.length := by simp [strOfNums, ByteArray.size]
theorem son_append (xs ys : List Int) : strOfNums (xs ++ ys) = strOfNums xs ++ strOfNums ys := by
  apply bytes_ext
  rw [bytes_toList, bytes_toList, son_data]
  simp [strOfNums]
theorem son_nil : strOfNums [] = (⟨#[]⟩ : ByteArray) := rfl
theorem u8_inj {a b : Int} (ha : 0 ≤ a ∧ a < 256) (hb : 0 ≤ b ∧ b < 256) (h : UInt8.ofNat a.toNat = UInt8.ofNat b.toNat) : a = b := by
  have := congrArg UInt8.toNat h
  simp [UInt8.toNat_ofNat'] at this
  omega
theorem map_u8_inj : ∀ {xs ys : List Int}, isB xs → isB ys → (xs.map fun n => UInt8.ofNat n.toNat) = (ys.map fun n => UInt8.ofNat n.toNat) → xs = ys
  | [], [], _, _, _ => rfl
  | [], y :: ys, _, _, h => by simp at h
  | x :: xs, [], _, _, h => by simp at h
  | x :: xs, y :: ys, hx, hy, h => by
    simp only [List.map_cons, List.cons.injEq] at h
    rw [u8_inj (hx x (by simp)) (hy y (by simp)) h.1, map_u8_inj (fun z hz => hx z (by simp [hz])) (fun z hz => hy z (by simp [hz])) h.2]
theorem son_inj {xs ys : List Int} (hx : isB xs) (hy : isB ys) (h : strOfNums xs = strOfNums ys) : xs = ys := by
  have := congrArg (fun s : ByteArray => s.data.toList) h
  simp only [son_data] at this
  exact map_u8_inj hx hy this
theorem son_toList_inj {xs ys : List Int} (hx : isB xs) (hy : isB ys) : (strOfNums xs).toList = (strOfNums ys).toList ↔ xs = ys :=
  ⟨fun h => son_inj hx hy (bytes_ext h), fun h => by rw [h]⟩
theorem son_bt {xs : List Int} (hx : isB xs) (i : Int) (h0 : 0 ≤ i) (h : i < xs.length) : bt (strOfNums xs) i = rd xs i := by
  have hi : i.toNat < xs.length := by omega
  unfold bt rd
  rw [dif_pos (by rw [son_size]; exact hi)]
  have hg : (strOfNums xs)[i.toNat]'(by rw [son_size]; exact hi) = UInt8.ofNat (xs[i.toNat]).toNat := by
    show (strOfNums xs).data[i.toNat]'_ = _
    simp [strOfNums]
  rw [hg, List.getD_eq_getElem?_getD, List.getElem?_eq_getElem hi]
  have := hx _ (List.getElem_mem hi)
  simp [UInt8.toNat_ofNat']
  omega
theorem son_extract (xs : List Int) (a b : Nat) : (strOfNums xs).extract a b = strOfNums ((xs.take b).drop a) := by
  apply bytes_ext
  rw [bytes_toList, bytes_toList, son_data]
  simp [strOfNums, ByteArray.data_extract, List.drop_take, List.map_take, List.map_drop, List.extract]
theorem isB_append {xs ys : List Int} (hx : isB xs) (hy : isB ys) : isB (xs ++ ys) := by
  intro z hz
  rcases List.mem_append.1 hz with h | h
  · exact hx z h
  · exact hy z h
theorem isB_take {xs : List Int} (h : isB xs) (n : Nat) : isB (xs.take n) := fun z hz => h z (List.mem_of_mem_take hz)
theorem isB_drop {xs : List Int} (h : isB xs) (n : Nat) : isB (xs.drop n) := fun z hz => h z (List.mem_of_mem_drop hz)
theorem rd_at {xs : List Int} (i : Int) (h0 : 0 ≤ i) (h : i < xs.length) : rd xs i = xs[i.toNat]'(by omega) := by
  unfold rd
  rw [List.getD_eq_getElem?_getD, List.getElem?_eq_getElem (by omega)]; rfl
theorem rd_isB {xs : List Int} (hx : isB xs) (i : Int) (h0 : 0 ≤ i) (h : i < xs.length) : 0 ≤ rd xs i ∧ rd xs i < 256 := by
  rw [rd_at i h0 h]
  exact hx _ (List.getElem_mem _)
theorem w64 {x : Int} (h : -9223372036854775808 ≤ x ∧ x ≤ 9223372036854775807) : wrap64 x = x := by
  unfold wrap64
  omega

/-! ### Numbers alike -/
theorem Same_loop (a b : List Int) (hl : a.length = b.length) (ha : a.length ≤ 1152921504606846976) : ∀ (d k i : Nat), i + d = a.length → d < k → argosyref01_Same.l0 k a b (i : Int) = some (decide (a.drop i = b.drop i)) := by
  intro d
  induction d with
  | zero =>
    intro k i hi hk
    obtain ⟨k, rfl⟩ : ∃ m, k = m + 1 := ⟨k - 1, by omega⟩
    simp only [argosyref01_Same.l0]
    rw [if_neg (by omega), List.drop_eq_nil_of_le (by omega), List.drop_eq_nil_of_le (by omega)]
    simp
  | succ d ih =>
    intro k i hi hk
    obtain ⟨k, rfl⟩ : ∃ m, k = m + 1 := ⟨k - 1, by omega⟩
    simp only [argosyref01_Same.l0]
    have h1 : i < a.length := by omega
    have h2 : i < b.length := by omega
    have hra : rd a (i : Int) = a[i] := by rw [rd_at _ (by omega) (by omega)]; rfl
    have hrb : rd b (i : Int) = b[i] := by rw [rd_at _ (by omega) (by omega)]; rfl
    rw [if_pos (by omega), if_pos (by omega), if_pos (by omega), hra, hrb, List.drop_eq_getElem_cons h1, List.drop_eq_getElem_cons h2]
    by_cases h : a[i] = b[i]
    · rw [if_pos h, w64 (by omega), show ((i : Int) + 1) = ((i + 1 : Nat) : Int) from by omega, ih k (i + 1) (by omega) (by omega)]
      rw [h]
      congr 1
      rw [decide_eq_decide]
      simp only [List.cons.injEq, true_and]
    · rw [if_neg h, decide_eq_false]
      simp only [List.cons.injEq]
      exact fun hc => h hc.1
theorem Same_is {k : Nat} {a b : List Int} (ha : a.length ≤ 1152921504606846976) (hk : a.length < k) : argosyref01_Same.f k a b = some (decide (a = b)) := by
  unfold argosyref01_Same.f
  by_cases hl : a.length = b.length
  · rw [if_pos (by omega)]
    have := Same_loop a b hl ha a.length k 0 (by omega) hk
    simpa using this
  · rw [if_neg (by omega)]
    have : a ≠ b := fun h => hl (by rw [h])
    simp [this]

/-! ### Stamps -/
theorem atS_nat (l : List Int) (j : Nat) : atS l (j : Int) = l.getD j 0 := by
  unfold atS
  by_cases h : j < l.length
  · rw [if_pos (by omega)]; unfold rd; simp
  · rw [if_neg (by omega), List.getD_eq_getElem?_getD, List.getElem?_eq_none (by omega)]; rfl
theorem lenS_comm (a b : List Int) : lenS a b = lenS b a := by unfold lenS; split <;> split <;> omega
theorem lenS_le {a b : List Int} {n : Nat} (ha : a.length ≤ n) (hb : b.length ≤ n) : lenS a b ≤ n := by unfold lenS; split <;> omega
theorem le_lenS (a b : List Int) : a.length ≤ lenS a b ∧ b.length ≤ lenS a b := by unfold lenS; split <;> omega
theorem lenS_lt {a b : List Int} {i : Nat} : i < lenS a b ↔ i < a.length ∨ i < b.length := by unfold lenS; split <;> omega
def lessT (t : Int × Int × Int) : Bool := decide (t.2.1 < t.2.2)
def moreT (t : Int × Int × Int) : Bool := decide (t.2.2 < t.2.1)
def lessS (a b : List Int) : Bool := (upto a b (lenS a b)).any lessT
def moreS (a b : List Int) : Bool := (upto a b (lenS a b)).any moreT
def encR (l m : Bool) : Int := if m then (if l then 3 else 2) else (if l then 1 else 0)
theorem rankF_enc (l m : Bool) (t : Int × Int × Int) : rankF (encR l m) t = encR (l || lessT t) (m || moreT t) := by
  unfold rankF
  by_cases h1 : t.2.1 < t.2.2
  · have h2 : ¬ t.2.2 < t.2.1 := by omega
    rw [if_pos h1]
    have e1 : lessT t = true := decide_eq_true h1
    have e2 : moreT t = false := decide_eq_false h2
    rw [e1, e2]
    cases l <;> cases m <;> decide +kernel
  · have e1 : lessT t = false := decide_eq_false h1
    rw [if_neg h1, e1]
    by_cases h2 : t.2.2 < t.2.1
    · have e2 : moreT t = true := decide_eq_true h2
      rw [if_pos h2, e2]
      cases l <;> cases m <;> decide +kernel
    · have e2 : moreT t = false := decide_eq_false h2
      rw [if_neg h2, e2]
      cases l <;> cases m <;> rfl
theorem rankW_gen (L : List (Int × Int × Int)) : ∀ l m : Bool, L.foldl rankF (encR l m) = encR (l || L.any lessT) (m || L.any moreT) := by
  induction L with
  | nil => intro l m; simp
  | cons t L ih => intro l m; rw [List.foldl_cons, rankF_enc, ih]; simp [Bool.or_assoc]
theorem rankW_is (a b : List Int) : rankW (upto a b (lenS a b)) = encR (lessS a b) (moreS a b) := by
  have := rankW_gen (upto a b (lenS a b)) false false
  simp only [Bool.false_or] at this
  exact this
theorem Rank_is {a b : List Int} (ha : a.length ≤ 1000000) (hb : b.length ≤ 1000000) : stamp_Rank.f a b = some (encR (lessS a b) (moreS a b)) := by
  unfold stamp_Rank.f
  rw [if_pos ⟨ha, hb⟩, rankW_is]
theorem any_upto (a b : List Int) (N : Nat) (p : Int × Int × Int → Bool) : (upto a b N).any p = true ↔ ∃ j, j < N ∧ p (trip a b j) = true := by
  unfold upto
  rw [List.any_eq_true]
  constructor
  · rintro ⟨x, hx, hp⟩
    obtain ⟨j, hj, rfl⟩ := List.mem_map.1 hx
    exact ⟨j, List.mem_range.1 hj, hp⟩
  · rintro ⟨j, hj, hp⟩
    exact ⟨_, List.mem_map.2 ⟨j, List.mem_range.2 hj, rfl⟩, hp⟩
theorem lessS_iff (a b : List Int) : lessS a b = true ↔ ∃ j, a.getD j 0 < b.getD j 0 := by
  unfold lessS
  rw [any_upto]
  constructor
  · rintro ⟨j, _, h⟩
    refine ⟨j, ?_⟩
    have := of_decide_eq_true h
    simpa only [trip, atS_nat] using this
  · rintro ⟨j, h⟩
    refine ⟨j, ?_, ?_⟩
    · by_cases hj : j < lenS a b
      · exact hj
      · have := le_lenS a b
        rw [List.getD_eq_getElem?_getD, List.getD_eq_getElem?_getD, List.getElem?_eq_none (by omega), List.getElem?_eq_none (by omega)] at h
        simp at h
    · unfold lessT
      simp only [trip, atS_nat]
      exact decide_eq_true h
theorem moreS_iff (a b : List Int) : moreS a b = true ↔ ∃ j, b.getD j 0 < a.getD j 0 := by
  unfold moreS
  rw [any_upto]
  constructor
  · rintro ⟨j, _, h⟩
    refine ⟨j, ?_⟩
    have := of_decide_eq_true h
    simpa only [trip, atS_nat] using this
  · rintro ⟨j, h⟩
    refine ⟨j, ?_, ?_⟩
    · by_cases hj : j < lenS a b
      · exact hj
      · have := le_lenS a b
        rw [List.getD_eq_getElem?_getD, List.getD_eq_getElem?_getD, List.getElem?_eq_none (by omega), List.getElem?_eq_none (by omega)] at h
        simp at h
    · unfold moreT
      simp only [trip, atS_nat]
      exact decide_eq_true h
theorem bool_ext {p q : Bool} (h : p = true ↔ q = true) : p = q := by cases p <;> cases q <;> simp_all
theorem moreS_swap (a b : List Int) : moreS a b = lessS b a := bool_ext (by rw [moreS_iff, lessS_iff])
theorem few_is (l : List Int) : argosylaw09_few.f l = some (decide (l.length ≤ 300)) := by
  unfold argosylaw09_few.f
  congr 1
  rw [decide_eq_decide]
  omega
theorem Check_is {l : List Int} (h : l.length ≤ 1000000) : stamp_Check.f l = some (if chkS l = true then 2 else 0) := by unfold stamp_Check.f; rw [if_pos h]
theorem Clone_is {l : List Int} (h : l.length ≤ 1000000) : slices_Clone_int_int.f l = some l := by unfold slices_Clone_int_int.f; rw [if_pos (by omega)]
theorem Next_is {a b : List Int} (i : Int) (ha : a.length ≤ 1000000) (hb : b.length ≤ 1000000) : stamp_Next.f a b i = some (nextS a b i) := by unfold stamp_Next.f; rw [if_pos ⟨ha, hb⟩]
theorem Join_is {a b : List Int} (ha : a.length ≤ 1000000) (hb : b.length ≤ 1000000) : stamp_Join.f a b = some (joinW (upto a b (lenS a b))) := by unfold stamp_Join.f; rw [if_pos ⟨ha, hb⟩]
def tickS (l : List Int) (i : Int) : List Int × Int := if chkS l = true ∨ i < 0 ∨ i ≥ l.length ∨ rd l i = 1099511627776 then ([], 2) else (l.set i.toNat (wrap64 (rd l i + 1)), 0)
theorem Tick_is {l : List Int} (i : Int) (h : l.length ≤ 1000000) : stamp_Tick.f l i = some (tickS l i) := by
  unfold stamp_Tick.f tickS
  rw [Check_is h, Option.bind_some]
  by_cases hc : chkS l = true
  · rw [if_pos hc, if_neg (by decide), if_pos (.inl hc)]
  · rw [if_neg hc, if_pos rfl]
    by_cases h1 : i < 0
    · rw [if_pos h1, if_pos (.inr (.inl h1))]
    · rw [if_neg h1]
      by_cases h2 : i ≥ l.length
      · rw [if_pos h2, if_pos (.inr (.inr (.inl h2)))]
      · rw [if_neg h2, if_pos (by omega), if_pos (by omega)]
        by_cases h3 : rd l i = 1099511627776
        · rw [if_pos h3, if_pos (.inr (.inr (.inr h3)))]
        · rw [if_neg h3, Clone_is h, Option.bind_some, if_pos (by omega), if_neg (by rintro (q | q | q | q) <;> contradiction)]
theorem Same_of {k : Nat} {a b : List Int} (ha : a.length ≤ 1000000) (hk : 1000001 ≤ k) : argosyref01_Same.f k a b = some (decide (a = b)) := Same_is (by omega) (by omega)
theorem lives_is {k : Nat} (hk : 1000001 ≤ k) : argosylaw09_lives.f k = some true := by
  unfold argosylaw09_lives.f
  have t1 : stamp_Tick.f ([1, 2] : List Int) 0 = some ([2, 2], 0) := by decide +kernel
  have t2 : stamp_Rank.f ([1, 2] : List Int) [1, 3] = some 1 := by decide +kernel
  have t3 : stamp_Rank.f ([1, 2] : List Int) [2, 1] = some 3 := by decide +kernel
  have t4 : stamp_Rank.f ([1] : List Int) [1, 0] = some 0 := by decide +kernel
  have t5 : stamp_Join.f ([1, 5] : List Int) [2, 3] = some [2, 5] := by decide +kernel
  have t6 : stamp_Next.f ([1, 2] : List Int) [2, 1] 0 = some true := by decide +kernel
  have t7 : stamp_Next.f ([1, 2] : List Int) [2, 3] 0 = some false := by decide +kernel
  have s1 := Same_of (k := k) (a := [2, 5]) (b := [2, 5]) (by simp) hk
  have s2 := Same_of (k := k) (a := [2, 2]) (b := [2, 2]) (by simp) hk
  rw [t1, Option.bind_some, t2, Option.bind_some, if_pos rfl, t3, Option.bind_some, if_pos rfl, t4, Option.bind_some, if_pos rfl, t5, Option.bind_some, s1, Option.bind_some, if_pos (by decide)]
  dsimp only
  rw [s2, Option.bind_some, if_pos (by decide), if_pos rfl, t6, Option.bind_some, if_pos rfl, t7, Option.bind_some, if_neg (by decide)]

theorem above1_is {a b : List Int} (ha : a.length ≤ 1000000) (hb : b.length ≤ 1000000) : argosylaw09_StampLeast_1.f a b = some (!lessS a b) := by
  unfold argosylaw09_StampLeast_1.f
  rw [Rank_is ha hb]
  cases lessS a b <;> cases moreS a b <;> rfl
def jn (a b : List Int) : List Int := joinW (upto a b (lenS a b))
theorem jn_len (a b : List Int) : (jn a b).length = lenS a b := by unfold jn; rw [joinW_length, upto_length]
theorem jn_getD (a b : List Int) (i : Nat) : (jn a b).getD i 0 = if a.getD i 0 < b.getD i 0 then b.getD i 0 else a.getD i 0 := by
  by_cases h : i < lenS a b
  · unfold jn joinW upto
    rw [List.map_map, List.getD_eq_getElem?_getD, List.getElem?_map, List.getElem?_range h]
    simp only [Option.map_some, Option.getD_some, Function.comp, joinF, trip, atS_nat]
  · have := le_lenS a b
    have e1 : (jn a b).getD i 0 = 0 := by rw [List.getD_eq_getElem?_getD, List.getElem?_eq_none (by rw [jn_len]; omega)]; rfl
    have e2 : a.getD i 0 = 0 := by rw [List.getD_eq_getElem?_getD, List.getElem?_eq_none (by omega)]; rfl
    have e3 : b.getD i 0 = 0 := by rw [List.getD_eq_getElem?_getD, List.getElem?_eq_none (by omega)]; rfl
    rw [e1, e2, e3]; rfl
theorem list_ext0 {a b : List Int} (hl : a.length = b.length) (h : ∀ i, a.getD i 0 = b.getD i 0) : a = b := by
  apply List.ext_getElem hl
  intro i h1 h2
  have := h i
  rw [List.getD_eq_getElem?_getD, List.getD_eq_getElem?_getD, List.getElem?_eq_getElem h1, List.getElem?_eq_getElem h2] at this
  simpa using this
theorem jn_comm (a b : List Int) : jn b a = jn a b := list_ext0 (by rw [jn_len, jn_len, lenS_comm]) fun i => by
  rw [jn_getD, jn_getD]; split <;> split <;> omega
theorem jn_self (a : List Int) : jn a a = a := list_ext0 (by rw [jn_len]; unfold lenS; split <;> rfl) fun i => by
  rw [jn_getD]; split <;> rfl
theorem not_less {a b : List Int} (h : ∀ i, b.getD i 0 ≤ a.getD i 0) : lessS a b = false := by
  cases hb : lessS a b with
  | false => rfl
  | true => obtain ⟨i, hi⟩ := (lessS_iff a b).1 hb; have := h i; omega
theorem less_not {a b : List Int} (h : lessS a b = false) (i : Nat) : b.getD i 0 ≤ a.getD i 0 := by
  by_cases q : a.getD i 0 < b.getD i 0
  · have := (lessS_iff a b).2 ⟨i, q⟩; rw [h] at this; cases this
  · omega
theorem StampLeast_at {k : Nat} (hk : 1000020 ≤ k) (a b c : List Int) : argosylaw09_StampLeast.f k a b c = some true := by
  obtain ⟨k, rfl⟩ : ∃ m, k = m + 2 := ⟨k - 2, by omega⟩
  have hlv := lives_is (k := k) (by omega)
  have hlv1 := lives_is (k := k + 1) (by omega)
  unfold argosylaw09_StampLeast.f
  rw [few_is, Option.bind_some]
  have hj : argosylaw09_StampLeast.j0 (k + 2) a b c true = some true := by
    rw [argosylaw09_StampLeast.j0, if_pos rfl, hlv1]; rfl
  by_cases h1 : a.length ≤ 300
  · rw [if_pos (decide_eq_true h1)]
    by_cases h2 : (a.length : Int) = (b.length : Int)
    · rw [if_pos h2]
      by_cases h3 : (b.length : Int) = (c.length : Int)
      · rw [show ((b.length : Int) != (c.length : Int)) = false from by simp [h3], argosylaw09_StampLeast.j0, if_neg (by decide)]
        have hle := lenS_le (n := 300) (a := a) (b := b) h1 (by omega)
        have hjl := jn_len a b
        rw [Join_is (by omega) (by omega), Option.bind_some, show joinW (upto a b (lenS a b)) = jn a b from rfl]
        rw [above1_is (by omega) (by omega), not_less (a := jn a b) (b := a) (fun i => by rw [jn_getD]; split <;> omega), Option.bind_some, if_pos (by decide)]
        rw [above1_is (by omega) (by omega), not_less (a := jn a b) (b := b) (fun i => by rw [jn_getD]; split <;> omega), Option.bind_some, if_pos (by decide)]
        rw [Join_is (by omega) (by omega), Option.bind_some, show joinW (upto b a (lenS b a)) = jn b a from rfl, jn_comm a b, Same_of (by omega) (by omega), Option.bind_some, if_pos (decide_eq_true rfl)]
        rw [Join_is (by omega) (by omega), Option.bind_some, show joinW (upto a a (lenS a a)) = jn a a from rfl, jn_self, Same_of (by omega) (by omega), Option.bind_some, decide_eq_true rfl]
        rw [argosylaw09_StampLeast.j1, if_neg (by decide), above1_is (by omega) (by omega), Option.bind_some]
        cases q1 : lessS c a with
        | true => rw [if_neg (by decide), hlv]; rfl
        | false =>
          rw [if_pos (by decide), above1_is (by omega) (by omega), Option.bind_some]
          cases q2 : lessS c b with
          | true => rw [if_neg (by decide), hlv]; rfl
          | false =>
            rw [if_pos (by decide), above1_is (by omega) (by omega), not_less (a := c) (b := jn a b) (fun i => by have := less_not q1 i; have := less_not q2 i; rw [jn_getD]; split <;> omega), Option.bind_some, if_pos (by decide), hlv]
            rfl
      · rw [show ((b.length : Int) != (c.length : Int)) = true from by simp [h3]]; exact hj
    · rw [if_neg h2]; exact hj
  · rw [if_neg (by rw [decide_eq_false h1]; decide)]; exact hj
theorem StampLeast : argosylaw09_StampLeast.Pure := fun a b c _ _ _ _ _ _ _ _ _ => ⟨1000020, StampLeast_at (Nat.le_refl _) a b c⟩

end Go.Proofs.Ytklblahjihjlpaa.Pure
