/- An event's bytes are read as the event; what is read has just these; with a byte less, or more, they are none's. -/
import Derived.Test.YtclkdnpfiolahaaDoorPEventBackx5
set_option linter.unusedVariables false
set_option linter.unusedSimpArgs false
namespace Go.Proofs.YtclkdnpfiolahaaDoor.Pure
open Go.RowKit Go.Proofs.YtclkdnpfiolahaaDoor.PEventBack Go.Proofs.YtclkdnpfiolahaaDoorW.PrintWords Go.Proofs.YtclkdnpfiolahaaDoorW.PrintLast Go.Proofs.YtclkdnpfiolahaaDoorW.PrintMore

/-! ### Bytes -/
def isB (l : List Int) : Prop := ∀ x ∈ l, 0 ≤ x ∧ x < 256
theorem isB_of_wf {l : List Int} (h : ∀ x ∈ l, (Lit.int .u8 x).wf = true) : isB l := by
  intro x hx
  have := h x hx
  simp [Lit.wf, IntKind.min, IntKind.max, IntKind.bits, IntKind.signed] at this
  omega
theorem i64_of_wf {x : Int} (h : (Lit.int .i64 x).wf = true) : -9223372036854775808 ≤ x ∧ x ≤ 9223372036854775807 := by
  simp [Lit.wf, IntKind.min, IntKind.max, IntKind.bits, IntKind.signed] at h
  omega
theorem toList_loop (s : ByteArray) : ∀ (d i : Nat) (r : List UInt8), s.size - i = d → ByteArray.toList.loop s i r = r.reverse ++ s.data.toList.drop i := by
  intro d
  have hl : s.data.toList.length = s.size := Array.length_toList
  induction d with
  | zero =>
    intro i r h
    unfold ByteArray.toList.loop
    rw [if_neg (by omega), List.drop_eq_nil_of_le (by omega), List.append_nil]
  | succ d ih =>
    intro i r h
    unfold ByteArray.toList.loop
    rw [if_pos (by omega), ih (i + 1) _ (by omega)]
    have hi : i < s.data.toList.length := by omega
    rw [List.drop_eq_getElem_cons hi, List.reverse_cons, List.append_assoc]
    have : s.get! i = s.data.toList[i] := by
      have hs : i < s.size := by omega
      simp [ByteArray.get!, getElem!_pos, hs]
    rw [this]; rfl
theorem bytes_toList (s : ByteArray) : s.toList = s.data.toList := by
  unfold ByteArray.toList
  rw [toList_loop s _ 0 [] rfl]
  simp
theorem bytes_ext {a b : ByteArray} (h : a.toList = b.toList) : a = b := by
  rw [bytes_toList, bytes_toList] at h
  cases a; cases b
  congr 1
  exact Array.toList_inj.1 h
theorem son_data (xs : List Int) : (strOfNums xs).data.toList = xs.map fun n => UInt8.ofNat n.toNat := by simp [strOfNums]
theorem son_size (xs : List Int) : (strOfNums xs).size = xs.length := by simp [strOfNums, ByteArray.size]
theorem son_append (xs ys : List Int) : strOfNums (xs ++ ys) = strOfNums xs ++ strOfNums ys := by
  apply bytes_ext
  rw [bytes_toList, bytes_toList, son_data]
  simp [strOfNums]
theorem son_nil : strOfNums [] = (⟨#[]⟩ : ByteArray) := rfl
theorem u8_inj {a b : Int} (ha : 0 ≤ a ∧ a < 256) (hb : 0 ≤ b ∧ b < 256) (h : UInt8.ofNat a.toNat = UInt8.ofNat b.toNat) : a = b := by
  have := congrArg UInt8.toNat h
  simp [UInt8.toNat_ofNat'] at this
  omega
theorem map_u8_inj : ∀ {xs ys : List Int}, isB xs → isB ys → (xs.map fun n => UInt8.ofNat n.toNat) = (ys.map fun n => UInt8.ofNat n.toNat) → xs = ys
  | [], [], _, _, _ => rfl
  | [], y :: ys, _, _, h => by simp at h
  | x :: xs, [], _, _, h => by simp at h
  | x :: xs, y :: ys, hx, hy, h => by
    simp only [List.map_cons, List.cons.injEq] at h
    rw [u8_inj (hx x (by simp)) (hy y (by simp)) h.1, map_u8_inj (fun z hz => hx z (by simp [hz])) (fun z hz => hy z (by simp [hz])) h.2]
theorem son_inj {xs ys : List Int} (hx : isB xs) (hy : isB ys) (h : strOfNums xs = strOfNums ys) : xs = ys := by
  have := congrArg (fun s : ByteArray => s.data.toList) h
  simp only [son_data] at this
  exact map_u8_inj hx hy this
theorem son_toList_inj {xs ys : List Int} (hx : isB xs) (hy : isB ys) : (strOfNums xs).toList = (strOfNums ys).toList ↔ xs = ys :=
  ⟨fun h => son_inj hx hy (bytes_ext h), fun h => by rw [h]⟩
theorem son_bt {xs : List Int} (hx : isB xs) (i : Int) (h0 : 0 ≤ i) (h : i < xs.length) : bt (strOfNums xs) i = rd xs i := by
  have hi : i.toNat < xs.length := by omega
  unfold bt rd
  rw [dif_pos (by rw [son_size]; exact hi)]
  have hg : (strOfNums xs)[i.toNat]'(by rw [son_size]; exact hi) = UInt8.ofNat (xs[i.toNat]).toNat := by
    show (strOfNums xs).data[i.toNat]'_ = _
    simp [strOfNums]
  rw [hg, List.getD_eq_getElem?_getD, List.getElem?_eq_getElem hi]
  have := hx _ (List.getElem_mem hi)
  simp [UInt8.toNat_ofNat']
  omega
theorem son_extract (xs : List Int) (a b : Nat) : (strOfNums xs).extract a b = strOfNums ((xs.take b).drop a) := by
  apply bytes_ext
  rw [bytes_toList, bytes_toList, son_data]
  simp [strOfNums, ByteArray.data_extract, List.drop_take, List.map_take, List.map_drop, List.extract]
theorem isB_append {xs ys : List Int} (hx : isB xs) (hy : isB ys) : isB (xs ++ ys) := by
  intro z hz
  rcases List.mem_append.1 hz with h | h
  · exact hx z h
  · exact hy z h
theorem isB_take {xs : List Int} (h : isB xs) (n : Nat) : isB (xs.take n) := fun z hz => h z (List.mem_of_mem_take hz)
theorem isB_drop {xs : List Int} (h : isB xs) (n : Nat) : isB (xs.drop n) := fun z hz => h z (List.mem_of_mem_drop hz)
theorem rd_at {xs : List Int} (i : Int) (h0 : 0 ≤ i) (h : i < xs.length) : rd xs i = xs[i.toNat]'(by omega) := by
  unfold rd
  rw [List.getD_eq_getElem?_getD, List.getElem?_eq_getElem (by omega)]; rfl
theorem rd_isB {xs : List Int} (hx : isB xs) (i : Int) (h0 : 0 ≤ i) (h : i < xs.length) : 0 ≤ rd xs i ∧ rd xs i < 256 := by
  rw [rd_at i h0 h]
  exact hx _ (List.getElem_mem _)
theorem w64 {x : Int} (h : -9223372036854775808 ≤ x ∧ x ≤ 9223372036854775807) : wrap64 x = x := by
  unfold wrap64
  omega

/-! ### A string's bytes -/
theorem bytesOf_isB (s : ByteArray) : isB (bytesOf s) := by
  intro x hx
  unfold bytesOf at hx
  obtain ⟨b, _, rfl⟩ := List.mem_map.1 hx
  have := b.toNat_lt
  omega
theorem son_bytesOf (s : ByteArray) : strOfNums (bytesOf s) = s := by
  apply bytes_ext
  rw [bytes_toList, bytes_toList, son_data, bytesOf, List.map_map]
  have : ((fun n : Int => UInt8.ofNat n.toNat) ∘ fun b : UInt8 => (b.toNat : Int)) = id := by
    funext b
    simp
  rw [this, List.map_id]

/-! ### Numbers alike -/
theorem Same_loop (a b : List Int) (hl : a.length = b.length) (ha : a.length ≤ 1152921504606846976) : ∀ (d k i : Nat), i + d = a.length → d < k → argosyref01_Same.l0 k a b (i : Int) = some (decide (a.drop i = b.drop i)) := by
  intro d
  induction d with
  | zero =>
    intro k i hi hk
    obtain ⟨k, rfl⟩ : ∃ m, k = m + 1 := ⟨k - 1, by omega⟩
    simp only [argosyref01_Same.l0]
    rw [if_neg (by omega), List.drop_eq_nil_of_le (by omega), List.drop_eq_nil_of_le (by omega)]
    simp
  | succ d ih =>
    intro k i hi hk
    obtain ⟨k, rfl⟩ : ∃ m, k = m + 1 := ⟨k - 1, by omega⟩
    simp only [argosyref01_Same.l0]
    have h1 : i < a.length := by omega
    have h2 : i < b.length := by omega
    have hra : rd a (i : Int) = a[i] := by rw [rd_at _ (by omega) (by omega)]; rfl
    have hrb : rd b (i : Int) = b[i] := by rw [rd_at _ (by omega) (by omega)]; rfl
    rw [if_pos (by omega), if_pos (by omega), if_pos (by omega), hra, hrb, List.drop_eq_getElem_cons h1, List.drop_eq_getElem_cons h2]
    by_cases h : a[i] = b[i]
    · rw [if_pos h, w64 (by omega), show ((i : Int) + 1) = ((i + 1 : Nat) : Int) from by omega, ih k (i + 1) (by omega) (by omega)]
      rw [h]
      congr 1
      rw [decide_eq_decide]
      simp only [List.cons.injEq, true_and]
    · rw [if_neg h, decide_eq_false]
      simp only [List.cons.injEq]
      exact fun hc => h hc.1
theorem Same_is {k : Nat} {a b : List Int} (ha : a.length ≤ 1152921504606846976) (hk : a.length < k) : argosyref01_Same.f k a b = some (decide (a = b)) := by
  unfold argosyref01_Same.f
  by_cases hl : a.length = b.length
  · rw [if_pos (by omega)]
    have := Same_loop a b hl ha a.length k 0 (by omega) hk
    simpa using this
  · rw [if_neg (by omega)]
    have : a ≠ b := fun h => hl (by rw [h])
    simp [this]

/-! ### Numbers as few bytes -/
def enc (n : Nat) : List Int := if n < 128 then [(n : Int)] else ((128 + n % 128 : Nat) : Int) :: enc (n / 128)
termination_by n
decreasing_by omega
theorem enc_lt {n : Nat} (h : n < 128) : enc n = [(n : Int)] := by rw [enc, if_pos h]
theorem enc_ge {n : Nat} (h : ¬ n < 128) : enc n = ((128 + n % 128 : Nat) : Int) :: enc (n / 128) := by rw [enc, if_neg h]
theorem enc_isB (n : Nat) : isB (enc n) := by
  induction n using Nat.strongRecOn with
  | _ n ih =>
    by_cases h : n < 128
    · rw [enc_lt h]
      intro x hx
      simp at hx
      omega
    · rw [enc_ge h]
      intro x hx
      rcases List.mem_cons.1 hx with rfl | hx
      · omega
      · exact ih (n / 128) (by omega) x hx
theorem enc_len : ∀ (d n : Nat), n < 128 ^ (d + 1) → 1 ≤ (enc n).length ∧ (enc n).length ≤ d + 1
  | 0, n, h => by rw [enc_lt (by simpa using h)]; simp
  | d + 1, n, h => by
    by_cases hn : n < 128
    · rw [enc_lt hn]; simp
    · rw [enc_ge hn]
      have := enc_len d (n / 128) (by rw [Nat.pow_succ] at h; omega)
      simp; omega
theorem enc_small {n : Nat} (h : n ≤ 1099511627776) : 1 ≤ (enc n).length ∧ (enc n).length ≤ 6 := enc_len 5 n (by omega)
theorem enc_zero : ∀ (n : Nat) (q : List Int), enc n = q ++ [0] → q = [] := by
  intro n
  induction n using Nat.strongRecOn with
  | _ n ih =>
    intro q h
    by_cases hn : n < 128
    · rw [enc_lt hn] at h
      cases q with
      | nil => rfl
      | cons x q => simp at h
    · rw [enc_ge hn] at h
      cases q with
      | nil => rfl
      | cons x q =>
        simp only [List.cons_append, List.cons.injEq] at h
        have hq := ih (n / 128) (by omega) q h.2
        subst hq
        have h2 := h.2
        by_cases hm : n / 128 < 128
        · rw [enc_lt hm] at h2
          simp at h2
          omega
        · rw [enc_ge hm] at h2
          have hl := (enc_len (n / 128) (n / 128 / 128) (Nat.lt_of_lt_of_le (Nat.lt_pow_self (by omega)) (Nat.pow_le_pow_right (by omega) (by omega)))).1
          simp at h2
          rw [h2.2] at hl
          simp at hl
def valI : List Int → Int
  | [] => 0
  | c :: r => c % 128 + 128 * valI r
theorem valI_snoc : ∀ (p : List Int) (c : Int), valI (p ++ [c]) = valI p + (c % 128) * 128 ^ p.length
  | [], c => by simp [valI]
  | x :: p, c => by
    simp only [List.cons_append, valI, valI_snoc p c, List.length_cons, Int.pow_succ, Int.mul_add]
    rw [Int.add_assoc]
    congr 2
    rw [← Int.mul_assoc, Int.mul_comm 128 (c % 128), Int.mul_assoc, Int.mul_comm 128]
theorem valI_nonneg : ∀ p : List Int, 0 ≤ valI p
  | [] => Int.le_refl _
  | x :: p => by have := valI_nonneg p; simp only [valI]; omega
theorem enc_valI : ∀ (p : List Int) (c : Int), (∀ x ∈ p, 128 ≤ x ∧ x < 256) → 0 ≤ c → c < 128 → (p = [] ∨ 0 < c) → enc (valI (p ++ [c])).toNat = p ++ [c] ∧ (0 < c → 0 < valI (p ++ [c]))
  | [], c, _, h0, h1, _ => by
    have : valI ([] ++ [c]) = c := by simp [valI]; omega
    rw [this, enc_lt (by omega)]
    exact ⟨by simp; omega, fun h => h⟩
  | x :: p, c, hp, h0, h1, hc => by
    have hc' : 0 < c := by rcases hc with h | h; · cases h
                           · exact h
    have ih := enc_valI p c (fun z hz => hp z (by simp [hz])) h0 h1 (.inr hc')
    have hpos := ih.2 hc'
    have hx := hp x (by simp)
    have hv : valI (x :: p ++ [c]) = x % 128 + 128 * valI (p ++ [c]) := rfl
    have hge : ¬ (valI (x :: p ++ [c])).toNat < 128 := by rw [hv]; omega
    refine ⟨?_, fun _ => by rw [hv]; omega⟩
    rw [enc_ge hge]
    have h2 : (valI (x :: p ++ [c])).toNat / 128 = (valI (p ++ [c])).toNat := by rw [hv]; omega
    rw [h2, ih.1]
    simp only [List.cons_append, List.cons.injEq, and_true]
    have h3 : (valI (x :: p ++ [c])).toNat % 128 = (x % 128).toNat := by rw [hv]; omega
    rw [List.cons_append] at h3
    rw [h3]
    omega
theorem wraps_i64 (n : Int) (h0 : 0 ≤ n) (h1 : n < 2 ^ 62) : IntKind.i64.wrap n = n := by rw [IntKind.wrap_i64]; omega
theorem and127 {x : Int} (h0 : 0 ≤ x) (h1 : x < 2 ^ 62) : Go.bits .and .i64 x 127 = x % 128 := bits_mask .i64 62 (by decide) wraps_i64 7 (by decide) x h0 h1
theorem or_flip {x y : Int} (hx : 0 ≤ x ∧ x < 2 ^ 62) (hy : 0 ≤ y ∧ y < 2 ^ 62) : Go.bits .or .i64 x y = Go.bits .or .i64 y x := by
  obtain ⟨a, rfl⟩ := Int.eq_ofNat_of_zero_le hx.1
  obtain ⟨b, rfl⟩ := Int.eq_ofNat_of_zero_le hy.1
  have ha : a < 2 ^ 62 := by exact_mod_cast hx.2
  have hb : b < 2 ^ 62 := by exact_mod_cast hy.2
  have h1 := bits_nat .i64 62 (by decide) wraps_i64 a b ha hb
  have h2 := bits_nat .i64 62 (by decide) wraps_i64 b a hb ha
  rw [h1.2, h2.2, Nat.or_comm]
theorem or128 {y : Int} (h0 : 0 ≤ y) (h1 : y < 128) : Go.bits .or .i64 y 128 = 128 + y := by
  rw [or_flip (by omega) (by omega)]
  exact bits_join .i64 62 (by decide) wraps_i64 7 128 y (by omega) (by decide) (by omega) h0 h1 (by omega)
theorem put_byte {x : Int} (h0 : 0 ≤ x) (h1 : x < 2 ^ 62) : (Go.bits .or .i64 (Go.bits .and .i64 x 127) 128) % 256 = 128 + x % 128 := by
  rw [and127 h0 h1, or128 (by omega) (by omega)]
  omega
theorem put_loop : ∀ (d k : Nat) (l : List Int) (n : Nat), n < 128 ^ (d + 1) → d < k → l.length + d < 140737488355328 → d ≤ 7 → wire_put.l0 k l n = some (l ++ enc n)
  | d, k, l, n, hn, hk, hl, hd => by
    obtain ⟨k, rfl⟩ : ∃ m, k = m + 1 := ⟨k - 1, by omega⟩
    simp only [wire_put.l0]
    have hbig : n < 2 ^ 62 := by
      have : 128 ^ (d + 1) ≤ 128 ^ 8 := Nat.pow_le_pow_right (by omega) (by omega)
      omega
    by_cases h : n < 128
    · rw [if_neg (by omega), if_pos (by omega), enc_lt h]
      congr 3
      omega
    · cases d with
      | zero => simp at hn; omega
      | succ d =>
        rw [if_pos (by omega), if_pos (by omega), put_byte (by omega) (by omega), enc_ge h]
        have hb : (n : Int) / 128 = ((n / 128 : Nat) : Int) := by omega
        rw [hb, put_loop d k _ (n / 128) (by rw [Nat.pow_succ] at hn; omega) (by omega) (by simp; omega) (by omega)]
        simp
theorem is_in {n : Int} (h0 : 0 ≤ n) (h1 : n ≤ 1099511627776) : wire_is.f n = some true := by unfold wire_is.f; rw [if_pos h0, decide_eq_true h1]
theorem is_out {n : Int} (h : ¬ (0 ≤ n ∧ n ≤ 1099511627776)) : wire_is.f n = some false := by
  unfold wire_is.f
  by_cases h0 : n ≥ 0
  · rw [if_pos h0, decide_eq_false (by omega)]
  · rw [if_neg h0]
theorem put_ok {k : Nat} {l : List Int} {n : Int} (h0 : 0 ≤ n) (h1 : n ≤ 1099511627776) (hl : l.length ≤ 140737488355000) (hk : 6 ≤ k) : wire_put.f k l n = some (l ++ enc n.toNat) := by
  have := put_loop 5 k l n.toNat (by omega) (by omega) (by omega) (by omega)
  rw [Int.toNat_of_nonneg h0] at this
  exact this
theorem Put_ok {k : Nat} {l : List Int} {n : Int} (h0 : 0 ≤ n) (h1 : n ≤ 1099511627776) (hl : l.length ≤ 140737488355000) (hk : 6 ≤ k) : wire_Put.f k l n = some (l ++ enc n.toNat, 0) := by
  unfold wire_Put.f wire_putF.f
  rw [is_in h0 h1]
  simp only [Option.bind_some, if_true]
  rw [if_pos (by omega), if_pos (Int.le_refl _), show ((l.length : Int) : Int).toNat = l.length from by omega, List.take_length, put_ok h0 h1 hl hk]
  rfl
theorem Put_bad {k : Nat} {l : List Int} {n : Int} (h : ¬ (0 ≤ n ∧ n ≤ 1099511627776)) : wire_Put.f k l n = some ([], 2) := by
  unfold wire_Put.f
  rw [is_out h]
  rfl
/-- The bytes of numbers, one behind the other; none: one is none. -/
def encs : List Int → Option (List Int)
  | [] => some []
  | n :: l => if 0 ≤ n ∧ n ≤ 1099511627776 then (encs l).map (enc n.toNat ++ ·) else none
theorem Puts_loop (l : List Int) (hl : l.length ≤ 1000) : ∀ (d k i : Nat) (b : List Int), i + d = l.length → d + 7 ≤ k → b.length + 6 * d ≤ 140737488355000 →
    wire_Puts.l0 k b l (l.length : Int) (i : Int) = some (match encs (l.drop i) with | some r => (b ++ r, 0) | none => ([], 2)) := by
  intro d
  induction d with
  | zero =>
    intro k i b hi hk hb
    obtain ⟨k, rfl⟩ : ∃ m, k = m + 1 := ⟨k - 1, by omega⟩
    simp only [wire_Puts.l0]
    rw [if_neg (by omega), List.drop_eq_nil_of_le (by omega)]
    simp [encs]
  | succ d ih =>
    intro k i b hi hk hb
    obtain ⟨k, rfl⟩ : ∃ m, k = m + 1 := ⟨k - 1, by omega⟩
    simp only [wire_Puts.l0]
    have hlt : i < l.length := by omega
    rw [if_pos (by omega), if_pos (by omega), if_pos (by omega), List.drop_eq_getElem_cons hlt]
    have hr : rd l (i : Int) = l[i] := by rw [rd_at _ (by omega) (by omega)]; rfl
    rw [hr]
    by_cases h : 0 ≤ l[i] ∧ l[i] ≤ 1099511627776
    · rw [is_in h.1 h.2]
      simp only [Option.bind_some, if_true]
      rw [put_ok h.1 h.2 (by omega) (by omega)]
      simp only [Option.bind_some]
      rw [w64 (by omega)]
      have hlen := (enc_small (n := l[i].toNat) (by omega)).2
      have := ih k (i + 1) (b ++ enc l[i].toNat) (by omega) (by omega) (by simp; omega)
      rw [show ((i : Int) + 1) = ((i + 1 : Nat) : Int) from by omega, this]
      simp only [encs, if_pos h]
      cases encs (l.drop (i + 1)) <;> simp
    · rw [is_out h]
      simp only [encs, if_neg h]
      rfl
theorem Puts_is {k : Nat} {b l : List Int} (hk : 300 ≤ k) (hb : b.length ≤ 140737488350000) :
    wire_Puts.f k b l = some ((if l.length ≤ 255 then (match encs l with | some r => (b ++ enc l.length ++ r, 0) | none => ([], 2)) else ([], 5)) : List Int × Int) := by
  unfold wire_Puts.f wire_putF.f
  by_cases h : l.length ≤ 255
  · rw [if_neg (by omega), if_pos (by omega), if_pos (Int.le_refl _), show ((b.length : Int) : Int).toNat = b.length from by omega, List.take_length, put_ok (by omega) (by omega) (by omega) (by omega)]
    simp only [Option.bind_some, Int.toNat_natCast]
    have hlen := (enc_small (n := l.length) (by omega)).2
    have := Puts_loop l (by omega) l.length k 0 (b ++ enc l.length) (by omega) (by omega) (by simp; omega)
    rw [show ((0 : Nat) : Int) = 0 from rfl] at this
    rw [this, if_pos h]
    simp
  · rw [if_pos (by omega), if_neg h]
/-! ### Numbers that are taken -/
def tk : Nat → Nat → Int → List Int → Int × Int × Int
  | 0, _, _, _ => (0, 0, 4)
  | _ + 1, _, _, [] => (0, 0, 3)
  | d + 1, i, acc, c :: r => if c < 128 then (if acc + c * 128 ^ i ≤ 1099511627776 ∧ ¬ (0 < i ∧ c = 0) then (acc + c * 128 ^ i, (i : Int) + 1, 0) else (0, 0, 4)) else tk d (i + 1) (acc + (c - 128) * 128 ^ i) r
def fin (at_ : Int) (t : Int × Int × Int) : Int × Int × Int := if t.2.2 = 0 then (t.1, at_ + t.2.1, 0) else (0, 0, t.2.2)
/-- What is told of the number at a place. -/
def takeS (l : List Int) (at_ : Int) : Int × Int × Int := if at_ < 0 ∨ at_ > l.length then (0, 0, 2) else fin at_ (tk 6 0 0 (l.drop at_.toNat))
theorem wraps8 (n : Int) (h0 : 0 ≤ n) (h1 : n < 2 ^ 8) : IntKind.u8.wrap n = n := by rw [IntKind.wrap_u8]; omega
theorem and127_8 {c : Int} (h : 0 ≤ c ∧ c < 256) : Go.bits .and .u8 c 127 = c % 128 := bits_mask .u8 8 (by decide) wraps8 7 (by decide) c h.1 (by omega)
theorem pow128 {i : Nat} (h : i ≤ 6) : (128 : Int) ^ i = 1 ∨ (128 : Int) ^ i = 128 ∨ (128 : Int) ^ i = 16384 ∨ (128 : Int) ^ i = 2097152 ∨ (128 : Int) ^ i = 268435456 ∨ (128 : Int) ^ i = 34359738368 ∨ (128 : Int) ^ i = 4398046511104 := by
  obtain rfl | rfl | rfl | rfl | rfl | rfl | rfl : i = 0 ∨ i = 1 ∨ i = 2 ∨ i = 3 ∨ i = 4 ∨ i = 5 ∨ i = 6 := by omega
  all_goals simp
theorem shl_or {i : Nat} (hi : i ≤ 5) {acc c : Int} (h0 : 0 ≤ acc) (h1 : acc < 128 ^ i) (hc : 0 ≤ c ∧ c < 256) :
    Go.bits .or .i64 acc (shl .i64 (wrap64 (Go.bits .and .u8 c 127)) (wrap64 (7 * (i : Int)))) = acc + (c % 128) * 128 ^ i := by
  rw [and127_8 hc, w64 (by omega), w64 (by omega)]
  have hm : 0 ≤ c % 128 ∧ c % 128 < 128 := by omega
  have hs : shl .i64 (c % 128) (7 * (i : Int)) = (c % 128) * 128 ^ i := by
    unfold shl
    rw [show (7 * (i : Int)).toNat = 7 * i from by omega, Nat.min_eq_left (by simp [IntKind.bits]; omega), show ((2 : Int) ^ (7 * i)) = 128 ^ i from by rw [Int.pow_mul]; rfl]
    apply wraps_i64
    · rcases pow128 (i := i) (by omega) with h | h | h | h | h | h | h <;> rw [h] <;> omega
    · rcases pow128 (i := i) (by omega) with h | h | h | h | h | h | h <;> rw [h] <;> omega
  have hb : 0 ≤ (c % 128) * 128 ^ i ∧ (c % 128) * 128 ^ i < 2 ^ 62 ∧ acc < 2 ^ 62 := by
    rcases pow128 (i := i) (by omega) with h | h | h | h | h | h | h <;> rw [h] at h1 ⊢ <;> omega
  rw [hs, or_flip (by omega) (by omega), Int.add_comm]
  have hp : (2 : Int) ^ (7 * i) = 128 ^ i := by rw [Int.pow_mul]; rfl
  exact bits_join .i64 62 (by decide) wraps_i64 (7 * i) _ _ hb.1 (by rw [hp]; exact Int.mul_emod_left _ _) hb.2.1 h0 (by rw [hp]; exact h1) hb.2.2
theorem take_round (x0 : List Int) (x1 : Int) (y : List Int) (hy : isB y) (hlen : (y.length : Int) = x0.length - x1) (hx : 0 ≤ x1) (hbig : x0.length ≤ 140737488355328)
    (i k : Nat) (acc : Int) (hd : i ≤ 5) (h0 : 0 ≤ acc) (h1 : acc < 128 ^ i) (hlt : i < y.length) : wire_Take.l0 (k + 2) x0 x1 acc y (y.length : Int) (i : Int) =
      if y[i] < 128 then some (fin x1 (if acc + y[i] * 128 ^ i ≤ 1099511627776 ∧ ¬ (0 < i ∧ y[i] = 0) then (acc + y[i] * 128 ^ i, (i : Int) + 1, 0) else (0, 0, 4)))
      else if i = 5 then some (0, 0, 4) else wire_Take.l0 k x0 x1 (acc + (y[i] - 128) * 128 ^ i) y (y.length : Int) ((i + 1 : Nat) : Int) := by
  have hc := rd_isB hy (i : Int) (by omega) (by omega)
  have hr : rd y (i : Int) = y[i] := by rw [rd_at _ (by omega) (by omega)]; rfl
  have hN := shl_or (i := i) (by omega) h0 h1 hc
  have hp := pow128 (i := i) (by omega)
  rw [← hr]
  simp only [wire_Take.l0]
  generalize rd y (i : Int) = c at *
  rw [if_pos (by omega), if_pos (by omega), if_pos (by omega), if_pos (by rw [w64 (by omega)]; omega), hN]
  by_cases hc1 : c < 128
  · have he : c % 128 = c := by omega
    have hnn : 0 ≤ acc + c * 128 ^ i := by rcases hp with h | h | h | h | h | h | h <;> rw [h] <;> omega
    rw [if_pos hc1, if_pos hc1, he]
    have hfin : fin x1 (acc + c * 128 ^ i, (i : Int) + 1, 0) = (acc + c * 128 ^ i, x1 + ((i : Int) + 1), 0) := rfl
    by_cases hm : acc + c * 128 ^ i ≤ 1099511627776
    · rw [is_in hnn hm]
      simp only [Option.bind_some, if_true]
      by_cases hz : 0 < i ∧ c = 0
      · rw [if_neg (show ¬ (acc + c * 128 ^ i ≤ 1099511627776 ∧ ¬ (0 < i ∧ c = 0)) from fun h => h.2 hz), if_pos (show (i : Int) > 0 by omega)]
        simp only [wire_Take.j2]
        rw [if_pos (by simp [hz.2])]
        rfl
      · rw [if_pos (show acc + c * 128 ^ i ≤ 1099511627776 ∧ ¬ (0 < i ∧ c = 0) from ⟨hm, hz⟩), hfin]
        by_cases hi0 : (i : Int) > 0
        · rw [if_pos hi0]
          simp only [wire_Take.j2]
          rw [if_neg (by simp; omega), if_pos hc1, w64 (x := x1 + i) (by omega), w64 (by omega), Int.add_assoc]
        · rw [if_neg hi0]
          simp only [wire_Take.j2, Bool.false_eq_true, if_false]
          rw [if_pos hc1, w64 (x := x1 + i) (by omega), w64 (by omega), Int.add_assoc]
    · rw [is_out (by omega)]
      simp only [Option.bind_some, Bool.false_eq_true, if_false, wire_Take.j2, if_true]
      rw [if_neg (by omega)]
      rfl
  · have he : c % 128 = c - 128 := by omega
    rw [if_neg hc1, if_neg hc1, he]
    simp only [wire_Take.j2, Bool.false_eq_true, if_false]
    rw [if_neg hc1]
    by_cases h5 : i = 5
    · rw [if_pos (by omega), if_pos h5, if_pos (by rw [w64 (by omega)]; omega)]
    · rw [if_neg (by omega), if_neg h5, w64 (by omega)]
      rfl
theorem take_loop (x0 : List Int) (x1 : Int) (y : List Int) (hy : isB y) (hlen : (y.length : Int) = x0.length - x1) (hx : 0 ≤ x1) (hbig : x0.length ≤ 140737488355328) :
    ∀ (d i k : Nat) (acc : Int), i + d = 5 → 0 ≤ acc → acc < 128 ^ i → i ≤ y.length → 2 * d + 2 ≤ k → wire_Take.l0 k x0 x1 acc y (y.length : Int) (i : Int) = some (fin x1 (tk (d + 1) i acc (y.drop i))) := by
  intro d
  induction d with
  | zero =>
    intro i k acc hd h0 h1 hi hk
    obtain ⟨k, rfl⟩ : ∃ m, k = m + 2 := ⟨k - 2, by omega⟩
    by_cases hlt : i < y.length
    · rw [take_round x0 x1 y hy hlen hx hbig i k acc (by omega) h0 h1 hlt, List.drop_eq_getElem_cons hlt]
      simp only [tk]
      by_cases hc : y[i] < 128
      · rw [if_pos hc, if_pos hc]
      · rw [if_neg hc, if_neg hc, if_pos (by omega)]; rfl
    · rw [List.drop_eq_nil_of_le (by omega)]
      simp only [wire_Take.l0, tk]
      rw [if_neg (by omega), if_neg (by rw [w64 (by omega)]; omega)]
      rfl
  | succ d ih =>
    intro i k acc hd h0 h1 hi hk
    obtain ⟨k, rfl⟩ : ∃ m, k = m + 2 := ⟨k - 2, by omega⟩
    by_cases hlt : i < y.length
    · rw [take_round x0 x1 y hy hlen hx hbig i k acc (by omega) h0 h1 hlt, List.drop_eq_getElem_cons hlt]
      have hb := hy _ (List.getElem_mem hlt)
      simp only [tk]
      by_cases hc : y[i] < 128
      · rw [if_pos hc, if_pos hc]
      · rw [if_neg hc, if_neg hc, if_neg (by omega)]
        have hp := pow128 (i := i) (by omega)
        have hp1 : (128 : Int) ^ (i + 1) = 128 * 128 ^ i := by rw [Int.pow_succ, Int.mul_comm]
        refine ih (i + 1) k _ (by omega) ?_ ?_ (by omega) (by omega)
        · rcases hp with h | h | h | h | h | h | h <;> rw [h] <;> omega
        · rw [hp1]
          rcases hp with h | h | h | h | h | h | h <;> rw [h] at h1 ⊢ <;> omega
    · rw [List.drop_eq_nil_of_le (by omega)]
      simp only [wire_Take.l0, tk]
      rw [if_neg (by omega), if_neg (by rw [w64 (by omega)]; omega)]
      rfl
theorem Take_is {k : Nat} {l : List Int} {a : Int} (hl : isB l) (hbig : l.length ≤ 140737488355328) (hk : 14 ≤ k) : wire_Take.f k l a = some (takeS l a) := by
  obtain ⟨k, rfl⟩ : ∃ m, k = m + 1 := ⟨k - 1, by omega⟩
  unfold wire_Take.f takeS
  by_cases h0 : a < 0
  · rw [if_pos h0, if_pos (.inl h0)]
    simp [wire_Take.j0]
  · rw [if_neg h0]
    by_cases h1 : a > l.length
    · rw [if_pos (.inr h1), decide_eq_true h1]
      simp [wire_Take.j0]
    · rw [if_neg (by omega), decide_eq_false h1]
      simp only [wire_Take.j0, Bool.false_eq_true, if_false]
      rw [if_pos (by omega), if_pos (by omega)]
      simp only [Option.bind_some]
      have := take_loop l a (l.drop a.toNat) (isB_drop hl _) (by rw [List.length_drop]; omega) (by omega) hbig 5 0 k 0 (by omega) (by omega) (by simp) (by omega) (by omega)
      rw [List.drop_zero] at this
      exact this
/-- What is told of a list of so many numbers. -/
def takesS (l : List Int) : Nat → Int → List Int → List Int × Int × Int
  | 0, at_, out => (out, at_, 0)
  | n + 1, at_, out => if (takeS l at_).2.2 = 0 then takesS l n (takeS l at_).2.1 (out ++ [(takeS l at_).1]) else ([], 0, (takeS l at_).2.2)
def TakesS (l : List Int) (at_ : Int) : List Int × Int × Int :=
  if (takeS l at_).2.2 = 0 then (if (takeS l at_).1 > 255 then ([], 0, 5) else takesS l (takeS l at_).1.toNat (takeS l at_).2.1 []) else ([], 0, (takeS l at_).2.2)
theorem Takes_loop {l : List Int} (hl : isB l) (hbig : l.length ≤ 140737488355328) (n : Nat) (hn : n ≤ 255) : ∀ (d k i : Nat) (a : Int) (out : List Int), i + d = n → d + 15 ≤ k → out.length = i →
    wire_Takes.l0 k l a out (n : Int) (i : Int) = some (takesS l d a out) := by
  intro d
  induction d with
  | zero =>
    intro k i a out hi hk ho
    obtain ⟨k, rfl⟩ : ∃ m, k = m + 1 := ⟨k - 1, by omega⟩
    simp only [wire_Takes.l0, takesS]
    rw [if_neg (by omega)]
  | succ d ih =>
    intro k i a out hi hk ho
    obtain ⟨k, rfl⟩ : ∃ m, k = m + 1 := ⟨k - 1, by omega⟩
    simp only [wire_Takes.l0, takesS]
    rw [if_pos (by omega), Take_is hl hbig (by omega)]
    simp only [Option.bind_some]
    by_cases h : (takeS l a).2.2 = 0
    · rw [if_pos h, if_pos h, if_pos (by omega), w64 (by omega)]
      exact ih k (i + 1) _ _ (by omega) (by omega) (by simp [ho])
    · rw [if_neg h, if_neg h]
theorem tk_nonneg : ∀ (d i : Nat) (acc : Int) (r : List Int), isB r → 0 ≤ acc → 0 ≤ (tk d i acc r).1
  | 0, i, acc, r, _, _ => by simp [tk]
  | d + 1, i, acc, [], _, _ => by simp [tk]
  | d + 1, i, acc, c :: r, hr, h0 => by
    have hc := hr c (by simp)
    have hp : (0 : Int) < 128 ^ i := Int.pow_pos (by omega)
    simp only [tk]
    by_cases h : c < 128
    · rw [if_pos h]
      split
      · have := Int.mul_nonneg hc.1 (Int.le_of_lt hp)
        show 0 ≤ acc + c * 128 ^ i
        omega
      · simp
    · rw [if_neg h]
      have := Int.mul_nonneg (show 0 ≤ c - 128 by omega) (Int.le_of_lt hp)
      exact tk_nonneg d _ _ r (fun z hz => hr z (by simp [hz])) (by omega)
theorem takeS_nonneg {l : List Int} (hl : isB l) (a : Int) : 0 ≤ (takeS l a).1 := by
  unfold takeS
  split
  · simp
  · unfold fin
    split
    · exact tk_nonneg _ _ _ _ (isB_drop hl _) (by omega)
    · simp
theorem Takes_is {k : Nat} {l : List Int} {a : Int} (hl : isB l) (hbig : l.length ≤ 140737488355328) (hk : 300 ≤ k) : wire_Takes.f k l a = some (TakesS l a) := by
  unfold wire_Takes.f TakesS
  rw [Take_is hl hbig (by omega)]
  simp only [Option.bind_some]
  by_cases h : (takeS l a).2.2 = 0
  · rw [if_pos h, if_pos h]
    by_cases h2 : (takeS l a).1 > 255
    · rw [if_pos h2, if_pos h2]
    · have hn := takeS_nonneg hl a
      rw [if_neg h2, if_neg h2]
      have := Takes_loop hl hbig (takeS l a).1.toNat (by omega) (takeS l a).1.toNat k 0 (takeS l a).2.1 [] (by omega) (by omega) rfl
      rw [Int.toNat_of_nonneg hn] at this
      exact this
  · rw [if_neg h, if_neg h]

/-! ### What is put is taken -/
theorem pow_split (acc n i : Int) (P : Int) : acc + (n % 128) * P + (n / 128) * (128 * P) = acc + n * P := by
  have h : n * P = (n % 128) * P + (n / 128) * (128 * P) := by
    rw [← Int.mul_assoc, ← Int.add_mul]
    congr 1
    omega
  rw [h, Int.add_assoc]
theorem tk_back : ∀ (n : Nat) (d i : Nat) (acc : Int) (r : List Int), (enc n).length ≤ d → acc + n * 128 ^ i ≤ 1099511627776 → (i = 0 ∨ 0 < n) →
    tk d i acc (enc n ++ r) = (acc + n * 128 ^ i, (i : Int) + (enc n).length, 0) := by
  intro n
  induction n using Nat.strongRecOn with
  | _ n ih =>
    intro d i acc r hd hm hi
    by_cases h : n < 128
    · rw [enc_lt h] at hd ⊢
      obtain ⟨d, rfl⟩ : ∃ m, d = m + 1 := ⟨d - 1, by simp at hd; omega⟩
      simp only [List.cons_append, List.nil_append, tk]
      rw [if_pos (by omega), if_pos ⟨hm, by omega⟩]
      rfl
    · rw [enc_ge h] at hd ⊢
      obtain ⟨d, rfl⟩ : ∃ m, d = m + 1 := ⟨d - 1, by simp at hd; omega⟩
      simp only [List.cons_append, tk]
      rw [if_neg (by omega)]
      have e1 : ((128 + n % 128 : Nat) : Int) - 128 = (n : Int) % 128 := by omega
      have e2 : acc + (n : Int) % 128 * 128 ^ i + ((n / 128 : Nat) : Int) * 128 ^ (i + 1) = acc + n * 128 ^ i := by
        rw [show ((n / 128 : Nat) : Int) = (n : Int) / 128 from by omega, Int.pow_succ, Int.mul_comm (128 ^ i) 128]
        exact pow_split acc n i (128 ^ i)
      rw [e1, ih (n / 128) (by omega) d (i + 1) _ r (by simp at hd; omega) (by rw [e2]; exact hm) (.inr (by omega)), e2]
      congr 2
      simp
      omega
theorem tk_short : ∀ (n : Nat) (d i : Nat) (acc : Int) (m : Nat), (enc n).length ≤ d → m < (enc n).length → tk d i acc ((enc n).take m) = (0, 0, 3) := by
  intro n
  induction n using Nat.strongRecOn with
  | _ n ih =>
    intro d i acc m hd hm
    obtain ⟨d, rfl⟩ : ∃ q, d = q + 1 := ⟨d - 1, by omega⟩
    cases m with
    | zero => simp [tk]
    | succ m =>
      by_cases h : n < 128
      · rw [enc_lt h] at hm
        simp at hm
      · rw [enc_ge h] at hd hm ⊢
        simp only [List.take_succ_cons, tk]
        rw [if_neg (by omega)]
        exact ih (n / 128) (by omega) d (i + 1) _ m (by simp at hd; omega) (by simp at hm; omega)
theorem takeS_back {b r : List Int} {n : Nat} (hn : n ≤ 1099511627776) : takeS (b ++ (enc n ++ r)) (b.length : Int) = ((n : Int), (b.length : Int) + (enc n).length, 0) := by
  unfold takeS
  rw [if_neg (by simp; omega), show ((b.length : Int)).toNat = b.length from by omega, List.drop_left, tk_back n 6 0 0 r (enc_small hn).2 (by simp; omega) (.inl rfl)]
  simp [fin]
theorem takeS_short {b : List Int} {n m : Nat} (hn : n ≤ 1099511627776) (hm : m < (enc n).length) : takeS (b ++ (enc n).take m) (b.length : Int) = (0, 0, 3) := by
  unfold takeS
  rw [if_neg (by simp; omega), show ((b.length : Int)).toNat = b.length from by omega, List.drop_left, tk_short n 6 0 0 m (enc_small hn).2 hm]
  rfl
theorem takesS_back : ∀ (l r : List Int), encs l = some r → ∀ (b post out : List Int), takesS (b ++ (r ++ post)) l.length (b.length : Int) out = (out ++ l, (b.length : Int) + r.length, 0)
  | [], r, h, b, post, out => by
    simp [encs] at h
    subst h
    simp [takesS]
  | n :: l, r, h, b, post, out => by
    simp only [encs] at h
    by_cases hn : 0 ≤ n ∧ n ≤ 1099511627776
    · rw [if_pos hn] at h
      obtain ⟨r', hr', rfl⟩ := Option.map_eq_some_iff.1 h
      have hb := takeS_back (b := b) (r := r' ++ post) (n := n.toNat) (by omega)
      rw [Int.toNat_of_nonneg hn.1] at hb
      simp only [List.length_cons, takesS]
      rw [List.append_assoc, hb]
      simp only [if_true]
      have := takesS_back l r' hr' (b ++ enc n.toNat) post (out ++ [n])
      rw [List.append_assoc] at this
      rw [show (b.length : Int) + (enc n.toNat).length = ((b ++ enc n.toNat).length : Int) from by simp, this]
      simp
      omega
    · rw [if_neg hn] at h
      cases h
theorem takesS_short : ∀ (l r : List Int), encs l = some r → ∀ (b out : List Int) (m : Nat), m < r.length → takesS (b ++ r.take m) l.length (b.length : Int) out = ([], 0, 3)
  | [], r, h, b, out, m, hm => by
    simp [encs] at h
    subst h
    simp at hm
  | n :: l, r, h, b, out, m, hm => by
    simp only [encs] at h
    by_cases hn : 0 ≤ n ∧ n ≤ 1099511627776
    · rw [if_pos hn] at h
      obtain ⟨r', hr', rfl⟩ := Option.map_eq_some_iff.1 h
      simp only [List.length_cons, takesS]
      by_cases hlt : m < (enc n.toNat).length
      · rw [List.take_append_of_le_length (by omega), takeS_short (by omega) hlt]
        simp
      · have ht : (enc n.toNat ++ r').take m = enc n.toNat ++ r'.take (m - (enc n.toNat).length) := by
          rw [List.take_append, List.take_of_length_le (by omega)]
        have hb := takeS_back (b := b) (r := r'.take (m - (enc n.toNat).length)) (n := n.toNat) (by omega)
        rw [Int.toNat_of_nonneg hn.1] at hb
        rw [ht, hb]
        simp only [if_true]
        have := takesS_short l r' hr' (b ++ enc n.toNat) (out ++ [n]) (m - (enc n.toNat).length) (by simp at hm; omega)
        rw [List.append_assoc] at this
        rw [show (b.length : Int) + (enc n.toNat).length = ((b ++ enc n.toNat).length : Int) from by simp, this]
    · rw [if_neg hn] at h
      cases h
theorem TakesS_back {l r b post : List Int} (h : encs l = some r) (hl : l.length ≤ 255) : TakesS (b ++ (enc l.length ++ (r ++ post))) (b.length : Int) = (l, (b.length : Int) + ((enc l.length).length + r.length), 0) := by
  have hb := takeS_back (b := b) (r := r ++ post) (n := l.length) (by omega)
  unfold TakesS
  rw [hb]
  simp only [if_true]
  rw [if_neg (by omega)]
  have := takesS_back l r h (b ++ enc l.length) post []
  rw [List.append_assoc] at this
  rw [show (b.length : Int) + (enc l.length).length = ((b ++ enc l.length).length : Int) from by simp, Int.toNat_natCast, this]
  simp
  omega
theorem TakesS_short {l r b : List Int} {m : Nat} (h : encs l = some r) (hl : l.length ≤ 255) (hm : m < (enc l.length ++ r).length) : (TakesS (b ++ (enc l.length ++ r).take m) (b.length : Int)).2.2 = 3 := by
  unfold TakesS
  by_cases hlt : m < (enc l.length).length
  · rw [List.take_append_of_le_length (by omega), takeS_short (by omega) hlt]
    simp
  · have ht : (enc l.length ++ r).take m = enc l.length ++ r.take (m - (enc l.length).length) := by
      rw [List.take_append, List.take_of_length_le (by omega)]
    have hb := takeS_back (b := b) (r := r.take (m - (enc l.length).length)) (n := l.length) (by omega)
    rw [ht, hb]
    simp only [if_true]
    rw [if_neg (by omega)]
    have := takesS_short l r h (b ++ enc l.length) [] (m - (enc l.length).length) (by simp at hm; omega)
    rw [List.append_assoc] at this
    rw [show (b.length : Int) + (enc l.length).length = ((b ++ enc l.length).length : Int) from by simp, Int.toNat_natCast, this]
theorem encs_isB : ∀ (l r : List Int), encs l = some r → isB r ∧ r.length ≤ 6 * l.length
  | [], r, h => by
    simp [encs] at h
    subst h
    exact ⟨fun x hx => by simp at hx, by simp⟩
  | n :: l, r, h => by
    simp only [encs] at h
    by_cases hn : 0 ≤ n ∧ n ≤ 1099511627776
    · rw [if_pos hn] at h
      obtain ⟨r', hr', rfl⟩ := Option.map_eq_some_iff.1 h
      have := encs_isB l r' hr'
      have h2 := (enc_small (n := n.toNat) (by omega)).2
      exact ⟨isB_append (enc_isB _) this.1, by simp; omega⟩
    · rw [if_neg hn] at h
      cases h
/-! ### What is taken has just these bytes -/
theorem tk_once : ∀ (d : Nat) (p r : List Int), (∀ x ∈ p, 128 ≤ x ∧ x < 256) → isB r → (tk d p.length (valI p) r).2.2 = 0 →
    0 ≤ (tk d p.length (valI p) r).1 ∧ (tk d p.length (valI p) r).1 ≤ 1099511627776 ∧ ∃ m : Nat, 1 ≤ m ∧ m ≤ r.length ∧ (tk d p.length (valI p) r).2.1 = p.length + m ∧ p ++ r.take m = enc (tk d p.length (valI p) r).1.toNat := by
  intro d
  induction d with
  | zero => intro p r _ _ h; simp [tk] at h
  | succ d ih =>
    intro p r hp hr h
    cases r with
    | nil => simp [tk] at h
    | cons c r =>
      have hc := hr c (by simp)
      simp only [tk] at h ⊢
      by_cases h1 : c < 128
      · rw [if_pos h1] at h ⊢
        by_cases h2 : valI p + c * 128 ^ p.length ≤ 1099511627776 ∧ ¬ (0 < p.length ∧ c = 0)
        · rw [if_pos h2] at h ⊢
          have hv : valI (p ++ [c]) = valI p + c * 128 ^ p.length := by rw [valI_snoc, Int.emod_eq_of_lt hc.1 h1]
          have hnn := valI_nonneg (p ++ [c])
          refine ⟨by rw [← hv]; exact hnn, h2.1, 1, Nat.le_refl _, by simp, by simp, ?_⟩
          simp only [List.take_succ_cons, List.take_zero]
          rw [← hv]
          refine ((enc_valI p c hp hc.1 h1 ?_).1).symm
          rcases Nat.eq_zero_or_pos p.length with h3 | h3
          · exact .inl (List.eq_nil_of_length_eq_zero h3)
          · exact .inr (by omega)
        · rw [if_neg h2] at h
          simp at h
      · rw [if_neg h1] at h ⊢
        have hv : valI (p ++ [c]) = valI p + (c - 128) * 128 ^ p.length := by rw [valI_snoc, show c % 128 = c - 128 from by omega]
        have hl : (p ++ [c]).length = p.length + 1 := by simp
        have := ih (p ++ [c]) r (by
          intro x hx
          rcases List.mem_append.1 hx with h | h
          · exact hp x h
          · simp at h; omega) (fun x hx => hr x (by simp [hx])) (by rw [hl, hv]; exact h)
        rw [hl, hv] at this
        obtain ⟨a1, a2, m, a3, a4, a5, a6⟩ := this
        refine ⟨a1, a2, m + 1, by omega, by simp; omega, by rw [a5]; omega, ?_⟩
        rw [← a6]
        simp
theorem takeS_once {l : List Int} (hl : isB l) {a : Int} (h : (takeS l a).2.2 = 0) : 0 ≤ a ∧ a ≤ l.length ∧ 0 ≤ (takeS l a).1 ∧ (takeS l a).1 ≤ 1099511627776 ∧ ∃ m : Nat, 1 ≤ m ∧ a + m ≤ l.length ∧ (takeS l a).2.1 = a + m ∧ (l.drop a.toNat).take m = enc (takeS l a).1.toNat := by
  unfold takeS at h ⊢
  by_cases h0 : a < 0 ∨ a > l.length
  · rw [if_pos h0] at h
    simp at h
  · rw [if_neg h0] at h ⊢
    have hf : (tk 6 0 0 (l.drop a.toNat)).2.2 = 0 := by
      unfold fin at h
      by_cases h2 : (tk 6 0 0 (l.drop a.toNat)).2.2 = 0
      · exact h2
      · rw [if_neg h2] at h
        exact h
    have := tk_once 6 [] (l.drop a.toNat) (by simp) (isB_drop hl _) hf
    obtain ⟨a1, a2, m, a3, a4, a5, a6⟩ := this
    unfold fin
    rw [if_pos hf]
    rw [List.length_drop] at a4
    refine ⟨by omega, by omega, a1, a2, m, a3, by omega, ?_, ?_⟩
    · show a + (tk 6 0 0 (l.drop a.toNat)).2.1 = _
      have a5' : (tk 6 0 0 (l.drop a.toNat)).2.1 = ((0 : Nat) : Int) + m := a5
      rw [a5']
      simp
    · exact a6
theorem takesS_once {l : List Int} (hl : isB l) : ∀ (d : Nat) (a : Int) (out : List Int), 0 ≤ a → a ≤ l.length → (takesS l d a out).2.2 = 0 →
    ∃ ys r, (takesS l d a out).1 = out ++ ys ∧ ys.length = d ∧ encs ys = some r ∧ (takesS l d a out).2.1 = a + r.length ∧ a + r.length ≤ l.length ∧ (l.drop a.toNat).take r.length = r
  | 0, a, out, h0, h1, h => ⟨[], [], by simp [takesS], rfl, rfl, by simp [takesS], by simpa using h1, by simp⟩
  | d + 1, a, out, h0, h1, h => by
    simp only [takesS] at h ⊢
    by_cases h2 : (takeS l a).2.2 = 0
    · rw [if_pos h2] at h ⊢
      obtain ⟨_, _, b1, b2, m, b3, b4, b5, b6⟩ := takeS_once hl h2
      rw [b5] at h ⊢
      obtain ⟨ys, r, c1, c2, c3, c4, c5, c6⟩ := takesS_once hl d (a + m) (out ++ [(takeS l a).1]) (by omega) b4 h
      have hlen : (enc (takeS l a).1.toNat).length = m := by
        rw [← b6, List.length_take, List.length_drop]
        omega
      refine ⟨(takeS l a).1 :: ys, enc (takeS l a).1.toNat ++ r, by rw [c1]; simp, by simp [c2], ?_, ?_, ?_, ?_⟩
      · simp only [encs]
        rw [if_pos ⟨b1, b2⟩, c3]
        rfl
      · rw [c4, List.length_append, hlen]; omega
      · rw [List.length_append, hlen]; omega
      · rw [List.length_append, hlen, List.take_add, b6, List.drop_drop, show a.toNat + m = (a + m).toNat from by omega, c6]
    · rw [if_neg h2] at h
      exact absurd h h2
theorem takesS_err (l : List Int) : ∀ (d : Nat) (a : Int) (out : List Int), (takesS l d a out).2.2 ≠ 0 → (takesS l d a out).1 = [] ∧ (takesS l d a out).2.1 = 0
  | 0, a, out, h => by simp [takesS] at h
  | d + 1, a, out, h => by
    simp only [takesS] at h ⊢
    by_cases h2 : (takeS l a).2.2 = 0
    · rw [if_pos h2] at h ⊢
      exact takesS_err l d _ _ h
    · rw [if_neg h2]
      exact ⟨rfl, rfl⟩
theorem TakesS_err {l : List Int} {a : Int} (h : (TakesS l a).2.2 ≠ 0) : (TakesS l a).1 = [] ∧ (TakesS l a).2.1 = 0 := by
  unfold TakesS at h ⊢
  by_cases h2 : (takeS l a).2.2 = 0
  · rw [if_pos h2] at h ⊢
    by_cases h3 : (takeS l a).1 > 255
    · rw [if_pos h3]; exact ⟨rfl, rfl⟩
    · rw [if_neg h3] at h ⊢
      exact takesS_err l _ _ _ h
  · rw [if_neg h2]; exact ⟨rfl, rfl⟩
theorem takeS_err {l : List Int} {a : Int} (h : (takeS l a).2.2 ≠ 0) : (takeS l a).1 = 0 ∧ (takeS l a).2.1 = 0 := by
  unfold takeS at h ⊢
  split
  · exact ⟨rfl, rfl⟩
  · rename_i h2
    rw [if_neg h2] at h
    unfold fin at h ⊢
    split
    · rename_i h3
      rw [if_pos h3] at h
      exact absurd rfl h
    · exact ⟨rfl, rfl⟩
theorem TakesS_once {l : List Int} (hl : isB l) {a : Int} (h : (TakesS l a).2.2 = 0) : 0 ≤ a ∧ a ≤ l.length ∧ (TakesS l a).1.length ≤ 255 ∧ ∃ r, encs (TakesS l a).1 = some r ∧
    (TakesS l a).2.1 = a + (enc (TakesS l a).1.length ++ r).length ∧ a + (enc (TakesS l a).1.length ++ r).length ≤ l.length ∧ (l.drop a.toNat).take (enc (TakesS l a).1.length ++ r).length = enc (TakesS l a).1.length ++ r := by
  unfold TakesS at h ⊢
  by_cases h2 : (takeS l a).2.2 = 0
  · rw [if_pos h2] at h ⊢
    by_cases h3 : (takeS l a).1 > 255
    · rw [if_pos h3] at h
      simp at h
    · rw [if_neg h3] at h ⊢
      obtain ⟨a0, a1, b1, b2, m, b3, b4, b5, b6⟩ := takeS_once hl h2
      rw [b5] at h ⊢
      obtain ⟨ys, r, c1, c2, c3, c4, c5, c6⟩ := takesS_once hl (takeS l a).1.toNat (a + m) [] (by omega) b4 h
      rw [List.nil_append] at c1
      have hlen : (enc (takeS l a).1.toNat).length = m := by
        rw [← b6, List.length_take, List.length_drop]
        omega
      rw [c1, c2, c4]
      refine ⟨a0, a1, by omega, r, c3, ?_, ?_, ?_⟩
      · rw [List.length_append, hlen]; omega
      · rw [List.length_append, hlen]; omega
      · rw [List.length_append, hlen, List.take_add, b6, List.drop_drop, show a.toNat + m = (a + m).toNat from by omega, c6]
  · rw [if_neg h2] at h
    exact absurd h h2
theorem enc_mono : ∀ (m n : Nat), n ≤ m → (enc n).length ≤ (enc m).length := by
  intro m
  induction m using Nat.strongRecOn with
  | _ m ih =>
    intro n h
    by_cases hn : n < 128
    · rw [enc_lt hn]
      have := (enc_len m m (Nat.lt_of_lt_of_le (Nat.lt_pow_self (by omega)) (Nat.pow_le_pow_right (by omega) (by omega)))).1
      simpa using this
    · rw [enc_ge hn, enc_ge (n := m) (by omega)]
      have := ih (m / 128) (by omega) (n / 128) (by omega)
      simp; omega

/-! ### Which events are right -/
def goodE (a b c : Int) : Bool := decide (isStep a b c ∨ isUndo a b c)
theorem good_iff (a b c : Int) : goodE a b c = true ↔ isStep a b c ∨ isUndo a b c := decide_eq_true_iff
def rightE (a b c : Int) (l : List Int) : Bool := goodE a b c && !chkS l
theorem sCheck_is {l : List Int} (h : l.length ≤ 1000000) : stamp_Check.f l = some (if chkS l = true then 2 else 0) := by unfold stamp_Check.f; rw [if_pos h]
theorem Same_of {k : Nat} {a b : List Int} (ha : a.length ≤ 1000000) (hk : 1000001 ≤ k) : argosyref01_Same.f k a b = some (decide (a = b)) := Same_is (by omega) (by omega)
theorem eCheck_is {a b c : Int} {l : List Int} (h : l.length ≤ 1000000) : event_Check.f a b c l = some (if rightE a b c l = true then 0 else 2) := by
  unfold event_Check.f rightE
  by_cases hg : isStep a b c ∨ isUndo a b c
  · rw [if_pos hg, sCheck_is h, (good_iff a b c).2 hg]
    cases chkS l <;> rfl
  · rw [if_neg hg, show goodE a b c = false from decide_eq_false hg]
    rfl
theorem right_facts {a b c : Int} {l : List Int} (h : rightE a b c l = true) : (isStep a b c ∨ isUndo a b c) ∧ chkS l = false := by
  unfold rightE at h
  rw [Bool.and_eq_true, good_iff] at h
  exact ⟨h.1, by cases hc : chkS l <;> simp [hc] at h ⊢⟩
theorem chk_facts {l : List Int} (h : chkS l = false) : 1 ≤ l.length ∧ l.length ≤ 64 ∧ ∀ x ∈ l, 0 ≤ x ∧ x ≤ 1099511627776 := by
  unfold chkS at h
  rw [Bool.or_eq_false_iff, Bool.or_eq_false_iff, decide_eq_false_iff_not, decide_eq_false_iff_not, List.any_eq_false] at h
  refine ⟨by omega, by omega, fun x hx => ?_⟩
  have := h.2 x hx
  unfold badS at this
  simp at this
  omega

/-! ### An event's bytes -/
def headE (a b c : Int) : List Int := a % 256 :: (enc b.toNat ++ if isUndo a b c then enc c.toNat else [])
def bodyE (l : List Int) : List Int := enc l.length ++ (encs l).getD []
def evB (a b c : Int) (l : List Int) : List Int := headE a b c ++ bodyE l
theorem encs_good : ∀ {l : List Int}, (∀ x ∈ l, 0 ≤ x ∧ x ≤ 1099511627776) → ∃ r, encs l = some r
  | [], _ => ⟨[], rfl⟩
  | n :: l, h => by
    obtain ⟨r, hr⟩ := encs_good (l := l) fun x hx => h x (by simp [hx])
    exact ⟨enc n.toNat ++ r, by rw [encs, if_pos (h n (by simp)), hr]; rfl⟩
theorem headE_len {a b c : Int} (h : isStep a b c ∨ isUndo a b c) : (headE a b c).length ≤ 20 := by
  unfold isStep isUndo at h
  have h1 := (enc_small (n := b.toNat) (by omega)).2
  have h2 := (enc_small (n := c.toNat) (by omega)).2
  unfold headE
  split <;> simp <;> omega
theorem sBytes_is {k : Nat} {b l : List Int} (hk : 1000001 ≤ k) (hb : b.length ≤ 1000) (h : chkS l = false) : stamp_Bytes.f k b l = some (b ++ bodyE l, 0) := by
  obtain ⟨h1, h2, h3⟩ := chk_facts h
  obtain ⟨r, hr⟩ := encs_good h3
  unfold stamp_Bytes.f bodyE
  rw [sCheck_is (by omega), h, Option.bind_some, if_pos (by decide), Puts_is (by omega) (by omega), if_pos (by omega), hr]
  simp
theorem eBytes_is {k : Nat} {a b c : Int} {l : List Int} (hk : 1000001 ≤ k) (hl : l.length ≤ 1000000) : event_Bytes.f k a b c l = some (if rightE a b c l = true then (evB a b c l, 0) else ([], 2)) := by
  unfold event_Bytes.f
  rw [eCheck_is hl, Option.bind_some]
  by_cases h : rightE a b c l = true
  · obtain ⟨hg, hc⟩ := right_facts h
    rw [if_pos h, if_pos h, if_pos rfl]
    have hlen := headE_len hg
    unfold evB
    unfold headE at hlen ⊢
    have hb : 0 ≤ b ∧ b ≤ 1099511627776 ∧ 0 ≤ c ∧ c ≤ 1099511627776 := by unfold isStep isUndo at hg; omega
    rw [Put_ok hb.1 hb.2.1 (by simp) (by omega), Option.bind_some]
    by_cases hu : isUndo a b c
    · rw [if_pos hu] at hlen ⊢
      rw [if_pos hu, Put_ok hb.2.2.1 hb.2.2.2 (by simp at hlen ⊢; omega) (by omega), Option.bind_some, sBytes_is hk (by simp at hlen ⊢; omega) hc]
      simp
    · rw [if_neg hu] at hlen ⊢
      rw [if_neg hu, sBytes_is hk (by simp at hlen ⊢; omega) hc]
      simp
  · rw [if_neg h, if_neg h, if_neg (by decide)]

/-! ### What is read -/
def badR : Int × Int × Int × List Int × Int := (0, 0, 0, [], 4)
def readS (l : List Int) (e at_ a b c : Int) : Int × Int × Int × List Int × Int :=
  if e = 0 then (if (TakesS l at_).2.2 = 0 then (if (TakesS l at_).2.1 = (l.length : Int) then (if rightE a b c (TakesS l at_).1 = true then (a, b, c, (TakesS l at_).1, 0) else badR) else badR) else badR) else badR
def readE (l : List Int) : Int × Int × Int × List Int × Int :=
  if l.length = 0 then badR
  else if (takeS l 1).2.2 = 0 then (if rd l 0 > 3 then readS l (takeS l (takeS l 1).2.1).2.2 (takeS l (takeS l 1).2.1).2.1 (rd l 0) (takeS l 1).1 (takeS l (takeS l 1).2.1).1 else readS l 0 (takeS l 1).2.1 (rd l 0) (takeS l 1).1 0)
  else badR
theorem takesS_len (l : List Int) : ∀ (n : Nat) (a : Int) (out : List Int), (takesS l n a out).1.length ≤ out.length + n
  | 0, a, out => by simp [takesS]
  | n + 1, a, out => by
    simp only [takesS]
    split
    · have := takesS_len l n (takeS l a).2.1 (out ++ [(takeS l a).1])
      simp at this; omega
    · simp
theorem TakesS_len (l : List Int) (a : Int) : (TakesS l a).1.length ≤ 255 := by
  unfold TakesS
  split
  · split
    · simp
    · have := takesS_len l (takeS l a).1.toNat (takeS l a).2.1 []
      simp at this; omega
  · simp
theorem j1_is {k : Nat} {l : List Int} (hB : isB l) (hb : l.length ≤ 1000000) (hk : 1000001 ≤ k) (e at_ a b c : Int) : event_Read.j1 (k + 1) l e at_ a b c = some (readS l e at_ a b c) := by
  simp only [event_Read.j1]
  unfold readS
  by_cases he : e = 0
  · rw [if_pos he, if_pos he]
    unfold stamp_Read.f
    rw [Takes_is hB (by omega) (by omega)]
    have hlen := TakesS_len l at_
    generalize TakesS l at_ = T at *
    obtain ⟨x, n, f⟩ := T
    dsimp only at hlen
    simp only [Option.bind_some]
    by_cases hf : f = 0
    · rw [if_pos hf, if_pos hf, sCheck_is (by omega), Option.bind_some]
      cases hc : chkS x with
      | true =>
        have hr : rightE a b c x = false := by unfold rightE; rw [hc]; simp
        rw [if_pos rfl, if_neg (by decide : ¬ ((2 : Int) = 0)), hr]
        simp only [Option.bind_some]
        rw [if_neg (by decide : ¬ ((2 : Int) = 0))]
        split <;> rfl
      | false =>
        rw [if_neg (by decide : ¬ (false = true)), if_pos rfl]
        simp only [Option.bind_some, if_true]
        by_cases hn : n = (l.length : Int)
        · rw [if_pos hn, if_pos hn, eCheck_is (by omega), Option.bind_some]
          cases rightE a b c x <;> rfl
        · rw [if_neg hn, if_neg hn]
          rfl
    · rw [if_neg hf, if_neg hf]
      simp only [Option.bind_some]
      rw [if_neg hf]
      rfl
  · rw [if_neg he, if_neg he]
    rfl
theorem eRead_is {k : Nat} {l : List Int} (hB : isB l) (hb : l.length ≤ 1000000) (hk : 1000003 ≤ k) : event_Read.f k l = some (readE l) := by
  unfold event_Read.f readE
  by_cases h0 : l.length = 0
  · rw [if_pos (by omega), if_pos h0]
    rfl
  rw [if_neg (by omega), if_pos (by omega), if_neg h0, Take_is hB (by omega) (by omega), Option.bind_some]
  have hr := rd_isB hB 0 (by omega) (by omega)
  rw [w64 (by omega)]
  obtain ⟨k, rfl⟩ : ∃ m, k = m + 1 := ⟨k - 1, by omega⟩
  obtain ⟨k, rfl⟩ : ∃ m, k = m + 1 := ⟨k - 1, by omega⟩
  have hj : ∀ (e at_ a b c : Int), event_Read.j0 (k + 1 + 1) l e at_ false a b c = some (readS l e at_ a b c) := by
    intro e at_ a b c
    simp only [event_Read.j0]
    rw [if_neg (by decide)]
    exact j1_is hB hb (by omega) e at_ a b c
  by_cases h1 : (takeS l 1).2.2 = 0
  · rw [if_pos h1, if_pos h1]
    unfold event_tries.f
    rw [Option.bind_some]
    by_cases h3 : rd l 0 > 3
    · rw [decide_eq_true h3, if_pos h3]
      simp only [event_Read.j0]
      rw [if_pos trivial, Take_is hB (by omega) (by omega), Option.bind_some]
      exact j1_is hB hb (by omega) _ _ _ _ _
    · rw [decide_eq_false h3, if_neg h3, hj, h1]
  · rw [if_neg h1, if_neg h1, hj]
    unfold readS
    rw [if_neg h1]
/-- What is read has just these bytes. -/
theorem readE_once {l : List Int} (hB : isB l) : readE l = badR ∨ ∃ a b c x, readE l = (a, b, c, x, 0) ∧ rightE a b c x = true ∧ evB a b c x = l := by
  unfold readE
  by_cases h0 : l.length = 0
  · rw [if_pos h0]; exact .inl rfl
  rw [if_neg h0]
  by_cases h1 : (takeS l 1).2.2 = 0
  · rw [if_pos h1]
    obtain ⟨-, a1, a2, a3, m, a4, a5, a6, a7⟩ := takeS_once hB h1
    have hr := rd_isB hB 0 (by omega) (by omega)
    have hcons : l = rd l 0 :: l.drop 1 := by
      rw [rd_at 0 (by omega) (by omega)]
      cases l with
      | nil => simp at h0
      | cons x r => rfl
    have hd1 : (1 : Int).toNat = 1 := rfl
    rw [hd1] at a7
    generalize hn1 : takeS l 1 = t1 at *
    obtain ⟨n1, e1, f1⟩ := t1
    dsimp only at *
    have fin_ : ∀ (at_ : Int) (c : Int) (y : List Int), l.take at_.toNat = headE (rd l 0) n1 c → 0 ≤ at_ →
        (readS l 0 at_ (rd l 0) n1 c = badR ∨ ∃ a b c' x, readS l 0 at_ (rd l 0) n1 c = (a, b, c', x, 0) ∧ rightE a b c' x = true ∧ evB a b c' x = l) := by
      intro at_ c y hh hat
      unfold readS
      rw [if_pos rfl]
      by_cases g1 : (TakesS l at_).2.2 = 0
      · rw [if_pos g1]
        obtain ⟨-, b1, b2, r, b3, b4, b5, b6⟩ := TakesS_once hB g1
        by_cases g2 : (TakesS l at_).2.1 = (l.length : Int)
        · rw [if_pos g2]
          by_cases g3 : rightE (rd l 0) n1 c (TakesS l at_).1 = true
          · rw [if_pos g3]
            refine .inr ⟨_, _, _, _, rfl, g3, ?_⟩
            unfold evB bodyE
            have hall : (l.drop at_.toNat).take (enc (TakesS l at_).1.length ++ r).length = l.drop at_.toNat := List.take_of_length_le (by rw [List.length_drop]; omega)
            rw [b3, ← hh, Option.getD_some, ← b6, hall, List.take_append_drop]
          · rw [if_neg g3]; exact .inl rfl
        · rw [if_neg g2]; exact .inl rfl
      · rw [if_neg g1]; exact .inl rfl
    have ht1 : l.take (1 + m) = rd l 0 :: enc n1.toNat := by
      have ht := congrArg (List.take (1 + m)) hcons
      rw [ht, Nat.add_comm, List.take_succ_cons, a7]
    by_cases h3 : rd l 0 > 3
    · rw [if_pos h3]
      by_cases h4 : (takeS l e1).2.2 = 0
      · obtain ⟨-, c1, c2, c3, m2, c4, c5, c6, c7⟩ := takeS_once hB h4
        rw [h4]
        by_cases g3 : isUndo (rd l 0) n1 (takeS l e1).1
        · refine fin_ _ _ [] ?_ (by omega)
          unfold headE
          rw [if_pos g3, ← c7, c6, a6, show ((1 : Int) + (m : Int) + (m2 : Int)).toNat = (1 + m) + m2 from by omega, List.take_add, ht1, show (1 + (m : Int)).toNat = 1 + m from by omega]
          simp
          omega
        · unfold readS
          rw [if_pos rfl]
          have hno : ∀ x, rightE (rd l 0) n1 (takeS l e1).1 x = false := by
            intro x
            unfold rightE
            rw [show goodE (rd l 0) n1 (takeS l e1).1 = false from decide_eq_false (by unfold isStep isUndo at *; omega)]
            rfl
          rw [hno]
          simp
      · unfold readS
        rw [if_neg h4]; exact .inl rfl
    · rw [if_neg h3]
      refine fin_ _ _ [] ?_ (by omega)
      unfold headE
      rw [if_neg (by unfold isUndo; omega), a6, show ((1 : Int) + (m : Int)).toNat = 1 + m from by omega, ht1]
      simp
      omega
  · rw [if_neg h1]; exact .inl rfl

/-! ### An event's bytes are read as the event -/
theorem evB_isB {a b c : Int} {l : List Int} (h : rightE a b c l = true) : isB (evB a b c l) := by
  obtain ⟨hg, hc⟩ := right_facts h
  obtain ⟨h1, h2, h3⟩ := chk_facts hc
  obtain ⟨r, hr⟩ := encs_good h3
  have hd : isB (headE a b c) := by
    unfold headE
    intro x hx
    rw [List.mem_cons] at hx
    rcases hx with rfl | hx
    · omega
    · rw [List.mem_append] at hx
      rcases hx with hx | hx
      · exact enc_isB _ x hx
      · split at hx
        · exact enc_isB _ x hx
        · simp at hx
  unfold evB bodyE
  rw [hr]
  exact isB_append hd (isB_append (enc_isB _) (encs_isB l r hr).1)
theorem evB_len {a b c : Int} {l : List Int} (h : rightE a b c l = true) : (evB a b c l).length ≤ 1000 := by
  obtain ⟨hg, hc⟩ := right_facts h
  obtain ⟨h1, h2, h3⟩ := chk_facts hc
  obtain ⟨r, hr⟩ := encs_good h3
  have e1 := headE_len hg
  have e2 := (enc_small (n := l.length) (by omega)).2
  have e3 := (encs_isB l r hr).2
  unfold evB bodyE
  rw [hr, Option.getD_some, List.length_append, List.length_append]
  omega
theorem readE_back {a b c : Int} {l : List Int} (h : rightE a b c l = true) : readE (evB a b c l) = (a, b, c, l, 0) := by
  obtain ⟨hg, hc⟩ := right_facts h
  obtain ⟨h1, h2, h3⟩ := chk_facts hc
  obtain ⟨r, hr⟩ := encs_good h3
  have hb : 0 ≤ a ∧ a ≤ 6 ∧ 0 ≤ b ∧ b ≤ 64 ∧ 0 ≤ c ∧ c ≤ 64 := by unfold isStep isUndo at hg; omega
  have hE : evB a b c l = [a] ++ (enc b.toNat ++ ((if isUndo a b c then enc c.toNat else []) ++ (enc l.length ++ (r ++ [])))) := by
    unfold evB headE bodyE
    rw [hr, Int.emod_eq_of_lt hb.1 (by omega)]
    simp
  have hlen : (evB a b c l).length ≠ 0 := by rw [hE]; simp
  have hrd : rd (evB a b c l) 0 = a := by rw [hE]; rfl
  have t1 := takeS_back (b := [a]) (r := (if isUndo a b c then enc c.toNat else []) ++ (enc l.length ++ (r ++ []))) (n := b.toNat) (by omega)
  rw [← hE, show (([a] : List Int).length : Int) = 1 from rfl] at t1
  unfold readE
  rw [if_neg hlen, t1, hrd]
  simp only [if_true]
  have hS : ∀ (p : List Int) , evB a b c l = p ++ (enc l.length ++ (r ++ [])) → readS (evB a b c l) 0 (p.length : Int) a b c = (a, b, c, l, 0) := by
    intro p hp
    have t3 := TakesS_back (b := p) (post := []) hr (by omega)
    rw [← hp] at t3
    unfold readS
    rw [if_pos rfl, t3]
    simp only [if_true]
    rw [if_pos (by rw [hp]; simp), if_pos h]
  rw [show ((b.toNat : Nat) : Int) = b from by omega]
  by_cases hu : isUndo a b c
  · rw [if_pos hu] at hE
    have hu2 := hu
    unfold isUndo at hu2
    rw [if_pos (by omega)]
    have t2 := takeS_back (b := [a] ++ enc b.toNat) (r := enc l.length ++ (r ++ [])) (n := c.toNat) (by omega)
    rw [List.append_assoc, ← hE, show ((([a] ++ enc b.toNat : List Int)).length : Int) = 1 + (enc b.toNat).length from by simp; omega] at t2
    rw [t2]
    simp only
    have := hS (([a] ++ enc b.toNat) ++ enc c.toNat) (by rw [hE]; simp)
    rw [show ((([a] ++ enc b.toNat) ++ enc c.toNat).length : Int) = 1 + (enc b.toNat).length + (enc c.toNat).length from by simp; omega] at this
    rw [show ((c.toNat : Nat) : Int) = c from by omega]
    exact this
  · have hu2 : a ≤ 3 ∧ c = 0 := by unfold isStep isUndo at *; omega
    rw [if_neg hu] at hE
    rw [if_neg (by omega)]
    have := hS ([a] ++ enc b.toNat) (by rw [hE]; simp)
    rw [show ((([a] ++ enc b.toNat : List Int)).length : Int) = 1 + (enc b.toNat).length from by simp; omega] at this
    rw [hu2.2] at this ⊢
    exact this

/-! ### Numbers' texts -/
def dig (c : Int) : Prop := 48 ≤ c ∧ c ≤ 57
instance (c : Int) : Decidable (dig c) := by unfold dig; infer_instance
def valL : List Int → Int → Int
  | [], n => n
  | c :: cs, n => valL cs (10 * n + (c - 48))
/-- A number's digits. -/
def digL (n : Nat) : List Int := if h : n < 10 then [48 + (n : Int)] else digL (n / 10) ++ [48 + ((n % 10 : Nat) : Int)]
termination_by n
decreasing_by omega
theorem digL_small {n : Nat} (h : n < 10) : digL n = [48 + (n : Int)] := by rw [digL]; simp [h]
theorem digL_big {n : Nat} (h : ¬ n < 10) : digL n = digL (n / 10) ++ [48 + ((n % 10 : Nat) : Int)] := by rw [digL]; simp [h]
theorem valL_app : ∀ (xs ys : List Int) (n : Int), valL (xs ++ ys) n = valL ys (valL xs n)
  | [], _, _ => rfl
  | c :: cs, ys, n => valL_app cs ys _
theorem valL_mono : ∀ (xs : List Int) (n : Int), (∀ c ∈ xs, dig c) → 0 ≤ n → n * 10 ^ xs.length ≤ valL xs n ∧ valL xs n < (n + 1) * 10 ^ xs.length
  | [], n, _, _ => by simp [valL]; omega
  | c :: cs, n, h, hn => by
    have hc := h c (by simp)
    unfold dig at hc
    have ih := valL_mono cs (10 * n + (c - 48)) (fun z hz => h z (by simp [hz])) (by omega)
    simp only [valL, List.length_cons]
    have hp : (0 : Int) < 10 ^ cs.length := Int.pow_pos (by decide)
    have e : (10 : Int) ^ (cs.length + 1) = 10 * 10 ^ cs.length := by rw [Int.pow_succ, Int.mul_comm]
    obtain ⟨P, hP⟩ : ∃ P : Int, (10 : Int) ^ cs.length = P := ⟨_, rfl⟩
    rw [hP] at ih hp e
    rw [e]
    have e1 : n * (10 * P) = (10 * n) * P := by rw [← Int.mul_assoc, Int.mul_comm n 10]
    have e2 : (n + 1) * (10 * P) = (10 * (n + 1)) * P := by rw [← Int.mul_assoc, Int.mul_comm (n + 1) 10]
    rw [e1, e2]
    constructor
    · exact Int.le_trans (Int.mul_le_mul_of_nonneg_right (by omega) (by omega)) ih.1
    · exact Int.lt_of_lt_of_le ih.2 (Int.mul_le_mul_of_nonneg_right (by omega) (by omega))
theorem snoc_cases {α : Type} (xs : List α) : xs = [] ∨ ∃ ys c, xs = ys ++ [c] := by
  rcases List.eq_nil_or_concat xs with h | ⟨ys, c, h⟩
  · exact .inl h
  · exact .inr ⟨ys, c, by simpa using h⟩
theorem val_nonneg {xs : List Int} (h : ∀ c ∈ xs, dig c) : 0 ≤ valL xs 0 := by
  have := (valL_mono xs 0 h (by omega)).1
  simpa using this
theorem val_pos {c : Int} {cs : List Int} (h : ∀ z ∈ c :: cs, dig z) (hc : c ≠ 48) : 10 ^ cs.length ≤ valL (c :: cs) 0 := by
  have h0 := h c (by simp)
  unfold dig at h0
  have := (valL_mono cs (10 * 0 + (c - 48)) (fun z hz => h z (by simp [hz])) (by omega)).1
  have hp : (0 : Int) ≤ 10 ^ cs.length := Int.le_of_lt (Int.pow_pos (by decide))
  refine Int.le_trans ?_ this
  have := Int.mul_le_mul_of_nonneg_right (show (1 : Int) ≤ 10 * 0 + (c - 48) by omega) hp
  rwa [Int.one_mul] at this
/-- No digit too many ahead. -/
def canon (xs : List Int) : Prop := (∀ c ∈ xs, dig c) ∧ xs ≠ [] ∧ (xs.getD 0 0 = 48 → xs.length = 1)
theorem digL_val : ∀ (m : Nat) (xs : List Int), xs.length = m → canon xs → digL (valL xs 0).toNat = xs
  | 0, xs, hm, h => absurd (List.eq_nil_of_length_eq_zero hm) h.2.1
  | m + 1, xs, hm, h => by
    rcases snoc_cases xs with rfl | ⟨ys, c, rfl⟩
    · exact absurd rfl h.2.1
    · have hc := h.1 c (by simp)
      unfold dig at hc
      rw [valL_app]
      simp only [valL]
      rcases ys with _ | ⟨y, ys⟩
      · simp only [valL, List.nil_append]
        rw [digL_small (by omega)]
        congr 1
        omega
      · have hy : ∀ z ∈ y :: ys, dig z := fun z hz => h.1 z (by simp at hz ⊢; rcases hz with hz | hz <;> simp [hz])
        have hy48 : y ≠ 48 := fun e => by
          have := h.2.2 (by simp [e])
          simp at this
        have hv := val_pos hy hy48
        have hp : (1 : Int) ≤ 10 ^ ys.length := Int.add_one_le_iff.2 (Int.pow_pos (by decide))
        have ih := digL_val m (y :: ys) (by simp at hm ⊢; omega) ⟨hy, by simp, fun e => absurd (by simpa using e) hy48⟩
        obtain ⟨v, hvv⟩ : ∃ v, valL (y :: ys) 0 = v := ⟨_, rfl⟩
        rw [hvv] at hv ih ⊢
        rw [digL_big (by omega), show (10 * v + (c - 48)).toNat / 10 = v.toNat from by omega, ih]
        congr 2
        omega
theorem digL_ne (n : Nat) : digL n ≠ [] := by
  by_cases h : n < 10
  · rw [digL_small h]; simp
  · rw [digL_big h]; simp
theorem digL_canon (n : Nat) : canon (digL n) ∧ valL (digL n) 0 = (n : Int) ∧ ((digL n).getD 0 0 = 48 → n = 0) := by
  induction n using Nat.strongRecOn with
  | ind n ih =>
    by_cases h : n < 10
    · rw [digL_small h]
      refine ⟨⟨?_, by simp, by simp⟩, ?_, ?_⟩
      · intro c hc
        simp at hc
        unfold dig
        omega
      · simp only [valL]; omega
      · simp; omega
    · obtain ⟨⟨h1, h2, h3⟩, h4, h5⟩ := ih (n / 10) (by omega)
      rw [digL_big h]
      have hg : (digL (n / 10) ++ [48 + ((n % 10 : Nat) : Int)]).getD 0 0 = (digL (n / 10)).getD 0 0 := by
        rcases hd : digL (n / 10) with _ | ⟨a, l⟩
        · exact absurd hd (digL_ne _)
        · rfl
      have hne : (digL (n / 10)).getD 0 0 ≠ 48 := fun e => by have := h5 e; omega
      refine ⟨⟨?_, by simp, ?_⟩, ?_, ?_⟩
      · intro c hc
        rcases List.mem_append.1 hc with hc | hc
        · exact h1 c hc
        · simp at hc
          unfold dig
          omega
      · rw [hg]; exact fun e => absurd e hne
      · rw [valL_app, h4]
        simp only [valL]
        omega
      · rw [hg]; exact fun e => absurd e hne
theorem canon_iff (xs : List Int) (h : ∀ c ∈ xs, dig c) : canon xs ↔ digL (valL xs 0).toNat = xs := by
  constructor
  · exact fun hc => digL_val _ xs rfl hc
  · intro e
    rw [← e]
    exact (digL_canon _).1
theorem canon_len {xs : List Int} (h : canon xs) (hv : valL xs 0 ≤ 1099511627776) : xs.length ≤ 13 := by
  obtain ⟨h1, h2, h3⟩ := h
  rcases xs with _ | ⟨c, cs⟩
  · exact absurd rfl h2
  · by_cases hc : c = 48
    · have := h3 (by simp [hc]); omega
    · have hp := val_pos h1 hc
      refine Decidable.of_not_not fun hl => ?_
      have : (10 : Int) ^ 13 ≤ 10 ^ cs.length := by
        obtain ⟨m, hm⟩ : ∃ m, cs.length = 13 + m := ⟨cs.length - 13, by simp at hl; omega⟩
        rw [hm, Int.pow_add]
        have h1 : (1 : Int) ≤ 10 ^ m := Int.add_one_le_iff.2 (Int.pow_pos (by decide))
        have := Int.mul_le_mul_of_nonneg_left h1 (show (0 : Int) ≤ 10 ^ 13 by decide)
        rwa [Int.mul_one] at this
      omega
theorem isB_digL (n : Nat) : isB (digL n) := fun c hc => by
  have := (digL_canon n).1.1 c hc
  unfold dig at this
  omega
theorem canon_len' (n : Nat) (h : n < 1000000000000000000) : (digL n).length ≤ 1000000 := by
  have hc := digL_canon n
  rcases hd : digL n with _ | ⟨c, cs⟩
  · simp
  · rw [hd] at hc
    by_cases h48 : c = 48
    · have := hc.1.2.2 (by simp [h48])
      omega
    · have hp := val_pos hc.1.1 h48
      rw [hc.2.1] at hp
      refine Decidable.of_not_not fun hl => ?_
      have : (10 : Int) ^ 20 ≤ 10 ^ cs.length := by
        obtain ⟨m, hm⟩ : ∃ m, cs.length = 20 + m := ⟨cs.length - 20, by simp at hl; omega⟩
        rw [hm, Int.pow_add]
        have h1 : (1 : Int) ≤ 10 ^ m := Int.add_one_le_iff.2 (Int.pow_pos (by decide))
        have := Int.mul_le_mul_of_nonneg_left h1 (show (0 : Int) ≤ 10 ^ 20 by decide)
        rwa [Int.mul_one] at this
      omega

/-! ### A number's text -/
/-- A number's text. -/
def digZ (n : Int) : List Int := if n < 0 then 45 :: digL (-n).toNat else digL n.toNat
theorem digZ_isB (n : Int) : isB (digZ n) := by
  unfold digZ
  split
  · intro x hx
    rcases List.mem_cons.1 hx with rfl | hx
    · omega
    · exact isB_digL _ x hx
  · exact isB_digL _

/-! ### The library's numerals are the document's -/
theorem decDigits_is (n : Nat) : Lib.decDigits n = (digL n).map fun c => UInt8.ofNat c.toNat := by
  induction n using Nat.strongRecOn with
  | ind n ih =>
    by_cases h : n < 10
    · rw [Lib.decDigits, digL_small h, dif_pos h, List.map_cons, List.map_nil, show (48 + (n : Int)).toNat = 48 + n from by omega]
    · rw [Lib.decDigits, digL_big h, dif_neg h, ih (n / 10) (by omega), List.map_append, List.map_cons, List.map_nil, show (48 + ((n % 10 : Nat) : Int)).toNat = 48 + n % 10 from by omega]
theorem itoa_is (n : Int) : itoaB n = strOfNums (digZ n) := by
  apply bytes_ext
  rw [bytes_toList, bytes_toList, son_data]
  unfold itoaB Lib.itoa digZ
  by_cases h : n < 0
  · rw [if_pos h, if_pos h, decDigits_is, show n.natAbs = (-n).toNat from by omega, List.map_cons]
    rfl
  · rw [if_neg h, if_neg h, decDigits_is]
theorem join_flat (l : List (List UInt8)) : Lib.join l [] = l.flatten := by
  unfold Lib.join
  induction l with
  | nil => rfl
  | cons a l ih =>
    cases l with
    | nil => simp [List.intercalate]
    | cons b l =>
      rw [show ([] : List UInt8).intercalate (a :: b :: l) = a ++ ([] ++ ([] : List UInt8).intercalate (b :: l)) from by simp [List.intercalate], ih]
      simp
theorem joinB_is (l : List (List Int)) : joinB (l.map strOfNums) (⟨#[]⟩ : ByteArray) = strOfNums l.flatten := by
  apply bytes_ext
  rw [bytes_toList, bytes_toList, son_data]
  unfold joinB
  show Lib.join _ [] = _
  rw [join_flat, List.map_map, List.map_flatten]
  congr 1

/-! ### An event's text -/
def wordE (a : Int) : List Int := if a = 1 then [115, 116, 97, 114, 116] else if a = 2 then [111, 107] else if a = 3 then [102, 97, 105, 108] else if a = 4 then [117, 110, 100, 111] else if a = 5 then [117, 110, 100, 111, 110, 101] else [115, 108, 105, 112]
def nameL (a b c : Int) : List Int := digL b.toNat ++ if isUndo a b c then 46 :: digL c.toNat else []
def tailL (l : List Int) : List Int := l.flatMap fun x => 32 :: digL x.toNat
def evT (a b c : Int) (l : List Int) : List Int := wordE a ++ (32 :: (nameL a b c ++ tailL l))
theorem digL_le : ∀ (d n : Nat), n < 10 ^ (d + 1) → (digL n).length ≤ d + 1
  | 0, n, h => by rw [digL_small (by omega)]; simp
  | d + 1, n, h => by
    by_cases h2 : n < 10
    · rw [digL_small h2]; simp
    · rw [digL_big h2]
      have := digL_le d (n / 10) (by rw [Nat.pow_succ] at h; omega)
      simp; omega
theorem digL_short {n : Nat} (h : n ≤ 1099511627776) : (digL n).length ≤ 13 := digL_le 12 n (by omega)
theorem word_is {a b c : Int} (h : isStep a b c ∨ isUndo a b c) : event_word.f a = some (strOfNums (wordE a)) := by
  unfold event_word.f wordE
  by_cases h1 : a = 1
  · rw [if_pos h1, if_pos h1]; rfl
  rw [if_neg h1, if_neg h1]
  by_cases h2 : a = 2
  · rw [if_pos h2, if_pos h2]; rfl
  rw [if_neg h2, if_neg h2]
  by_cases h3 : a = 3
  · rw [if_pos h3, if_pos h3]; rfl
  rw [if_neg h3, if_neg h3]
  by_cases h4 : a = 4
  · rw [if_pos h4, if_pos h4]; rfl
  rw [if_neg h4, if_neg h4]
  by_cases h5 : a = 5
  · rw [if_pos h5, if_pos h5]; rfl
  rw [if_neg h5, if_neg h5]
  rfl
theorem wordE_len (a : Int) : 2 ≤ (wordE a).length ∧ (wordE a).length ≤ 6 := by
  unfold wordE
  repeat' split
  all_goals simp
theorem Itoa_is {n : Int} (h : 0 ≤ n ∧ n ≤ 1099511627776) : strconv_Itoa.f n = some (strOfNums (digL n.toNat)) := by
  unfold strconv_Itoa.f
  rw [if_pos (by unfold numI; rw [Bool.and_eq_true, decide_eq_true_eq, decide_eq_true_eq]; omega), itoa_is, digZ, if_neg (by omega)]
theorem nameL_len {a b c : Int} (h : isStep a b c ∨ isUndo a b c) : (nameL a b c).length ≤ 30 := by
  have h1 := digL_short (n := b.toNat) (by unfold isStep isUndo at h; omega)
  have h2 := digL_short (n := c.toNat) (by unfold isStep isUndo at h; omega)
  unfold nameL
  split <;> simp <;> omega
theorem name_is {a b c : Int} (h : isStep a b c ∨ isUndo a b c) : nameE a b c = some (strOfNums (nameL a b c)) := by
  have hb : 0 ≤ b ∧ b ≤ 1099511627776 ∧ 0 ≤ c ∧ c ≤ 1099511627776 := by unfold isStep isUndo at h; omega
  have h1 := digL_short (n := b.toNat) (by omega)
  have h2 := digL_short (n := c.toNat) (by omega)
  unfold nameE nameL
  rw [Itoa_is ⟨hb.1, hb.2.1⟩, Option.bind_some]
  by_cases hu : isUndo a b c
  · rw [if_pos hu, if_pos hu, Itoa_is hb.2.2, Option.bind_some, if_pos (by rw [son_size]; omega), if_pos (by rw [son_size, son_size]; omega), show (⟨#[46]⟩ : ByteArray) = strOfNums [46] from rfl, ← son_append, ← son_append]
    rfl
  · rw [if_neg hu, if_neg hu]
    simp
theorem textGoE_is : ∀ (l : List Int) (acc : List ByteArray), (∀ x ∈ l, 0 ≤ x ∧ x ≤ 1099511627776) → acc.length + l.length ≤ 1000000 → textGoE l acc = some (acc ++ l.map fun x => strOfNums (digL x.toNat))
  | [], acc, _, _ => by simp [textGoE]
  | x :: l, acc, h, hl => by
    rw [List.length_cons] at hl
    rw [textGoE, Itoa_is (h x (by simp)), Option.bind_some, if_pos (by omega), textGoE_is l _ (fun y hy => h y (by simp [hy])) (by simp; omega)]
    simp
theorem tailL_len : ∀ {l : List Int}, (∀ x ∈ l, 0 ≤ x ∧ x ≤ 1099511627776) → (tailL l).length ≤ 14 * l.length
  | [], _ => by simp [tailL]
  | x :: l, h => by
    have h1 := digL_short (n := x.toNat) (by have := h x (by simp); omega)
    have := tailL_len (l := l) fun y hy => h y (by simp [hy])
    unfold tailL at this ⊢
    rw [List.flatMap_cons, List.length_append, List.length_cons, List.length_cons]
    omega
theorem join_is (x : List Int) (r : List (List Int)) : joinB ((x :: r).map strOfNums) (⟨#[32]⟩ : ByteArray) = strOfNums (x ++ (r.flatMap fun y => 32 :: y)) := by
  apply bytes_ext
  rw [bytes_toList, bytes_toList, son_data]
  unfold joinB
  show Lib.join _ [32] = _
  rw [List.map_map, List.map_cons, Lib.join_cons]
  simp only [Function.comp, son_data, List.map_append]
  congr 1
  unfold Lib.joinTail
  induction r with
  | nil => rfl
  | cons y r ih =>
    simp only [List.map_cons, List.flatten_cons, List.flatMap_cons, List.map_append]
    rw [ih, Function.comp, son_data]
    rfl
theorem eText_is {a b c : Int} {l : List Int} (hl : l.length ≤ 1000000) : event_Text.f a b c l = some (if rightE a b c l = true then strOfNums (evT a b c l) else strOfNums []) := by
  unfold event_Text.f
  rw [eCheck_is hl, Option.bind_some]
  by_cases h : rightE a b c l = true
  · obtain ⟨hg, hc⟩ := right_facts h
    obtain ⟨h1, h2, h3⟩ := chk_facts hc
    rw [if_pos h, if_pos h, if_pos rfl, name_is hg, Option.bind_some, word_is hg, Option.bind_some, textGoE_is _ _ h3 (by simp; omega), Option.bind_some]
    have e : ([strOfNums (wordE a), strOfNums (nameL a b c)] ++ l.map fun x => strOfNums (digL x.toNat)) = (wordE a :: nameL a b c :: l.map fun x => digL x.toNat).map strOfNums := by
      simp
    have e2 : wordE a ++ ((nameL a b c :: l.map fun x => digL x.toNat).flatMap fun y => 32 :: y) = evT a b c l := by
      unfold evT tailL
      simp [List.flatMap_map]
    have l1 := wordE_len a
    have l2 := nameL_len hg
    have l3 := tailL_len h3
    unfold strings_Join.f
    rw [e, join_is, e2, if_pos ⟨by rw [son_size]; unfold evT; simp; omega, by simp; omega⟩]
  · rw [if_neg h, if_neg h, if_neg (by decide)]
    rfl

/-! ### The examples -/
theorem lvB : evB 4 5 1 [2, 0] = [4, 5, 1, 2, 2, 0] := by
  unfold evB headE bodyE
  rw [if_pos (by unfold isUndo; omega), show ([2, 0] : List Int).length = 2 from rfl]
  simp only [encs]
  rw [if_pos (by omega), if_pos (by omega), enc_lt (by omega), enc_lt (by omega), enc_lt (by omega), enc_lt (by omega), enc_lt (by omega)]
  rfl
theorem lvT : evT 4 5 1 [2, 0] = [117, 110, 100, 111, 32, 53, 46, 49, 32, 50, 32, 48] := by
  unfold evT nameL tailL
  rw [if_pos (by unfold isUndo; omega)]
  simp only [List.flatMap_cons, List.flatMap_nil]
  rw [digL_small (by omega), digL_small (by omega), digL_small (by omega), digL_small (by omega)]
  rfl
theorem lvR : readE [4, 5, 1, 2, 2, 0] = (4, 5, 1, [2, 0], 0) := by decide
theorem rSame_is {k : Nat} {a b c a' b' c' : Int} {l l' : List Int} (hl : l.length ≤ 1000000) (hk : 1000001 ≤ k) : argosyref10_Same.f k a b c l a' b' c' l' = some (decide (a = a' ∧ b = b' ∧ c = c' ∧ l = l')) := by
  unfold argosyref10_Same.f
  by_cases h1 : a = a'
  · rw [if_pos h1]
    by_cases h2 : b = b'
    · rw [if_pos h2]
      by_cases h3 : c = c'
      · rw [if_pos h3, Same_of hl hk, Option.bind_some]
        simp [h1, h2, h3]
      · rw [if_neg h3]; simp [h3]
    · rw [if_neg h2]; simp [h2]
  · rw [if_neg h1]; simp [h1]
theorem lives_is {k : Nat} (hk : 1000003 ≤ k) : argosylaw10_lives.f k = some true := by
  have hr : rightE 4 5 1 [2, 0] = true := by decide
  unfold argosylaw10_lives.f
  rw [Option.bind_some, eBytes_is (by omega) (by simp), if_pos hr, lvB, Option.bind_some, eRead_is (by intro x hx; simp at hx; omega) (by simp) (by omega), lvR]
  simp only [Option.bind_some]
  rw [rSame_is (by simp) (by omega), Option.bind_some, eText_is (by simp), if_pos hr, lvT, Option.bind_some, eCheck_is (by simp)]
  have t1 : (strOfNums [4, 5, 1, 2, 2, 0]).toList = ([4, 5, 1, 2, 2, 0] : List UInt8) := by rw [bytes_toList, son_data]; rfl
  have t2 : (strOfNums [117, 110, 100, 111, 32, 53, 46, 49, 32, 50, 32, 48]).toList = ([117, 110, 100, 111, 32, 53, 46, 49, 32, 50, 32, 48] : List UInt8) := by rw [bytes_toList, son_data]; rfl
  rw [if_pos t1, if_pos trivial, if_pos (by simp), if_pos trivial, if_pos t2]
  rfl

/-- What stands at the front of bytes, whatever stands behind. -/
theorem front_is {a b c : Int} {l : List Int} (h : rightE a b c l = true) (t : List Int) : rd (evB a b c l ++ t) 0 = a ∧ takeS (evB a b c l ++ t) 1 = (b, 1 + ((enc b.toNat).length : Int), 0) ∧
    (a > 3 → takeS (evB a b c l ++ t) (1 + ((enc b.toNat).length : Int)) = (c, 1 + ((enc b.toNat).length : Int) + ((enc c.toNat).length : Int), 0)) ∧ (TakesS (evB a b c l ++ t) ((headE a b c).length : Int)).1 = l ∧
    (headE a b c = a :: (enc b.toNat ++ if a > 3 then enc c.toNat else [])) ∧ (¬ a > 3 → c = 0) := by
  obtain ⟨hg, hc⟩ := right_facts h
  obtain ⟨h1, h2, h3⟩ := chk_facts hc
  obtain ⟨r, hr⟩ := encs_good h3
  have hb : 0 ≤ a ∧ a ≤ 6 ∧ 0 ≤ b ∧ b ≤ 64 ∧ 0 ≤ c ∧ c ≤ 64 := by unfold isStep isUndo at hg; omega
  have hH : headE a b c = a :: (enc b.toNat ++ if a > 3 then enc c.toNat else []) := by
    unfold headE
    rw [Int.emod_eq_of_lt hb.1 (by omega)]
    by_cases hu : isUndo a b c
    · rw [if_pos hu, if_pos (by unfold isUndo at hu; omega)]
    · rw [if_neg hu, if_neg (by unfold isStep isUndo at *; omega)]
  have hE : evB a b c l ++ t = [a] ++ (enc b.toNat ++ ((if a > 3 then enc c.toNat else []) ++ (enc l.length ++ (r ++ t)))) := by
    unfold evB bodyE
    rw [hH, hr]
    simp
  have t1 := takeS_back (b := [a]) (r := (if a > 3 then enc c.toNat else []) ++ (enc l.length ++ (r ++ t))) (n := b.toNat) (by omega)
  rw [← hE, show (([a] : List Int).length : Int) = 1 from rfl, show ((b.toNat : Nat) : Int) = b from by omega] at t1
  refine ⟨by rw [hE]; rfl, t1, ?_, ?_, hH, by unfold isStep isUndo at hg; omega⟩
  · intro ha
    rw [if_pos ha] at hE
    have t2 := takeS_back (b := [a] ++ enc b.toNat) (r := enc l.length ++ (r ++ t)) (n := c.toNat) (by omega)
    rw [List.append_assoc, ← hE, show ((([a] ++ enc b.toNat : List Int)).length : Int) = 1 + (enc b.toNat).length from by simp; omega, show ((c.toNat : Nat) : Int) = c from by omega] at t2
    exact t2
  · have t3 := TakesS_back (b := headE a b c) (post := t) hr (by omega)
    rw [show headE a b c ++ (enc l.length ++ (r ++ t)) = evB a b c l ++ t from by unfold evB bodyE; rw [hr]; simp] at t3
    rw [t3]
theorem evB_front {a b c a' b' c' : Int} {l l' t : List Int} (h : rightE a b c l = true) (h' : rightE a' b' c' l' = true) (he : evB a b c l ++ t = evB a' b' c' l') : t = [] := by
  obtain ⟨e1, e2, e3, e4, e5, e6⟩ := front_is h t
  obtain ⟨d1, d2, d3, d4, d5, d6⟩ := front_is h' []
  rw [List.append_nil] at d1 d2 d3 d4
  rw [he] at e1 e2 e3 e4
  have ha : a = a' := e1.symm.trans d1
  have hb : b = b' := by
    have := e2.symm.trans d2
    simp only [Prod.mk.injEq] at this
    exact this.1
  subst ha hb
  have hc : c = c' := by
    by_cases h3 : a > 3
    · have := (e3 h3).symm.trans (d3 h3)
      simp only [Prod.mk.injEq] at this
      exact this.1
    · rw [e6 h3, d6 h3]
  subst hc
  have hl : l = l' := e4.symm.trans d4
  subst hl
  exact List.append_right_eq_self.1 he
theorem read_bad {p : List Int} (hB : isB p) (h : ∀ a b c x, rightE a b c x = true → evB a b c x ≠ p) : readE p = badR := by
  rcases readE_once hB with h1 | ⟨a, b, c, x, -, h2, h3⟩
  · exact h1
  · exact absurd h3 (h a b c x h2)
theorem readE_len (l : List Int) : (readE l).2.2.2.1.length ≤ 1000000 := by
  have hs : ∀ e at_ a b c, (readS l e at_ a b c).2.2.2.1.length ≤ 1000000 := by
    intro e at_ a b c
    have := TakesS_len l at_
    unfold readS
    repeat' split
    all_goals simp [badR]
    omega
  unfold readE
  split
  · simp [badR]
  split
  · split <;> exact hs _ _ _ _ _
  · simp [badR]
theorem back_j1 {k : Nat} (hk : 1000003 ≤ k) {p : List Int} (hB : isB p) (hl : p.length ≤ 1000000) : argosylaw10_EventBack.j1 (k + 1) p = some true := by
  simp only [argosylaw10_EventBack.j1]
  rw [eRead_is hB hl hk, Option.bind_some, lives_is hk]
  rcases readE_once hB with h1 | ⟨a, b, c, x, h1, h2, h3⟩
  · rw [h1]
    unfold badR
    simp only
    rw [if_neg (by decide), rSame_is (by simp) (by omega), Option.bind_some, if_pos (by simp)]
    rfl
  · have hx : x.length ≤ 1000000 := by
      have := readE_len p
      rw [h1] at this
      exact this
    rw [h1]
    simp only
    rw [if_pos trivial, eBytes_is (by omega) hx, if_pos h2, Option.bind_some, h3]
    simp only [if_true]
    rfl
theorem EventBack_at {a b c : Int} {l p : List Int} {m : Int} (hB : isB p) (hp : (p.length : Int) ≤ 5000) (hl : ¬ (l.length : Int) > 300) (hm : 0 ≤ m ∧ m < 256) : argosylaw10_EventBack.j0 1000010 p m false a b c l = some true := by
  have hj : argosylaw10_EventBack.j1 1000009 p = some true := back_j1 (k := 1000008) (by omega) hB (by omega)
  rw [argosylaw10_EventBack.j0, if_neg (by decide), eBytes_is (by omega) (by omega), Option.bind_some, hj]
  by_cases hr : rightE a b c l = true
  · have hlen := evB_len hr
    have hI := evB_isB hr
    have hne : 1 ≤ (evB a b c l).length := by unfold evB headE; simp
    rw [if_pos hr, if_pos rfl, if_neg (by simp only; omega), eRead_is hI (by omega) (by omega), readE_back hr]
    simp only [Option.bind_some]
    rw [w64 (by omega), if_pos (by omega), if_pos (by omega), show (((evB a b c l).length : Int) - 1).toNat = (evB a b c l).length - 1 from by omega, eRead_is (isB_take hI _) (by simp; omega) (by omega)]
    have hcut : readE ((evB a b c l).take ((evB a b c l).length - 1)) = badR := by
      refine read_bad (isB_take hI _) fun a' b' c' x' hr' he => ?_
      have := evB_front (t := (evB a b c l).drop ((evB a b c l).length - 1)) hr' hr (by rw [he, List.take_append_drop])
      have h2 := congrArg List.length this
      rw [List.length_drop] at h2
      simp at h2
      omega
    have hmore : readE (evB a b c l ++ [m]) = badR := by
      refine read_bad (isB_append hI (by intro x hx; simp at hx; omega)) fun a' b' c' x' hr' he => ?_
      have := evB_front (t := [m]) hr hr' he.symm
      simp at this
    rw [hcut]
    simp only [Option.bind_some, List.nil_append]
    rw [if_pos (by simp; omega), if_pos (by omega), eRead_is (isB_append hI (by intro x hx; simp at hx; omega)) (by simp; omega) (by omega), hmore]
    unfold badR
    simp only [Option.bind_some]
    rw [rSame_is (by omega) (by omega), Option.bind_some, if_pos (by simp), if_pos trivial, if_pos trivial, if_pos trivial]
  · rw [if_neg hr, if_neg (by decide), eText_is (by omega), if_neg hr, Option.bind_some, if_pos (by rfl), if_pos rfl, if_pos (by rw [bytes_toList, son_data]; rfl)]
theorem EventBack : argosylaw10_EventBack.Pure := fun a b c l p m _ _ _ hw hm => ⟨1000010, by
  have hB := isB_of_wf hw
  unfold argosylaw10_EventBack.f
  have ht : argosylaw10_EventBack.j0 1000010 p m true a b c l = some true := by
    rw [argosylaw10_EventBack.j0, if_pos rfl, lives_is (by omega)]
    rfl
  by_cases h1 : (l.length : Int) > 300
  · rw [if_pos h1]; exact ht
  rw [if_neg h1]
  by_cases h2 : (p.length : Int) > 5000
  · rw [decide_eq_true h2]; exact ht
  rw [decide_eq_false h2]
  exact EventBack_at hB (by omega) h1 (isB_of_wf (l := [m]) (by intro x hx; simp at hx; rw [hx]; exact hm) m (by simp))⟩

end Go.Proofs.YtclkdnpfiolahaaDoor.Pure
