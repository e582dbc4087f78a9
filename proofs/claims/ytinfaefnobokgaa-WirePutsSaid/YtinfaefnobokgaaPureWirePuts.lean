/- Any number, and any list, is put by the program as the reference says; what stands behind the slice that is handed in stays: no condition. -/
import Derived.Test.YtinfaefnobokgaaPWirePutsx3
set_option linter.unusedVariables false
set_option linter.unusedSimpArgs false
namespace Go.Proofs.Ytinfaefnobokgaa.Pure
open Go.RowKit Go.Proofs.Ytinfaefnobokgaa.PWirePuts Go.Proofs.YtinfaefnobokgaaW.PrintWords Go.Proofs.YtinfaefnobokgaaW.PrintLast Go.Proofs.YtinfaefnobokgaaW.PrintMore

/-! ### Bytes -/
def isB (l : List Int) : Prop := ∀ x ∈ l, 0 ≤ x ∧ x < 256
theorem isB_of_wf {l : List Int} (h : ∀ x ∈ l, (Lit.int .u8 x).wf = true) : isB l := by
  intro x hx
  have := h x hx
  simp [Lit.wf, IntKind.min, IntKind.max, IntKind.bits, IntKind.signed] at this
  omega
theorem i64_of_wf {x : Int} (h : (Lit.int .i64 x).wf = true) : -9223372036854775808 ≤ x ∧ x ≤ 9223372036854775807 := by
  simp [Lit.wf, IntKind.min, IntKind.max, IntKind.bits, IntKind.signed] at h
  omega
theorem toList_loop (s : ByteArray) : ∀ (d i : Nat) (r : List UInt8), s.size - i = d → ByteArray.toList.loop s i r = r.reverse ++ s.data.toList.drop i := by
  intro d
  have hl : s.data.toList.length = s.size := Array.length_toList
  induction d with
  | zero =>
    intro i r h
    unfold ByteArray.toList.loop
    rw [if_neg (by omega), List.drop_eq_nil_of_le (by omega), List.append_nil]
  | succ d ih =>
    intro i r h
    unfold ByteArray.toList.loop
    rw [if_pos (by omega), ih (i + 1) _ (by omega)]
    have hi : i < s.data.toList.length := by omega
    rw [List.drop_eq_getElem_cons hi, List.reverse_cons, List.append_assoc]
    have : s.get! i = s.data.toList[i] := by
      have hs : i < s.size := by omega
      simp [ByteArray.get!, getElem!_pos, hs]
    rw [this]; rfl
theorem bytes_toList (s : ByteArray) : s.toList = s.data.toList := by
  unfold ByteArray.toList
  rw [toList_loop s _ 0 [] rfl]
  simp
theorem bytes_ext {a b : ByteArray} (h : a.toList = b.toList) : a = b := by
  rw [bytes_toList, bytes_toList] at h
  cases a; cases b
  congr 1
  exact Array.toList_inj.1 h
theorem son_data (xs : List Int) : (strOfNums xs).data.toList = xs.map fun n => UInt8.ofNat n.toNat := by simp [strOfNums]
theorem son_size (xs : List Int) : (strOfNums xs).size = xs.length := by simp [strOfNums, ByteArray.size]
theorem son_append (xs ys : List Int) : strOfNums (xs ++ ys) = strOfNums xs ++ strOfNums ys := by
  apply bytes_ext
  rw [bytes_toList, bytes_toList, son_data]
  simp [strOfNums]
theorem son_nil : strOfNums [] = (⟨#[]⟩ : ByteArray) := rfl
theorem u8_inj {a b : Int} (ha : 0 ≤ a ∧ a < 256) (hb : 0 ≤ b ∧ b < 256) (h : UInt8.ofNat a.toNat = UInt8.ofNat b.toNat) : a = b := by
  have := congrArg UInt8.toNat h
  simp [UInt8.toNat_ofNat'] at this
  omega
theorem map_u8_inj : ∀ {xs ys : List Int}, isB xs → isB ys → (xs.map fun n => UInt8.ofNat n.toNat) = (ys.map fun n => UInt8.ofNat n.toNat) → xs = ys
  | [], [], _, _, _ => rfl
  | [], y :: ys, _, _, h => by simp at h
  | x :: xs, [], _, _, h => by simp at h
  | x :: xs, y :: ys, hx, hy, h => by
    simp only [List.map_cons, List.cons.injEq] at h
    rw [u8_inj (hx x (by simp)) (hy y (by simp)) h.1, map_u8_inj (fun z hz => hx z (by simp [hz])) (fun z hz => hy z (by simp [hz])) h.2]
theorem son_inj {xs ys : List Int} (hx : isB xs) (hy : isB ys) (h : strOfNums xs = strOfNums ys) : xs = ys := by
  have := congrArg (fun s : ByteArray => s.data.toList) h
  simp only [son_data] at this
  exact map_u8_inj hx hy this
theorem son_toList_inj {xs ys : List Int} (hx : isB xs) (hy : isB ys) : (strOfNums xs).toList = (strOfNums ys).toList ↔ xs = ys :=
  ⟨fun h => son_inj hx hy (bytes_ext h), fun h => by rw [h]⟩
theorem son_bt {xs : List Int} (hx : isB xs) (i : Int) (h0 : 0 ≤ i) (h : i < xs.length) : bt (strOfNums xs) i = rd xs i := by
  have hi : i.toNat < xs.length := by omega
  unfold bt rd
  rw [dif_pos (by rw [son_size]; exact hi)]
  have hg : (strOfNums xs)[i.toNat]'(by rw [son_size]; exact hi) = UInt8.ofNat (xs[i.toNat]).toNat := by
    show (strOfNums xs).data[i.toNat]'_ = _
    simp [strOfNums]
  rw [hg, List.getD_eq_getElem?_getD, List.getElem?_eq_getElem hi]
  have := hx _ (List.getElem_mem hi)
  simp [UInt8.toNat_ofNat']
  omega
theorem son_extract (xs : List Int) (a b : Nat) : (strOfNums xs).extract a b = strOfNums ((xs.take b).drop a) := by
  apply bytes_ext
  rw [bytes_toList, bytes_toList, son_data]
  simp [strOfNums, ByteArray.data_extract, List.drop_take, List.map_take, List.map_drop, List.extract]
theorem isB_append {xs ys : List Int} (hx : isB xs) (hy : isB ys) : isB (xs ++ ys) := by
  intro z hz
  rcases List.mem_append.1 hz with h | h
  · exact hx z h
  · exact hy z h
theorem isB_take {xs : List Int} (h : isB xs) (n : Nat) : isB (xs.take n) := fun z hz => h z (List.mem_of_mem_take hz)
theorem isB_drop {xs : List Int} (h : isB xs) (n : Nat) : isB (xs.drop n) := fun z hz => h z (List.mem_of_mem_drop hz)
theorem rd_at {xs : List Int} (i : Int) (h0 : 0 ≤ i) (h : i < xs.length) : rd xs i = xs[i.toNat]'(by omega) := by
  unfold rd
  rw [List.getD_eq_getElem?_getD, List.getElem?_eq_getElem (by omega)]; rfl
theorem rd_isB {xs : List Int} (hx : isB xs) (i : Int) (h0 : 0 ≤ i) (h : i < xs.length) : 0 ≤ rd xs i ∧ rd xs i < 256 := by
  rw [rd_at i h0 h]
  exact hx _ (List.getElem_mem _)
theorem w64 {x : Int} (h : -9223372036854775808 ≤ x ∧ x ≤ 9223372036854775807) : wrap64 x = x := by
  unfold wrap64
  omega

/-! ### Numbers as few bytes -/
def enc (n : Nat) : List Int := if n < 128 then [(n : Int)] else ((128 + n % 128 : Nat) : Int) :: enc (n / 128)
termination_by n
decreasing_by omega
theorem enc_lt {n : Nat} (h : n < 128) : enc n = [(n : Int)] := by rw [enc, if_pos h]
theorem enc_ge {n : Nat} (h : ¬ n < 128) : enc n = ((128 + n % 128 : Nat) : Int) :: enc (n / 128) := by rw [enc, if_neg h]
theorem enc_isB (n : Nat) : isB (enc n) := by
  induction n using Nat.strongRecOn with
  | _ n ih =>
    by_cases h : n < 128
    · rw [enc_lt h]
      intro x hx
      simp at hx
      omega
    · rw [enc_ge h]
      intro x hx
      rcases List.mem_cons.1 hx with rfl | hx
      · omega
      · exact ih (n / 128) (by omega) x hx
theorem enc_len : ∀ (d n : Nat), n < 128 ^ (d + 1) → 1 ≤ (enc n).length ∧ (enc n).length ≤ d + 1
  | 0, n, h => by rw [enc_lt (by simpa using h)]; simp
  | d + 1, n, h => by
    by_cases hn : n < 128
    · rw [enc_lt hn]; simp
    · rw [enc_ge hn]
      have := enc_len d (n / 128) (by rw [Nat.pow_succ] at h; omega)
      simp; omega
theorem enc_small {n : Nat} (h : n ≤ 1099511627776) : 1 ≤ (enc n).length ∧ (enc n).length ≤ 6 := enc_len 5 n (by omega)
theorem enc_zero : ∀ (n : Nat) (q : List Int), enc n = q ++ [0] → q = [] := by
  intro n
  induction n using Nat.strongRecOn with
  | _ n ih =>
    intro q h
    by_cases hn : n < 128
    · rw [enc_lt hn] at h
      cases q with
      | nil => rfl
      | cons x q => simp at h
    · rw [enc_ge hn] at h
      cases q with
      | nil => rfl
      | cons x q =>
        simp only [List.cons_append, List.cons.injEq] at h
        have hq := ih (n / 128) (by omega) q h.2
        subst hq
        have h2 := h.2
        by_cases hm : n / 128 < 128
        · rw [enc_lt hm] at h2
          simp at h2
          omega
        · rw [enc_ge hm] at h2
          have hl := (enc_len (n / 128) (n / 128 / 128) (Nat.lt_of_lt_of_le (Nat.lt_pow_self (by omega)) (Nat.pow_le_pow_right (by omega) (by omega)))).1
          simp at h2
          rw [h2.2] at hl
          simp at hl
def valI : List Int → Int
  | [] => 0
  | c :: r => c % 128 + 128 * valI r
theorem valI_snoc : ∀ (p : List Int) (c : Int), valI (p ++ [c]) = valI p + (c % 128) * 128 ^ p.length
  | [], c => by simp [valI]
  | x :: p, c => by
    simp only [List.cons_append, valI, valI_snoc p c, List.length_cons, Int.pow_succ, Int.mul_add]
    rw [Int.add_assoc]
    congr 2
    rw [← Int.mul_assoc, Int.mul_comm 128 (c % 128), Int.mul_assoc, Int.mul_comm 128]
theorem valI_nonneg : ∀ p : List Int, 0 ≤ valI p
  | [] => Int.le_refl _
  | x :: p => by have := valI_nonneg p; simp only [valI]; omega
theorem enc_valI : ∀ (p : List Int) (c : Int), (∀ x ∈ p, 128 ≤ x ∧ x < 256) → 0 ≤ c → c < 128 → (p = [] ∨ 0 < c) → enc (valI (p ++ [c])).toNat = p ++ [c] ∧ (0 < c → 0 < valI (p ++ [c]))
  | [], c, _, h0, h1, _ => by
    have : valI ([] ++ [c]) = c := by simp [valI]; omega
    rw [this, enc_lt (by omega)]
    exact ⟨by simp; omega, fun h => h⟩
  | x :: p, c, hp, h0, h1, hc => by
    have hc' : 0 < c := by rcases hc with h | h; · cases h
                           · exact h
    have ih := enc_valI p c (fun z hz => hp z (by simp [hz])) h0 h1 (.inr hc')
    have hpos := ih.2 hc'
    have hx := hp x (by simp)
    have hv : valI (x :: p ++ [c]) = x % 128 + 128 * valI (p ++ [c]) := rfl
    have hge : ¬ (valI (x :: p ++ [c])).toNat < 128 := by rw [hv]; omega
    refine ⟨?_, fun _ => by rw [hv]; omega⟩
    rw [enc_ge hge]
    have h2 : (valI (x :: p ++ [c])).toNat / 128 = (valI (p ++ [c])).toNat := by rw [hv]; omega
    rw [h2, ih.1]
    simp only [List.cons_append, List.cons.injEq, and_true]
    have h3 : (valI (x :: p ++ [c])).toNat % 128 = (x % 128).toNat := by rw [hv]; omega
    rw [List.cons_append] at h3
    rw [h3]
    omega
theorem wraps_i64 (n : Int) (h0 : 0 ≤ n) (h1 : n < 2 ^ 62) : IntKind.i64.wrap n = n := by rw [IntKind.wrap_i64]; omega
theorem and127 {x : Int} (h0 : 0 ≤ x) (h1 : x < 2 ^ 62) : Go.bits .and .i64 x 127 = x % 128 := bits_mask .i64 62 (by decide) wraps_i64 7 (by decide) x h0 h1
theorem or_flip {x y : Int} (hx : 0 ≤ x ∧ x < 2 ^ 62) (hy : 0 ≤ y ∧ y < 2 ^ 62) : Go.bits .or .i64 x y = Go.bits .or .i64 y x := by
  obtain ⟨a, rfl⟩ := Int.eq_ofNat_of_zero_le hx.1
  obtain ⟨b, rfl⟩ := Int.eq_ofNat_of_zero_le hy.1
  have ha : a < 2 ^ 62 := by exact_mod_cast hx.2
  have hb : b < 2 ^ 62 := by exact_mod_cast hy.2
  have h1 := bits_nat .i64 62 (by decide) wraps_i64 a b ha hb
  have h2 := bits_nat .i64 62 (by decide) wraps_i64 b a hb ha
  rw [h1.2, h2.2, Nat.or_comm]
theorem or128 {y : Int} (h0 : 0 ≤ y) (h1 : y < 128) : Go.bits .or .i64 y 128 = 128 + y := by
  rw [or_flip (by omega) (by omega)]
  exact bits_join .i64 62 (by decide) wraps_i64 7 128 y (by omega) (by decide) (by omega) h0 h1 (by omega)
theorem put_byte {x : Int} (h0 : 0 ≤ x) (h1 : x < 2 ^ 62) : (Go.bits .or .i64 (Go.bits .and .i64 x 127) 128) % 256 = 128 + x % 128 := by
  rw [and127 h0 h1, or128 (by omega) (by omega)]
  omega
theorem put_loop : ∀ (d k : Nat) (l : List Int) (n : Nat), n < 128 ^ (d + 1) → d < k → l.length + d < 140737488355328 → d ≤ 7 → wire_put.l0 k l n = some (l ++ enc n)
  | d, k, l, n, hn, hk, hl, hd => by
    obtain ⟨k, rfl⟩ : ∃ m, k = m + 1 := ⟨k - 1, by omega⟩
    simp only [wire_put.l0]
    have hbig : n < 2 ^ 62 := by
      have : 128 ^ (d + 1) ≤ 128 ^ 8 := Nat.pow_le_pow_right (by omega) (by omega)
      omega
    by_cases h : n < 128
    · rw [if_neg (by omega), if_pos (by omega), enc_lt h]
      congr 3
      omega
    · cases d with
      | zero => simp at hn; omega
      | succ d =>
        rw [if_pos (by omega), if_pos (by omega), put_byte (by omega) (by omega), enc_ge h]
        have hb : (n : Int) / 128 = ((n / 128 : Nat) : Int) := by omega
        rw [hb, put_loop d k _ (n / 128) (by rw [Nat.pow_succ] at hn; omega) (by omega) (by simp; omega) (by omega)]
        simp
theorem is_in {n : Int} (h0 : 0 ≤ n) (h1 : n ≤ 1099511627776) : wire_is.f n = some true := by unfold wire_is.f; rw [if_pos h0, decide_eq_true h1]
theorem is_out {n : Int} (h : ¬ (0 ≤ n ∧ n ≤ 1099511627776)) : wire_is.f n = some false := by
  unfold wire_is.f
  by_cases h0 : n ≥ 0
  · rw [if_pos h0, decide_eq_false (by omega)]
  · rw [if_neg h0]
theorem put_ok {k : Nat} {l : List Int} {n : Int} (h0 : 0 ≤ n) (h1 : n ≤ 1099511627776) (hl : l.length ≤ 140737488355000) (hk : 6 ≤ k) : wire_put.f k l n = some (l ++ enc n.toNat) := by
  have := put_loop 5 k l n.toNat (by omega) (by omega) (by omega) (by omega)
  rw [Int.toNat_of_nonneg h0] at this
  exact this
theorem Put_ok {k : Nat} {l : List Int} {n : Int} (h0 : 0 ≤ n) (h1 : n ≤ 1099511627776) (hl : l.length ≤ 140737488355000) (hk : 6 ≤ k) : wire_Put.f k l n = some (l ++ enc n.toNat, 0) := by
  unfold wire_Put.f wire_putF.f
  rw [is_in h0 h1]
  simp only [Option.bind_some, if_true]
  rw [if_pos (by omega), if_pos (Int.le_refl _), show ((l.length : Int) : Int).toNat = l.length from by omega, List.take_length, put_ok h0 h1 hl hk]
  rfl
theorem Put_bad {k : Nat} {l : List Int} {n : Int} (h : ¬ (0 ≤ n ∧ n ≤ 1099511627776)) : wire_Put.f k l n = some ([], 2) := by
  unfold wire_Put.f
  rw [is_out h]
  rfl
/-- The bytes of numbers, one behind the other; none: one is none. -/
def encs : List Int → Option (List Int)
  | [] => some []
  | n :: l => if 0 ≤ n ∧ n ≤ 1099511627776 then (encs l).map (enc n.toNat ++ ·) else none
theorem Puts_loop (l : List Int) (hl : l.length ≤ 1000) : ∀ (d k i : Nat) (b : List Int), i + d = l.length → d + 7 ≤ k → b.length + 6 * d ≤ 140737488355000 →
    wire_Puts.l0 k b l (l.length : Int) (i : Int) = some (match encs (l.drop i) with | some r => (b ++ r, 0) | none => ([], 2)) := by
  intro d
  induction d with
  | zero =>
    intro k i b hi hk hb
    obtain ⟨k, rfl⟩ : ∃ m, k = m + 1 := ⟨k - 1, by omega⟩
    simp only [wire_Puts.l0]
    rw [if_neg (by omega), List.drop_eq_nil_of_le (by omega)]
    simp [encs]
  | succ d ih =>
    intro k i b hi hk hb
    obtain ⟨k, rfl⟩ : ∃ m, k = m + 1 := ⟨k - 1, by omega⟩
    simp only [wire_Puts.l0]
    have hlt : i < l.length := by omega
    rw [if_pos (by omega), if_pos (by omega), if_pos (by omega), List.drop_eq_getElem_cons hlt]
    have hr : rd l (i : Int) = l[i] := by rw [rd_at _ (by omega) (by omega)]; rfl
    rw [hr]
    by_cases h : 0 ≤ l[i] ∧ l[i] ≤ 1099511627776
    · rw [is_in h.1 h.2]
      simp only [Option.bind_some, if_true]
      rw [put_ok h.1 h.2 (by omega) (by omega)]
      simp only [Option.bind_some]
      rw [w64 (by omega)]
      have hlen := (enc_small (n := l[i].toNat) (by omega)).2
      have := ih k (i + 1) (b ++ enc l[i].toNat) (by omega) (by omega) (by simp; omega)
      rw [show ((i : Int) + 1) = ((i + 1 : Nat) : Int) from by omega, this]
      simp only [encs, if_pos h]
      cases encs (l.drop (i + 1)) <;> simp
    · rw [is_out h]
      simp only [encs, if_neg h]
      rfl
theorem Puts_is {k : Nat} {b l : List Int} (hk : 300 ≤ k) (hb : b.length ≤ 140737488350000) :
    wire_Puts.f k b l = some ((if l.length ≤ 255 then (match encs l with | some r => (b ++ enc l.length ++ r, 0) | none => ([], 2)) else ([], 5)) : List Int × Int) := by
  unfold wire_Puts.f wire_putF.f
  by_cases h : l.length ≤ 255
  · rw [if_neg (by omega), if_pos (by omega), if_pos (Int.le_refl _), show ((b.length : Int) : Int).toNat = b.length from by omega, List.take_length, put_ok (by omega) (by omega) (by omega) (by omega)]
    simp only [Option.bind_some, Int.toNat_natCast]
    have hlen := (enc_small (n := l.length) (by omega)).2
    have := Puts_loop l (by omega) l.length k 0 (b ++ enc l.length) (by omega) (by omega) (by simp; omega)
    rw [show ((0 : Nat) : Int) = 0 from rfl] at this
    rw [this, if_pos h]
    simp
  · rw [if_pos (by omega), if_neg h]
/-! ### Numbers that are taken -/
def tk : Nat → Nat → Int → List Int → Int × Int × Int
  | 0, _, _, _ => (0, 0, 4)
  | _ + 1, _, _, [] => (0, 0, 3)
  | d + 1, i, acc, c :: r => if c < 128 then (if acc + c * 128 ^ i ≤ 1099511627776 ∧ ¬ (0 < i ∧ c = 0) then (acc + c * 128 ^ i, (i : Int) + 1, 0) else (0, 0, 4)) else tk d (i + 1) (acc + (c - 128) * 128 ^ i) r
def fin (at_ : Int) (t : Int × Int × Int) : Int × Int × Int := if t.2.2 = 0 then (t.1, at_ + t.2.1, 0) else (0, 0, t.2.2)
/-- What is told of the number at a place. -/
def takeS (l : List Int) (at_ : Int) : Int × Int × Int := if at_ < 0 ∨ at_ > l.length then (0, 0, 2) else fin at_ (tk 6 0 0 (l.drop at_.toNat))
theorem wraps8 (n : Int) (h0 : 0 ≤ n) (h1 : n < 2 ^ 8) : IntKind.u8.wrap n = n := by rw [IntKind.wrap_u8]; omega
theorem and127_8 {c : Int} (h : 0 ≤ c ∧ c < 256) : Go.bits .and .u8 c 127 = c % 128 := bits_mask .u8 8 (by decide) wraps8 7 (by decide) c h.1 (by omega)
theorem pow128 {i : Nat} (h : i ≤ 6) : (128 : Int) ^ i = 1 ∨ (128 : Int) ^ i = 128 ∨ (128 : Int) ^ i = 16384 ∨ (128 : Int) ^ i = 2097152 ∨ (128 : Int) ^ i = 268435456 ∨ (128 : Int) ^ i = 34359738368 ∨ (128 : Int) ^ i = 4398046511104 := by
  obtain rfl | rfl | rfl | rfl | rfl | rfl | rfl : i = 0 ∨ i = 1 ∨ i = 2 ∨ i = 3 ∨ i = 4 ∨ i = 5 ∨ i = 6 := by omega
  all_goals simp
theorem shl_or {i : Nat} (hi : i ≤ 5) {acc c : Int} (h0 : 0 ≤ acc) (h1 : acc < 128 ^ i) (hc : 0 ≤ c ∧ c < 256) :
    Go.bits .or .i64 acc (shl .i64 (wrap64 (Go.bits .and .u8 c 127)) (wrap64 (7 * (i : Int)))) = acc + (c % 128) * 128 ^ i := by
  rw [and127_8 hc, w64 (by omega), w64 (by omega)]
  have hm : 0 ≤ c % 128 ∧ c % 128 < 128 := by omega
  have hs : shl .i64 (c % 128) (7 * (i : Int)) = (c % 128) * 128 ^ i := by
    unfold shl
    rw [show (7 * (i : Int)).toNat = 7 * i from by omega, Nat.min_eq_left (by simp [IntKind.bits]; omega), show ((2 : Int) ^ (7 * i)) = 128 ^ i from by rw [Int.pow_mul]; rfl]
    apply wraps_i64
    · rcases pow128 (i := i) (by omega) with h | h | h | h | h | h | h <;> rw [h] <;> omega
    · rcases pow128 (i := i) (by omega) with h | h | h | h | h | h | h <;> rw [h] <;> omega
  have hb : 0 ≤ (c % 128) * 128 ^ i ∧ (c % 128) * 128 ^ i < 2 ^ 62 ∧ acc < 2 ^ 62 := by
    rcases pow128 (i := i) (by omega) with h | h | h | h | h | h | h <;> rw [h] at h1 ⊢ <;> omega
  rw [hs, or_flip (by omega) (by omega), Int.add_comm]
  have hp : (2 : Int) ^ (7 * i) = 128 ^ i := by rw [Int.pow_mul]; rfl
  exact bits_join .i64 62 (by decide) wraps_i64 (7 * i) _ _ hb.1 (by rw [hp]; exact Int.mul_emod_left _ _) hb.2.1 h0 (by rw [hp]; exact h1) hb.2.2
theorem take_round (x0 : List Int) (x1 : Int) (y : List Int) (hy : isB y) (hlen : (y.length : Int) = x0.length - x1) (hx : 0 ≤ x1) (hbig : x0.length ≤ 140737488355328)
    (i k : Nat) (acc : Int) (hd : i ≤ 5) (h0 : 0 ≤ acc) (h1 : acc < 128 ^ i) (hlt : i < y.length) : wire_Take.l0 (k + 2) x0 x1 acc y (y.length : Int) (i : Int) =
      if y[i] < 128 then some (fin x1 (if acc + y[i] * 128 ^ i ≤ 1099511627776 ∧ ¬ (0 < i ∧ y[i] = 0) then (acc + y[i] * 128 ^ i, (i : Int) + 1, 0) else (0, 0, 4)))
      else if i = 5 then some (0, 0, 4) else wire_Take.l0 k x0 x1 (acc + (y[i] - 128) * 128 ^ i) y (y.length : Int) ((i + 1 : Nat) : Int) := by
  have hc := rd_isB hy (i : Int) (by omega) (by omega)
  have hr : rd y (i : Int) = y[i] := by rw [rd_at _ (by omega) (by omega)]; rfl
  have hN := shl_or (i := i) (by omega) h0 h1 hc
  have hp := pow128 (i := i) (by omega)
  rw [← hr]
  simp only [wire_Take.l0]
  generalize rd y (i : Int) = c at *
  rw [if_pos (by omega), if_pos (by omega), if_pos (by omega), if_pos (by rw [w64 (by omega)]; omega), hN]
  by_cases hc1 : c < 128
  · have he : c % 128 = c := by omega
    have hnn : 0 ≤ acc + c * 128 ^ i := by rcases hp with h | h | h | h | h | h | h <;> rw [h] <;> omega
    rw [if_pos hc1, if_pos hc1, he]
    have hfin : fin x1 (acc + c * 128 ^ i, (i : Int) + 1, 0) = (acc + c * 128 ^ i, x1 + ((i : Int) + 1), 0) := rfl
    by_cases hm : acc + c * 128 ^ i ≤ 1099511627776
    · rw [is_in hnn hm]
      simp only [Option.bind_some, if_true]
      by_cases hz : 0 < i ∧ c = 0
      · rw [if_neg (show ¬ (acc + c * 128 ^ i ≤ 1099511627776 ∧ ¬ (0 < i ∧ c = 0)) from fun h => h.2 hz), if_pos (show (i : Int) > 0 by omega)]
        simp only [wire_Take.j2]
        rw [if_pos (by simp [hz.2])]
        rfl
      · rw [if_pos (show acc + c * 128 ^ i ≤ 1099511627776 ∧ ¬ (0 < i ∧ c = 0) from ⟨hm, hz⟩), hfin]
        by_cases hi0 : (i : Int) > 0
        · rw [if_pos hi0]
          simp only [wire_Take.j2]
          rw [if_neg (by simp; omega), if_pos hc1, w64 (x := x1 + i) (by omega), w64 (by omega), Int.add_assoc]
        · rw [if_neg hi0]
          simp only [wire_Take.j2, Bool.false_eq_true, if_false]
          rw [if_pos hc1, w64 (x := x1 + i) (by omega), w64 (by omega), Int.add_assoc]
    · rw [is_out (by omega)]
      simp only [Option.bind_some, Bool.false_eq_true, if_false, wire_Take.j2, if_true]
      rw [if_neg (by omega)]
      rfl
  · have he : c % 128 = c - 128 := by omega
    rw [if_neg hc1, if_neg hc1, he]
    simp only [wire_Take.j2, Bool.false_eq_true, if_false]
    rw [if_neg hc1]
    by_cases h5 : i = 5
    · rw [if_pos (by omega), if_pos h5, if_pos (by rw [w64 (by omega)]; omega)]
    · rw [if_neg (by omega), if_neg h5, w64 (by omega)]
      rfl
theorem take_loop (x0 : List Int) (x1 : Int) (y : List Int) (hy : isB y) (hlen : (y.length : Int) = x0.length - x1) (hx : 0 ≤ x1) (hbig : x0.length ≤ 140737488355328) :
    ∀ (d i k : Nat) (acc : Int), i + d = 5 → 0 ≤ acc → acc < 128 ^ i → i ≤ y.length → 2 * d + 2 ≤ k → wire_Take.l0 k x0 x1 acc y (y.length : Int) (i : Int) = some (fin x1 (tk (d + 1) i acc (y.drop i))) := by
  intro d
  induction d with
  | zero =>
    intro i k acc hd h0 h1 hi hk
    obtain ⟨k, rfl⟩ : ∃ m, k = m + 2 := ⟨k - 2, by omega⟩
    by_cases hlt : i < y.length
    · rw [take_round x0 x1 y hy hlen hx hbig i k acc (by omega) h0 h1 hlt, List.drop_eq_getElem_cons hlt]
      simp only [tk]
      by_cases hc : y[i] < 128
      · rw [if_pos hc, if_pos hc]
      · rw [if_neg hc, if_neg hc, if_pos (by omega)]; rfl
    · rw [List.drop_eq_nil_of_le (by omega)]
      simp only [wire_Take.l0, tk]
      rw [if_neg (by omega), if_neg (by rw [w64 (by omega)]; omega)]
      rfl
  | succ d ih =>
    intro i k acc hd h0 h1 hi hk
    obtain ⟨k, rfl⟩ : ∃ m, k = m + 2 := ⟨k - 2, by omega⟩
    by_cases hlt : i < y.length
    · rw [take_round x0 x1 y hy hlen hx hbig i k acc (by omega) h0 h1 hlt, List.drop_eq_getElem_cons hlt]
      have hb := hy _ (List.getElem_mem hlt)
      simp only [tk]
      by_cases hc : y[i] < 128
      · rw [if_pos hc, if_pos hc]
      · rw [if_neg hc, if_neg hc, if_neg (by omega)]
        have hp := pow128 (i := i) (by omega)
        have hp1 : (128 : Int) ^ (i + 1) = 128 * 128 ^ i := by rw [Int.pow_succ, Int.mul_comm]
        refine ih (i + 1) k _ (by omega) ?_ ?_ (by omega) (by omega)
        · rcases hp with h | h | h | h | h | h | h <;> rw [h] <;> omega
        · rw [hp1]
          rcases hp with h | h | h | h | h | h | h <;> rw [h] at h1 ⊢ <;> omega
    · rw [List.drop_eq_nil_of_le (by omega)]
      simp only [wire_Take.l0, tk]
      rw [if_neg (by omega), if_neg (by rw [w64 (by omega)]; omega)]
      rfl
theorem Take_is {k : Nat} {l : List Int} {a : Int} (hl : isB l) (hbig : l.length ≤ 140737488355328) (hk : 14 ≤ k) : wire_Take.f k l a = some (takeS l a) := by
  obtain ⟨k, rfl⟩ : ∃ m, k = m + 1 := ⟨k - 1, by omega⟩
  unfold wire_Take.f takeS
  by_cases h0 : a < 0
  · rw [if_pos h0, if_pos (.inl h0)]
    simp [wire_Take.j0]
  · rw [if_neg h0]
    by_cases h1 : a > l.length
    · rw [if_pos (.inr h1), decide_eq_true h1]
      simp [wire_Take.j0]
    · rw [if_neg (by omega), decide_eq_false h1]
      simp only [wire_Take.j0, Bool.false_eq_true, if_false]
      rw [if_pos (by omega), if_pos (by omega)]
      simp only [Option.bind_some]
      have := take_loop l a (l.drop a.toNat) (isB_drop hl _) (by rw [List.length_drop]; omega) (by omega) hbig 5 0 k 0 (by omega) (by omega) (by simp) (by omega) (by omega)
      rw [List.drop_zero] at this
      exact this
/-- What is told of a list of so many numbers. -/
def takesS (l : List Int) : Nat → Int → List Int → List Int × Int × Int
  | 0, at_, out => (out, at_, 0)
  | n + 1, at_, out => if (takeS l at_).2.2 = 0 then takesS l n (takeS l at_).2.1 (out ++ [(takeS l at_).1]) else ([], 0, (takeS l at_).2.2)
def TakesS (l : List Int) (at_ : Int) : List Int × Int × Int :=
  if (takeS l at_).2.2 = 0 then (if (takeS l at_).1 > 255 then ([], 0, 5) else takesS l (takeS l at_).1.toNat (takeS l at_).2.1 []) else ([], 0, (takeS l at_).2.2)
theorem Takes_loop {l : List Int} (hl : isB l) (hbig : l.length ≤ 140737488355328) (n : Nat) (hn : n ≤ 255) : ∀ (d k i : Nat) (a : Int) (out : List Int), i + d = n → d + 15 ≤ k → out.length = i →
    wire_Takes.l0 k l a out (n : Int) (i : Int) = some (takesS l d a out) := by
  intro d
  induction d with
  | zero =>
    intro k i a out hi hk ho
    obtain ⟨k, rfl⟩ : ∃ m, k = m + 1 := ⟨k - 1, by omega⟩
    simp only [wire_Takes.l0, takesS]
    rw [if_neg (by omega)]
  | succ d ih =>
    intro k i a out hi hk ho
    obtain ⟨k, rfl⟩ : ∃ m, k = m + 1 := ⟨k - 1, by omega⟩
    simp only [wire_Takes.l0, takesS]
    rw [if_pos (by omega), Take_is hl hbig (by omega)]
    simp only [Option.bind_some]
    by_cases h : (takeS l a).2.2 = 0
    · rw [if_pos h, if_pos h, if_pos (by omega), w64 (by omega)]
      exact ih k (i + 1) _ _ (by omega) (by omega) (by simp [ho])
    · rw [if_neg h, if_neg h]
theorem tk_nonneg : ∀ (d i : Nat) (acc : Int) (r : List Int), isB r → 0 ≤ acc → 0 ≤ (tk d i acc r).1
  | 0, i, acc, r, _, _ => by simp [tk]
  | d + 1, i, acc, [], _, _ => by simp [tk]
  | d + 1, i, acc, c :: r, hr, h0 => by
    have hc := hr c (by simp)
    have hp : (0 : Int) < 128 ^ i := Int.pow_pos (by omega)
    simp only [tk]
    by_cases h : c < 128
    · rw [if_pos h]
      split
      · have := Int.mul_nonneg hc.1 (Int.le_of_lt hp)
        show 0 ≤ acc + c * 128 ^ i
        omega
      · simp
    · rw [if_neg h]
      have := Int.mul_nonneg (show 0 ≤ c - 128 by omega) (Int.le_of_lt hp)
      exact tk_nonneg d _ _ r (fun z hz => hr z (by simp [hz])) (by omega)
theorem takeS_nonneg {l : List Int} (hl : isB l) (a : Int) : 0 ≤ (takeS l a).1 := by
  unfold takeS
  split
  · simp
  · unfold fin
    split
    · exact tk_nonneg _ _ _ _ (isB_drop hl _) (by omega)
    · simp
theorem Takes_is {k : Nat} {l : List Int} {a : Int} (hl : isB l) (hbig : l.length ≤ 140737488355328) (hk : 300 ≤ k) : wire_Takes.f k l a = some (TakesS l a) := by
  unfold wire_Takes.f TakesS
  rw [Take_is hl hbig (by omega)]
  simp only [Option.bind_some]
  by_cases h : (takeS l a).2.2 = 0
  · rw [if_pos h, if_pos h]
    by_cases h2 : (takeS l a).1 > 255
    · rw [if_pos h2, if_pos h2]
    · have hn := takeS_nonneg hl a
      rw [if_neg h2, if_neg h2]
      have := Takes_loop hl hbig (takeS l a).1.toNat (by omega) (takeS l a).1.toNat k 0 (takeS l a).2.1 [] (by omega) (by omega) rfl
      rw [Int.toNat_of_nonneg hn] at this
      exact this
  · rw [if_neg h, if_neg h]

/-! ### Numbers alike -/
theorem Same_loop (a b : List Int) (hl : a.length = b.length) (ha : a.length ≤ 1152921504606846976) : ∀ (d k i : Nat), i + d = a.length → d < k → argosyref01_Same.l0 k a b (i : Int) = some (decide (a.drop i = b.drop i)) := by
  intro d
  induction d with
  | zero =>
    intro k i hi hk
    obtain ⟨k, rfl⟩ : ∃ m, k = m + 1 := ⟨k - 1, by omega⟩
    simp only [argosyref01_Same.l0]
    rw [if_neg (by omega), List.drop_eq_nil_of_le (by omega), List.drop_eq_nil_of_le (by omega)]
    simp
  | succ d ih =>
    intro k i hi hk
    obtain ⟨k, rfl⟩ : ∃ m, k = m + 1 := ⟨k - 1, by omega⟩
    simp only [argosyref01_Same.l0]
    have h1 : i < a.length := by omega
    have h2 : i < b.length := by omega
    have hra : rd a (i : Int) = a[i] := by rw [rd_at _ (by omega) (by omega)]; rfl
    have hrb : rd b (i : Int) = b[i] := by rw [rd_at _ (by omega) (by omega)]; rfl
    rw [if_pos (by omega), if_pos (by omega), if_pos (by omega), hra, hrb, List.drop_eq_getElem_cons h1, List.drop_eq_getElem_cons h2]
    by_cases h : a[i] = b[i]
    · rw [if_pos h, w64 (by omega), show ((i : Int) + 1) = ((i + 1 : Nat) : Int) from by omega, ih k (i + 1) (by omega) (by omega)]
      rw [h]
      congr 1
      rw [decide_eq_decide]
      simp only [List.cons.injEq, true_and]
    · rw [if_neg h, decide_eq_false]
      simp only [List.cons.injEq]
      exact fun hc => h hc.1
theorem Same_is {k : Nat} {a b : List Int} (ha : a.length ≤ 1152921504606846976) (hk : a.length < k) : argosyref01_Same.f k a b = some (decide (a = b)) := by
  unfold argosyref01_Same.f
  by_cases hl : a.length = b.length
  · rw [if_pos (by omega)]
    have := Same_loop a b hl ha a.length k 0 (by omega) hk
    simpa using this
  · rw [if_neg (by omega)]
    have : a ≠ b := fun h => hl (by rw [h])
    simp [this]

/-! ### The examples -/
theorem lives_is {k : Nat} (hk : 400 ≤ k) : argosylaw08_lives.f k = some true := by
  have e0 : enc 1099511627776 = [128, 128, 128, 128, 128, 32] := by
    rw [enc_ge (by decide), enc_ge (by decide), enc_ge (by decide), enc_ge (by decide), enc_ge (by decide), enc_lt (by decide)]
    rfl
  have e1 : enc 300 = [172, 2] := by rw [enc_ge (by decide), enc_lt (by decide)]; rfl
  have e2 : enc 1 = [1] := by rw [enc_lt (by decide)]; rfl
  have e3 : enc 2 = [2] := by rw [enc_lt (by decide)]; rfl
  have es : encs [1, 300] = some [1, 172, 2] := by
    simp only [encs]
    rw [if_pos (by decide), if_pos (by decide)]
    simp only [Option.map_some, show Int.toNat 300 = 300 from rfl, show Int.toNat 1 = 1 from rfl, e1, e2]
    rfl
  have hp : wire_Puts.f k [] [1, 300] = some ([2, 1, 172, 2], 0) := by
    rw [Puts_is (by omega) (by simp), es]
    show some ([] ++ enc 2 ++ [1, 172, 2], (0 : Int)) = _
    rw [e3]; rfl
  unfold argosylaw08_lives.f
  rw [Put_ok (by decide) (by decide) (by simp) (by omega)]
  simp only [Option.bind_some]
  rw [Take_is (by intro x hx; simp at hx; omega) (by simp) (by omega)]
  simp only [Option.bind_some]
  rw [hp]
  simp only [Option.bind_some]
  rw [Takes_is (by intro x hx; simp at hx; omega) (by simp) (by omega)]
  simp only [Option.bind_some]
  have t1 : takeS [128, 0] 0 = (0, 0, 4) := by decide
  have t2 : TakesS [2, 1, 172, 2] 0 = ([1, 300], 4, 0) := by decide
  rw [t1, t2]
  have c1 : (strOfNums ([] ++ enc (Int.toNat 1099511627776))).toList = ([128, 128, 128, 128, 128, 32] : List UInt8) := by
    rw [bytes_toList, son_data, show Int.toNat 1099511627776 = 1099511627776 from rfl, List.nil_append, e0]; rfl
  have c2 : (strOfNums [2, 1, 172, 2]).toList = ([2, 1, 172, 2] : List UInt8) := by rw [bytes_toList, son_data]; rfl
  simp only [c1, c2, if_true]
  rw [Same_is (by simp) (by simp; omega)]
  rfl

/-! ### The reference: numbers -/
theorem rIs_in {n : Int} (h0 : 0 ≤ n) (h1 : n ≤ 1099511627776) : argosyref08_Is.f n = some true := by unfold argosyref08_Is.f; rw [if_pos h0, decide_eq_true h1]
theorem rIs_out {n : Int} (h : ¬ (0 ≤ n ∧ n ≤ 1099511627776)) : argosyref08_Is.f n = some false := by
  unfold argosyref08_Is.f
  by_cases h0 : n ≥ 0
  · rw [if_pos h0, decide_eq_false (by omega)]
  · rw [if_neg h0]
theorem tmod_pos {a b : Int} (h : 0 ≤ a) : Int.tmod a b = a % b := Int.tmod_eq_emod_of_nonneg h
theorem tdiv_pos {a b : Int} (h : 0 ≤ a) : Int.tdiv a b = a / b := Int.tdiv_eq_ediv_of_nonneg h
theorem rOne_loop : ∀ (d k n : Nat), n < 128 ^ (d + 1) → d < k → d ≤ 7 → argosyref08_One.f k (n : Int) = some (strOfNums (enc n))
  | d, k, n, hn, hk, hd => by
    obtain ⟨k, rfl⟩ : ∃ m, k = m + 1 := ⟨k - 1, by omega⟩
    have hbig : n < 2 ^ 62 := by
      have : 128 ^ (d + 1) ≤ 128 ^ 8 := Nat.pow_le_pow_right (by omega) (by omega)
      omega
    simp only [argosyref08_One.f]
    by_cases h : n < 128
    · rw [if_pos (by omega), enc_lt h]
      congr 3
      omega
    · cases d with
      | zero => simp at hn; omega
      | succ d =>
        rw [if_neg (by omega), enc_ge h, tdiv_pos (by omega), w64 (x := (n : Int) / 128) (by omega), show (n : Int) / 128 = ((n / 128 : Nat) : Int) from by omega]
        simp only [Option.bind_some]
        rw [rOne_loop d k (n / 128) (by rw [Nat.pow_succ] at hn; omega) (by omega) (by omega)]
        simp only [Option.bind_some]
        have hlen := (enc_len d (n / 128) (by rw [Nat.pow_succ] at hn; omega)).2
        rw [if_pos (by rw [son_size, son_size]; simp; omega), ← son_append, tmod_pos (by omega), w64 (by omega)]
        congr 2
        simp only [List.cons_append, List.nil_append, List.cons.injEq, and_true]
        omega
theorem rOne_is {k : Nat} {n : Int} (h0 : 0 ≤ n) (h1 : n ≤ 1099511627776) (hk : 6 ≤ k) : argosyref08_One.f k n = some (strOfNums (enc n.toNat)) := by
  have := rOne_loop 5 k n.toNat (by omega) (by omega) (by omega)
  rw [Int.toNat_of_nonneg h0] at this
  exact this

theorem rPut_ok {k : Nat} {l : List Int} {n : Int} (h0 : 0 ≤ n) (h1 : n ≤ 1099511627776) (hl : l.length ≤ 140737488355000) (hk : 6 ≤ k) : argosyref08_Put.f k (strOfNums l) n = some (strOfNums (l ++ enc n.toNat), 0) := by
  unfold argosyref08_Put.f
  rw [rIs_in h0 h1]
  simp only [Option.bind_some, if_true]
  rw [rOne_is h0 h1 hk]
  simp only [Option.bind_some]
  have := (enc_small (n := n.toNat) (by omega)).2
  rw [if_pos (by rw [son_size, son_size]; omega), son_append]
theorem rPut_bad {k : Nat} {s : ByteArray} {n : Int} (h : ¬ (0 ≤ n ∧ n ≤ 1099511627776)) : argosyref08_Put.f k s n = some (strOfNums [], 2) := by
  unfold argosyref08_Put.f
  rw [rIs_out h]
  rfl
theorem rPuts_loop (l : List Int) (hl : l.length ≤ 1000) : ∀ (d k i : Nat) (b : List Int), i + d = l.length → d + 7 ≤ k → b.length + 6 * d ≤ 140737488355000 →
    argosyref08_Puts.l0 k l (strOfNums b) (i : Int) = some (match encs (l.drop i) with | some r => (strOfNums (b ++ r), 0) | none => (strOfNums [], 2)) := by
  intro d
  induction d with
  | zero =>
    intro k i b hi hk hb
    obtain ⟨k, rfl⟩ : ∃ m, k = m + 1 := ⟨k - 1, by omega⟩
    simp only [argosyref08_Puts.l0]
    rw [if_neg (by omega), List.drop_eq_nil_of_le (by omega)]
    simp [encs]
  | succ d ih =>
    intro k i b hi hk hb
    obtain ⟨k, rfl⟩ : ∃ m, k = m + 1 := ⟨k - 1, by omega⟩
    simp only [argosyref08_Puts.l0]
    have hlt : i < l.length := by omega
    rw [if_pos (by omega), if_pos (by omega), List.drop_eq_getElem_cons hlt]
    have hr : rd l (i : Int) = l[i] := by rw [rd_at _ (by omega) (by omega)]; rfl
    rw [hr]
    by_cases h : 0 ≤ l[i] ∧ l[i] ≤ 1099511627776
    · rw [rIs_in h.1 h.2]
      simp only [Option.bind_some, if_true]
      rw [rOne_is h.1 h.2 (by omega)]
      simp only [Option.bind_some]
      have hlen := (enc_small (n := l[i].toNat) (by omega)).2
      rw [if_pos (by rw [son_size, son_size]; omega), w64 (by omega), ← son_append]
      have := ih k (i + 1) (b ++ enc l[i].toNat) (by omega) (by omega) (by simp; omega)
      rw [show ((i : Int) + 1) = ((i + 1 : Nat) : Int) from by omega, this]
      simp only [encs, if_pos h]
      cases encs (l.drop (i + 1)) <;> simp
    · rw [rIs_out h]
      simp only [encs, if_neg h]
      rfl
theorem rPuts_is {k : Nat} {b l : List Int} (hk : 300 ≤ k) (hb : b.length ≤ 140737488350000) :
    argosyref08_Puts.f k (strOfNums b) l = some ((if l.length ≤ 255 then (match encs l with | some r => (strOfNums (b ++ enc l.length ++ r), 0) | none => (strOfNums [], 2)) else (strOfNums [], 5)) : ByteArray × Int) := by
  unfold argosyref08_Puts.f
  by_cases h : l.length ≤ 255
  · rw [if_neg (by omega), rOne_is (by omega) (by omega) (by omega)]
    simp only [Option.bind_some, Int.toNat_natCast]
    have hlen := (enc_small (n := l.length) (by omega)).2
    rw [if_pos (by rw [son_size, son_size]; omega), ← son_append]
    have := rPuts_loop l (by omega) l.length k 0 (b ++ enc l.length) (by omega) (by omega) (by simp; omega)
    rw [show ((0 : Nat) : Int) = 0 from rfl] at this
    rw [this, if_pos h]
    simp
  · rw [if_pos (by omega), if_neg h]
    rfl

theorem Put_any {k : Nat} {l : List Int} {n : Int} (hl : l.length ≤ 140737488355000) (hk : 6 ≤ k) : ∃ r e, wire_Put.f k l n = some (r, e) ∧ argosyref08_Put.f k (strOfNums l) n = some (strOfNums r, e) := by
  by_cases h : 0 ≤ n ∧ n ≤ 1099511627776
  · exact ⟨_, _, Put_ok h.1 h.2 hl hk, rPut_ok h.1 h.2 hl hk⟩
  · exact ⟨_, _, Put_bad h, rPut_bad h⟩
theorem Puts_any {k : Nat} {b l : List Int} (hk : 300 ≤ k) (hb : b.length ≤ 140737488350000) : ∃ r e, wire_Puts.f k b l = some (r, e) ∧ argosyref08_Puts.f k (strOfNums b) l = some (strOfNums r, e) := by
  rw [Puts_is hk hb, rPuts_is hk hb]
  by_cases h : l.length ≤ 255
  · rw [if_pos h, if_pos h]
    cases encs l <;> exact ⟨_, _, rfl, rfl⟩
  · rw [if_neg h, if_neg h]
    exact ⟨_, _, rfl, rfl⟩
theorem WirePuts : argosylaw08_WirePuts.Pure := by
  intro l n m h1 h2 h3 h4 h5 h6 h7
  refine ⟨401, ?_⟩
  have hgo : argosylaw08_WirePuts.j0 401 l n m true = some true := by
    simp only [argosylaw08_WirePuts.j0, if_true]
    rw [lives_is (by omega)]
    rfl
  unfold argosylaw08_WirePuts.f
  by_cases h : (l.length : Int) > 2000
  · rw [if_pos h, hgo]
  · rw [if_neg h]
    by_cases hm : (m.length : Int) > 1000
    · rw [decide_eq_true hm, hgo]
    · rw [decide_eq_false hm]
      simp only [argosylaw08_WirePuts.j0, Bool.false_eq_true, if_false, Option.bind_some, List.nil_append, List.length_nil]
      rw [if_pos (by omega), if_pos (by omega), if_pos (by omega), if_pos (by simp; omega)]
      have ht : (l ++ [120]).take ((l.length : Int) : Int).toNat = l := by simp
      rw [ht]
      obtain ⟨r, e, p1, p2⟩ := Put_any (k := 400) (l := l) (n := n) (by omega) (by omega)
      obtain ⟨r', e', p3, p4⟩ := Puts_any (k := 400) (b := l) (l := m) (by omega) (by omega)
      rw [p1]
      simp only [Option.bind_some]
      rw [p2]
      simp only [Option.bind_some]
      rw [p3]
      simp only [Option.bind_some]
      rw [p4]
      simp only [Option.bind_some, if_true]
      rw [if_pos (by simp; omega)]
      have hr : rd (l ++ [120]) (l.length : Int) = 120 := by
        rw [rd_at _ (by omega) (by simp; omega)]
        simp
      rw [if_pos hr, lives_is (by omega)]
      rfl

end Go.Proofs.Ytinfaefnobokgaa.Pure
