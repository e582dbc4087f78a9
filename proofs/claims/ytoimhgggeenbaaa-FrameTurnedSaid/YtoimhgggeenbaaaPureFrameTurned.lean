/- A frame of which bits within 32 bits of its body were turned is not taken: no condition. -/
import Derived.Test.YtoimhgggeenbaaaPFrameTurnedx3
set_option linter.unusedVariables false
set_option linter.unusedSimpArgs false
namespace Go.Proofs.Ytoimhgggeenbaaa.Pure
open Go.RowKit Go.Proofs.Ytoimhgggeenbaaa.PFrameTurned Go.Proofs.YtoimhgggeenbaaaW.PrintWords Go.Proofs.YtoimhgggeenbaaaW.PrintLast Go.Proofs.YtoimhgggeenbaaaW.PrintMore

/-! ### Bytes -/
def isB (l : List Int) : Prop := ∀ x ∈ l, 0 ≤ x ∧ x < 256
theorem isB_of_wf {l : List Int} (h : ∀ x ∈ l, (Lit.int .u8 x).wf = true) : isB l := by
  intro x hx
  have := h x hx
  simp [Lit.wf, IntKind.min, IntKind.max, IntKind.bits, IntKind.signed] at this
  omega
theorem i64_of_wf {x : Int} (h : (Lit.int .i64 x).wf = true) : -9223372036854775808 ≤ x ∧ x ≤ 9223372036854775807 := by
  simp [Lit.wf, IntKind.min, IntKind.max, IntKind.bits, IntKind.signed] at h
  omega
theorem toList_loop (s : ByteArray) : ∀ (d i : Nat) (r : List UInt8), s.size - i = d → ByteArray.toList.loop s i r = r.reverse ++ s.data.toList.drop i := by
  intro d
  have hl : s.data.toList.length = s.size := Array.length_toList
  induction d with
  | zero =>
    intro i r h
    unfold ByteArray.toList.loop
    rw [if_neg (by omega), List.drop_eq_nil_of_le (by omega), List.append_nil]
  | succ d ih =>
    intro i r h
    unfold ByteArray.toList.loop
    rw [if_pos (by omega), ih (i + 1) _ (by omega)]
    have hi : i < s.data.toList.length := by omega
    rw [List.drop_eq_getElem_cons hi, List.reverse_cons, List.append_assoc]
    have : s.get! i = s.data.toList[i] := by
      have hs : i < s.size := by omega
      simp [ByteArray.get!, getElem!_pos, hs]
    rw [this]; rfl
theorem bytes_toList (s : ByteArray) : s.toList = s.data.toList := by
  unfold ByteArray.toList
  rw [toList_loop s _ 0 [] rfl]
  simp
theorem bytes_ext {a b : ByteArray} (h : a.toList = b.toList) : a = b := by
  rw [bytes_toList, bytes_toList] at h
  cases a; cases b
  congr 1
  exact Array.toList_inj.1 h
theorem son_data (xs : List Int) : (strOfNums xs).data.toList = xs.map fun n => UInt8.ofNat n.toNat := by simp [strOfNums]
theorem son_size (xs : List Int) : (strOfNums xs).size = xs.length := by simp [strOfNums, ByteArray.size]
theorem son_append (xs ys : List Int) : strOfNums (xs ++ ys) = strOfNums xs ++ strOfNums ys := by
  apply bytes_ext
  rw [bytes_toList, bytes_toList, son_data]
  simp [strOfNums]
theorem son_nil : strOfNums [] = (⟨#[]⟩ : ByteArray) := rfl
theorem u8_inj {a b : Int} (ha : 0 ≤ a ∧ a < 256) (hb : 0 ≤ b ∧ b < 256) (h : UInt8.ofNat a.toNat = UInt8.ofNat b.toNat) : a = b := by
  have := congrArg UInt8.toNat h
  simp [UInt8.toNat_ofNat'] at this
  omega
theorem map_u8_inj : ∀ {xs ys : List Int}, isB xs → isB ys → (xs.map fun n => UInt8.ofNat n.toNat) = (ys.map fun n => UInt8.ofNat n.toNat) → xs = ys
  | [], [], _, _, _ => rfl
  | [], y :: ys, _, _, h => by simp at h
  | x :: xs, [], _, _, h => by simp at h
  | x :: xs, y :: ys, hx, hy, h => by
    simp only [List.map_cons, List.cons.injEq] at h
    rw [u8_inj (hx x (by simp)) (hy y (by simp)) h.1, map_u8_inj (fun z hz => hx z (by simp [hz])) (fun z hz => hy z (by simp [hz])) h.2]
theorem son_inj {xs ys : List Int} (hx : isB xs) (hy : isB ys) (h : strOfNums xs = strOfNums ys) : xs = ys := by
  have := congrArg (fun s : ByteArray => s.data.toList) h
  simp only [son_data] at this
  exact map_u8_inj hx hy this
theorem son_toList_inj {xs ys : List Int} (hx : isB xs) (hy : isB ys) : (strOfNums xs).toList = (strOfNums ys).toList ↔ xs = ys :=
  ⟨fun h => son_inj hx hy (bytes_ext h), fun h => by rw [h]⟩
theorem son_bt {xs : List Int} (hx : isB xs) (i : Int) (h0 : 0 ≤ i) (h : i < xs.length) : bt (strOfNums xs) i = rd xs i := by
  have hi : i.toNat < xs.length := by omega
  unfold bt rd
  rw [dif_pos (by rw [son_size]; exact hi)]
  have hg : (strOfNums xs)[i.toNat]'(by rw [son_size]; exact hi) = UInt8.ofNat (xs[i.toNat]).toNat := by
    show (strOfNums xs).data[i.toNat]'_ = _
    simp [strOfNums]
  rw [hg, List.getD_eq_getElem?_getD, List.getElem?_eq_getElem hi]
  have := hx _ (List.getElem_mem hi)
  simp [UInt8.toNat_ofNat']
  omega
theorem son_extract (xs : List Int) (a b : Nat) : (strOfNums xs).extract a b = strOfNums ((xs.take b).drop a) := by
  apply bytes_ext
  rw [bytes_toList, bytes_toList, son_data]
  simp [strOfNums, ByteArray.data_extract, List.drop_take, List.map_take, List.map_drop, List.extract]
theorem isB_append {xs ys : List Int} (hx : isB xs) (hy : isB ys) : isB (xs ++ ys) := by
  intro z hz
  rcases List.mem_append.1 hz with h | h
  · exact hx z h
  · exact hy z h
theorem isB_take {xs : List Int} (h : isB xs) (n : Nat) : isB (xs.take n) := fun z hz => h z (List.mem_of_mem_take hz)
theorem isB_drop {xs : List Int} (h : isB xs) (n : Nat) : isB (xs.drop n) := fun z hz => h z (List.mem_of_mem_drop hz)
theorem rd_at {xs : List Int} (i : Int) (h0 : 0 ≤ i) (h : i < xs.length) : rd xs i = xs[i.toNat]'(by omega) := by
  unfold rd
  rw [List.getD_eq_getElem?_getD, List.getElem?_eq_getElem (by omega)]; rfl
theorem rd_isB {xs : List Int} (hx : isB xs) (i : Int) (h0 : 0 ≤ i) (h : i < xs.length) : 0 ≤ rd xs i ∧ rd xs i < 256 := by
  rw [rd_at i h0 h]
  exact hx _ (List.getElem_mem _)
theorem w64 {x : Int} (h : -9223372036854775808 ≤ x ∧ x ≤ 9223372036854775807) : wrap64 x = x := by
  unfold wrap64
  omega

/-! ### The sum -/
def stp (x : Nat) : Nat := x / 2 ^^^ (if x % 2 = 1 then 2197175160 else 0)
def stps : Nat → Nat → Nat
  | 0, x => x
  | n + 1, x => stps n (stp x)
def crcL : List Int → Nat → Nat
  | [], x => x
  | b :: l, x => crcL l (stps 8 (x ^^^ b.toNat))
def crc (l : List Int) : Nat := crcL l 4294967295 ^^^ 4294967295
theorem wrap_u32' (n : Int) : IntKind.u32.wrap n = n % 4294967296 := by simp [IntKind.wrap, IntKind.bits, IntKind.signed]
theorem xor_u32 (a b : Nat) (ha : a < 4294967296) (hb : b < 4294967296) : Go.bits .xor .u32 (a : Int) (b : Int) = ((a ^^^ b : Nat) : Int) := by
  have hx : a ^^^ b < 2 ^ 32 := Nat.xor_lt_two_pow (by omega) (by omega)
  have h1 : (BitVec.ofInt 32 (a : Int)).toNat = a := by
    rw [BitVec.ofInt_natCast, BitVec.toNat_ofNat]; exact Nat.mod_eq_of_lt (by omega)
  have h2 : (BitVec.ofInt 32 (b : Int)).toNat = b := by
    rw [BitVec.ofInt_natCast, BitVec.toNat_ofNat]; exact Nat.mod_eq_of_lt (by omega)
  show IntKind.u32.wrap ((BitVec.ofInt 32 (a : Int) ^^^ BitVec.ofInt 32 (b : Int)).toNat : Int) = _
  rw [BitVec.toNat_xor, h1, h2, wrap_u32']
  omega
theorem and_u32 (a b : Nat) (ha : a < 4294967296) (hb : b < 4294967296) : Go.bits .and .u32 (a : Int) (b : Int) = ((a &&& b : Nat) : Int) := by
  have hx : a &&& b < 2 ^ 32 := Nat.and_lt_two_pow _ (by omega)
  have h1 : (BitVec.ofInt 32 (a : Int)).toNat = a := by
    rw [BitVec.ofInt_natCast, BitVec.toNat_ofNat]; exact Nat.mod_eq_of_lt (by omega)
  have h2 : (BitVec.ofInt 32 (b : Int)).toNat = b := by
    rw [BitVec.ofInt_natCast, BitVec.toNat_ofNat]; exact Nat.mod_eq_of_lt (by omega)
  show IntKind.u32.wrap ((BitVec.ofInt 32 (a : Int) &&& BitVec.ofInt 32 (b : Int)).toNat : Int) = _
  rw [BitVec.toNat_and, h1, h2, wrap_u32']
  omega
theorem or_u32 (a b : Nat) (ha : a < 4294967296) (hb : b < 4294967296) : Go.bits .or .u32 (a : Int) (b : Int) = ((a ||| b : Nat) : Int) := by
  have hx : a ||| b < 2 ^ 32 := Nat.or_lt_two_pow (by omega) (by omega)
  have h1 : (BitVec.ofInt 32 (a : Int)).toNat = a := by
    rw [BitVec.ofInt_natCast, BitVec.toNat_ofNat]; exact Nat.mod_eq_of_lt (by omega)
  have h2 : (BitVec.ofInt 32 (b : Int)).toNat = b := by
    rw [BitVec.ofInt_natCast, BitVec.toNat_ofNat]; exact Nat.mod_eq_of_lt (by omega)
  show IntKind.u32.wrap ((BitVec.ofInt 32 (a : Int) ||| BitVec.ofInt 32 (b : Int)).toNat : Int) = _
  rw [BitVec.toNat_or, h1, h2, wrap_u32']
  omega
theorem stp_lt {x : Nat} (h : x < 4294967296) : stp x < 4294967296 := by
  have : stp x < 2 ^ 32 := Nat.xor_lt_two_pow (by omega) (by split <;> omega)
  exact this
theorem stps_lt : ∀ (n x : Nat), x < 4294967296 → stps n x < 4294967296
  | 0, _, h => h
  | n + 1, x, h => stps_lt n _ (stp_lt h)
theorem stp_prog (n : Nat) (h : n < 4294967296) : Go.bits .xor .u32 ((n : Int) / 2) (Go.bits .and .u32 2197175160 ((-(Go.bits .and .u32 (n : Int) 1)) % 4294967296)) = ((stp n : Nat) : Int) := by
  have h1 : Go.bits .and .u32 (n : Int) 1 = ((n % 2 : Nat) : Int) := by
    rw [show (1 : Int) = ((1 : Nat) : Int) from rfl, and_u32 n 1 h (by omega), Nat.and_one_is_mod]
  rw [h1, show (n : Int) / 2 = ((n / 2 : Nat) : Int) from by omega]
  unfold stp
  rcases Nat.mod_two_eq_zero_or_one n with h2 | h2
  · rw [h2, if_neg (by omega)]
    rw [show Go.bits .and .u32 2197175160 ((-((0 : Nat) : Int)) % 4294967296) = ((0 : Nat) : Int) from by decide]
    exact xor_u32 _ _ (by omega) (by omega)
  · rw [h2, if_pos rfl]
    rw [show Go.bits .and .u32 2197175160 ((-((1 : Nat) : Int)) % 4294967296) = ((2197175160 : Nat) : Int) from by decide]
    exact xor_u32 _ _ (by omega) (by omega)
theorem Sum_l1 (l : List Int) (L x8 : Int) : ∀ (d m n i : Nat), i + d = 8 → n < 4294967296 → frame_Sum.l1 (m + d + 1) (n : Int) l L x8 (i : Int) = frame_Sum.l0 m ((stps d n : Nat) : Int) l L (wrap64 (x8 + 1)) := by
  intro d
  induction d with
  | zero =>
    intro m n i hi hn
    simp only [frame_Sum.l1, Nat.add_zero]
    rw [if_neg (by omega)]
    rfl
  | succ d ih =>
    intro m n i hi hn
    rw [show m + (d + 1) + 1 = (m + d + 1) + 1 from by omega]
    generalize hK : m + d + 1 = K
    simp only [frame_Sum.l1]
    rw [if_pos (by omega), stp_prog n hn, w64 (by omega), show (i : Int) + 1 = ((i + 1 : Nat) : Int) from by omega, ← hK, ih m _ (i + 1) (by omega) (stp_lt hn)]
    rfl
theorem Sum_l0 (l : List Int) (hl : isB l) (hlen : l.length < 2 ^ 62) : ∀ (d m n i : Nat), i + d = l.length → n < 4294967296 → frame_Sum.l0 (m + 10 * d + 1) (n : Int) l (l.length : Int) (i : Int) = some (((crcL (l.drop i) n ^^^ 4294967295 : Nat)) : Int) := by
  intro d
  induction d with
  | zero =>
    intro m n i hi hn
    simp only [frame_Sum.l0, Nat.mul_zero, Nat.add_zero]
    rw [if_neg (by omega), List.drop_eq_nil_of_le (by omega), Nat.xor_comm]
    congr 1
    exact xor_u32 4294967295 n (by omega) hn
  | succ d ih =>
    intro m n i hi hn
    have h1 : i < l.length := by omega
    have hr : rd l (i : Int) = l[i] := by rw [rd_at _ (by omega) (by omega)]; rfl
    have hb := hl _ (List.getElem_mem h1)
    rw [show m + 10 * (d + 1) + 1 = (m + 10 * d + 1 + 8 + 1) + 1 from by omega]
    simp only [frame_Sum.l0]
    obtain ⟨b, hbn⟩ : ∃ b : Nat, l[i] = (b : Int) := ⟨l[i].toNat, by omega⟩
    rw [if_pos (by omega), if_pos (by omega), if_pos (by omega), hr, hbn, show (b : Int) % 4294967296 = (b : Int) from by omega, xor_u32 n b hn (by omega)]
    have hx : n ^^^ b < 2 ^ 32 := Nat.xor_lt_two_pow (by omega) (by omega)
    rw [show (0 : Int) = ((0 : Nat) : Int) from rfl, Sum_l1 l _ _ 8 _ _ 0 (by omega) hx, w64 (by omega), show (i : Int) + 1 = ((i + 1 : Nat) : Int) from by omega, ih m _ (i + 1) (by omega) (stps_lt 8 _ hx)]
    rw [List.drop_eq_getElem_cons h1]
    simp only [crcL, hbn, Int.toNat_natCast]
theorem Sum_is {k : Nat} {l : List Int} (hl : isB l) (hlen : l.length < 2 ^ 62) (hk : 10 * l.length + 1 ≤ k) : frame_Sum.f k l = some ((crc l : Nat) : Int) := by
  unfold frame_Sum.f crc
  have := Sum_l0 l hl hlen l.length (k - (10 * l.length + 1)) 4294967295 0 (by omega) (by omega)
  rw [show k - (10 * l.length + 1) + 10 * l.length + 1 = k from by omega] at this
  exact this
theorem crcL_lt : ∀ (l : List Int) (x : Nat), isB l → x < 4294967296 → crcL l x < 4294967296
  | [], _, _, h => h
  | b :: l, x, hl, h => by
    have hb := hl b (by simp)
    have hx : x ^^^ b.toNat < 2 ^ 32 := Nat.xor_lt_two_pow (by omega) (by omega)
    exact crcL_lt l _ (fun z hz => hl z (by simp [hz])) (stps_lt 8 _ hx)
theorem crc_lt {l : List Int} (hl : isB l) : crc l < 4294967296 := by
  have := crcL_lt l 4294967295 hl (by omega)
  have h2 : crcL l 4294967295 ^^^ 4294967295 < 2 ^ 32 := Nat.xor_lt_two_pow (by omega) (by omega)
  exact h2

/-! ### A frame -/
def hdr (l : List Int) : List Int := [((l.length : Int) / 256) % 256, (l.length : Int) % 256]
def le4 (n : Nat) : List Int := [(n : Int) % 256, (n : Int) / 256 % 256, (n : Int) / 65536 % 256, (n : Int) / 16777216 % 256]
def fr (l : List Int) : List Int := hdr l ++ l ++ le4 (crc (hdr l ++ l))
theorem hdr_isB (l : List Int) : isB (hdr l) := by
  intro x hx
  simp [hdr] at hx
  omega
theorem le4_isB (n : Nat) : isB (le4 n) := by
  intro x hx
  simp [le4] at hx
  omega
theorem hdr_len (l : List Int) : (hdr l).length = 2 := rfl
theorem le4_len (n : Nat) : (le4 n).length = 4 := rfl
theorem fr_len (l : List Int) : (fr l).length = l.length + 6 := by simp [fr, hdr_len, le4_len]; omega
theorem fr_isB {l : List Int} (h : isB l) : isB (fr l) := isB_append (isB_append (hdr_isB l) h) (le4_isB _)
theorem Put_big {k : Nat} {l0 l1 : List Int} (h : 1024 < l1.length) : frame_Put.f k l0 l1 = some ([], 5) := by
  unfold frame_Put.f
  rw [if_pos (by omega)]
theorem Put_ok {k : Nat} {l0 l1 : List Int} (hl : isB l1) (h : l1.length ≤ 1024) (h0 : l0.length ≤ 140737488350000) (hk : 11000 ≤ k) : frame_Put.f k l0 l1 = some (l0 ++ fr l1, 0) := by
  unfold frame_Put.f
  rw [if_neg (by omega)]
  simp only [Option.bind_some]
  rw [if_pos (by simp; omega)]
  have hs : frame_Sum.f k ([((l1.length : Int) / 256) % 256, ((l1.length : Int)) % 256] ++ l1) = some ((crc (hdr l1 ++ l1) : Nat) : Int) :=
    Sum_is (isB_append (hdr_isB l1) hl) (by simp; omega) (by simp; omega)
  rw [hs]
  simp only [Option.bind_some]
  rw [if_pos (by simp; omega), if_pos (by omega), if_pos (by omega), if_pos (by simp), if_pos (by simp; omega)]
  congr 2
  rw [show ((l0.length : Int) : Int).toNat = l0.length from by omega, List.take_length]
  rfl

/-! ### Taking a frame -/
def nOf (q : List Int) : Int := rd q 0 * 256 + rd q 1
theorem nOf_is {q : List Int} (hq : isB q) (h : 2 ≤ q.length) : 0 ≤ nOf q ∧ nOf q ≤ 65535 := by
  have h0 := rd_isB hq 0 (by omega) (by omega)
  have h1 := rd_isB hq 1 (by omega) (by omega)
  unfold nOf; omega
theorem wraps_i64' : ∀ n : Int, 0 ≤ n → n < 2 ^ 62 → IntKind.i64.wrap n = n := by
  intro n h0 h1
  simp [IntKind.wrap, IntKind.bits, IntKind.signed]
  omega
theorem wraps_u32' : ∀ n : Int, 0 ≤ n → n < 2 ^ 32 → IntKind.u32.wrap n = n := by
  intro n h0 h1
  rw [wrap_u32']
  omega
def sizeS (q : List Int) : Int × Int := if q.length = 0 then (0, 16) else if q.length < 2 then (0, 3) else if nOf q > 1024 then (0, 5) else if (q.length : Int) < nOf q + 6 then (0, 3) else (nOf q + 6, 0)
theorem size_is {q : List Int} (hq : isB q) (hl : q.length < 2 ^ 62) : frame_size.f q = some (sizeS q) := by
  unfold frame_size.f sizeS
  by_cases h0 : q.length = 0
  · rw [if_pos (by omega), if_pos h0]
  · rw [if_neg (by omega), if_neg h0]
    by_cases h2 : q.length < 2
    · rw [if_pos (by omega), if_pos h2]
    · rw [if_neg (by omega), if_neg h2, if_pos (by omega), if_pos (by omega)]
      have r0 := rd_isB hq 0 (by omega) (by omega)
      have r1 := rd_isB hq 1 (by omega) (by omega)
      have hn := nOf_is hq (by omega)
      have e : Go.bits .or .i64 (wrap64 ((wrap64 (rd q 0)) * 256)) (wrap64 (rd q 1)) = nOf q := by
        rw [w64 (x := rd q 0) (by omega), w64 (x := rd q 1) (by omega), w64 (by omega)]
        exact bits_join .i64 62 (by decide) wraps_i64' 8 _ _ (by omega) (by omega) (by omega) (by omega) (by omega) (by omega)
      rw [e]
      by_cases h3 : nOf q > 1024
      · rw [if_pos h3, if_pos h3]
      · rw [if_neg h3, if_neg h3, w64 (x := 2 + nOf q) (by omega), w64 (by omega)]
        by_cases h4 : (q.length : Int) < nOf q + 6
        · rw [if_pos (by omega), if_pos h4]
        · rw [if_neg (by omega), if_neg h4]
          congr 2
          omega
/-- The part of a list from a on. -/
def takeS (l : List Int) (a : Int) : List Int × Int × Int :=
  if a < 0 ∨ a > l.length then ([], 0, 2)
  else let q := l.drop a.toNat
    if (sizeS q).2 = 0 then (let n := (nOf q).toNat; if fr ((q.take (n + 2)).drop 2) = q.take (n + 6) then ((q.take (n + 2)).drop 2, a + nOf q + 6, 0) else ([], 0, 12))
    else ([], 0, (sizeS q).2)
theorem le4_join {c0 c1 c2 c3 : Int} (h0 : 0 ≤ c0 ∧ c0 < 256) (h1 : 0 ≤ c1 ∧ c1 < 256) (h2 : 0 ≤ c2 ∧ c2 < 256) (h3 : 0 ≤ c3 ∧ c3 < 256) :
    Go.bits .or .u32 (Go.bits .or .u32 (Go.bits .or .u32 (c0 % 4294967296) ((c1 % 4294967296) * 256 % 4294967296)) ((c2 % 4294967296) * 65536 % 4294967296)) ((c3 % 4294967296) * 16777216 % 4294967296) = c0 + c1 * 256 + c2 * 65536 + c3 * 16777216 := by
  have w : ∀ {x : Int}, 0 ≤ x → x < 4294967296 → x % 4294967296 = x := fun a b => by omega
  have f : ∀ a b : Nat, a < 4294967296 → b < 4294967296 → Go.bits .or .u32 (a : Int) (b : Int) = Go.bits .or .u32 (b : Int) (a : Int) := fun a b ha hb => by rw [or_u32 a b ha hb, or_u32 b a hb ha, Nat.or_comm]
  have f' : ∀ x y : Int, 0 ≤ x → x < 4294967296 → 0 ≤ y → y < 4294967296 → Go.bits .or .u32 x y = Go.bits .or .u32 y x := by
    intro x y hx hx' hy hy'
    have := f x.toNat y.toNat (by omega) (by omega)
    rwa [Int.toNat_of_nonneg hx, Int.toNat_of_nonneg hy] at this
  have j : ∀ (i : Nat) (x y : Int), 0 ≤ x → x % 2 ^ i = 0 → x < 2 ^ 32 → 0 ≤ y → y < 2 ^ i → y < 2 ^ 32 → Go.bits .or .u32 y x = y + x := by
    intro i x y a b c d e g
    rw [f' _ _ d (by omega) a (by omega), bits_join .u32 32 (by decide) wraps_u32' i x y a b c d e g]
    omega
  rw [w h0.1 (by omega), w h1.1 (by omega), w h2.1 (by omega), w h3.1 (by omega), w (by omega) (by omega), w (by omega) (by omega), w (by omega) (by omega)]
  rw [j 8 (c1 * 256) c0 (by omega) (by omega) (by omega) (by omega) (by omega) (by omega), j 16 (c2 * 65536) (c0 + c1 * 256) (by omega) (by omega) (by omega) (by omega) (by omega) (by omega), j 24 (c3 * 16777216) (c0 + c1 * 256 + c2 * 65536) (by omega) (by omega) (by omega) (by omega) (by omega) (by omega)]
theorem le4_eq {n : Nat} (hn : n < 4294967296) {c0 c1 c2 c3 : Int} (h0 : 0 ≤ c0 ∧ c0 < 256) (h1 : 0 ≤ c1 ∧ c1 < 256) (h2 : 0 ≤ c2 ∧ c2 < 256) (h3 : 0 ≤ c3 ∧ c3 < 256) :
    le4 n = [c0, c1, c2, c3] ↔ (n : Int) = c0 + c1 * 256 + c2 * 65536 + c3 * 16777216 := by
  simp only [le4, List.cons.injEq, and_true]
  constructor
  · rintro ⟨a, b, c, d⟩; omega
  · intro h
    refine ⟨?_, ?_, ?_, ?_⟩ <;> omega
theorem four {z : List Int} (h : z.length = 4) : z = [rd z 0, rd z 1, rd z 2, rd z 3] := by
  match z, h with
  | [a, b, c, d], _ => rfl
theorem fr_iff {q : List Int} (hq : isB q) (h2 : 2 ≤ q.length) (n : Nat) (hn : nOf q = n) (h : n + 6 ≤ q.length) :
    fr ((q.take (n + 2)).drop 2) = q.take (n + 6) ↔ (crc (q.take (n + 2)) : Int) = rd (q.drop (n + 2)) 0 + rd (q.drop (n + 2)) 1 * 256 + rd (q.drop (n + 2)) 2 * 65536 + rd (q.drop (n + 2)) 3 * 16777216 := by
  have hs : ((q.take (n + 2)).drop 2).length = n := by simp; omega
  have hb := nOf_is hq h2
  match q, h2 with
  | b0 :: b1 :: r, _ =>
    have r0 : rd (b0 :: b1 :: r) 0 = b0 := rfl
    have r1 : rd (b0 :: b1 :: r) 1 = b1 := rfl
    have hb0 := hq b0 (by simp)
    have hb1 := hq b1 (by simp)
    have hn' : b0 * 256 + b1 = n := hn
    have e1 : (b0 :: b1 :: r).take (n + 2) = b0 :: b1 :: r.take n := rfl
    have e2 : (b0 :: b1 :: r).take (n + 6) = b0 :: b1 :: r.take (n + 4) := rfl
    have e3 : (b0 :: b1 :: r).drop (n + 2) = r.drop n := rfl
    rw [e1, e2, e3]
    rw [e1] at hs
    have e4 : (b0 :: b1 :: r.take n).drop 2 = r.take n := rfl
    rw [e4]
    rw [e4] at hs
    have eh : hdr (r.take n) = [b0, b1] := by
      simp only [hdr, hs, List.cons.injEq, and_true]
      omega
    have et : r.take (n + 4) = r.take n ++ (r.drop n).take 4 := List.take_add
    unfold fr
    rw [eh, et]
    have el : ((r.drop n).take 4).length = 4 := by simp at h ⊢; omega
    have e5 := four el
    have hr : isB (r.drop n) := isB_drop (fun z hz => hq z (by simp [hz])) n
    have hld : 4 ≤ (r.drop n).length := by simp at h ⊢; omega
    have g : ∀ i : Nat, i < 4 → rd ((r.drop n).take 4) (i : Int) = rd (r.drop n) (i : Int) := by
      intro i hi
      unfold rd
      rw [List.getD_eq_getElem?_getD, List.getD_eq_getElem?_getD, List.getElem?_take_of_lt (by omega)]
    have g0 := g 0 (by omega)
    have g1 := g 1 (by omega)
    have g2 := g 2 (by omega)
    have g3 := g 3 (by omega)
    rw [e5]
    simp only [Int.natCast_zero, Int.natCast_one] at g0 g1 g2 g3
    have k0 := rd_isB hr 0 (by omega) (by omega)
    have k1 := rd_isB hr 1 (by omega) (by omega)
    have k2 := rd_isB hr 2 (by omega) (by omega)
    have k3 := rd_isB hr 3 (by omega) (by omega)
    have hc : crc ([b0, b1] ++ r.take n) < 4294967296 := crc_lt (isB_append (fun z hz => by simp at hz; rcases hz with rfl | rfl <;> assumption) (isB_take (fun z hz => hq z (by simp [hz])) n))
    rw [show (b0 :: b1 :: r.take n) = [b0, b1] ++ r.take n from rfl]
    rw [show b0 :: b1 :: (r.take n ++ [rd ((r.drop n).take 4) 0, rd ((r.drop n).take 4) 1, rd ((r.drop n).take 4) 2, rd ((r.drop n).take 4) 3]) = [b0, b1] ++ r.take n ++ [rd ((r.drop n).take 4) 0, rd ((r.drop n).take 4) 1, rd ((r.drop n).take 4) 2, rd ((r.drop n).take 4) 3] from by simp]
    rw [List.append_right_inj, ← le4_eq hc k0 k1 k2 k3]
    rw [show rd ((r.drop n).take 4) 0 = _ from g0, show rd ((r.drop n).take 4) 1 = _ from g1, show rd ((r.drop n).take 4) 2 = _ from g2, show rd ((r.drop n).take 4) 3 = _ from g3]
    rfl

theorem takeS_out {l : List Int} {a : Int} (h : a < 0 ∨ a > l.length) : takeS l a = ([], 0, 2) := by unfold takeS; rw [if_pos h]
theorem takeS_in {l : List Int} {a : Int} (h : ¬ (a < 0 ∨ a > l.length)) : takeS l a = (let q := l.drop a.toNat
    if (sizeS q).2 = 0 then (let n := (nOf q).toNat; if fr ((q.take (n + 2)).drop 2) = q.take (n + 6) then ((q.take (n + 2)).drop 2, a + nOf q + 6, 0) else ([], 0, 12))
    else ([], 0, (sizeS q).2)) := by unfold takeS; rw [if_neg h]
theorem sizeS_ok {q : List Int} (h : (sizeS q).2 = 0) : 2 ≤ q.length ∧ nOf q ≤ 1024 ∧ nOf q + 6 ≤ q.length ∧ sizeS q = (nOf q + 6, 0) := by
  unfold sizeS at h ⊢
  by_cases h0 : q.length = 0
  · rw [if_pos h0] at h; cases h
  · rw [if_neg h0] at h ⊢
    by_cases h2 : q.length < 2
    · rw [if_pos h2] at h; cases h
    · rw [if_neg h2] at h ⊢
      by_cases h3 : nOf q > 1024
      · rw [if_pos h3] at h; cases h
      · rw [if_neg h3] at h ⊢
        by_cases h4 : (q.length : Int) < nOf q + 6
        · rw [if_pos h4] at h; cases h
        · rw [if_neg h4]
          exact ⟨by omega, by omega, by omega, rfl⟩
theorem Take_is {k : Nat} {l : List Int} {a : Int} (hl : isB l) (hlen : l.length ≤ 140737488350000) (hk : 11002 ≤ k) : frame_Take.f k l a = some (takeS l a) := by
  obtain ⟨k, rfl⟩ : ∃ m, k = m + 1 := ⟨k - 1, by omega⟩
  unfold frame_Take.f
  by_cases ha : a < 0 ∨ a > l.length
  · rw [takeS_out ha]
    by_cases h : a < 0
    · rw [if_pos h]
      simp only [frame_Take.j0, if_true]
    · rw [if_neg h, decide_eq_true (by omega)]
      simp only [frame_Take.j0, if_true]
  · rw [if_neg (by omega), decide_eq_false (by omega), takeS_in ha]
    simp only [frame_Take.j0, Bool.false_eq_true, if_false]
    rw [if_pos (by omega), if_pos (by omega)]
    have hq : isB (l.drop a.toNat) := isB_drop hl _
    rw [size_is hq (by simp; omega)]
    simp only [Option.bind_some]
    have hql : ((l.drop a.toNat).length : Int) = l.length - a := by simp; omega
    have hqd : ∀ z : Nat, (l.take (a.toNat + z)).drop a.toNat = (l.drop a.toNat).take z := by intro z; rw [List.drop_take]; congr 1; omega
    obtain ⟨q, hqe⟩ : ∃ q, l.drop a.toNat = q := ⟨_, rfl⟩
    rw [hqe] at hq hql hqd ⊢
    by_cases hs : (sizeS q).2 = 0
    · rw [if_pos hs, if_pos hs]
      obtain ⟨s1, s2, s3, s4⟩ := sizeS_ok hs
      have hn := nOf_is hq s1
      obtain ⟨n, hne⟩ : ∃ n : Nat, nOf q = n := ⟨(nOf q).toNat, by omega⟩
      rw [s4]
      simp only []
      have hiff := fr_iff hq s1 n hne (by omega)
      rw [hne] at s2 s3 hn ⊢
      rw [w64 (x := a + ((n : Int) + 6)) (by omega), w64 (x := (n : Int) + 6 - 4) (by omega)]
      rw [if_pos (by omega), if_pos (by omega)]
      rw [show (a + ((n : Int) + 6)).toNat = a.toNat + (n + 6) from by omega, hqd (n + 6)]
      have hl6 : (q.take (n + 6)).length = n + 6 := by rw [List.length_take]; omega
      rw [if_pos (by omega), if_pos (by omega)]
      rw [show ((n : Int) + 6 - 4).toNat = n + 2 from by omega]
      have e1 : (q.take (n + 6)).take (n + 2) = q.take (n + 2) := by rw [List.take_take]; congr 1; omega
      have e2 : (q.take (n + 6)).drop (n + 2) = (q.drop (n + 2)).take 4 := by rw [List.drop_take]; congr 1; omega
      rw [e1, e2]
      rw [Sum_is (isB_take hq _) (by rw [List.length_take]; omega) (by rw [List.length_take]; omega)]
      simp only [Option.bind_some]
      have hl4 : ((q.drop (n + 2)).take 4).length = 4 := by simp; omega
      rw [if_pos (by omega), if_pos (by omega), if_pos (by omega), if_pos (by omega)]
      have hr : isB (q.drop (n + 2)) := isB_drop hq _
      have hld : 4 ≤ (q.drop (n + 2)).length := by simp; omega
      have g : ∀ i : Nat, i < 4 → rd ((q.drop (n + 2)).take 4) (i : Int) = rd (q.drop (n + 2)) (i : Int) := by
        intro i hi
        unfold rd
        rw [List.getD_eq_getElem?_getD, List.getD_eq_getElem?_getD, List.getElem?_take_of_lt (by omega)]
      have g0 : rd ((q.drop (n + 2)).take 4) 0 = rd (q.drop (n + 2)) 0 := g 0 (by omega)
      have g1 : rd ((q.drop (n + 2)).take 4) 1 = rd (q.drop (n + 2)) 1 := g 1 (by omega)
      have g2 : rd ((q.drop (n + 2)).take 4) 2 = rd (q.drop (n + 2)) 2 := g 2 (by omega)
      have g3 : rd ((q.drop (n + 2)).take 4) 3 = rd (q.drop (n + 2)) 3 := g 3 (by omega)
      have k0 := rd_isB hr 0 (by omega) (by omega)
      have k1 := rd_isB hr 1 (by omega) (by omega)
      have k2 := rd_isB hr 2 (by omega) (by omega)
      have k3 := rd_isB hr 3 (by omega) (by omega)
      rw [g0, g1, g2, g3, le4_join k0 k1 k2 k3]
      rw [show ((n : Int)).toNat = n from by omega]
      by_cases hc : fr ((q.take (n + 2)).drop 2) = q.take (n + 6)
      · rw [if_pos hc]
        rw [if_pos (hiff.1 hc), if_pos (by omega), if_pos (by simp; omega)]
        simp only [List.nil_append]
        congr 3
        omega
      · rw [if_neg hc, if_neg (fun h => hc (hiff.2 h))]
    · rw [if_neg hs, if_neg hs]

/-! ### The examples -/
theorem lives_is {k : Nat} (hk : 12000 ≤ k) : argosylaw06_lives.f k = some true := by
  have hc : crc [0, 1, 65] < 4294967296 := by decide +kernel
  have hf : fr [65] = [0, 1, 65] ++ le4 (crc [0, 1, 65]) := rfl
  have hb : isB [65] := by intro x hx; simp at hx; omega
  have hfb : isB (fr [65]) := fr_isB hb
  have t0 : takeS (fr [65]) 0 = ([65], 7, 0) := by decide +kernel
  have t7 : takeS (fr [65]) 7 = ([], 0, 16) := by decide +kernel
  have hs : crc [49, 50, 51, 52, 53, 54, 55, 56, 57] = 3808858755 := by decide +kernel
  unfold argosylaw06_lives.f
  rw [Put_ok hb (by simp) (by simp) (by omega)]
  simp only [Option.bind_some, List.nil_append]
  rw [Take_is hfb (by rw [fr_len]; simp) (by omega), t0]
  simp only [Option.bind_some]
  rw [Take_is hfb (by rw [fr_len]; simp) (by omega), t7]
  simp only [Option.bind_some]
  rw [Sum_is (by intro x hx; simp at hx; omega) (by simp) (by simp; omega), hs]
  simp only [Option.bind_some]
  rw [if_pos]
  refine ⟨by decide, by rw [fr_len]; decide, ?_, rfl, ?_, rfl, rfl, rfl⟩
  · rw [bytes_toList, son_data, hf]; rfl
  · rw [bytes_toList, son_data]; rfl

/-! ### The sum is linear -/
theorem xor_half (a b : Nat) : (a ^^^ b) / 2 = a / 2 ^^^ b / 2 := by
  have e : ∀ z : Nat, z / 2 = z >>> 1 := fun z => by rw [Nat.shiftRight_eq_div_pow]
  rw [e, e, e, Nat.shiftRight_xor_distrib]
theorem xor_odd (a b : Nat) : (a ^^^ b) % 2 = (a + b) % 2 := by
  have h := Nat.testBit_xor a b 0
  simp only [Nat.testBit_zero] at h
  rcases Nat.mod_two_eq_zero_or_one a with ha | ha <;> rcases Nat.mod_two_eq_zero_or_one b with hb | hb <;> rcases Nat.mod_two_eq_zero_or_one (a ^^^ b) with hc | hc <;> first | omega | (exfalso; rw [ha, hb, hc] at h; revert h; decide)
theorem xor_swap (a b c d : Nat) : (a ^^^ b) ^^^ (c ^^^ d) = (a ^^^ c) ^^^ (b ^^^ d) := by
  rw [Nat.xor_assoc, Nat.xor_assoc, ← Nat.xor_assoc b c d, Nat.xor_comm b c, Nat.xor_assoc]
theorem stp_lin (a b : Nat) : stp (a ^^^ b) = stp a ^^^ stp b := by
  unfold stp
  rw [xor_half, xor_swap]
  congr 1
  have := xor_odd a b
  rcases Nat.mod_two_eq_zero_or_one a with ha | ha <;> rcases Nat.mod_two_eq_zero_or_one b with hb | hb
  · rw [if_neg (by omega), if_neg (by omega), if_neg (by omega)]; rfl
  · rw [if_pos (by omega), if_neg (by omega), if_pos (by omega)]; rfl
  · rw [if_pos (by omega), if_pos (by omega), if_neg (by omega)]; rfl
  · rw [if_neg (by omega), if_pos (by omega), if_pos (by omega)]; rfl
theorem stps_lin : ∀ (n a b : Nat), stps n (a ^^^ b) = stps n a ^^^ stps n b
  | 0, _, _ => rfl
  | n + 1, a, b => by simp only [stps]; rw [stp_lin, stps_lin n]
theorem stps_add : ∀ (m n x : Nat), stps (m + n) x = stps n (stps m x)
  | 0, n, x => by rw [Nat.zero_add]; rfl
  | m + 1, n, x => by rw [show m + 1 + n = (m + n) + 1 from by omega]; exact stps_add m n (stp x)
theorem stp_two (m : Nat) : stp (2 * m) = m := by
  unfold stp
  rw [if_neg (by omega), Nat.xor_zero]
  omega
theorem stps_pow : ∀ (k m : Nat), stps k (m * 2 ^ k) = m
  | 0, m => by simp [stps]
  | k + 1, m => by
    simp only [stps]
    rw [show m * 2 ^ (k + 1) = 2 * (m * 2 ^ k) from by rw [Nat.pow_succ, ← Nat.mul_assoc, Nat.mul_comm], stp_two, stps_pow k m]
theorem stps_zero {n x : Nat} (hx : x < 4294967296) (h : stps n x = 0) : x = 0 := by
  induction n generalizing x with
  | zero => exact h
  | succ n ih =>
    have h0 := ih (stp_lt hx) h
    unfold stp at h0
    by_cases ho : x % 2 = 1
    · rw [if_pos ho] at h0
      have := congrArg (fun z => z ^^^ 2197175160) h0
      simp only [Nat.xor_assoc, Nat.xor_self, Nat.xor_zero, Nat.zero_xor] at this
      omega
    · rw [if_neg ho, Nat.xor_zero] at h0
      omega
def num : List Int → Nat
  | [] => 0
  | b :: l => b.toNat + 256 * num l
theorem add_xor (b m : Nat) (h : b < 256) : b + 256 * m = b ^^^ (256 * m) := by
  have e : 256 * m = m <<< 8 := by rw [Nat.shiftLeft_eq]; omega
  have hb : b < 2 ^ 8 := by omega
  rw [e, Nat.add_comm, Nat.shiftLeft_add_eq_or_of_lt hb]
  apply Nat.eq_of_testBit_eq
  intro i
  simp only [Nat.testBit_or, Nat.testBit_xor, Nat.testBit_shiftLeft]
  by_cases hi : 8 ≤ i
  · have : b.testBit i = false := Nat.testBit_lt_two_pow (Nat.lt_of_lt_of_le hb (Nat.pow_le_pow_right (by omega) hi))
    simp [this, hi]
  · simp [hi]
theorem crcL_num : ∀ (l : List Int) (x : Nat), isB l → crcL l x = stps (8 * l.length) (x ^^^ num l)
  | [], x, _ => by simp [crcL, stps, num]
  | b :: l, x, h => by
    have hb := h b (by simp)
    simp only [crcL, num, List.length_cons]
    rw [crcL_num l _ (fun z hz => h z (by simp [hz])), show 8 * (l.length + 1) = 8 + 8 * l.length from by omega, stps_add, add_xor _ _ (by omega), ← Nat.xor_assoc, stps_lin 8 (x ^^^ b.toNat) (256 * num l), show 256 * num l = num l * 2 ^ 8 from by omega, stps_pow]
/-- Bits turned within 32 bits turn the sum. -/
theorem crc_burst {l m : List Int} (hl : isB l) (hm : isB m) (hlen : m.length = l.length) {W f : Nat} (hW : W < 4294967296) (hf : f ≤ 8 * l.length) (h : num m = num l ^^^ (W * 2 ^ f)) (he : crc m = crc l) : W = 0 := by
  unfold crc at he
  have h1 := congrArg (fun z => z ^^^ 4294967295) he
  simp only [Nat.xor_assoc, Nat.xor_self, Nat.xor_zero] at h1
  rw [crcL_num m _ hm, crcL_num l _ hl, hlen, h, ← Nat.xor_assoc, stps_lin] at h1
  have h2 := congrArg (fun z => stps (8 * l.length) (4294967295 ^^^ num l) ^^^ z) h1
  simp only [← Nat.xor_assoc, Nat.xor_self, Nat.zero_xor] at h2
  rw [show 8 * l.length = f + (8 * l.length - f) from by omega, stps_add, stps_pow] at h2
  exact stps_zero hW h2
theorem mul_xor (a b k : Nat) : (a ^^^ b) * 2 ^ k = (a * 2 ^ k) ^^^ (b * 2 ^ k) := by
  rw [← Nat.shiftLeft_eq, ← Nat.shiftLeft_eq, ← Nat.shiftLeft_eq, Nat.shiftLeft_xor_distrib]
theorem num_set : ∀ (l : List Int) (j b : Nat), isB l → j < l.length → b < 8 → num (l.set j (((l.getD j 0).toNat ^^^ 2 ^ b : Nat) : Int)) = num l ^^^ 2 ^ (8 * j + b)
  | [], j, b, _, h, _ => by simp at h
  | c :: l, 0, b, hl, _, hb => by
    have hc := hl c (by simp)
    have hx : c.toNat ^^^ 2 ^ b < 2 ^ 8 := Nat.xor_lt_two_pow (by omega) (Nat.pow_lt_pow_right (by omega) hb)
    simp only [List.set_cons_zero, num, List.getD_cons_zero, Int.toNat_natCast, Nat.mul_zero, Nat.zero_add]
    rw [add_xor _ _ (by omega), add_xor _ _ (by omega), Nat.xor_assoc, Nat.xor_comm (2 ^ b), ← Nat.xor_assoc]
  | c :: l, j + 1, b, hl, h, hb => by
    have hc := hl c (by simp)
    simp only [List.set_cons_succ, num, List.getD_cons_succ]
    rw [num_set l j b (fun z hz => hl z (by simp [hz])) (by simpa using h) hb, add_xor _ _ (by omega), add_xor _ _ (by omega)]
    rw [show ∀ z : Nat, 256 * z = z * 2 ^ 8 from fun z => by omega, show ∀ z : Nat, 256 * z = z * 2 ^ 8 from fun z => by omega, mul_xor, ← Nat.pow_add, ← Nat.xor_assoc]
    rw [show 8 * (j + 1) + b = 8 * j + b + 8 from by omega]

/-! ### A frame that stands somewhere is taken -/
theorem takeS_at {p l q : List Int} (hp : isB p) (hl : isB l) (hq : isB q) (h : l.length ≤ 1024) : takeS (p ++ (fr l ++ q)) (p.length : Int) = (l, (p.length : Int) + l.length + 6, 0) := by
  rw [takeS_in (by simp; omega)]
  have hd : (p ++ (fr l ++ q)).drop ((p.length : Int)).toNat = fr l ++ q := by simp
  rw [hd]
  have r0 : rd (fr l ++ q) 0 = ((l.length : Int) / 256) % 256 := rfl
  have r1 : rd (fr l ++ q) 1 = (l.length : Int) % 256 := rfl
  have hn : nOf (fr l ++ q) = (l.length : Int) := by unfold nOf; rw [r0, r1]; omega
  have hfl : (fr l ++ q).length = l.length + 6 + q.length := by rw [List.length_append, fr_len]
  have hs : sizeS (fr l ++ q) = ((l.length : Int) + 6, 0) := by
    unfold sizeS
    rw [hn, if_neg (by omega), if_neg (by omega), if_neg (by omega), if_neg (by omega)]
  dsimp only
  rw [hs]
  simp only [if_true, hn, Int.toNat_natCast]
  have e1 : (fr l ++ q).take (l.length + 6) = fr l := by rw [← fr_len l, List.take_left']; rfl
  have e2 : ((fr l ++ q).take (l.length + 2)).drop 2 = l := by
    have : fr l ++ q = (hdr l ++ l) ++ (le4 (crc (hdr l ++ l)) ++ q) := by simp [fr]
    rw [this, List.take_left' (by simp [hdr_len]; omega)]
    rfl
  rw [e2, e1, if_pos rfl]

theorem bytesOf_isB (s : ByteArray) : isB (bytesOf s) := by
  intro x hx
  unfold bytesOf at hx
  obtain ⟨b, _, rfl⟩ := List.mem_map.1 hx
  have := b.toNat_lt
  omega
theorem son_bytesOf (s : ByteArray) : strOfNums (bytesOf s) = s := by
  apply bytes_ext
  rw [bytes_toList, bytes_toList, son_data, bytesOf, List.map_map]
  have : ((fun n : Int => UInt8.ofNat n.toNat) ∘ fun b : UInt8 => (b.toNat : Int)) = id := by
    funext b
    simp
  rw [this, List.map_id]
theorem xor_u8 (a b : Nat) (ha : a < 256) (hb : b < 256) : Go.bits .xor .u8 (a : Int) (b : Int) = ((a ^^^ b : Nat) : Int) := by
  have hx : a ^^^ b < 2 ^ 8 := Nat.xor_lt_two_pow (by omega) (by omega)
  have h1 : (BitVec.ofInt 8 (a : Int)).toNat = a := by
    rw [BitVec.ofInt_natCast, BitVec.toNat_ofNat]; exact Nat.mod_eq_of_lt (by omega)
  have h2 : (BitVec.ofInt 8 (b : Int)).toNat = b := by
    rw [BitVec.ofInt_natCast, BitVec.toNat_ofNat]; exact Nat.mod_eq_of_lt (by omega)
  have hw : ∀ n : Int, IntKind.u8.wrap n = n % 256 := fun n => by simp [IntKind.wrap, IntKind.bits, IntKind.signed]
  show IntKind.u8.wrap ((BitVec.ofInt 8 (a : Int) ^^^ BitVec.ofInt 8 (b : Int)).toNat : Int) = _
  rw [BitVec.toNat_xor, h1, h2, hw]
  omega
theorem shl8 (b : Nat) (h : b < 8) : shl .u8 1 (b : Int) = ((2 ^ b : Nat) : Int) := by
  have : b = 0 ∨ b = 1 ∨ b = 2 ∨ b = 3 ∨ b = 4 ∨ b = 5 ∨ b = 6 ∨ b = 7 := by omega
  rcases this with rfl | rfl | rfl | rfl | rfl | rfl | rfl | rfl <;> decide
theorem le4_inj {n m : Nat} (hn : n < 4294967296) (hm : m < 4294967296) (h : le4 n = le4 m) : n = m := by
  simp only [le4, List.cons.injEq, and_true] at h
  omega
def Inv (l : List Int) (first i : Nat) (X : List Int) (t : Bool) : Prop :=
  ∃ W : Nat, W < 2 ^ i ∧ X.length = l.length + 6 ∧ isB X ∧ X.take 2 = hdr l ∧ X.drop (l.length + 2) = le4 (crc (hdr l ++ l)) ∧ num (X.take (l.length + 2)) = num (hdr l ++ l) ^^^ (W * 2 ^ (16 + first)) ∧ ((W = 0 ∧ t = false ∧ X = fr l) ∨ (W ≠ 0 ∧ t = true))
theorem fr_parts (l : List Int) : fr l = (hdr l ++ l) ++ le4 (crc (hdr l ++ l)) := rfl
theorem Inv_start {l : List Int} (hl : isB l) (first : Nat) : Inv l first 0 (fr l) false := by
  refine ⟨0, by decide, fr_len l, fr_isB hl, rfl, ?_, ?_, .inl ⟨rfl, rfl, rfl⟩⟩
  · rw [fr_parts, List.drop_left' (by simp [hdr_len]; omega)]
  · rw [fr_parts, List.take_left' (by simp [hdr_len]; omega), Nat.zero_mul, Nat.xor_zero]
theorem Inv_more {l : List Int} {first i : Nat} {X : List Int} {t : Bool} (h : Inv l first i X t) : Inv l first (i + 1) X t := by
  obtain ⟨W, h1, h2⟩ := h
  exact ⟨W, Nat.lt_trans h1 (Nat.pow_lt_pow_right (by omega) (by omega)), h2⟩
theorem Inv_step {l : List Int} {first i : Nat} {X : List Int} {t : Bool} (h : Inv l first i X t) (hb : first + i < 8 * l.length) :
    Inv l first (i + 1) (X.set (2 + (first + i) / 8) (((X.getD (2 + (first + i) / 8) 0).toNat ^^^ 2 ^ ((first + i) % 8) : Nat) : Int)) true := by
  obtain ⟨W, hW, hlen, hX, hh, ht, hn, _⟩ := h
  have hj : 2 + (first + i) / 8 < l.length + 2 := by omega
  obtain ⟨j, hje⟩ : ∃ j, 2 + (first + i) / 8 = j := ⟨_, rfl⟩
  obtain ⟨b, hbe⟩ : ∃ b, (first + i) % 8 = b := ⟨_, rfl⟩
  rw [hje] at hj ⊢
  rw [hbe]
  have hb8 : b < 8 := by omega
  have hc := hX (X.getD j 0) (by rw [List.getD_eq_getElem?_getD, List.getElem?_eq_getElem (by omega)]; exact List.getElem_mem _)
  have hv : (X.getD j 0).toNat ^^^ 2 ^ b < 2 ^ 8 := Nat.xor_lt_two_pow (by omega) (Nat.pow_lt_pow_right (by omega) hb8)
  have hp : (2 : Nat) ^ i ≠ 0 := by have := Nat.two_pow_pos i; omega
  refine ⟨W ^^^ 2 ^ i, Nat.xor_lt_two_pow (Nat.lt_trans hW (Nat.pow_lt_pow_right (by omega) (by omega))) (Nat.pow_lt_pow_right (by omega) (by omega)), by rw [List.length_set, hlen], ?_, ?_, ?_, ?_, .inr ⟨?_, rfl⟩⟩
  · intro z hz
    rcases List.mem_or_eq_of_mem_set hz with h | rfl
    · exact hX z h
    · omega
  · rw [List.take_set, List.set_eq_of_length_le (by simp; omega), hh]
  · rw [List.drop_set_of_lt (by omega), ht]
  · rw [List.take_set]
    have hg : (X.take (l.length + 2)).getD j 0 = X.getD j 0 := by
      rw [List.getD_eq_getElem?_getD, List.getD_eq_getElem?_getD, List.getElem?_take_of_lt (by omega)]
    rw [← hg, num_set _ j b (isB_take hX _) (by rw [List.length_take]; omega) hb8, hn, mul_xor, ← Nat.pow_add, show 8 * j + b = i + (16 + first) from by omega, Nat.xor_assoc]
  · intro h0
    have h1 := congrArg (fun z => z ^^^ 2 ^ i) h0
    simp only [Nat.xor_assoc, Nat.xor_self, Nat.xor_zero, Nat.zero_xor] at h1
    omega
theorem Inv_end {l : List Int} (hl : isB l) (h1024 : l.length ≤ 1024) {first i : Nat} {X : List Int} {t : Bool} (h : Inv l first i X t) (hi : i ≤ 32) (hf : first ≤ 8 * l.length) :
    X.length = l.length + 6 ∧ isB X ∧ takeS X 0 = (if t = true then ([], 0, 12) else (l, (l.length : Int) + 6, 0)) := by
  obtain ⟨W, hW, hlen, hX, hh, ht, hn, hc⟩ := h
  refine ⟨hlen, hX, ?_⟩
  rcases hc with ⟨_, rfl, rfl⟩ | ⟨h0, rfl⟩
  · have := takeS_at (p := []) (q := []) (by intro z hz; cases hz) hl (by intro z hz; cases hz) h1024
    simpa using this
  · rw [if_pos rfl, takeS_in (by omega)]
    dsimp only
    rw [show (0 : Int).toNat = 0 from rfl, List.drop_zero]
    have hX2 : X = hdr l ++ X.drop 2 := by rw [← hh, List.take_append_drop]
    have r0 : rd X 0 = ((l.length : Int) / 256) % 256 := by rw [hX2]; rfl
    have r1 : rd X 1 = (l.length : Int) % 256 := by rw [hX2]; rfl
    have hnn : nOf X = (l.length : Int) := by unfold nOf; rw [r0, r1]; omega
    have hs : sizeS X = ((l.length : Int) + 6, 0) := by
      unfold sizeS
      rw [hnn, if_neg (by omega), if_neg (by omega), if_neg (by omega), if_neg (by omega)]
    rw [hs]
    simp only [if_true, hnn, Int.toNat_natCast]
    rw [if_neg]
    intro he
    apply h0
    obtain ⟨Y, hY⟩ : ∃ Y, X.take (l.length + 2) = Y := ⟨_, rfl⟩
    rw [hY] at hn he
    have hYl : Y.length = l.length + 2 := by rw [← hY, List.length_take]; omega
    have hYb : isB Y := by rw [← hY]; exact isB_take hX _
    have hYd : (Y.drop 2).length = l.length := by rw [List.length_drop]; omega
    have hYh : hdr (Y.drop 2) ++ Y.drop 2 = Y := by
      have : hdr (Y.drop 2) = Y.take 2 := by
        rw [← hY, List.take_take, Nat.min_eq_left (by omega), hh]
        unfold hdr
        rw [hY, hYd]
      rw [this, List.take_append_drop]
    have hXs : X.take (l.length + 6) = Y ++ le4 (crc (hdr l ++ l)) := by
      rw [List.take_of_length_le (by omega), ← hY, ← ht, List.take_append_drop]
    rw [fr_parts, hYh, hXs, List.append_right_inj] at he
    have hll : isB (hdr l ++ l) := isB_append (hdr_isB l) hl
    have hce := le4_inj (crc_lt hYb) (crc_lt hll) he
    exact crc_burst hll hYb (by simp [hYl, hdr_len]; omega) (W := W) (f := 16 + first) (Nat.lt_of_lt_of_le hW (Nat.pow_le_pow_right (by omega) hi)) (by simp [hdr_len]; omega) hn hce
theorem Turned_end (s : ByteArray) (h1024 : s.size ≤ 1024) {k : Nat} {X : List Int} {t : Bool} (x2 first i : Int) (n f : Nat) (hX : Inv (bytesOf s) f n X t) (hn : n ≤ 32) (hf : f ≤ 8 * s.size) (hk : 12001 ≤ k) :
    argosylaw06_FrameTurned.j3 k s x2 X first t i false = some true := by
  obtain ⟨k, rfl⟩ : ∃ m, k = m + 1 := ⟨k - 1, by omega⟩
  have hbl := bytesOf_length s
  obtain ⟨e1, e2, e3⟩ := Inv_end (bytesOf_isB s) (by omega) hX hn (by omega)
  simp only [argosylaw06_FrameTurned.j3, Bool.false_eq_true, if_false]
  rw [Take_is e2 (by omega) (by omega), e3]
  simp only [Option.bind_some]
  cases t with
  | true =>
    simp only [if_true, List.length_nil]
    rw [if_pos (by omega), lives_is (by omega)]
    rfl
  | false =>
    simp only [Bool.false_eq_true, if_false]
    rw [son_bytesOf, if_pos rfl, if_pos (by omega)]
    simp only [if_true]
    rw [lives_is (by omega)]
    rfl
theorem Turned_loop (s : ByteArray) (h1024 : s.size ≤ 1024) (x2 : Int) (f : Nat) (hf : f < 8 * s.size) : ∀ (d k i : Nat) (X : List Int) (t : Bool), i + d = 32 → 12003 + 2 * d ≤ k → Inv (bytesOf s) f i X t → argosylaw06_FrameTurned.l0 k s x2 X (f : Int) t (i : Int) = some true := by
  have hbl := bytesOf_length s
  intro d
  induction d with
  | zero =>
    intro k i X t hi hk hX
    obtain ⟨k, rfl⟩ : ∃ m, k = m + 1 := ⟨k - 1, by omega⟩
    simp only [argosylaw06_FrameTurned.l0]
    rw [if_neg (by omega)]
    exact Turned_end s h1024 x2 _ _ i f hX (by omega) (by omega) (by omega)
  | succ d ih =>
    intro k i X t hi hk hX
    obtain ⟨k, rfl⟩ : ∃ m, k = m + 1 + 1 := ⟨k - 2, by omega⟩
    simp only [argosylaw06_FrameTurned.l0]
    rw [if_pos (by omega), w64 (x := (f : Int) + i) (by omega), w64 (x := 8 * (s.size : Int)) (by omega)]
    by_cases hb : f + i < 8 * s.size
    · rw [decide_eq_true (by omega)]
      simp only [argosylaw06_FrameTurned.j3, if_true]
      rw [if_pos (by omega), w64 (x := (i : Int) + 1) (by omega), show (i : Int) + 1 = ((i + 1 : Nat) : Int) from by omega]
      by_cases hbit : Go.bits .and .u32 (shr .u32 x2 (i : Int)) 1 = 1
      · rw [if_pos hbit]
        have hst := Inv_step hX (by omega)
        obtain ⟨W, _, hlen, hXb, _⟩ := hX
        rw [w64 (x := (f : Int) + i) (by omega), show (f : Int) + i = ((f + i : Nat) : Int) from by omega, Int.tdiv_eq_ediv_of_nonneg (by omega), Int.tmod_eq_emod_of_nonneg (by omega), w64 (x := ((f + i : Nat) : Int) / 8) (by omega), w64 (x := 2 + ((f + i : Nat) : Int) / 8) (by omega)]
        rw [if_pos (by omega), if_pos (by omega), if_pos (by omega)]
        have hidx : (2 + ((f + i : Nat) : Int) / 8).toNat = 2 + (f + i) / 8 := by omega
        have hc := hXb (X.getD (2 + (f + i) / 8) 0) (by rw [List.getD_eq_getElem?_getD, List.getElem?_eq_getElem (by omega)]; exact List.getElem_mem _)
        have hrd : rd X (2 + ((f + i : Nat) : Int) / 8) = X.getD (2 + (f + i) / 8) 0 := by unfold rd; rw [hidx]
        have hval : Go.bits .xor .u8 (rd X (2 + ((f + i : Nat) : Int) / 8)) (shl .u8 1 (((f + i : Nat) : Int) % 8)) = (((X.getD (2 + (f + i) / 8) 0).toNat ^^^ 2 ^ ((f + i) % 8) : Nat) : Int) := by
          have hp : 2 ^ ((f + i) % 8) < 2 ^ 8 := Nat.pow_lt_pow_right (by omega) (by omega)
          rw [hrd, show ((f + i : Nat) : Int) % 8 = (((f + i) % 8 : Nat) : Int) from by omega, shl8 _ (by omega)]
          have := xor_u8 (X.getD (2 + (f + i) / 8) 0).toNat (2 ^ ((f + i) % 8)) (by omega) (by omega)
          rwa [Int.toNat_of_nonneg hc.1] at this
        rw [hval, hidx]
        exact ih k (i + 1) _ true (by omega) (by omega) hst
      · rw [if_neg hbit]
        exact ih k (i + 1) X t (by omega) (by omega) (Inv_more hX)
    · rw [decide_eq_false (by omega)]
      exact Turned_end s h1024 x2 _ _ i f hX (by omega) (by omega) (by omega)
theorem j0_true (s : ByteArray) (a m : Int) (k : Nat) (hk : 12001 ≤ k) : argosylaw06_FrameTurned.j0 k s a m true = some true := by
  obtain ⟨k, rfl⟩ : ∃ q, k = q + 1 := ⟨k - 1, by omega⟩
  simp only [argosylaw06_FrameTurned.j0, if_true]
  rw [lives_is (by omega)]
  rfl
theorem j1_false (s : ByteArray) (a m : Int) (k : Nat) (hk : 12001 + 67 ≤ k) (h1024 : s.size ≤ 1024) (h0 : 0 < s.size) : argosylaw06_FrameTurned.j1 k s a m (fr (bytesOf s)) false = some true := by
  obtain ⟨k, rfl⟩ : ∃ q, k = q + 1 := ⟨k - 1, by omega⟩
  simp only [argosylaw06_FrameTurned.j1, Bool.false_eq_true, if_false]
  have hw : ∀ n : Int, IntKind.u64.wrap n = n % 18446744073709551616 := fun n => by simp [IntKind.wrap, IntKind.bits, IntKind.signed]
  rw [w64 (x := 8 * (s.size : Int)) (by omega), hw, hw, show 8 * (s.size : Int) % 18446744073709551616 = 8 * (s.size : Int) from by omega, if_neg (by omega), Int.tmod_eq_emod_of_nonneg (by omega)]
  have e1 : 0 ≤ a % 18446744073709551616 % (8 * (s.size : Int)) := Int.emod_nonneg _ (by omega)
  have e2 : a % 18446744073709551616 % (8 * (s.size : Int)) < 8 * (s.size : Int) := Int.emod_lt_of_pos _ (by omega)
  obtain ⟨f, hf⟩ := Int.eq_ofNat_of_zero_le e1
  rw [hf] at e2 ⊢
  rw [w64 (x := (f : Int)) (by omega)]
  exact Turned_loop s h1024 m f (by omega) 32 _ 0 (fr (bytesOf s)) false (by omega) (by omega) (Inv_start (bytesOf_isB s) f)
theorem j0_false (s : ByteArray) (a m : Int) (k : Nat) (hk : 12001 + 68 ≤ k) (h1024 : s.size ≤ 1024) (h0 : 0 < s.size) : argosylaw06_FrameTurned.j0 k s a m false = some true := by
  have hbl := bytesOf_length s
  obtain ⟨k, rfl⟩ : ∃ q, k = q + 1 := ⟨k - 1, by omega⟩
  simp only [argosylaw06_FrameTurned.j0, Bool.false_eq_true, if_false]
  rw [if_pos (by omega), Put_ok (bytesOf_isB s) (by omega) (by simp) (by omega)]
  simp only [Option.bind_some, List.nil_append, if_true]
  rw [fr_len, hbl, w64 (x := (s.size : Int) + 6) (by omega), show (((s.size + 6 : Nat) : Int) != (s.size : Int) + 6) = false from bne_eq_false_iff_eq.mpr (by omega)]
  exact j1_false s a m k (by omega) h1024 h0
theorem f_is (s : ByteArray) (a m : Int) (k : Nat) (hk : 12001 + 68 ≤ k) : argosylaw06_FrameTurned.f k s a m = some true := by
  unfold argosylaw06_FrameTurned.f
  by_cases hbig : (s.size : Int) > 1024
  · rw [if_pos hbig, j0_true s a m k (by omega)]
  · rw [if_neg hbig]
    by_cases h0 : s.size = 0
    · rw [show ((s.size : Int) == 0) = true from beq_iff_eq.mpr (by omega), j0_true s a m k (by omega)]
    · rw [show ((s.size : Int) == 0) = false from beq_eq_false_iff_ne.mpr (by omega)]
      exact j0_false s a m k hk (by omega) (by omega)
theorem FrameTurned : argosylaw06_FrameTurned.Pure := fun s a m _ _ _ => ⟨20000, f_is s a m 20000 (by decide)⟩

end Go.Proofs.Ytoimhgggeenbaaa.Pure
