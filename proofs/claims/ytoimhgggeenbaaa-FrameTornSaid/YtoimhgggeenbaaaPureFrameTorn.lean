/- Cut off anywhere just the frames that are whole are told: no condition. -/
import Derived.Test.YtoimhgggeenbaaaPFrameTornx4
set_option linter.unusedVariables false
set_option linter.unusedSimpArgs false
namespace Go.Proofs.Ytoimhgggeenbaaa.Pure
open Go.RowKit Go.Proofs.Ytoimhgggeenbaaa.PFrameTorn Go.Proofs.YtoimhgggeenbaaaW.PrintWords Go.Proofs.YtoimhgggeenbaaaW.PrintLast Go.Proofs.YtoimhgggeenbaaaW.PrintMore

/-! ### Bytes -/
def isB (l : List Int) : Prop := ∀ x ∈ l, 0 ≤ x ∧ x < 256
theorem isB_of_wf {l : List Int} (h : ∀ x ∈ l, (Lit.int .u8 x).wf = true) : isB l := by
  intro x hx
  have := h x hx
  simp [Lit.wf, IntKind.min, IntKind.max, IntKind.bits, IntKind.signed] at this
  omega
theorem i64_of_wf {x : Int} (h : (Lit.int .i64 x).wf = true) : -9223372036854775808 ≤ x ∧ x ≤ 9223372036854775807 := by
  simp [Lit.wf, IntKind.min, IntKind.max, IntKind.bits, IntKind.signed] at h
  omega
theorem toList_loop (s : ByteArray) : ∀ (d i : Nat) (r : List UInt8), s.size - i = d → ByteArray.toList.loop s i r = r.reverse ++ s.data.toList.drop i := by
  intro d
  have hl : s.data.toList.length = s.size := Array.length_toList
  induction d with
  | zero =>
    intro i r h
    unfold ByteArray.toList.loop
    rw [if_neg (by omega), List.drop_eq_nil_of_le (by omega), List.append_nil]
  | succ d ih =>
    intro i r h
    unfold ByteArray.toList.loop
    rw [if_pos (by omega), ih (i + 1) _ (by omega)]
    have hi : i < s.data.toList.length := by omega
    rw [List.drop_eq_getElem_cons hi, List.reverse_cons, List.append_assoc]
    have : s.get! i = s.data.toList[i] := by
      have hs : i < s.size := by omega
      simp [ByteArray.get!, getElem!_pos, hs]
    rw [this]; rfl
theorem bytes_toList (s : ByteArray) : s.toList = s.data.toList := by
  unfold ByteArray.toList
  rw [toList_loop s _ 0 [] rfl]
  simp
theorem bytes_ext {a b : ByteArray} (h : a.toList = b.toList) : a = b := by
  rw [bytes_toList, bytes_toList] at h
  cases a; cases b
  congr 1
  exact Array.toList_inj.1 h
theorem son_data (xs : List Int) : (strOfNums xs).data.toList = xs.map fun n => UInt8.ofNat n.toNat := by simp [strOfNums]
theorem son_size (xs : List Int) : (strOfNums xs).size = xs.length := by simp [strOfNums, ByteArray.size]
theorem son_append (xs ys : List Int) : strOfNums (xs ++ ys) = strOfNums xs ++ strOfNums ys := by
  apply bytes_ext
  rw [bytes_toList, bytes_toList, son_data]
  simp [strOfNums]
theorem son_nil : strOfNums [] = (⟨#[]⟩ : ByteArray) := rfl
theorem u8_inj {a b : Int} (ha : 0 ≤ a ∧ a < 256) (hb : 0 ≤ b ∧ b < 256) (h : UInt8.ofNat a.toNat = UInt8.ofNat b.toNat) : a = b := by
  have := congrArg UInt8.toNat h
  simp [UInt8.toNat_ofNat'] at this
  omega
theorem map_u8_inj : ∀ {xs ys : List Int}, isB xs → isB ys → (xs.map fun n => UInt8.ofNat n.toNat) = (ys.map fun n => UInt8.ofNat n.toNat) → xs = ys
  | [], [], _, _, _ => rfl
  | [], y :: ys, _, _, h => by simp at h
  | x :: xs, [], _, _, h => by simp at h
  | x :: xs, y :: ys, hx, hy, h => by
    simp only [List.map_cons, List.cons.injEq] at h
    rw [u8_inj (hx x (by simp)) (hy y (by simp)) h.1, map_u8_inj (fun z hz => hx z (by simp [hz])) (fun z hz => hy z (by simp [hz])) h.2]
theorem son_inj {xs ys : List Int} (hx : isB xs) (hy : isB ys) (h : strOfNums xs = strOfNums ys) : xs = ys := by
  have := congrArg (fun s : ByteArray => s.data.toList) h
  simp only [son_data] at this
  exact map_u8_inj hx hy this
theorem son_toList_inj {xs ys : List Int} (hx : isB xs) (hy : isB ys) : (strOfNums xs).toList = (strOfNums ys).toList ↔ xs = ys :=
  ⟨fun h => son_inj hx hy (bytes_ext h), fun h => by rw [h]⟩
theorem son_bt {xs : List Int} (hx : isB xs) (i : Int) (h0 : 0 ≤ i) (h : i < xs.length) : bt (strOfNums xs) i = rd xs i := by
  have hi : i.toNat < xs.length := by omega
  unfold bt rd
  rw [dif_pos (by rw [son_size]; exact hi)]
  have hg : (strOfNums xs)[i.toNat]'(by rw [son_size]; exact hi) = UInt8.ofNat (xs[i.toNat]).toNat := by
    show (strOfNums xs).data[i.toNat]'_ = _
    simp [strOfNums]
  rw [hg, List.getD_eq_getElem?_getD, List.getElem?_eq_getElem hi]
  have := hx _ (List.getElem_mem hi)
  simp [UInt8.toNat_ofNat']
  omega
theorem son_extract (xs : List Int) (a b : Nat) : (strOfNums xs).extract a b = strOfNums ((xs.take b).drop a) := by
  apply bytes_ext
  rw [bytes_toList, bytes_toList, son_data]
  simp [strOfNums, ByteArray.data_extract, List.drop_take, List.map_take, List.map_drop, List.extract]
theorem isB_append {xs ys : List Int} (hx : isB xs) (hy : isB ys) : isB (xs ++ ys) := by
  intro z hz
  rcases List.mem_append.1 hz with h | h
  · exact hx z h
  · exact hy z h
theorem isB_take {xs : List Int} (h : isB xs) (n : Nat) : isB (xs.take n) := fun z hz => h z (List.mem_of_mem_take hz)
theorem isB_drop {xs : List Int} (h : isB xs) (n : Nat) : isB (xs.drop n) := fun z hz => h z (List.mem_of_mem_drop hz)
theorem rd_at {xs : List Int} (i : Int) (h0 : 0 ≤ i) (h : i < xs.length) : rd xs i = xs[i.toNat]'(by omega) := by
  unfold rd
  rw [List.getD_eq_getElem?_getD, List.getElem?_eq_getElem (by omega)]; rfl
theorem rd_isB {xs : List Int} (hx : isB xs) (i : Int) (h0 : 0 ≤ i) (h : i < xs.length) : 0 ≤ rd xs i ∧ rd xs i < 256 := by
  rw [rd_at i h0 h]
  exact hx _ (List.getElem_mem _)
theorem w64 {x : Int} (h : -9223372036854775808 ≤ x ∧ x ≤ 9223372036854775807) : wrap64 x = x := by
  unfold wrap64
  omega

/-! ### The sum -/
def stp (x : Nat) : Nat := x / 2 ^^^ (if x % 2 = 1 then 2197175160 else 0)
def stps : Nat → Nat → Nat
  | 0, x => x
  | n + 1, x => stps n (stp x)
def crcL : List Int → Nat → Nat
  | [], x => x
  | b :: l, x => crcL l (stps 8 (x ^^^ b.toNat))
def crc (l : List Int) : Nat := crcL l 4294967295 ^^^ 4294967295
theorem wrap_u32' (n : Int) : IntKind.u32.wrap n = n % 4294967296 := by simp [IntKind.wrap, IntKind.bits, IntKind.signed]
theorem xor_u32 (a b : Nat) (ha : a < 4294967296) (hb : b < 4294967296) : Go.bits .xor .u32 (a : Int) (b : Int) = ((a ^^^ b : Nat) : Int) := by
  have hx : a ^^^ b < 2 ^ 32 := Nat.xor_lt_two_pow (by omega) (by omega)
  have h1 : (BitVec.ofInt 32 (a : Int)).toNat = a := by
    rw [BitVec.ofInt_natCast, BitVec.toNat_ofNat]; exact Nat.mod_eq_of_lt (by omega)
  have h2 : (BitVec.ofInt 32 (b : Int)).toNat = b := by
    rw [BitVec.ofInt_natCast, BitVec.toNat_ofNat]; exact Nat.mod_eq_of_lt (by omega)
  show IntKind.u32.wrap ((BitVec.ofInt 32 (a : Int) ^^^ BitVec.ofInt 32 (b : Int)).toNat : Int) = _
  rw [BitVec.toNat_xor, h1, h2, wrap_u32']
  omega
theorem and_u32 (a b : Nat) (ha : a < 4294967296) (hb : b < 4294967296) : Go.bits .and .u32 (a : Int) (b : Int) = ((a &&& b : Nat) : Int) := by
  have hx : a &&& b < 2 ^ 32 := Nat.and_lt_two_pow _ (by omega)
  have h1 : (BitVec.ofInt 32 (a : Int)).toNat = a := by
    rw [BitVec.ofInt_natCast, BitVec.toNat_ofNat]; exact Nat.mod_eq_of_lt (by omega)
  have h2 : (BitVec.ofInt 32 (b : Int)).toNat = b := by
    rw [BitVec.ofInt_natCast, BitVec.toNat_ofNat]; exact Nat.mod_eq_of_lt (by omega)
  show IntKind.u32.wrap ((BitVec.ofInt 32 (a : Int) &&& BitVec.ofInt 32 (b : Int)).toNat : Int) = _
  rw [BitVec.toNat_and, h1, h2, wrap_u32']
  omega
theorem or_u32 (a b : Nat) (ha : a < 4294967296) (hb : b < 4294967296) : Go.bits .or .u32 (a : Int) (b : Int) = ((a ||| b : Nat) : Int) := by
  have hx : a ||| b < 2 ^ 32 := Nat.or_lt_two_pow (by omega) (by omega)
  have h1 : (BitVec.ofInt 32 (a : Int)).toNat = a := by
    rw [BitVec.ofInt_natCast, BitVec.toNat_ofNat]; exact Nat.mod_eq_of_lt (by omega)
  have h2 : (BitVec.ofInt 32 (b : Int)).toNat = b := by
    rw [BitVec.ofInt_natCast, BitVec.toNat_ofNat]; exact Nat.mod_eq_of_lt (by omega)
  show IntKind.u32.wrap ((BitVec.ofInt 32 (a : Int) ||| BitVec.ofInt 32 (b : Int)).toNat : Int) = _
  rw [BitVec.toNat_or, h1, h2, wrap_u32']
  omega
theorem stp_lt {x : Nat} (h : x < 4294967296) : stp x < 4294967296 := by
  have : stp x < 2 ^ 32 := Nat.xor_lt_two_pow (by omega) (by split <;> omega)
  exact this
theorem stps_lt : ∀ (n x : Nat), x < 4294967296 → stps n x < 4294967296
  | 0, _, h => h
  | n + 1, x, h => stps_lt n _ (stp_lt h)
theorem stp_prog (n : Nat) (h : n < 4294967296) : Go.bits .xor .u32 ((n : Int) / 2) (Go.bits .and .u32 2197175160 ((-(Go.bits .and .u32 (n : Int) 1)) % 4294967296)) = ((stp n : Nat) : Int) := by
  have h1 : Go.bits .and .u32 (n : Int) 1 = ((n % 2 : Nat) : Int) := by
    rw [show (1 : Int) = ((1 : Nat) : Int) from rfl, and_u32 n 1 h (by omega), Nat.and_one_is_mod]
  rw [h1, show (n : Int) / 2 = ((n / 2 : Nat) : Int) from by omega]
  unfold stp
  rcases Nat.mod_two_eq_zero_or_one n with h2 | h2
  · rw [h2, if_neg (by omega)]
    rw [show Go.bits .and .u32 2197175160 ((-((0 : Nat) : Int)) % 4294967296) = ((0 : Nat) : Int) from by decide]
    exact xor_u32 _ _ (by omega) (by omega)
  · rw [h2, if_pos rfl]
    rw [show Go.bits .and .u32 2197175160 ((-((1 : Nat) : Int)) % 4294967296) = ((2197175160 : Nat) : Int) from by decide]
    exact xor_u32 _ _ (by omega) (by omega)
theorem Sum_l1 (l : List Int) (L x8 : Int) : ∀ (d m n i : Nat), i + d = 8 → n < 4294967296 → frame_Sum.l1 (m + d + 1) (n : Int) l L x8 (i : Int) = frame_Sum.l0 m ((stps d n : Nat) : Int) l L (wrap64 (x8 + 1)) := by
  intro d
  induction d with
  | zero =>
    intro m n i hi hn
    simp only [frame_Sum.l1, Nat.add_zero]
    rw [if_neg (by omega)]
    rfl
  | succ d ih =>
    intro m n i hi hn
    rw [show m + (d + 1) + 1 = (m + d + 1) + 1 from by omega]
    generalize hK : m + d + 1 = K
    simp only [frame_Sum.l1]
    rw [if_pos (by omega), stp_prog n hn, w64 (by omega), show (i : Int) + 1 = ((i + 1 : Nat) : Int) from by omega, ← hK, ih m _ (i + 1) (by omega) (stp_lt hn)]
    rfl
theorem Sum_l0 (l : List Int) (hl : isB l) (hlen : l.length < 2 ^ 62) : ∀ (d m n i : Nat), i + d = l.length → n < 4294967296 → frame_Sum.l0 (m + 10 * d + 1) (n : Int) l (l.length : Int) (i : Int) = some (((crcL (l.drop i) n ^^^ 4294967295 : Nat)) : Int) := by
  intro d
  induction d with
  | zero =>
    intro m n i hi hn
    simp only [frame_Sum.l0, Nat.mul_zero, Nat.add_zero]
    rw [if_neg (by omega), List.drop_eq_nil_of_le (by omega), Nat.xor_comm]
    congr 1
    exact xor_u32 4294967295 n (by omega) hn
  | succ d ih =>
    intro m n i hi hn
    have h1 : i < l.length := by omega
    have hr : rd l (i : Int) = l[i] := by rw [rd_at _ (by omega) (by omega)]; rfl
    have hb := hl _ (List.getElem_mem h1)
    rw [show m + 10 * (d + 1) + 1 = (m + 10 * d + 1 + 8 + 1) + 1 from by omega]
    simp only [frame_Sum.l0]
    obtain ⟨b, hbn⟩ : ∃ b : Nat, l[i] = (b : Int) := ⟨l[i].toNat, by omega⟩
    rw [if_pos (by omega), if_pos (by omega), if_pos (by omega), hr, hbn, show (b : Int) % 4294967296 = (b : Int) from by omega, xor_u32 n b hn (by omega)]
    have hx : n ^^^ b < 2 ^ 32 := Nat.xor_lt_two_pow (by omega) (by omega)
    rw [show (0 : Int) = ((0 : Nat) : Int) from rfl, Sum_l1 l _ _ 8 _ _ 0 (by omega) hx, w64 (by omega), show (i : Int) + 1 = ((i + 1 : Nat) : Int) from by omega, ih m _ (i + 1) (by omega) (stps_lt 8 _ hx)]
    rw [List.drop_eq_getElem_cons h1]
    simp only [crcL, hbn, Int.toNat_natCast]
theorem Sum_is {k : Nat} {l : List Int} (hl : isB l) (hlen : l.length < 2 ^ 62) (hk : 10 * l.length + 1 ≤ k) : frame_Sum.f k l = some ((crc l : Nat) : Int) := by
  unfold frame_Sum.f crc
  have := Sum_l0 l hl hlen l.length (k - (10 * l.length + 1)) 4294967295 0 (by omega) (by omega)
  rw [show k - (10 * l.length + 1) + 10 * l.length + 1 = k from by omega] at this
  exact this
theorem crcL_lt : ∀ (l : List Int) (x : Nat), isB l → x < 4294967296 → crcL l x < 4294967296
  | [], _, _, h => h
  | b :: l, x, hl, h => by
    have hb := hl b (by simp)
    have hx : x ^^^ b.toNat < 2 ^ 32 := Nat.xor_lt_two_pow (by omega) (by omega)
    exact crcL_lt l _ (fun z hz => hl z (by simp [hz])) (stps_lt 8 _ hx)
theorem crc_lt {l : List Int} (hl : isB l) : crc l < 4294967296 := by
  have := crcL_lt l 4294967295 hl (by omega)
  have h2 : crcL l 4294967295 ^^^ 4294967295 < 2 ^ 32 := Nat.xor_lt_two_pow (by omega) (by omega)
  exact h2

/-! ### A frame -/
def hdr (l : List Int) : List Int := [((l.length : Int) / 256) % 256, (l.length : Int) % 256]
def le4 (n : Nat) : List Int := [(n : Int) % 256, (n : Int) / 256 % 256, (n : Int) / 65536 % 256, (n : Int) / 16777216 % 256]
def fr (l : List Int) : List Int := hdr l ++ l ++ le4 (crc (hdr l ++ l))
theorem hdr_isB (l : List Int) : isB (hdr l) := by
  intro x hx
  simp [hdr] at hx
  omega
theorem le4_isB (n : Nat) : isB (le4 n) := by
  intro x hx
  simp [le4] at hx
  omega
theorem hdr_len (l : List Int) : (hdr l).length = 2 := rfl
theorem le4_len (n : Nat) : (le4 n).length = 4 := rfl
theorem fr_len (l : List Int) : (fr l).length = l.length + 6 := by simp [fr, hdr_len, le4_len]; omega
theorem fr_isB {l : List Int} (h : isB l) : isB (fr l) := isB_append (isB_append (hdr_isB l) h) (le4_isB _)
theorem Put_big {k : Nat} {l0 l1 : List Int} (h : 1024 < l1.length) : frame_Put.f k l0 l1 = some ([], 5) := by
  unfold frame_Put.f
  rw [if_pos (by omega)]
theorem Put_ok {k : Nat} {l0 l1 : List Int} (hl : isB l1) (h : l1.length ≤ 1024) (h0 : l0.length ≤ 140737488350000) (hk : 11000 ≤ k) : frame_Put.f k l0 l1 = some (l0 ++ fr l1, 0) := by
  unfold frame_Put.f
  rw [if_neg (by omega)]
  simp only [Option.bind_some]
  rw [if_pos (by simp; omega)]
  have hs : frame_Sum.f k ([((l1.length : Int) / 256) % 256, ((l1.length : Int)) % 256] ++ l1) = some ((crc (hdr l1 ++ l1) : Nat) : Int) :=
    Sum_is (isB_append (hdr_isB l1) hl) (by simp; omega) (by simp; omega)
  rw [hs]
  simp only [Option.bind_some]
  rw [if_pos (by simp; omega), if_pos (by omega), if_pos (by omega), if_pos (by simp), if_pos (by simp; omega)]
  congr 2
  rw [show ((l0.length : Int) : Int).toNat = l0.length from by omega, List.take_length]
  rfl

/-! ### Taking a frame -/
def nOf (q : List Int) : Int := rd q 0 * 256 + rd q 1
theorem nOf_is {q : List Int} (hq : isB q) (h : 2 ≤ q.length) : 0 ≤ nOf q ∧ nOf q ≤ 65535 := by
  have h0 := rd_isB hq 0 (by omega) (by omega)
  have h1 := rd_isB hq 1 (by omega) (by omega)
  unfold nOf; omega
theorem wraps_i64' : ∀ n : Int, 0 ≤ n → n < 2 ^ 62 → IntKind.i64.wrap n = n := by
  intro n h0 h1
  simp [IntKind.wrap, IntKind.bits, IntKind.signed]
  omega
theorem wraps_u32' : ∀ n : Int, 0 ≤ n → n < 2 ^ 32 → IntKind.u32.wrap n = n := by
  intro n h0 h1
  rw [wrap_u32']
  omega
def sizeS (q : List Int) : Int × Int := if q.length = 0 then (0, 16) else if q.length < 2 then (0, 3) else if nOf q > 1024 then (0, 5) else if (q.length : Int) < nOf q + 6 then (0, 3) else (nOf q + 6, 0)
theorem size_is {q : List Int} (hq : isB q) (hl : q.length < 2 ^ 62) : frame_size.f q = some (sizeS q) := by
  unfold frame_size.f sizeS
  by_cases h0 : q.length = 0
  · rw [if_pos (by omega), if_pos h0]
  · rw [if_neg (by omega), if_neg h0]
    by_cases h2 : q.length < 2
    · rw [if_pos (by omega), if_pos h2]
    · rw [if_neg (by omega), if_neg h2, if_pos (by omega), if_pos (by omega)]
      have r0 := rd_isB hq 0 (by omega) (by omega)
      have r1 := rd_isB hq 1 (by omega) (by omega)
      have hn := nOf_is hq (by omega)
      have e : Go.bits .or .i64 (wrap64 ((wrap64 (rd q 0)) * 256)) (wrap64 (rd q 1)) = nOf q := by
        rw [w64 (x := rd q 0) (by omega), w64 (x := rd q 1) (by omega), w64 (by omega)]
        exact bits_join .i64 62 (by decide) wraps_i64' 8 _ _ (by omega) (by omega) (by omega) (by omega) (by omega) (by omega)
      rw [e]
      by_cases h3 : nOf q > 1024
      · rw [if_pos h3, if_pos h3]
      · rw [if_neg h3, if_neg h3, w64 (x := 2 + nOf q) (by omega), w64 (by omega)]
        by_cases h4 : (q.length : Int) < nOf q + 6
        · rw [if_pos (by omega), if_pos h4]
        · rw [if_neg (by omega), if_neg h4]
          congr 2
          omega
/-- The part of a list from a on. -/
def takeS (l : List Int) (a : Int) : List Int × Int × Int :=
  if a < 0 ∨ a > l.length then ([], 0, 2)
  else let q := l.drop a.toNat
    if (sizeS q).2 = 0 then (let n := (nOf q).toNat; if fr ((q.take (n + 2)).drop 2) = q.take (n + 6) then ((q.take (n + 2)).drop 2, a + nOf q + 6, 0) else ([], 0, 12))
    else ([], 0, (sizeS q).2)
theorem le4_join {c0 c1 c2 c3 : Int} (h0 : 0 ≤ c0 ∧ c0 < 256) (h1 : 0 ≤ c1 ∧ c1 < 256) (h2 : 0 ≤ c2 ∧ c2 < 256) (h3 : 0 ≤ c3 ∧ c3 < 256) :
    Go.bits .or .u32 (Go.bits .or .u32 (Go.bits .or .u32 (c0 % 4294967296) ((c1 % 4294967296) * 256 % 4294967296)) ((c2 % 4294967296) * 65536 % 4294967296)) ((c3 % 4294967296) * 16777216 % 4294967296) = c0 + c1 * 256 + c2 * 65536 + c3 * 16777216 := by
  have w : ∀ {x : Int}, 0 ≤ x → x < 4294967296 → x % 4294967296 = x := fun a b => by omega
  have f : ∀ a b : Nat, a < 4294967296 → b < 4294967296 → Go.bits .or .u32 (a : Int) (b : Int) = Go.bits .or .u32 (b : Int) (a : Int) := fun a b ha hb => by rw [or_u32 a b ha hb, or_u32 b a hb ha, Nat.or_comm]
  have f' : ∀ x y : Int, 0 ≤ x → x < 4294967296 → 0 ≤ y → y < 4294967296 → Go.bits .or .u32 x y = Go.bits .or .u32 y x := by
    intro x y hx hx' hy hy'
    have := f x.toNat y.toNat (by omega) (by omega)
    rwa [Int.toNat_of_nonneg hx, Int.toNat_of_nonneg hy] at this
  have j : ∀ (i : Nat) (x y : Int), 0 ≤ x → x % 2 ^ i = 0 → x < 2 ^ 32 → 0 ≤ y → y < 2 ^ i → y < 2 ^ 32 → Go.bits .or .u32 y x = y + x := by
    intro i x y a b c d e g
    rw [f' _ _ d (by omega) a (by omega), bits_join .u32 32 (by decide) wraps_u32' i x y a b c d e g]
    omega
  rw [w h0.1 (by omega), w h1.1 (by omega), w h2.1 (by omega), w h3.1 (by omega), w (by omega) (by omega), w (by omega) (by omega), w (by omega) (by omega)]
  rw [j 8 (c1 * 256) c0 (by omega) (by omega) (by omega) (by omega) (by omega) (by omega), j 16 (c2 * 65536) (c0 + c1 * 256) (by omega) (by omega) (by omega) (by omega) (by omega) (by omega), j 24 (c3 * 16777216) (c0 + c1 * 256 + c2 * 65536) (by omega) (by omega) (by omega) (by omega) (by omega) (by omega)]
theorem le4_eq {n : Nat} (hn : n < 4294967296) {c0 c1 c2 c3 : Int} (h0 : 0 ≤ c0 ∧ c0 < 256) (h1 : 0 ≤ c1 ∧ c1 < 256) (h2 : 0 ≤ c2 ∧ c2 < 256) (h3 : 0 ≤ c3 ∧ c3 < 256) :
    le4 n = [c0, c1, c2, c3] ↔ (n : Int) = c0 + c1 * 256 + c2 * 65536 + c3 * 16777216 := by
  simp only [le4, List.cons.injEq, and_true]
  constructor
  · rintro ⟨a, b, c, d⟩; omega
  · intro h
    refine ⟨?_, ?_, ?_, ?_⟩ <;> omega
theorem four {z : List Int} (h : z.length = 4) : z = [rd z 0, rd z 1, rd z 2, rd z 3] := by
  match z, h with
  | [a, b, c, d], _ => rfl
theorem fr_iff {q : List Int} (hq : isB q) (h2 : 2 ≤ q.length) (n : Nat) (hn : nOf q = n) (h : n + 6 ≤ q.length) :
    fr ((q.take (n + 2)).drop 2) = q.take (n + 6) ↔ (crc (q.take (n + 2)) : Int) = rd (q.drop (n + 2)) 0 + rd (q.drop (n + 2)) 1 * 256 + rd (q.drop (n + 2)) 2 * 65536 + rd (q.drop (n + 2)) 3 * 16777216 := by
  have hs : ((q.take (n + 2)).drop 2).length = n := by simp; omega
  have hb := nOf_is hq h2
  match q, h2 with
  | b0 :: b1 :: r, _ =>
    have r0 : rd (b0 :: b1 :: r) 0 = b0 := rfl
    have r1 : rd (b0 :: b1 :: r) 1 = b1 := rfl
    have hb0 := hq b0 (by simp)
    have hb1 := hq b1 (by simp)
    have hn' : b0 * 256 + b1 = n := hn
    have e1 : (b0 :: b1 :: r).take (n + 2) = b0 :: b1 :: r.take n := rfl
    have e2 : (b0 :: b1 :: r).take (n + 6) = b0 :: b1 :: r.take (n + 4) := rfl
    have e3 : (b0 :: b1 :: r).drop (n + 2) = r.drop n := rfl
    rw [e1, e2, e3]
    rw [e1] at hs
    have e4 : (b0 :: b1 :: r.take n).drop 2 = r.take n := rfl
    rw [e4]
    rw [e4] at hs
    have eh : hdr (r.take n) = [b0, b1] := by
      simp only [hdr, hs, List.cons.injEq, and_true]
      omega
    have et : r.take (n + 4) = r.take n ++ (r.drop n).take 4 := List.take_add
    unfold fr
    rw [eh, et]
    have el : ((r.drop n).take 4).length = 4 := by simp at h ⊢; omega
    have e5 := four el
    have hr : isB (r.drop n) := isB_drop (fun z hz => hq z (by simp [hz])) n
    have hld : 4 ≤ (r.drop n).length := by simp at h ⊢; omega
    have g : ∀ i : Nat, i < 4 → rd ((r.drop n).take 4) (i : Int) = rd (r.drop n) (i : Int) := by
      intro i hi
      unfold rd
      rw [List.getD_eq_getElem?_getD, List.getD_eq_getElem?_getD, List.getElem?_take_of_lt (by omega)]
    have g0 := g 0 (by omega)
    have g1 := g 1 (by omega)
    have g2 := g 2 (by omega)
    have g3 := g 3 (by omega)
    rw [e5]
    simp only [Int.natCast_zero, Int.natCast_one] at g0 g1 g2 g3
    have k0 := rd_isB hr 0 (by omega) (by omega)
    have k1 := rd_isB hr 1 (by omega) (by omega)
    have k2 := rd_isB hr 2 (by omega) (by omega)
    have k3 := rd_isB hr 3 (by omega) (by omega)
    have hc : crc ([b0, b1] ++ r.take n) < 4294967296 := crc_lt (isB_append (fun z hz => by simp at hz; rcases hz with rfl | rfl <;> assumption) (isB_take (fun z hz => hq z (by simp [hz])) n))
    rw [show (b0 :: b1 :: r.take n) = [b0, b1] ++ r.take n from rfl]
    rw [show b0 :: b1 :: (r.take n ++ [rd ((r.drop n).take 4) 0, rd ((r.drop n).take 4) 1, rd ((r.drop n).take 4) 2, rd ((r.drop n).take 4) 3]) = [b0, b1] ++ r.take n ++ [rd ((r.drop n).take 4) 0, rd ((r.drop n).take 4) 1, rd ((r.drop n).take 4) 2, rd ((r.drop n).take 4) 3] from by simp]
    rw [List.append_right_inj, ← le4_eq hc k0 k1 k2 k3]
    rw [show rd ((r.drop n).take 4) 0 = _ from g0, show rd ((r.drop n).take 4) 1 = _ from g1, show rd ((r.drop n).take 4) 2 = _ from g2, show rd ((r.drop n).take 4) 3 = _ from g3]
    rfl

theorem takeS_out {l : List Int} {a : Int} (h : a < 0 ∨ a > l.length) : takeS l a = ([], 0, 2) := by unfold takeS; rw [if_pos h]
theorem takeS_in {l : List Int} {a : Int} (h : ¬ (a < 0 ∨ a > l.length)) : takeS l a = (let q := l.drop a.toNat
    if (sizeS q).2 = 0 then (let n := (nOf q).toNat; if fr ((q.take (n + 2)).drop 2) = q.take (n + 6) then ((q.take (n + 2)).drop 2, a + nOf q + 6, 0) else ([], 0, 12))
    else ([], 0, (sizeS q).2)) := by unfold takeS; rw [if_neg h]
theorem sizeS_ok {q : List Int} (h : (sizeS q).2 = 0) : 2 ≤ q.length ∧ nOf q ≤ 1024 ∧ nOf q + 6 ≤ q.length ∧ sizeS q = (nOf q + 6, 0) := by
  unfold sizeS at h ⊢
  by_cases h0 : q.length = 0
  · rw [if_pos h0] at h; cases h
  · rw [if_neg h0] at h ⊢
    by_cases h2 : q.length < 2
    · rw [if_pos h2] at h; cases h
    · rw [if_neg h2] at h ⊢
      by_cases h3 : nOf q > 1024
      · rw [if_pos h3] at h; cases h
      · rw [if_neg h3] at h ⊢
        by_cases h4 : (q.length : Int) < nOf q + 6
        · rw [if_pos h4] at h; cases h
        · rw [if_neg h4]
          exact ⟨by omega, by omega, by omega, rfl⟩
theorem Take_is {k : Nat} {l : List Int} {a : Int} (hl : isB l) (hlen : l.length ≤ 140737488350000) (hk : 11002 ≤ k) : frame_Take.f k l a = some (takeS l a) := by
  obtain ⟨k, rfl⟩ : ∃ m, k = m + 1 := ⟨k - 1, by omega⟩
  unfold frame_Take.f
  by_cases ha : a < 0 ∨ a > l.length
  · rw [takeS_out ha]
    by_cases h : a < 0
    · rw [if_pos h]
      simp only [frame_Take.j0, if_true]
    · rw [if_neg h, decide_eq_true (by omega)]
      simp only [frame_Take.j0, if_true]
  · rw [if_neg (by omega), decide_eq_false (by omega), takeS_in ha]
    simp only [frame_Take.j0, Bool.false_eq_true, if_false]
    rw [if_pos (by omega), if_pos (by omega)]
    have hq : isB (l.drop a.toNat) := isB_drop hl _
    rw [size_is hq (by simp; omega)]
    simp only [Option.bind_some]
    have hql : ((l.drop a.toNat).length : Int) = l.length - a := by simp; omega
    have hqd : ∀ z : Nat, (l.take (a.toNat + z)).drop a.toNat = (l.drop a.toNat).take z := by intro z; rw [List.drop_take]; congr 1; omega
    obtain ⟨q, hqe⟩ : ∃ q, l.drop a.toNat = q := ⟨_, rfl⟩
    rw [hqe] at hq hql hqd ⊢
    by_cases hs : (sizeS q).2 = 0
    · rw [if_pos hs, if_pos hs]
      obtain ⟨s1, s2, s3, s4⟩ := sizeS_ok hs
      have hn := nOf_is hq s1
      obtain ⟨n, hne⟩ : ∃ n : Nat, nOf q = n := ⟨(nOf q).toNat, by omega⟩
      rw [s4]
      simp only []
      have hiff := fr_iff hq s1 n hne (by omega)
      rw [hne] at s2 s3 hn ⊢
      rw [w64 (x := a + ((n : Int) + 6)) (by omega), w64 (x := (n : Int) + 6 - 4) (by omega)]
      rw [if_pos (by omega), if_pos (by omega)]
      rw [show (a + ((n : Int) + 6)).toNat = a.toNat + (n + 6) from by omega, hqd (n + 6)]
      have hl6 : (q.take (n + 6)).length = n + 6 := by rw [List.length_take]; omega
      rw [if_pos (by omega), if_pos (by omega)]
      rw [show ((n : Int) + 6 - 4).toNat = n + 2 from by omega]
      have e1 : (q.take (n + 6)).take (n + 2) = q.take (n + 2) := by rw [List.take_take]; congr 1; omega
      have e2 : (q.take (n + 6)).drop (n + 2) = (q.drop (n + 2)).take 4 := by rw [List.drop_take]; congr 1; omega
      rw [e1, e2]
      rw [Sum_is (isB_take hq _) (by rw [List.length_take]; omega) (by rw [List.length_take]; omega)]
      simp only [Option.bind_some]
      have hl4 : ((q.drop (n + 2)).take 4).length = 4 := by simp; omega
      rw [if_pos (by omega), if_pos (by omega), if_pos (by omega), if_pos (by omega)]
      have hr : isB (q.drop (n + 2)) := isB_drop hq _
      have hld : 4 ≤ (q.drop (n + 2)).length := by simp; omega
      have g : ∀ i : Nat, i < 4 → rd ((q.drop (n + 2)).take 4) (i : Int) = rd (q.drop (n + 2)) (i : Int) := by
        intro i hi
        unfold rd
        rw [List.getD_eq_getElem?_getD, List.getD_eq_getElem?_getD, List.getElem?_take_of_lt (by omega)]
      have g0 : rd ((q.drop (n + 2)).take 4) 0 = rd (q.drop (n + 2)) 0 := g 0 (by omega)
      have g1 : rd ((q.drop (n + 2)).take 4) 1 = rd (q.drop (n + 2)) 1 := g 1 (by omega)
      have g2 : rd ((q.drop (n + 2)).take 4) 2 = rd (q.drop (n + 2)) 2 := g 2 (by omega)
      have g3 : rd ((q.drop (n + 2)).take 4) 3 = rd (q.drop (n + 2)) 3 := g 3 (by omega)
      have k0 := rd_isB hr 0 (by omega) (by omega)
      have k1 := rd_isB hr 1 (by omega) (by omega)
      have k2 := rd_isB hr 2 (by omega) (by omega)
      have k3 := rd_isB hr 3 (by omega) (by omega)
      rw [g0, g1, g2, g3, le4_join k0 k1 k2 k3]
      rw [show ((n : Int)).toNat = n from by omega]
      by_cases hc : fr ((q.take (n + 2)).drop 2) = q.take (n + 6)
      · rw [if_pos hc]
        rw [if_pos (hiff.1 hc), if_pos (by omega), if_pos (by simp; omega)]
        simp only [List.nil_append]
        congr 3
        omega
      · rw [if_neg hc, if_neg (fun h => hc (hiff.2 h))]
    · rw [if_neg hs, if_neg hs]

/-! ### The examples -/
theorem lives_is {k : Nat} (hk : 12000 ≤ k) : argosylaw06_lives.f k = some true := by
  have hc : crc [0, 1, 65] < 4294967296 := by decide +kernel
  have hf : fr [65] = [0, 1, 65] ++ le4 (crc [0, 1, 65]) := rfl
  have hb : isB [65] := by intro x hx; simp at hx; omega
  have hfb : isB (fr [65]) := fr_isB hb
  have t0 : takeS (fr [65]) 0 = ([65], 7, 0) := by decide +kernel
  have t7 : takeS (fr [65]) 7 = ([], 0, 16) := by decide +kernel
  have hs : crc [49, 50, 51, 52, 53, 54, 55, 56, 57] = 3808858755 := by decide +kernel
  unfold argosylaw06_lives.f
  rw [Put_ok hb (by simp) (by simp) (by omega)]
  simp only [Option.bind_some, List.nil_append]
  rw [Take_is hfb (by rw [fr_len]; simp) (by omega), t0]
  simp only [Option.bind_some]
  rw [Take_is hfb (by rw [fr_len]; simp) (by omega), t7]
  simp only [Option.bind_some]
  rw [Sum_is (by intro x hx; simp at hx; omega) (by simp) (by simp; omega), hs]
  simp only [Option.bind_some]
  rw [if_pos]
  refine ⟨by decide, by rw [fr_len]; decide, ?_, rfl, ?_, rfl, rfl, rfl⟩
  · rw [bytes_toList, son_data, hf]; rfl
  · rw [bytes_toList, son_data]; rfl

/-! ### A frame that stands somewhere is taken -/
theorem takeS_at {p l q : List Int} (hp : isB p) (hl : isB l) (hq : isB q) (h : l.length ≤ 1024) : takeS (p ++ (fr l ++ q)) (p.length : Int) = (l, (p.length : Int) + l.length + 6, 0) := by
  rw [takeS_in (by simp; omega)]
  have hd : (p ++ (fr l ++ q)).drop ((p.length : Int)).toNat = fr l ++ q := by simp
  rw [hd]
  have r0 : rd (fr l ++ q) 0 = ((l.length : Int) / 256) % 256 := rfl
  have r1 : rd (fr l ++ q) 1 = (l.length : Int) % 256 := rfl
  have hn : nOf (fr l ++ q) = (l.length : Int) := by unfold nOf; rw [r0, r1]; omega
  have hfl : (fr l ++ q).length = l.length + 6 + q.length := by rw [List.length_append, fr_len]
  have hs : sizeS (fr l ++ q) = ((l.length : Int) + 6, 0) := by
    unfold sizeS
    rw [hn, if_neg (by omega), if_neg (by omega), if_neg (by omega), if_neg (by omega)]
  dsimp only
  rw [hs]
  simp only [if_true, hn, Int.toNat_natCast]
  have e1 : (fr l ++ q).take (l.length + 6) = fr l := by rw [← fr_len l, List.take_left']; rfl
  have e2 : ((fr l ++ q).take (l.length + 2)).drop 2 = l := by
    have : fr l ++ q = (hdr l ++ l) ++ (le4 (crc (hdr l ++ l)) ++ q) := by simp [fr]
    rw [this, List.take_left' (by simp [hdr_len]; omega)]
    rfl
  rw [e2, e1, if_pos rfl]

/-! ### A string's bytes -/
theorem bytesOf_isB (s : ByteArray) : isB (bytesOf s) := by
  intro x hx
  unfold bytesOf at hx
  obtain ⟨b, _, rfl⟩ := List.mem_map.1 hx
  have := b.toNat_lt
  omega
theorem son_bytesOf (s : ByteArray) : strOfNums (bytesOf s) = s := by
  apply bytes_ext
  rw [bytes_toList, bytes_toList, son_data, bytesOf, List.map_map]
  have : ((fun n : Int => UInt8.ofNat n.toNat) ∘ fun b : UInt8 => (b.toNat : Int)) = id := by
    funext b
    simp
  rw [this, List.map_id]

/-! ### All frames -/
theorem takeS_ok {l : List Int} {a : Int} (hl : isB l) (h : (takeS l a).2.2 = 0) : 0 ≤ a ∧ a ≤ l.length ∧ a + 6 ≤ (takeS l a).2.1 ∧ (takeS l a).2.1 ≤ l.length ∧ isB (takeS l a).1 ∧ ((takeS l a).1.length : Int) + 6 + a = (takeS l a).2.1 := by
  by_cases ha : a < 0 ∨ a > l.length
  · rw [takeS_out ha] at h; cases h
  · rw [takeS_in ha] at h ⊢
    simp only [] at h ⊢
    by_cases hs : (sizeS (l.drop a.toNat)).2 = 0
    · rw [if_pos hs] at h ⊢
      obtain ⟨s1, s2, s3, s4⟩ := sizeS_ok hs
      have hn := nOf_is (isB_drop hl _) s1
      by_cases hc : fr (((l.drop a.toNat).take ((nOf (l.drop a.toNat)).toNat + 2)).drop 2) = (l.drop a.toNat).take ((nOf (l.drop a.toNat)).toNat + 6)
      · rw [if_pos hc]
        simp only [List.length_drop] at s3
        refine ⟨by omega, by omega, by simp only []; omega, by simp only []; omega, isB_drop (isB_take (isB_drop hl _) _) _, ?_⟩
        simp only [List.length_drop, List.length_take]
        omega
      · rw [if_neg hc] at h; cases h
    · rw [if_neg hs] at h
      exact absurd h hs
theorem takeS_end {l : List Int} {a : Int} (ha : a = l.length) : takeS l a = ([], 0, 16) := by
  subst ha
  rw [takeS_in (by omega)]
  have : l.drop ((l.length : Int)).toNat = [] := List.drop_eq_nil_of_le (by omega)
  rw [this]
  rfl
def allS : Nat → List Int → List (List Int) → Int → List (List Int) × Int × Int
  | 0, l, out, a => (out, a, (takeS l a).2.2)
  | d + 1, l, out, a => if (takeS l a).2.2 = 0 then allS d l (out ++ [(takeS l a).1]) (takeS l a).2.1 else (out, a, (takeS l a).2.2)
theorem All_l0 (l : List Int) (hl : isB l) (hlen : l.length ≤ 1000000000000) : ∀ (d k : Nat) (out : List (List Int)) (a : Int), 0 ≤ a → a ≤ l.length → l.length - a ≤ d → d + 11003 ≤ k → 6 * (out.length : Int) ≤ a → frame_All.l0 k l out a = some (allS d l out a) := by
  intro d
  induction d with
  | zero =>
    intro k out a h0 h1 h2 hk ho
    obtain ⟨k, rfl⟩ : ∃ m, k = m + 1 := ⟨k - 1, by omega⟩
    simp only [frame_All.l0, allS]
    rw [Take_is hl (by omega) (by omega), takeS_end (by omega)]
    rfl
  | succ d ih =>
    intro k out a h0 h1 h2 hk ho
    obtain ⟨k, rfl⟩ : ∃ m, k = m + 1 := ⟨k - 1, by omega⟩
    simp only [frame_All.l0, allS]
    rw [Take_is hl (by omega) (by omega)]
    simp only [Option.bind_some]
    by_cases he : (takeS l a).2.2 = 0
    · obtain ⟨t1, t2, t3, t4, t5, t6⟩ := takeS_ok hl he
      rw [if_pos he, if_pos he, if_pos (by omega), ih k _ _ (by omega) t4 (by omega) (by omega) (by simp; omega)]
    · rw [if_neg he, if_neg he]
theorem All_is {k : Nat} {l : List Int} (hl : isB l) (hlen : l.length ≤ 1000000000000) (hk : l.length + 11003 ≤ k) : frame_All.f k l = some (allS l.length l [] 0) := by
  unfold frame_All.f
  exact All_l0 l hl hlen l.length k [] 0 (by omega) (by omega) (by omega) hk (by simp)
theorem allS_ok (l : List Int) (hl : isB l) : ∀ (d : Nat) (out : List (List Int)) (a : Int), 0 ≤ a → a ≤ l.length → 6 * (out.length : Int) ≤ a → 6 * ((allS d l out a).1.length : Int) ≤ l.length := by
  intro d
  induction d with
  | zero => intro out a h0 h1 ho; simp only [allS]; omega
  | succ d ih =>
    intro out a h0 h1 ho
    simp only [allS]
    by_cases he : (takeS l a).2.2 = 0
    · obtain ⟨t1, t2, t3, t4, t5, t6⟩ := takeS_ok hl he
      rw [if_pos he]
      exact ih _ _ (by omega) t4 (by simp; omega)
    · rw [if_neg he]
      simp only []
      omega
theorem Same6_loop (b : List (List Int)) (hb : b.length ≤ 1152921504606846976) : ∀ (d k i : Nat), i + d = b.length → d < k → argosyref06_Same.l0 k (b.map strOfNums) b (i : Int) = some true := by
  intro d
  induction d with
  | zero =>
    intro k i hi hk
    obtain ⟨k, rfl⟩ : ∃ m, k = m + 1 := ⟨k - 1, by omega⟩
    simp only [argosyref06_Same.l0]
    rw [if_neg (by simp; omega)]
  | succ d ih =>
    intro k i hi hk
    obtain ⟨k, rfl⟩ : ∃ m, k = m + 1 := ⟨k - 1, by omega⟩
    simp only [argosyref06_Same.l0]
    have h1 : i < b.length := by omega
    have e : rdOf ByteArray.empty (b.map strOfNums) (i : Int) = strOfNums (rd_L2 b (i : Int)) := by
      unfold rdOf rd_L2
      simp [List.getD_eq_getElem?_getD, h1]
    rw [if_pos (by simp; omega), if_pos (by omega), if_pos (by omega), e, if_pos rfl, w64 (by omega), show (i : Int) + 1 = ((i + 1 : Nat) : Int) from by omega, ih k (i + 1) (by omega) (by omega)]
theorem Same6 {k : Nat} {b : List (List Int)} (hb : b.length ≤ 1152921504606846976) (hk : b.length < k) : argosyref06_Same.f k (b.map strOfNums) b = some true := by
  unfold argosyref06_Same.f
  rw [if_pos (by simp)]
  have := Same6_loop b hb b.length k 0 (by omega) hk
  simpa using this

/-! ### Frames, one behind the other -/
def cat : List (List Int) → List Int
  | [] => []
  | b :: bs => fr b ++ cat bs
theorem cat_isB : ∀ {bs : List (List Int)}, (∀ b ∈ bs, isB b ∧ b.length ≤ 1024) → isB (cat bs)
  | [], _ => fun z hz => by cases hz
  | b :: bs, h => isB_append (fr_isB (h b (by simp)).1) (cat_isB (fun z hz => h z (by simp [hz])))
theorem cat_len : ∀ {bs : List (List Int)}, (∀ b ∈ bs, isB b ∧ b.length ≤ 1024) → (cat bs).length ≤ 1030 * bs.length
  | [], _ => by simp [cat]
  | b :: bs, h => by
    have := cat_len (bs := bs) (fun z hz => h z (by simp [hz]))
    have := (h b (by simp)).2
    simp only [cat, List.length_append, fr_len, List.length_cons]
    omega
theorem small_loop (l : List ByteArray) (hl : l.length ≤ 20) : ∀ (d k i : Nat), i + d = l.length → d < k → ∃ b, argosylaw06_small.l0 k l (i : Int) = some b ∧ (b = true → ∀ s ∈ l.drop i, s.size ≤ 1024) := by
  intro d
  induction d with
  | zero =>
    intro k i hi hk
    obtain ⟨k, rfl⟩ : ∃ m, k = m + 1 := ⟨k - 1, by omega⟩
    simp only [argosylaw06_small.l0]
    rw [if_neg (by omega)]
    exact ⟨true, rfl, fun _ s hs => by rw [List.drop_eq_nil_of_le (by omega)] at hs; cases hs⟩
  | succ d ih =>
    intro k i hi hk
    obtain ⟨k, rfl⟩ : ∃ m, k = m + 1 := ⟨k - 1, by omega⟩
    simp only [argosylaw06_small.l0]
    have h1 : i < l.length := by omega
    have e : rdOf ByteArray.empty l (i : Int) = l[i] := by unfold rdOf; simp [List.getD_eq_getElem?_getD, h1]
    rw [if_pos (by omega), if_pos (by omega), e]
    by_cases hb : (l[i].size : Int) > 1024
    · rw [if_pos hb]
      exact ⟨false, rfl, fun h => by cases h⟩
    · rw [if_neg hb, w64 (by omega), show (i : Int) + 1 = ((i + 1 : Nat) : Int) from by omega]
      obtain ⟨b, p1, p2⟩ := ih k (i + 1) (by omega) (by omega)
      refine ⟨b, p1, fun h s hs => ?_⟩
      rw [List.drop_eq_getElem_cons h1] at hs
      rcases List.mem_cons.1 hs with rfl | hs
      · omega
      · exact p2 h s hs
theorem small_is {k : Nat} (l : List ByteArray) (hk : 21 ≤ k) : ∃ b, argosylaw06_small.f k l = some b ∧ (b = true → l.length ≤ 20 ∧ ∀ s ∈ l, s.size ≤ 1024) := by
  unfold argosylaw06_small.f
  by_cases h : (l.length : Int) > 20
  · rw [if_pos h]
    exact ⟨false, rfl, fun h => by cases h⟩
  · rw [if_neg h]
    obtain ⟨b, p1, p2⟩ := small_loop l (by omega) l.length k 0 (by omega) (by omega)
    exact ⟨b, p1, fun h => ⟨by omega, p2 h⟩⟩
theorem put_loop (l : List ByteArray) (hl : l.length ≤ 20) (hs : ∀ s ∈ l, s.size ≤ 1024) (M : Nat) (hM : 11001 ≤ M) : ∀ (d k i : Nat) (X : List Int), i + d = l.length → d + M ≤ k → X.length + 1030 * d ≤ 30000 → argosylaw06_put.l0 k l X (i : Int) = some (X ++ cat ((l.drop i).map bytesOf), true) := by
  intro d
  induction d with
  | zero =>
    intro k i X hi hk hX
    obtain ⟨k, rfl⟩ : ∃ m, k = m + 1 := ⟨k - 1, by omega⟩
    simp only [argosylaw06_put.l0]
    rw [if_neg (by omega), List.drop_eq_nil_of_le (by omega)]
    simp [cat]
  | succ d ih =>
    intro k i X hi hk hX
    obtain ⟨k, rfl⟩ : ∃ m, k = m + 1 := ⟨k - 1, by omega⟩
    simp only [argosylaw06_put.l0]
    have h1 : i < l.length := by omega
    have e : rdOf ByteArray.empty l (i : Int) = l[i] := by unfold rdOf; simp [List.getD_eq_getElem?_getD, h1]
    have hsz := hs _ (List.getElem_mem h1)
    have hbl := bytesOf_length l[i]
    have hk2 : M ≤ k := by omega
    have hp := Put_ok (k := k) (l0 := X) (l1 := bytesOf l[i]) (bytesOf_isB _) (by omega) (by omega) (Nat.le_trans (Nat.le_of_succ_le hM) hk2)
    rw [if_pos (by omega), e, if_pos ⟨by omega, by omega⟩, hp]
    simp only [Option.bind_some, if_true]
    have h2 := ih k (i + 1) (X ++ fr (bytesOf l[i])) (by omega) (by omega) (by rw [List.length_append, fr_len]; omega)
    rw [w64 (by omega), show (i : Int) + 1 = ((i + 1 : Nat) : Int) from by omega, h2, List.drop_eq_getElem_cons h1, List.map_cons]
    simp only [cat, List.append_assoc]
theorem put_is {k : Nat} {l : List ByteArray} (hl : l.length ≤ 20) (hs : ∀ s ∈ l, s.size ≤ 1024) (hk : 11030 ≤ k) : argosylaw06_put.f k l = some (cat (l.map bytesOf), true) := by
  unfold argosylaw06_put.f
  have := put_loop l hl hs 11001 (Nat.le_refl _) l.length k 0 [] (by omega) (by omega) (by simp; omega)
  simpa using this
theorem bodies (l : List ByteArray) (hs : ∀ s ∈ l, s.size ≤ 1024) : ∀ b ∈ l.map bytesOf, isB b ∧ b.length ≤ 1024 := by
  intro b hb
  obtain ⟨s, h, rfl⟩ := List.mem_map.1 hb
  exact ⟨bytesOf_isB s, by rw [bytesOf_length]; exact hs s h⟩
theorem son_bodies (l : List ByteArray) : (l.map bytesOf).map strOfNums = l := by
  rw [List.map_map]
  have : (strOfNums ∘ bytesOf) = id := by funext s; exact son_bytesOf s
  rw [this, List.map_id]
theorem allS_cat : ∀ (bs : List (List Int)) (d : Nat) (p : List Int) (out : List (List Int)), isB p → (∀ b ∈ bs, isB b ∧ b.length ≤ 1024) → (cat bs).length ≤ d →
    allS d (p ++ cat bs) out (p.length : Int) = (out ++ bs, ((p ++ cat bs).length : Int), 16) := by
  intro bs
  induction bs with
  | nil =>
    intro d p out hp hb hd
    simp only [cat, List.append_nil]
    cases d with
    | zero => simp only [allS]; rw [takeS_end rfl]
    | succ d => simp only [allS]; rw [takeS_end rfl]; rfl
  | cons b bs ih =>
    intro d p out hp hb hd
    have h1 := hb b (by simp)
    have h2 : ∀ z ∈ bs, isB z ∧ z.length ≤ 1024 := fun z hz => hb z (by simp [hz])
    simp only [cat, List.length_append, fr_len] at hd
    obtain ⟨d, rfl⟩ : ∃ m, d = m + 1 := ⟨d - 1, by omega⟩
    simp only [allS, cat]
    have ht := takeS_at hp h1.1 (cat_isB h2) h1.2
    simp only [ht, if_true]
    have := ih d (p ++ fr b) (out ++ [b]) (isB_append hp (fr_isB h1.1)) h2 (by omega)
    rw [List.append_assoc, List.length_append, fr_len] at this
    rw [show (p.length : Int) + b.length + 6 = ((p.length + (b.length + 6) : Nat) : Int) from by omega, this]
    simp

def wh : List (List Int) → Nat → Nat
  | [], _ => 0
  | b :: bs, n => if b.length + 6 ≤ n then wh bs (n - (b.length + 6)) + 1 else 0
def sz : List (List Int) → Nat → Nat
  | [], _ => 0
  | b :: bs, n => if b.length + 6 ≤ n then sz bs (n - (b.length + 6)) + (b.length + 6) else 0
theorem wh_le : ∀ (bs : List (List Int)) (n : Nat), wh bs n ≤ bs.length
  | [], _ => Nat.le_refl _
  | b :: bs, n => by
    have := wh_le bs (n - (b.length + 6))
    simp only [wh, List.length_cons]
    split <;> omega
theorem sz_le : ∀ (bs : List (List Int)) (n : Nat), sz bs n ≤ n
  | [], _ => Nat.zero_le _
  | b :: bs, n => by
    have := sz_le bs (n - (b.length + 6))
    simp only [sz]
    split <;> omega
theorem takeS_torn {p b : List Int} {n : Nat} (hp : isB p) (hb : isB b) (h : b.length ≤ 1024) (hn : n < b.length + 6) :
    takeS (p ++ (fr b).take n) (p.length : Int) = ([], 0, if n = 0 then 16 else 3) := by
  rw [takeS_in (by simp; omega)]
  have hd : (p ++ (fr b).take n).drop ((p.length : Int)).toNat = (fr b).take n := by simp
  rw [hd]
  have hl : ((fr b).take n).length = n := by rw [List.length_take, fr_len]; omega
  have hs : sizeS ((fr b).take n) = (0, if n = 0 then 16 else 3) := by
    unfold sizeS
    rw [hl]
    by_cases h0 : n = 0
    · rw [if_pos h0, if_pos h0]
    · rw [if_neg h0, if_neg h0]
      by_cases h2 : n < 2
      · rw [if_pos h2]
      · have hq : nOf ((fr b).take n) = (b.length : Int) := by
          have e : (fr b).take n = ((b.length : Int) / 256) % 256 :: ((b.length : Int) % 256) :: ((fr b).take n).drop 2 := by
            obtain ⟨m, rfl⟩ : ∃ m, n = m + 2 := ⟨n - 2, by omega⟩
            simp [fr, hdr]
          unfold nOf
          rw [e]
          show ((b.length : Int) / 256) % 256 * 256 + (b.length : Int) % 256 = b.length
          omega
        rw [if_neg h2, hq, if_neg (by omega), if_pos (by omega)]
  dsimp only
  rw [hs]
  by_cases h0 : n = 0
  · simp [h0]
  · simp [h0]
theorem allS_torn : ∀ (bs : List (List Int)) (d n : Nat) (p : List Int) (out : List (List Int)), isB p → (∀ b ∈ bs, isB b ∧ b.length ≤ 1024) → n ≤ (cat bs).length → n ≤ d →
    allS d (p ++ (cat bs).take n) out (p.length : Int) = (out ++ bs.take (wh bs n), ((p.length + sz bs n : Nat) : Int), if sz bs n = n then 16 else 3) := by
  intro bs
  induction bs with
  | nil =>
    intro d n p out hp hb hn hd
    have h0 : n = 0 := by simp only [cat, List.length_nil] at hn; omega
    subst h0
    simp only [cat, List.take_nil, List.append_nil, wh, sz]
    cases d with
    | zero => simp only [allS]; rw [takeS_end rfl]; simp
    | succ d => simp only [allS]; rw [takeS_end rfl]; simp
  | cons b bs ih =>
    intro d n p out hp hb hn hd
    have h1 := hb b (by simp)
    have h2 : ∀ z ∈ bs, isB z ∧ z.length ≤ 1024 := fun z hz => hb z (by simp [hz])
    simp only [cat, List.length_append, fr_len] at hn
    by_cases hw : b.length + 6 ≤ n
    · obtain ⟨d, rfl⟩ : ∃ m, d = m + 1 := ⟨d - 1, by omega⟩
      have e : (cat (b :: bs)).take n = fr b ++ (cat bs).take (n - (b.length + 6)) := by
        simp only [cat]
        rw [List.take_append, fr_len, List.take_of_length_le (by rw [fr_len]; exact hw)]
      simp only [allS, wh, sz, if_pos hw]
      rw [e]
      have ht := takeS_at (q := (cat bs).take (n - (b.length + 6))) hp h1.1 (isB_take (cat_isB h2) _) h1.2
      simp only [ht, if_true]
      have := ih d (n - (b.length + 6)) (p ++ fr b) (out ++ [b]) (isB_append hp (fr_isB h1.1)) h2 (by omega) (by omega)
      rw [List.append_assoc, List.length_append, fr_len] at this
      rw [show (p.length : Int) + b.length + 6 = ((p.length + (b.length + 6) : Nat) : Int) from by omega, this]
      have hz := sz_le bs (n - (b.length + 6))
      have hi : (if sz bs (n - (b.length + 6)) = n - (b.length + 6) then (16 : Int) else 3) = if sz bs (n - (b.length + 6)) + (b.length + 6) = n then 16 else 3 := by
        by_cases hh : sz bs (n - (b.length + 6)) = n - (b.length + 6)
        · rw [if_pos hh, if_pos (by omega)]
        · rw [if_neg hh, if_neg (by omega)]
      rw [hi]
      simp
      omega
    · have e : (cat (b :: bs)).take n = (fr b).take n := by
        simp only [cat]
        rw [List.take_append_of_le_length (by rw [fr_len]; omega)]
      have ht := takeS_torn (n := n) hp h1.1 h1.2 (by omega)
      rw [e]
      simp only [wh, sz, if_neg hw, List.take_zero, List.append_nil, Nat.add_zero]
      have hz : (if n = 0 then (16 : Int) else 3) = if 0 = n then 16 else 3 := by
        by_cases h0 : n = 0
        · simp [h0]
        · rw [if_neg h0, if_neg (by omega)]
      cases d with
      | zero => simp only [allS]; rw [ht, hz]
      | succ d =>
        simp only [allS]
        rw [ht]
        have : ¬ (if 0 = n then (16 : Int) else 3) = 0 := by split <;> omega
        simp only [hz, if_neg this]
theorem torn_loop (l : List ByteArray) (hl : l.length ≤ 20) (hs : ∀ s ∈ l, s.size ≤ 1024) (N : Nat) (hN : N ≤ 30000) (x8 : List (List Int)) (x9 x10 : Int) (m : Nat) : ∀ (B : List (List Int)) (i S : Nat), B = (l.drop i).map bytesOf → i ≤ l.length → S ≤ N →
    argosylaw06_FrameTorn.l0 (m + wh B (N - S) + 2) l (N : Int) x8 x9 x10 (i : Int) (S : Int) = argosylaw06_FrameTorn.j1 (m + 1) l (N : Int) x8 x9 x10 ((i + wh B (N - S) : Nat) : Int) ((S + sz B (N - S) : Nat) : Int) := by
  intro B
  induction B with
  | nil =>
    intro i S hB hi hS
    have h0 : l.length ≤ i := by
      have := congrArg List.length hB
      simp at this
      omega
    simp only [wh, sz, Nat.add_zero]
    rw [argosylaw06_FrameTorn.l0, if_neg (by omega)]
  | cons b B ih =>
    intro i S hB hi hS
    have h1 : i < l.length := by
      have := congrArg List.length hB
      simp at this
      omega
    rw [List.drop_eq_getElem_cons h1, List.map_cons, List.cons.injEq] at hB
    obtain ⟨rfl, hB⟩ := hB
    have e : rdOf ByteArray.empty l (i : Int) = l[i] := by unfold rdOf; simp [List.getD_eq_getElem?_getD, h1]
    have hsz := hs _ (List.getElem_mem h1)
    have hbl := bytesOf_length l[i]
    simp only [wh, sz]
    have ew : wrap64 (wrap64 ((S : Int) + (l[i].size : Int)) + 6) = ((S + (l[i].size + 6) : Nat) : Int) := by
      rw [w64 (x := (S : Int) + (l[i].size : Int)) (by omega), w64 (by omega)]
      omega
    have ei : wrap64 ((i : Int) + 1) = ((i + 1 : Nat) : Int) := by rw [w64 (by omega)]; omega
    by_cases hw : (bytesOf l[i]).length + 6 ≤ N - S
    · rw [if_pos hw, if_pos hw]
      rw [show m + (wh B (N - S - ((bytesOf l[i]).length + 6)) + 1) + 2 = (m + wh B (N - S - ((bytesOf l[i]).length + 6)) + 2) + 1 from by omega]
      rw [argosylaw06_FrameTorn.l0, if_pos (by omega), if_pos (by omega), e, ew, if_pos (by omega), ei]
      have := ih (i + 1) (S + (l[i].size + 6)) hB (by omega) (by omega)
      rw [show N - (S + (l[i].size + 6)) = N - S - ((bytesOf l[i]).length + 6) from by omega] at this
      rw [this]
      congr 2 <;> omega
    · rw [if_neg hw, if_neg hw]
      simp only [Nat.add_zero]
      rw [argosylaw06_FrameTorn.l0, if_pos (by omega), if_pos (by omega), e, ew, if_neg (by omega)]
theorem umod (a : Int) (n : Nat) (hn : n ≤ 30000) : ∃ N : Nat, N ≤ n ∧ IntKind.u64.wrap (wrap64 ((n : Int) + 1)) = ((n + 1 : Nat) : Int) ∧ wrap64 (Int.tmod (IntKind.u64.wrap a) ((n + 1 : Nat) : Int)) = (N : Int) := by
  have h1 : wrap64 ((n : Int) + 1) = ((n + 1 : Nat) : Int) := by rw [w64 (by omega)]; omega
  have h2 : IntKind.u64.wrap ((n + 1 : Nat) : Int) = ((n + 1 : Nat) : Int) := by
    simp only [IntKind.wrap, IntKind.bits, IntKind.signed, Bool.false_and, Bool.false_eq_true, if_false]
    omega
  have h3 : 0 ≤ IntKind.u64.wrap a := by
    simp only [IntKind.wrap, IntKind.bits, IntKind.signed, Bool.false_and, Bool.false_eq_true, if_false]
    omega
  obtain ⟨u, hu⟩ : ∃ u : Nat, IntKind.u64.wrap a = (u : Int) := ⟨(IntKind.u64.wrap a).toNat, by omega⟩
  refine ⟨u % (n + 1), by have := Nat.mod_lt u (show 0 < n + 1 by omega); omega, by rw [h1, h2], ?_⟩
  rw [hu, ← Int.ofNat_tmod]
  have := Nat.mod_lt u (show 0 < n + 1 by omega)
  rw [w64 (by omega)]
theorem torn_main {K : Nat} (hK : 60000 ≤ K) (l : List ByteArray) (hl : l.length ≤ 20) (hs : ∀ s ∈ l, s.size ≤ 1024) (N : Nat) (hN : N ≤ (cat (l.map bytesOf)).length) :
    ((frame_All.f K ((cat (l.map bytesOf)).take N)).bind fun bt178 => (argosylaw06_FrameTorn.l0 K l (N : Int) bt178.1 bt178.2.1 bt178.2.2 0 0)) = some true := by
  have hb := bodies l hs
  have hc := cat_len hb
  rw [List.length_map] at hc
  have htl : ((cat (l.map bytesOf)).take N).length = N := by rw [List.length_take]; omega
  rw [All_is (k := K) (l := (cat (l.map bytesOf)).take N) (isB_take (cat_isB hb) _) (by omega) (by omega)]
  have := allS_torn (l.map bytesOf) N N [] [] (fun z hz => by cases hz) hb hN (Nat.le_refl _)
  simp only [List.nil_append, List.length_nil, Nat.zero_add] at this
  rw [show ((0 : Nat) : Int) = 0 from rfl] at this
  rw [htl, this]
  simp only [Option.bind_some]
  have hw := wh_le (l.map bytesOf) N
  rw [List.length_map] at hw
  obtain ⟨M, rfl⟩ : ∃ M, K = M + wh (l.map bytesOf) N + 2 := ⟨K - wh (l.map bytesOf) N - 2, by omega⟩
  have ht := torn_loop l hl hs N (by omega) ((l.map bytesOf).take (wh (l.map bytesOf) N)) ((sz (l.map bytesOf) N : Nat) : Int) (if sz (l.map bytesOf) N = N then 16 else 3) M (l.map bytesOf) 0 0 rfl (Nat.zero_le _) (Nat.zero_le _)
  simp only [Nat.sub_zero, Nat.zero_add] at ht
  rw [show ((0 : Nat) : Int) = 0 from rfl] at ht
  rw [ht, argosylaw06_FrameTorn.j1]
  have hz := sz_le (l.map bytesOf) N
  have hsame := Same6 (k := M) (b := (l.map bytesOf).take (wh (l.map bytesOf) N)) (by rw [List.length_take, List.length_map]; omega) (by rw [List.length_take, List.length_map]; omega)
  rw [← List.map_take, son_bodies] at hsame
  rw [List.map_take (f := bytesOf)] at hsame
  have hlv := lives_is (k := M) (by omega)
  rw [Int.toNat_natCast, hsame, hlv]
  by_cases hh : sz (l.map bytesOf) N = N
  · rw [if_pos (by omega), if_pos (by omega), if_pos (by omega)]
    simp only [Option.bind_some, if_true, if_pos hh]
  · rw [if_neg (by omega), if_pos (by omega), if_pos (by omega)]
    simp only [Option.bind_some, if_true, if_neg hh]
theorem FrameTorn_at {K : Nat} (hK : 60000 ≤ K) (l : List ByteArray) (a : Int) : argosylaw06_FrameTorn.f K l a = some true := by
  unfold argosylaw06_FrameTorn.f
  obtain ⟨b, p1, p2⟩ := small_is l (k := K) (by omega)
  rw [p1]
  simp only [Option.bind_some]
  have hlv := lives_is (k := K) (by omega)
  cases b with
  | false =>
    rw [if_neg (by decide), hlv]
    rfl
  | true =>
    obtain ⟨hl, hs⟩ := p2 rfl
    have hb := bodies l hs
    have hc := cat_len hb
    rw [List.length_map] at hc
    have hp := put_is (k := K) hl hs (by omega)
    rw [if_pos rfl, hp, Option.bind_some, if_pos rfl]
    dsimp only
    obtain ⟨N, hN, u1, u2⟩ := umod a (cat (l.map bytesOf)).length (by omega)
    rw [u1, u2]
    clear u1 u2
    have c1 : ¬ (((cat (l.map bytesOf)).length + 1 : Nat) : Int) = 0 := by omega
    have c2 : (0 : Int) ≤ (N : Int) := by omega
    have c3 : (N : Int) ≤ ((cat (l.map bytesOf)).length : Int) := by omega
    rw [if_neg c1, if_pos c2, if_pos c3, Int.toNat_natCast]
    exact torn_main hK l hl hs N hN
theorem FrameTorn : argosylaw06_FrameTorn.Pure := fun l a _ _ _ => ⟨60000, FrameTorn_at (Nat.le_refl _) l a⟩

end Go.Proofs.Ytoimhgggeenbaaa.Pure
