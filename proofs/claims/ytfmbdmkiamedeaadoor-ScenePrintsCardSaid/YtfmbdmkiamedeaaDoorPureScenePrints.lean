/- Any moves are right or not, and have the text, that the document says. -/
import Derived.Test.YtfmbdmkiamedeaaDoorPScenePrintsx9
import Derived.Lib.TrimUEq
set_option linter.unusedVariables false
set_option linter.unusedSimpArgs false
namespace Go.Proofs.YtfmbdmkiamedeaaDoor.Pure
open Go.RowKit Go.Proofs.YtfmbdmkiamedeaaDoor.PScenePrints Go.Proofs.YtfmbdmkiamedeaaDoorW.PrintWords Go.Proofs.YtfmbdmkiamedeaaDoorW.PrintLast Go.Proofs.YtfmbdmkiamedeaaDoorW.PrintMore

/-! ### Bytes -/
def isB (l : List Int) : Prop := ∀ x ∈ l, 0 ≤ x ∧ x < 256
theorem isB_of_wf {l : List Int} (h : ∀ x ∈ l, (Lit.int .u8 x).wf = true) : isB l := by
  intro x hx
  have := h x hx
  simp [Lit.wf, IntKind.min, IntKind.max, IntKind.bits, IntKind.signed] at this
  omega
theorem i64_of_wf {x : Int} (h : (Lit.int .i64 x).wf = true) : -9223372036854775808 ≤ x ∧ x ≤ 9223372036854775807 := by
  simp [Lit.wf, IntKind.min, IntKind.max, IntKind.bits, IntKind.signed] at h
  omega
theorem toList_loop (s : ByteArray) : ∀ (d i : Nat) (r : List UInt8), s.size - i = d → ByteArray.toList.loop s i r = r.reverse ++ s.data.toList.drop i := by
  intro d
  have hl : s.data.toList.length = s.size := Array.length_toList
  induction d with
  | zero =>
    intro i r h
    unfold ByteArray.toList.loop
    rw [if_neg (by omega), List.drop_eq_nil_of_le (by omega), List.append_nil]
  | succ d ih =>
    intro i r h
    unfold ByteArray.toList.loop
    rw [if_pos (by omega), ih (i + 1) _ (by omega)]
    have hi : i < s.data.toList.length := by omega
    rw [List.drop_eq_getElem_cons hi, List.reverse_cons, List.append_assoc]
    have : s.get! i = s.data.toList[i] := by
      have hs : i < s.size := by omega
      simp [ByteArray.get!, getElem!_pos, hs]
    rw [this]; rfl
theorem bytes_toList (s : ByteArray) : s.toList = s.data.toList := by
  unfold ByteArray.toList
  rw [toList_loop s _ 0 [] rfl]
  simp
theorem bytes_ext {a b : ByteArray} (h : a.toList = b.toList) : a = b := by
  rw [bytes_toList, bytes_toList] at h
  cases a; cases b
  congr 1
  exact Array.toList_inj.1 h
theorem son_data (xs : List Int) : (strOfNums xs).data.toList = xs.map fun n => UInt8.ofNat n.toNat := by simp [strOfNums]
theorem son_size (xs : List Int) : (strOfNums xs).size = xs.length := by simp [strOfNums, ByteArray.size]
theorem son_append (xs ys : List Int) : strOfNums (xs ++ ys) = strOfNums xs ++ strOfNums ys := by
  apply bytes_ext
  rw [bytes_toList, bytes_toList, son_data]
  simp [strOfNums]
theorem son_nil : strOfNums [] = (⟨#[]⟩ : ByteArray) := rfl
theorem u8_inj {a b : Int} (ha : 0 ≤ a ∧ a < 256) (hb : 0 ≤ b ∧ b < 256) (h : UInt8.ofNat a.toNat = UInt8.ofNat b.toNat) : a = b := by
  have := congrArg UInt8.toNat h
  simp [UInt8.toNat_ofNat'] at this
  omega
theorem map_u8_inj : ∀ {xs ys : List Int}, isB xs → isB ys → (xs.map fun n => UInt8.ofNat n.toNat) = (ys.map fun n => UInt8.ofNat n.toNat) → xs = ys
  | [], [], _, _, _ => rfl
  | [], y :: ys, _, _, h => by simp at h
  | x :: xs, [], _, _, h => by simp at h
  | x :: xs, y :: ys, hx, hy, h => by
    simp only [List.map_cons, List.cons.injEq] at h
    rw [u8_inj (hx x (by simp)) (hy y (by simp)) h.1, map_u8_inj (fun z hz => hx z (by simp [hz])) (fun z hz => hy z (by simp [hz])) h.2]
theorem son_inj {xs ys : List Int} (hx : isB xs) (hy : isB ys) (h : strOfNums xs = strOfNums ys) : xs = ys := by
  have := congrArg (fun s : ByteArray => s.data.toList) h
  simp only [son_data] at this
  exact map_u8_inj hx hy this
theorem son_toList_inj {xs ys : List Int} (hx : isB xs) (hy : isB ys) : (strOfNums xs).toList = (strOfNums ys).toList ↔ xs = ys :=
  ⟨fun h => son_inj hx hy (bytes_ext h), fun h => by rw [h]⟩
theorem son_bt {xs : List Int} (hx : isB xs) (i : Int) (h0 : 0 ≤ i) (h : i < xs.length) : bt (strOfNums xs) i = rd xs i := by
  have hi : i.toNat < xs.length := by omega
  unfold bt rd
  rw [dif_pos (by rw [son_size]; exact hi)]
  have hg : (strOfNums xs)[i.toNat]'(by rw [son_size]; exact hi) = UInt8.ofNat (xs[i.toNat]).toNat := by
    show (strOfNums xs).data[i.toNat]'_ = _
    simp [strOfNums]
  rw [hg, List.getD_eq_getElem?_getD, List.getElem?_eq_getElem hi]
  have := hx _ (List.getElem_mem hi)
  simp [UInt8.toNat_ofNat']
  omega
theorem son_extract (xs : List Int) (a b : Nat) : (strOfNums xs).extract a b = strOfNums ((xs.take b).drop a) := by
  apply bytes_ext
  rw [bytes_toList, bytes_toList, son_data]
  simp [strOfNums, ByteArray.data_extract, List.drop_take, List.map_take, List.map_drop, List.extract]
theorem isB_append {xs ys : List Int} (hx : isB xs) (hy : isB ys) : isB (xs ++ ys) := by
  intro z hz
  rcases List.mem_append.1 hz with h | h
  · exact hx z h
  · exact hy z h
theorem isB_take {xs : List Int} (h : isB xs) (n : Nat) : isB (xs.take n) := fun z hz => h z (List.mem_of_mem_take hz)
theorem isB_drop {xs : List Int} (h : isB xs) (n : Nat) : isB (xs.drop n) := fun z hz => h z (List.mem_of_mem_drop hz)
theorem rd_at {xs : List Int} (i : Int) (h0 : 0 ≤ i) (h : i < xs.length) : rd xs i = xs[i.toNat]'(by omega) := by
  unfold rd
  rw [List.getD_eq_getElem?_getD, List.getElem?_eq_getElem (by omega)]; rfl
theorem rd_isB {xs : List Int} (hx : isB xs) (i : Int) (h0 : 0 ≤ i) (h : i < xs.length) : 0 ≤ rd xs i ∧ rd xs i < 256 := by
  rw [rd_at i h0 h]
  exact hx _ (List.getElem_mem _)
theorem w64 {x : Int} (h : -9223372036854775808 ≤ x ∧ x ≤ 9223372036854775807) : wrap64 x = x := by
  unfold wrap64
  omega

/-! ### A string's bytes -/
theorem bytesOf_isB (s : ByteArray) : isB (bytesOf s) := by
  intro x hx
  unfold bytesOf at hx
  obtain ⟨b, _, rfl⟩ := List.mem_map.1 hx
  have := b.toNat_lt
  omega
theorem son_bytesOf (s : ByteArray) : strOfNums (bytesOf s) = s := by
  apply bytes_ext
  rw [bytes_toList, bytes_toList, son_data, bytesOf, List.map_map]
  have : ((fun n : Int => UInt8.ofNat n.toNat) ∘ fun b : UInt8 => (b.toNat : Int)) = id := by
    funext b
    simp
  rw [this, List.map_id]

/-! ### Numbers alike -/
theorem Same_loop (a b : List Int) (hl : a.length = b.length) (ha : a.length ≤ 1152921504606846976) : ∀ (d k i : Nat), i + d = a.length → d < k → argosyref01_Same.l0 k a b (i : Int) = some (decide (a.drop i = b.drop i)) := by
  intro d
  induction d with
  | zero =>
    intro k i hi hk
    obtain ⟨k, rfl⟩ : ∃ m, k = m + 1 := ⟨k - 1, by omega⟩
    simp only [argosyref01_Same.l0]
    rw [if_neg (by omega), List.drop_eq_nil_of_le (by omega), List.drop_eq_nil_of_le (by omega)]
    simp
  | succ d ih =>
    intro k i hi hk
    obtain ⟨k, rfl⟩ : ∃ m, k = m + 1 := ⟨k - 1, by omega⟩
    simp only [argosyref01_Same.l0]
    have h1 : i < a.length := by omega
    have h2 : i < b.length := by omega
    have hra : rd a (i : Int) = a[i] := by rw [rd_at _ (by omega) (by omega)]; rfl
    have hrb : rd b (i : Int) = b[i] := by rw [rd_at _ (by omega) (by omega)]; rfl
    rw [if_pos (by omega), if_pos (by omega), if_pos (by omega), hra, hrb, List.drop_eq_getElem_cons h1, List.drop_eq_getElem_cons h2]
    by_cases h : a[i] = b[i]
    · rw [if_pos h, w64 (by omega), show ((i : Int) + 1) = ((i + 1 : Nat) : Int) from by omega, ih k (i + 1) (by omega) (by omega)]
      rw [h]
      congr 1
      rw [decide_eq_decide]
      simp only [List.cons.injEq, true_and]
    · rw [if_neg h, decide_eq_false]
      simp only [List.cons.injEq]
      exact fun hc => h hc.1
theorem Same_is {k : Nat} {a b : List Int} (ha : a.length ≤ 1152921504606846976) (hk : a.length < k) : argosyref01_Same.f k a b = some (decide (a = b)) := by
  unfold argosyref01_Same.f
  by_cases hl : a.length = b.length
  · rw [if_pos (by omega)]
    have := Same_loop a b hl ha a.length k 0 (by omega) hk
    simpa using this
  · rw [if_neg (by omega)]
    have : a ≠ b := fun h => hl (by rw [h])
    simp [this]

/-! ### The width of a rune -/
def vrune (x : Int) : Prop := 0 ≤ x ∧ x ≤ 1114111 ∧ (x < 55296 ∨ 57343 < x)
instance (x : Int) : Decidable (vrune x) := by unfold vrune; infer_instance
def widG (x : Int) : Int := if vrune x then (if x < 128 then 1 else if x < 2048 then 2 else if x < 65536 then 3 else 4) else 0
theorem widG_bad {x : Int} (h : ¬ vrune x) : widG x = 0 := if_neg h
theorem widG_ok {x : Int} (h : vrune x) : widG x = (if x < 128 then 1 else if x < 2048 then 2 else if x < 65536 then 3 else 4) := if_pos h
theorem widG_zero (x : Int) : widG x = 0 ↔ ¬ vrune x := by
  constructor
  · intro h hv
    rw [widG_ok hv] at h
    split at h
    · omega
    · split at h
      · omega
      · split at h <;> omega
  · exact widG_bad
theorem RuneLen_is {k : Nat} (hk : 1 ≤ k) {x : Int} (h0 : 0 ≤ x) (h1 : x ≤ 1114111) : (utf8_RuneLen.f k x).bind (fun t => some (mx 0 t)) = some (widG x) := by
  obtain ⟨k, rfl⟩ : ∃ m, k = m + 1 := ⟨k - 1, by omega⟩
  unfold utf8_RuneLen.f
  have hmx : ∀ n : Int, 0 ≤ n → mx 0 n = n := fun n hn => by unfold mx; omega
  rw [if_neg (by omega)]
  by_cases a : x ≤ 127
  · rw [if_pos a, Option.bind_some, hmx 1 (by omega), widG_ok (by unfold vrune; omega), if_pos (by omega)]
  rw [if_neg a]
  by_cases b : x ≤ 2047
  · rw [if_pos b, Option.bind_some, hmx 2 (by omega), widG_ok (by unfold vrune; omega), if_neg (by omega), if_pos (by omega)]
  rw [if_neg b]
  by_cases c : 55296 ≤ x
  · rw [if_pos c]
    simp only [utf8_RuneLen.j0]
    by_cases d : x ≤ 57343
    · rw [if_pos (decide_eq_true d), Option.bind_some, widG_bad (by unfold vrune; omega)]
      rfl
    · rw [if_neg (by simpa using d)]
      by_cases e : x ≤ 65535
      · rw [if_pos e, Option.bind_some, hmx 3 (by omega), widG_ok (by unfold vrune; omega), if_neg (by omega), if_neg (by omega), if_pos (by omega)]
      · rw [if_neg e, if_pos h1, Option.bind_some, hmx 4 (by omega), widG_ok (by unfold vrune; omega), if_neg (by omega), if_neg (by omega), if_neg (by omega)]
  · rw [if_neg c]
    simp only [utf8_RuneLen.j0]
    rw [if_neg (by decide), if_pos (by omega), Option.bind_some, hmx 3 (by omega), widG_ok (by unfold vrune; omega), if_neg (by omega), if_neg (by omega), if_pos (by omega)]
theorem Width_is {k : Nat} (hk : 1 ≤ k) (x : Int) : glyph_Width.f k x = some (widG x) := by
  unfold glyph_Width.f
  by_cases a : x < 0
  · rw [if_pos a, widG_bad (by unfold vrune; omega)]
  rw [if_neg a]
  by_cases b : x > 1114111
  · rw [if_pos b, widG_bad (by unfold vrune; omega)]
  rw [if_neg b, show wrap32 x = x from by unfold wrap32; omega]
  exact RuneLen_is hk (by omega) (by omega)

/-! ### A rune's bytes, and what a range over a text reads -/
open Go.Lib (decodeN)
theorem dN_pos (n b0 b1 b2 b3 : Nat) : 1 ≤ (decodeN n b0 b1 b2 b3).2 := by
  unfold decodeN
  repeat' split
  all_goals simp
theorem dN_le (n b0 b1 b2 b3 : Nat) (hn : 1 ≤ n) : (decodeN n b0 b1 b2 b3).2 ≤ n := by
  unfold decodeN
  repeat' split
  all_goals (simp only; omega)
def badN (n b0 b1 b2 b3 : Nat) : Prop := decodeN n b0 b1 b2 b3 = (65533, 1)
instance (n b0 b1 b2 b3 : Nat) : Decidable (badN n b0 b1 b2 b3) := by unfold badN; infer_instance
theorem dN_good (n b0 b1 b2 b3 : Nat) (h0 : b0 < 256) (h : ¬ badN n b0 b1 b2 b3) : vrune ((decodeN n b0 b1 b2 b3).1 : Int) ∧ widG ((decodeN n b0 b1 b2 b3).1 : Int) = ((decodeN n b0 b1 b2 b3).2 : Int) := by
  have key : ∀ (r w : Nat), vrune (r : Int) → (if (r : Int) < 128 then (1 : Int) else if (r : Int) < 2048 then 2 else if (r : Int) < 65536 then 3 else 4) = (w : Int) → vrune (((r, w) : Nat × Nat).1 : Int) ∧ widG (((r, w) : Nat × Nat).1 : Int) = (((r, w) : Nat × Nat).2 : Int) := fun r w h1 h2 => ⟨h1, by rw [widG_ok h1]; exact h2⟩
  unfold badN at h
  revert h
  unfold decodeN
  by_cases c0 : b0 < 128
  · rw [if_pos c0]
    exact fun _ => key _ _ (by unfold vrune; omega) (by rw [if_pos (by omega)]; rfl)
  rw [if_neg c0]
  by_cases c1 : b0 / 32 = 6 ∧ (1 < n ∧ b1 / 64 = 2)
  · rw [if_pos c1]
    by_cases c2 : b0 % 32 * 64 + b1 % 64 ≥ 128
    · rw [if_pos c2]
      exact fun _ => key _ _ (by unfold vrune; omega) (by rw [if_neg (by omega), if_pos (by omega)]; rfl)
    · rw [if_neg c2]; exact fun h => absurd rfl h
  rw [if_neg c1]
  by_cases c2 : b0 / 16 = 14 ∧ (1 < n ∧ b1 / 64 = 2) ∧ (2 < n ∧ b2 / 64 = 2)
  · rw [if_pos c2]
    split
    · rename_i c3
      exact fun _ => key _ _ (by unfold vrune; omega) (by rw [if_neg (by omega), if_neg (by omega), if_pos (by omega)]; rfl)
    · exact fun h => absurd rfl h
  rw [if_neg c2]
  by_cases c3 : b0 / 8 = 30 ∧ (1 < n ∧ b1 / 64 = 2) ∧ (2 < n ∧ b2 / 64 = 2) ∧ (3 < n ∧ b3 / 64 = 2)
  · rw [if_pos c3]
    split
    · rename_i c4
      exact fun _ => key _ _ (by unfold vrune; omega) (by rw [if_neg (by omega), if_neg (by omega), if_neg (by omega)]; rfl)
    · exact fun h => absurd rfl h
  rw [if_neg c3]
  exact fun h => absurd rfl h
theorem dN_fffd (n b0 b1 b2 b3 : Nat) (h0 : b0 < 256) (h1 : b1 < 256) (h2 : b2 < 256) (h3 : b3 < 256) (h : (decodeN n b0 b1 b2 b3).1 = 65533) : ¬ badN n b0 b1 b2 b3 ↔ (3 ≤ n ∧ b0 = 239 ∧ b1 = 191 ∧ b2 = 189) := by
  have key : ∀ (r w : Nat), (((r, w) : Nat × Nat)).1 = 65533 → (¬ ((r, w) : Nat × Nat) = (65533, 1) ↔ w ≠ 1) := fun r w h => by
    simp only at h
    subst h
    simp
  unfold badN
  revert h
  unfold decodeN
  by_cases c0 : b0 < 128
  · rw [if_pos c0]; intro h; rw [key _ _ h]; simp only at h; omega
  rw [if_neg c0]
  by_cases c1 : b0 / 32 = 6 ∧ (1 < n ∧ b1 / 64 = 2)
  · rw [if_pos c1]
    by_cases c2 : b0 % 32 * 64 + b1 % 64 ≥ 128
    · rw [if_pos c2]; intro h; rw [key _ _ h]; simp only at h; omega
    · rw [if_neg c2]; intro h; rw [key _ _ h]; omega
  rw [if_neg c1]
  by_cases c2 : b0 / 16 = 14 ∧ (1 < n ∧ b1 / 64 = 2) ∧ (2 < n ∧ b2 / 64 = 2)
  · rw [if_pos c2]
    split
    · rename_i c3; intro h; rw [key _ _ h]; simp only at h; omega
    · rename_i c3; intro h; rw [key _ _ h]; omega
  rw [if_neg c2]
  by_cases c3 : b0 / 8 = 30 ∧ (1 < n ∧ b1 / 64 = 2) ∧ (2 < n ∧ b2 / 64 = 2) ∧ (3 < n ∧ b3 / 64 = 2)
  · rw [if_pos c3]
    split
    · rename_i c4; intro h; rw [key _ _ h]; simp only at h; omega
    · rename_i c4; intro h; rw [key _ _ h]; omega
  rw [if_neg c3]
  intro h; rw [key _ _ h]; omega
/-- Byte i of a row, 0 beyond its end. -/
def gb (xs : List Int) (i : Nat) : Nat := (xs.getD i 0).toNat
theorem gb_lt {xs : List Int} (hx : isB xs) (i : Nat) : gb xs i < 256 := by
  unfold gb
  rw [List.getD_eq_getElem?_getD]
  by_cases h : i < xs.length
  · rw [List.getElem?_eq_getElem h]
    have := hx _ (List.getElem_mem h)
    simp only [Option.getD_some]
    omega
  · rw [List.getElem?_eq_none (by omega)]
    simp
theorem gb_drop (xs : List Int) (p i : Nat) : gb (xs.drop p) i = gb xs (p + i) := by
  unfold gb
  simp [List.getD_eq_getElem?_getD, List.getElem?_drop]
theorem dec_at {xs : List Int} (hx : isB xs) (p : Nat) : Utf8.decode (strOfNums xs) p = decodeN (xs.length - p) (gb xs p) (gb xs (p + 1)) (gb xs (p + 2)) (gb xs (p + 3)) := by
  rw [Go.Lib.decode_N, son_data, List.length_map]
  have : ∀ i : Nat, ((xs.map fun n => UInt8.ofNat n.toNat).getD i 0).toNat = gb xs i := by
    intro i
    have hl := gb_lt hx i
    have key : ∀ o : Option Int, (o.getD 0).toNat < 256 → ((o.map fun n => UInt8.ofNat n.toNat).getD 0).toNat = (o.getD 0).toNat := by
      intro o ho
      cases o with
      | none => rfl
      | some v =>
        simp only [Option.map_some, Option.getD_some, UInt8.toNat_ofNat'] at ho ⊢
        omega
    unfold gb at hl ⊢
    rw [List.getD_eq_getElem?_getD] at hl
    rw [List.getD_eq_getElem?_getD, List.getD_eq_getElem?_getD, List.getElem?_map]
    exact key _ hl
  rw [this, this, this, this]
/-- What stands at place p: nothing to be read (a broken byte). -/
def badAt (xs : List Int) (p : Nat) : Prop := badN (xs.length - p) (gb xs p) (gb xs (p + 1)) (gb xs (p + 2)) (gb xs (p + 3))
instance (xs : List Int) (p : Nat) : Decidable (badAt xs p) := by unfold badAt; infer_instance
def runeAt (xs : List Int) (p : Nat) : Int := ((decodeN (xs.length - p) (gb xs p) (gb xs (p + 1)) (gb xs (p + 2)) (gb xs (p + 3))).1 : Int)
def widAt (xs : List Int) (p : Nat) : Nat := (decodeN (xs.length - p) (gb xs p) (gb xs (p + 1)) (gb xs (p + 2)) (gb xs (p + 3))).2
theorem widAt_pos (xs : List Int) (p : Nat) : 1 ≤ widAt xs p := dN_pos _ _ _ _ _
theorem widAt_le (xs : List Int) (p : Nat) (h : p < xs.length) : p + widAt xs p ≤ xs.length := by
  have := dN_le (xs.length - p) (gb xs p) (gb xs (p + 1)) (gb xs (p + 2)) (gb xs (p + 3)) (by omega)
  unfold widAt
  omega
theorem good_at {xs : List Int} (hx : isB xs) {p : Nat} (h : ¬ badAt xs p) : vrune (runeAt xs p) ∧ widG (runeAt xs p) = (widAt xs p : Int) := dN_good _ _ _ _ _ (gb_lt hx _) h
theorem dec_rune {xs : List Int} (hx : isB xs) (p : Nat) : (((Utf8.decode (strOfNums xs) p).1 : Nat) : Int) = runeAt xs p := by rw [dec_at hx]; rfl
theorem dec_wid {xs : List Int} (hx : isB xs) (p : Nat) : (Utf8.decode (strOfNums xs) p).2 = widAt xs p := by rw [dec_at hx]; rfl
theorem take3 (xs : List Int) (p : Nat) : ((xs.drop p).take 3 = [239, 191, 189]) ↔ (3 ≤ xs.length - p ∧ xs.getD p 0 = 239 ∧ xs.getD (p + 1) 0 = 191 ∧ xs.getD (p + 2) 0 = 189) := by
  have e : ∀ i, xs.getD (p + i) 0 = (xs.drop p).getD i 0 := fun i => by simp [List.getD_eq_getElem?_getD, List.getElem?_drop]
  have hl : (xs.drop p).length = xs.length - p := by simp
  have e0 := e 0
  rw [Nat.add_zero] at e0
  rw [e0, e 1, e 2, ← hl]
  generalize xs.drop p = ys
  rcases ys with _ | ⟨a, _ | ⟨b, _ | ⟨c, ys⟩⟩⟩ <;> simp
theorem brk_at {xs : List Int} (hx : isB xs) (p : Nat) (hp : p ≤ xs.length) (r : Nat) (hr : (r : Int) = runeAt xs p) : brk (strOfNums xs) (p, r) = decide (badAt xs p) := by
  unfold brk glyph_broken.f
  simp only
  by_cases h : (r : Int) = 65533
  · have hk := dN_fffd (xs.length - p) (gb xs p) (gb xs (p + 1)) (gb xs (p + 2)) (gb xs (p + 3)) (gb_lt hx _) (gb_lt hx _) (gb_lt hx _) (gb_lt hx _) (by have := hr.symm.trans h; unfold runeAt at this; omega)
    have hsz := son_size xs
    rw [if_pos h, if_pos (by omega), if_pos (by omega), Int.toNat_natCast, son_extract, hsz, List.take_length]
    have e3 : (⟨#[239, 191, 189]⟩ : ByteArray) = strOfNums [239, 191, 189] := rfl
    have hs3 : (strOfNums [239, 191, 189]).size = 3 := rfl
    have i3 : isB [239, 191, 189] := by intro x hx; simp at hx; omega
    have hgb : ∀ i v, v < 256 → 0 ≤ v → (gb xs i = v.toNat ↔ (xs.getD i 0) = v) := by
      intro i v h1 h2
      unfold gb
      by_cases hi : i < xs.length
      · rw [List.getD_eq_getElem?_getD, List.getElem?_eq_getElem hi]
        have := hx _ (List.getElem_mem hi)
        simp only [Option.getD_some]
        omega
      · rw [List.getD_eq_getElem?_getD, List.getElem?_eq_none (by omega)]
        simp only [Option.getD_none]
        omega
    have hz : (strOfNums (xs.drop p)).size = xs.length - p := by rw [son_size]; simp
    have ht := take3 xs p
    rw [← hgb p 239 (by omega) (by omega), ← hgb (p + 1) 191 (by omega) (by omega), ← hgb (p + 2) 189 (by omega) (by omega)] at ht
    have hall := hk.trans ht.symm
    unfold strings_HasPrefix.f stringslite_HasPrefix.f
    rw [e3, hs3, hz]
    by_cases hc : ((xs.length - p : Nat) : Int) ≥ ((3 : Nat) : Int)
    · rw [if_pos hc, if_pos (by omega), if_pos (by omega), Int.toNat_natCast, son_extract]
      simp only [Option.bind_some, Option.getD_some, List.drop_zero]
      rw [Bool.eq_iff_iff, Bool.not_eq_true', beq_eq_false_iff_ne, decide_eq_true_iff, Ne, son_toList_inj (isB_take (isB_drop hx _) _) i3, ← hall, Decidable.not_not]
      rfl
    · rw [if_neg hc]
      simp only [Option.bind_some, Option.getD_some, Bool.not_false]
      rw [eq_comm, decide_eq_true_iff]
      refine Decidable.of_not_not fun hb => ?_
      have := (hk.1 hb).1
      omega
  · rw [if_neg h, Option.getD_some, eq_comm, decide_eq_false_iff_not]
    intro hb
    refine h (hr.trans ?_)
    unfold badAt badN at hb
    unfold runeAt
    rw [hb]
    rfl

/-! ### Pieces of a text -/
def endL (xs : List Int) (fr : Int) (e : Nat) : List (List Int × Int) := if fr < 0 then [] else [((xs.take e).drop fr.toNat, fr)]
/-- A text's pieces, byte by byte, from a place on. -/
def pcL (xs : List Int) : Nat → Nat → Bool → Int → List (List Int × Int)
  | 0, _, _, fr => endL xs fr xs.length
  | d + 1, pos, rm, fr =>
    if pos < xs.length then
      (if rm = true then pcL xs d (pos + 1) (gb xs pos != 10) fr
       else if gb xs pos = 35 then endL xs fr pos ++ pcL xs d (pos + 1) true (-1)
       else if gb xs pos = 59 then endL xs fr pos ++ ([59], (pos : Int)) :: pcL xs d (pos + 1) false (-1)
       else if gb xs pos = 9 ∨ gb xs pos = 10 ∨ gb xs pos = 13 ∨ gb xs pos = 32 then endL xs fr pos ++ pcL xs d (pos + 1) false (-1)
       else pcL xs d (pos + 1) false (if fr < 0 then (pos : Int) else fr))
    else endL xs fr xs.length
theorem pcL_end (xs : List Int) (d pos : Nat) (rm : Bool) (fr : Int) (h : ¬ pos < xs.length) : pcL xs d pos rm fr = endL xs fr xs.length := by cases d <;> simp [pcL, h]
theorem pcL_fuel (xs : List Int) : ∀ (d d' pos : Nat) (rm : Bool) (fr : Int), xs.length ≤ pos + d → xs.length ≤ pos + d' → pcL xs d pos rm fr = pcL xs d' pos rm fr
  | 0, d', pos, rm, fr, h, h' => by rw [pcL_end _ _ _ _ _ (by omega), pcL_end _ _ _ _ _ (by omega)]
  | d + 1, 0, pos, rm, fr, h, h' => by rw [pcL_end _ _ _ _ _ (by omega), pcL_end _ _ _ _ _ (by omega)]
  | d + 1, d' + 1, pos, rm, fr, h, h' => by
    have ih : ∀ rm fr, pcL xs d (pos + 1) rm fr = pcL xs d' (pos + 1) rm fr := fun rm fr => pcL_fuel xs d d' (pos + 1) rm fr (by omega) (by omega)
    simp only [pcL, ih]
/-- A byte of no meaning. -/
theorem pcL_skip (xs : List Int) (d pos : Nat) (rm : Bool) (fr : Int) (hp : pos < xs.length) (h : 128 ≤ gb xs pos) : pcL xs (d + 1) pos rm fr = pcL xs d (pos + 1) rm (if rm = true then fr else if fr < 0 then (pos : Int) else fr) := by
  simp only [pcL]
  rw [if_pos hp]
  cases rm with
  | true =>
    rw [if_pos rfl, if_pos rfl]
    congr 1
    simp; omega
  | false =>
    rw [if_neg (by decide), if_neg (by omega), if_neg (by omega), if_neg (by omega), if_neg (c := (false : Bool) = true) (by decide)]
theorem pcL_skips (xs : List Int) : ∀ (w d pos : Nat) (rm : Bool) (fr : Int), pos + w < xs.length → (∀ i, i ≤ w → 128 ≤ gb xs (pos + i)) → pcL xs (d + w + 1) pos rm fr = pcL xs d (pos + w + 1) rm (if rm = true then fr else if fr < 0 then (pos : Int) else fr)
  | 0, d, pos, rm, fr, hp, h => pcL_skip xs d pos rm fr (by omega) (h 0 (Nat.le_refl _))
  | w + 1, d, pos, rm, fr, hp, h => by
    rw [show d + (w + 1) + 1 = (d + w + 1) + 1 from by omega, pcL_skip xs (d + w + 1) pos rm fr (by omega) (h 0 (by omega)), pcL_skips xs w d (pos + 1) rm _ (by omega) (fun i hi => by have := h (i + 1) (by omega); rwa [show pos + (i + 1) = pos + 1 + i from by omega] at this), show pos + 1 + w + 1 = pos + (w + 1) + 1 from by omega]
    congr 1
    cases rm with
    | true => simp
    | false =>
      simp only [Bool.false_eq_true, if_false]
      by_cases hf : fr < 0
      · rw [if_pos hf, if_neg (by omega)]
      · rw [if_neg hf, if_neg hf]
theorem dN_ascii (n b0 b1 b2 b3 : Nat) (h : b0 < 128) : decodeN n b0 b1 b2 b3 = (b0, 1) := by
  unfold decodeN
  rw [if_pos h]
theorem dN_high (n b0 b1 b2 b3 : Nat) (h : ¬ b0 < 128) : 128 ≤ (decodeN n b0 b1 b2 b3).1 ∧ (decodeN n b0 b1 b2 b3).2 ≤ 4 ∧ (2 ≤ (decodeN n b0 b1 b2 b3).2 → 128 ≤ b1) ∧ (3 ≤ (decodeN n b0 b1 b2 b3).2 → 128 ≤ b2) ∧ (4 ≤ (decodeN n b0 b1 b2 b3).2 → 128 ≤ b3) := by
  unfold decodeN
  rw [if_neg h]
  repeat' split
  all_goals (simp only; omega)
theorem rune_low {xs : List Int} {p : Nat} (h : gb xs p < 128) : runeAt xs p = (gb xs p : Int) ∧ widAt xs p = 1 := by
  unfold runeAt widAt
  rw [dN_ascii _ _ _ _ _ h]
  exact ⟨rfl, rfl⟩
theorem rune_high {xs : List Int} {p : Nat} (h : ¬ gb xs p < 128) : 128 ≤ runeAt xs p ∧ ∀ i, i < widAt xs p → 128 ≤ gb xs (p + i) := by
  obtain ⟨h1, h2, h3, h4, h5⟩ := dN_high (xs.length - p) (gb xs p) (gb xs (p + 1)) (gb xs (p + 2)) (gb xs (p + 3)) h
  unfold runeAt widAt
  refine ⟨by omega, fun i hi => ?_⟩
  rcases i with _ | _ | _ | _ | i
  · simpa using h
  · exact h3 (by omega)
  · exact h4 (by omega)
  · exact h5 (by omega)
  · omega

theorem clsK_high {x : Int} (h : 128 ≤ x) : clsK x ≠ 3 := by
  unfold clsK classG
  split
  · omega
  · rw [if_pos (by omega)]; omega
theorem clsK_low {x : Int} (h0 : 0 ≤ x) (h : x < 128) : clsK x = 3 ↔ (x = 9 ∨ x = 10 ∨ x = 13 ∨ x = 32) := by
  have hw : ¬ widK x = 0 := by rw [widK_ok (by unfold vruneK; omega), if_pos h]; omega
  unfold clsK classG
  rw [if_neg hw]
  repeat' split
  all_goals omega
theorem rune_rng {xs : List Int} (hx : isB xs) (p : Nat) : 0 ≤ runeAt xs p ∧ runeAt xs p ≤ 1114111 := by
  by_cases hb : badAt xs p
  · unfold badAt badN at hb
    unfold runeAt
    rw [hb]
    simp only
    omega
  · have := (good_at hx hb).1
    unfold vrune at this
    omega
def mapP (l : List (List Int × Int)) : List (ByteArray × Int) := l.map fun p => (strOfNums p.1, p.2)
theorem end_is (xs : List Int) (fr : Int) (e : Nat) : pcEnd (strOfNums xs) fr e = mapP (endL xs fr e) := by
  unfold pcEnd endL mapP
  split
  · rfl
  · rw [son_extract]; rfl
theorem mapP_app (a b : List (List Int × Int)) : mapP (a ++ b) = mapP a ++ mapP b := List.map_append
theorem semi_is : (⟨#[59]⟩ : ByteArray) = strOfNums [59] := rfl
theorem pcG_is {xs : List Int} (hx : isB xs) : ∀ (d d' pos : Nat) (rm : Bool) (fr : Int), pos ≤ xs.length → xs.length ≤ pos + d → xs.length ≤ pos + d' → pcG (strOfNums xs) clsK d pos rm fr = mapP (pcL xs d' pos rm fr)
  | 0, d', pos, rm, fr, hp, h, h' => by
    rw [pcL_end _ _ _ _ _ (by omega)]
    simp only [pcG]
    rw [end_is, son_size]
  | d + 1, d', pos, rm, fr, hp, h, h' => by
    by_cases hlt : pos < xs.length
    · simp only [pcG]
      rw [if_pos (by rw [son_size]; exact hlt), dec_rune hx, dec_wid hx]
      have hrr := rune_rng hx pos
      have hwp := widAt_pos xs pos
      have hwl := widAt_le xs pos hlt
      rw [show wrap64 (runeAt xs pos) = runeAt xs pos from w64 (by omega)]
      have ih : ∀ rm fr, pcG (strOfNums xs) clsK d (pos + widAt xs pos) rm fr = mapP (pcL xs xs.length (pos + widAt xs pos) rm fr) := fun rm fr => pcG_is hx d xs.length _ rm fr hwl (by omega) (by omega)
      rw [ih, ih, ih, ih]
      rw [pcL_fuel xs d' (xs.length + (widAt xs pos - 1) + 1) pos rm fr h' (by omega)]
      by_cases hg : gb xs pos < 128
      · obtain ⟨e1, e2⟩ := rune_low hg
        rw [e1, e2]
        simp only [Nat.sub_self, Nat.add_zero, pcL]
        rw [if_pos hlt, end_is, semi_is]
        cases rm with
        | true =>
          rw [if_pos rfl, if_pos rfl]
          congr 2
          by_cases h10 : gb xs pos = 10
          · rw [h10]; rfl
          · rw [bne_iff_ne.mpr h10, bne_iff_ne.mpr (show ((gb xs pos : Nat) : Int) ≠ 10 by omega)]
        | false =>
          rw [if_neg (c := (false : Bool) = true) (by decide), if_neg (c := (false : Bool) = true) (by decide)]
          by_cases c1 : gb xs pos = 35
          · rw [if_pos (by omega), if_pos c1, mapP_app]
          rw [if_neg (by omega), if_neg c1]
          by_cases c2 : gb xs pos = 59
          · rw [if_pos (by omega), if_pos c2, mapP_app]; rfl
          rw [if_neg (by omega), if_neg c2]
          have hc := clsK_low (x := (gb xs pos : Int)) (by omega) (by omega)
          by_cases c3 : gb xs pos = 9 ∨ gb xs pos = 10 ∨ gb xs pos = 13 ∨ gb xs pos = 32
          · rw [if_pos (hc.2 (by omega)), if_pos c3, mapP_app]
          · rw [if_neg (fun e => c3 (by have := hc.1 e; omega)), if_neg c3]
      · obtain ⟨e1, e2⟩ := rune_high hg
        rw [pcL_skips xs (widAt xs pos - 1) xs.length pos rm fr (by omega) (fun i hi => e2 i (by omega)), show pos + (widAt xs pos - 1) + 1 = pos + widAt xs pos from by omega]
        cases rm with
        | true =>
          rw [if_pos rfl, if_pos rfl, bne_iff_ne.mpr (by omega)]
        | false =>
          rw [if_neg (c := (false : Bool) = true) (by decide), if_neg (by omega), if_neg (by omega), if_neg (clsK_high e1), if_neg (c := (false : Bool) = true) (by decide)]
    · rw [pcL_end _ _ _ _ _ hlt, pcG_end _ _ _ _ _ _ (by rw [son_size]; exact hlt), end_is, son_size]
theorem pieces_is {xs : List Int} (hx : isB xs) : pcG (strOfNums xs) clsK (strOfNums xs).size 0 false (-1) = mapP (pcL xs xs.length 0 false (-1)) := by
  rw [son_size]
  exact pcG_is hx _ _ 0 false (-1) (by omega) (by omega) (by omega)
theorem bt_gb {xs : List Int} (hx : isB xs) {p : Nat} (h : p < xs.length) : bt (strOfNums xs) (p : Int) = (gb xs p : Int) := by
  rw [son_bt hx (p : Int) (by omega) (by omega)]
  unfold rd gb
  rw [Int.toNat_natCast, List.getD_eq_getElem?_getD, List.getElem?_eq_getElem h, Option.getD_some]
  have := hx _ (List.getElem_mem h)
  omega

/-! ### Numbers' texts -/
def dig (c : Int) : Prop := 48 ≤ c ∧ c ≤ 57
instance (c : Int) : Decidable (dig c) := by unfold dig; infer_instance
def valL : List Int → Int → Int
  | [], n => n
  | c :: cs, n => valL cs (10 * n + (c - 48))
/-- A number's digits. -/
def digL (n : Nat) : List Int := if h : n < 10 then [48 + (n : Int)] else digL (n / 10) ++ [48 + ((n % 10 : Nat) : Int)]
termination_by n
decreasing_by omega
theorem digL_small {n : Nat} (h : n < 10) : digL n = [48 + (n : Int)] := by rw [digL]; simp [h]
theorem digL_big {n : Nat} (h : ¬ n < 10) : digL n = digL (n / 10) ++ [48 + ((n % 10 : Nat) : Int)] := by rw [digL]; simp [h]
theorem valL_app : ∀ (xs ys : List Int) (n : Int), valL (xs ++ ys) n = valL ys (valL xs n)
  | [], _, _ => rfl
  | c :: cs, ys, n => valL_app cs ys _
theorem valL_mono : ∀ (xs : List Int) (n : Int), (∀ c ∈ xs, dig c) → 0 ≤ n → n * 10 ^ xs.length ≤ valL xs n ∧ valL xs n < (n + 1) * 10 ^ xs.length
  | [], n, _, _ => by simp [valL]; omega
  | c :: cs, n, h, hn => by
    have hc := h c (by simp)
    unfold dig at hc
    have ih := valL_mono cs (10 * n + (c - 48)) (fun z hz => h z (by simp [hz])) (by omega)
    simp only [valL, List.length_cons]
    have hp : (0 : Int) < 10 ^ cs.length := Int.pow_pos (by decide)
    have e : (10 : Int) ^ (cs.length + 1) = 10 * 10 ^ cs.length := by rw [Int.pow_succ, Int.mul_comm]
    obtain ⟨P, hP⟩ : ∃ P : Int, (10 : Int) ^ cs.length = P := ⟨_, rfl⟩
    rw [hP] at ih hp e
    rw [e]
    have e1 : n * (10 * P) = (10 * n) * P := by rw [← Int.mul_assoc, Int.mul_comm n 10]
    have e2 : (n + 1) * (10 * P) = (10 * (n + 1)) * P := by rw [← Int.mul_assoc, Int.mul_comm (n + 1) 10]
    rw [e1, e2]
    constructor
    · exact Int.le_trans (Int.mul_le_mul_of_nonneg_right (by omega) (by omega)) ih.1
    · exact Int.lt_of_lt_of_le ih.2 (Int.mul_le_mul_of_nonneg_right (by omega) (by omega))
theorem snoc_cases {α : Type} (xs : List α) : xs = [] ∨ ∃ ys c, xs = ys ++ [c] := by
  rcases List.eq_nil_or_concat xs with h | ⟨ys, c, h⟩
  · exact .inl h
  · exact .inr ⟨ys, c, by simpa using h⟩
theorem val_nonneg {xs : List Int} (h : ∀ c ∈ xs, dig c) : 0 ≤ valL xs 0 := by
  have := (valL_mono xs 0 h (by omega)).1
  simpa using this
theorem val_pos {c : Int} {cs : List Int} (h : ∀ z ∈ c :: cs, dig z) (hc : c ≠ 48) : 10 ^ cs.length ≤ valL (c :: cs) 0 := by
  have h0 := h c (by simp)
  unfold dig at h0
  have := (valL_mono cs (10 * 0 + (c - 48)) (fun z hz => h z (by simp [hz])) (by omega)).1
  have hp : (0 : Int) ≤ 10 ^ cs.length := Int.le_of_lt (Int.pow_pos (by decide))
  refine Int.le_trans ?_ this
  have := Int.mul_le_mul_of_nonneg_right (show (1 : Int) ≤ 10 * 0 + (c - 48) by omega) hp
  rwa [Int.one_mul] at this
/-- No digit too many ahead. -/
def canon (xs : List Int) : Prop := (∀ c ∈ xs, dig c) ∧ xs ≠ [] ∧ (xs.getD 0 0 = 48 → xs.length = 1)
theorem digL_val : ∀ (m : Nat) (xs : List Int), xs.length = m → canon xs → digL (valL xs 0).toNat = xs
  | 0, xs, hm, h => absurd (List.eq_nil_of_length_eq_zero hm) h.2.1
  | m + 1, xs, hm, h => by
    rcases snoc_cases xs with rfl | ⟨ys, c, rfl⟩
    · exact absurd rfl h.2.1
    · have hc := h.1 c (by simp)
      unfold dig at hc
      rw [valL_app]
      simp only [valL]
      rcases ys with _ | ⟨y, ys⟩
      · simp only [valL, List.nil_append]
        rw [digL_small (by omega)]
        congr 1
        omega
      · have hy : ∀ z ∈ y :: ys, dig z := fun z hz => h.1 z (by simp at hz ⊢; rcases hz with hz | hz <;> simp [hz])
        have hy48 : y ≠ 48 := fun e => by
          have := h.2.2 (by simp [e])
          simp at this
        have hv := val_pos hy hy48
        have hp : (1 : Int) ≤ 10 ^ ys.length := Int.add_one_le_iff.2 (Int.pow_pos (by decide))
        have ih := digL_val m (y :: ys) (by simp at hm ⊢; omega) ⟨hy, by simp, fun e => absurd (by simpa using e) hy48⟩
        obtain ⟨v, hvv⟩ : ∃ v, valL (y :: ys) 0 = v := ⟨_, rfl⟩
        rw [hvv] at hv ih ⊢
        rw [digL_big (by omega), show (10 * v + (c - 48)).toNat / 10 = v.toNat from by omega, ih]
        congr 2
        omega
theorem digL_ne (n : Nat) : digL n ≠ [] := by
  by_cases h : n < 10
  · rw [digL_small h]; simp
  · rw [digL_big h]; simp
theorem digL_canon (n : Nat) : canon (digL n) ∧ valL (digL n) 0 = (n : Int) ∧ ((digL n).getD 0 0 = 48 → n = 0) := by
  induction n using Nat.strongRecOn with
  | ind n ih =>
    by_cases h : n < 10
    · rw [digL_small h]
      refine ⟨⟨?_, by simp, by simp⟩, ?_, ?_⟩
      · intro c hc
        simp at hc
        unfold dig
        omega
      · simp only [valL]; omega
      · simp; omega
    · obtain ⟨⟨h1, h2, h3⟩, h4, h5⟩ := ih (n / 10) (by omega)
      rw [digL_big h]
      have hg : (digL (n / 10) ++ [48 + ((n % 10 : Nat) : Int)]).getD 0 0 = (digL (n / 10)).getD 0 0 := by
        rcases hd : digL (n / 10) with _ | ⟨a, l⟩
        · exact absurd hd (digL_ne _)
        · rfl
      have hne : (digL (n / 10)).getD 0 0 ≠ 48 := fun e => by have := h5 e; omega
      refine ⟨⟨?_, by simp, ?_⟩, ?_, ?_⟩
      · intro c hc
        rcases List.mem_append.1 hc with hc | hc
        · exact h1 c hc
        · simp at hc
          unfold dig
          omega
      · rw [hg]; exact fun e => absurd e hne
      · rw [valL_app, h4]
        simp only [valL]
        omega
      · rw [hg]; exact fun e => absurd e hne
theorem canon_iff (xs : List Int) (h : ∀ c ∈ xs, dig c) : canon xs ↔ digL (valL xs 0).toNat = xs := by
  constructor
  · exact fun hc => digL_val _ xs rfl hc
  · intro e
    rw [← e]
    exact (digL_canon _).1
theorem canon_len {xs : List Int} (h : canon xs) (hv : valL xs 0 ≤ 1099511627776) : xs.length ≤ 13 := by
  obtain ⟨h1, h2, h3⟩ := h
  rcases xs with _ | ⟨c, cs⟩
  · exact absurd rfl h2
  · by_cases hc : c = 48
    · have := h3 (by simp [hc]); omega
    · have hp := val_pos h1 hc
      refine Decidable.of_not_not fun hl => ?_
      have : (10 : Int) ^ 13 ≤ 10 ^ cs.length := by
        obtain ⟨m, hm⟩ : ∃ m, cs.length = 13 + m := ⟨cs.length - 13, by simp at hl; omega⟩
        rw [hm, Int.pow_add]
        have h1 : (1 : Int) ≤ 10 ^ m := Int.add_one_le_iff.2 (Int.pow_pos (by decide))
        have := Int.mul_le_mul_of_nonneg_left h1 (show (0 : Int) ≤ 10 ^ 13 by decide)
        rwa [Int.mul_one] at this
      omega
theorem isB_digL (n : Nat) : isB (digL n) := fun c hc => by
  have := (digL_canon n).1.1 c hc
  unfold dig at this
  omega
theorem canon_len' (n : Nat) (h : n < 1000000000000000000) : (digL n).length ≤ 1000000 := by
  have hc := digL_canon n
  rcases hd : digL n with _ | ⟨c, cs⟩
  · simp
  · rw [hd] at hc
    by_cases h48 : c = 48
    · have := hc.1.2.2 (by simp [h48])
      omega
    · have hp := val_pos hc.1.1 h48
      rw [hc.2.1] at hp
      refine Decidable.of_not_not fun hl => ?_
      have : (10 : Int) ^ 20 ≤ 10 ^ cs.length := by
        obtain ⟨m, hm⟩ : ∃ m, cs.length = 20 + m := ⟨cs.length - 20, by simp at hl; omega⟩
        rw [hm, Int.pow_add]
        have h1 : (1 : Int) ≤ 10 ^ m := Int.add_one_le_iff.2 (Int.pow_pos (by decide))
        have := Int.mul_le_mul_of_nonneg_left h1 (show (0 : Int) ≤ 10 ^ 20 by decide)
        rwa [Int.mul_one] at this
      omega

/-! ### Numbers read -/
theorem drop_gb {xs : List Int} (hx : isB xs) {p : Nat} (h : p < xs.length) : xs.drop p = (gb xs p : Int) :: xs.drop (p + 1) := by
  rw [List.drop_eq_getElem_cons h]
  congr 1
  unfold gb
  rw [List.getD_eq_getElem?_getD, List.getElem?_eq_getElem h, Option.getD_some]
  have := hx _ (List.getElem_mem h)
  omega
instance (xs : List Int) : Decidable (canon xs) := by unfold canon; infer_instance
theorem numG_is {xs : List Int} (hx : isB xs) (hl : xs.length ≤ 15) : ∀ (d pos : Nat) (n : Int), pos ≤ xs.length → xs.length ≤ pos + d → 0 ≤ n → n < 10 ^ pos → numG (strOfNums xs) d pos n = if (∀ c ∈ xs.drop pos, dig c) then some (valL (xs.drop pos) n) else none
  | 0, pos, n, hp, hd, h0, hn => by
    rw [List.drop_eq_nil_of_le (by omega)]
    simp [numG, valL]
  | d + 1, pos, n, hp, hd, h0, hn => by
    by_cases hlt : pos < xs.length
    · simp only [numG]
      rw [if_pos (by rw [son_size]; exact hlt), dec_rune hx, dec_wid hx, drop_gb hx hlt]
      have hb : (10 : Int) ^ pos ≤ 10 ^ 15 := by
        obtain ⟨m, hm⟩ : ∃ m, 15 = pos + m := ⟨15 - pos, by omega⟩
        rw [hm, Int.pow_add]
        have h1 : (1 : Int) ≤ 10 ^ m := Int.add_one_le_iff.2 (Int.pow_pos (by decide))
        have h2 : (0 : Int) ≤ 10 ^ pos := Int.le_of_lt (Int.pow_pos (by decide))
        have := Int.mul_le_mul_of_nonneg_left h1 h2
        rwa [Int.mul_one] at this
      by_cases hg : gb xs pos < 128
      · obtain ⟨e1, e2⟩ := rune_low hg
        rw [e1, e2]
        by_cases hd2 : dig (gb xs pos : Int)
        · have hd3 := hd2
          unfold dig at hd3
          have hw : wrap64 (wrap64 (10 * n) + wrap64 (wrap32 ((gb xs pos : Int) - 48))) = 10 * n + ((gb xs pos : Int) - 48) := by
            rw [show wrap32 ((gb xs pos : Int) - 48) = (gb xs pos : Int) - 48 from by unfold wrap32; omega, w64 (x := (gb xs pos : Int) - 48) (by omega), w64 (x := 10 * n) (by omega), w64 (by omega)]
          rw [if_neg (by omega), hw, numG_is hx hl d (pos + 1) _ (by omega) (by omega) (by omega) (by rw [Int.pow_succ]; omega)]
          simp only [valL, List.forall_mem_cons]
          by_cases ha : ∀ c ∈ xs.drop (pos + 1), dig c
          · rw [if_pos ha, if_pos ⟨hd2, ha⟩]
          · rw [if_neg ha, if_neg (fun h => ha h.2)]
        · rw [if_pos (by unfold dig at hd2; omega), if_neg (fun h => hd2 (h _ (by simp)))]
      · obtain ⟨e1, e2⟩ := rune_high hg
        rw [if_pos (by omega), if_neg (fun h => by have := h _ (List.mem_cons_self); unfold dig at this; omega)]
    · rw [numG_end _ _ _ _ (by rw [son_size]; exact hlt), List.drop_eq_nil_of_le (by omega)]
      simp [valL]
/-- The number that a text tells, or none. -/
def numZ (xs : List Int) : Int × Bool :=
  if 1 < xs.length ∧ xs.getD 0 0 = 45 then (if canon (xs.drop 1) ∧ valL (xs.drop 1) 0 ≤ 1099511627776 ∧ xs.getD 1 0 ≠ 48 then (-(valL (xs.drop 1) 0), true) else (0, false))
  else if canon xs ∧ valL xs 0 ≤ 1099511627776 then (valL xs 0, true) else (0, false)
theorem bt0 {xs : List Int} (hx : isB xs) (h : 0 < xs.length) : bt (strOfNums xs) 0 = xs.getD 0 0 := by
  have := son_bt hx 0 (by omega) (by omega)
  rw [this]; rfl
theorem val_15 {xs : List Int} (h : ∀ c ∈ xs, dig c) (hl : xs.length ≤ 15) : valL xs 0 < 10 ^ 15 := by
  have h1 := (valL_mono xs 0 h (by omega)).2
  have h2 : (10 : Int) ^ xs.length ≤ 10 ^ 15 := by
    obtain ⟨m, hm⟩ : ∃ m, 15 = xs.length + m := ⟨15 - xs.length, by omega⟩
    rw [hm, Int.pow_add]
    have h1 : (1 : Int) ≤ 10 ^ m := Int.add_one_le_iff.2 (Int.pow_pos (by decide))
    have h2 : (0 : Int) ≤ 10 ^ xs.length := Int.le_of_lt (Int.pow_pos (by decide))
    have := Int.mul_le_mul_of_nonneg_left h1 h2
    rwa [Int.mul_one] at this
  simp only [Int.zero_add, Int.one_mul] at h1
  omega
theorem digN_is {xs : List Int} (hx : isB xs) (mn : Bool) : digN (strOfNums xs) mn = if canon xs ∧ valL xs 0 ≤ 1099511627776 ∧ (mn = true → xs.getD 0 0 ≠ 48) then ((if mn = true then -(valL xs 0) else valL xs 0), true) else (0, false) := by
  unfold digN
  rw [son_size]
  by_cases h0 : xs.length = 0
  · rw [if_pos (.inl h0), if_neg (fun h => h.1.2.1 (List.eq_nil_of_length_eq_zero h0))]
  rw [bt0 hx (by omega)]
  by_cases h13 : 13 < xs.length
  · rw [if_pos (.inr (.inl h13)), if_neg (fun h => by have := canon_len h.1 h.2.1; omega)]
  by_cases hz : xs.getD 0 0 = 48 ∧ (mn = true ∨ 1 < xs.length)
  · rw [if_pos (.inr (.inr hz)), if_neg]
    rintro ⟨h1, h2, h3⟩
    rcases hz.2 with h | h
    · exact h3 h hz.1
    · have := h1.2.2 hz.1
      omega
  · rw [if_neg (by rintro (h | h | h); exact h0 h; exact h13 h; exact hz h), numG_is hx (by omega) _ 0 0 (by omega) (by omega) (by omega) (by simp), List.drop_zero]
    by_cases ha : ∀ c ∈ xs, dig c
    · have hv := val_15 ha (by omega)
      have hn := val_nonneg ha
      have hc : canon xs := ⟨ha, fun e => h0 (by rw [e]; rfl), fun e => Decidable.of_not_not fun hl => hz ⟨e, .inr (by omega)⟩⟩
      rw [if_pos ha]
      simp only [endN]
      by_cases hm : 1099511627776 < valL xs 0
      · rw [if_pos hm, if_neg (fun h => by have := h.2.1; omega)]
      · rw [if_neg hm, if_pos (c := canon xs ∧ valL xs 0 ≤ 1099511627776 ∧ (mn = true → xs.getD 0 0 ≠ 48)) ⟨hc, by omega, fun e h => hz ⟨h, .inl e⟩⟩, w64 (by omega)]
        cases mn <;> rfl
    · rw [if_neg ha, if_neg (fun h => ha h.1.1)]
      rfl
theorem numberF_is {xs : List Int} (hx : isB xs) : numberF (strOfNums xs) = numZ xs := by
  unfold numberF numZ
  rw [son_size]
  by_cases h : 1 < xs.length ∧ xs.getD 0 0 = 45
  · rw [if_pos ⟨h.1, by rw [bt0 hx (by omega)]; exact h.2⟩, if_pos h, son_extract, List.take_length, digN_is (isB_drop hx 1)]
    have e : (xs.drop 1).getD 0 0 = xs.getD 1 0 := by simp [List.getD_eq_getElem?_getD, List.getElem?_drop]
    rw [e]
    simp only [if_true, true_implies]
  · have hh : ¬ (1 < xs.length ∧ bt (strOfNums xs) 0 = 45) := fun hc => h ⟨hc.1, by rw [← bt0 hx (by omega)]; exact hc.2⟩
    rw [if_neg hh, if_neg h, digN_is hx]
    simp

/-! ### A number's text -/
/-- A number's text. -/
def digZ (n : Int) : List Int := if n < 0 then 45 :: digL (-n).toNat else digL n.toNat
theorem digZ_isB (n : Int) : isB (digZ n) := by
  unfold digZ
  split
  · intro x hx
    rcases List.mem_cons.1 hx with rfl | hx
    · omega
    · exact isB_digL _ x hx
  · exact isB_digL _

/-! ### The document's digits -/
theorem Digits10_is : ∀ (k n : Nat), n < 10 ^ k → n < 1000000000000000000 → argosyref10_Digits.f (k + 2) (n : Int) = some (strOfNums (digL n))
  | k, n, h, hb => by
    have small : ∀ (k' : Nat) (m : Nat), m < 10 → argosyref10_Digits.f (k' + 1) (m : Int) = some (strOfNums (digL m)) := by
      intro k' m hm
      have hmx : mx (m : Int) 0 = m := by unfold mx; omega
      simp only [argosyref10_Digits.f]
      rw [if_pos (by omega), hmx, w64 (by omega), if_pos (by omega), if_pos (by omega), if_pos (by omega), digL_small hm, Int.toNat_natCast, show ((m : Int) + 1).toNat = m + 1 from by omega]
      have e : (⟨#[48, 49, 50, 51, 52, 53, 54, 55, 56, 57]⟩ : ByteArray) = strOfNums [48, 49, 50, 51, 52, 53, 54, 55, 56, 57] := rfl
      rw [e, son_extract]
      obtain rfl | rfl | rfl | rfl | rfl | rfl | rfl | rfl | rfl | rfl : m = 0 ∨ m = 1 ∨ m = 2 ∨ m = 3 ∨ m = 4 ∨ m = 5 ∨ m = 6 ∨ m = 7 ∨ m = 8 ∨ m = 9 := by omega
      all_goals rfl
    by_cases hs : n < 10
    · exact small (k + 1) n hs
    · obtain ⟨k, rfl⟩ : ∃ m, k = m + 1 := ⟨k - 1, by
        rcases k with _ | k
        · simp at h; omega
        · rfl⟩
      have hq : n / 10 < 10 ^ k := by
        rw [Nat.pow_succ] at h
        omega
      have ih := Digits10_is k (n / 10) hq (by omega)
      have hr := small (k + 1) (n % 10) (by omega)
      rw [show k + 1 + 2 = (k + 2) + 1 from by omega]
      rw [argosyref10_Digits.f]
      have e1 : wrap64 (Int.tdiv (n : Int) 10) = ((n / 10 : Nat) : Int) := by
        rw [Int.tdiv_eq_ediv_of_nonneg (by omega)]
        rw [w64 (by omega)]
        omega
      have e2 : Int.tmod (n : Int) 10 = ((n % 10 : Nat) : Int) := by
        rw [Int.tmod_eq_emod_of_nonneg (by omega)]
        omega
      rw [if_neg (by omega), e1, e2, ih, hr, Option.bind_some, Option.bind_some, if_pos, digL_big hs, digL_small (n := n % 10) (by omega), son_append]
      rw [son_size, son_size, digL_small (n := n % 10) (by omega)]
      have hlen := canon_len' (n / 10) (by omega)
      simp
      omega
theorem Digits_is {k : Nat} (hk : 20 ≤ k) {n : Int} (h : -100000000000000000 ≤ n ∧ n ≤ 100000000000000000) : argosyref27_Digits.f k n = some (strOfNums (digZ n)) := by
  obtain ⟨k, rfl⟩ : ∃ m, k = m + 2 := ⟨k - 2, by omega⟩
  have hp : 100000000000000000 < 10 ^ k := by
    obtain ⟨m, rfl⟩ : ∃ m, k = 18 + m := ⟨k - 18, by omega⟩
    rw [Nat.pow_add]
    have : 1 ≤ 10 ^ m := Nat.pos_iff_ne_zero.2 (by simp)
    omega
  unfold argosyref27_Digits.f digZ
  by_cases hn : n < 0
  · have e := Digits10_is k (-n).toNat (by omega) (by omega)
    rw [show (((-n).toNat : Nat) : Int) = -n from by omega] at e
    rw [if_pos hn, if_pos hn, w64 (by omega), e, Option.bind_some, if_pos]
    · rw [show (⟨#[45]⟩ : ByteArray) = strOfNums [45] from rfl, ← son_append]
      rfl
    · rw [son_size]
      have := canon_len' (-n).toNat (by omega)
      omega
  · have e := Digits10_is k n.toNat (by omega) (by omega)
    rw [show ((n.toNat : Nat) : Int) = n from by omega] at e
    rw [if_neg hn, if_neg hn, e, Option.bind_some]

/-! ### The library's numerals are the document's -/
theorem decDigits_is (n : Nat) : Lib.decDigits n = (digL n).map fun c => UInt8.ofNat c.toNat := by
  induction n using Nat.strongRecOn with
  | ind n ih =>
    by_cases h : n < 10
    · rw [Lib.decDigits, digL_small h, dif_pos h, List.map_cons, List.map_nil, show (48 + (n : Int)).toNat = 48 + n from by omega]
    · rw [Lib.decDigits, digL_big h, dif_neg h, ih (n / 10) (by omega), List.map_append, List.map_cons, List.map_nil, show (48 + ((n % 10 : Nat) : Int)).toNat = 48 + n % 10 from by omega]
theorem itoa_is (n : Int) : itoaB n = strOfNums (digZ n) := by
  apply bytes_ext
  rw [bytes_toList, bytes_toList, son_data]
  unfold itoaB Lib.itoa digZ
  by_cases h : n < 0
  · rw [if_pos h, if_pos h, decDigits_is, show n.natAbs = (-n).toNat from by omega, List.map_cons]
    rfl
  · rw [if_neg h, if_neg h, decDigits_is]
theorem join_flat (l : List (List UInt8)) : Lib.join l [] = l.flatten := by
  unfold Lib.join
  induction l with
  | nil => rfl
  | cons a l ih =>
    cases l with
    | nil => simp [List.intercalate]
    | cons b l =>
      rw [show ([] : List UInt8).intercalate (a :: b :: l) = a ++ ([] ++ ([] : List UInt8).intercalate (b :: l)) from by simp [List.intercalate], ih]
      simp
theorem joinB_is (l : List (List Int)) : joinB (l.map strOfNums) (⟨#[]⟩ : ByteArray) = strOfNums l.flatten := by
  apply bytes_ext
  rw [bytes_toList, bytes_toList, son_data]
  unfold joinB
  show Lib.join _ [] = _
  rw [join_flat, List.map_map, List.map_flatten]
  congr 1

/-! ### Same moves -/
theorem Same39_loop (a : List S34) (hal : a.length ≤ 1000000) (h3 : ∀ m ∈ a, m.f3.length ≤ 1000) : ∀ (d i k : Nat), a.length = i + d → d + 1010 ≤ k → argosyref27_Same.l0 k a a (i : Int) = some true
  | 0, i, k, hd, hk => by
    obtain ⟨k, rfl⟩ : ∃ m, k = m + 1 := ⟨k - 1, by omega⟩
    rw [argosyref27_Same.l0, if_neg (by omega)]
  | d + 1, i, k, hd, hk => by
    obtain ⟨k, rfl⟩ : ∃ m, k = m + 1 := ⟨k - 1, by omega⟩
    have hi : i < a.length := by omega
    have hm : rd_T34 a (i : Int) ∈ a := by
      unfold rd_T34
      rw [Int.toNat_natCast, List.getD_eq_getElem?_getD, List.getElem?_eq_getElem hi]
      exact List.getElem_mem hi
    have := h3 _ hm
    rw [argosyref27_Same.l0, if_pos (by omega), if_pos (by omega), if_pos (by omega), if_pos rfl, if_pos rfl, if_pos rfl, Same_is (by omega) (by omega), Option.bind_some, decide_eq_true rfl, if_pos rfl, w64 (by omega), show (i : Int) + 1 = ((i + 1 : Nat) : Int) from by omega]
    exact Same39_loop a hal h3 d (i + 1) k (by omega) (by omega)
theorem Same39_is {a : List S34} (hal : a.length ≤ 1000000) (h3 : ∀ m ∈ a, m.f3.length ≤ 1000) {k : Nat} (hk : a.length + 1010 ≤ k) : argosyref27_Same.f k a a = some true := by
  unfold argosyref27_Same.f
  rw [if_pos rfl]
  exact Same39_loop a hal h3 a.length 0 k (by omega) hk

/-! ### Moves printed -/
def wordL (n : Int) : List Int := if n = 1 then [116, 105, 99, 107] else if n = 2 then [99, 114, 97, 115, 104] else if n = 3 then [111, 112, 101, 110] else if n = 4 then [97, 114, 109] else [103, 114, 111, 119]
theorem word_is (n : Int) : scene_word.f n = some (strOfNums (wordL n)) := by
  unfold scene_word.f wordL
  repeat' split
  all_goals rfl
def numsM (m : S34) : List Int := numsF m.f0 m.f1 m.f2 m.f3
/-- A move that may be. -/
def goodM (m : S34) : Prop := checkF m.f0 m.f1 m.f2 m.f3 = 0
instance (m : S34) : Decidable (goodM m) := by unfold goodM; infer_instance
def bitsM (m : S34) : List (List Int) := wordL m.f0 :: (numsM m).flatMap (fun n => [[32], digZ n]) ++ [[32, 59, 10]]
def moveL (m : S34) : List Int := (bitsM m).flatten
def sceneL (l : List S34) : List Int := l.flatMap moveL
theorem good_facts {m : S34} (h : goodM m) : (1 ≤ m.f0 ∧ m.f0 ≤ 5) ∧ (numsM m).length ≤ 70 ∧ (∀ n ∈ numsM m, -1099511627776 ≤ n ∧ n ≤ 1099511627776) ∧ (m.f0 ≠ 2 → m.f3 = []) ∧ (m.f0 ≠ 1 → m.f2 = 0) ∧ (m.f0 = 2 ∨ m.f0 = 3 → m.f1 = 0) := by
  unfold goodM checkF at h
  by_cases c1 : m.f0 < 1 ∨ 5 < m.f0 ∨ 70 < (numsF m.f0 m.f1 m.f2 m.f3).length ∨ (numsF m.f0 m.f1 m.f2 m.f3).any isFar = true
  · rw [if_pos c1] at h; exact absurd h (by decide)
  rw [if_neg c1] at h
  by_cases c2 : (0 < m.f3.length ∧ m.f0 ≠ 2) ∨ ¬ (m.f2 = 0 ∨ m.f0 = 1)
  · rw [if_pos c2] at h; exact absurd h (by decide)
  rw [if_neg c2] at h
  by_cases c3 : m.f1 ≠ 0 ∧ (m.f0 = 2 ∨ m.f0 = 3)
  · rw [if_pos c3] at h; exact absurd h (by decide)
  have e1 : ¬ m.f0 < 1 := fun h => c1 (.inl h)
  have e2 : ¬ 5 < m.f0 := fun h => c1 (.inr (.inl h))
  have e3 : ¬ 70 < (numsM m).length := fun h => c1 (.inr (.inr (.inl h)))
  have e4 : ¬ (numsM m).any isFar = true := fun h => c1 (.inr (.inr (.inr h)))
  refine ⟨by omega, by omega, fun n hn => ?_, fun hk => ?_, fun hk => ?_, fun hk => ?_⟩
  · have : ¬ isFar n = true := fun hf => e4 (List.any_eq_true.2 ⟨n, hn, hf⟩)
    unfold isFar at this
    simp only [Bool.or_eq_true, decide_eq_true_eq] at this
    omega
  · refine List.eq_nil_of_length_eq_zero ?_
    refine Decidable.of_not_not fun hl => c2 (.inl ⟨by omega, hk⟩)
  · exact Decidable.of_not_not fun hz => c2 (.inr (fun h => h.elim hz hk))
  · exact Decidable.of_not_not fun hz => c3 ⟨hz, hk⟩
theorem check_two (a0 a1 a2 : Int) (l : List Int) : checkF a0 a1 a2 l = 0 ∨ checkF a0 a1 a2 l = 2 := by
  unfold checkF
  repeat' split
  all_goals simp
theorem numI_ok {n : Int} (h : -1099511627776 ≤ n ∧ n ≤ 1099511627776) : numI n = true := by
  unfold numI
  rw [decide_eq_true (by omega), decide_eq_true (by omega)]
  rfl
theorem print_l1 (ms : List S34) (n i : Int) (ts : List Int) (hts : ∀ t ∈ ts, -1099511627776 ≤ t ∧ t ≤ 1099511627776) (hl : ts.length ≤ 1000) : ∀ (d j k : Nat) (acc : List ByteArray), ts.length = j + d → acc.length + 2 * d ≤ 1000000000 → scene_Print.l1 (k + d + 1) acc ms n i ts (ts.length : Int) (j : Int) = scene_Print.l0 k (acc ++ (ts.drop j).flatMap (fun t => [strOfNums [32], strOfNums (digZ t)]) ++ [strOfNums [32, 59, 10]]) ms n (wrap64 (i + 1))
  | 0, j, k, acc, hd, ha => by
    rw [show k + 0 + 1 = k + 1 from rfl, scene_Print.l1, if_neg (by omega), if_pos (by omega), List.drop_eq_nil_of_le (by omega)]
    simp only [List.flatMap_nil, List.append_nil]
    rfl
  | d + 1, j, k, acc, hd, ha => by
    have hj : j < ts.length := by omega
    have hr : rd ts (j : Int) = ts[j] := by
      unfold rd
      rw [Int.toNat_natCast, List.getD_eq_getElem?_getD, List.getElem?_eq_getElem hj, Option.getD_some]
    have hg := hts _ (List.getElem_mem hj)
    rw [show k + (d + 1) + 1 = (k + d + 1) + 1 from by omega, scene_Print.l1, if_pos (by omega), if_pos (by omega), if_pos (by omega), hr]
    unfold strconv_Itoa.f
    rw [if_pos (numI_ok hg), Option.bind_some, itoa_is, Option.bind_some, if_pos (by simp; omega), show wrap64 ((j : Int) + 1) = ((j + 1 : Nat) : Int) from by unfold wrap64; omega, print_l1 ms n i ts hts hl d (j + 1) k _ (by omega) (by simp; omega), List.drop_eq_getElem_cons hj, List.flatMap_cons]
    simp only [List.append_assoc, List.cons_append, List.nil_append]
    rfl
/-- What a list of right moves prints. -/
theorem print_l0 (ms : List S34) (hm : ms.length ≤ 1000) : ∀ (d i k : Nat) (acc : List (List Int)), ms.length = i + d → 80 * d + 1 ≤ k → acc.length + 200 * d ≤ 1000000 → (∀ x ∈ acc, x.length ≤ 1000002) →
    scene_Print.l0 k (acc.map strOfNums) ms (ms.length : Int) (i : Int) = if (∀ m ∈ ms.drop i, goodM m) then some (strOfNums (acc.flatten ++ sceneL (ms.drop i)), 0) else some ((⟨#[]⟩ : ByteArray), 2)
  | 0, i, k, acc, hd, hk, ha, hx => by
    obtain ⟨k, rfl⟩ : ∃ m, k = m + 1 := ⟨k - 1, by omega⟩
    rw [scene_Print.l0, if_neg (by omega), List.drop_eq_nil_of_le (by omega), if_pos (by simp)]
    unfold strings_Join.f
    have hs : acc.flatten.length ≤ 2000000000000 := by
      have : ∀ (l : List (List Int)), (∀ x ∈ l, x.length ≤ 1000002) → l.flatten.length ≤ l.length * 1000002 := by
        intro l
        induction l with
        | nil => intro _; simp
        | cons a l ih =>
          intro h
          have h1 := h a (by simp)
          have h2 := ih (fun x hx => h x (by simp [hx]))
          rw [List.flatten_cons, List.length_append, List.length_cons]
          omega
      have := this acc hx
      omega
    rw [joinB_is, if_pos (by rw [son_size, List.length_map]; omega), Option.bind_some]
    simp [sceneL]
  | d + 1, i, k, acc, hd, hk, ha, hx => by
    obtain ⟨k, rfl⟩ : ∃ m, k = m + 1 := ⟨k - 1, by omega⟩
    have hi : i < ms.length := by omega
    have hr : rd_T34 ms (i : Int) = ms[i] := by
      unfold rd_T34
      rw [Int.toNat_natCast, List.getD_eq_getElem?_getD, List.getElem?_eq_getElem hi, Option.getD_some]
    rw [scene_Print.l0, if_pos (by omega), if_pos (by omega), if_pos (by omega), hr, List.drop_eq_getElem_cons hi]
    obtain ⟨m, hmm⟩ : ∃ m, ms[i] = m := ⟨_, rfl⟩
    rw [hmm]
    have hck : scene_Check.f m.f0 m.f1 m.f2 m.f3 = some (checkF m.f0 m.f1 m.f2 m.f3) := rfl
    rw [hck, Option.bind_some]
    by_cases hg : goodM m
    · obtain ⟨f1, f2, f3, f4, f5, f6⟩ := good_facts hg
      have hnm : scene_numbers.f m.f0 m.f1 m.f2 m.f3 = some (numsM m) := rfl
      obtain ⟨k', rfl⟩ : ∃ k', k = k' + (numsM m).length + 1 := ⟨k - (numsM m).length - 1, by omega⟩
      have hflen : ((numsM m).flatMap fun n => [[32], digZ n]).length = 2 * (numsM m).length := by
        generalize numsM m = q
        induction q with
        | nil => rfl
        | cons a q ih => rw [List.flatMap_cons, List.length_append, ih, List.length_cons]; simp; omega
      have hacc : ∀ x ∈ acc ++ bitsM m, x.length ≤ 1000002 := by
        intro x hxm
        rcases List.mem_append.1 hxm with hxm | hxm
        · exact hx x hxm
        · unfold bitsM at hxm
          rcases List.mem_append.1 hxm with hxm | hxm
          · rcases List.mem_cons.1 hxm with rfl | hxm
            · unfold wordL
              repeat' split
              all_goals simp
            · obtain ⟨n, hn, hxn⟩ := List.mem_flatMap.1 hxm
              simp only [List.mem_cons, List.not_mem_nil, or_false] at hxn
              rcases hxn with rfl | rfl
              · simp
              · have := f3 n hn
                unfold digZ
                split
                · have := canon_len' (-n).toNat (by omega)
                  simp; omega
                · have := canon_len' n.toNat (by omega)
                  omega
          · simp at hxm
            rw [hxm]; simp
      rw [if_pos (show checkF m.f0 m.f1 m.f2 m.f3 = 0 from hg), word_is, Option.bind_some, if_pos (by simp; omega), hnm, Option.bind_some]
      have e0 : ((0 : Int)) = ((0 : Nat) : Int) := rfl
      have h1 := print_l1 ms (ms.length : Int) (i : Int) (numsM m) f3 (by omega) (numsM m).length 0 k' (acc.map strOfNums ++ [strOfNums (wordL m.f0)]) (by omega) (by simp; omega)
      rw [show ((0 : Nat) : Int) = 0 from rfl] at h1
      rw [h1, show wrap64 ((i : Int) + 1) = ((i + 1 : Nat) : Int) from by unfold wrap64; omega]
      have e1 : acc.map strOfNums ++ [strOfNums (wordL m.f0)] ++ ((numsM m).drop 0).flatMap (fun t => [strOfNums [32], strOfNums (digZ t)]) ++ [strOfNums [32, 59, 10]] = (acc ++ bitsM m).map strOfNums := by
        unfold bitsM
        rw [List.drop_zero]
        simp only [List.map_append, List.map_cons, List.map_nil, List.map_flatMap, List.append_assoc, List.cons_append, List.nil_append]
      rw [e1, print_l0 ms hm d (i + 1) k' (acc ++ bitsM m) (by omega) (by omega) (by unfold bitsM; simp [hflen]; omega) hacc]
      by_cases hrest : ∀ x ∈ ms.drop (i + 1), goodM x
      · rw [if_pos hrest, if_pos (by
          intro x hxm
          rcases List.mem_cons.1 hxm with rfl | hxm
          · exact hg
          · exact hrest x hxm)]
        unfold sceneL moveL
        rw [List.flatMap_cons, List.flatten_append, List.append_assoc]
      · rw [if_neg hrest, if_neg (fun h => hrest (fun x hxm => h x (List.mem_cons_of_mem _ hxm)))]
    · rw [if_neg (show ¬ checkF m.f0 m.f1 m.f2 m.f3 = 0 from hg), if_neg (fun h => hg (h m List.mem_cons_self))]
      have := (check_two m.f0 m.f1 m.f2 m.f3).resolve_left hg
      rw [this]
theorem Print_is (ms : List S34) {k : Nat} (hk : 90000 ≤ k) : scene_Print.f k ms = some (if ms.length ≤ 1000 then (if (∀ m ∈ ms, goodM m) then (strOfNums (sceneL ms), 0) else ((⟨#[]⟩ : ByteArray), 2)) else ((⟨#[]⟩ : ByteArray), 5)) := by
  unfold scene_Print.f
  by_cases h : ms.length ≤ 1000
  · rw [if_neg (by omega), if_pos h]
    have := print_l0 ms h ms.length 0 k [] (by omega) (by omega) (by simp; omega) (by simp)
    rw [show ((0 : Nat) : Int) = 0 from rfl, List.map_nil, List.drop_zero] at this
    rw [this]
    split <;> simp
  · rw [if_pos (by omega), if_neg h]

/-! ### The document's right moves -/
def rngZ (n : Int) : Prop := -1099511627776 ≤ n ∧ n ≤ 1099511627776
instance (n : Int) : Decidable (rngZ n) := by unfold rngZ; infer_instance
theorem is_rng (n : Int) : argosyref27_is.f n = some (decide (rngZ n)) := by
  unfold argosyref27_is.f
  by_cases h : n ≥ -1099511627776
  · rw [if_pos h]
    congr 1
    rw [decide_eq_decide]
    unfold rngZ
    omega
  · rw [if_neg h]
    congr 1
    exact (decide_eq_false (by unfold rngZ; omega)).symm
def lastZ (a0 a1 a2 : Int) (l : List Int) : Prop := (a1 = 0 ∨ (a0 ≠ 2 ∧ a0 ≠ 3)) ∧ (a2 = 0 ∨ a0 = 1) ∧ (l = [] ∨ a0 = 2)
instance (a0 a1 a2 : Int) (l : List Int) : Decidable (lastZ a0 a1 a2 l) := by unfold lastZ; infer_instance
theorem right_loop (a0 a1 a2 : Int) (l : List Int) (hl : l.length ≤ 1000) : ∀ (d i k : Nat), l.length = i + d → d + 1 ≤ k → argosyref27_Right.l0 k (i : Int) a0 a1 a2 l = some (decide ((∀ x ∈ l.drop i, rngZ x) ∧ lastZ a0 a1 a2 l))
  | 0, i, k, hd, hk => by
    obtain ⟨k, rfl⟩ : ∃ m, k = m + 1 := ⟨k - 1, by omega⟩
    rw [argosyref27_Right.l0, if_neg (by omega), List.drop_eq_nil_of_le (by omega)]
    have e0 : ((∀ x ∈ ([] : List Int), rngZ x) ∧ lastZ a0 a1 a2 l) ↔ lastZ a0 a1 a2 l := ⟨fun h => h.2, fun h => ⟨by simp, h⟩⟩
    rw [show decide ((∀ x ∈ ([] : List Int), rngZ x) ∧ lastZ a0 a1 a2 l) = decide (lastZ a0 a1 a2 l) from decide_eq_decide.2 e0]
    have el : ((l.length : Int) = 0) ↔ l = [] := by rw [← List.length_eq_zero_iff]; omega
    have e2 : (a0 == 2) = decide (a0 = 2) := by by_cases h : a0 = 2 <;> simp [h]
    simp only [el, e2]
    unfold lastZ
    by_cases h1 : a1 = 0 <;> by_cases h2 : a2 = 0 <;> by_cases h3 : l = [] <;> by_cases h4 : a0 = 1 <;> by_cases h5 : a0 = 2 <;> by_cases h6 : a0 = 3 <;> simp_all
  | d + 1, i, k, hd, hk => by
    obtain ⟨k, rfl⟩ : ∃ m, k = m + 1 := ⟨k - 1, by omega⟩
    have hi : i < l.length := by omega
    have hr : rd l (i : Int) = l[i] := by
      unfold rd
      rw [Int.toNat_natCast, List.getD_eq_getElem?_getD, List.getElem?_eq_getElem hi, Option.getD_some]
    rw [argosyref27_Right.l0, if_pos (by omega), if_pos (by omega), is_rng, Option.bind_some, hr, List.drop_eq_getElem_cons hi]
    by_cases h : rngZ l[i]
    · rw [if_pos (decide_eq_true h), show wrap64 ((i : Int) + 1) = ((i + 1 : Nat) : Int) from by unfold wrap64; omega, right_loop a0 a1 a2 l hl d (i + 1) k (by omega) (by omega)]
      congr 1
      rw [decide_eq_decide]
      simp only [List.forall_mem_cons]
      exact ⟨fun hc => ⟨⟨h, hc.1⟩, hc.2⟩, fun hc => ⟨hc.1.2, hc.2⟩⟩
    · rw [if_neg (by simpa using h)]
      congr 1
      exact (decide_eq_false fun hc => h (hc.1 _ List.mem_cons_self)).symm
theorem any_far {l : List Int} : l.any isFar = true ↔ ¬ ∀ x ∈ l, rngZ x := by
  rw [List.any_eq_true]
  constructor
  · rintro ⟨x, hx, hf⟩ hc
    have := hc x hx
    unfold isFar at hf
    unfold rngZ at this
    simp only [Bool.or_eq_true, decide_eq_true_eq] at hf
    omega
  · intro hc
    refine Decidable.of_not_not fun hn => hc fun x hx => ?_
    refine Decidable.of_not_not fun hr => hn ⟨x, hx, ?_⟩
    unfold isFar
    unfold rngZ at hr
    simp only [Bool.or_eq_true, decide_eq_true_eq]
    omega
theorem good_iff (a0 a1 a2 : Int) (l : List Int) : checkF a0 a1 a2 l = 0 ↔ (1 ≤ a0 ∧ a0 ≤ 5) ∧ rngZ a1 ∧ rngZ a2 ∧ l.length ≤ 70 ∧ (∀ x ∈ l, rngZ x) ∧ lastZ a0 a1 a2 l := by
  have z0 : rngZ 0 := by unfold rngZ; omega
  constructor
  · intro h
    obtain ⟨f1, f2, f3, f4, f5, f6⟩ := good_facts (m := ⟨a0, a1, a2, l⟩) h
    simp only at f1 f2 f3 f4 f5 f6
    unfold numsM numsF at f2 f3
    simp only at f2 f3
    unfold lastZ
    obtain rfl | rfl | rfl | rfl | rfl : a0 = 1 ∨ a0 = 2 ∨ a0 = 3 ∨ a0 = 4 ∨ a0 = 5 := by omega
    · have h4 := f4 (by omega)
      subst h4
      have g1 := f3 a1 (by simp)
      have g2 := f3 a2 (by simp)
      exact ⟨f1, g1, g2, by simp, by simp, .inr ⟨by omega, by omega⟩, .inr rfl, .inl rfl⟩
    · have h5 := f5 (by omega)
      have h6 := f6 (.inl rfl)
      subst h5 h6
      exact ⟨f1, z0, z0, f2, f3, .inl rfl, .inl rfl, .inr rfl⟩
    · have h4 := f4 (by omega)
      have h5 := f5 (by omega)
      have h6 := f6 (.inr rfl)
      subst h4 h5 h6
      exact ⟨f1, z0, z0, by simp, by simp, .inl rfl, .inl rfl, .inl rfl⟩
    · have h4 := f4 (by omega)
      have h5 := f5 (by omega)
      subst h4 h5
      have g1 := f3 a1 (by simp)
      exact ⟨f1, g1, z0, by simp, by simp, .inr ⟨by omega, by omega⟩, .inl rfl, .inl rfl⟩
    · have h4 := f4 (by omega)
      have h5 := f5 (by omega)
      subst h4 h5
      have g1 := f3 a1 (by simp)
      exact ⟨f1, g1, z0, by simp, by simp, .inr ⟨by omega, by omega⟩, .inl rfl, .inl rfl⟩
  · rintro ⟨h1, h2, h3, h4, h5, h6, h7, h8⟩
    have hn : (numsF a0 a1 a2 l).length ≤ 70 ∧ ∀ x ∈ numsF a0 a1 a2 l, rngZ x := by
      unfold numsF
      repeat' split
      · exact ⟨by simp, by simp [h2, h3]⟩
      · exact ⟨h4, h5⟩
      · exact ⟨by simp, by simp [h2]⟩
      · exact ⟨by simp, by simp [h2]⟩
      · exact ⟨by simp, by simp⟩
    unfold checkF
    rw [if_neg (by
      rintro (h | h | h | h)
      · omega
      · omega
      · omega
      · exact any_far.1 h hn.2), if_neg (by
      rintro (⟨h, h'⟩ | h)
      · rcases h8 with rfl | h8
        · simp at h
        · exact h' h8
      · exact h h7), if_neg (by
      rintro ⟨h, h'⟩
      rcases h6 with h6 | h6
      · exact h h6
      · omega)]
theorem Right_is (a0 a1 a2 : Int) (l : List Int) (hl : l.length ≤ 1000) {k : Nat} (hk : 1100 ≤ k) : argosyref27_Right.f k a0 a1 a2 l = some (decide (checkF a0 a1 a2 l = 0)) := by
  have hg := good_iff a0 a1 a2 l
  obtain ⟨k, rfl⟩ : ∃ m, k = m + 1 := ⟨k - 1, by omega⟩
  have hf : argosyref27_Right.j0 (k + 1) true a0 a1 a2 l = some false := by rw [argosyref27_Right.j0, if_pos rfl]
  unfold argosyref27_Right.f
  by_cases c1 : a0 < 1
  · rw [if_pos c1, hf]
    congr 1
    exact (decide_eq_false fun h => by have := (hg.1 h).1; omega).symm
  rw [if_neg c1]
  by_cases c2 : a0 > 5
  · rw [if_pos c2, hf]
    congr 1
    exact (decide_eq_false fun h => by have := (hg.1 h).1; omega).symm
  rw [if_neg c2, is_rng, is_rng, Option.bind_some, Option.bind_some]
  by_cases c3 : rngZ a1
  · rw [if_pos (decide_eq_true c3)]
    by_cases c4 : rngZ a2
    · rw [if_pos (decide_eq_true c4), argosyref27_Right.j0]
      by_cases c5 : (l.length : Int) > 70
      · rw [if_pos (decide_eq_true c5)]
        congr 1
        exact (decide_eq_false fun h => by have := (hg.1 h).2.2.2.1; omega).symm
      · have := right_loop a0 a1 a2 l hl l.length 0 k (by omega) (by omega)
        rw [show ((0 : Nat) : Int) = 0 from rfl, List.drop_zero] at this
        rw [if_neg (by simpa using c5), this]
        congr 1
        rw [decide_eq_decide, hg]
        constructor
        · intro h; exact ⟨⟨by omega, by omega⟩, c3, c4, by omega, h.1, h.2⟩
        · intro h; exact ⟨h.2.2.2.2.1, h.2.2.2.2.2⟩
    · rw [if_neg (by simpa using c4), hf]
      congr 1
      exact (decide_eq_false fun h => c4 (hg.1 h).2.2.1).symm
  · rw [if_neg (by simpa using c3), hf]
    congr 1
    exact (decide_eq_false fun h => c3 (hg.1 h).2.1).symm
theorem rCheck_is (a0 a1 a2 : Int) (l : List Int) (hl : l.length ≤ 1000) {k : Nat} (hk : 1100 ≤ k) : argosyref27_Check.f k a0 a1 a2 l = some (checkF a0 a1 a2 l) := by
  unfold argosyref27_Check.f
  rw [Right_is a0 a1 a2 l hl hk, Option.bind_some]
  rcases check_two a0 a1 a2 l with h | h
  · rw [if_pos (decide_eq_true h), h]
  · rw [if_neg (by rw [h]; decide), h]

/-! ### How long a move is printed -/
def numsLen (l : List Int) : Nat := (l.map fun n => 1 + (digZ n).length).sum
theorem numsLen_is (l : List Int) : ((l.flatMap fun n => [[32], digZ n]).flatten).length = numsLen l := by
  unfold numsLen
  induction l with
  | nil => rfl
  | cons a l ih =>
    rw [List.flatMap_cons]
    simp only [List.cons_append, List.nil_append, List.flatten_cons, List.length_append, List.length_cons, List.length_nil, List.map_cons, List.sum_cons, ih]
    omega
theorem moveL_len (m : S34) : (moveL m).length = (wordL m.f0).length + numsLen (numsM m) + 3 := by
  unfold moveL bitsM
  rw [List.flatten_append, List.flatten_cons, List.length_append, List.length_append, numsLen_is]
  rfl

/-! ### Few moves -/
theorem few_loop (l : List S34) (hl : l.length ≤ 1100) : ∀ (d i k : Nat), l.length = i + d → d + 1 ≤ k → argosylaw27_few.l0 k l (i : Int) = some (decide (∀ m ∈ l.drop i, m.f3.length ≤ 100))
  | 0, i, k, hd, hk => by
    obtain ⟨k, rfl⟩ : ∃ m, k = m + 1 := ⟨k - 1, by omega⟩
    rw [argosylaw27_few.l0, if_neg (by omega), List.drop_eq_nil_of_le (by omega)]
    simp
  | d + 1, i, k, hd, hk => by
    obtain ⟨k, rfl⟩ : ∃ m, k = m + 1 := ⟨k - 1, by omega⟩
    have hi : i < l.length := by omega
    have hr : rd_T34 l (i : Int) = l[i] := by
      unfold rd_T34
      rw [Int.toNat_natCast, List.getD_eq_getElem?_getD, List.getElem?_eq_getElem hi, Option.getD_some]
    rw [argosylaw27_few.l0, if_pos (by omega), if_pos (by omega), hr, List.drop_eq_getElem_cons hi]
    by_cases h : (l[i].f3.length : Int) > 100
    · rw [if_pos h]
      congr 1
      refine (decide_eq_false fun hc => ?_).symm
      have := hc _ List.mem_cons_self
      omega
    · rw [if_neg h, show wrap64 ((i : Int) + 1) = ((i + 1 : Nat) : Int) from by unfold wrap64; omega, few_loop l hl d (i + 1) k (by omega) (by omega)]
      congr 1
      rw [decide_eq_decide]
      constructor
      · intro hc x hx
        rcases List.mem_cons.1 hx with rfl | hx
        · omega
        · exact hc x hx
      · intro hc x hx
        exact hc x (List.mem_cons_of_mem _ hx)
theorem few_is (l : List S34) {k : Nat} (hk : 1200 ≤ k) : argosylaw27_few.f k l = some (decide (l.length ≤ 1100 ∧ ∀ m ∈ l, m.f3.length ≤ 100)) := by
  unfold argosylaw27_few.f
  by_cases h : l.length ≤ 1100
  · rw [if_neg (by omega)]
    have := few_loop l h l.length 0 k (by omega) (by omega)
    rw [show ((0 : Nat) : Int) = 0 from rfl, List.drop_zero] at this
    rw [this]
    simp [h]
  · rw [if_pos (by omega)]
    congr 1
    exact (decide_eq_false fun hc => h hc.1).symm

/-! ### The examples -/
theorem lv1 : scene_Read.f (⟨#[116, 105, 99, 107, 32, 48, 32, 45, 51, 59, 32, 99, 114, 97, 115, 104, 32, 49, 32, 50, 32, 59, 111, 112, 101, 110, 59, 32, 35, 32, 101, 110, 100]⟩ : ByteArray) = some ([(⟨1, 0, (-3), ([] : List Int)⟩ : S34), (⟨2, 0, 0, (([1, 2] : List Int))⟩ : S34), (⟨3, 0, 0, ([] : List Int)⟩ : S34)], 33, 0) := by kernel_rfl
theorem lv2 : scene_Read.f (⟨#[116, 105, 99, 107, 32, 48, 59]⟩ : ByteArray) = some ([], 6, 10) := by kernel_rfl
theorem lv3 : scene_Read.f (⟨#[97, 114, 109, 32, 48, 49, 59]⟩ : ByteArray) = some ([], 4, 10) := by kernel_rfl
theorem lv4 : scene_Number.f (⟨#[45, 49, 50]⟩ : ByteArray) = some (-12, true) := by kernel_rfl
theorem lives_is {k : Nat} (hk : 1100 ≤ k) : argosylaw27_lives.f k = some true := by
  unfold argosylaw27_lives.f
  rw [lv1, Option.bind_some, lv2, Option.bind_some, lv3, Option.bind_some, lv4, Option.bind_some]
  simp only
  rw [Same39_is (by simp) (by intro m hm; simp at hm; rcases hm with rfl | rfl | rfl <;> simp) (by simp; omega), Option.bind_some]
  rfl

theorem wordT_is {n : Int} (h : 1 ≤ n ∧ n ≤ 5) : wordT n = strOfNums (wordL n) := by
  obtain rfl | rfl | rfl | rfl | rfl : n = 1 ∨ n = 2 ∨ n = 3 ∨ n = 4 ∨ n = 5 := by omega
  all_goals rfl
theorem digZ_len {n : Int} (h : -1099511627776 ≤ n ∧ n ≤ 1099511627776) : (digZ n).length ≤ 1000001 := by
  unfold digZ
  split
  · have := canon_len' (-n).toNat (by omega)
    simp; omega
  · have := canon_len' n.toNat (by omega)
    omega
theorem textGo_is {k : Nat} (hk : 20 ≤ k) : ∀ (ns : List Int) (s : List Int), (∀ n ∈ ns, -1099511627776 ≤ n ∧ n ≤ 1099511627776) → s.length + 1000003 * ns.length ≤ 1000000000000000 → textGo k ns (strOfNums s) = some (strOfNums (s ++ (ns.flatMap fun n => [[32], digZ n]).flatten ++ [32, 59, 10]))
  | [], s, hn, hs => by
    rw [textGo, if_pos (by rw [son_size]; simp at hs; omega), show (⟨#[32, 59, 10]⟩ : ByteArray) = strOfNums [32, 59, 10] from rfl, ← son_append]
    simp
  | n :: ns, s, hn, hs => by
    have h0 := hn n (by simp)
    have hl := digZ_len h0
    rw [List.length_cons] at hs
    rw [textGo, if_pos (by rw [son_size]; omega), Digits_is hk (by omega), Option.bind_some, show (⟨#[32]⟩ : ByteArray) = strOfNums [32] from rfl, ← son_append, if_pos (by rw [son_size, son_size, List.length_append]; simp; omega), ← son_append, textGo_is hk ns _ (fun x hx => hn x (by simp [hx])) (by simp; omega)]
    congr 2
    simp
theorem text_is {m : S34} (h : goodM m) {k : Nat} (hk : 20 ≤ k) : argosyref27_text.f k m.f0 m.f1 m.f2 m.f3 = some (strOfNums (moveL m)) := by
  obtain ⟨f1, f2, f3, f4, f5, f6⟩ := good_facts h
  have hn : textNums m.f0 m.f1 m.f2 m.f3 = numsM m := by
    unfold textNums numsM numsF
    by_cases c1 : m.f0 = 1
    · rw [if_pos c1, if_pos c1]
    rw [if_neg c1, if_neg c1]
    by_cases c2 : m.f0 = 2
    · rw [if_pos c2, if_neg (by omega), if_neg (by omega)]
    rw [if_neg c2]
    by_cases c4 : m.f0 = 4
    · rw [if_pos c4, if_pos c4]
    rw [if_neg c4, if_neg c4]
    by_cases c5 : m.f0 = 5
    · rw [if_pos c5, if_pos c5]
    rw [if_neg c5, if_neg c5]
    exact f4 c2
  have hw : (wordL m.f0).length ≤ 6 := by
    unfold wordL
    repeat' split
    all_goals simp
  show textF k m.f0 m.f1 m.f2 m.f3 = _
  unfold textF
  rw [if_pos (by omega), hn, wordT_is f1, textGo_is hk _ _ f3 (by omega)]
  unfold moveL bitsM
  simp [List.flatten_append]
theorem moveL_short {m : S34} (h : goodM m) : (moveL m).length ≤ 100000000 := by
  obtain ⟨f1, f2, f3, f4, f5, f6⟩ := good_facts h
  have hw : (wordL m.f0).length ≤ 6 := by
    unfold wordL
    repeat' split
    all_goals simp
  have key : ∀ l : List Int, (∀ n ∈ l, -1099511627776 ≤ n ∧ n ≤ 1099511627776) → numsLen l ≤ 1000002 * l.length := by
    intro l
    induction l with
    | nil => intro _; simp [numsLen]
    | cons a l ih =>
      intro hl
      have h1 := digZ_len (hl a (by simp))
      have h2 := ih (fun n hn => hl n (by simp [hn]))
      unfold numsLen at h2 ⊢
      rw [List.map_cons, List.sum_cons, List.length_cons]
      omega
  have := key (numsM m) f3
  rw [moveL_len]
  omega
theorem rPrint_l0 (ms : List S34) (hm : ms.length ≤ 1000) (h3 : ∀ m ∈ ms, m.f3.length ≤ 100) (B : Nat) (hB : 1200 ≤ B) : ∀ (d i k : Nat) (acc : List Int), ms.length = i + d → d + B ≤ k → acc.length + 100000000 * d ≤ 1000000000000 →
    argosyref27_Print.l0 k ms (strOfNums acc) (i : Int) = if (∀ m ∈ ms.drop i, goodM m) then some (strOfNums (acc ++ sceneL (ms.drop i)), 0) else some ((⟨#[]⟩ : ByteArray), 2)
  | 0, i, k, acc, hd, hk, ha => by
    obtain ⟨k, rfl⟩ : ∃ m, k = m + 1 := ⟨k - 1, by omega⟩
    rw [argosyref27_Print.l0, if_neg (by omega), List.drop_eq_nil_of_le (by omega), if_pos (by simp)]
    simp [sceneL]
  | d + 1, i, k, acc, hd, hk, ha => by
    obtain ⟨k, rfl⟩ : ∃ m, k = m + 1 := ⟨k - 1, by omega⟩
    have hi : i < ms.length := by omega
    have hr : rd_T34 ms (i : Int) = ms[i] := by
      unfold rd_T34
      rw [Int.toNat_natCast, List.getD_eq_getElem?_getD, List.getElem?_eq_getElem hi, Option.getD_some]
    have hl3 := h3 _ (List.getElem_mem hi)
    rw [argosyref27_Print.l0, if_pos (by omega), if_pos (by omega), hr, List.drop_eq_getElem_cons hi]
    obtain ⟨m, hmm⟩ : ∃ m, ms[i] = m := ⟨_, rfl⟩
    rw [hmm] at hl3 ⊢
    have hk2 : 1100 ≤ k := by clear ha hd hm hr hmm hl3; omega
    have hl4 : m.f3.length ≤ 1000 := Nat.le_trans hl3 (by decide)
    rw [Right_is m.f0 m.f1 m.f2 m.f3 hl4 hk2, Option.bind_some]
    by_cases hg : goodM m
    · have hs := moveL_short hg
      rw [if_pos (decide_eq_true (show checkF m.f0 m.f1 m.f2 m.f3 = 0 from hg)), text_is hg (by omega), Option.bind_some, if_pos (by rw [son_size, son_size]; omega), ← son_append, show wrap64 ((i : Int) + 1) = ((i + 1 : Nat) : Int) from by unfold wrap64; omega, rPrint_l0 ms hm h3 B hB d (i + 1) k (acc ++ moveL m) (by omega) (by omega) (by rw [List.length_append]; omega)]
      by_cases hrest : ∀ x ∈ ms.drop (i + 1), goodM x
      · rw [if_pos hrest, if_pos (by
          intro x hxm
          rcases List.mem_cons.1 hxm with rfl | hxm
          · exact hg
          · exact hrest x hxm)]
        unfold sceneL
        rw [List.flatMap_cons, List.append_assoc]
      · rw [if_neg hrest, if_neg (fun h => hrest (fun x hxm => h x (List.mem_cons_of_mem _ hxm)))]
    · rw [if_neg (by simpa using (show ¬ checkF m.f0 m.f1 m.f2 m.f3 = 0 from hg)), if_neg (fun h => hg (h m List.mem_cons_self))]
theorem rPrint_is (ms : List S34) (h3 : ∀ m ∈ ms, m.f3.length ≤ 100) {k : Nat} (hk : 90000 ≤ k) : argosyref27_Print.f k ms = some (if ms.length ≤ 1000 then (if (∀ m ∈ ms, goodM m) then (strOfNums (sceneL ms), 0) else ((⟨#[]⟩ : ByteArray), 2)) else ((⟨#[]⟩ : ByteArray), 5)) := by
  unfold argosyref27_Print.f
  by_cases h : ms.length ≤ 1000
  · rw [if_neg (by omega), if_pos h]
    have := rPrint_l0 ms h h3 1200 (Nat.le_refl _) ms.length 0 k [] (by omega) (by omega) (by simp; omega)
    rw [show ((0 : Nat) : Int) = 0 from rfl, List.drop_zero, show strOfNums [] = (⟨#[]⟩ : ByteArray) from rfl] at this
    rw [this]
    split <;> simp
  · rw [if_pos (by omega), if_neg h]
theorem prints_loop (ms : List S34) (hm : ms.length ≤ 1100) (h3 : ∀ m ∈ ms, m.f3.length ≤ 100) (x : ByteArray) (e : Int) (B : Nat) (hB : 2400 ≤ B) : ∀ (d i k : Nat), ms.length = i + d → d + B ≤ k → argosylaw27_ScenePrints.l0 k ms x e x e (i : Int) = some true
  | 0, i, k, hd, hk => by
    obtain ⟨k, rfl⟩ : ∃ m, k = m + 1 := ⟨k - 1, by omega⟩
    rw [argosylaw27_ScenePrints.l0, if_neg (by omega), if_pos rfl, if_pos rfl, lives_is (by omega), Option.bind_some]
  | d + 1, i, k, hd, hk => by
    obtain ⟨k, rfl⟩ : ∃ m, k = m + 1 := ⟨k - 1, by omega⟩
    have hi : i < ms.length := by omega
    have hr : rd_T34 ms (i : Int) = ms[i] := by
      unfold rd_T34
      rw [Int.toNat_natCast, List.getD_eq_getElem?_getD, List.getElem?_eq_getElem hi, Option.getD_some]
    have hl3 := h3 _ (List.getElem_mem hi)
    have hck : scene_Check.f (ms[i]).f0 (ms[i]).f1 (ms[i]).f2 (ms[i]).f3 = some (checkF (ms[i]).f0 (ms[i]).f1 (ms[i]).f2 (ms[i]).f3) := rfl
    rw [argosylaw27_ScenePrints.l0, if_pos (by omega), if_pos (by omega), hr, hck, Option.bind_some, rCheck_is _ _ _ _ (by omega) (by omega), Option.bind_some, if_pos rfl, show wrap64 ((i : Int) + 1) = ((i + 1 : Nat) : Int) from by unfold wrap64; omega]
    exact prints_loop ms hm h3 x e B hB d (i + 1) k (by omega) (by omega)
theorem ScenePrints : argosylaw27_ScenePrints.Pure := by
  intro l hm hs
  refine ⟨100000, ?_⟩
  obtain ⟨k, hk⟩ : ∃ k : Nat, k = 100000 := ⟨_, rfl⟩
  rw [← hk]
  unfold argosylaw27_ScenePrints.f
  rw [few_is l (by omega), Option.bind_some]
  by_cases hf : l.length ≤ 1100 ∧ ∀ m ∈ l, m.f3.length ≤ 100
  · rw [if_pos (decide_eq_true hf), Print_is l (by omega), rPrint_is l hf.2 (by omega), Option.bind_some, Option.bind_some]
    exact prints_loop l hf.1 hf.2 _ _ 2400 (Nat.le_refl _) l.length 0 k (by omega) (by omega)
  · rw [if_neg (by simpa using hf), lives_is (by omega), Option.bind_some]

end Go.Proofs.YtfmbdmkiamedeaaDoor.Pure
