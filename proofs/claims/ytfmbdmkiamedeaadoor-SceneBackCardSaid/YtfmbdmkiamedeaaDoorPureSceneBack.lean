/- What was printed is read as it was; what is read, printed, and read again, is the same. -/
import Derived.Test.YtfmbdmkiamedeaaDoorPSceneBackx7
import Derived.Lib.TrimUEq
set_option linter.unusedVariables false
set_option linter.unusedSimpArgs false
namespace Go.Proofs.YtfmbdmkiamedeaaDoor.Pure
open Go.RowKit Go.Proofs.YtfmbdmkiamedeaaDoor.PSceneBack Go.Proofs.YtfmbdmkiamedeaaDoorW.PrintWords Go.Proofs.YtfmbdmkiamedeaaDoorW.PrintLast Go.Proofs.YtfmbdmkiamedeaaDoorW.PrintMore

/-! ### Bytes -/
def isB (l : List Int) : Prop := ∀ x ∈ l, 0 ≤ x ∧ x < 256
theorem isB_of_wf {l : List Int} (h : ∀ x ∈ l, (Lit.int .u8 x).wf = true) : isB l := by
  intro x hx
  have := h x hx
  simp [Lit.wf, IntKind.min, IntKind.max, IntKind.bits, IntKind.signed] at this
  omega
theorem i64_of_wf {x : Int} (h : (Lit.int .i64 x).wf = true) : -9223372036854775808 ≤ x ∧ x ≤ 9223372036854775807 := by
  simp [Lit.wf, IntKind.min, IntKind.max, IntKind.bits, IntKind.signed] at h
  omega
theorem toList_loop (s : ByteArray) : ∀ (d i : Nat) (r : List UInt8), s.size - i = d → ByteArray.toList.loop s i r = r.reverse ++ s.data.toList.drop i := by
  intro d
  have hl : s.data.toList.length = s.size := Array.length_toList
  induction d with
  | zero =>
    intro i r h
    unfold ByteArray.toList.loop
    rw [if_neg (by omega), List.drop_eq_nil_of_le (by omega), List.append_nil]
  | succ d ih =>
    intro i r h
    unfold ByteArray.toList.loop
    rw [if_pos (by omega), ih (i + 1) _ (by omega)]
    have hi : i < s.data.toList.length := by omega
    rw [List.drop_eq_getElem_cons hi, List.reverse_cons, List.append_assoc]
    have : s.get! i = s.data.toList[i] := by
      have hs : i < s.size := by omega
      simp [ByteArray.get!, getElem!_pos, hs]
    rw [this]; rfl
theorem bytes_toList (s : ByteArray) : s.toList = s.data.toList := by
  unfold ByteArray.toList
  rw [toList_loop s _ 0 [] rfl]
  simp
theorem bytes_ext {a b : ByteArray} (h : a.toList = b.toList) : a = b := by
  rw [bytes_toList, bytes_toList] at h
  cases a; cases b
  congr 1
  exact Array.toList_inj.1 h
theorem son_data (xs : List Int) : (strOfNums xs).data.toList = xs.map fun n => UInt8.ofNat n.toNat := by simp [strOfNums]
theorem son_size (xs : List Int) : (strOfNums xs).size = xs.length := by simp [strOfNums, ByteArray.size]
theorem son_append (xs ys : List Int) : strOfNums (xs ++ ys) = strOfNums xs ++ strOfNums ys := by
  apply bytes_ext
  rw [bytes_toList, bytes_toList, son_data]
  simp [strOfNums]
theorem son_nil : strOfNums [] = (⟨#[]⟩ : ByteArray) := rfl
theorem u8_inj {a b : Int} (ha : 0 ≤ a ∧ a < 256) (hb : 0 ≤ b ∧ b < 256) (h : UInt8.ofNat a.toNat = UInt8.ofNat b.toNat) : a = b := by
  have := congrArg UInt8.toNat h
  simp [UInt8.toNat_ofNat'] at this
  omega
theorem map_u8_inj : ∀ {xs ys : List Int}, isB xs → isB ys → (xs.map fun n => UInt8.ofNat n.toNat) = (ys.map fun n => UInt8.ofNat n.toNat) → xs = ys
  | [], [], _, _, _ => rfl
  | [], y :: ys, _, _, h => by simp at h
  | x :: xs, [], _, _, h => by simp at h
  | x :: xs, y :: ys, hx, hy, h => by
    simp only [List.map_cons, List.cons.injEq] at h
    rw [u8_inj (hx x (by simp)) (hy y (by simp)) h.1, map_u8_inj (fun z hz => hx z (by simp [hz])) (fun z hz => hy z (by simp [hz])) h.2]
theorem son_inj {xs ys : List Int} (hx : isB xs) (hy : isB ys) (h : strOfNums xs = strOfNums ys) : xs = ys := by
  have := congrArg (fun s : ByteArray => s.data.toList) h
  simp only [son_data] at this
  exact map_u8_inj hx hy this
theorem son_toList_inj {xs ys : List Int} (hx : isB xs) (hy : isB ys) : (strOfNums xs).toList = (strOfNums ys).toList ↔ xs = ys :=
  ⟨fun h => son_inj hx hy (bytes_ext h), fun h => by rw [h]⟩
theorem son_bt {xs : List Int} (hx : isB xs) (i : Int) (h0 : 0 ≤ i) (h : i < xs.length) : bt (strOfNums xs) i = rd xs i := by
  have hi : i.toNat < xs.length := by omega
  unfold bt rd
  rw [dif_pos (by rw [son_size]; exact hi)]
  have hg : (strOfNums xs)[i.toNat]'(by rw [son_size]; exact hi) = UInt8.ofNat (xs[i.toNat]).toNat := by
    show (strOfNums xs).data[i.toNat]'_ = _
    simp [strOfNums]
  rw [hg, List.getD_eq_getElem?_getD, List.getElem?_eq_getElem hi]
  have := hx _ (List.getElem_mem hi)
  simp [UInt8.toNat_ofNat']
  omega
theorem son_extract (xs : List Int) (a b : Nat) : (strOfNums xs).extract a b = strOfNums ((xs.take b).drop a) := by
  apply bytes_ext
  rw [bytes_toList, bytes_toList, son_data]
  simp [strOfNums, ByteArray.data_extract, List.drop_take, List.map_take, List.map_drop, List.extract]
theorem isB_append {xs ys : List Int} (hx : isB xs) (hy : isB ys) : isB (xs ++ ys) := by
  intro z hz
  rcases List.mem_append.1 hz with h | h
  · exact hx z h
  · exact hy z h
theorem isB_take {xs : List Int} (h : isB xs) (n : Nat) : isB (xs.take n) := fun z hz => h z (List.mem_of_mem_take hz)
theorem isB_drop {xs : List Int} (h : isB xs) (n : Nat) : isB (xs.drop n) := fun z hz => h z (List.mem_of_mem_drop hz)
theorem rd_at {xs : List Int} (i : Int) (h0 : 0 ≤ i) (h : i < xs.length) : rd xs i = xs[i.toNat]'(by omega) := by
  unfold rd
  rw [List.getD_eq_getElem?_getD, List.getElem?_eq_getElem (by omega)]; rfl
theorem rd_isB {xs : List Int} (hx : isB xs) (i : Int) (h0 : 0 ≤ i) (h : i < xs.length) : 0 ≤ rd xs i ∧ rd xs i < 256 := by
  rw [rd_at i h0 h]
  exact hx _ (List.getElem_mem _)
theorem w64 {x : Int} (h : -9223372036854775808 ≤ x ∧ x ≤ 9223372036854775807) : wrap64 x = x := by
  unfold wrap64
  omega

/-! ### A string's bytes -/
theorem bytesOf_isB (s : ByteArray) : isB (bytesOf s) := by
  intro x hx
  unfold bytesOf at hx
  obtain ⟨b, _, rfl⟩ := List.mem_map.1 hx
  have := b.toNat_lt
  omega
theorem son_bytesOf (s : ByteArray) : strOfNums (bytesOf s) = s := by
  apply bytes_ext
  rw [bytes_toList, bytes_toList, son_data, bytesOf, List.map_map]
  have : ((fun n : Int => UInt8.ofNat n.toNat) ∘ fun b : UInt8 => (b.toNat : Int)) = id := by
    funext b
    simp
  rw [this, List.map_id]

/-! ### Numbers alike -/
theorem Same_loop (a b : List Int) (hl : a.length = b.length) (ha : a.length ≤ 1152921504606846976) : ∀ (d k i : Nat), i + d = a.length → d < k → argosyref01_Same.l0 k a b (i : Int) = some (decide (a.drop i = b.drop i)) := by
  intro d
  induction d with
  | zero =>
    intro k i hi hk
    obtain ⟨k, rfl⟩ : ∃ m, k = m + 1 := ⟨k - 1, by omega⟩
    simp only [argosyref01_Same.l0]
    rw [if_neg (by omega), List.drop_eq_nil_of_le (by omega), List.drop_eq_nil_of_le (by omega)]
    simp
  | succ d ih =>
    intro k i hi hk
    obtain ⟨k, rfl⟩ : ∃ m, k = m + 1 := ⟨k - 1, by omega⟩
    simp only [argosyref01_Same.l0]
    have h1 : i < a.length := by omega
    have h2 : i < b.length := by omega
    have hra : rd a (i : Int) = a[i] := by rw [rd_at _ (by omega) (by omega)]; rfl
    have hrb : rd b (i : Int) = b[i] := by rw [rd_at _ (by omega) (by omega)]; rfl
    rw [if_pos (by omega), if_pos (by omega), if_pos (by omega), hra, hrb, List.drop_eq_getElem_cons h1, List.drop_eq_getElem_cons h2]
    by_cases h : a[i] = b[i]
    · rw [if_pos h, w64 (by omega), show ((i : Int) + 1) = ((i + 1 : Nat) : Int) from by omega, ih k (i + 1) (by omega) (by omega)]
      rw [h]
      congr 1
      rw [decide_eq_decide]
      simp only [List.cons.injEq, true_and]
    · rw [if_neg h, decide_eq_false]
      simp only [List.cons.injEq]
      exact fun hc => h hc.1
theorem Same_is {k : Nat} {a b : List Int} (ha : a.length ≤ 1152921504606846976) (hk : a.length < k) : argosyref01_Same.f k a b = some (decide (a = b)) := by
  unfold argosyref01_Same.f
  by_cases hl : a.length = b.length
  · rw [if_pos (by omega)]
    have := Same_loop a b hl ha a.length k 0 (by omega) hk
    simpa using this
  · rw [if_neg (by omega)]
    have : a ≠ b := fun h => hl (by rw [h])
    simp [this]

/-! ### The width of a rune -/
def vrune (x : Int) : Prop := 0 ≤ x ∧ x ≤ 1114111 ∧ (x < 55296 ∨ 57343 < x)
instance (x : Int) : Decidable (vrune x) := by unfold vrune; infer_instance
def widG (x : Int) : Int := if vrune x then (if x < 128 then 1 else if x < 2048 then 2 else if x < 65536 then 3 else 4) else 0
theorem widG_bad {x : Int} (h : ¬ vrune x) : widG x = 0 := if_neg h
theorem widG_ok {x : Int} (h : vrune x) : widG x = (if x < 128 then 1 else if x < 2048 then 2 else if x < 65536 then 3 else 4) := if_pos h
theorem widG_zero (x : Int) : widG x = 0 ↔ ¬ vrune x := by
  constructor
  · intro h hv
    rw [widG_ok hv] at h
    split at h
    · omega
    · split at h
      · omega
      · split at h <;> omega
  · exact widG_bad
theorem RuneLen_is {k : Nat} (hk : 1 ≤ k) {x : Int} (h0 : 0 ≤ x) (h1 : x ≤ 1114111) : (utf8_RuneLen.f k x).bind (fun t => some (mx 0 t)) = some (widG x) := by
  obtain ⟨k, rfl⟩ : ∃ m, k = m + 1 := ⟨k - 1, by omega⟩
  unfold utf8_RuneLen.f
  have hmx : ∀ n : Int, 0 ≤ n → mx 0 n = n := fun n hn => by unfold mx; omega
  rw [if_neg (by omega)]
  by_cases a : x ≤ 127
  · rw [if_pos a, Option.bind_some, hmx 1 (by omega), widG_ok (by unfold vrune; omega), if_pos (by omega)]
  rw [if_neg a]
  by_cases b : x ≤ 2047
  · rw [if_pos b, Option.bind_some, hmx 2 (by omega), widG_ok (by unfold vrune; omega), if_neg (by omega), if_pos (by omega)]
  rw [if_neg b]
  by_cases c : 55296 ≤ x
  · rw [if_pos c]
    simp only [utf8_RuneLen.j0]
    by_cases d : x ≤ 57343
    · rw [if_pos (decide_eq_true d), Option.bind_some, widG_bad (by unfold vrune; omega)]
      rfl
    · rw [if_neg (by simpa using d)]
      by_cases e : x ≤ 65535
      · rw [if_pos e, Option.bind_some, hmx 3 (by omega), widG_ok (by unfold vrune; omega), if_neg (by omega), if_neg (by omega), if_pos (by omega)]
      · rw [if_neg e, if_pos h1, Option.bind_some, hmx 4 (by omega), widG_ok (by unfold vrune; omega), if_neg (by omega), if_neg (by omega), if_neg (by omega)]
  · rw [if_neg c]
    simp only [utf8_RuneLen.j0]
    rw [if_neg (by decide), if_pos (by omega), Option.bind_some, hmx 3 (by omega), widG_ok (by unfold vrune; omega), if_neg (by omega), if_neg (by omega), if_pos (by omega)]
theorem Width_is {k : Nat} (hk : 1 ≤ k) (x : Int) : glyph_Width.f k x = some (widG x) := by
  unfold glyph_Width.f
  by_cases a : x < 0
  · rw [if_pos a, widG_bad (by unfold vrune; omega)]
  rw [if_neg a]
  by_cases b : x > 1114111
  · rw [if_pos b, widG_bad (by unfold vrune; omega)]
  rw [if_neg b, show wrap32 x = x from by unfold wrap32; omega]
  exact RuneLen_is hk (by omega) (by omega)

/-! ### A rune's bytes, and what a range over a text reads -/
open Go.Lib (decodeN)
theorem dN_pos (n b0 b1 b2 b3 : Nat) : 1 ≤ (decodeN n b0 b1 b2 b3).2 := by
  unfold decodeN
  repeat' split
  all_goals simp
theorem dN_le (n b0 b1 b2 b3 : Nat) (hn : 1 ≤ n) : (decodeN n b0 b1 b2 b3).2 ≤ n := by
  unfold decodeN
  repeat' split
  all_goals (simp only; omega)
def badN (n b0 b1 b2 b3 : Nat) : Prop := decodeN n b0 b1 b2 b3 = (65533, 1)
instance (n b0 b1 b2 b3 : Nat) : Decidable (badN n b0 b1 b2 b3) := by unfold badN; infer_instance
theorem dN_good (n b0 b1 b2 b3 : Nat) (h0 : b0 < 256) (h : ¬ badN n b0 b1 b2 b3) : vrune ((decodeN n b0 b1 b2 b3).1 : Int) ∧ widG ((decodeN n b0 b1 b2 b3).1 : Int) = ((decodeN n b0 b1 b2 b3).2 : Int) := by
  have key : ∀ (r w : Nat), vrune (r : Int) → (if (r : Int) < 128 then (1 : Int) else if (r : Int) < 2048 then 2 else if (r : Int) < 65536 then 3 else 4) = (w : Int) → vrune (((r, w) : Nat × Nat).1 : Int) ∧ widG (((r, w) : Nat × Nat).1 : Int) = (((r, w) : Nat × Nat).2 : Int) := fun r w h1 h2 => ⟨h1, by rw [widG_ok h1]; exact h2⟩
  unfold badN at h
  revert h
  unfold decodeN
  by_cases c0 : b0 < 128
  · rw [if_pos c0]
    exact fun _ => key _ _ (by unfold vrune; omega) (by rw [if_pos (by omega)]; rfl)
  rw [if_neg c0]
  by_cases c1 : b0 / 32 = 6 ∧ (1 < n ∧ b1 / 64 = 2)
  · rw [if_pos c1]
    by_cases c2 : b0 % 32 * 64 + b1 % 64 ≥ 128
    · rw [if_pos c2]
      exact fun _ => key _ _ (by unfold vrune; omega) (by rw [if_neg (by omega), if_pos (by omega)]; rfl)
    · rw [if_neg c2]; exact fun h => absurd rfl h
  rw [if_neg c1]
  by_cases c2 : b0 / 16 = 14 ∧ (1 < n ∧ b1 / 64 = 2) ∧ (2 < n ∧ b2 / 64 = 2)
  · rw [if_pos c2]
    split
    · rename_i c3
      exact fun _ => key _ _ (by unfold vrune; omega) (by rw [if_neg (by omega), if_neg (by omega), if_pos (by omega)]; rfl)
    · exact fun h => absurd rfl h
  rw [if_neg c2]
  by_cases c3 : b0 / 8 = 30 ∧ (1 < n ∧ b1 / 64 = 2) ∧ (2 < n ∧ b2 / 64 = 2) ∧ (3 < n ∧ b3 / 64 = 2)
  · rw [if_pos c3]
    split
    · rename_i c4
      exact fun _ => key _ _ (by unfold vrune; omega) (by rw [if_neg (by omega), if_neg (by omega), if_neg (by omega)]; rfl)
    · exact fun h => absurd rfl h
  rw [if_neg c3]
  exact fun h => absurd rfl h
theorem dN_fffd (n b0 b1 b2 b3 : Nat) (h0 : b0 < 256) (h1 : b1 < 256) (h2 : b2 < 256) (h3 : b3 < 256) (h : (decodeN n b0 b1 b2 b3).1 = 65533) : ¬ badN n b0 b1 b2 b3 ↔ (3 ≤ n ∧ b0 = 239 ∧ b1 = 191 ∧ b2 = 189) := by
  have key : ∀ (r w : Nat), (((r, w) : Nat × Nat)).1 = 65533 → (¬ ((r, w) : Nat × Nat) = (65533, 1) ↔ w ≠ 1) := fun r w h => by
    simp only at h
    subst h
    simp
  unfold badN
  revert h
  unfold decodeN
  by_cases c0 : b0 < 128
  · rw [if_pos c0]; intro h; rw [key _ _ h]; simp only at h; omega
  rw [if_neg c0]
  by_cases c1 : b0 / 32 = 6 ∧ (1 < n ∧ b1 / 64 = 2)
  · rw [if_pos c1]
    by_cases c2 : b0 % 32 * 64 + b1 % 64 ≥ 128
    · rw [if_pos c2]; intro h; rw [key _ _ h]; simp only at h; omega
    · rw [if_neg c2]; intro h; rw [key _ _ h]; omega
  rw [if_neg c1]
  by_cases c2 : b0 / 16 = 14 ∧ (1 < n ∧ b1 / 64 = 2) ∧ (2 < n ∧ b2 / 64 = 2)
  · rw [if_pos c2]
    split
    · rename_i c3; intro h; rw [key _ _ h]; simp only at h; omega
    · rename_i c3; intro h; rw [key _ _ h]; omega
  rw [if_neg c2]
  by_cases c3 : b0 / 8 = 30 ∧ (1 < n ∧ b1 / 64 = 2) ∧ (2 < n ∧ b2 / 64 = 2) ∧ (3 < n ∧ b3 / 64 = 2)
  · rw [if_pos c3]
    split
    · rename_i c4; intro h; rw [key _ _ h]; simp only at h; omega
    · rename_i c4; intro h; rw [key _ _ h]; omega
  rw [if_neg c3]
  intro h; rw [key _ _ h]; omega
/-- Byte i of a row, 0 beyond its end. -/
def gb (xs : List Int) (i : Nat) : Nat := (xs.getD i 0).toNat
theorem gb_lt {xs : List Int} (hx : isB xs) (i : Nat) : gb xs i < 256 := by
  unfold gb
  rw [List.getD_eq_getElem?_getD]
  by_cases h : i < xs.length
  · rw [List.getElem?_eq_getElem h]
    have := hx _ (List.getElem_mem h)
    simp only [Option.getD_some]
    omega
  · rw [List.getElem?_eq_none (by omega)]
    simp
theorem gb_drop (xs : List Int) (p i : Nat) : gb (xs.drop p) i = gb xs (p + i) := by
  unfold gb
  simp [List.getD_eq_getElem?_getD, List.getElem?_drop]
theorem dec_at {xs : List Int} (hx : isB xs) (p : Nat) : Utf8.decode (strOfNums xs) p = decodeN (xs.length - p) (gb xs p) (gb xs (p + 1)) (gb xs (p + 2)) (gb xs (p + 3)) := by
  rw [Go.Lib.decode_N, son_data, List.length_map]
  have : ∀ i : Nat, ((xs.map fun n => UInt8.ofNat n.toNat).getD i 0).toNat = gb xs i := by
    intro i
    have hl := gb_lt hx i
    have key : ∀ o : Option Int, (o.getD 0).toNat < 256 → ((o.map fun n => UInt8.ofNat n.toNat).getD 0).toNat = (o.getD 0).toNat := by
      intro o ho
      cases o with
      | none => rfl
      | some v =>
        simp only [Option.map_some, Option.getD_some, UInt8.toNat_ofNat'] at ho ⊢
        omega
    unfold gb at hl ⊢
    rw [List.getD_eq_getElem?_getD] at hl
    rw [List.getD_eq_getElem?_getD, List.getD_eq_getElem?_getD, List.getElem?_map]
    exact key _ hl
  rw [this, this, this, this]
/-- What stands at place p: nothing to be read (a broken byte). -/
def badAt (xs : List Int) (p : Nat) : Prop := badN (xs.length - p) (gb xs p) (gb xs (p + 1)) (gb xs (p + 2)) (gb xs (p + 3))
instance (xs : List Int) (p : Nat) : Decidable (badAt xs p) := by unfold badAt; infer_instance
def runeAt (xs : List Int) (p : Nat) : Int := ((decodeN (xs.length - p) (gb xs p) (gb xs (p + 1)) (gb xs (p + 2)) (gb xs (p + 3))).1 : Int)
def widAt (xs : List Int) (p : Nat) : Nat := (decodeN (xs.length - p) (gb xs p) (gb xs (p + 1)) (gb xs (p + 2)) (gb xs (p + 3))).2
theorem widAt_pos (xs : List Int) (p : Nat) : 1 ≤ widAt xs p := dN_pos _ _ _ _ _
theorem widAt_le (xs : List Int) (p : Nat) (h : p < xs.length) : p + widAt xs p ≤ xs.length := by
  have := dN_le (xs.length - p) (gb xs p) (gb xs (p + 1)) (gb xs (p + 2)) (gb xs (p + 3)) (by omega)
  unfold widAt
  omega
theorem good_at {xs : List Int} (hx : isB xs) {p : Nat} (h : ¬ badAt xs p) : vrune (runeAt xs p) ∧ widG (runeAt xs p) = (widAt xs p : Int) := dN_good _ _ _ _ _ (gb_lt hx _) h
theorem dec_rune {xs : List Int} (hx : isB xs) (p : Nat) : (((Utf8.decode (strOfNums xs) p).1 : Nat) : Int) = runeAt xs p := by rw [dec_at hx]; rfl
theorem dec_wid {xs : List Int} (hx : isB xs) (p : Nat) : (Utf8.decode (strOfNums xs) p).2 = widAt xs p := by rw [dec_at hx]; rfl
theorem take3 (xs : List Int) (p : Nat) : ((xs.drop p).take 3 = [239, 191, 189]) ↔ (3 ≤ xs.length - p ∧ xs.getD p 0 = 239 ∧ xs.getD (p + 1) 0 = 191 ∧ xs.getD (p + 2) 0 = 189) := by
  have e : ∀ i, xs.getD (p + i) 0 = (xs.drop p).getD i 0 := fun i => by simp [List.getD_eq_getElem?_getD, List.getElem?_drop]
  have hl : (xs.drop p).length = xs.length - p := by simp
  have e0 := e 0
  rw [Nat.add_zero] at e0
  rw [e0, e 1, e 2, ← hl]
  generalize xs.drop p = ys
  rcases ys with _ | ⟨a, _ | ⟨b, _ | ⟨c, ys⟩⟩⟩ <;> simp
theorem brk_at {xs : List Int} (hx : isB xs) (p : Nat) (hp : p ≤ xs.length) (r : Nat) (hr : (r : Int) = runeAt xs p) : brk (strOfNums xs) (p, r) = decide (badAt xs p) := by
  unfold brk glyph_broken.f
  simp only
  by_cases h : (r : Int) = 65533
  · have hk := dN_fffd (xs.length - p) (gb xs p) (gb xs (p + 1)) (gb xs (p + 2)) (gb xs (p + 3)) (gb_lt hx _) (gb_lt hx _) (gb_lt hx _) (gb_lt hx _) (by have := hr.symm.trans h; unfold runeAt at this; omega)
    have hsz := son_size xs
    rw [if_pos h, if_pos (by omega), if_pos (by omega), Int.toNat_natCast, son_extract, hsz, List.take_length]
    have e3 : (⟨#[239, 191, 189]⟩ : ByteArray) = strOfNums [239, 191, 189] := rfl
    have hs3 : (strOfNums [239, 191, 189]).size = 3 := rfl
    have i3 : isB [239, 191, 189] := by intro x hx; simp at hx; omega
    have hgb : ∀ i v, v < 256 → 0 ≤ v → (gb xs i = v.toNat ↔ (xs.getD i 0) = v) := by
      intro i v h1 h2
      unfold gb
      by_cases hi : i < xs.length
      · rw [List.getD_eq_getElem?_getD, List.getElem?_eq_getElem hi]
        have := hx _ (List.getElem_mem hi)
        simp only [Option.getD_some]
        omega
      · rw [List.getD_eq_getElem?_getD, List.getElem?_eq_none (by omega)]
        simp only [Option.getD_none]
        omega
    have hz : (strOfNums (xs.drop p)).size = xs.length - p := by rw [son_size]; simp
    have ht := take3 xs p
    rw [← hgb p 239 (by omega) (by omega), ← hgb (p + 1) 191 (by omega) (by omega), ← hgb (p + 2) 189 (by omega) (by omega)] at ht
    have hall := hk.trans ht.symm
    unfold strings_HasPrefix.f stringslite_HasPrefix.f
    rw [e3, hs3, hz]
    by_cases hc : ((xs.length - p : Nat) : Int) ≥ ((3 : Nat) : Int)
    · rw [if_pos hc, if_pos (by omega), if_pos (by omega), Int.toNat_natCast, son_extract]
      simp only [Option.bind_some, Option.getD_some, List.drop_zero]
      rw [Bool.eq_iff_iff, Bool.not_eq_true', beq_eq_false_iff_ne, decide_eq_true_iff, Ne, son_toList_inj (isB_take (isB_drop hx _) _) i3, ← hall, Decidable.not_not]
      rfl
    · rw [if_neg hc]
      simp only [Option.bind_some, Option.getD_some, Bool.not_false]
      rw [eq_comm, decide_eq_true_iff]
      refine Decidable.of_not_not fun hb => ?_
      have := (hk.1 hb).1
      omega
  · rw [if_neg h, Option.getD_some, eq_comm, decide_eq_false_iff_not]
    intro hb
    refine h (hr.trans ?_)
    unfold badAt badN at hb
    unfold runeAt
    rw [hb]
    rfl

/-! ### The loops over a text -/
def goodL (xs : List Int) : Nat → Nat → List Int
  | 0, _ => []
  | d + 1, p => if p < xs.length then (if badAt xs p then [] else runeAt xs p :: goodL xs d (p + widAt xs p)) else []
def badL (xs : List Int) : Nat → Nat → Int
  | 0, _ => -1
  | d + 1, p => if p < xs.length then (if badAt xs p then (p : Int) else badL xs d (p + widAt xs p)) else -1
theorem goodL_len (xs : List Int) : ∀ d p, (goodL xs d p).length ≤ d
  | 0, p => by simp [goodL]
  | d + 1, p => by
    rw [goodL]
    split
    · split
      · simp
      · have := goodL_len xs d (p + widAt xs p)
        simp; omega
    · simp
theorem goodL_v {xs : List Int} (hx : isB xs) : ∀ d p, ∀ r ∈ goodL xs d p, vrune r
  | 0, p => by simp [goodL]
  | d + 1, p => by
    rw [goodL]
    split
    · split
      · simp
      · rename_i hb
        intro r hr
        rcases List.mem_cons.1 hr with rfl | hr
        · exact (good_at hx hb).1
        · exact goodL_v hx d _ r hr
    · simp
theorem badG_is {xs : List Int} (hx : isB xs) : ∀ d p, p ≤ xs.length → badG (strOfNums xs) d p = badL xs d p
  | 0, p, _ => rfl
  | d + 1, p, hp => by
    rw [badG, badL, son_size]
    by_cases h : p < xs.length
    · rw [if_pos h, if_pos h, brk_at hx p hp _ (dec_rune hx p), dec_wid hx]
      by_cases hb : badAt xs p
      · rw [if_pos (decide_eq_true hb), if_pos hb]
      · rw [if_neg (by simpa using hb), if_neg hb, badG_is hx d _ (widAt_le xs p h)]
    · rw [if_neg h, if_neg h]
theorem badL_range (xs : List Int) : ∀ d p, badL xs d p = -1 ∨ (0 ≤ badL xs d p ∧ badL xs d p < xs.length)
  | 0, p => .inl rfl
  | d + 1, p => by
    rw [badL]
    split
    · split
      · exact .inr ⟨by omega, by omega⟩
      · exact badL_range xs d _
    · exact .inl rfl

/-! ### A rune is told by its own bytes alone -/
theorem dN_local (n n' b0 b1 b2 b3 c1 c2 c3 : Nat) (h : ¬ badN n b0 b1 b2 b3) (hw : (decodeN n b0 b1 b2 b3).2 ≤ n') (e1 : 2 ≤ (decodeN n b0 b1 b2 b3).2 → c1 = b1) (e2 : 3 ≤ (decodeN n b0 b1 b2 b3).2 → c2 = b2) (e3 : 4 ≤ (decodeN n b0 b1 b2 b3).2 → c3 = b3) : decodeN n' b0 c1 c2 c3 = decodeN n b0 b1 b2 b3 := by
  unfold badN at h
  revert h hw e1 e2 e3
  generalize hD : decodeN n b0 b1 b2 b3 = D
  unfold decodeN at hD
  by_cases a0 : b0 < 128
  · rw [if_pos a0] at hD
    subst hD
    intro _ _ _ _ _
    unfold decodeN
    rw [if_pos a0]
  rw [if_neg a0] at hD
  by_cases a1 : b0 / 32 = 6 ∧ (1 < n ∧ b1 / 64 = 2)
  · rw [if_pos a1] at hD
    split at hD
    · rename_i g
      subst hD
      intro _ hw e1 _ _
      simp only at hw e1
      have e1 := e1 (by omega)
      subst e1
      unfold decodeN
      rw [if_neg a0, if_pos (by omega), if_pos g]
    · subst hD; intro h; exact absurd rfl h
  rw [if_neg a1] at hD
  by_cases a2 : b0 / 16 = 14 ∧ (1 < n ∧ b1 / 64 = 2) ∧ (2 < n ∧ b2 / 64 = 2)
  · rw [if_pos a2] at hD
    split at hD
    · rename_i g
      subst hD
      intro _ hw e1 e2 _
      simp only at hw e1 e2
      have e1 := e1 (by omega)
      have e2 := e2 (by omega)
      subst e1 e2
      unfold decodeN
      rw [if_neg a0, if_neg (by omega), if_pos (by omega), if_pos g]
    · subst hD; intro h; exact absurd rfl h
  rw [if_neg a2] at hD
  by_cases a3 : b0 / 8 = 30 ∧ (1 < n ∧ b1 / 64 = 2) ∧ (2 < n ∧ b2 / 64 = 2) ∧ (3 < n ∧ b3 / 64 = 2)
  · rw [if_pos a3] at hD
    split at hD
    · rename_i g
      subst hD
      intro _ hw e1 e2 e3
      simp only at hw e1 e2 e3
      have e1 := e1 (by omega)
      have e2 := e2 (by omega)
      have e3 := e3 (by omega)
      subst e1 e2 e3
      unfold decodeN
      rw [if_neg a0, if_neg (by omega), if_neg (by omega), if_pos (by omega), if_pos g]
    · subst hD; intro h; exact absurd rfl h
  rw [if_neg a3] at hD
  subst hD
  intro h; exact absurd rfl h
theorem loc {xs ys : List Int} {p q : Nat} (h : ¬ badAt xs p) (hl : q + widAt xs p ≤ ys.length) (he : ∀ i, i < widAt xs p → gb ys (q + i) = gb xs (p + i)) : ¬ badAt ys q ∧ runeAt ys q = runeAt xs p ∧ widAt ys q = widAt xs p := by
  have hw := widAt_pos xs p
  have e0 : gb ys q = gb xs p := he 0 hw
  have e := dN_local (xs.length - p) (ys.length - q) (gb xs p) (gb xs (p + 1)) (gb xs (p + 2)) (gb xs (p + 3)) (gb ys (q + 1)) (gb ys (q + 2)) (gb ys (q + 3)) h (by unfold widAt at hl; omega) (fun g => he 1 (by unfold widAt; omega)) (fun g => he 2 (by unfold widAt; omega)) (fun g => he 3 (by unfold widAt; omega))
  rw [← e0] at e
  have e' : decodeN (ys.length - q) (gb ys q) (gb ys (q + 1)) (gb ys (q + 2)) (gb ys (q + 3)) = decodeN (xs.length - p) (gb xs p) (gb xs (p + 1)) (gb xs (p + 2)) (gb xs (p + 3)) := by rw [← e0]; exact e
  refine ⟨?_, ?_, ?_⟩
  · unfold badAt badN at h ⊢
    rw [e']
    exact h
  · unfold runeAt
    rw [e']
  · unfold widAt
    rw [e']
theorem gb_take (xs : List Int) (c i : Nat) (h : i < c) : gb (xs.take c) i = gb xs i := by
  unfold gb
  simp [List.getD_eq_getElem?_getD, List.getElem?_take, h]
theorem gb_left (xs ys : List Int) (i : Nat) (h : i < xs.length) : gb (xs ++ ys) i = gb xs i := by
  unfold gb
  simp [List.getD_eq_getElem?_getD, List.getElem?_append_left h]
theorem gb_right (xs ys : List Int) (i : Nat) : gb (xs ++ ys) (xs.length + i) = gb ys i := by
  unfold gb
  simp [List.getD_eq_getElem?_getD, List.getElem?_append_right]
theorem badAt_drop (xs : List Int) (c : Nat) : badAt (xs.drop c) 0 ↔ badAt xs c := by
  unfold badAt
  rw [gb_drop, gb_drop, gb_drop, gb_drop, List.length_drop]
  rfl
theorem goodL_end (xs : List Int) (d p : Nat) (h : ¬ p < xs.length) : goodL xs d p = [] := by cases d <;> simp [goodL, h]
theorem badL_end (xs : List Int) (d p : Nat) (h : ¬ p < xs.length) : badL xs d p = -1 := by cases d <;> simp [badL, h]

theorem at_right (xs ys : List Int) (q : Nat) : (badAt (xs ++ ys) (xs.length + q) ↔ badAt ys q) ∧ runeAt (xs ++ ys) (xs.length + q) = runeAt ys q ∧ widAt (xs ++ ys) (xs.length + q) = widAt ys q := by
  have e : ∀ i, gb (xs ++ ys) (xs.length + q + i) = gb ys (q + i) := fun i => by rw [Nat.add_assoc]; exact gb_right xs ys (q + i)
  have e0 := e 0
  rw [Nat.add_zero, Nat.add_zero] at e0
  have hl : (xs ++ ys).length - (xs.length + q) = ys.length - q := by simp; omega
  unfold badAt runeAt widAt
  rw [e0, e 1, e 2, e 3, hl]
  exact ⟨Iff.rfl, rfl, rfl⟩
theorem good_right (xs ys : List Int) : ∀ (d q : Nat), goodL (xs ++ ys) d (xs.length + q) = goodL ys d q ∧ (badL (xs ++ ys) d (xs.length + q) < 0 ↔ badL ys d q < 0)
  | 0, q => ⟨rfl, Iff.rfl⟩
  | d + 1, q => by
    obtain ⟨a1, a2, a3⟩ := at_right xs ys q
    rw [goodL, goodL, badL, badL]
    by_cases h : q < ys.length
    · have h' : xs.length + q < (xs ++ ys).length := by simp; omega
      rw [if_pos h, if_pos h, if_pos h', if_pos h']
      by_cases hb : badAt ys q
      · rw [if_pos hb, if_pos hb, if_pos (a1.2 hb), if_pos (a1.2 hb)]
        exact ⟨rfl, by omega⟩
      · have hb' : ¬ badAt (xs ++ ys) (xs.length + q) := fun g => hb (a1.1 g)
        rw [if_neg hb, if_neg hb, if_neg hb', if_neg hb', a2, a3, Nat.add_assoc]
        obtain ⟨i1, i2⟩ := good_right xs ys d (q + widAt ys q)
        exact ⟨by rw [i1], i2⟩
    · have h' : ¬ xs.length + q < (xs ++ ys).length := by simp; omega
      rw [if_neg h, if_neg h, if_neg h', if_neg h']
      exact ⟨rfl, by omega⟩
theorem good_fuel (xs : List Int) : ∀ (d d' p : Nat), xs.length ≤ p + d → xs.length ≤ p + d' → goodL xs d p = goodL xs d' p ∧ badL xs d p = badL xs d' p
  | 0, d', p, h, _ => by
    rw [goodL_end xs 0 p (by omega), goodL_end xs d' p (by omega), badL_end xs 0 p (by omega), badL_end xs d' p (by omega)]
    exact ⟨rfl, rfl⟩
  | d + 1, 0, p, _, h => by
    rw [goodL_end xs 0 p (by omega), goodL_end xs (d + 1) p (by omega), badL_end xs 0 p (by omega), badL_end xs (d + 1) p (by omega)]
    exact ⟨rfl, rfl⟩
  | d + 1, d' + 1, p, h1, h2 => by
    rw [goodL, goodL, badL, badL]
    by_cases h : p < xs.length
    · rw [if_pos h, if_pos h, if_pos h, if_pos h]
      by_cases hb : badAt xs p
      · rw [if_pos hb, if_pos hb, if_pos hb, if_pos hb]
        exact ⟨rfl, rfl⟩
      · have := widAt_pos xs p
        obtain ⟨i1, i2⟩ := good_fuel xs d d' (p + widAt xs p) (by omega) (by omega)
        rw [if_neg hb, if_neg hb, if_neg hb, if_neg hb, i1, i2]
        exact ⟨rfl, rfl⟩
    · rw [if_neg h, if_neg h, if_neg h, if_neg h]
      exact ⟨rfl, rfl⟩
theorem good_left (xs ys : List Int) (hy : badL ys ys.length 0 < 0) : ∀ (d p d' : Nat), p ≤ xs.length → xs.length ≤ p + d → xs.length + ys.length ≤ p + d' → badL xs d p < 0 → goodL (xs ++ ys) d' p = goodL xs d p ++ goodL ys ys.length 0 ∧ badL (xs ++ ys) d' p < 0 := by
  have atEnd : ∀ (p d d' : Nat), p = xs.length → xs.length + ys.length ≤ p + d' → goodL (xs ++ ys) d' p = goodL xs d p ++ goodL ys ys.length 0 ∧ badL (xs ++ ys) d' p < 0 := by
    rintro p d d' rfl hd
    obtain ⟨i1, i2⟩ := good_right xs ys d' 0
    rw [Nat.add_zero] at i1 i2
    obtain ⟨f1, f2⟩ := good_fuel ys d' ys.length 0 (by omega) (by omega)
    rw [goodL_end xs d xs.length (by omega), List.nil_append, i1, i2, f1, f2]
    exact ⟨rfl, hy⟩
  intro d
  induction d with
  | zero => intro p d' hp hd hd' _; exact atEnd p 0 d' (by omega) hd'
  | succ d ih =>
    intro p d' hp hd hd' hb0
    by_cases h : p < xs.length
    · obtain ⟨d', rfl⟩ : ∃ m, d' = m + 1 := ⟨d' - 1, by omega⟩
      rw [badL, if_pos h] at hb0
      by_cases hb : badAt xs p
      · rw [if_pos hb] at hb0; omega
      rw [if_neg hb] at hb0
      have hw := widAt_le xs p h
      have hw1 := widAt_pos xs p
      obtain ⟨l1, l2, l3⟩ := loc (xs := xs) (ys := xs ++ ys) (p := p) (q := p) hb (by simp; omega) (fun i hi => gb_left xs ys _ (by omega))
      have h' : p < (xs ++ ys).length := by simp; omega
      obtain ⟨i1, i2⟩ := ih (p + widAt xs p) d' hw (by omega) (by omega) hb0
      rw [goodL, goodL, badL, if_pos h, if_pos h', if_pos h', if_neg hb, if_neg l1, if_neg l1, l2, l3, i1, List.cons_append]
      exact ⟨rfl, i2⟩
    · exact atEnd p (d + 1) d' (by omega) hd'

/-! ### Pieces of a text -/
def endL (xs : List Int) (fr : Int) (e : Nat) : List (List Int × Int) := if fr < 0 then [] else [((xs.take e).drop fr.toNat, fr)]
/-- A text's pieces, byte by byte, from a place on. -/
def pcL (xs : List Int) : Nat → Nat → Bool → Int → List (List Int × Int)
  | 0, _, _, fr => endL xs fr xs.length
  | d + 1, pos, rm, fr =>
    if pos < xs.length then
      (if rm = true then pcL xs d (pos + 1) (gb xs pos != 10) fr
       else if gb xs pos = 35 then endL xs fr pos ++ pcL xs d (pos + 1) true (-1)
       else if gb xs pos = 59 then endL xs fr pos ++ ([59], (pos : Int)) :: pcL xs d (pos + 1) false (-1)
       else if gb xs pos = 9 ∨ gb xs pos = 10 ∨ gb xs pos = 13 ∨ gb xs pos = 32 then endL xs fr pos ++ pcL xs d (pos + 1) false (-1)
       else pcL xs d (pos + 1) false (if fr < 0 then (pos : Int) else fr))
    else endL xs fr xs.length
theorem pcL_end (xs : List Int) (d pos : Nat) (rm : Bool) (fr : Int) (h : ¬ pos < xs.length) : pcL xs d pos rm fr = endL xs fr xs.length := by cases d <;> simp [pcL, h]
theorem pcL_fuel (xs : List Int) : ∀ (d d' pos : Nat) (rm : Bool) (fr : Int), xs.length ≤ pos + d → xs.length ≤ pos + d' → pcL xs d pos rm fr = pcL xs d' pos rm fr
  | 0, d', pos, rm, fr, h, h' => by rw [pcL_end _ _ _ _ _ (by omega), pcL_end _ _ _ _ _ (by omega)]
  | d + 1, 0, pos, rm, fr, h, h' => by rw [pcL_end _ _ _ _ _ (by omega), pcL_end _ _ _ _ _ (by omega)]
  | d + 1, d' + 1, pos, rm, fr, h, h' => by
    have ih : ∀ rm fr, pcL xs d (pos + 1) rm fr = pcL xs d' (pos + 1) rm fr := fun rm fr => pcL_fuel xs d d' (pos + 1) rm fr (by omega) (by omega)
    simp only [pcL, ih]
/-- A byte of no meaning. -/
theorem pcL_skip (xs : List Int) (d pos : Nat) (rm : Bool) (fr : Int) (hp : pos < xs.length) (h : 128 ≤ gb xs pos) : pcL xs (d + 1) pos rm fr = pcL xs d (pos + 1) rm (if rm = true then fr else if fr < 0 then (pos : Int) else fr) := by
  simp only [pcL]
  rw [if_pos hp]
  cases rm with
  | true =>
    rw [if_pos rfl, if_pos rfl]
    congr 1
    simp; omega
  | false =>
    rw [if_neg (by decide), if_neg (by omega), if_neg (by omega), if_neg (by omega), if_neg (c := (false : Bool) = true) (by decide)]
theorem pcL_skips (xs : List Int) : ∀ (w d pos : Nat) (rm : Bool) (fr : Int), pos + w < xs.length → (∀ i, i ≤ w → 128 ≤ gb xs (pos + i)) → pcL xs (d + w + 1) pos rm fr = pcL xs d (pos + w + 1) rm (if rm = true then fr else if fr < 0 then (pos : Int) else fr)
  | 0, d, pos, rm, fr, hp, h => pcL_skip xs d pos rm fr (by omega) (h 0 (Nat.le_refl _))
  | w + 1, d, pos, rm, fr, hp, h => by
    rw [show d + (w + 1) + 1 = (d + w + 1) + 1 from by omega, pcL_skip xs (d + w + 1) pos rm fr (by omega) (h 0 (by omega)), pcL_skips xs w d (pos + 1) rm _ (by omega) (fun i hi => by have := h (i + 1) (by omega); rwa [show pos + (i + 1) = pos + 1 + i from by omega] at this), show pos + 1 + w + 1 = pos + (w + 1) + 1 from by omega]
    congr 1
    cases rm with
    | true => simp
    | false =>
      simp only [Bool.false_eq_true, if_false]
      by_cases hf : fr < 0
      · rw [if_pos hf, if_neg (by omega)]
      · rw [if_neg hf, if_neg hf]
theorem dN_ascii (n b0 b1 b2 b3 : Nat) (h : b0 < 128) : decodeN n b0 b1 b2 b3 = (b0, 1) := by
  unfold decodeN
  rw [if_pos h]
theorem dN_high (n b0 b1 b2 b3 : Nat) (h : ¬ b0 < 128) : 128 ≤ (decodeN n b0 b1 b2 b3).1 ∧ (decodeN n b0 b1 b2 b3).2 ≤ 4 ∧ (2 ≤ (decodeN n b0 b1 b2 b3).2 → 128 ≤ b1) ∧ (3 ≤ (decodeN n b0 b1 b2 b3).2 → 128 ≤ b2) ∧ (4 ≤ (decodeN n b0 b1 b2 b3).2 → 128 ≤ b3) := by
  unfold decodeN
  rw [if_neg h]
  repeat' split
  all_goals (simp only; omega)
theorem rune_low {xs : List Int} {p : Nat} (h : gb xs p < 128) : runeAt xs p = (gb xs p : Int) ∧ widAt xs p = 1 := by
  unfold runeAt widAt
  rw [dN_ascii _ _ _ _ _ h]
  exact ⟨rfl, rfl⟩
theorem rune_high {xs : List Int} {p : Nat} (h : ¬ gb xs p < 128) : 128 ≤ runeAt xs p ∧ ∀ i, i < widAt xs p → 128 ≤ gb xs (p + i) := by
  obtain ⟨h1, h2, h3, h4, h5⟩ := dN_high (xs.length - p) (gb xs p) (gb xs (p + 1)) (gb xs (p + 2)) (gb xs (p + 3)) h
  unfold runeAt widAt
  refine ⟨by omega, fun i hi => ?_⟩
  rcases i with _ | _ | _ | _ | i
  · simpa using h
  · exact h3 (by omega)
  · exact h4 (by omega)
  · exact h5 (by omega)
  · omega

theorem clsK_high {x : Int} (h : 128 ≤ x) : clsK x ≠ 3 := by
  unfold clsK classG
  split
  · omega
  · rw [if_pos (by omega)]; omega
theorem clsK_low {x : Int} (h0 : 0 ≤ x) (h : x < 128) : clsK x = 3 ↔ (x = 9 ∨ x = 10 ∨ x = 13 ∨ x = 32) := by
  have hw : ¬ widK x = 0 := by rw [widK_ok (by unfold vruneK; omega), if_pos h]; omega
  unfold clsK classG
  rw [if_neg hw]
  repeat' split
  all_goals omega
theorem rune_rng {xs : List Int} (hx : isB xs) (p : Nat) : 0 ≤ runeAt xs p ∧ runeAt xs p ≤ 1114111 := by
  by_cases hb : badAt xs p
  · unfold badAt badN at hb
    unfold runeAt
    rw [hb]
    simp only
    omega
  · have := (good_at hx hb).1
    unfold vrune at this
    omega
def mapP (l : List (List Int × Int)) : List (ByteArray × Int) := l.map fun p => (strOfNums p.1, p.2)
theorem end_is (xs : List Int) (fr : Int) (e : Nat) : pcEnd (strOfNums xs) fr e = mapP (endL xs fr e) := by
  unfold pcEnd endL mapP
  split
  · rfl
  · rw [son_extract]; rfl
theorem mapP_app (a b : List (List Int × Int)) : mapP (a ++ b) = mapP a ++ mapP b := List.map_append
theorem semi_is : (⟨#[59]⟩ : ByteArray) = strOfNums [59] := rfl
theorem pcG_is {xs : List Int} (hx : isB xs) : ∀ (d d' pos : Nat) (rm : Bool) (fr : Int), pos ≤ xs.length → xs.length ≤ pos + d → xs.length ≤ pos + d' → pcG (strOfNums xs) clsK d pos rm fr = mapP (pcL xs d' pos rm fr)
  | 0, d', pos, rm, fr, hp, h, h' => by
    rw [pcL_end _ _ _ _ _ (by omega)]
    simp only [pcG]
    rw [end_is, son_size]
  | d + 1, d', pos, rm, fr, hp, h, h' => by
    by_cases hlt : pos < xs.length
    · simp only [pcG]
      rw [if_pos (by rw [son_size]; exact hlt), dec_rune hx, dec_wid hx]
      have hrr := rune_rng hx pos
      have hwp := widAt_pos xs pos
      have hwl := widAt_le xs pos hlt
      rw [show wrap64 (runeAt xs pos) = runeAt xs pos from w64 (by omega)]
      have ih : ∀ rm fr, pcG (strOfNums xs) clsK d (pos + widAt xs pos) rm fr = mapP (pcL xs xs.length (pos + widAt xs pos) rm fr) := fun rm fr => pcG_is hx d xs.length _ rm fr hwl (by omega) (by omega)
      rw [ih, ih, ih, ih]
      rw [pcL_fuel xs d' (xs.length + (widAt xs pos - 1) + 1) pos rm fr h' (by omega)]
      by_cases hg : gb xs pos < 128
      · obtain ⟨e1, e2⟩ := rune_low hg
        rw [e1, e2]
        simp only [Nat.sub_self, Nat.add_zero, pcL]
        rw [if_pos hlt, end_is, semi_is]
        cases rm with
        | true =>
          rw [if_pos rfl, if_pos rfl]
          congr 2
          by_cases h10 : gb xs pos = 10
          · rw [h10]; rfl
          · rw [bne_iff_ne.mpr h10, bne_iff_ne.mpr (show ((gb xs pos : Nat) : Int) ≠ 10 by omega)]
        | false =>
          rw [if_neg (c := (false : Bool) = true) (by decide), if_neg (c := (false : Bool) = true) (by decide)]
          by_cases c1 : gb xs pos = 35
          · rw [if_pos (by omega), if_pos c1, mapP_app]
          rw [if_neg (by omega), if_neg c1]
          by_cases c2 : gb xs pos = 59
          · rw [if_pos (by omega), if_pos c2, mapP_app]; rfl
          rw [if_neg (by omega), if_neg c2]
          have hc := clsK_low (x := (gb xs pos : Int)) (by omega) (by omega)
          by_cases c3 : gb xs pos = 9 ∨ gb xs pos = 10 ∨ gb xs pos = 13 ∨ gb xs pos = 32
          · rw [if_pos (hc.2 (by omega)), if_pos c3, mapP_app]
          · rw [if_neg (fun e => c3 (by have := hc.1 e; omega)), if_neg c3]
      · obtain ⟨e1, e2⟩ := rune_high hg
        rw [pcL_skips xs (widAt xs pos - 1) xs.length pos rm fr (by omega) (fun i hi => e2 i (by omega)), show pos + (widAt xs pos - 1) + 1 = pos + widAt xs pos from by omega]
        cases rm with
        | true =>
          rw [if_pos rfl, if_pos rfl, bne_iff_ne.mpr (by omega)]
        | false =>
          rw [if_neg (c := (false : Bool) = true) (by decide), if_neg (by omega), if_neg (by omega), if_neg (clsK_high e1), if_neg (c := (false : Bool) = true) (by decide)]
    · rw [pcL_end _ _ _ _ _ hlt, pcG_end _ _ _ _ _ _ (by rw [son_size]; exact hlt), end_is, son_size]
theorem pieces_is {xs : List Int} (hx : isB xs) : pcG (strOfNums xs) clsK (strOfNums xs).size 0 false (-1) = mapP (pcL xs xs.length 0 false (-1)) := by
  rw [son_size]
  exact pcG_is hx _ _ 0 false (-1) (by omega) (by omega) (by omega)
theorem bt_gb {xs : List Int} (hx : isB xs) {p : Nat} (h : p < xs.length) : bt (strOfNums xs) (p : Int) = (gb xs p : Int) := by
  rw [son_bt hx (p : Int) (by omega) (by omega)]
  unfold rd gb
  rw [Int.toNat_natCast, List.getD_eq_getElem?_getD, List.getElem?_eq_getElem h, Option.getD_some]
  have := hx _ (List.getElem_mem h)
  omega

/-! ### Numbers' texts -/
def dig (c : Int) : Prop := 48 ≤ c ∧ c ≤ 57
instance (c : Int) : Decidable (dig c) := by unfold dig; infer_instance
def valL : List Int → Int → Int
  | [], n => n
  | c :: cs, n => valL cs (10 * n + (c - 48))
/-- A number's digits. -/
def digL (n : Nat) : List Int := if h : n < 10 then [48 + (n : Int)] else digL (n / 10) ++ [48 + ((n % 10 : Nat) : Int)]
termination_by n
decreasing_by omega
theorem digL_small {n : Nat} (h : n < 10) : digL n = [48 + (n : Int)] := by rw [digL]; simp [h]
theorem digL_big {n : Nat} (h : ¬ n < 10) : digL n = digL (n / 10) ++ [48 + ((n % 10 : Nat) : Int)] := by rw [digL]; simp [h]
theorem valL_app : ∀ (xs ys : List Int) (n : Int), valL (xs ++ ys) n = valL ys (valL xs n)
  | [], _, _ => rfl
  | c :: cs, ys, n => valL_app cs ys _
theorem valL_mono : ∀ (xs : List Int) (n : Int), (∀ c ∈ xs, dig c) → 0 ≤ n → n * 10 ^ xs.length ≤ valL xs n ∧ valL xs n < (n + 1) * 10 ^ xs.length
  | [], n, _, _ => by simp [valL]; omega
  | c :: cs, n, h, hn => by
    have hc := h c (by simp)
    unfold dig at hc
    have ih := valL_mono cs (10 * n + (c - 48)) (fun z hz => h z (by simp [hz])) (by omega)
    simp only [valL, List.length_cons]
    have hp : (0 : Int) < 10 ^ cs.length := Int.pow_pos (by decide)
    have e : (10 : Int) ^ (cs.length + 1) = 10 * 10 ^ cs.length := by rw [Int.pow_succ, Int.mul_comm]
    obtain ⟨P, hP⟩ : ∃ P : Int, (10 : Int) ^ cs.length = P := ⟨_, rfl⟩
    rw [hP] at ih hp e
    rw [e]
    have e1 : n * (10 * P) = (10 * n) * P := by rw [← Int.mul_assoc, Int.mul_comm n 10]
    have e2 : (n + 1) * (10 * P) = (10 * (n + 1)) * P := by rw [← Int.mul_assoc, Int.mul_comm (n + 1) 10]
    rw [e1, e2]
    constructor
    · exact Int.le_trans (Int.mul_le_mul_of_nonneg_right (by omega) (by omega)) ih.1
    · exact Int.lt_of_lt_of_le ih.2 (Int.mul_le_mul_of_nonneg_right (by omega) (by omega))
theorem snoc_cases {α : Type} (xs : List α) : xs = [] ∨ ∃ ys c, xs = ys ++ [c] := by
  rcases List.eq_nil_or_concat xs with h | ⟨ys, c, h⟩
  · exact .inl h
  · exact .inr ⟨ys, c, by simpa using h⟩
theorem val_nonneg {xs : List Int} (h : ∀ c ∈ xs, dig c) : 0 ≤ valL xs 0 := by
  have := (valL_mono xs 0 h (by omega)).1
  simpa using this
theorem val_pos {c : Int} {cs : List Int} (h : ∀ z ∈ c :: cs, dig z) (hc : c ≠ 48) : 10 ^ cs.length ≤ valL (c :: cs) 0 := by
  have h0 := h c (by simp)
  unfold dig at h0
  have := (valL_mono cs (10 * 0 + (c - 48)) (fun z hz => h z (by simp [hz])) (by omega)).1
  have hp : (0 : Int) ≤ 10 ^ cs.length := Int.le_of_lt (Int.pow_pos (by decide))
  refine Int.le_trans ?_ this
  have := Int.mul_le_mul_of_nonneg_right (show (1 : Int) ≤ 10 * 0 + (c - 48) by omega) hp
  rwa [Int.one_mul] at this
/-- No digit too many ahead. -/
def canon (xs : List Int) : Prop := (∀ c ∈ xs, dig c) ∧ xs ≠ [] ∧ (xs.getD 0 0 = 48 → xs.length = 1)
theorem digL_val : ∀ (m : Nat) (xs : List Int), xs.length = m → canon xs → digL (valL xs 0).toNat = xs
  | 0, xs, hm, h => absurd (List.eq_nil_of_length_eq_zero hm) h.2.1
  | m + 1, xs, hm, h => by
    rcases snoc_cases xs with rfl | ⟨ys, c, rfl⟩
    · exact absurd rfl h.2.1
    · have hc := h.1 c (by simp)
      unfold dig at hc
      rw [valL_app]
      simp only [valL]
      rcases ys with _ | ⟨y, ys⟩
      · simp only [valL, List.nil_append]
        rw [digL_small (by omega)]
        congr 1
        omega
      · have hy : ∀ z ∈ y :: ys, dig z := fun z hz => h.1 z (by simp at hz ⊢; rcases hz with hz | hz <;> simp [hz])
        have hy48 : y ≠ 48 := fun e => by
          have := h.2.2 (by simp [e])
          simp at this
        have hv := val_pos hy hy48
        have hp : (1 : Int) ≤ 10 ^ ys.length := Int.add_one_le_iff.2 (Int.pow_pos (by decide))
        have ih := digL_val m (y :: ys) (by simp at hm ⊢; omega) ⟨hy, by simp, fun e => absurd (by simpa using e) hy48⟩
        obtain ⟨v, hvv⟩ : ∃ v, valL (y :: ys) 0 = v := ⟨_, rfl⟩
        rw [hvv] at hv ih ⊢
        rw [digL_big (by omega), show (10 * v + (c - 48)).toNat / 10 = v.toNat from by omega, ih]
        congr 2
        omega
theorem digL_ne (n : Nat) : digL n ≠ [] := by
  by_cases h : n < 10
  · rw [digL_small h]; simp
  · rw [digL_big h]; simp
theorem digL_canon (n : Nat) : canon (digL n) ∧ valL (digL n) 0 = (n : Int) ∧ ((digL n).getD 0 0 = 48 → n = 0) := by
  induction n using Nat.strongRecOn with
  | ind n ih =>
    by_cases h : n < 10
    · rw [digL_small h]
      refine ⟨⟨?_, by simp, by simp⟩, ?_, ?_⟩
      · intro c hc
        simp at hc
        unfold dig
        omega
      · simp only [valL]; omega
      · simp; omega
    · obtain ⟨⟨h1, h2, h3⟩, h4, h5⟩ := ih (n / 10) (by omega)
      rw [digL_big h]
      have hg : (digL (n / 10) ++ [48 + ((n % 10 : Nat) : Int)]).getD 0 0 = (digL (n / 10)).getD 0 0 := by
        rcases hd : digL (n / 10) with _ | ⟨a, l⟩
        · exact absurd hd (digL_ne _)
        · rfl
      have hne : (digL (n / 10)).getD 0 0 ≠ 48 := fun e => by have := h5 e; omega
      refine ⟨⟨?_, by simp, ?_⟩, ?_, ?_⟩
      · intro c hc
        rcases List.mem_append.1 hc with hc | hc
        · exact h1 c hc
        · simp at hc
          unfold dig
          omega
      · rw [hg]; exact fun e => absurd e hne
      · rw [valL_app, h4]
        simp only [valL]
        omega
      · rw [hg]; exact fun e => absurd e hne
theorem canon_iff (xs : List Int) (h : ∀ c ∈ xs, dig c) : canon xs ↔ digL (valL xs 0).toNat = xs := by
  constructor
  · exact fun hc => digL_val _ xs rfl hc
  · intro e
    rw [← e]
    exact (digL_canon _).1
theorem canon_len {xs : List Int} (h : canon xs) (hv : valL xs 0 ≤ 1099511627776) : xs.length ≤ 13 := by
  obtain ⟨h1, h2, h3⟩ := h
  rcases xs with _ | ⟨c, cs⟩
  · exact absurd rfl h2
  · by_cases hc : c = 48
    · have := h3 (by simp [hc]); omega
    · have hp := val_pos h1 hc
      refine Decidable.of_not_not fun hl => ?_
      have : (10 : Int) ^ 13 ≤ 10 ^ cs.length := by
        obtain ⟨m, hm⟩ : ∃ m, cs.length = 13 + m := ⟨cs.length - 13, by simp at hl; omega⟩
        rw [hm, Int.pow_add]
        have h1 : (1 : Int) ≤ 10 ^ m := Int.add_one_le_iff.2 (Int.pow_pos (by decide))
        have := Int.mul_le_mul_of_nonneg_left h1 (show (0 : Int) ≤ 10 ^ 13 by decide)
        rwa [Int.mul_one] at this
      omega
theorem isB_digL (n : Nat) : isB (digL n) := fun c hc => by
  have := (digL_canon n).1.1 c hc
  unfold dig at this
  omega
theorem canon_len' (n : Nat) (h : n < 1000000000000000000) : (digL n).length ≤ 1000000 := by
  have hc := digL_canon n
  rcases hd : digL n with _ | ⟨c, cs⟩
  · simp
  · rw [hd] at hc
    by_cases h48 : c = 48
    · have := hc.1.2.2 (by simp [h48])
      omega
    · have hp := val_pos hc.1.1 h48
      rw [hc.2.1] at hp
      refine Decidable.of_not_not fun hl => ?_
      have : (10 : Int) ^ 20 ≤ 10 ^ cs.length := by
        obtain ⟨m, hm⟩ : ∃ m, cs.length = 20 + m := ⟨cs.length - 20, by simp at hl; omega⟩
        rw [hm, Int.pow_add]
        have h1 : (1 : Int) ≤ 10 ^ m := Int.add_one_le_iff.2 (Int.pow_pos (by decide))
        have := Int.mul_le_mul_of_nonneg_left h1 (show (0 : Int) ≤ 10 ^ 20 by decide)
        rwa [Int.mul_one] at this
      omega

/-! ### Numbers read -/
theorem drop_gb {xs : List Int} (hx : isB xs) {p : Nat} (h : p < xs.length) : xs.drop p = (gb xs p : Int) :: xs.drop (p + 1) := by
  rw [List.drop_eq_getElem_cons h]
  congr 1
  unfold gb
  rw [List.getD_eq_getElem?_getD, List.getElem?_eq_getElem h, Option.getD_some]
  have := hx _ (List.getElem_mem h)
  omega
instance (xs : List Int) : Decidable (canon xs) := by unfold canon; infer_instance
theorem numG_is {xs : List Int} (hx : isB xs) (hl : xs.length ≤ 15) : ∀ (d pos : Nat) (n : Int), pos ≤ xs.length → xs.length ≤ pos + d → 0 ≤ n → n < 10 ^ pos → numG (strOfNums xs) d pos n = if (∀ c ∈ xs.drop pos, dig c) then some (valL (xs.drop pos) n) else none
  | 0, pos, n, hp, hd, h0, hn => by
    rw [List.drop_eq_nil_of_le (by omega)]
    simp [numG, valL]
  | d + 1, pos, n, hp, hd, h0, hn => by
    by_cases hlt : pos < xs.length
    · simp only [numG]
      rw [if_pos (by rw [son_size]; exact hlt), dec_rune hx, dec_wid hx, drop_gb hx hlt]
      have hb : (10 : Int) ^ pos ≤ 10 ^ 15 := by
        obtain ⟨m, hm⟩ : ∃ m, 15 = pos + m := ⟨15 - pos, by omega⟩
        rw [hm, Int.pow_add]
        have h1 : (1 : Int) ≤ 10 ^ m := Int.add_one_le_iff.2 (Int.pow_pos (by decide))
        have h2 : (0 : Int) ≤ 10 ^ pos := Int.le_of_lt (Int.pow_pos (by decide))
        have := Int.mul_le_mul_of_nonneg_left h1 h2
        rwa [Int.mul_one] at this
      by_cases hg : gb xs pos < 128
      · obtain ⟨e1, e2⟩ := rune_low hg
        rw [e1, e2]
        by_cases hd2 : dig (gb xs pos : Int)
        · have hd3 := hd2
          unfold dig at hd3
          have hw : wrap64 (wrap64 (10 * n) + wrap64 (wrap32 ((gb xs pos : Int) - 48))) = 10 * n + ((gb xs pos : Int) - 48) := by
            rw [show wrap32 ((gb xs pos : Int) - 48) = (gb xs pos : Int) - 48 from by unfold wrap32; omega, w64 (x := (gb xs pos : Int) - 48) (by omega), w64 (x := 10 * n) (by omega), w64 (by omega)]
          rw [if_neg (by omega), hw, numG_is hx hl d (pos + 1) _ (by omega) (by omega) (by omega) (by rw [Int.pow_succ]; omega)]
          simp only [valL, List.forall_mem_cons]
          by_cases ha : ∀ c ∈ xs.drop (pos + 1), dig c
          · rw [if_pos ha, if_pos ⟨hd2, ha⟩]
          · rw [if_neg ha, if_neg (fun h => ha h.2)]
        · rw [if_pos (by unfold dig at hd2; omega), if_neg (fun h => hd2 (h _ (by simp)))]
      · obtain ⟨e1, e2⟩ := rune_high hg
        rw [if_pos (by omega), if_neg (fun h => by have := h _ (List.mem_cons_self); unfold dig at this; omega)]
    · rw [numG_end _ _ _ _ (by rw [son_size]; exact hlt), List.drop_eq_nil_of_le (by omega)]
      simp [valL]
/-- The number that a text tells, or none. -/
def numZ (xs : List Int) : Int × Bool :=
  if 1 < xs.length ∧ xs.getD 0 0 = 45 then (if canon (xs.drop 1) ∧ valL (xs.drop 1) 0 ≤ 1099511627776 ∧ xs.getD 1 0 ≠ 48 then (-(valL (xs.drop 1) 0), true) else (0, false))
  else if canon xs ∧ valL xs 0 ≤ 1099511627776 then (valL xs 0, true) else (0, false)
theorem bt0 {xs : List Int} (hx : isB xs) (h : 0 < xs.length) : bt (strOfNums xs) 0 = xs.getD 0 0 := by
  have := son_bt hx 0 (by omega) (by omega)
  rw [this]; rfl
theorem val_15 {xs : List Int} (h : ∀ c ∈ xs, dig c) (hl : xs.length ≤ 15) : valL xs 0 < 10 ^ 15 := by
  have h1 := (valL_mono xs 0 h (by omega)).2
  have h2 : (10 : Int) ^ xs.length ≤ 10 ^ 15 := by
    obtain ⟨m, hm⟩ : ∃ m, 15 = xs.length + m := ⟨15 - xs.length, by omega⟩
    rw [hm, Int.pow_add]
    have h1 : (1 : Int) ≤ 10 ^ m := Int.add_one_le_iff.2 (Int.pow_pos (by decide))
    have h2 : (0 : Int) ≤ 10 ^ xs.length := Int.le_of_lt (Int.pow_pos (by decide))
    have := Int.mul_le_mul_of_nonneg_left h1 h2
    rwa [Int.mul_one] at this
  simp only [Int.zero_add, Int.one_mul] at h1
  omega
theorem digN_is {xs : List Int} (hx : isB xs) (mn : Bool) : digN (strOfNums xs) mn = if canon xs ∧ valL xs 0 ≤ 1099511627776 ∧ (mn = true → xs.getD 0 0 ≠ 48) then ((if mn = true then -(valL xs 0) else valL xs 0), true) else (0, false) := by
  unfold digN
  rw [son_size]
  by_cases h0 : xs.length = 0
  · rw [if_pos (.inl h0), if_neg (fun h => h.1.2.1 (List.eq_nil_of_length_eq_zero h0))]
  rw [bt0 hx (by omega)]
  by_cases h13 : 13 < xs.length
  · rw [if_pos (.inr (.inl h13)), if_neg (fun h => by have := canon_len h.1 h.2.1; omega)]
  by_cases hz : xs.getD 0 0 = 48 ∧ (mn = true ∨ 1 < xs.length)
  · rw [if_pos (.inr (.inr hz)), if_neg]
    rintro ⟨h1, h2, h3⟩
    rcases hz.2 with h | h
    · exact h3 h hz.1
    · have := h1.2.2 hz.1
      omega
  · rw [if_neg (by rintro (h | h | h); exact h0 h; exact h13 h; exact hz h), numG_is hx (by omega) _ 0 0 (by omega) (by omega) (by omega) (by simp), List.drop_zero]
    by_cases ha : ∀ c ∈ xs, dig c
    · have hv := val_15 ha (by omega)
      have hn := val_nonneg ha
      have hc : canon xs := ⟨ha, fun e => h0 (by rw [e]; rfl), fun e => Decidable.of_not_not fun hl => hz ⟨e, .inr (by omega)⟩⟩
      rw [if_pos ha]
      simp only [endN]
      by_cases hm : 1099511627776 < valL xs 0
      · rw [if_pos hm, if_neg (fun h => by have := h.2.1; omega)]
      · rw [if_neg hm, if_pos (c := canon xs ∧ valL xs 0 ≤ 1099511627776 ∧ (mn = true → xs.getD 0 0 ≠ 48)) ⟨hc, by omega, fun e h => hz ⟨h, .inl e⟩⟩, w64 (by omega)]
        cases mn <;> rfl
    · rw [if_neg ha, if_neg (fun h => ha h.1.1)]
      rfl
theorem numberF_is {xs : List Int} (hx : isB xs) : numberF (strOfNums xs) = numZ xs := by
  unfold numberF numZ
  rw [son_size]
  by_cases h : 1 < xs.length ∧ xs.getD 0 0 = 45
  · rw [if_pos ⟨h.1, by rw [bt0 hx (by omega)]; exact h.2⟩, if_pos h, son_extract, List.take_length, digN_is (isB_drop hx 1)]
    have e : (xs.drop 1).getD 0 0 = xs.getD 1 0 := by simp [List.getD_eq_getElem?_getD, List.getElem?_drop]
    rw [e]
    simp only [if_true, true_implies]
  · have hh : ¬ (1 < xs.length ∧ bt (strOfNums xs) 0 = 45) := fun hc => h ⟨hc.1, by rw [← bt0 hx (by omega)]; exact hc.2⟩
    rw [if_neg hh, if_neg h, digN_is hx]
    simp

/-! ### A number's text -/
/-- A number's text. -/
def digZ (n : Int) : List Int := if n < 0 then 45 :: digL (-n).toNat else digL n.toNat
theorem digZ_isB (n : Int) : isB (digZ n) := by
  unfold digZ
  split
  · intro x hx
    rcases List.mem_cons.1 hx with rfl | hx
    · omega
    · exact isB_digL _ x hx
  · exact isB_digL _

/-! ### The library's numerals are the document's -/
theorem decDigits_is (n : Nat) : Lib.decDigits n = (digL n).map fun c => UInt8.ofNat c.toNat := by
  induction n using Nat.strongRecOn with
  | ind n ih =>
    by_cases h : n < 10
    · rw [Lib.decDigits, digL_small h, dif_pos h, List.map_cons, List.map_nil, show (48 + (n : Int)).toNat = 48 + n from by omega]
    · rw [Lib.decDigits, digL_big h, dif_neg h, ih (n / 10) (by omega), List.map_append, List.map_cons, List.map_nil, show (48 + ((n % 10 : Nat) : Int)).toNat = 48 + n % 10 from by omega]
theorem itoa_is (n : Int) : itoaB n = strOfNums (digZ n) := by
  apply bytes_ext
  rw [bytes_toList, bytes_toList, son_data]
  unfold itoaB Lib.itoa digZ
  by_cases h : n < 0
  · rw [if_pos h, if_pos h, decDigits_is, show n.natAbs = (-n).toNat from by omega, List.map_cons]
    rfl
  · rw [if_neg h, if_neg h, decDigits_is]
theorem join_flat (l : List (List UInt8)) : Lib.join l [] = l.flatten := by
  unfold Lib.join
  induction l with
  | nil => rfl
  | cons a l ih =>
    cases l with
    | nil => simp [List.intercalate]
    | cons b l =>
      rw [show ([] : List UInt8).intercalate (a :: b :: l) = a ++ ([] ++ ([] : List UInt8).intercalate (b :: l)) from by simp [List.intercalate], ih]
      simp
theorem joinB_is (l : List (List Int)) : joinB (l.map strOfNums) (⟨#[]⟩ : ByteArray) = strOfNums l.flatten := by
  apply bytes_ext
  rw [bytes_toList, bytes_toList, son_data]
  unfold joinB
  show Lib.join _ [] = _
  rw [join_flat, List.map_map, List.map_flatten]
  congr 1

/-! ### Pieces are bytes -/
theorem endL_isB {xs : List Int} (hx : isB xs) (fr : Int) (e : Nat) : ∀ q ∈ endL xs fr e, isB q.1 := by
  intro q hq
  unfold endL at hq
  split at hq
  · simp at hq
  · simp at hq
    rw [hq]
    exact isB_drop (isB_take hx _) _
theorem pcL_isB {xs : List Int} (hx : isB xs) : ∀ (d p : Nat) (rm : Bool) (fr : Int), ∀ q ∈ pcL xs d p rm fr, isB q.1
  | 0, p, rm, fr => endL_isB hx _ _
  | d + 1, p, rm, fr => by
    have ih := fun rm fr => pcL_isB hx d (p + 1) rm fr
    have he := endL_isB hx fr p
    intro q hq
    simp only [pcL] at hq
    split at hq
    · split at hq
      · exact ih _ _ q hq
      · split at hq
        · rcases List.mem_append.1 hq with hq | hq
          · exact he q hq
          · exact ih _ _ q hq
        · split at hq
          · rcases List.mem_append.1 hq with hq | hq
            · exact he q hq
            · rcases List.mem_cons.1 hq with rfl | hq
              · intro z hz; simp at hz; omega
              · exact ih _ _ q hq
          · split at hq
            · rcases List.mem_append.1 hq with hq | hq
              · exact he q hq
              · exact ih _ _ q hq
            · exact ih _ _ q hq
    · exact endL_isB hx _ _ q hq

/-! ### Running over pieces -/
def finR (sz : Int) : RS × Option (Int × Int) → List S34 × Int × Int
  | (_, some (a, e)) => ([], a, e)
  | (r, none) => if r.op = true then ([], sz, 10) else (r.out, sz, 0)
theorem runP_cons {σ : Type} (step : σ → ByteArray × Int → σ × Bool) (st : σ) (p : ByteArray × Int) (ps : List (ByteArray × Int)) : runP step st (p :: ps) = if (step st p).2 = true then runP step (step st p).1 ps else ((step st p).1, false) := rfl
theorem run_ok {s s1 : RS} {p : ByteArray × Int} {ps : List (ByteArray × Int)} (h : takeF s p.1 = (s1, 0)) : (runP stepR (s, none) (p :: ps)).1 = (runP stepR (s1, none) ps).1 := by
  rw [runP_cons]
  have : stepR (s, none) p = ((s1, none), true) := by unfold stepR; simp only [h]; rfl
  rw [this, if_pos rfl]
theorem run_err {s s1 : RS} {e : Int} {p : ByteArray × Int} {ps : List (ByteArray × Int)} (h : takeF s p.1 = (s1, e)) (he : e ≠ 0) : (runP stepR (s, none) (p :: ps)).1 = (s1, some (p.2, e)) := by
  rw [runP_cons]
  have : stepR (s, none) p = ((s1, some (p.2, e)), false) := by unfold stepR; simp only [h]; rw [if_neg he]
  rw [this, if_neg (by simp)]
theorem semi_ne {b : List Int} (hb : isB b) : ((strOfNums b).toList != ([59] : List UInt8)) = decide (b ≠ [59]) := by
  have e : ([59] : List UInt8) = (strOfNums [59]).toList := by decide +kernel
  have h59 : isB [59] := by intro z hz; simp at hz; omega
  rw [e]
  by_cases h : b = [59]
  · rw [h]; simp
  · rw [decide_eq_true h, bne_iff_ne]
    exact fun hc => h ((son_toList_inj hb h59).1 hc)
theorem semi_eq {b : List Int} (hb : isB b) : ((strOfNums b).toList = ([59] : List UInt8)) ↔ b = [59] := by
  have e : ([59] : List UInt8) = (strOfNums [59]).toList := by decide +kernel
  have h59 : isB [59] := by intro z hz; simp at hz; omega
  rw [e]
  exact son_toList_inj hb h59

/-! ### The moves that a text tells -/
def r0Z : RS := ⟨[], false, 0, 0, 0, []⟩
def piecesL (xs : List Int) : List (List Int × Int) := pcL xs xs.length 0 false (-1)
def readZ (xs : List Int) : List S34 × Int × Int :=
  if (xs.length : Int) > 65536 then ([], 0, 5)
  else if badL xs xs.length 0 ≥ 0 then ([], badL xs xs.length 0, 4)
  else finR (xs.length : Int) (runP stepR (r0Z, none) (mapP (piecesL xs))).1
theorem Read_is {xs : List Int} (hx : isB xs) : scene_Read.f (strOfNums xs) = some (readZ xs) := by
  unfold scene_Read.f readF readZ
  rw [son_size, badG_is hx _ _ (Nat.zero_le _)]
  congr 1
  have hp : pcG (strOfNums xs) clsK xs.length 0 false (-1) = mapP (piecesL xs) := pcG_is hx _ _ 0 false (-1) (by omega) (by omega) (by omega)
  rw [hp]
  unfold r0Z
  by_cases h1 : (xs.length : Int) > 65536
  · rw [if_pos h1, if_pos h1]
  rw [if_neg h1, if_neg h1]
  by_cases h2 : badL xs xs.length 0 ≥ 0
  · rw [if_pos h2, if_pos h2]
  rw [if_neg h2, if_neg h2]
  rcases (runP stepR (⟨[], false, 0, 0, 0, []⟩, none) (mapP (piecesL xs))).1 with ⟨r, _ | ⟨a, e⟩⟩ <;> rfl

/-! ### Same moves -/
theorem Same39_loop (a : List S34) (hal : a.length ≤ 1000000) (h3 : ∀ m ∈ a, m.f3.length ≤ 1000) : ∀ (d i k : Nat), a.length = i + d → d + 1010 ≤ k → argosyref27_Same.l0 k a a (i : Int) = some true
  | 0, i, k, hd, hk => by
    obtain ⟨k, rfl⟩ : ∃ m, k = m + 1 := ⟨k - 1, by omega⟩
    rw [argosyref27_Same.l0, if_neg (by omega)]
  | d + 1, i, k, hd, hk => by
    obtain ⟨k, rfl⟩ : ∃ m, k = m + 1 := ⟨k - 1, by omega⟩
    have hi : i < a.length := by omega
    have hm : rd_T34 a (i : Int) ∈ a := by
      unfold rd_T34
      rw [Int.toNat_natCast, List.getD_eq_getElem?_getD, List.getElem?_eq_getElem hi]
      exact List.getElem_mem hi
    have := h3 _ hm
    rw [argosyref27_Same.l0, if_pos (by omega), if_pos (by omega), if_pos (by omega), if_pos rfl, if_pos rfl, if_pos rfl, Same_is (by omega) (by omega), Option.bind_some, decide_eq_true rfl, if_pos rfl, w64 (by omega), show (i : Int) + 1 = ((i + 1 : Nat) : Int) from by omega]
    exact Same39_loop a hal h3 d (i + 1) k (by omega) (by omega)
theorem Same39_is {a : List S34} (hal : a.length ≤ 1000000) (h3 : ∀ m ∈ a, m.f3.length ≤ 1000) {k : Nat} (hk : a.length + 1010 ≤ k) : argosyref27_Same.f k a a = some true := by
  unfold argosyref27_Same.f
  rw [if_pos rfl]
  exact Same39_loop a hal h3 a.length 0 k (by omega) hk

/-! ### What a reader's state keeps -/
structure InvZ (s : RS) : Prop where
  inv : InvR s
  l3 : ∀ m ∈ s.out, m.f3.length ≤ 70
theorem r0Z_inv : InvZ r0Z := ⟨⟨by simp [r0Z], by simp [r0Z], by simp [r0Z], by simp [r0Z]⟩, by simp [r0Z]⟩
theorem takeF_out (s : RS) (a : ByteArray) : (takeF s a).1.out = s.out ∨ (takeF s a).1.out = s.out ++ [mvF s] := by
  unfold takeF beginF shutF
  repeat' split
  all_goals first | exact .inl rfl | exact .inr rfl
theorem mvF_l3 (s : RS) (h : s.nums.length ≤ 70) : (mvF s).f3.length ≤ 70 := by
  unfold mvF
  repeat' split
  all_goals simp
  exact h
theorem takeF_invZ (s : RS) (a : ByteArray) (h : InvZ s) : InvZ (takeF s a).1 := by
  refine ⟨takeF_inv s a h.inv, ?_⟩
  rcases takeF_out s a with e | e
  · rw [e]; exact h.l3
  · rw [e]
    intro m hm
    rcases List.mem_append.1 hm with hm | hm
    · exact h.l3 m hm
    · simp at hm
      rw [hm]
      exact mvF_l3 s h.inv.nums
theorem run_inv : ∀ (ps : List (ByteArray × Int)) (s : RS), InvZ s → InvZ (runP stepR (s, none) ps).1.1
  | [], s, h => h
  | p :: ps, s, h => by
    have h1 := takeF_invZ s p.1 h
    obtain ⟨s1, e, hT⟩ : ∃ s1 e, takeF s p.1 = (s1, e) := ⟨_, _, rfl⟩
    rw [hT] at h1
    by_cases he : e = 0
    · subst he
      rw [run_ok hT]
      exact run_inv ps s1 h1
    · rw [run_err hT he]
      exact h1
theorem readZ_out (xs : List Int) : (readZ xs).1.length ≤ 1000 ∧ ∀ m ∈ (readZ xs).1, m.f3.length ≤ 70 := by
  unfold readZ
  split
  · simp
  · split
    · simp
    · have h := run_inv (mapP (piecesL xs)) r0Z r0Z_inv
      rcases hr : (runP stepR (r0Z, none) (mapP (piecesL xs))).1 with ⟨r, _ | ⟨a, e⟩⟩
      · rw [hr] at h
        simp only [finR]
        split
        · simp
        · exact ⟨h.inv.out, h.l3⟩
      · simp [finR]

/-! ### A run ends well, or at a piece -/
theorem takeF_code (s : RS) (a : ByteArray) : (takeF s a).2 = 0 ∨ (takeF s a).2 = 5 ∨ (takeF s a).2 = 10 := by
  unfold takeF beginF
  repeat' split
  all_goals first | exact .inl rfl | exact .inr (.inl rfl) | exact .inr (.inr rfl)
theorem run_two : ∀ (ps : List (ByteArray × Int)) (s : RS), (∃ t, runP stepR (s, none) ps = ((t, none), true)) ∨ (∃ t p e, p ∈ ps ∧ (e = 5 ∨ e = 10) ∧ runP stepR (s, none) ps = ((t, some (p.2, e)), false))
  | [], s => .inl ⟨s, rfl⟩
  | p :: ps, s => by
    obtain ⟨s1, e, hT⟩ : ∃ s1 e, takeF s p.1 = (s1, e) := ⟨_, _, rfl⟩
    have hc := takeF_code s p.1
    rw [hT] at hc
    simp only at hc
    by_cases he : e = 0
    · subst he
      have hs : stepR (s, none) p = ((s1, none), true) := by unfold stepR; simp only [hT]; rfl
      rw [runP_cons, hs, if_pos rfl]
      rcases run_two ps s1 with ⟨t, h⟩ | ⟨t, q, e, hq, he, h⟩
      · exact .inl ⟨t, h⟩
      · exact .inr ⟨t, q, e, List.mem_cons_of_mem _ hq, he, h⟩
    · have hs : stepR (s, none) p = ((s1, some (p.2, e)), false) := by unfold stepR; simp only [hT]; rw [if_neg he]
      rw [runP_cons, hs, if_neg (by simp)]
      exact .inr ⟨s1, p, e, List.mem_cons_self, by omega, rfl⟩
theorem mapP_mem {l : List (List Int × Int)} {p : ByteArray × Int} (h : p ∈ mapP l) : ∃ q ∈ l, q.2 = p.2 := by
  unfold mapP at h
  obtain ⟨q, hq, rfl⟩ := List.mem_map.1 h
  exact ⟨q, hq, rfl⟩
/-! ### The places of pieces -/
theorem endL_at {xs : List Int} {fr : Int} {e n : Nat} (hf : fr < 0 ∨ (n : Int) ≤ fr) : ∀ q ∈ endL xs fr e, (n : Int) ≤ q.2 := by
  intro q hq
  unfold endL at hq
  split at hq
  · simp at hq
  · simp at hq
    rw [hq]
    show (n : Int) ≤ fr
    omega
theorem pcL_from (xs : List Int) (n : Nat) : ∀ (d p : Nat) (rm : Bool) (fr : Int), n ≤ p → (fr < 0 ∨ (n : Int) ≤ fr) → ∀ q ∈ pcL xs d p rm fr, (n : Int) ≤ q.2
  | 0, p, rm, fr, hp, hf => endL_at hf
  | d + 1, p, rm, fr, hp, hf => by
    have ih := fun rm fr hf => pcL_from xs n d (p + 1) rm fr (by omega) hf
    have he := endL_at (xs := xs) (e := p) hf
    intro q hq
    simp only [pcL] at hq
    split at hq
    · split at hq
      · exact ih _ _ hf q hq
      · split at hq
        · rcases List.mem_append.1 hq with hq | hq
          · exact he q hq
          · exact ih _ _ (.inl (by omega)) q hq
        · split at hq
          · rcases List.mem_append.1 hq with hq | hq
            · exact he q hq
            · rcases List.mem_cons.1 hq with rfl | hq
              · show (n : Int) ≤ (p : Int); omega
              · exact ih _ _ (.inl (by omega)) q hq
          · split at hq
            · rcases List.mem_append.1 hq with hq | hq
              · exact he q hq
              · exact ih _ _ (.inl (by omega)) q hq
            · exact ih _ _ (by split <;> omega) q hq
    · exact endL_at hf q hq
theorem endL_below {xs : List Int} {fr : Int} {e n : Nat} (hf : fr < (n : Int)) : ∀ q ∈ endL xs fr e, q.2 < (n : Int) := by
  intro q hq
  unfold endL at hq
  split at hq
  · simp at hq
  · simp at hq
    rw [hq]
    exact hf
theorem pcL_below (xs : List Int) : ∀ (d p : Nat) (rm : Bool) (fr : Int), fr < (xs.length : Int) → ∀ q ∈ pcL xs d p rm fr, q.2 < (xs.length : Int)
  | 0, p, rm, fr, hf => endL_below hf
  | d + 1, p, rm, fr, hf => by
    have ih := fun rm fr hf => pcL_below xs d (p + 1) rm fr hf
    have he := endL_below (xs := xs) (e := p) hf
    intro q hq
    simp only [pcL] at hq
    split at hq
    · split at hq
      · exact ih _ _ hf q hq
      · split at hq
        · rcases List.mem_append.1 hq with hq | hq
          · exact he q hq
          · exact ih _ _ (by omega) q hq
        · split at hq
          · rcases List.mem_append.1 hq with hq | hq
            · exact he q hq
            · rcases List.mem_cons.1 hq with rfl | hq
              · show (p : Int) < _; omega
              · exact ih _ _ (by omega) q hq
          · split at hq
            · rcases List.mem_append.1 hq with hq | hq
              · exact he q hq
              · exact ih _ _ (by omega) q hq
            · exact ih _ _ (by split <;> omega) q hq
    · exact endL_below hf q hq

/-! ### Pieces of two texts, one behind the other -/
def shiftL (n : Nat) (l : List (List Int × Int)) : List (List Int × Int) := l.map fun p => (p.1, p.2 + (n : Int))
theorem shiftL_app (n : Nat) (a b : List (List Int × Int)) : shiftL n (a ++ b) = shiftL n a ++ shiftL n b := List.map_append
theorem endL_right (xs ys : List Int) {fr fr' : Int} (e : Nat) (hf : (fr < 0 ∧ fr' < 0) ∨ (0 ≤ fr ∧ fr' = fr + (xs.length : Int))) : endL (xs ++ ys) fr' (xs.length + e) = shiftL xs.length (endL ys fr e) := by
  unfold endL
  by_cases h : fr < 0
  · rw [if_pos h, if_pos (by omega)]; rfl
  · rw [if_neg h, if_neg (by omega), show fr'.toNat = xs.length + fr.toNat from by omega, show fr' = fr + (xs.length : Int) from by omega]
    simp [shiftL, List.take_append, List.drop_append]
theorem pcL_right (xs ys : List Int) : ∀ (d q : Nat) (rm : Bool) (fr fr' : Int), ((fr < 0 ∧ fr' < 0) ∨ (0 ≤ fr ∧ fr' = fr + (xs.length : Int))) → pcL (xs ++ ys) d (xs.length + q) rm fr' = shiftL xs.length (pcL ys d q rm fr)
  | 0, q, rm, fr, fr', hf => by
    simp only [pcL]
    rw [List.length_append, endL_right xs ys _ hf]
  | d + 1, q, rm, fr, fr', hf => by
    have ih := fun rm fr fr' hf => pcL_right xs ys d (q + 1) rm fr fr' hf
    simp only [pcL]
    rw [gb_right, List.length_append, Nat.add_assoc]
    by_cases hq : q < ys.length
    · rw [if_pos (by omega), if_pos hq, ih _ fr fr' hf, ih true (-1) (-1) (.inl ⟨by omega, by omega⟩), ih false (-1) (-1) (.inl ⟨by omega, by omega⟩), ih false (if fr < 0 then (q : Int) else fr) (if fr' < 0 then ((xs.length + q : Nat) : Int) else fr') (by split <;> split <;> omega), endL_right xs ys _ hf]
      repeat' split
      all_goals first | rfl | (rw [shiftL_app]; done) | (rw [shiftL_app]; congr 1; simp [shiftL]; done) | skip
      rw [shiftL_app]
      congr 1
      show _ = (([59] : List Int), (q : Int) + (xs.length : Int)) :: shiftL _ _
      rw [show ((xs.length + q : Nat) : Int) = (q : Int) + (xs.length : Int) from by omega]
    · rw [if_neg (by omega), if_neg hq, endL_right xs ys _ hf]
theorem endL_left (xs ys : List Int) (fr : Int) (e : Nat) (he : e ≤ xs.length) : endL (xs ++ ys) fr e = endL xs fr e := by
  unfold endL
  rw [List.take_append_of_le_length he]
theorem gb_ten (xs ys : List Int) : gb (xs ++ 10 :: ys) xs.length = 10 := by
  have := gb_right xs (10 :: ys) 0
  rw [Nat.add_zero] at this
  rw [this]; rfl
theorem pcL_join (xs ys : List Int) : ∀ (d p d' : Nat) (rm : Bool) (fr : Int), p ≤ xs.length → xs.length ≤ p + d → xs.length + 1 + ys.length ≤ p + d' → (rm = true → fr = -1) → pcL (xs ++ 10 :: ys) d' p rm fr = pcL xs d p rm fr ++ shiftL (xs.length + 1) (pcL ys ys.length 0 false (-1)) := by
  have atEnd : ∀ (p d d' : Nat) (rm : Bool) (fr : Int), p = xs.length → xs.length + 1 + ys.length ≤ p + d' → (rm = true → fr = -1) → pcL (xs ++ 10 :: ys) d' p rm fr = pcL xs d p rm fr ++ shiftL (xs.length + 1) (pcL ys ys.length 0 false (-1)) := by
    rintro p d d' rm fr rfl hd hr
    obtain ⟨d', rfl⟩ : ∃ m, d' = m + 1 := ⟨d' - 1, by omega⟩
    have hR : pcL (xs ++ 10 :: ys) d' (xs.length + 1) false (-1) = shiftL (xs.length + 1) (pcL ys ys.length 0 false (-1)) := by
      have h := pcL_right (xs ++ [10]) ys d' 0 false (-1) (-1) (.inl ⟨by omega, by omega⟩)
      have e1 : (xs ++ [10]) ++ ys = xs ++ 10 :: ys := by simp
      have e2 : (xs ++ [10]).length = xs.length + 1 := by simp
      rw [e1, e2, Nat.add_zero] at h
      rw [h, pcL_fuel ys d' ys.length 0 false (-1) (by omega) (by omega)]
    rw [pcL_end xs d _ rm fr (Nat.lt_irrefl _)]
    simp only [pcL]
    rw [gb_ten, if_pos (by simp)]
    cases rm with
    | true =>
      rw [if_pos rfl, hr rfl, show ((10 : Nat) != 10) = false from rfl, hR]
      rfl
    | false =>
      rw [if_neg (c := (false : Bool) = true) (by decide), if_neg (by omega), if_neg (by omega), if_pos (by omega), hR, endL_left _ _ _ _ (Nat.le_refl _)]
  intro d
  induction d with
  | zero => intro p d' rm fr hp hd hd' hr; exact atEnd p 0 d' rm fr (by omega) hd' hr
  | succ d ih =>
    intro p d' rm fr hp hd hd' hr
    by_cases h : p < xs.length
    · obtain ⟨d', rfl⟩ : ∃ m, d' = m + 1 := ⟨d' - 1, by omega⟩
      have ih := fun rm fr hr => ih (p + 1) d' rm fr h (by omega) (by omega) hr
      simp only [pcL]
      rw [if_pos (show p < (xs ++ 10 :: ys).length by simp; omega), if_pos h, gb_left _ _ _ h, endL_left _ _ _ _ hp]
      cases rm with
      | true =>
        rw [if_pos rfl, if_pos rfl, hr rfl]
        exact ih _ (-1) (fun _ => rfl)
      | false =>
        rw [if_neg (c := (false : Bool) = true) (by decide), if_neg (c := (false : Bool) = true) (by decide)]
        by_cases c1 : gb xs p = 35
        · rw [if_pos c1, if_pos c1, ih true (-1) (fun _ => rfl), List.append_assoc]
        rw [if_neg c1, if_neg c1]
        by_cases c2 : gb xs p = 59
        · rw [if_pos c2, if_pos c2, ih false (-1) (fun _ => rfl), List.append_assoc]; rfl
        rw [if_neg c2, if_neg c2]
        by_cases c3 : gb xs p = 9 ∨ gb xs p = 10 ∨ gb xs p = 13 ∨ gb xs p = 32
        · rw [if_pos c3, if_pos c3, ih false (-1) (fun _ => rfl), List.append_assoc]
        · rw [if_neg c3, if_neg c3]
          exact ih false _ (by simp)
    · exact atEnd p (d + 1) d' rm fr (by omega) hd' hr
/-! ### Two runs, one behind the other -/
structure Beside (pre : List S34) (s s' : RS) : Prop where
  out : s'.out = pre ++ s.out
  op : s'.op = s.op
  nums : s'.nums = s.nums
  more : s.op = true → s'.kd = s.kd ∧ s'.le = s.le ∧ s'.mo = s.mo
def phi (s : RS) : Nat := s.out.length + if s.op = true then 1 else 0
theorem takeF_phi (s : RS) (a : ByteArray) (h : (takeF s a).2 = 0) : phi s ≤ phi (takeF s a).1 := by
  obtain ⟨out, op, kd, le, mo, nums⟩ := s
  cases op with
  | false =>
    unfold takeF at h ⊢
    simp only [if_true] at h ⊢
    unfold beginF at h ⊢
    by_cases hf : (formF a).2.2.2 = true
    · rw [if_pos hf]
      by_cases h1000 : out.length = 1000
      · rw [if_pos h1000]
        exact Nat.le_refl _
      · rw [if_neg h1000]
        unfold phi
        simp
    · rw [if_neg hf]
      exact Nat.le_refl _
  | true =>
    unfold takeF at h ⊢
    simp only [Bool.true_eq_false, if_false] at h ⊢
    by_cases hs : a.toList = ([59] : List UInt8)
    · rw [if_pos hs]
      unfold shutF phi
      simp only
      by_cases hle : (nums.length : Int) < le
      · rw [if_pos hle]
        exact Nat.le_refl _
      · rw [if_neg hle]
        simp
    · rw [if_neg hs]
      by_cases hn : (numberF a).2 = true ∧ (nums.length : Int) < mo
      · rw [if_pos hn]
        exact Nat.le_refl _
      · rw [if_neg hn]
        exact Nat.le_refl _
theorem run_phi : ∀ (ps : List (ByteArray × Int)) (s t : RS), (runP stepR (s, none) ps).1 = (t, none) → phi s ≤ phi t
  | [], s, t, h => by
    have : s = t := congrArg Prod.fst h
    rw [this]; exact Nat.le_refl _
  | p :: ps, s, t, h => by
    obtain ⟨s1, e, hT⟩ : ∃ s1 e, takeF s p.1 = (s1, e) := ⟨_, _, rfl⟩
    by_cases he : e = 0
    · subst he
      rw [run_ok hT] at h
      have h1 := takeF_phi s p.1 (by rw [hT])
      rw [hT] at h1
      exact Nat.le_trans h1 (run_phi ps s1 t h)
    · rw [run_err hT he] at h
      exact absurd (congrArg Prod.snd h) (by simp)
theorem takeF_beside {pre : List S34} {s s' : RS} (hR : Beside pre s s') (a : ByteArray) (h0 : (takeF s a).2 = 0) (hl : pre.length + phi (takeF s a).1 ≤ 1000) : (takeF s' a).2 = 0 ∧ Beside pre (takeF s a).1 (takeF s' a).1 := by
  obtain ⟨out, op, kd, le, mo, nums⟩ := s
  obtain ⟨out', op', kd', le', mo', nums'⟩ := s'
  obtain ⟨h1, h2, h3, h4⟩ := hR
  simp only at h1 h2 h3 h4
  subst h1 h2 h3
  cases op' with
  | false =>
    unfold takeF at h0 hl ⊢
    simp only [if_true] at h0 hl ⊢
    unfold beginF at h0 hl ⊢
    by_cases hf : (formF a).2.2.2 = true
    · rw [if_pos hf] at h0 hl ⊢
      by_cases h1000 : out.length = 1000
      · rw [if_pos h1000] at h0
        exact absurd h0 (by simp)
      · rw [if_neg h1000] at hl
        unfold phi at hl
        simp only [if_true] at hl
        rw [if_neg h1000, if_pos hf, if_neg (by simp; omega)]
        exact ⟨rfl, rfl, rfl, rfl, fun _ => ⟨rfl, rfl, rfl⟩⟩
    · rw [if_neg hf] at h0
      exact absurd h0 (by simp)
  | true =>
    obtain ⟨rfl, rfl, rfl⟩ := h4 rfl
    unfold takeF at h0 hl ⊢
    simp only [Bool.true_eq_false, if_false] at h0 hl ⊢
    by_cases hs : a.toList = ([59] : List UInt8)
    · rw [if_pos hs] at h0 hl
      rw [if_pos hs, if_pos hs]
      unfold shutF at h0 hl ⊢
      simp only at h0 hl ⊢
      by_cases hle : (nums'.length : Int) < le'
      · rw [if_pos hle] at h0
        exact absurd h0 (by simp)
      · rw [if_neg hle, if_neg hle]
        refine ⟨rfl, ?_, rfl, rfl, fun h => by cases h⟩
        show (pre ++ out) ++ [mvF _] = pre ++ (out ++ [mvF _])
        rw [List.append_assoc]
        rfl
    · rw [if_neg hs] at h0
      rw [if_neg hs, if_neg hs]
      by_cases hn : (numberF a).2 = true ∧ (nums'.length : Int) < mo'
      · rw [if_pos hn, if_pos hn]
        exact ⟨rfl, rfl, rfl, rfl, fun _ => ⟨rfl, rfl, rfl⟩⟩
      · rw [if_neg hn] at h0
        exact absurd h0 (by simp)
theorem run_beside {pre : List S34} (n : Int) : ∀ (ps : List (ByteArray × Int)) (s s' t : RS), Beside pre s s' → (runP stepR (s, none) ps).1 = (t, none) → pre.length + phi t ≤ 1000 → ∃ t', (runP stepR (s', none) (ps.map fun p => (p.1, p.2 + n))).1 = (t', none) ∧ Beside pre t t'
  | [], s, s', t, hR, h, hl => by
    have : s = t := congrArg Prod.fst h
    subst this
    exact ⟨s', rfl, hR⟩
  | p :: ps, s, s', t, hR, h, hl => by
    obtain ⟨s1, e, hT⟩ : ∃ s1 e, takeF s p.1 = (s1, e) := ⟨_, _, rfl⟩
    by_cases he : e = 0
    · subst he
      rw [run_ok hT] at h
      have hp := run_phi ps s1 t h
      obtain ⟨g1, g2⟩ := takeF_beside hR p.1 (by rw [hT]) (by rw [hT]; simp only; omega)
      obtain ⟨s2, e2, hT2⟩ : ∃ s2 e2, takeF s' p.1 = (s2, e2) := ⟨_, _, rfl⟩
      rw [hT2] at g1 g2
      rw [hT] at g2
      simp only at g1 g2
      subst g1
      rw [List.map_cons, run_ok (p := (p.1, p.2 + n)) hT2]
      exact run_beside n ps s1 s2 t g2 h hl
    · rw [run_err hT he] at h
      exact absurd (congrArg Prod.snd h) (by simp)
theorem mapP_shift (n : Nat) (l : List (List Int × Int)) : mapP (shiftL n l) = (mapP l).map fun p => (p.1, p.2 + (n : Int)) := by
  unfold mapP shiftL
  rw [List.map_map, List.map_map]
  rfl
/-- A state between moves has no numbers. -/
def Idle (s : RS) : Prop := s.op = false → s.nums = []
theorem takeF_idle (s : RS) (a : ByteArray) (h : Idle s) : Idle (takeF s a).1 := by
  unfold Idle at h ⊢
  unfold takeF beginF shutF
  repeat' split
  all_goals simp_all
theorem run_idle : ∀ (ps : List (ByteArray × Int)) (s : RS), Idle s → Idle (runP stepR (s, none) ps).1.1
  | [], s, h => h
  | p :: ps, s, h => by
    have h1 := takeF_idle s p.1 h
    obtain ⟨s1, e, hT⟩ : ∃ s1 e, takeF s p.1 = (s1, e) := ⟨_, _, rfl⟩
    rw [hT] at h1
    by_cases he : e = 0
    · subst he
      rw [run_ok hT]
      exact run_idle ps s1 h1
    · rw [run_err hT he]
      exact h1
/-- What a right scene's text tells. -/
theorem readZ_right {xs : List Int} (h : (readZ xs).2.2 = 0) : xs.length ≤ 65536 ∧ badL xs xs.length 0 < 0 ∧ ∃ t, runP stepR (r0Z, none) (mapP (piecesL xs)) = ((t, none), true) ∧ t.op = false ∧ (readZ xs).1 = t.out := by
  unfold readZ at h ⊢
  by_cases h1 : (xs.length : Int) > 65536
  · rw [if_pos h1] at h; exact absurd h (by simp)
  rw [if_neg h1] at h ⊢
  by_cases h2 : badL xs xs.length 0 ≥ 0
  · rw [if_pos h2] at h; exact absurd h (by simp)
  rw [if_neg h2] at h ⊢
  refine ⟨by omega, by omega, ?_⟩
  rcases run_two (mapP (piecesL xs)) r0Z with ⟨t, ht⟩ | ⟨t, p, e, hp, he, ht⟩
  · refine ⟨t, ht, ?_⟩
    rw [ht] at h ⊢
    simp only [finR] at h ⊢
    by_cases ho : t.op = true
    · rw [if_pos ho] at h; exact absurd h (by simp)
    · rw [if_neg ho]
      exact ⟨by simpa using ho, rfl⟩
  · rw [ht] at h
    simp only [finR] at h
    omega
theorem readZ_join (xs ys : List Int) (hx : isB xs) (hy : isB ys) (h1 : (readZ xs).2.2 = 0) (h2 : (readZ ys).2.2 = 0) (hl : xs.length + ys.length ≤ 6000) (hm : (readZ xs).1.length + (readZ ys).1.length ≤ 1000) : readZ (xs ++ 10 :: ys) = ((readZ xs).1 ++ (readZ ys).1, (xs.length : Int) + (ys.length : Int) + 1, 0) := by
  obtain ⟨l1, b1, t1, r1, o1, e1⟩ := readZ_right h1
  obtain ⟨l2, b2, t2, r2, o2, e2⟩ := readZ_right h2
  have hlen : ((xs ++ 10 :: ys).length : Int) = (xs.length : Int) + (ys.length : Int) + 1 := by simp; omega
  have hb0 : badL [10] 1 0 < 0 := by decide +kernel
  have hb1 := (good_left [10] ys b2 1 0 (10 :: ys).length (by omega) (by simp) (by simp; omega) hb0).2
  have hb2 := (good_left xs (10 :: ys) hb1 xs.length 0 (xs ++ 10 :: ys).length (by omega) (by omega) (by simp) b1).2
  have hid : t1.nums = [] := by
    have := run_idle (mapP (piecesL xs)) r0Z (fun _ => rfl)
    rw [r1] at this
    exact this o1
  have hR : Beside t1.out r0Z t1 := ⟨by simp [r0Z], o1.trans rfl, hid.trans rfl, fun h => by cases h⟩
  obtain ⟨t3, r3, hB⟩ := run_beside ((xs.length + 1 : Nat) : Int) (mapP (piecesL ys)) r0Z t1 t2 hR (by rw [r2]) (by
    unfold phi
    rw [o2, if_neg (by decide), ← e1, ← e2]
    omega)
  have hp : mapP (piecesL (xs ++ 10 :: ys)) = mapP (piecesL xs) ++ (mapP (piecesL ys)).map fun p => (p.1, p.2 + ((xs.length + 1 : Nat) : Int)) := by
    unfold piecesL
    rw [pcL_join xs ys xs.length 0 (xs ++ 10 :: ys).length false (-1) (by omega) (by omega) (by simp; omega) (by simp), mapP_app, mapP_shift]
  have hz : readZ (xs ++ 10 :: ys) = finR ((xs ++ 10 :: ys).length : Int) (runP stepR (r0Z, none) (mapP (piecesL (xs ++ 10 :: ys)))).1 := by
    unfold readZ
    rw [if_neg (by omega), if_neg (by omega)]
  rw [hz, hp, runP_append, r1, if_pos rfl, r3]
  simp only [finR]
  rw [if_neg (by rw [hB.op, o2]; decide), hB.out, e1, e2, hlen]

/-! ### Moves printed -/
def wordL (n : Int) : List Int := if n = 1 then [116, 105, 99, 107] else if n = 2 then [99, 114, 97, 115, 104] else if n = 3 then [111, 112, 101, 110] else if n = 4 then [97, 114, 109] else [103, 114, 111, 119]
theorem word_is (n : Int) : scene_word.f n = some (strOfNums (wordL n)) := by
  unfold scene_word.f wordL
  repeat' split
  all_goals rfl
def numsM (m : S34) : List Int := numsF m.f0 m.f1 m.f2 m.f3
/-- A move that may be. -/
def goodM (m : S34) : Prop := checkF m.f0 m.f1 m.f2 m.f3 = 0
instance (m : S34) : Decidable (goodM m) := by unfold goodM; infer_instance
def bitsM (m : S34) : List (List Int) := wordL m.f0 :: (numsM m).flatMap (fun n => [[32], digZ n]) ++ [[32, 59, 10]]
def moveL (m : S34) : List Int := (bitsM m).flatten
def sceneL (l : List S34) : List Int := l.flatMap moveL
theorem good_facts {m : S34} (h : goodM m) : (1 ≤ m.f0 ∧ m.f0 ≤ 5) ∧ (numsM m).length ≤ 70 ∧ (∀ n ∈ numsM m, -1099511627776 ≤ n ∧ n ≤ 1099511627776) ∧ (m.f0 ≠ 2 → m.f3 = []) ∧ (m.f0 ≠ 1 → m.f2 = 0) ∧ (m.f0 = 2 ∨ m.f0 = 3 → m.f1 = 0) := by
  unfold goodM checkF at h
  by_cases c1 : m.f0 < 1 ∨ 5 < m.f0 ∨ 70 < (numsF m.f0 m.f1 m.f2 m.f3).length ∨ (numsF m.f0 m.f1 m.f2 m.f3).any isFar = true
  · rw [if_pos c1] at h; exact absurd h (by decide)
  rw [if_neg c1] at h
  by_cases c2 : (0 < m.f3.length ∧ m.f0 ≠ 2) ∨ ¬ (m.f2 = 0 ∨ m.f0 = 1)
  · rw [if_pos c2] at h; exact absurd h (by decide)
  rw [if_neg c2] at h
  by_cases c3 : m.f1 ≠ 0 ∧ (m.f0 = 2 ∨ m.f0 = 3)
  · rw [if_pos c3] at h; exact absurd h (by decide)
  have e1 : ¬ m.f0 < 1 := fun h => c1 (.inl h)
  have e2 : ¬ 5 < m.f0 := fun h => c1 (.inr (.inl h))
  have e3 : ¬ 70 < (numsM m).length := fun h => c1 (.inr (.inr (.inl h)))
  have e4 : ¬ (numsM m).any isFar = true := fun h => c1 (.inr (.inr (.inr h)))
  refine ⟨by omega, by omega, fun n hn => ?_, fun hk => ?_, fun hk => ?_, fun hk => ?_⟩
  · have : ¬ isFar n = true := fun hf => e4 (List.any_eq_true.2 ⟨n, hn, hf⟩)
    unfold isFar at this
    simp only [Bool.or_eq_true, decide_eq_true_eq] at this
    omega
  · refine List.eq_nil_of_length_eq_zero ?_
    refine Decidable.of_not_not fun hl => c2 (.inl ⟨by omega, hk⟩)
  · exact Decidable.of_not_not fun hz => c2 (.inr (fun h => h.elim hz hk))
  · exact Decidable.of_not_not fun hz => c3 ⟨hz, hk⟩
theorem check_two (a0 a1 a2 : Int) (l : List Int) : checkF a0 a1 a2 l = 0 ∨ checkF a0 a1 a2 l = 2 := by
  unfold checkF
  repeat' split
  all_goals simp
theorem numI_ok {n : Int} (h : -1099511627776 ≤ n ∧ n ≤ 1099511627776) : numI n = true := by
  unfold numI
  rw [decide_eq_true (by omega), decide_eq_true (by omega)]
  rfl
theorem print_l1 (ms : List S34) (n i : Int) (ts : List Int) (hts : ∀ t ∈ ts, -1099511627776 ≤ t ∧ t ≤ 1099511627776) (hl : ts.length ≤ 1000) : ∀ (d j k : Nat) (acc : List ByteArray), ts.length = j + d → acc.length + 2 * d ≤ 1000000000 → scene_Print.l1 (k + d + 1) acc ms n i ts (ts.length : Int) (j : Int) = scene_Print.l0 k (acc ++ (ts.drop j).flatMap (fun t => [strOfNums [32], strOfNums (digZ t)]) ++ [strOfNums [32, 59, 10]]) ms n (wrap64 (i + 1))
  | 0, j, k, acc, hd, ha => by
    rw [show k + 0 + 1 = k + 1 from rfl, scene_Print.l1, if_neg (by omega), if_pos (by omega), List.drop_eq_nil_of_le (by omega)]
    simp only [List.flatMap_nil, List.append_nil]
    rfl
  | d + 1, j, k, acc, hd, ha => by
    have hj : j < ts.length := by omega
    have hr : rd ts (j : Int) = ts[j] := by
      unfold rd
      rw [Int.toNat_natCast, List.getD_eq_getElem?_getD, List.getElem?_eq_getElem hj, Option.getD_some]
    have hg := hts _ (List.getElem_mem hj)
    rw [show k + (d + 1) + 1 = (k + d + 1) + 1 from by omega, scene_Print.l1, if_pos (by omega), if_pos (by omega), if_pos (by omega), hr]
    unfold strconv_Itoa.f
    rw [if_pos (numI_ok hg), Option.bind_some, itoa_is, Option.bind_some, if_pos (by simp; omega), show wrap64 ((j : Int) + 1) = ((j + 1 : Nat) : Int) from by unfold wrap64; omega, print_l1 ms n i ts hts hl d (j + 1) k _ (by omega) (by simp; omega), List.drop_eq_getElem_cons hj, List.flatMap_cons]
    simp only [List.append_assoc, List.cons_append, List.nil_append]
    rfl
/-- What a list of right moves prints. -/
theorem print_l0 (ms : List S34) (hm : ms.length ≤ 1000) : ∀ (d i k : Nat) (acc : List (List Int)), ms.length = i + d → 80 * d + 1 ≤ k → acc.length + 200 * d ≤ 1000000 → (∀ x ∈ acc, x.length ≤ 1000002) →
    scene_Print.l0 k (acc.map strOfNums) ms (ms.length : Int) (i : Int) = if (∀ m ∈ ms.drop i, goodM m) then some (strOfNums (acc.flatten ++ sceneL (ms.drop i)), 0) else some ((⟨#[]⟩ : ByteArray), 2)
  | 0, i, k, acc, hd, hk, ha, hx => by
    obtain ⟨k, rfl⟩ : ∃ m, k = m + 1 := ⟨k - 1, by omega⟩
    rw [scene_Print.l0, if_neg (by omega), List.drop_eq_nil_of_le (by omega), if_pos (by simp)]
    unfold strings_Join.f
    have hs : acc.flatten.length ≤ 2000000000000 := by
      have : ∀ (l : List (List Int)), (∀ x ∈ l, x.length ≤ 1000002) → l.flatten.length ≤ l.length * 1000002 := by
        intro l
        induction l with
        | nil => intro _; simp
        | cons a l ih =>
          intro h
          have h1 := h a (by simp)
          have h2 := ih (fun x hx => h x (by simp [hx]))
          rw [List.flatten_cons, List.length_append, List.length_cons]
          omega
      have := this acc hx
      omega
    rw [joinB_is, if_pos (by rw [son_size, List.length_map]; omega), Option.bind_some]
    simp [sceneL]
  | d + 1, i, k, acc, hd, hk, ha, hx => by
    obtain ⟨k, rfl⟩ : ∃ m, k = m + 1 := ⟨k - 1, by omega⟩
    have hi : i < ms.length := by omega
    have hr : rd_T34 ms (i : Int) = ms[i] := by
      unfold rd_T34
      rw [Int.toNat_natCast, List.getD_eq_getElem?_getD, List.getElem?_eq_getElem hi, Option.getD_some]
    rw [scene_Print.l0, if_pos (by omega), if_pos (by omega), if_pos (by omega), hr, List.drop_eq_getElem_cons hi]
    obtain ⟨m, hmm⟩ : ∃ m, ms[i] = m := ⟨_, rfl⟩
    rw [hmm]
    have hck : scene_Check.f m.f0 m.f1 m.f2 m.f3 = some (checkF m.f0 m.f1 m.f2 m.f3) := rfl
    rw [hck, Option.bind_some]
    by_cases hg : goodM m
    · obtain ⟨f1, f2, f3, f4, f5, f6⟩ := good_facts hg
      have hnm : scene_numbers.f m.f0 m.f1 m.f2 m.f3 = some (numsM m) := rfl
      obtain ⟨k', rfl⟩ : ∃ k', k = k' + (numsM m).length + 1 := ⟨k - (numsM m).length - 1, by omega⟩
      have hflen : ((numsM m).flatMap fun n => [[32], digZ n]).length = 2 * (numsM m).length := by
        generalize numsM m = q
        induction q with
        | nil => rfl
        | cons a q ih => rw [List.flatMap_cons, List.length_append, ih, List.length_cons]; simp; omega
      have hacc : ∀ x ∈ acc ++ bitsM m, x.length ≤ 1000002 := by
        intro x hxm
        rcases List.mem_append.1 hxm with hxm | hxm
        · exact hx x hxm
        · unfold bitsM at hxm
          rcases List.mem_append.1 hxm with hxm | hxm
          · rcases List.mem_cons.1 hxm with rfl | hxm
            · unfold wordL
              repeat' split
              all_goals simp
            · obtain ⟨n, hn, hxn⟩ := List.mem_flatMap.1 hxm
              simp only [List.mem_cons, List.not_mem_nil, or_false] at hxn
              rcases hxn with rfl | rfl
              · simp
              · have := f3 n hn
                unfold digZ
                split
                · have := canon_len' (-n).toNat (by omega)
                  simp; omega
                · have := canon_len' n.toNat (by omega)
                  omega
          · simp at hxm
            rw [hxm]; simp
      rw [if_pos (show checkF m.f0 m.f1 m.f2 m.f3 = 0 from hg), word_is, Option.bind_some, if_pos (by simp; omega), hnm, Option.bind_some]
      have e0 : ((0 : Int)) = ((0 : Nat) : Int) := rfl
      have h1 := print_l1 ms (ms.length : Int) (i : Int) (numsM m) f3 (by omega) (numsM m).length 0 k' (acc.map strOfNums ++ [strOfNums (wordL m.f0)]) (by omega) (by simp; omega)
      rw [show ((0 : Nat) : Int) = 0 from rfl] at h1
      rw [h1, show wrap64 ((i : Int) + 1) = ((i + 1 : Nat) : Int) from by unfold wrap64; omega]
      have e1 : acc.map strOfNums ++ [strOfNums (wordL m.f0)] ++ ((numsM m).drop 0).flatMap (fun t => [strOfNums [32], strOfNums (digZ t)]) ++ [strOfNums [32, 59, 10]] = (acc ++ bitsM m).map strOfNums := by
        unfold bitsM
        rw [List.drop_zero]
        simp only [List.map_append, List.map_cons, List.map_nil, List.map_flatMap, List.append_assoc, List.cons_append, List.nil_append]
      rw [e1, print_l0 ms hm d (i + 1) k' (acc ++ bitsM m) (by omega) (by omega) (by unfold bitsM; simp [hflen]; omega) hacc]
      by_cases hrest : ∀ x ∈ ms.drop (i + 1), goodM x
      · rw [if_pos hrest, if_pos (by
          intro x hxm
          rcases List.mem_cons.1 hxm with rfl | hxm
          · exact hg
          · exact hrest x hxm)]
        unfold sceneL moveL
        rw [List.flatMap_cons, List.flatten_append, List.append_assoc]
      · rw [if_neg hrest, if_neg (fun h => hrest (fun x hxm => h x (List.mem_cons_of_mem _ hxm)))]
    · rw [if_neg (show ¬ checkF m.f0 m.f1 m.f2 m.f3 = 0 from hg), if_neg (fun h => hg (h m List.mem_cons_self))]
      have := (check_two m.f0 m.f1 m.f2 m.f3).resolve_left hg
      rw [this]
theorem Print_is (ms : List S34) {k : Nat} (hk : 90000 ≤ k) : scene_Print.f k ms = some (if ms.length ≤ 1000 then (if (∀ m ∈ ms, goodM m) then (strOfNums (sceneL ms), 0) else ((⟨#[]⟩ : ByteArray), 2)) else ((⟨#[]⟩ : ByteArray), 5)) := by
  unfold scene_Print.f
  by_cases h : ms.length ≤ 1000
  · rw [if_neg (by omega), if_pos h]
    have := print_l0 ms h ms.length 0 k [] (by omega) (by omega) (by simp; omega) (by simp)
    rw [show ((0 : Nat) : Int) = 0 from rfl, List.map_nil, List.drop_zero] at this
    rw [this]
    split <;> simp
  · rw [if_pos (by omega), if_neg h]

/-! ### Pieces of a printed text -/
def pS (xs : List Int) : List (List Int) := (piecesL xs).map Prod.fst
theorem shiftL_fst (n : Nat) (l : List (List Int × Int)) : (shiftL n l).map Prod.fst = l.map Prod.fst := by
  unfold shiftL
  rw [List.map_map]
  rfl
def plainB (c : Int) : Prop := (0 ≤ c ∧ c < 128) ∧ c ≠ 9 ∧ c ≠ 10 ∧ c ≠ 13 ∧ c ≠ 32 ∧ c ≠ 35 ∧ c ≠ 59
theorem gb_mem {xs : List Int} {p : Nat} (h : p < xs.length) : gb xs p = (xs[p]).toNat := by
  unfold gb
  rw [List.getD_eq_getElem?_getD, List.getElem?_eq_getElem h, Option.getD_some]
theorem tok_go (w ys : List Int) (hw : ∀ c ∈ w, plainB c) (h0 : 0 < w.length) : ∀ (e p d : Nat) (fr : Int), w.length = p + e → (w ++ 32 :: ys).length ≤ p + d → (p = 0 ∧ fr < 0 ∨ 0 < p ∧ fr = 0) → pcL (w ++ 32 :: ys) d p false fr = (w, 0) :: shiftL (w.length + 1) (piecesL ys)
  | 0, p, d, fr, he, hd, hf => by
    have hp : p = w.length := by omega
    subst hp
    have hfr : fr = 0 := by omega
    subst hfr
    obtain ⟨d, rfl⟩ : ∃ m, d = m + 1 := ⟨d - 1, by simp at hd; omega⟩
    have hg : gb (w ++ 32 :: ys) w.length = 32 := by
      have := gb_right w (32 :: ys) 0
      rw [Nat.add_zero] at this
      rw [this]; rfl
    have hR := pcL_right (w ++ [32]) ys d 0 false (-1) (-1) (.inl ⟨by omega, by omega⟩)
    have e1 : (w ++ [32]) ++ ys = w ++ 32 :: ys := by simp
    have e2 : (w ++ [32]).length = w.length + 1 := by simp
    rw [e1, e2, Nat.add_zero] at hR
    simp only [pcL]
    rw [if_pos (by simp), hg, if_neg (c := (false : Bool) = true) (by decide), if_neg (by omega), if_neg (by omega), if_pos (by omega), hR]
    unfold endL
    rw [if_neg (by omega), List.take_left]
    unfold piecesL
    rw [pcL_fuel ys d ys.length 0 false (-1) (by simp at hd; omega) (by omega)]
    rfl
  | e + 1, p, d, fr, he, hd, hf => by
    obtain ⟨d, rfl⟩ : ∃ m, d = m + 1 := ⟨d - 1, by simp at hd; omega⟩
    have hp : p < w.length := by omega
    have hc := hw _ (List.getElem_mem hp)
    unfold plainB at hc
    have hg : gb (w ++ 32 :: ys) p = (w[p]).toNat := by rw [gb_left _ _ _ hp, gb_mem hp]
    simp only [pcL]
    rw [if_pos (by simp; omega), hg, if_neg (c := (false : Bool) = true) (by decide), if_neg (by omega), if_neg (by omega), if_neg (by omega)]
    exact tok_go w ys hw h0 e (p + 1) d _ (by omega) (by simp at hd ⊢; omega) (by split <;> omega)
theorem tok {w ys : List Int} (hw : ∀ c ∈ w, plainB c) (h0 : w ≠ []) : pS (w ++ 32 :: ys) = w :: pS ys := by
  unfold pS
  have : piecesL (w ++ 32 :: ys) = (w, 0) :: shiftL (w.length + 1) (piecesL ys) := tok_go w ys hw (List.length_pos_iff.2 h0) w.length 0 _ (-1) (by omega) (by omega) (.inl ⟨rfl, by omega⟩)
  rw [this, List.map_cons, shiftL_fst]
theorem semi_tok (ys : List Int) : pS (59 :: 10 :: ys) = [59] :: pS ys := by
  have hR := pcL_right [59, 10] ys ys.length 0 false (-1) (-1) (.inl ⟨by omega, by omega⟩)
  have e1 : [59, 10] ++ ys = 59 :: 10 :: ys := rfl
  rw [e1] at hR
  have : piecesL (59 :: 10 :: ys) = ([59], 0) :: shiftL 2 (piecesL ys) := by
    unfold piecesL
    rw [show (59 :: 10 :: ys : List Int).length = ys.length + 1 + 1 from rfl]
    rw [pcL, if_pos (by simp), if_neg (c := (false : Bool) = true) (by decide), show gb (59 :: 10 :: ys) 0 = 59 from rfl, if_neg (by omega), if_pos rfl, pcL, if_pos (by simp), if_neg (c := (false : Bool) = true) (by decide), show gb (59 :: 10 :: ys) (0 + 1) = 10 from rfl, if_neg (by omega), if_neg (by omega), if_pos (by omega)]
    exact congrArg (fun z => ([59], (0 : Int)) :: z) hR
  unfold pS
  rw [this, List.map_cons, shiftL_fst]
/-! ### A run over strings alone -/
def goS : RS → List (List Int) → Option RS
  | s, [] => some s
  | s, p :: ps => if (takeF s (strOfNums p)).2 = 0 then goS (takeF s (strOfNums p)).1 ps else none
theorem goS_run : ∀ (l : List (List Int × Int)) (s t : RS), (runP stepR (s, none) (mapP l)).1 = (t, none) ↔ goS s (l.map Prod.fst) = some t
  | [], s, t => by
    simp only [List.map_nil, goS, Option.some.injEq]
    constructor
    · intro h; exact congrArg Prod.fst h
    · intro h; rw [← h]; rfl
  | p :: l, s, t => by
    obtain ⟨s1, e, hT⟩ : ∃ s1 e, takeF s (strOfNums p.1) = (s1, e) := ⟨_, _, rfl⟩
    have hm : mapP (p :: l) = (strOfNums p.1, p.2) :: mapP l := rfl
    rw [hm, List.map_cons, goS, hT]
    by_cases he : e = 0
    · subst he
      rw [run_ok (p := (strOfNums p.1, p.2)) hT, if_pos rfl]
      exact goS_run l s1 t
    · rw [run_err (p := (strOfNums p.1, p.2)) hT he, if_neg he]
      constructor
      · intro h; exact absurd (congrArg Prod.snd h) (by simp)
      · intro h; exact absurd h (by simp)
theorem digZ_plain {n : Int} : ∀ c ∈ digZ n, plainB c := by
  have hd : ∀ (m : Nat), ∀ c ∈ digL m, plainB c := fun m c hc => by
    have := (digL_canon m).1.1 c hc
    unfold dig at this
    unfold plainB
    omega
  unfold digZ
  split
  · intro c hc
    rcases List.mem_cons.1 hc with rfl | hc
    · unfold plainB; omega
    · exact hd _ c hc
  · exact hd _
theorem digZ_ne' (n : Int) : digZ n ≠ [] := by
  unfold digZ
  split
  · simp
  · exact digL_ne _
theorem wordL_plain (n : Int) : (∀ c ∈ wordL n, plainB c) ∧ wordL n ≠ [] := by
  unfold wordL plainB
  repeat' split
  all_goals exact ⟨by decide, by simp⟩
def tailL : List Int → List Int → List Int
  | [], ys => 59 :: 10 :: ys
  | n :: ns, ys => digZ n ++ 32 :: tailL ns ys
theorem tail_is : ∀ (ns ys : List Int), (ns.flatMap fun n => [[32], digZ n]).flatten ++ ([32, 59, 10] ++ ys) = 32 :: tailL ns ys
  | [], ys => rfl
  | n :: ns, ys => by
    have ih := tail_is ns ys
    rw [List.flatMap_cons]
    simp only [List.cons_append, List.nil_append, List.flatten_cons, tailL, List.append_assoc] at ih ⊢
    rw [ih]
theorem moveL_is (m : S34) (ys : List Int) : moveL m ++ ys = wordL m.f0 ++ 32 :: tailL (numsM m) ys := by
  unfold moveL bitsM
  rw [← tail_is]
  simp [List.flatten_append]
theorem tail_tok : ∀ (ns ys : List Int), pS (tailL ns ys) = ns.map digZ ++ [59] :: pS ys
  | [], ys => semi_tok ys
  | n :: ns, ys => by
    rw [tailL, tok digZ_plain (digZ_ne' n), tail_tok ns ys]
    rfl
theorem move_tok (m : S34) (ys : List Int) : pS (moveL m ++ ys) = wordL m.f0 :: ((numsM m).map digZ ++ [59] :: pS ys) := by
  rw [moveL_is, tok (wordL_plain _).1 (wordL_plain _).2, tail_tok]
/-! ### A printed move is read -/
theorem numZ_of {n : Int} (h : -1099511627776 ≤ n ∧ n ≤ 1099511627776) : numZ (digZ n) = (n, true) := by
  unfold digZ
  by_cases hn : n < 0
  · rw [if_pos hn]
    obtain ⟨h1, h2, h3⟩ := digL_canon (-n).toNat
    have hne := digL_ne (-n).toNat
    have hl : 1 < (45 :: digL (-n).toNat).length := by
      rcases hd : digL (-n).toNat with _ | ⟨c, cs⟩
      · exact absurd hd hne
      · simp
    have e1 : (45 :: digL (-n).toNat).drop 1 = digL (-n).toNat := rfl
    have eg : (45 :: digL (-n).toNat).getD 1 0 = (digL (-n).toNat).getD 0 0 := by cases digL (-n).toNat <;> rfl
    unfold numZ
    rw [if_pos (c := 1 < (45 :: digL (-n).toNat).length ∧ (45 :: digL (-n).toNat).getD 0 0 = 45) ⟨hl, rfl⟩, e1, eg, if_pos ⟨h1, by rw [h2]; omega, fun e => by have := h3 e; omega⟩, h2]
    congr 1
    omega
  · rw [if_neg hn]
    obtain ⟨h1, h2, h3⟩ := digL_canon n.toNat
    have hh : dig ((digL n.toNat).getD 0 0) := by
      rcases hd : digL n.toNat with _ | ⟨c, cs⟩
      · exact absurd hd (digL_ne _)
      · rw [hd] at h1
        exact h1.1 c (by simp)
    unfold dig at hh
    unfold numZ
    rw [if_neg (fun h => by have := h.2; omega), if_pos ⟨h1, by rw [h2]; omega⟩, h2]
    congr 1
    omega
theorem go_nums (rest : List (List Int)) : ∀ (ns : List Int) (s : RS), (∀ n ∈ ns, -1099511627776 ≤ n ∧ n ≤ 1099511627776) → s.op = true → ((s.nums.length + ns.length : Nat) : Int) ≤ s.mo → goS s (ns.map digZ ++ rest) = goS { s with nums := s.nums ++ ns } rest
  | [], s, _, _, _ => by simp
  | n :: ns, s, hn, hop, hl => by
    have hr := hn n (by simp)
    have hB := digZ_isB n
    have h59 : ¬ digZ n = [59] := fun e => by
      have := digZ_plain (n := n) 59 (by rw [e]; simp)
      unfold plainB at this
      omega
    have ht : takeF s (strOfNums (digZ n)) = ({ s with nums := s.nums ++ [n] }, 0) := by
      unfold takeF
      rw [if_neg (by rw [hop]; decide), if_neg (fun e => h59 ((semi_eq hB).1 e)), numberF_is hB, numZ_of hr, if_pos ⟨rfl, by simp at hl; omega⟩]
    have ih := go_nums rest ns { s with nums := s.nums ++ [n] } (fun x hx => hn x (by simp [hx])) hop (by simp at hl ⊢; omega)
    rw [List.map_cons, List.cons_append, goS, ht, if_pos rfl]
    refine ih.trans ?_
    simp
def formK (n : Int) : Int × Int × Int × Bool := if n = 1 then (1, 2, 2, true) else if n = 2 then (2, 0, 70, true) else if n = 3 then (3, 0, 0, true) else if n = 4 then (4, 1, 1, true) else (5, 1, 1, true)
theorem form_word {n : Int} (h : 1 ≤ n ∧ n ≤ 5) : formF (strOfNums (wordL n)) = formK n := by
  obtain rfl | rfl | rfl | rfl | rfl : n = 1 ∨ n = 2 ∨ n = 3 ∨ n = 4 ∨ n = 5 := by omega
  all_goals decide +kernel
theorem nums_fit {m : S34} (h : goodM m) : (formK m.f0).2.1 ≤ ((numsM m).length : Int) ∧ ((numsM m).length : Int) ≤ (formK m.f0).2.2.1 ∧ (formK m.f0).1 = m.f0 ∧ (formK m.f0).2.2.2 = true := by
  obtain ⟨f1, f2, f3, f4, f5, f6⟩ := good_facts h
  obtain ⟨k, a, b, l⟩ := m
  simp only at *
  unfold numsM numsF at *
  simp only at *
  obtain rfl | rfl | rfl | rfl | rfl : k = 1 ∨ k = 2 ∨ k = 3 ∨ k = 4 ∨ k = 5 := by omega
  · simp [formK]
  · simp [formK] at f2 ⊢
    omega
  · simp [formK]
  · simp [formK]
  · simp [formK]
theorem mvF_good {m : S34} (h : goodM m) (s : RS) (hk : s.kd = m.f0) (hn : s.nums = numsM m) : mvF s = m := by
  obtain ⟨f1, f2, f3, f4, f5, f6⟩ := good_facts h
  obtain ⟨k, a, b, l⟩ := m
  simp only at *
  unfold mvF
  rw [hk, hn]
  unfold numsM numsF
  simp only
  obtain rfl | rfl | rfl | rfl | rfl : k = 1 ∨ k = 2 ∨ k = 3 ∨ k = 4 ∨ k = 5 := by omega
  · have := f4 (by omega)
    subst this
    simp [rd]
  · have := f5 (by omega)
    have := f6 (.inl rfl)
    simp [*]
  · have := f4 (by omega)
    have := f5 (by omega)
    have := f6 (.inr rfl)
    simp [*]
  · have := f4 (by omega)
    have := f5 (by omega)
    simp [*, rd]
  · have := f4 (by omega)
    have := f5 (by omega)
    simp [*, rd]
theorem go_move {m : S34} (h : goodM m) (rest : List (List Int)) (s : RS) (hop : s.op = false) (hn : s.nums = []) (hl : s.out.length < 1000) : ∃ s', goS s (wordL m.f0 :: ((numsM m).map digZ ++ [59] :: rest)) = goS s' rest ∧ s'.op = false ∧ s'.nums = [] ∧ s'.out = s.out ++ [m] := by
  obtain ⟨f1, f2, f3, f4, f5, f6⟩ := good_facts h
  obtain ⟨g1, g2, g3, g4⟩ := nums_fit h
  have ht : takeF s (strOfNums (wordL m.f0)) = ({ s with op := true, kd := (formK m.f0).1, le := (formK m.f0).2.1, mo := (formK m.f0).2.2.1 }, 0) := by
    unfold takeF beginF
    rw [if_pos hop, form_word f1, if_pos g4, if_neg (by omega)]
  rw [goS, ht, if_pos rfl, go_nums _ _ _ f3 rfl (by simp [hn]; exact g2)]
  have e59 : (strOfNums [59]).toList = ([59] : List UInt8) := by decide +kernel
  have ht2 : takeF { s with op := true, kd := (formK m.f0).1, le := (formK m.f0).2.1, mo := (formK m.f0).2.2.1, nums := s.nums ++ numsM m } (strOfNums [59]) = ({ out := s.out ++ [m], op := false, kd := (formK m.f0).1, le := (formK m.f0).2.1, mo := (formK m.f0).2.2.1, nums := [] }, 0) := by
    unfold takeF
    rw [if_neg (by simp), if_pos e59]
    unfold shutF
    simp only
    rw [if_neg (by rw [hn, List.nil_append]; omega)]
    simp only [if_true]
    rw [mvF_good h _ g3 (by rw [hn]; rfl)]
  rw [goS, ht2, if_pos rfl]
  exact ⟨_, rfl, rfl, rfl, rfl⟩
theorem go_scene : ∀ (l : List S34) (s : RS), (∀ m ∈ l, goodM m) → s.op = false → s.nums = [] → s.out.length + l.length ≤ 1000 → ∃ t, goS s (pS (sceneL l)) = some t ∧ t.op = false ∧ t.out = s.out ++ l
  | [], s, _, hop, hn, hl => ⟨s, rfl, hop, by simp⟩
  | m :: l, s, hg, hop, hn, hl => by
    have e : sceneL (m :: l) = moveL m ++ sceneL l := by unfold sceneL; rw [List.flatMap_cons]
    obtain ⟨s', h1, h2, h3, h4⟩ := go_move (hg m (by simp)) (pS (sceneL l)) s hop hn (by simp at hl; omega)
    obtain ⟨t, h5, h6, h7⟩ := go_scene l s' (fun x hx => hg x (by simp [hx])) h2 h3 (by rw [h4]; simp at hl ⊢; omega)
    rw [e, move_tok, h1]
    exact ⟨t, h5, h6, by rw [h7, h4]; simp⟩
theorem bad_ascii {xs : List Int} (h : ∀ c ∈ xs, 0 ≤ c ∧ c < 128) : ∀ (d p : Nat), badL xs d p < 0
  | 0, p => by rw [badL]; omega
  | d + 1, p => by
    rw [badL]
    by_cases hp : p < xs.length
    · have hc := h _ (List.getElem_mem hp)
      have hg : gb xs p < 128 := by rw [gb_mem hp]; omega
      have hb : ¬ badAt xs p := by
        unfold badAt badN
        rw [dN_ascii _ _ _ _ _ hg]
        intro e
        have := congrArg Prod.fst e
        simp only at this
        omega
      rw [if_pos hp, if_neg hb]
      exact bad_ascii h d _
    · rw [if_neg hp]; omega
theorem scene_ascii (l : List S34) : ∀ c ∈ sceneL l, 0 ≤ c ∧ c < 128 := by
  intro c hc
  obtain ⟨m, _, hc⟩ := List.mem_flatMap.1 hc
  unfold moveL bitsM at hc
  obtain ⟨x, hx, hcx⟩ := List.mem_flatten.1 hc
  rcases List.mem_append.1 hx with hx | hx
  · rcases List.mem_cons.1 hx with rfl | hx
    · exact ((wordL_plain _).1 c hcx).1
    · obtain ⟨n, _, hxn⟩ := List.mem_flatMap.1 hx
      simp only [List.mem_cons, List.not_mem_nil, or_false] at hxn
      rcases hxn with rfl | rfl
      · simp at hcx; omega
      · exact (digZ_plain c hcx).1
  · simp at hx
    rw [hx] at hcx
    simp at hcx
    omega
/-- What was printed is read as it was. -/
theorem readZ_scene (l : List S34) (hg : ∀ m ∈ l, goodM m) (hl : l.length ≤ 1000) (hx : (sceneL l).length ≤ 65536) : readZ (sceneL l) = (l, ((sceneL l).length : Int), 0) := by
  obtain ⟨t, h1, h2, h3⟩ := go_scene l r0Z hg rfl rfl (by simp [r0Z]; exact hl)
  have h4 := (goS_run (piecesL (sceneL l)) r0Z t).2 h1
  have hb := bad_ascii (scene_ascii l) (sceneL l).length 0
  unfold readZ
  rw [if_neg (by omega), if_neg (by omega), h4]
  simp only [finR]
  rw [h2, if_neg (by decide), h3]
  rfl

/-! ### What was read may be printed -/
theorem form_cases {a : ByteArray} (h : (formF a).2.2.2 = true) : ∃ n, (1 ≤ n ∧ n ≤ 5) ∧ formF a = formK n ∧ a.size = (wordL n).length := by
  have hsz : ∀ l : List UInt8, a.toList = l → a.size = l.length := fun l e => by
    rw [← e, bytes_toList]
    exact Array.length_toList.symm
  have hcase : a.toList = ([116, 105, 99, 107] : List UInt8) ∨ a.toList = ([99, 114, 97, 115, 104] : List UInt8) ∨ a.toList = ([111, 112, 101, 110] : List UInt8) ∨ a.toList = ([97, 114, 109] : List UInt8) ∨ a.toList = ([103, 114, 111, 119] : List UInt8) := by
    unfold formF scene_formed.f at h
    repeat' split at h
    all_goals first | simp_all | (simp at h)
  rcases hcase with e | e | e | e | e
  · exact ⟨1, by omega, by unfold formF scene_formed.f; rw [e]; rfl, (hsz _ e).trans rfl⟩
  · exact ⟨2, by omega, by unfold formF scene_formed.f; rw [e]; rfl, (hsz _ e).trans rfl⟩
  · exact ⟨3, by omega, by unfold formF scene_formed.f; rw [e]; rfl, (hsz _ e).trans rfl⟩
  · exact ⟨4, by omega, by unfold formF scene_formed.f; rw [e]; rfl, (hsz _ e).trans rfl⟩
  · exact ⟨5, by omega, by unfold formF scene_formed.f; rw [e]; rfl, (hsz _ e).trans rfl⟩
theorem numZ_back {xs : List Int} {n : Int} (h : numZ xs = (n, true)) : (-1099511627776 ≤ n ∧ n ≤ 1099511627776) ∧ digZ n = xs := by
  unfold numZ at h
  by_cases c1 : 1 < xs.length ∧ xs.getD 0 0 = 45
  · rw [if_pos c1] at h
    by_cases c2 : canon (xs.drop 1) ∧ valL (xs.drop 1) 0 ≤ 1099511627776 ∧ xs.getD 1 0 ≠ 48
    · rw [if_pos c2] at h
      obtain ⟨h1, h2, h3⟩ := c2
      have e : -(valL (xs.drop 1) 0) = n := congrArg Prod.fst h
      obtain ⟨ds, rfl⟩ : ∃ ds, xs = 45 :: ds := by
        rcases xs with _ | ⟨a, ds⟩
        · simp at c1
        · exact ⟨ds, by have := c1.2; simp at this; rw [this]⟩
      have e1 : (45 :: ds).drop 1 = ds := rfl
      rw [e1] at h1 h2 e
      have hn := val_nonneg h1.1
      have hpos : 0 < valL ds 0 := by
        rcases ds with _ | ⟨c, cs⟩
        · exact absurd rfl h1.2.1
        · have hp := val_pos h1.1 (by simpa using h3)
          have : (1 : Int) ≤ 10 ^ cs.length := Int.add_one_le_iff.2 (Int.pow_pos (by decide))
          omega
      refine ⟨by omega, ?_⟩
      unfold digZ
      rw [if_pos (by omega), show (-n).toNat = (valL ds 0).toNat from by omega, digL_val _ _ rfl h1]
    · rw [if_neg c2] at h
      exact absurd (congrArg Prod.snd h) (by simp)
  · rw [if_neg c1] at h
    by_cases c2 : canon xs ∧ valL xs 0 ≤ 1099511627776
    · rw [if_pos c2] at h
      have e : valL xs 0 = n := congrArg Prod.fst h
      have hn := val_nonneg c2.1.1
      refine ⟨by omega, ?_⟩
      unfold digZ
      rw [if_neg (by omega), ← e, digL_val _ _ rfl c2.1]
    · rw [if_neg c2] at h
      exact absurd (congrArg Prod.snd h) (by simp)
def numsLen (l : List Int) : Nat := (l.map fun n => 1 + (digZ n).length).sum
/-- What a reader's state keeps: its moves may be, and their text is no longer than what was read and three bytes a piece. -/
structure Well (s : RS) (C : Nat) : Prop where
  good : ∀ m ∈ s.out, goodM m
  most : s.out.length ≤ 1000
  room : s.op = true → s.out.length < 1000
  idle : s.op = false → s.nums = []
  form : s.op = true → ∃ n, (1 ≤ n ∧ n ≤ 5) ∧ (s.kd, s.le, s.mo, true) = formK n
  rng : ∀ n ∈ s.nums, -1099511627776 ≤ n ∧ n ≤ 1099511627776
  fit : s.op = true → (s.nums.length : Int) ≤ s.mo
  cost : (sceneL s.out).length + (if s.op = true then (wordL s.kd).length + numsLen s.nums else 0) ≤ C
theorem sceneL_snoc (l : List S34) (m : S34) : sceneL (l ++ [m]) = sceneL l ++ moveL m := by
  unfold sceneL
  simp
theorem numsLen_is (l : List Int) : ((l.flatMap fun n => [[32], digZ n]).flatten).length = numsLen l := by
  unfold numsLen
  induction l with
  | nil => rfl
  | cons a l ih =>
    rw [List.flatMap_cons]
    simp only [List.cons_append, List.nil_append, List.flatten_cons, List.length_append, List.length_cons, List.length_nil, List.map_cons, List.sum_cons, ih]
    omega
theorem moveL_len (m : S34) : (moveL m).length = (wordL m.f0).length + numsLen (numsM m) + 3 := by
  unfold moveL bitsM
  rw [List.flatten_append, List.flatten_cons, List.length_append, List.length_append, numsLen_is]
  rfl
theorem formK_fst {n : Int} (h : 1 ≤ n ∧ n ≤ 5) : (formK n).1 = n := by
  obtain rfl | rfl | rfl | rfl | rfl : n = 1 ∨ n = 2 ∨ n = 3 ∨ n = 4 ∨ n = 5 := by omega
  all_goals rfl
theorem mv_well {s : RS} {n : Int} (h : 1 ≤ n ∧ n ≤ 5) (hf : (s.kd, s.le, s.mo, true) = formK n) (hr : ∀ x ∈ s.nums, -1099511627776 ≤ x ∧ x ≤ 1099511627776) (hle : ¬ (s.nums.length : Int) < s.le) (hmo : (s.nums.length : Int) ≤ s.mo) : goodM (mvF s) ∧ (mvF s).f0 = s.kd ∧ numsM (mvF s) = s.nums := by
  have far : ∀ l : List Int, (∀ x ∈ l, -1099511627776 ≤ x ∧ x ≤ 1099511627776) → l.any isFar = false := by
    intro l hl
    refine Bool.eq_false_iff.2 fun hc => ?_
    obtain ⟨x, hx, hxf⟩ := List.any_eq_true.1 hc
    have := hl x hx
    unfold isFar at hxf
    simp only [Bool.or_eq_true, decide_eq_true_eq] at hxf
    omega
  obtain ⟨out, op, kd, le, mo, nums⟩ := s
  simp only at *
  have hk : kd = n := by
    have := congrArg Prod.fst hf
    simp only at this
    rw [this]
    exact formK_fst h
  subst hk
  have h2 := congrArg (fun z => z.2.1) hf
  have h3 := congrArg (fun z => z.2.2.1) hf
  simp only at h2 h3
  subst h2 h3
  unfold mvF
  simp only
  obtain rfl | rfl | rfl | rfl | rfl : kd = 1 ∨ kd = 2 ∨ kd = 3 ∨ kd = 4 ∨ kd = 5 := by omega
  · simp only [formK, if_pos] at hle hmo
    obtain ⟨x, y, rfl⟩ : ∃ x y, nums = [x, y] := by
      rcases nums with _ | ⟨x, _ | ⟨y, _ | ⟨z, l⟩⟩⟩
      · simp at hle
      · simp at hle
      · exact ⟨x, y, rfl⟩
      · simp at hmo; omega
    have hfr := far [x, y] hr
    refine ⟨?_, rfl, rfl⟩
    show checkF 1 x y [] = 0
    unfold checkF numsF
    simp only [if_pos]
    rw [hfr]
    simp
  · simp only [formK] at hle hmo
    have hfr := far nums hr
    refine ⟨?_, rfl, rfl⟩
    show checkF 2 0 0 nums = 0
    have e : numsF 2 0 0 nums = nums := rfl
    unfold checkF
    rw [e, hfr]
    simp at hmo ⊢
    omega
  · simp only [formK] at hle hmo
    obtain rfl : nums = [] := by
      rcases nums with _ | ⟨x, l⟩
      · rfl
      · simp at hmo; omega
    exact ⟨by decide, rfl, rfl⟩
  · simp only [formK] at hle hmo
    obtain ⟨x, rfl⟩ : ∃ x, nums = [x] := by
      rcases nums with _ | ⟨x, _ | ⟨y, l⟩⟩
      · simp at hle
      · exact ⟨x, rfl⟩
      · simp at hmo; omega
    have hfr := far [x] hr
    refine ⟨?_, rfl, rfl⟩
    show checkF 4 x 0 [] = 0
    have e : numsF 4 x 0 [] = [x] := rfl
    unfold checkF
    rw [e, hfr]
    simp
  · simp only [formK] at hle hmo
    obtain ⟨x, rfl⟩ : ∃ x, nums = [x] := by
      rcases nums with _ | ⟨x, _ | ⟨y, l⟩⟩
      · simp at hle
      · exact ⟨x, rfl⟩
      · simp at hmo; omega
    have hfr := far [x] hr
    refine ⟨?_, rfl, rfl⟩
    show checkF 5 x 0 [] = 0
    have e : numsF 5 x 0 [] = [x] := rfl
    unfold checkF
    rw [e, hfr]
    simp
theorem well_take {s : RS} {C : Nat} (h : Well s C) {p : List Int} (hB : isB p) (h0 : (takeF s (strOfNums p)).2 = 0) : Well (takeF s (strOfNums p)).1 (C + p.length + 3) := by
  obtain ⟨out, op, kd, le, mo, nums⟩ := s
  obtain ⟨k1, k2, k3, k4, k5, k6, k7, k8⟩ := h
  simp only at *
  cases op with
  | false =>
    have hnil := k4 rfl
    subst hnil
    unfold takeF at h0 ⊢
    simp only [if_true] at h0 ⊢
    unfold beginF at h0 ⊢
    by_cases hf : (formF (strOfNums p)).2.2.2 = true
    · rw [if_pos hf] at h0 ⊢
      by_cases h1000 : out.length = 1000
      · rw [if_pos h1000] at h0
        exact absurd h0 (by simp)
      · obtain ⟨n, hn, hfn, hsz⟩ := form_cases hf
        rw [if_neg h1000]
        rw [son_size] at hsz
        refine ⟨k1, k2, fun _ => (by show out.length < 1000; omega), fun e => (by cases e), fun _ => ⟨n, hn, ?_⟩, by simp, fun _ => ?_, ?_⟩
        · show ((formF (strOfNums p)).1, (formF (strOfNums p)).2.1, (formF (strOfNums p)).2.2.1, true) = formK n
          rw [← hf, hfn]
        · show (([] : List Int).length : Int) ≤ (formF (strOfNums p)).2.2.1
          rw [hfn]
          obtain rfl | rfl | rfl | rfl | rfl : n = 1 ∨ n = 2 ∨ n = 3 ∨ n = 4 ∨ n = 5 := by omega
          all_goals decide
        · show (sceneL out).length + (if true = true then (wordL (formF (strOfNums p)).1).length + numsLen [] else 0) ≤ _
          rw [if_pos rfl, hfn, formK_fst hn, ← hsz]
          simp only [Bool.false_eq_true, if_false] at k8
          show _ + (p.length + 0) ≤ _
          omega
    · rw [if_neg hf] at h0
      exact absurd h0 (by simp)
  | true =>
    obtain ⟨n, hn, hfn⟩ := k5 rfl
    have k7 := k7 rfl
    simp only [if_true] at k8
    unfold takeF at h0 ⊢
    simp only [Bool.true_eq_false, if_false] at h0 ⊢
    by_cases hs : (strOfNums p).toList = ([59] : List UInt8)
    · rw [if_pos hs] at h0
      rw [if_pos hs]
      unfold shutF at h0 ⊢
      simp only at h0 ⊢
      by_cases hle : (nums.length : Int) < le
      · rw [if_pos hle] at h0
        exact absurd h0 (by simp)
      · rw [if_neg hle]
        obtain ⟨g1, g2, g3⟩ := mv_well (s := ⟨out, true, kd, le, mo, nums⟩) hn hfn k6 hle k7
        refine ⟨?_, ?_, fun e => (by cases e), fun _ => rfl, fun e => (by cases e), by simp, fun e => (by cases e), ?_⟩
        · intro m hm
          rcases List.mem_append.1 hm with hm | hm
          · exact k1 m hm
          · simp at hm
            rw [hm]; exact g1
        · have := k3 rfl
          simp
          omega
        · show (sceneL (out ++ [mvF _])).length + (if false = true then _ else 0) ≤ _
          rw [if_neg (by decide), sceneL_snoc, List.length_append, moveL_len, g2, g3]
          show _ + ((wordL kd).length + numsLen nums + 3) + 0 ≤ _
          omega
    · rw [if_neg hs] at h0
      rw [if_neg hs]
      rw [numberF_is hB] at h0 ⊢
      by_cases hnn : (numZ p).2 = true ∧ (nums.length : Int) < mo
      · rw [if_pos hnn]
        have hz : numZ p = ((numZ p).1, true) := by rw [← hnn.1]
        obtain ⟨q1, q2⟩ := numZ_back hz
        refine ⟨k1, k2, fun _ => k3 rfl, fun e => (by cases e), fun _ => ⟨n, hn, hfn⟩, ?_, fun _ => ?_, ?_⟩
        · intro x hx
          rcases List.mem_append.1 hx with hx | hx
          · exact k6 x hx
          · simp at hx
            rw [hx]; exact q1
        · show (((nums ++ [(numZ p).1]).length : Nat) : Int) ≤ mo
          simp
          omega
        · show (sceneL out).length + (if true = true then (wordL kd).length + numsLen (nums ++ [(numZ p).1]) else 0) ≤ _
          have : numsLen (nums ++ [(numZ p).1]) = numsLen nums + (1 + p.length) := by
            unfold numsLen
            rw [List.map_append, List.sum_append, List.map_cons, List.map_nil, q2]
            simp
          rw [if_pos rfl, this]
          omega
      · rw [if_neg hnn] at h0
        exact absurd h0 (by simp)
theorem well_go : ∀ (l : List (List Int)) (s t : RS) (C : Nat), Well s C → (∀ p ∈ l, isB p) → goS s l = some t → Well t (C + (l.map fun p => p.length + 3).sum)
  | [], s, t, C, h, _, hg => by
    obtain rfl : s = t := by simpa [goS] using hg
    simpa using h
  | p :: l, s, t, C, h, hB, hg => by
    rw [goS] at hg
    by_cases h0 : (takeF s (strOfNums p)).2 = 0
    · rw [if_pos h0] at hg
      have := well_go l _ t _ (well_take h (hB p (by simp)) h0) (fun q hq => hB q (by simp [hq])) hg
      rw [List.map_cons, List.sum_cons, ← Nat.add_assoc]
      exact this
    · rw [if_neg h0] at hg
      exact absurd hg (by simp)
theorem r0_well : Well r0Z 0 := ⟨by simp [r0Z], by simp [r0Z], by simp [r0Z], by simp [r0Z], by simp [r0Z], by simp [r0Z], by simp [r0Z], by simp [r0Z, sceneL]⟩
def costP (l : List (List Int × Int)) : Nat := (l.map fun q => q.1.length + 3).sum
theorem costP_app (a b : List (List Int × Int)) : costP (a ++ b) = costP a + costP b := by unfold costP; rw [List.map_append, List.sum_append]
theorem costP_end {xs : List Int} {fr : Int} {e : Nat} (hf : fr < 0 ∨ fr.toNat < e) (he : e ≤ xs.length) : costP (endL xs fr e) ≤ 4 * (e - (if fr < 0 then e else fr.toNat)) := by
  unfold endL
  by_cases h : fr < 0
  · rw [if_pos h, if_pos h]
    simp [costP]
  · rw [if_neg h, if_neg h]
    simp [costP]
    omega
theorem costP_pc (xs : List Int) : ∀ (d p : Nat) (rm : Bool) (fr : Int), p ≤ xs.length → xs.length ≤ p + d → (fr < 0 ∨ fr.toNat < p) → costP (pcL xs d p rm fr) ≤ 4 * (xs.length - (if fr < 0 then p else fr.toNat))
  | 0, p, rm, fr, hp, hd, hf => by
    have : p = xs.length := by omega
    subst this
    simp only [pcL]
    exact costP_end hf (Nat.le_refl _)
  | d + 1, p, rm, fr, hp, hd, hf => by
    by_cases h : p < xs.length
    · have ih1 := costP_pc xs d (p + 1) true (-1) h (by omega) (.inl (by omega))
      have ih2 := costP_pc xs d (p + 1) false (-1) h (by omega) (.inl (by omega))
      rw [if_pos (show (-1 : Int) < 0 by omega)] at ih1 ih2
      have he := costP_end (xs := xs) (fr := fr) (e := p) hf hp
      simp only [pcL]
      rw [if_pos h]
      by_cases c0 : rm = true
      · rw [if_pos c0]
        have := costP_pc xs d (p + 1) (gb xs p != 10) fr h (by omega) (by omega)
        split at this <;> split <;> omega
      rw [if_neg c0]
      by_cases c1 : gb xs p = 35
      · rw [if_pos c1, costP_app]
        split at he <;> split <;> omega
      rw [if_neg c1]
      by_cases c2 : gb xs p = 59
      · have e4 : costP (([59], (p : Int)) :: pcL xs d (p + 1) false (-1)) = 4 + costP (pcL xs d (p + 1) false (-1)) := by
          unfold costP
          rw [List.map_cons, List.sum_cons]
          rfl
        rw [if_pos c2, costP_app, e4]
        split at he <;> split <;> omega
      rw [if_neg c2]
      by_cases c3 : gb xs p = 9 ∨ gb xs p = 10 ∨ gb xs p = 13 ∨ gb xs p = 32
      · rw [if_pos c3, costP_app]
        split at he <;> split <;> omega
      rw [if_neg c3]
      have := costP_pc xs d (p + 1) false (if fr < 0 then (p : Int) else fr) h (by omega) (by split <;> omega)
      by_cases hf0 : fr < 0
      · rw [if_pos hf0] at this ⊢
        rw [if_pos hf0]
        rw [if_neg (by omega)] at this
        omega
      · rw [if_neg hf0] at this ⊢
        rw [if_neg hf0]
        rw [if_neg hf0] at this
        exact this
    · have : p = xs.length := by omega
      subst this
      rw [pcL_end _ _ _ _ _ h]
      exact costP_end hf (Nat.le_refl _)
theorem readZ_well {xs : List Int} (hx : isB xs) (h : (readZ xs).2.2 = 0) : (∀ m ∈ (readZ xs).1, goodM m) ∧ (readZ xs).1.length ≤ 1000 ∧ (sceneL (readZ xs).1).length ≤ 4 * xs.length ∧ (readZ xs).2.1 = (xs.length : Int) := by
  obtain ⟨l1, b1, t, r1, o1, e1⟩ := readZ_right h
  have hg := (goS_run (piecesL xs) r0Z t).1 (by rw [r1])
  have hw := well_go _ r0Z t 0 r0_well (by
    intro p hp
    obtain ⟨q, hq, rfl⟩ := List.mem_map.1 hp
    exact pcL_isB hx _ _ _ _ q hq) hg
  have hc := costP_pc xs xs.length 0 false (-1) (Nat.zero_le _) (by omega) (.inl (by omega))
  rw [if_pos (by omega)] at hc
  have hsum : (((piecesL xs).map Prod.fst).map fun p => p.length + 3).sum = costP (piecesL xs) := by
    unfold costP
    rw [List.map_map]
    rfl
  rw [hsum] at hw
  have hw8 := hw.cost
  rw [o1, if_neg (by decide)] at hw8
  rw [e1]
  refine ⟨hw.good, hw.most, ?_, ?_⟩
  · unfold piecesL at hw8
    omega
  · unfold readZ
    rw [if_neg (by omega), if_neg (by omega), r1]
    simp only [finR]
    rw [if_neg (by rw [o1]; decide)]

/-! ### The examples -/
theorem lv1 : scene_Read.f (⟨#[116, 105, 99, 107, 32, 48, 32, 45, 51, 59, 32, 99, 114, 97, 115, 104, 32, 49, 32, 50, 32, 59, 111, 112, 101, 110, 59, 32, 35, 32, 101, 110, 100]⟩ : ByteArray) = some ([(⟨1, 0, (-3), ([] : List Int)⟩ : S34), (⟨2, 0, 0, (([1, 2] : List Int))⟩ : S34), (⟨3, 0, 0, ([] : List Int)⟩ : S34)], 33, 0) := by kernel_rfl
theorem lv2 : scene_Read.f (⟨#[116, 105, 99, 107, 32, 48, 59]⟩ : ByteArray) = some ([], 6, 10) := by kernel_rfl
theorem lv3 : scene_Read.f (⟨#[97, 114, 109, 32, 48, 49, 59]⟩ : ByteArray) = some ([], 4, 10) := by kernel_rfl
theorem lv4 : scene_Number.f (⟨#[45, 49, 50]⟩ : ByteArray) = some (-12, true) := by kernel_rfl
theorem lives_is {k : Nat} (hk : 1100 ≤ k) : argosylaw27_lives.f k = some true := by
  unfold argosylaw27_lives.f
  rw [lv1, Option.bind_some, lv2, Option.bind_some, lv3, Option.bind_some, lv4, Option.bind_some]
  simp only
  rw [Same39_is (by simp) (by intro m hm; simp at hm; rcases hm with rfl | rfl | rfl <;> simp) (by simp; omega), Option.bind_some]
  rfl

theorem few_loop (l : List S34) (hl : l.length ≤ 1100) : ∀ (d i k : Nat), l.length = i + d → d + 1 ≤ k → argosylaw27_few.l0 k l (i : Int) = some (decide (∀ m ∈ l.drop i, m.f3.length ≤ 100))
  | 0, i, k, hd, hk => by
    obtain ⟨k, rfl⟩ : ∃ m, k = m + 1 := ⟨k - 1, by omega⟩
    rw [argosylaw27_few.l0, if_neg (by omega), List.drop_eq_nil_of_le (by omega)]
    simp
  | d + 1, i, k, hd, hk => by
    obtain ⟨k, rfl⟩ : ∃ m, k = m + 1 := ⟨k - 1, by omega⟩
    have hi : i < l.length := by omega
    have hr : rd_T34 l (i : Int) = l[i] := by
      unfold rd_T34
      rw [Int.toNat_natCast, List.getD_eq_getElem?_getD, List.getElem?_eq_getElem hi, Option.getD_some]
    rw [argosylaw27_few.l0, if_pos (by omega), if_pos (by omega), hr, List.drop_eq_getElem_cons hi]
    by_cases h : (l[i].f3.length : Int) > 100
    · rw [if_pos h]
      congr 1
      refine (decide_eq_false fun hc => ?_).symm
      have := hc _ List.mem_cons_self
      omega
    · rw [if_neg h, show wrap64 ((i : Int) + 1) = ((i + 1 : Nat) : Int) from by unfold wrap64; omega, few_loop l hl d (i + 1) k (by omega) (by omega)]
      congr 1
      rw [decide_eq_decide]
      constructor
      · intro hc x hx
        rcases List.mem_cons.1 hx with rfl | hx
        · omega
        · exact hc x hx
      · intro hc x hx
        exact hc x (List.mem_cons_of_mem _ hx)
theorem few_is (l : List S34) {k : Nat} (hk : 1200 ≤ k) : argosylaw27_few.f k l = some (decide (l.length ≤ 1100 ∧ ∀ m ∈ l, m.f3.length ≤ 100)) := by
  unfold argosylaw27_few.f
  by_cases h : l.length ≤ 1100
  · rw [if_neg (by omega)]
    have := few_loop l h l.length 0 k (by omega) (by omega)
    rw [show ((0 : Nat) : Int) = 0 from rfl, List.drop_zero] at this
    rw [this]
    simp [h]
  · rw [if_pos (by omega)]
    congr 1
    exact (decide_eq_false fun hc => h hc.1).symm
theorem good_l3 {m : S34} (h : goodM m) : m.f3.length ≤ 70 := by
  obtain ⟨f1, f2, f3, f4, f5, f6⟩ := good_facts h
  by_cases hk : m.f0 = 2
  · have : numsM m = m.f3 := by
      unfold numsM numsF
      rw [hk]
      rfl
    rw [this] at f2
    exact f2
  · rw [f4 hk]
    simp
theorem readZ_at {xs : List Int} (h : ¬ (readZ xs).2.2 = 0) : (readZ xs).1 = [] ∧ 0 ≤ (readZ xs).2.1 ∧ (readZ xs).2.1 ≤ (xs.length : Int) := by
  unfold readZ at h ⊢
  by_cases h1 : (xs.length : Int) > 65536
  · rw [if_pos h1]; exact ⟨rfl, by simp, by show (0 : Int) ≤ (xs.length : Int); omega⟩
  rw [if_neg h1] at h ⊢
  by_cases h2 : badL xs xs.length 0 ≥ 0
  · rw [if_pos h2]
    rcases badL_range xs xs.length 0 with hb | hb
    · omega
    · exact ⟨rfl, h2, by show badL xs xs.length 0 ≤ _; omega⟩
  rw [if_neg h2] at h ⊢
  rcases run_two (mapP (piecesL xs)) r0Z with ⟨t, ht⟩ | ⟨t, p, e, hp, he, ht⟩
  · rw [ht] at h ⊢
    simp only [finR] at h ⊢
    by_cases ho : t.op = true
    · rw [if_pos ho]; exact ⟨rfl, by simp, Int.le_refl _⟩
    · rw [if_neg ho] at h
      exact absurd rfl h
  · obtain ⟨q, hq, hqp⟩ := mapP_mem hp
    have ha := pcL_from xs 0 _ _ _ _ (Nat.le_refl _) (.inl (by omega)) q hq
    have hb := pcL_below xs _ _ _ _ (by omega) q hq
    rw [ht]
    simp only [finR]
    exact ⟨by simp, by omega, by omega⟩
theorem scene_isB (l : List S34) : isB (sceneL l) := fun c hc => by
  have := scene_ascii l c hc
  omega
theorem SceneBack : argosylaw27_SceneBack.Pure := by
  intro l a hm hs ha
  refine ⟨100000, ?_⟩
  obtain ⟨k, hk⟩ : ∃ k : Nat, k = 99997 := ⟨_, rfl⟩
  rw [show 100000 = k + 3 by omega]
  unfold argosylaw27_SceneBack.f
  rw [few_is l (by omega), Option.bind_some]
  have key1 : argosylaw27_SceneBack.j0 (k + 3) l a true = some true := by
    rw [show k + 3 = (k + 2) + 1 from rfl, argosylaw27_SceneBack.j0, if_pos rfl, lives_is (by omega), Option.bind_some]
  by_cases hf : l.length ≤ 1100 ∧ ∀ m ∈ l, m.f3.length ≤ 100
  · rw [if_pos (decide_eq_true hf)]
    by_cases h5 : (a.size : Int) > 5000
    · rw [decide_eq_true h5]; exact key1
    rw [decide_eq_false h5, show k + 3 = (k + 2) + 1 from rfl, argosylaw27_SceneBack.j0, if_neg (by decide), Print_is l (by omega), Option.bind_some]
    obtain ⟨xs, hxs⟩ : ∃ xs, xs = bytesOf a := ⟨_, rfl⟩
    have hx : isB xs := hxs ▸ bytesOf_isB a
    have hae : a = strOfNums xs := by rw [hxs, son_bytesOf]
    rw [hae, son_size] at h5
    have key2 : argosylaw27_SceneBack.j2 (k + 1) a = some true := by
      rw [argosylaw27_SceneBack.j2, hae, Read_is hx, Option.bind_some, lives_is (by omega), Option.bind_some]
      by_cases hc : (readZ xs).2.2 = 0
      · obtain ⟨w1, w2, w3, w4⟩ := readZ_well hx hc
        have hr2 := readZ_scene (readZ xs).1 w1 w2 (by omega)
        rw [if_pos hc, Print_is (readZ xs).1 (by omega), Option.bind_some, if_pos w2, if_pos w1]
        simp only
        rw [Read_is (scene_isB _), Option.bind_some, son_size, son_size, if_pos w4, if_pos trivial, hr2]
        simp only
        rw [Same39_is (by omega) (fun m hm => Nat.le_trans (good_l3 (w1 m hm)) (by omega)) (by omega), Option.bind_some, if_pos rfl, if_pos trivial, if_pos trivial]
      · obtain ⟨q1, q2, q3⟩ := readZ_at hc
        rw [if_neg hc, q1, if_pos (by simp), if_pos q2, son_size, if_pos q3]
    by_cases h1 : l.length ≤ 1000
    · rw [if_pos h1]
      by_cases h2 : ∀ m ∈ l, goodM m
      · rw [if_pos h2]
        simp only
        rw [if_pos trivial, son_size]
        by_cases h3 : ((sceneL l).length : Int) ≤ 65536
        · have hr := readZ_scene l h2 h1 (by omega)
          rw [decide_eq_true h3, show k + 2 = (k + 1) + 1 from rfl, argosylaw27_SceneBack.j1, if_pos rfl, Read_is (scene_isB _), Option.bind_some, hr]
          simp only
          rw [Same39_is (by omega) (fun m hm => Nat.le_trans (good_l3 (h2 m hm)) (by omega)) (by omega), Option.bind_some, if_pos rfl, son_size, if_pos trivial, if_pos rfl]
          exact key2
        · rw [decide_eq_false h3, show k + 2 = (k + 1) + 1 from rfl, argosylaw27_SceneBack.j1, if_neg (by decide)]
          exact key2
      · rw [if_neg h2]
        simp only
        rw [if_neg (by decide), show k + 2 = (k + 1) + 1 from rfl, argosylaw27_SceneBack.j1, if_neg (by decide)]
        exact key2
    · rw [if_neg h1]
      simp only
      rw [if_neg (by decide), show k + 2 = (k + 1) + 1 from rfl, argosylaw27_SceneBack.j1, if_neg (by decide)]
      exact key2
  · rw [if_neg (by simpa using hf)]
    exact key1

end Go.Proofs.YtfmbdmkiamedeaaDoor.Pure
