/- A text's runes, its first broken place and its cuts are those that the document tells. -/
import Derived.Test.YtmjbpcoopbihhaaPGlyphRunesx5
import Derived.Lib.TrimUEq
set_option linter.unusedVariables false
set_option linter.unusedSimpArgs false
namespace Go.Proofs.Ytmjbpcoopbihhaa.Pure
open Go.RowKit Go.Proofs.Ytmjbpcoopbihhaa.PGlyphRunes Go.Proofs.YtmjbpcoopbihhaaW.PrintWords Go.Proofs.YtmjbpcoopbihhaaW.PrintLast Go.Proofs.YtmjbpcoopbihhaaW.PrintMore

/-! ### Bytes -/
def isB (l : List Int) : Prop := ∀ x ∈ l, 0 ≤ x ∧ x < 256
theorem isB_of_wf {l : List Int} (h : ∀ x ∈ l, (Lit.int .u8 x).wf = true) : isB l := by
  intro x hx
  have := h x hx
  simp [Lit.wf, IntKind.min, IntKind.max, IntKind.bits, IntKind.signed] at this
  omega
theorem i64_of_wf {x : Int} (h : (Lit.int .i64 x).wf = true) : -9223372036854775808 ≤ x ∧ x ≤ 9223372036854775807 := by
  simp [Lit.wf, IntKind.min, IntKind.max, IntKind.bits, IntKind.signed] at h
  omega
theorem toList_loop (s : ByteArray) : ∀ (d i : Nat) (r : List UInt8), s.size - i = d → ByteArray.toList.loop s i r = r.reverse ++ s.data.toList.drop i := by
  intro d
  have hl : s.data.toList.length = s.size := Array.length_toList
  induction d with
  | zero =>
    intro i r h
    unfold ByteArray.toList.loop
    rw [if_neg (by omega), List.drop_eq_nil_of_le (by omega), List.append_nil]
  | succ d ih =>
    intro i r h
    unfold ByteArray.toList.loop
    rw [if_pos (by omega), ih (i + 1) _ (by omega)]
    have hi : i < s.data.toList.length := by omega
    rw [List.drop_eq_getElem_cons hi, List.reverse_cons, List.append_assoc]
    have : s.get! i = s.data.toList[i] := by
      have hs : i < s.size := by omega
      simp [ByteArray.get!, getElem!_pos, hs]
    rw [this]; rfl
theorem bytes_toList (s : ByteArray) : s.toList = s.data.toList := by
  unfold ByteArray.toList
  rw [toList_loop s _ 0 [] rfl]
  simp
theorem bytes_ext {a b : ByteArray} (h : a.toList = b.toList) : a = b := by
  rw [bytes_toList, bytes_toList] at h
  cases a; cases b
  congr 1
  exact Array.toList_inj.1 h
theorem son_data (xs : List Int) : (strOfNums xs).data.toList = xs.map fun n => UInt8.ofNat n.toNat := by simp [strOfNums]
theorem son_size (xs : List Int) : (strOfNums xs).size = xs.length := by simp [strOfNums, ByteArray.size]
theorem son_append (xs ys : List Int) : strOfNums (xs ++ ys) = strOfNums xs ++ strOfNums ys := by
  apply bytes_ext
  rw [bytes_toList, bytes_toList, son_data]
  simp [strOfNums]
theorem son_nil : strOfNums [] = (⟨#[]⟩ : ByteArray) := rfl
theorem u8_inj {a b : Int} (ha : 0 ≤ a ∧ a < 256) (hb : 0 ≤ b ∧ b < 256) (h : UInt8.ofNat a.toNat = UInt8.ofNat b.toNat) : a = b := by
  have := congrArg UInt8.toNat h
  simp [UInt8.toNat_ofNat'] at this
  omega
theorem map_u8_inj : ∀ {xs ys : List Int}, isB xs → isB ys → (xs.map fun n => UInt8.ofNat n.toNat) = (ys.map fun n => UInt8.ofNat n.toNat) → xs = ys
  | [], [], _, _, _ => rfl
  | [], y :: ys, _, _, h => by simp at h
  | x :: xs, [], _, _, h => by simp at h
  | x :: xs, y :: ys, hx, hy, h => by
    simp only [List.map_cons, List.cons.injEq] at h
    rw [u8_inj (hx x (by simp)) (hy y (by simp)) h.1, map_u8_inj (fun z hz => hx z (by simp [hz])) (fun z hz => hy z (by simp [hz])) h.2]
theorem son_inj {xs ys : List Int} (hx : isB xs) (hy : isB ys) (h : strOfNums xs = strOfNums ys) : xs = ys := by
  have := congrArg (fun s : ByteArray => s.data.toList) h
  simp only [son_data] at this
  exact map_u8_inj hx hy this
theorem son_toList_inj {xs ys : List Int} (hx : isB xs) (hy : isB ys) : (strOfNums xs).toList = (strOfNums ys).toList ↔ xs = ys :=
  ⟨fun h => son_inj hx hy (bytes_ext h), fun h => by rw [h]⟩
theorem son_bt {xs : List Int} (hx : isB xs) (i : Int) (h0 : 0 ≤ i) (h : i < xs.length) : bt (strOfNums xs) i = rd xs i := by
  have hi : i.toNat < xs.length := by omega
  unfold bt rd
  rw [dif_pos (by rw [son_size]; exact hi)]
  have hg : (strOfNums xs)[i.toNat]'(by rw [son_size]; exact hi) = UInt8.ofNat (xs[i.toNat]).toNat := by
    show (strOfNums xs).data[i.toNat]'_ = _
    simp [strOfNums]
  rw [hg, List.getD_eq_getElem?_getD, List.getElem?_eq_getElem hi]
  have := hx _ (List.getElem_mem hi)
  simp [UInt8.toNat_ofNat']
  omega
theorem son_extract (xs : List Int) (a b : Nat) : (strOfNums xs).extract a b = strOfNums ((xs.take b).drop a) := by
  apply bytes_ext
  rw [bytes_toList, bytes_toList, son_data]
  simp [strOfNums, ByteArray.data_extract, List.drop_take, List.map_take, List.map_drop, List.extract]
theorem isB_append {xs ys : List Int} (hx : isB xs) (hy : isB ys) : isB (xs ++ ys) := by
  intro z hz
  rcases List.mem_append.1 hz with h | h
  · exact hx z h
  · exact hy z h
theorem isB_take {xs : List Int} (h : isB xs) (n : Nat) : isB (xs.take n) := fun z hz => h z (List.mem_of_mem_take hz)
theorem isB_drop {xs : List Int} (h : isB xs) (n : Nat) : isB (xs.drop n) := fun z hz => h z (List.mem_of_mem_drop hz)
theorem rd_at {xs : List Int} (i : Int) (h0 : 0 ≤ i) (h : i < xs.length) : rd xs i = xs[i.toNat]'(by omega) := by
  unfold rd
  rw [List.getD_eq_getElem?_getD, List.getElem?_eq_getElem (by omega)]; rfl
theorem rd_isB {xs : List Int} (hx : isB xs) (i : Int) (h0 : 0 ≤ i) (h : i < xs.length) : 0 ≤ rd xs i ∧ rd xs i < 256 := by
  rw [rd_at i h0 h]
  exact hx _ (List.getElem_mem _)
theorem w64 {x : Int} (h : -9223372036854775808 ≤ x ∧ x ≤ 9223372036854775807) : wrap64 x = x := by
  unfold wrap64
  omega

/-! ### A string's bytes -/
theorem bytesOf_isB (s : ByteArray) : isB (bytesOf s) := by
  intro x hx
  unfold bytesOf at hx
  obtain ⟨b, _, rfl⟩ := List.mem_map.1 hx
  have := b.toNat_lt
  omega
theorem son_bytesOf (s : ByteArray) : strOfNums (bytesOf s) = s := by
  apply bytes_ext
  rw [bytes_toList, bytes_toList, son_data, bytesOf, List.map_map]
  have : ((fun n : Int => UInt8.ofNat n.toNat) ∘ fun b : UInt8 => (b.toNat : Int)) = id := by
    funext b
    simp
  rw [this, List.map_id]

/-! ### Numbers alike -/
theorem Same_loop (a b : List Int) (hl : a.length = b.length) (ha : a.length ≤ 1152921504606846976) : ∀ (d k i : Nat), i + d = a.length → d < k → argosyref01_Same.l0 k a b (i : Int) = some (decide (a.drop i = b.drop i)) := by
  intro d
  induction d with
  | zero =>
    intro k i hi hk
    obtain ⟨k, rfl⟩ : ∃ m, k = m + 1 := ⟨k - 1, by omega⟩
    simp only [argosyref01_Same.l0]
    rw [if_neg (by omega), List.drop_eq_nil_of_le (by omega), List.drop_eq_nil_of_le (by omega)]
    simp
  | succ d ih =>
    intro k i hi hk
    obtain ⟨k, rfl⟩ : ∃ m, k = m + 1 := ⟨k - 1, by omega⟩
    simp only [argosyref01_Same.l0]
    have h1 : i < a.length := by omega
    have h2 : i < b.length := by omega
    have hra : rd a (i : Int) = a[i] := by rw [rd_at _ (by omega) (by omega)]; rfl
    have hrb : rd b (i : Int) = b[i] := by rw [rd_at _ (by omega) (by omega)]; rfl
    rw [if_pos (by omega), if_pos (by omega), if_pos (by omega), hra, hrb, List.drop_eq_getElem_cons h1, List.drop_eq_getElem_cons h2]
    by_cases h : a[i] = b[i]
    · rw [if_pos h, w64 (by omega), show ((i : Int) + 1) = ((i + 1 : Nat) : Int) from by omega, ih k (i + 1) (by omega) (by omega)]
      rw [h]
      congr 1
      rw [decide_eq_decide]
      simp only [List.cons.injEq, true_and]
    · rw [if_neg h, decide_eq_false]
      simp only [List.cons.injEq]
      exact fun hc => h hc.1
theorem Same_is {k : Nat} {a b : List Int} (ha : a.length ≤ 1152921504606846976) (hk : a.length < k) : argosyref01_Same.f k a b = some (decide (a = b)) := by
  unfold argosyref01_Same.f
  by_cases hl : a.length = b.length
  · rw [if_pos (by omega)]
    have := Same_loop a b hl ha a.length k 0 (by omega) hk
    simpa using this
  · rw [if_neg (by omega)]
    have : a ≠ b := fun h => hl (by rw [h])
    simp [this]

/-! ### The width of a rune -/
def vrune (x : Int) : Prop := 0 ≤ x ∧ x ≤ 1114111 ∧ (x < 55296 ∨ 57343 < x)
instance (x : Int) : Decidable (vrune x) := by unfold vrune; infer_instance
def widG (x : Int) : Int := if vrune x then (if x < 128 then 1 else if x < 2048 then 2 else if x < 65536 then 3 else 4) else 0
theorem widG_bad {x : Int} (h : ¬ vrune x) : widG x = 0 := if_neg h
theorem widG_ok {x : Int} (h : vrune x) : widG x = (if x < 128 then 1 else if x < 2048 then 2 else if x < 65536 then 3 else 4) := if_pos h
theorem widG_zero (x : Int) : widG x = 0 ↔ ¬ vrune x := by
  constructor
  · intro h hv
    rw [widG_ok hv] at h
    split at h
    · omega
    · split at h
      · omega
      · split at h <;> omega
  · exact widG_bad
theorem RuneLen_is {k : Nat} (hk : 1 ≤ k) {x : Int} (h0 : 0 ≤ x) (h1 : x ≤ 1114111) : (utf8_RuneLen.f k x).bind (fun t => some (mx 0 t)) = some (widG x) := by
  obtain ⟨k, rfl⟩ : ∃ m, k = m + 1 := ⟨k - 1, by omega⟩
  unfold utf8_RuneLen.f
  have hmx : ∀ n : Int, 0 ≤ n → mx 0 n = n := fun n hn => by unfold mx; omega
  rw [if_neg (by omega)]
  by_cases a : x ≤ 127
  · rw [if_pos a, Option.bind_some, hmx 1 (by omega), widG_ok (by unfold vrune; omega), if_pos (by omega)]
  rw [if_neg a]
  by_cases b : x ≤ 2047
  · rw [if_pos b, Option.bind_some, hmx 2 (by omega), widG_ok (by unfold vrune; omega), if_neg (by omega), if_pos (by omega)]
  rw [if_neg b]
  by_cases c : 55296 ≤ x
  · rw [if_pos c]
    simp only [utf8_RuneLen.j0]
    by_cases d : x ≤ 57343
    · rw [if_pos (decide_eq_true d), Option.bind_some, widG_bad (by unfold vrune; omega)]
      rfl
    · rw [if_neg (by simpa using d)]
      by_cases e : x ≤ 65535
      · rw [if_pos e, Option.bind_some, hmx 3 (by omega), widG_ok (by unfold vrune; omega), if_neg (by omega), if_neg (by omega), if_pos (by omega)]
      · rw [if_neg e, if_pos h1, Option.bind_some, hmx 4 (by omega), widG_ok (by unfold vrune; omega), if_neg (by omega), if_neg (by omega), if_neg (by omega)]
  · rw [if_neg c]
    simp only [utf8_RuneLen.j0]
    rw [if_neg (by decide), if_pos (by omega), Option.bind_some, hmx 3 (by omega), widG_ok (by unfold vrune; omega), if_neg (by omega), if_neg (by omega), if_pos (by omega)]
theorem Width_is {k : Nat} (hk : 1 ≤ k) (x : Int) : glyph_Width.f k x = some (widG x) := by
  unfold glyph_Width.f
  by_cases a : x < 0
  · rw [if_pos a, widG_bad (by unfold vrune; omega)]
  rw [if_neg a]
  by_cases b : x > 1114111
  · rw [if_pos b, widG_bad (by unfold vrune; omega)]
  rw [if_neg b, show wrap32 x = x from by unfold wrap32; omega]
  exact RuneLen_is hk (by omega) (by omega)

/-! ### The reference's width -/
theorem rIs_is (x : Int) : argosyref01_Is.f x = some (decide (vrune x)) := by
  unfold argosyref01_Is.f
  by_cases a : x ≥ 0
  · rw [if_pos a]
    by_cases b : x ≤ 1114111
    · rw [if_pos b]
      by_cases c : x < 55296
      · rw [if_pos c, decide_eq_true (show vrune x from ⟨a, b, .inl c⟩)]
      · rw [if_neg c]
        congr 1
        rw [decide_eq_decide]
        unfold vrune
        omega
    · rw [if_neg b, decide_eq_false (show ¬ vrune x from fun h => b h.2.1)]
  · rw [if_neg a, decide_eq_false (show ¬ vrune x from fun h => a h.1)]
theorem rWidth_is (x : Int) : argosyref01_Width.f x = some (widG x) := by
  unfold argosyref01_Width.f
  rw [rIs_is, Option.bind_some]
  by_cases h : vrune x
  · rw [if_pos (decide_eq_true h), widG_ok h]
    split
    · rfl
    · split
      · rfl
      · split <;> rfl
  · rw [if_neg (by simpa using h), widG_bad h]

/-! ### It is alive -/
theorem lv_runes : glyph_Runes.f (⟨#[97, 195, 169, 226, 130, 172]⟩ : ByteArray) = some ([97, 233, 8364], 0) := by decide +kernel
theorem lv_cut : glyph_Cut.f (⟨#[97, 195, 169, 98]⟩ : ByteArray) 2 = some (⟨#[97, 195, 169]⟩, ⟨#[98]⟩) := by decide +kernel
theorem lv_bad : glyph_Bad.f (⟨#[97, 195]⟩ : ByteArray) = some 1 := by decide +kernel
theorem lv_text {k : Nat} (hk : 3 ≤ k) : glyph_Text.f k [55296] = some (⟨#[]⟩, 2) := by
  obtain ⟨k, rfl⟩ : ∃ m, k = m + 1 := ⟨k - 1, by omega⟩
  unfold glyph_Text.f
  simp only [glyph_Text.l0]
  rw [if_pos (by decide), if_pos (by decide), if_pos (by decide), Width_is (by omega)]
  rfl
theorem lv_class {k : Nat} (hk : 3 ≤ k) : glyph_Class.f k 233 = some 1 := by
  unfold glyph_Class.f
  rw [Width_is (by omega)]
  rfl
theorem lives_is {k : Nat} (hk : 10 ≤ k) : argosylaw01_lives.f k = some true := by
  unfold argosylaw01_lives.f
  rw [lv_runes, Option.bind_some, lv_text (by omega), Option.bind_some, lv_cut, Option.bind_some, Same_is (by simp) (by simp; omega), Option.bind_some, if_pos (by decide), if_pos rfl, if_pos rfl, lv_bad, Option.bind_some, if_pos rfl, lv_class (by omega), Option.bind_some, if_pos rfl]
  rw [bytes_toList, bytes_toList, if_pos rfl]
  rfl

/-! ### A rune's bytes, and what a range over a text reads -/
open Go.Lib (decodeN)
theorem dN_pos (n b0 b1 b2 b3 : Nat) : 1 ≤ (decodeN n b0 b1 b2 b3).2 := by
  unfold decodeN
  repeat' split
  all_goals simp
theorem dN_le (n b0 b1 b2 b3 : Nat) (hn : 1 ≤ n) : (decodeN n b0 b1 b2 b3).2 ≤ n := by
  unfold decodeN
  repeat' split
  all_goals (simp only; omega)
def badN (n b0 b1 b2 b3 : Nat) : Prop := decodeN n b0 b1 b2 b3 = (65533, 1)
instance (n b0 b1 b2 b3 : Nat) : Decidable (badN n b0 b1 b2 b3) := by unfold badN; infer_instance
theorem dN_good (n b0 b1 b2 b3 : Nat) (h0 : b0 < 256) (h : ¬ badN n b0 b1 b2 b3) : vrune ((decodeN n b0 b1 b2 b3).1 : Int) ∧ widG ((decodeN n b0 b1 b2 b3).1 : Int) = ((decodeN n b0 b1 b2 b3).2 : Int) := by
  have key : ∀ (r w : Nat), vrune (r : Int) → (if (r : Int) < 128 then (1 : Int) else if (r : Int) < 2048 then 2 else if (r : Int) < 65536 then 3 else 4) = (w : Int) → vrune (((r, w) : Nat × Nat).1 : Int) ∧ widG (((r, w) : Nat × Nat).1 : Int) = (((r, w) : Nat × Nat).2 : Int) := fun r w h1 h2 => ⟨h1, by rw [widG_ok h1]; exact h2⟩
  unfold badN at h
  revert h
  unfold decodeN
  by_cases c0 : b0 < 128
  · rw [if_pos c0]
    exact fun _ => key _ _ (by unfold vrune; omega) (by rw [if_pos (by omega)]; rfl)
  rw [if_neg c0]
  by_cases c1 : b0 / 32 = 6 ∧ (1 < n ∧ b1 / 64 = 2)
  · rw [if_pos c1]
    by_cases c2 : b0 % 32 * 64 + b1 % 64 ≥ 128
    · rw [if_pos c2]
      exact fun _ => key _ _ (by unfold vrune; omega) (by rw [if_neg (by omega), if_pos (by omega)]; rfl)
    · rw [if_neg c2]; exact fun h => absurd rfl h
  rw [if_neg c1]
  by_cases c2 : b0 / 16 = 14 ∧ (1 < n ∧ b1 / 64 = 2) ∧ (2 < n ∧ b2 / 64 = 2)
  · rw [if_pos c2]
    split
    · rename_i c3
      exact fun _ => key _ _ (by unfold vrune; omega) (by rw [if_neg (by omega), if_neg (by omega), if_pos (by omega)]; rfl)
    · exact fun h => absurd rfl h
  rw [if_neg c2]
  by_cases c3 : b0 / 8 = 30 ∧ (1 < n ∧ b1 / 64 = 2) ∧ (2 < n ∧ b2 / 64 = 2) ∧ (3 < n ∧ b3 / 64 = 2)
  · rw [if_pos c3]
    split
    · rename_i c4
      exact fun _ => key _ _ (by unfold vrune; omega) (by rw [if_neg (by omega), if_neg (by omega), if_neg (by omega)]; rfl)
    · exact fun h => absurd rfl h
  rw [if_neg c3]
  exact fun h => absurd rfl h
theorem dN_fffd (n b0 b1 b2 b3 : Nat) (h0 : b0 < 256) (h1 : b1 < 256) (h2 : b2 < 256) (h3 : b3 < 256) (h : (decodeN n b0 b1 b2 b3).1 = 65533) : ¬ badN n b0 b1 b2 b3 ↔ (3 ≤ n ∧ b0 = 239 ∧ b1 = 191 ∧ b2 = 189) := by
  have key : ∀ (r w : Nat), (((r, w) : Nat × Nat)).1 = 65533 → (¬ ((r, w) : Nat × Nat) = (65533, 1) ↔ w ≠ 1) := fun r w h => by
    simp only at h
    subst h
    simp
  unfold badN
  revert h
  unfold decodeN
  by_cases c0 : b0 < 128
  · rw [if_pos c0]; intro h; rw [key _ _ h]; simp only at h; omega
  rw [if_neg c0]
  by_cases c1 : b0 / 32 = 6 ∧ (1 < n ∧ b1 / 64 = 2)
  · rw [if_pos c1]
    by_cases c2 : b0 % 32 * 64 + b1 % 64 ≥ 128
    · rw [if_pos c2]; intro h; rw [key _ _ h]; simp only at h; omega
    · rw [if_neg c2]; intro h; rw [key _ _ h]; omega
  rw [if_neg c1]
  by_cases c2 : b0 / 16 = 14 ∧ (1 < n ∧ b1 / 64 = 2) ∧ (2 < n ∧ b2 / 64 = 2)
  · rw [if_pos c2]
    split
    · rename_i c3; intro h; rw [key _ _ h]; simp only at h; omega
    · rename_i c3; intro h; rw [key _ _ h]; omega
  rw [if_neg c2]
  by_cases c3 : b0 / 8 = 30 ∧ (1 < n ∧ b1 / 64 = 2) ∧ (2 < n ∧ b2 / 64 = 2) ∧ (3 < n ∧ b3 / 64 = 2)
  · rw [if_pos c3]
    split
    · rename_i c4; intro h; rw [key _ _ h]; simp only at h; omega
    · rename_i c4; intro h; rw [key _ _ h]; omega
  rw [if_neg c3]
  intro h; rw [key _ _ h]; omega
/-- Byte i of a row, 0 beyond its end. -/
def gb (xs : List Int) (i : Nat) : Nat := (xs.getD i 0).toNat
theorem gb_lt {xs : List Int} (hx : isB xs) (i : Nat) : gb xs i < 256 := by
  unfold gb
  rw [List.getD_eq_getElem?_getD]
  by_cases h : i < xs.length
  · rw [List.getElem?_eq_getElem h]
    have := hx _ (List.getElem_mem h)
    simp only [Option.getD_some]
    omega
  · rw [List.getElem?_eq_none (by omega)]
    simp
theorem gb_drop (xs : List Int) (p i : Nat) : gb (xs.drop p) i = gb xs (p + i) := by
  unfold gb
  simp [List.getD_eq_getElem?_getD, List.getElem?_drop]
theorem dec_at {xs : List Int} (hx : isB xs) (p : Nat) : Utf8.decode (strOfNums xs) p = decodeN (xs.length - p) (gb xs p) (gb xs (p + 1)) (gb xs (p + 2)) (gb xs (p + 3)) := by
  rw [Go.Lib.decode_N, son_data, List.length_map]
  have : ∀ i : Nat, ((xs.map fun n => UInt8.ofNat n.toNat).getD i 0).toNat = gb xs i := by
    intro i
    have hl := gb_lt hx i
    have key : ∀ o : Option Int, (o.getD 0).toNat < 256 → ((o.map fun n => UInt8.ofNat n.toNat).getD 0).toNat = (o.getD 0).toNat := by
      intro o ho
      cases o with
      | none => rfl
      | some v =>
        simp only [Option.map_some, Option.getD_some, UInt8.toNat_ofNat'] at ho ⊢
        omega
    unfold gb at hl ⊢
    rw [List.getD_eq_getElem?_getD] at hl
    rw [List.getD_eq_getElem?_getD, List.getD_eq_getElem?_getD, List.getElem?_map]
    exact key _ hl
  rw [this, this, this, this]
/-- What stands at place p: nothing to be read (a broken byte). -/
def badAt (xs : List Int) (p : Nat) : Prop := badN (xs.length - p) (gb xs p) (gb xs (p + 1)) (gb xs (p + 2)) (gb xs (p + 3))
instance (xs : List Int) (p : Nat) : Decidable (badAt xs p) := by unfold badAt; infer_instance
def runeAt (xs : List Int) (p : Nat) : Int := ((decodeN (xs.length - p) (gb xs p) (gb xs (p + 1)) (gb xs (p + 2)) (gb xs (p + 3))).1 : Int)
def widAt (xs : List Int) (p : Nat) : Nat := (decodeN (xs.length - p) (gb xs p) (gb xs (p + 1)) (gb xs (p + 2)) (gb xs (p + 3))).2
theorem widAt_pos (xs : List Int) (p : Nat) : 1 ≤ widAt xs p := dN_pos _ _ _ _ _
theorem widAt_le (xs : List Int) (p : Nat) (h : p < xs.length) : p + widAt xs p ≤ xs.length := by
  have := dN_le (xs.length - p) (gb xs p) (gb xs (p + 1)) (gb xs (p + 2)) (gb xs (p + 3)) (by omega)
  unfold widAt
  omega
theorem good_at {xs : List Int} (hx : isB xs) {p : Nat} (h : ¬ badAt xs p) : vrune (runeAt xs p) ∧ widG (runeAt xs p) = (widAt xs p : Int) := dN_good _ _ _ _ _ (gb_lt hx _) h
theorem dec_rune {xs : List Int} (hx : isB xs) (p : Nat) : (((Utf8.decode (strOfNums xs) p).1 : Nat) : Int) = runeAt xs p := by rw [dec_at hx]; rfl
theorem dec_wid {xs : List Int} (hx : isB xs) (p : Nat) : (Utf8.decode (strOfNums xs) p).2 = widAt xs p := by rw [dec_at hx]; rfl
theorem take3 (xs : List Int) (p : Nat) : ((xs.drop p).take 3 = [239, 191, 189]) ↔ (3 ≤ xs.length - p ∧ xs.getD p 0 = 239 ∧ xs.getD (p + 1) 0 = 191 ∧ xs.getD (p + 2) 0 = 189) := by
  have e : ∀ i, xs.getD (p + i) 0 = (xs.drop p).getD i 0 := fun i => by simp [List.getD_eq_getElem?_getD, List.getElem?_drop]
  have hl : (xs.drop p).length = xs.length - p := by simp
  have e0 := e 0
  rw [Nat.add_zero] at e0
  rw [e0, e 1, e 2, ← hl]
  generalize xs.drop p = ys
  rcases ys with _ | ⟨a, _ | ⟨b, _ | ⟨c, ys⟩⟩⟩ <;> simp
theorem brk_at {xs : List Int} (hx : isB xs) (p : Nat) (hp : p ≤ xs.length) (r : Nat) (hr : (r : Int) = runeAt xs p) : brk (strOfNums xs) (p, r) = decide (badAt xs p) := by
  unfold brk glyph_broken.f
  simp only
  by_cases h : (r : Int) = 65533
  · have hk := dN_fffd (xs.length - p) (gb xs p) (gb xs (p + 1)) (gb xs (p + 2)) (gb xs (p + 3)) (gb_lt hx _) (gb_lt hx _) (gb_lt hx _) (gb_lt hx _) (by have := hr.symm.trans h; unfold runeAt at this; omega)
    have hsz := son_size xs
    rw [if_pos h, if_pos (by omega), if_pos (by omega), Int.toNat_natCast, son_extract, hsz, List.take_length]
    have e3 : (⟨#[239, 191, 189]⟩ : ByteArray) = strOfNums [239, 191, 189] := rfl
    have hs3 : (strOfNums [239, 191, 189]).size = 3 := rfl
    have i3 : isB [239, 191, 189] := by intro x hx; simp at hx; omega
    have hgb : ∀ i v, v < 256 → 0 ≤ v → (gb xs i = v.toNat ↔ (xs.getD i 0) = v) := by
      intro i v h1 h2
      unfold gb
      by_cases hi : i < xs.length
      · rw [List.getD_eq_getElem?_getD, List.getElem?_eq_getElem hi]
        have := hx _ (List.getElem_mem hi)
        simp only [Option.getD_some]
        omega
      · rw [List.getD_eq_getElem?_getD, List.getElem?_eq_none (by omega)]
        simp only [Option.getD_none]
        omega
    have hz : (strOfNums (xs.drop p)).size = xs.length - p := by rw [son_size]; simp
    have ht := take3 xs p
    rw [← hgb p 239 (by omega) (by omega), ← hgb (p + 1) 191 (by omega) (by omega), ← hgb (p + 2) 189 (by omega) (by omega)] at ht
    have hall := hk.trans ht.symm
    unfold strings_HasPrefix.f stringslite_HasPrefix.f
    rw [e3, hs3, hz]
    by_cases hc : ((xs.length - p : Nat) : Int) ≥ ((3 : Nat) : Int)
    · rw [if_pos hc, if_pos (by omega), if_pos (by omega), Int.toNat_natCast, son_extract]
      simp only [Option.bind_some, Option.getD_some, List.drop_zero]
      rw [Bool.eq_iff_iff, Bool.not_eq_true', beq_eq_false_iff_ne, decide_eq_true_iff, Ne, son_toList_inj (isB_take (isB_drop hx _) _) i3, ← hall, Decidable.not_not]
      rfl
    · rw [if_neg hc]
      simp only [Option.bind_some, Option.getD_some, Bool.not_false]
      rw [eq_comm, decide_eq_true_iff]
      refine Decidable.of_not_not fun hb => ?_
      have := (hk.1 hb).1
      omega
  · rw [if_neg h, Option.getD_some, eq_comm, decide_eq_false_iff_not]
    intro hb
    refine h (hr.trans ?_)
    unfold badAt badN at hb
    unfold runeAt
    rw [hb]
    rfl

/-! ### The reference's bytes of one rune -/
def encL (x : Int) : List Int := if x < 128 then [x] else if x < 2048 then [192 + x / 64, 128 + x % 64] else if x < 65536 then [224 + x / 4096, 128 + x / 64 % 64, 128 + x % 64] else [240 + x / 262144, 128 + x / 4096 % 64, 128 + x / 64 % 64, 128 + x % 64]
theorem encL_isB {x : Int} (h : vrune x) : isB (encL x) := by
  unfold vrune at h
  unfold encL
  split
  · intro z hz; simp only [List.mem_singleton] at hz; omega
  · split
    · intro z hz; simp only [List.mem_cons, List.not_mem_nil, or_false] at hz; omega
    · split
      · intro z hz; simp only [List.mem_cons, List.not_mem_nil, or_false] at hz; omega
      · intro z hz; simp only [List.mem_cons, List.not_mem_nil, or_false] at hz; omega
theorem encL_len {x : Int} (h : vrune x) : ((encL x).length : Int) = widG x := by
  rw [widG_ok h]
  unfold encL
  split
  · rfl
  · split
    · rfl
    · split <;> rfl
theorem one_step (k : Nat) (x n i : Int) (tbl t : List Int) (hi : i < n) (hi2 : 0 ≤ i ∧ i < 10) (hx : 0 ≤ x ∧ x ≤ 1114111) (ht : t.length ≤ 10) : argosyref01_one.l0 (k + 1) x n tbl (strOfNums t) i = argosyref01_one.l0 k (x / 64) n tbl (strOfNums ((128 + x % 64) :: t)) (i + 1) := by
  have e1 : (wrap64 (128 + Int.tmod x 64)) % 256 = 128 + x % 64 := by
    rw [Int.tmod_eq_emod_of_nonneg hx.1, w64 (by omega)]
    omega
  have e2 : wrap64 (Int.tdiv x 64) = x / 64 := by
    rw [Int.tdiv_eq_ediv_of_nonneg hx.1, w64 (by omega)]
  rw [argosyref01_one.l0, if_pos hi, Option.bind_some, e1, e2, w64 (by omega), ← son_append, if_pos (by rw [son_size, son_size]; simp; omega)]
  rfl
theorem one_end (k : Nat) (x n i : Int) (tbl t : List Int) (hi : ¬ i < n) (h0 : 0 ≤ n) (hn : n < tbl.length) (ht : t.length ≤ 10) (hx : 0 ≤ x ∧ x < 256 ) (hv : 0 ≤ rd tbl n + x ∧ rd tbl n + x < 256) : argosyref01_one.l0 (k + 1) x n tbl (strOfNums t) i = some (strOfNums ((rd tbl n + x) :: t)) := by
  have e1 : (rd tbl n + x % 256) % 256 = rd tbl n + x := by omega
  rw [argosyref01_one.l0, if_neg hi, if_pos h0, if_pos hn, Option.bind_some, e1, ← son_append, if_pos (by rw [son_size, son_size]; simp; omega)]
  rfl
theorem one_is {k : Nat} (hk : 6 ≤ k) {x : Int} (h : vrune x) : argosyref01_one.f k x = some (strOfNums (encL x)) := by
  obtain ⟨k, rfl⟩ : ∃ m, k = m + 5 := ⟨k - 5, by omega⟩
  have hv := h
  unfold vrune at hv
  unfold argosyref01_one.f
  rw [rWidth_is, Option.bind_some, widG_ok h]
  unfold encL
  by_cases a : x < 128
  · rw [if_pos a, if_pos a, if_pos rfl, show x % 256 = x from by omega]
  rw [if_neg a, if_neg a]
  have sn : (⟨#[]⟩ : ByteArray) = strOfNums [] := rfl
  rw [sn]
  by_cases b : x < 2048
  · rw [if_pos b, if_pos b, if_neg (by decide), one_step _ x 2 1 _ _ (by decide) (by decide) (by omega) (by simp), one_end _ _ 2 _ _ _ (by decide) (by decide) (by decide) (by simp) (by omega) (by rw [show rd [0, 0, 192, 224, 240] 2 = 192 from rfl]; omega)]
    rfl
  rw [if_neg b, if_neg b]
  by_cases c : x < 65536
  · rw [if_pos c, if_pos c, if_neg (by decide), one_step _ x 3 1 _ _ (by decide) (by decide) (by omega) (by simp), one_step _ (x / 64) 3 _ _ _ (by decide) (by decide) (by omega) (by simp), one_end _ _ 3 _ _ _ (by decide) (by decide) (by decide) (by simp) (by omega) (by rw [show rd [0, 0, 192, 224, 240] 3 = 224 from rfl]; omega), show rd [0, 0, 192, 224, 240] 3 = 224 from rfl, show x / 64 / 64 = x / 4096 from by omega]
  rw [if_neg c, if_neg c, if_neg (by decide), one_step _ x 4 1 _ _ (by decide) (by decide) (by omega) (by simp), one_step _ (x / 64) 4 _ _ _ (by decide) (by decide) (by omega) (by simp), one_step _ (x / 64 / 64) 4 _ _ _ (by decide) (by decide) (by omega) (by simp), one_end _ _ 4 _ _ _ (by decide) (by decide) (by decide) (by simp) (by omega) (by rw [show rd [0, 0, 192, 224, 240] 4 = 240 from rfl]; omega), show rd [0, 0, 192, 224, 240] 4 = 240 from rfl, show x / 64 / 64 = x / 4096 from by omega, show x / 4096 / 64 = x / 262144 from by omega]

/-! ### The reference's first rune -/
theorem bt_at {xs : List Int} (hx : isB xs) (i : Nat) (h : i < xs.length) : bt (strOfNums xs) (i : Int) = (gb xs i : Int) := by
  have hr : rd xs (i : Int) = xs[i] := by rw [rd_at _ (by omega) (by omega)]; rfl
  rw [son_bt hx _ (by omega) (by omega), hr]
  unfold gb
  rw [List.getD_eq_getElem?_getD, List.getElem?_eq_getElem h]
  have := hx _ (List.getElem_mem h)
  simp only [Option.getD_some]
  omega
theorem l1_step (k : Nat) {xs : List Int} (hx : isB xs) (n x : Int) (i : Nat) (hn : (i : Int) < n) (hi : i < xs.length) (hl : i < 10) (h : 0 ≤ x ∧ x ≤ 1000000) : argosyref01_first.l1 (k + 1) (strOfNums xs) n x (i : Int) = argosyref01_first.l1 k (strOfNums xs) n (64 * x + (gb xs i : Int) % 64) ((i + 1 : Nat) : Int) := by
  have hg := gb_lt hx i
  rw [argosyref01_first.l1, if_pos hn, if_pos (by omega), if_pos (by rw [son_size]; omega), bt_at hx i hi, w64 (x := ((gb xs i : Nat) : Int)) (by omega), Int.tmod_eq_emod_of_nonneg (by omega), w64 (x := 64 * x) (by omega), w64 (by omega), w64 (by omega)]
  rfl
/-- The try at n bytes: x, and the bytes are those of x. -/
def att (n : Nat) (ys : List Int) (x : Int) : Prop := widG x = (n : Int) ∧ encL x = ys.take n
instance (n : Nat) (ys : List Int) (x : Int) : Decidable (att n ys x) := by unfold att; infer_instance
theorem l1_end {k : Nat} (hk : 6 ≤ k) {xs : List Int} (hx : isB xs) (n : Nat) (x i : Int) (h1 : 1 ≤ n) (hn : n ≤ 4) (hi : ¬ i < (n : Int)) (hl : n ≤ xs.length) : argosyref01_first.l1 (k + 1) (strOfNums xs) (n : Int) x i = if att n xs x then some x else argosyref01_first.l0 k (strOfNums xs) ((n + 1 : Nat) : Int) := by
  rw [argosyref01_first.l1, if_neg hi, rWidth_is, Option.bind_some]
  by_cases hw : widG x = (n : Int)
  · have hv : vrune x := Decidable.of_not_not fun h => by rw [widG_bad h] at hw; omega
    rw [if_pos hw, one_is hk hv, Option.bind_some, if_pos (by omega), if_pos (by rw [son_size]; omega), Int.toNat_natCast, son_extract, List.drop_zero]
    by_cases he : encL x = xs.take n
    · rw [if_pos (by rw [he]), if_pos ⟨hw, he⟩]
    · rw [if_neg (fun h => he ((son_toList_inj (encL_isB hv) (isB_take hx _)).1 h)), if_neg (fun h => he h.2), w64 (by omega)]
      rfl
  · rw [if_neg hw, if_neg (fun h => hw h.1), w64 (by omega)]
    rfl
theorem l0_short (k : Nat) {xs : List Int} (n : Nat) (hn : n ≤ 5) (hl : 4 < n ∨ xs.length < n) : argosyref01_first.l0 (k + 2) (strOfNums xs) (n : Int) = some (-1) := by
  rw [argosyref01_first.l0]
  by_cases h : (n : Int) ≤ 4
  · rw [if_pos h, decide_eq_false (by rw [son_size]; omega)]
    rw [argosyref01_first.j1, if_neg (by decide)]
  · rw [if_neg h]
    rw [argosyref01_first.j1, if_neg (by decide)]
theorem l0_one (k : Nat) {xs : List Int} (hx : isB xs) (hl : 1 ≤ xs.length) : argosyref01_first.l0 (k + 3) (strOfNums xs) 1 = argosyref01_first.l1 k (strOfNums xs) 1 (gb xs 0) 1 := by
  have hg := gb_lt hx 0
  rw [argosyref01_first.l0, if_pos (by decide), decide_eq_true (by rw [son_size]; omega), argosyref01_first.j1, if_pos rfl, if_pos (by rw [son_size]; omega), if_neg (by decide), argosyref01_first.j2]
  have := bt_at hx 0 (by omega)
  rw [Int.natCast_zero] at this
  rw [this, w64 (by omega)]
theorem l0_more (k : Nat) {xs : List Int} (hx : isB xs) (n : Nat) (h2 : 2 ≤ n) (hn : n ≤ 4) (hl : n ≤ xs.length) (m : Int) (hm : rd ([0, 0, 32, 16, 8] : List Int) (n : Int) = m) (hm0 : 0 < m) : argosyref01_first.l0 (k + 3) (strOfNums xs) (n : Int) = argosyref01_first.l1 k (strOfNums xs) (n : Int) ((gb xs 0 : Int) % m) 1 := by
  have hg := gb_lt hx 0
  rw [argosyref01_first.l0, if_pos (by omega), decide_eq_true (by rw [son_size]; omega), argosyref01_first.j1, if_pos rfl, if_pos (by rw [son_size]; omega), if_pos (by omega), Option.bind_some, if_pos (by omega), if_pos (by simp; omega), hm, if_neg (by omega), argosyref01_first.j2]
  have := bt_at hx 0 (by omega)
  rw [Int.natCast_zero] at this
  rw [this, w64 (by omega), Int.tmod_eq_emod_of_nonneg (by omega)]
def x2N (b0 b1 : Nat) : Nat := b0 % 32 * 64 + b1 % 64
def x3N (b0 b1 b2 : Nat) : Nat := b0 % 16 * 4096 + b1 % 64 * 64 + b2 % 64
def x4N (b0 b1 b2 b3 : Nat) : Nat := b0 % 8 * 262144 + b1 % 64 * 4096 + b2 % 64 * 64 + b3 % 64
theorem first_is {k : Nat} (hk : 40 ≤ k) {xs : List Int} (hx : isB xs) (hl : 1 ≤ xs.length) : argosyref01_first.f k (strOfNums xs) = some (
    if att 1 xs (gb xs 0) then (gb xs 0 : Int) else
    if 2 ≤ xs.length ∧ att 2 xs (x2N (gb xs 0) (gb xs 1)) then (x2N (gb xs 0) (gb xs 1) : Int) else
    if 3 ≤ xs.length ∧ att 3 xs (x3N (gb xs 0) (gb xs 1) (gb xs 2)) then (x3N (gb xs 0) (gb xs 1) (gb xs 2) : Int) else
    if 4 ≤ xs.length ∧ att 4 xs (x4N (gb xs 0) (gb xs 1) (gb xs 2) (gb xs 3)) then (x4N (gb xs 0) (gb xs 1) (gb xs 2) (gb xs 3) : Int) else -1) := by
  obtain ⟨k, rfl⟩ : ∃ m, k = m + 40 := ⟨k - 40, by omega⟩
  have g0 := gb_lt hx 0
  have g1 := gb_lt hx 1
  have g2 := gb_lt hx 2
  have g3 := gb_lt hx 3
  unfold argosyref01_first.f
  rw [show k + 40 = (k + 37) + 3 from rfl, l0_one _ hx hl, show k + 37 = (k + 36) + 1 from rfl]
  have e1 := l1_end (k := k + 36) (by omega) hx 1 (gb xs 0) 1 (by omega) (by omega) (by omega) hl
  rw [show ((1 : Nat) : Int) = 1 from rfl] at e1
  rw [e1]
  by_cases a1 : att 1 xs (gb xs 0)
  · rw [if_pos a1, if_pos a1]
  rw [if_neg a1, if_neg a1]
  by_cases l2 : 2 ≤ xs.length
  case neg =>
    rw [show k + 36 = (k + 34) + 2 from rfl, l0_short _ (1 + 1) (by omega) (.inr (by omega)), if_neg (fun h => l2 h.1), if_neg (fun h => by omega), if_neg (fun h => by omega)]
  rw [show k + 36 = (k + 33) + 3 from rfl, l0_more _ hx (1 + 1) (by omega) (by omega) l2 32 rfl (by omega)]
  have s2 := l1_step (k + 32) hx ((1 + 1 : Nat) : Int) ((gb xs 0 : Int) % 32) 1 (by omega) (by omega) (by omega) (by omega)
  rw [show ((1 : Nat) : Int) = 1 from rfl] at s2
  rw [show k + 33 = (k + 32) + 1 from rfl, s2, show k + 32 = (k + 31) + 1 from rfl, l1_end (k := k + 31) (by omega) hx (1 + 1) _ _ (by omega) (by omega) (by omega) l2]
  rw [show 64 * ((gb xs 0 : Int) % 32) + (gb xs 1 : Int) % 64 = ((x2N (gb xs 0) (gb xs 1) : Nat) : Int) from by unfold x2N; omega]
  by_cases a2 : att 2 xs (x2N (gb xs 0) (gb xs 1))
  · rw [if_pos a2, if_pos ⟨l2, a2⟩]
  rw [if_neg a2, if_neg (fun h => a2 h.2)]
  by_cases l3 : 3 ≤ xs.length
  case neg =>
    rw [show k + 31 = (k + 29) + 2 from rfl, l0_short _ (1 + 1 + 1) (by omega) (.inr (by omega)), if_neg (fun h => l3 h.1), if_neg (fun h => by omega)]
  rw [show k + 31 = (k + 28) + 3 from rfl, l0_more _ hx (1 + 1 + 1) (by omega) (by omega) l3 16 rfl (by omega)]
  have s3 := l1_step (k + 27) hx ((1 + 1 + 1 : Nat) : Int) ((gb xs 0 : Int) % 16) 1 (by omega) (by omega) (by omega) (by omega)
  rw [show ((1 : Nat) : Int) = 1 from rfl] at s3
  rw [show k + 28 = (k + 27) + 1 from rfl, s3, show k + 27 = (k + 26) + 1 from rfl, l1_step (k + 26) hx _ _ (1 + 1) (by omega) (by omega) (by omega) (by omega), show k + 26 = (k + 25) + 1 from rfl, l1_end (k := k + 25) (by omega) hx (1 + 1 + 1) _ _ (by omega) (by omega) (by omega) l3]
  rw [show 64 * (64 * ((gb xs 0 : Int) % 16) + (gb xs 1 : Int) % 64) + (gb xs (1 + 1) : Int) % 64 = ((x3N (gb xs 0) (gb xs 1) (gb xs 2) : Nat) : Int) from by rw [show gb xs (1 + 1) = gb xs 2 from rfl]; unfold x3N; omega]
  by_cases a3 : att 3 xs (x3N (gb xs 0) (gb xs 1) (gb xs 2))
  · rw [if_pos a3, if_pos ⟨l3, a3⟩]
  rw [if_neg a3, if_neg (fun h => a3 h.2)]
  by_cases l4 : 4 ≤ xs.length
  case neg =>
    rw [show k + 25 = (k + 23) + 2 from rfl, l0_short _ (1 + 1 + 1 + 1) (by omega) (.inr (by omega)), if_neg (fun h => l4 h.1)]
  rw [show k + 25 = (k + 22) + 3 from rfl, l0_more _ hx (1 + 1 + 1 + 1) (by omega) (by omega) l4 8 rfl (by omega)]
  have s4 := l1_step (k + 21) hx ((1 + 1 + 1 + 1 : Nat) : Int) ((gb xs 0 : Int) % 8) 1 (by omega) (by omega) (by omega) (by omega)
  rw [show ((1 : Nat) : Int) = 1 from rfl] at s4
  rw [show k + 22 = (k + 21) + 1 from rfl, s4, show k + 21 = (k + 20) + 1 from rfl, l1_step (k + 20) hx _ _ (1 + 1) (by omega) (by omega) (by omega) (by omega), show k + 20 = (k + 19) + 1 from rfl, l1_step (k + 19) hx _ _ (1 + 1 + 1) (by omega) (by omega) (by omega) (by omega), show k + 19 = (k + 18) + 1 from rfl, l1_end (k := k + 18) (by omega) hx (1 + 1 + 1 + 1) _ _ (by omega) (by omega) (by omega) l4]
  rw [show 64 * (64 * (64 * ((gb xs 0 : Int) % 8) + (gb xs 1 : Int) % 64) + (gb xs (1 + 1) : Int) % 64) + (gb xs (1 + 1 + 1) : Int) % 64 = ((x4N (gb xs 0) (gb xs 1) (gb xs 2) (gb xs 3) : Nat) : Int) from by rw [show gb xs (1 + 1) = gb xs 2 from rfl, show gb xs (1 + 1 + 1) = gb xs 3 from rfl]; unfold x4N; omega]
  by_cases a4 : att 4 xs (x4N (gb xs 0) (gb xs 1) (gb xs 2) (gb xs 3))
  · rw [if_pos a4, if_pos ⟨l4, a4⟩]
  rw [if_neg a4, if_neg (fun h => a4 h.2)]
  rw [show k + 18 = (k + 16) + 2 from rfl, l0_short _ (1 + 1 + 1 + 1 + 1) (by omega) (.inl (by omega))]

/-! ### What is read, and what the reference reads -/
theorem att_len {n : Nat} {ys : List Int} {x : Int} (h : att n ys x) (hn : 1 ≤ n) : n ≤ ys.length := by
  have hv : vrune x := Decidable.of_not_not fun hv => by have := h.1; rw [widG_bad hv] at this; omega
  have := encL_len hv
  rw [h.2, h.1] at this
  simp at this
  omega
theorem att1 {a : Nat} (ys : List Int) : att 1 ((a : Int) :: ys) a ↔ a < 128 := by
  unfold att
  by_cases h : a < 128
  · simp only [h, iff_true]
    refine ⟨by rw [widG_ok (by unfold vrune; omega), if_pos (by omega)]; rfl, ?_⟩
    unfold encL
    rw [if_pos (by omega)]
    rfl
  · simp only [h, iff_false]
    intro hc
    have h1 := hc.1
    by_cases hv : vrune (a : Int)
    · rw [widG_ok hv, if_neg (by omega)] at h1
      split at h1
      · omega
      · split at h1 <;> omega
    · rw [widG_bad hv] at h1; omega
theorem att2 {a b : Nat} (ys : List Int) (ha : a < 256) (hb : b < 256) : att 2 ((a : Int) :: (b : Int) :: ys) (x2N a b : Nat) ↔ (a / 32 = 6 ∧ b / 64 = 2 ∧ 128 ≤ x2N a b) := by
  have hx : x2N a b = a % 32 * 64 + b % 64 := rfl
  generalize x2N a b = x at hx
  unfold att
  by_cases h : 128 ≤ x
  · have e : encL (x : Int) = [192 + (x : Int) / 64, 128 + (x : Int) % 64] := by unfold encL; rw [if_neg (by omega), if_pos (by omega)]
    have w : widG (x : Int) = ((2 : Nat) : Int) := by rw [widG_ok (by unfold vrune; omega), if_neg (by omega), if_pos (by omega)]; rfl
    rw [e, w, List.take_succ_cons, List.take_succ_cons, List.take_zero, List.cons.injEq, List.cons.injEq]
    clear e w
    constructor
    · rintro ⟨-, h1, h2, -⟩; omega
    · rintro ⟨h1, h2, -⟩
      exact ⟨rfl, by omega, by omega, rfl⟩
  · constructor
    · rintro ⟨h1, -⟩
      by_cases hv : vrune (x : Int)
      · rw [widG_ok hv, if_pos (by omega)] at h1; omega
      · rw [widG_bad hv] at h1; omega
    · rintro ⟨-, -, h1⟩; omega
theorem att3 {a b c : Nat} (ys : List Int) (ha : a < 256) (hb : b < 256) (hc : c < 256) : att 3 ((a : Int) :: (b : Int) :: (c : Int) :: ys) (x3N a b c : Nat) ↔ (a / 16 = 14 ∧ b / 64 = 2 ∧ c / 64 = 2 ∧ 2048 ≤ x3N a b c ∧ vrune (x3N a b c : Int)) := by
  have hx : x3N a b c = a % 16 * 4096 + b % 64 * 64 + c % 64 := rfl
  generalize x3N a b c = x at hx
  unfold att
  by_cases hv : vrune (x : Int)
  · by_cases h : 2048 ≤ x
    · have e : encL (x : Int) = [224 + (x : Int) / 4096, 128 + (x : Int) / 64 % 64, 128 + (x : Int) % 64] := by unfold encL; rw [if_neg (by omega), if_neg (by omega), if_pos (by omega)]
      have w : widG (x : Int) = ((3 : Nat) : Int) := by rw [widG_ok hv, if_neg (by omega), if_neg (by omega), if_pos (by omega)]; rfl
      rw [e, w, List.take_succ_cons, List.take_succ_cons, List.take_succ_cons, List.take_zero, List.cons.injEq, List.cons.injEq, List.cons.injEq]
      clear e w
      constructor
      · rintro ⟨-, h1, h2, h3, -⟩; exact ⟨by omega, by omega, by omega, h, hv⟩
      · rintro ⟨h1, h2, h3, -⟩
        exact ⟨rfl, by omega, by omega, by omega, rfl⟩
    · constructor
      · rintro ⟨h1, -⟩
        rw [widG_ok hv] at h1
        split at h1
        · omega
        · rw [if_pos (by omega)] at h1; omega
      · rintro ⟨-, -, -, h1, -⟩; omega
  · constructor
    · rintro ⟨h1, -⟩
      rw [widG_bad hv] at h1; omega
    · rintro ⟨-, -, -, -, h1⟩; exact absurd h1 hv
theorem att4 {a b c d : Nat} (ys : List Int) (ha : a < 256) (hb : b < 256) (hc : c < 256) (hd : d < 256) : att 4 ((a : Int) :: (b : Int) :: (c : Int) :: (d : Int) :: ys) (x4N a b c d : Nat) ↔ (a / 8 = 30 ∧ b / 64 = 2 ∧ c / 64 = 2 ∧ d / 64 = 2 ∧ 65536 ≤ x4N a b c d ∧ vrune (x4N a b c d : Int)) := by
  have hx : x4N a b c d = a % 8 * 262144 + b % 64 * 4096 + c % 64 * 64 + d % 64 := rfl
  generalize x4N a b c d = x at hx
  unfold att
  by_cases hv : vrune (x : Int)
  · by_cases h : 65536 ≤ x
    · have e : encL (x : Int) = [240 + (x : Int) / 262144, 128 + (x : Int) / 4096 % 64, 128 + (x : Int) / 64 % 64, 128 + (x : Int) % 64] := by unfold encL; rw [if_neg (by omega), if_neg (by omega), if_neg (by omega)]
      have w : widG (x : Int) = ((4 : Nat) : Int) := by rw [widG_ok hv, if_neg (by omega), if_neg (by omega), if_neg (by omega)]; rfl
      rw [e, w, List.take_succ_cons, List.take_succ_cons, List.take_succ_cons, List.take_succ_cons, List.take_zero, List.cons.injEq, List.cons.injEq, List.cons.injEq, List.cons.injEq]
      clear e w
      constructor
      · rintro ⟨-, h1, h2, h3, h4, -⟩; exact ⟨by omega, by omega, by omega, by omega, h, hv⟩
      · rintro ⟨h1, h2, h3, h4, -⟩
        exact ⟨rfl, by omega, by omega, by omega, by omega, rfl⟩
    · constructor
      · rintro ⟨h1, -⟩
        rw [widG_ok hv] at h1
        split at h1
        · omega
        · split at h1
          · omega
          · rw [if_pos (by omega)] at h1; omega
      · rintro ⟨-, -, -, -, h1, -⟩; omega
  · constructor
    · rintro ⟨h1, -⟩
      rw [widG_bad hv] at h1; omega
    · rintro ⟨-, -, -, -, -, h1⟩; exact absurd h1 hv
/-- The four tries tell what the model's decoding tells. -/
theorem tries_dec (n a b c d : Nat) (hn : 1 ≤ n) :
    (if a < 128 then (a : Int) else if 2 ≤ n ∧ (a / 32 = 6 ∧ b / 64 = 2 ∧ 128 ≤ x2N a b) then (x2N a b : Int) else if 3 ≤ n ∧ (a / 16 = 14 ∧ b / 64 = 2 ∧ c / 64 = 2 ∧ 2048 ≤ x3N a b c ∧ vrune (x3N a b c : Int)) then (x3N a b c : Int) else if 4 ≤ n ∧ (a / 8 = 30 ∧ b / 64 = 2 ∧ c / 64 = 2 ∧ d / 64 = 2 ∧ 65536 ≤ x4N a b c d ∧ vrune (x4N a b c d : Int)) then (x4N a b c d : Int) else -1)
      = if badN n a b c d then -1 else ((decodeN n a b c d).1 : Int) := by
  have hD : decodeN n a b c d = (if a < 128 then (a, 1)
    else if a / 32 = 6 ∧ (1 < n ∧ b / 64 = 2) then (if x2N a b ≥ 128 then (x2N a b, 2) else (65533, 1))
    else if a / 16 = 14 ∧ (1 < n ∧ b / 64 = 2) ∧ (2 < n ∧ c / 64 = 2) then (if x3N a b c ≥ 2048 ∧ (x3N a b c < 55296 ∨ (57344 ≤ x3N a b c ∧ x3N a b c ≤ 1114111)) then (x3N a b c, 3) else (65533, 1))
    else if a / 8 = 30 ∧ (1 < n ∧ b / 64 = 2) ∧ (2 < n ∧ c / 64 = 2) ∧ (3 < n ∧ d / 64 = 2) then (if x4N a b c d ≥ 65536 ∧ (x4N a b c d < 55296 ∨ (57344 ≤ x4N a b c d ∧ x4N a b c d ≤ 1114111)) then (x4N a b c d, 4) else (65533, 1))
    else (65533, 1)) := rfl
  have key : ∀ (r w : Nat), decodeN n a b c d = (r, w) → (w ≠ 1 ∨ r < 128) → (r : Int) = (if badN n a b c d then (-1 : Int) else ((decodeN n a b c d).1 : Int)) := fun r w e h => by
    rw [if_neg (fun hb => by unfold badN at hb; rw [e] at hb; simp only [Prod.mk.injEq] at hb; omega), e]
  have bad : decodeN n a b c d = (65533, 1) → -1 = (if badN n a b c d then (-1 : Int) else ((decodeN n a b c d).1 : Int)) := fun e => by rw [if_pos (show badN n a b c d from e)]
  have v3 : vrune (x3N a b c : Int) ↔ (x3N a b c < 55296 ∨ 57344 ≤ x3N a b c ∧ x3N a b c ≤ 1114111) := by unfold vrune; omega
  have v4 : vrune (x4N a b c d : Int) ↔ (x4N a b c d < 55296 ∨ 57344 ≤ x4N a b c d ∧ x4N a b c d ≤ 1114111) := by unfold vrune; omega
  revert hD
  generalize x2N a b = x2
  revert v3
  generalize x3N a b c = x3
  revert v4
  generalize x4N a b c d = x4
  intro v4 v3 hD
  by_cases c0 : a < 128
  · rw [if_pos c0] at hD
    rw [if_pos c0]
    exact key _ _ hD (.inr c0)
  rw [if_neg c0] at hD
  rw [if_neg c0]
  by_cases c1 : a / 32 = 6 ∧ (1 < n ∧ b / 64 = 2)
  · rw [if_pos c1] at hD
    by_cases c2 : x2 ≥ 128
    · rw [if_pos c2] at hD
      rw [if_pos (by clear key bad hD v3 v4; omega)]
      exact key _ _ hD (.inl (by decide))
    · rw [if_neg c2] at hD
      rw [if_neg (by clear key bad hD v3 v4; omega), if_neg (fun h => by clear key bad hD v3 v4; omega), if_neg (fun h => by clear key bad hD v3 v4; omega)]
      exact bad hD
  rw [if_neg c1] at hD
  rw [if_neg (c := 2 ≤ n ∧ a / 32 = 6 ∧ b / 64 = 2 ∧ 128 ≤ x2) (by clear key bad hD v3 v4; omega)]
  by_cases c2 : a / 16 = 14 ∧ (1 < n ∧ b / 64 = 2) ∧ (2 < n ∧ c / 64 = 2)
  · rw [if_pos c2] at hD
    by_cases c3 : x3 ≥ 2048 ∧ (x3 < 55296 ∨ 57344 ≤ x3 ∧ x3 ≤ 1114111)
    · rw [if_pos c3] at hD
      rw [if_pos ⟨c2.2.2.1, c2.1, c2.2.1.2, c2.2.2.2, c3.1, v3.2 c3.2⟩]
      exact key _ _ hD (.inl (by decide))
    · rw [if_neg c3] at hD
      rw [if_neg (fun h => c3 ⟨h.2.2.2.2.1, v3.1 h.2.2.2.2.2⟩), if_neg (fun h => by have h1 := c2.1; have h2 := h.2.1; clear key bad hD v3 v4; omega)]
      exact bad hD
  rw [if_neg c2] at hD
  rw [if_neg (c := 3 ≤ n ∧ (a / 16 = 14 ∧ b / 64 = 2 ∧ c / 64 = 2 ∧ 2048 ≤ x3 ∧ vrune (x3 : Int))) (fun h => c2 ⟨h.2.1, ⟨by omega, h.2.2.1⟩, ⟨by omega, h.2.2.2.1⟩⟩)]
  by_cases c3 : a / 8 = 30 ∧ (1 < n ∧ b / 64 = 2) ∧ (2 < n ∧ c / 64 = 2) ∧ (3 < n ∧ d / 64 = 2)
  · rw [if_pos c3] at hD
    by_cases c4 : x4 ≥ 65536 ∧ (x4 < 55296 ∨ 57344 ≤ x4 ∧ x4 ≤ 1114111)
    · rw [if_pos c4] at hD
      rw [if_pos ⟨c3.2.2.2.1, c3.1, c3.2.1.2, c3.2.2.1.2, c3.2.2.2.2, c4.1, v4.2 c4.2⟩]
      exact key _ _ hD (.inl (by decide))
    · rw [if_neg c4] at hD
      rw [if_neg (fun h => c4 ⟨h.2.2.2.2.2.1, v4.1 h.2.2.2.2.2.2⟩)]
      exact bad hD
  rw [if_neg c3] at hD
  rw [if_neg (fun h => c3 ⟨h.2.1, ⟨by omega, h.2.2.1⟩, ⟨by omega, h.2.2.2.1⟩, ⟨by omega, h.2.2.2.2.1⟩⟩)]
  exact bad hD
theorem rFirst_is {k : Nat} (hk : 40 ≤ k) {xs : List Int} (hx : isB xs) {p : Nat} (hp : p < xs.length) : argosyref01_first.f k (strOfNums (xs.drop p)) = some (if badAt xs p then -1 else runeAt xs p) := by
  have hy : isB (xs.drop p) := isB_drop hx p
  have hl : 1 ≤ (xs.drop p).length := by simp; omega
  rw [first_is hk hy hl]
  have hn : (xs.drop p).length = xs.length - p := by simp
  have e0 : gb (xs.drop p) 0 = gb xs p := by rw [gb_drop]; rfl
  have hb : badAt xs p ↔ badN (xs.drop p).length (gb (xs.drop p) 0) (gb (xs.drop p) 1) (gb (xs.drop p) 2) (gb (xs.drop p) 3) := by unfold badAt; rw [e0, gb_drop, gb_drop, gb_drop, hn]
  have hr : runeAt xs p = ((decodeN (xs.drop p).length (gb (xs.drop p) 0) (gb (xs.drop p) 1) (gb (xs.drop p) 2) (gb (xs.drop p) 3)).1 : Int) := by unfold runeAt; rw [e0, gb_drop, gb_drop, gb_drop, hn]
  have hT : (if badAt xs p then -1 else runeAt xs p) = (if badN (xs.drop p).length (gb (xs.drop p) 0) (gb (xs.drop p) 1) (gb (xs.drop p) 2) (gb (xs.drop p) 3) then -1 else ((decodeN (xs.drop p).length (gb (xs.drop p) 0) (gb (xs.drop p) 1) (gb (xs.drop p) 2) (gb (xs.drop p) 3)).1 : Int)) := by
    by_cases h : badAt xs p
    · rw [if_pos h, if_pos (hb.1 h)]
    · rw [if_neg h, if_neg (fun q => h (hb.2 q)), hr]
  clear hb hr
  rw [hT, ← tries_dec _ _ _ _ _ hl]
  congr 1
  have gl := gb_lt hy
  have gi : ∀ i, i < (xs.drop p).length → ((gb (xs.drop p) i : Nat) : Int) = (xs.drop p).getD i 0 := by
    intro i hi
    have := hy _ (List.getElem_mem hi)
    unfold gb
    rw [List.getD_eq_getElem?_getD, List.getElem?_eq_getElem hi, Option.getD_some]
    omega
  revert hl gl gi
  generalize xs.drop p = ys
  intro hl gl gi
  have sh : ∀ m, m ≤ 4 → m ≤ ys.length → ∃ zs, ys = ((List.range m).map fun i => ((gb ys i : Nat) : Int)) ++ zs := by
    intro m h4 hm
    refine ⟨ys.drop m, ?_⟩
    conv => lhs; rw [← List.take_append_drop m ys]
    congr 1
    apply List.ext_getElem
    · simp; omega
    · intro i h1 h2
      simp at h1 h2
      simp only [List.getElem_take, List.getElem_map, List.getElem_range]
      rw [gi i (by omega), List.getD_eq_getElem?_getD, List.getElem?_eq_getElem (by omega), Option.getD_some]
  have A1 : att 1 ys (gb ys 0) ↔ gb ys 0 < 128 := by
    obtain ⟨zs, e⟩ := sh 1 (by omega) hl
    have := @att1 (gb ys 0) zs
    conv => lhs; rw [show att 1 ys (gb ys 0) = att 1 ((gb ys 0 : Int) :: zs) (gb ys 0) from congrArg (fun l => att 1 l (gb ys 0)) e]
    exact this
  have A2 : (2 ≤ ys.length ∧ att 2 ys (x2N (gb ys 0) (gb ys 1))) ↔ (2 ≤ ys.length ∧ (gb ys 0 / 32 = 6 ∧ gb ys 1 / 64 = 2 ∧ 128 ≤ x2N (gb ys 0) (gb ys 1))) := by
    refine and_congr_right fun h => ?_
    obtain ⟨zs, e⟩ := sh 2 (by omega) h
    have := @att2 (gb ys 0) (gb ys 1) zs (gl 0) (gl 1)
    conv => lhs; rw [show att 2 ys (x2N (gb ys 0) (gb ys 1)) = att 2 ((gb ys 0 : Int) :: (gb ys 1 : Int) :: zs) (x2N (gb ys 0) (gb ys 1)) from congrArg (fun l => att 2 l (x2N (gb ys 0) (gb ys 1))) e]
    exact this
  have A3 : (3 ≤ ys.length ∧ att 3 ys (x3N (gb ys 0) (gb ys 1) (gb ys 2))) ↔ (3 ≤ ys.length ∧ (gb ys 0 / 16 = 14 ∧ gb ys 1 / 64 = 2 ∧ gb ys 2 / 64 = 2 ∧ 2048 ≤ x3N (gb ys 0) (gb ys 1) (gb ys 2) ∧ vrune (x3N (gb ys 0) (gb ys 1) (gb ys 2) : Int))) := by
    refine and_congr_right fun h => ?_
    obtain ⟨zs, e⟩ := sh 3 (by omega) h
    have := @att3 (gb ys 0) (gb ys 1) (gb ys 2) zs (gl 0) (gl 1) (gl 2)
    conv => lhs; rw [show att 3 ys (x3N (gb ys 0) (gb ys 1) (gb ys 2)) = att 3 ((gb ys 0 : Int) :: (gb ys 1 : Int) :: (gb ys 2 : Int) :: zs) (x3N (gb ys 0) (gb ys 1) (gb ys 2)) from congrArg (fun l => att 3 l (x3N (gb ys 0) (gb ys 1) (gb ys 2))) e]
    exact this
  have A4 : (4 ≤ ys.length ∧ att 4 ys (x4N (gb ys 0) (gb ys 1) (gb ys 2) (gb ys 3))) ↔ (4 ≤ ys.length ∧ (gb ys 0 / 8 = 30 ∧ gb ys 1 / 64 = 2 ∧ gb ys 2 / 64 = 2 ∧ gb ys 3 / 64 = 2 ∧ 65536 ≤ x4N (gb ys 0) (gb ys 1) (gb ys 2) (gb ys 3) ∧ vrune (x4N (gb ys 0) (gb ys 1) (gb ys 2) (gb ys 3) : Int))) := by
    refine and_congr_right fun h => ?_
    obtain ⟨zs, e⟩ := sh 4 (by omega) h
    have := @att4 (gb ys 0) (gb ys 1) (gb ys 2) (gb ys 3) zs (gl 0) (gl 1) (gl 2) (gl 3)
    conv => lhs; rw [show att 4 ys (x4N (gb ys 0) (gb ys 1) (gb ys 2) (gb ys 3)) = att 4 ((gb ys 0 : Int) :: (gb ys 1 : Int) :: (gb ys 2 : Int) :: (gb ys 3 : Int) :: zs) (x4N (gb ys 0) (gb ys 1) (gb ys 2) (gb ys 3)) from congrArg (fun l => att 4 l (x4N (gb ys 0) (gb ys 1) (gb ys 2) (gb ys 3))) e]
    exact this
  have gen : ∀ (P Q : Prop) [Decidable P] [Decidable Q] (u v v' : Int), (P ↔ Q) → v = v' → (if P then u else v) = (if Q then u else v') := fun P Q _ _ u v v' h e => by
    by_cases hp : P
    · rw [if_pos hp, if_pos (h.1 hp)]
    · rw [if_neg hp, if_neg (fun q => hp (h.2 q)), e]
  exact gen _ _ _ _ _ A1 (gen _ _ _ _ _ A2 (gen _ _ _ _ _ A3 (gen _ _ _ _ _ A4 rfl)))

/-! ### The loops over a text -/
def goodL (xs : List Int) : Nat → Nat → List Int
  | 0, _ => []
  | d + 1, p => if p < xs.length then (if badAt xs p then [] else runeAt xs p :: goodL xs d (p + widAt xs p)) else []
def badL (xs : List Int) : Nat → Nat → Int
  | 0, _ => -1
  | d + 1, p => if p < xs.length then (if badAt xs p then (p : Int) else badL xs d (p + widAt xs p)) else -1
def cutL (xs : List Int) : Nat → Nat → Int → Nat
  | 0, _, _ => xs.length
  | d + 1, p, n => if p < xs.length then (if n ≤ 0 then p else if badAt xs p then p else cutL xs d (p + widAt xs p) (n - 1)) else xs.length
theorem goodL_len (xs : List Int) : ∀ d p, (goodL xs d p).length ≤ d
  | 0, p => by simp [goodL]
  | d + 1, p => by
    rw [goodL]
    split
    · split
      · simp
      · have := goodL_len xs d (p + widAt xs p)
        simp; omega
    · simp
theorem goodL_v {xs : List Int} (hx : isB xs) : ∀ d p, ∀ r ∈ goodL xs d p, vrune r
  | 0, p => by simp [goodL]
  | d + 1, p => by
    rw [goodL]
    split
    · split
      · simp
      · rename_i hb
        intro r hr
        rcases List.mem_cons.1 hr with rfl | hr
        · exact (good_at hx hb).1
        · exact goodL_v hx d _ r hr
    · simp
theorem badG_is {xs : List Int} (hx : isB xs) : ∀ d p, p ≤ xs.length → badG (strOfNums xs) d p = badL xs d p
  | 0, p, _ => rfl
  | d + 1, p, hp => by
    rw [badG, badL, son_size]
    by_cases h : p < xs.length
    · rw [if_pos h, if_pos h, brk_at hx p hp _ (dec_rune hx p), dec_wid hx]
      by_cases hb : badAt xs p
      · rw [if_pos (decide_eq_true hb), if_pos hb]
      · rw [if_neg (by simpa using hb), if_neg hb, badG_is hx d _ (widAt_le xs p h)]
    · rw [if_neg h, if_neg h]
theorem badL_range (xs : List Int) : ∀ d p, badL xs d p = -1 ∨ (0 ≤ badL xs d p ∧ badL xs d p < xs.length)
  | 0, p => .inl rfl
  | d + 1, p => by
    rw [badL]
    split
    · split
      · exact .inr ⟨by omega, by omega⟩
      · exact badL_range xs d _
    · exact .inl rfl
theorem runesG_is {xs : List Int} (hx : isB xs) : ∀ d p, badL xs d p < 0 → runesG (strOfNums xs) d p = goodL xs d p
  | 0, p, _ => rfl
  | d + 1, p, hb0 => by
    rw [badL] at hb0
    rw [runesG, goodL, son_size]
    by_cases h : p < xs.length
    · rw [if_pos h] at hb0
      rw [if_pos h, if_pos h, dec_rune hx, dec_wid hx]
      by_cases hb : badAt xs p
      · rw [if_pos hb] at hb0; omega
      · rw [if_neg hb] at hb0
        have hv := (good_at hx hb).1
        unfold vrune at hv
        rw [if_neg hb, w64 (by omega), runesG_is hx d _ hb0]
    · rw [if_neg h, if_neg h]
/-- The runes of a text. -/
def runesL (xs : List Int) : List Int × Int := if 0 ≤ badL xs xs.length 0 then ([], 4) else (goodL xs xs.length 0, 0)
theorem Runes_is {xs : List Int} (hx : isB xs) (hl : xs.length < 17592186044416) : glyph_Runes.f (strOfNums xs) = some (runesL xs) := by
  unfold glyph_Runes.f runesF runesE tornG runesL
  rw [son_size, if_pos hl, badG_is hx _ _ (by omega)]
  by_cases h : 0 ≤ badL xs xs.length 0
  · rw [if_pos (decide_eq_true h), if_pos (decide_eq_true h), if_pos h]
  · rw [if_neg (by simpa using h), if_neg (by simpa using h), if_neg h, runesG_is hx _ _ (by omega)]
theorem Bad_is {xs : List Int} (hx : isB xs) : glyph_Bad.f (strOfNums xs) = some (badL xs xs.length 0) := by
  unfold glyph_Bad.f
  rw [son_size, badG_is hx _ _ (by omega)]
theorem cutG_is {xs : List Int} (hx : isB xs) : ∀ d p (n : Int), p ≤ xs.length → xs.length ≤ p + d → n ≤ 9223372036854775807 → cutP (strOfNums xs) (cutG (strOfNums xs) d p n) = (strOfNums (xs.take (cutL xs d p n)), strOfNums (xs.drop (cutL xs d p n)))
  | 0, p, n, hp, _, _ => by
    rw [cutG, cutL, cutP, List.take_length, List.drop_length]
    rfl
  | d + 1, p, n, hp, hd, hn => by
    have e : cutP (strOfNums xs) (some p) = (strOfNums (xs.take p), strOfNums (xs.drop p)) := by
      rw [cutP, son_size, son_extract, son_extract, List.drop_zero, List.take_length]
    rw [cutG, cutL, son_size]
    by_cases h : p < xs.length
    · rw [if_pos h, if_pos h, brk_at hx p hp _ (dec_rune hx p), dec_wid hx]
      by_cases h0 : n ≤ 0
      · rw [if_pos h0, if_pos h0]; exact e
      rw [if_neg h0, if_neg h0]
      by_cases hb : badAt xs p
      · rw [if_pos (decide_eq_true hb), if_pos hb]; exact e
      · have := widAt_pos xs p
        rw [if_neg (by simpa using hb), if_neg hb, w64 (by omega), cutG_is hx d _ _ (widAt_le xs p h) (by omega) (by omega)]
    · rw [if_neg h, if_neg h, cutP, List.take_length, List.drop_length]
      rfl
theorem Cut_is {xs : List Int} (hx : isB xs) {n : Int} (hn : n ≤ 9223372036854775807) : glyph_Cut.f (strOfNums xs) n = some (strOfNums (xs.take (cutL xs xs.length 0 n)), strOfNums (xs.drop (cutL xs xs.length 0 n))) := by
  unfold glyph_Cut.f
  rw [son_size, cutG_is hx _ _ _ (by omega) (by omega) hn]

theorem read_loop {xs : List Int} (hx : isB xs) (hl : xs.length ≤ 100000) : ∀ (d k : Nat) (acc : List Int) (p : Nat), xs.length ≤ p + d → p ≤ xs.length → d + 50 ≤ k → acc.length + d ≤ 1000000 → argosyref01_read.l0 k (strOfNums xs) acc (p : Int) = some (acc ++ goodL xs d p, badL xs d p) := by
  intro d
  induction d with
  | zero =>
    intro k acc p h1 h2 hk ha
    obtain ⟨k, rfl⟩ : ∃ m, k = m + 1 := ⟨k - 1, by omega⟩
    rw [argosyref01_read.l0, if_neg (by rw [son_size]; omega), goodL, badL, List.append_nil]
  | succ d ih =>
    intro k acc p h1 h2 hk ha
    obtain ⟨k, rfl⟩ : ∃ m, k = m + 1 := ⟨k - 1, by omega⟩
    rw [argosyref01_read.l0, goodL, badL]
    by_cases h : p < xs.length
    · have hd : (strOfNums xs).extract (p : Int).toNat (strOfNums xs).size = strOfNums (xs.drop p) := by rw [son_size, son_extract, List.take_length, Int.toNat_natCast]
      rw [if_pos (by rw [son_size]; omega), if_pos (by omega), if_pos (by rw [son_size]; omega), if_pos h, if_pos h, hd, rFirst_is (by omega) hx h, Option.bind_some]
      by_cases hb : badAt xs p
      · rw [if_pos hb, if_pos hb, if_pos hb, if_pos (by omega), List.append_nil]
      · have hg := good_at hx hb
        have hv := hg.1
        have hw := widAt_le xs p h
        unfold vrune at hv
        rw [if_neg hb, if_neg hb, if_neg hb, if_neg (by omega), if_pos (by omega), rWidth_is, Option.bind_some, hg.2, w64 (by omega), show (p : Int) + (widAt xs p : Int) = ((p + widAt xs p : Nat) : Int) from by omega]
        have := widAt_pos xs p
        rw [ih k (acc ++ [runeAt xs p]) _ (by omega) hw (by omega) (by simp; omega), List.append_assoc]
        rfl
    · rw [if_neg (by rw [son_size]; omega), if_neg h, if_neg h, List.append_nil]
theorem read_is {k : Nat} {xs : List Int} (hx : isB xs) (hl : xs.length ≤ 100000) (hk : 100100 ≤ k) : argosyref01_read.f k (strOfNums xs) = some (goodL xs xs.length 0, badL xs xs.length 0) := by
  unfold argosyref01_read.f
  have := read_loop hx hl xs.length k [] 0 (by omega) (by omega) (by omega) (by simp; omega)
  simpa using this
theorem rCut_loop {xs : List Int} (hx : isB xs) (hl : xs.length ≤ 100000) (L : List Int) (n : Int) (hn : n ≤ 9223372036854775807) (hL : L.length ≤ 100000) : ∀ (d k p i : Nat), xs.length ≤ p + d → p ≤ xs.length → i ≤ L.length → d + 50 ≤ k → L.drop i = goodL xs d p → argosyref01_Cut.l0 k (strOfNums xs) n L (p : Int) (i : Int) = some (strOfNums (xs.take (cutL xs d p (n - i))), strOfNums (xs.drop (cutL xs d p (n - i)))) := by
  intro d
  have cutAt : ∀ (p : Nat), p ≤ xs.length → (if 0 ≤ (p : Int) then (if (p : Int) ≤ ((strOfNums xs).size : Int) then (some (((strOfNums xs).extract 0 (p : Int).toNat), ((strOfNums xs).extract (p : Int).toNat (strOfNums xs).size))) else (none)) else (none)) = some (strOfNums (xs.take p), strOfNums (xs.drop p)) := by
    intro p hp
    rw [if_pos (by omega), if_pos (by rw [son_size]; omega), Int.toNat_natCast, son_size, son_extract, son_extract, List.drop_zero, List.take_length]
  induction d with
  | zero =>
    intro k p i h1 h2 hi hk hd
    obtain ⟨k, rfl⟩ : ∃ m, k = m + 1 := ⟨k - 1, by omega⟩
    have hi2 : L.length ≤ i := by
      have := congrArg List.length hd
      simp [goodL] at this
      omega
    rw [argosyref01_Cut.l0, if_neg (by omega), cutAt p h2, cutL, show xs.length = p from by omega]
  | succ d ih =>
    intro k p i h1 h2 hi hk hd
    obtain ⟨k, rfl⟩ : ∃ m, k = m + 1 := ⟨k - 1, by omega⟩
    rw [argosyref01_Cut.l0]
    rw [goodL] at hd
    rw [cutL]
    have hlen := congrArg List.length hd
    rw [List.length_drop] at hlen
    by_cases h : p < xs.length
    · rw [if_pos h] at hd hlen ⊢
      by_cases h0 : n - (i : Int) ≤ 0
      · rw [if_pos h0, if_neg (c := (i : Int) < n) (by omega), cutAt p h2]
        split <;> rfl
      rw [if_neg h0]
      by_cases hb : badAt xs p
      · rw [if_pos hb] at hd hlen ⊢
        simp only [List.length_nil] at hlen
        rw [if_neg (by omega), cutAt p h2]
      · rw [if_neg hb] at hd hlen ⊢
        simp only [List.length_cons] at hlen
        have hiL : i < L.length := by omega
        have hr : rd L (i : Int) = L[i] := by rw [rd_at _ (by omega) (by omega)]; rfl
        rw [List.drop_eq_getElem_cons hiL, List.cons.injEq] at hd
        have hg := good_at hx hb
        have hw := widAt_le xs p h
        have hp1 := widAt_pos xs p
        rw [if_pos (by omega), if_pos (by omega), if_pos (by omega), hr, hd.1, rWidth_is, Option.bind_some, hg.2, w64 (by omega), w64 (by omega), show (p : Int) + (widAt xs p : Int) = ((p + widAt xs p : Nat) : Int) from by omega, show (i : Int) + 1 = ((i + 1 : Nat) : Int) from by omega]
        rw [ih k _ (i + 1) (by omega) hw (by omega) (by omega) hd.2, show n - ((i + 1 : Nat) : Int) = n - (i : Int) - 1 from by omega]
    · rw [if_neg h] at hd hlen ⊢
      simp only [List.length_nil] at hlen
      rw [if_neg (by omega), cutAt p h2, show xs.length = p from by omega]
theorem rCut_is {k : Nat} {xs : List Int} (hx : isB xs) (hl : xs.length ≤ 100000) (hk : 100200 ≤ k) {n : Int} (hn : n ≤ 9223372036854775807) : argosyref01_Cut.f k (strOfNums xs) n = some (strOfNums (xs.take (cutL xs xs.length 0 n)), strOfNums (xs.drop (cutL xs xs.length 0 n))) := by
  unfold argosyref01_Cut.f
  rw [read_is hx hl (by omega), Option.bind_some]
  have hg := goodL_len xs xs.length 0
  have := rCut_loop hx hl (goodL xs xs.length 0) n hn (by omega) xs.length k 0 0 (by omega) (by omega) (by omega) (by omega) rfl
  simpa using this
theorem rRunes_is {k : Nat} {xs : List Int} (hx : isB xs) (hl : xs.length ≤ 100000) (hk : 100200 ≤ k) : argosyref01_Runes.f k (strOfNums xs) = some (runesL xs) := by
  unfold argosyref01_Runes.f runesL
  rw [read_is hx hl (by omega), Option.bind_some]
  by_cases h : 0 ≤ badL xs xs.length 0
  · rw [if_pos h, if_pos h]
  · rw [if_neg h, if_neg h]
theorem GlyphRunes : argosylaw01_GlyphRunes.Pure := by
  intro s n hs hn
  refine ⟨200000, ?_⟩
  have hn := i64_of_wf hn
  unfold argosylaw01_GlyphRunes.f
  by_cases h : (s.size : Int) > 5000
  · rw [if_pos h, lives_is (by omega)]
    rfl
  rw [if_neg h]
  obtain ⟨xs, hx, rfl⟩ : ∃ xs, isB xs ∧ strOfNums xs = s := ⟨bytesOf s, bytesOf_isB s, son_bytesOf s⟩
  have hg := goodL_len xs xs.length 0
  have hlen : (runesL xs).1.length ≤ xs.length := by
    unfold runesL
    split
    · simp
    · exact hg
  rw [son_size] at h
  rw [Runes_is hx (by omega), Option.bind_some, rRunes_is hx (by omega) (by omega), Option.bind_some, Cut_is hx hn.2, Option.bind_some, rCut_is hx (by omega) (by omega) hn.2, Option.bind_some, Same_is (by omega) (by omega), Option.bind_some, if_pos (by simp), if_pos rfl, Bad_is hx, Option.bind_some]
  unfold argosyref01_Bad.f
  rw [read_is hx (by omega) (by omega), Option.bind_some, Option.bind_some, if_pos rfl, if_pos rfl, if_pos rfl, lives_is (by omega)]
  rfl

end Go.Proofs.Ytmjbpcoopbihhaa.Pure
