/- A text's runes put together make the text, and runes' text tells the runes. -/
import Derived.Test.YtmjbpcoopbihhaaPGlyphBackx3
import Derived.Lib.TrimUEq
set_option linter.unusedVariables false
set_option linter.unusedSimpArgs false
namespace Go.Proofs.Ytmjbpcoopbihhaa.Pure
open Go.RowKit Go.Proofs.Ytmjbpcoopbihhaa.PGlyphBack Go.Proofs.YtmjbpcoopbihhaaW.PrintWords Go.Proofs.YtmjbpcoopbihhaaW.PrintLast Go.Proofs.YtmjbpcoopbihhaaW.PrintMore

/-! ### Bytes -/
def isB (l : List Int) : Prop := ∀ x ∈ l, 0 ≤ x ∧ x < 256
theorem isB_of_wf {l : List Int} (h : ∀ x ∈ l, (Lit.int .u8 x).wf = true) : isB l := by
  intro x hx
  have := h x hx
  simp [Lit.wf, IntKind.min, IntKind.max, IntKind.bits, IntKind.signed] at this
  omega
theorem i64_of_wf {x : Int} (h : (Lit.int .i64 x).wf = true) : -9223372036854775808 ≤ x ∧ x ≤ 9223372036854775807 := by
  simp [Lit.wf, IntKind.min, IntKind.max, IntKind.bits, IntKind.signed] at h
  omega
theorem toList_loop (s : ByteArray) : ∀ (d i : Nat) (r : List UInt8), s.size - i = d → ByteArray.toList.loop s i r = r.reverse ++ s.data.toList.drop i := by
  intro d
  have hl : s.data.toList.length = s.size := Array.length_toList
  induction d with
  | zero =>
    intro i r h
    unfold ByteArray.toList.loop
    rw [if_neg (by omega), List.drop_eq_nil_of_le (by omega), List.append_nil]
  | succ d ih =>
    intro i r h
    unfold ByteArray.toList.loop
    rw [if_pos (by omega), ih (i + 1) _ (by omega)]
    have hi : i < s.data.toList.length := by omega
    rw [List.drop_eq_getElem_cons hi, List.reverse_cons, List.append_assoc]
    have : s.get! i = s.data.toList[i] := by
      have hs : i < s.size := by omega
      simp [ByteArray.get!, getElem!_pos, hs]
    rw [this]; rfl
theorem bytes_toList (s : ByteArray) : s.toList = s.data.toList := by
  unfold ByteArray.toList
  rw [toList_loop s _ 0 [] rfl]
  simp
theorem bytes_ext {a b : ByteArray} (h : a.toList = b.toList) : a = b := by
  rw [bytes_toList, bytes_toList] at h
  cases a; cases b
  congr 1
  exact Array.toList_inj.1 h
theorem son_data (xs : List Int) : (strOfNums xs).data.toList = xs.map fun n => UInt8.ofNat n.toNat := by simp [strOfNums]
theorem son_size (xs : List Int) : (strOfNums xs).size = xs.length := by simp [strOfNums, ByteArray.size]
theorem son_append (xs ys : List Int) : strOfNums (xs ++ ys) = strOfNums xs ++ strOfNums ys := by
  apply bytes_ext
  rw [bytes_toList, bytes_toList, son_data]
  simp [strOfNums]
theorem son_nil : strOfNums [] = (⟨#[]⟩ : ByteArray) := rfl
theorem u8_inj {a b : Int} (ha : 0 ≤ a ∧ a < 256) (hb : 0 ≤ b ∧ b < 256) (h : UInt8.ofNat a.toNat = UInt8.ofNat b.toNat) : a = b := by
  have := congrArg UInt8.toNat h
  simp [UInt8.toNat_ofNat'] at this
  omega
theorem map_u8_inj : ∀ {xs ys : List Int}, isB xs → isB ys → (xs.map fun n => UInt8.ofNat n.toNat) = (ys.map fun n => UInt8.ofNat n.toNat) → xs = ys
  | [], [], _, _, _ => rfl
  | [], y :: ys, _, _, h => by simp at h
  | x :: xs, [], _, _, h => by simp at h
  | x :: xs, y :: ys, hx, hy, h => by
    simp only [List.map_cons, List.cons.injEq] at h
    rw [u8_inj (hx x (by simp)) (hy y (by simp)) h.1, map_u8_inj (fun z hz => hx z (by simp [hz])) (fun z hz => hy z (by simp [hz])) h.2]
theorem son_inj {xs ys : List Int} (hx : isB xs) (hy : isB ys) (h : strOfNums xs = strOfNums ys) : xs = ys := by
  have := congrArg (fun s : ByteArray => s.data.toList) h
  simp only [son_data] at this
  exact map_u8_inj hx hy this
theorem son_toList_inj {xs ys : List Int} (hx : isB xs) (hy : isB ys) : (strOfNums xs).toList = (strOfNums ys).toList ↔ xs = ys :=
  ⟨fun h => son_inj hx hy (bytes_ext h), fun h => by rw [h]⟩
theorem son_bt {xs : List Int} (hx : isB xs) (i : Int) (h0 : 0 ≤ i) (h : i < xs.length) : bt (strOfNums xs) i = rd xs i := by
  have hi : i.toNat < xs.length := by omega
  unfold bt rd
  rw [dif_pos (by rw [son_size]; exact hi)]
  have hg : (strOfNums xs)[i.toNat]'(by rw [son_size]; exact hi) = UInt8.ofNat (xs[i.toNat]).toNat := by
    show (strOfNums xs).data[i.toNat]'_ = _
    simp [strOfNums]
  rw [hg, List.getD_eq_getElem?_getD, List.getElem?_eq_getElem hi]
  have := hx _ (List.getElem_mem hi)
  simp [UInt8.toNat_ofNat']
  omega
theorem son_extract (xs : List Int) (a b : Nat) : (strOfNums xs).extract a b = strOfNums ((xs.take b).drop a) := by
  apply bytes_ext
  rw [bytes_toList, bytes_toList, son_data]
  simp [strOfNums, ByteArray.data_extract, List.drop_take, List.map_take, List.map_drop, List.extract]
theorem isB_append {xs ys : List Int} (hx : isB xs) (hy : isB ys) : isB (xs ++ ys) := by
  intro z hz
  rcases List.mem_append.1 hz with h | h
  · exact hx z h
  · exact hy z h
theorem isB_take {xs : List Int} (h : isB xs) (n : Nat) : isB (xs.take n) := fun z hz => h z (List.mem_of_mem_take hz)
theorem isB_drop {xs : List Int} (h : isB xs) (n : Nat) : isB (xs.drop n) := fun z hz => h z (List.mem_of_mem_drop hz)
theorem rd_at {xs : List Int} (i : Int) (h0 : 0 ≤ i) (h : i < xs.length) : rd xs i = xs[i.toNat]'(by omega) := by
  unfold rd
  rw [List.getD_eq_getElem?_getD, List.getElem?_eq_getElem (by omega)]; rfl
theorem rd_isB {xs : List Int} (hx : isB xs) (i : Int) (h0 : 0 ≤ i) (h : i < xs.length) : 0 ≤ rd xs i ∧ rd xs i < 256 := by
  rw [rd_at i h0 h]
  exact hx _ (List.getElem_mem _)
theorem w64 {x : Int} (h : -9223372036854775808 ≤ x ∧ x ≤ 9223372036854775807) : wrap64 x = x := by
  unfold wrap64
  omega

/-! ### A string's bytes -/
theorem bytesOf_isB (s : ByteArray) : isB (bytesOf s) := by
  intro x hx
  unfold bytesOf at hx
  obtain ⟨b, _, rfl⟩ := List.mem_map.1 hx
  have := b.toNat_lt
  omega
theorem son_bytesOf (s : ByteArray) : strOfNums (bytesOf s) = s := by
  apply bytes_ext
  rw [bytes_toList, bytes_toList, son_data, bytesOf, List.map_map]
  have : ((fun n : Int => UInt8.ofNat n.toNat) ∘ fun b : UInt8 => (b.toNat : Int)) = id := by
    funext b
    simp
  rw [this, List.map_id]

/-! ### Numbers alike -/
theorem Same_loop (a b : List Int) (hl : a.length = b.length) (ha : a.length ≤ 1152921504606846976) : ∀ (d k i : Nat), i + d = a.length → d < k → argosyref01_Same.l0 k a b (i : Int) = some (decide (a.drop i = b.drop i)) := by
  intro d
  induction d with
  | zero =>
    intro k i hi hk
    obtain ⟨k, rfl⟩ : ∃ m, k = m + 1 := ⟨k - 1, by omega⟩
    simp only [argosyref01_Same.l0]
    rw [if_neg (by omega), List.drop_eq_nil_of_le (by omega), List.drop_eq_nil_of_le (by omega)]
    simp
  | succ d ih =>
    intro k i hi hk
    obtain ⟨k, rfl⟩ : ∃ m, k = m + 1 := ⟨k - 1, by omega⟩
    simp only [argosyref01_Same.l0]
    have h1 : i < a.length := by omega
    have h2 : i < b.length := by omega
    have hra : rd a (i : Int) = a[i] := by rw [rd_at _ (by omega) (by omega)]; rfl
    have hrb : rd b (i : Int) = b[i] := by rw [rd_at _ (by omega) (by omega)]; rfl
    rw [if_pos (by omega), if_pos (by omega), if_pos (by omega), hra, hrb, List.drop_eq_getElem_cons h1, List.drop_eq_getElem_cons h2]
    by_cases h : a[i] = b[i]
    · rw [if_pos h, w64 (by omega), show ((i : Int) + 1) = ((i + 1 : Nat) : Int) from by omega, ih k (i + 1) (by omega) (by omega)]
      rw [h]
      congr 1
      rw [decide_eq_decide]
      simp only [List.cons.injEq, true_and]
    · rw [if_neg h, decide_eq_false]
      simp only [List.cons.injEq]
      exact fun hc => h hc.1
theorem Same_is {k : Nat} {a b : List Int} (ha : a.length ≤ 1152921504606846976) (hk : a.length < k) : argosyref01_Same.f k a b = some (decide (a = b)) := by
  unfold argosyref01_Same.f
  by_cases hl : a.length = b.length
  · rw [if_pos (by omega)]
    have := Same_loop a b hl ha a.length k 0 (by omega) hk
    simpa using this
  · rw [if_neg (by omega)]
    have : a ≠ b := fun h => hl (by rw [h])
    simp [this]

/-! ### The width of a rune -/
def vrune (x : Int) : Prop := 0 ≤ x ∧ x ≤ 1114111 ∧ (x < 55296 ∨ 57343 < x)
instance (x : Int) : Decidable (vrune x) := by unfold vrune; infer_instance
def widG (x : Int) : Int := if vrune x then (if x < 128 then 1 else if x < 2048 then 2 else if x < 65536 then 3 else 4) else 0
theorem widG_bad {x : Int} (h : ¬ vrune x) : widG x = 0 := if_neg h
theorem widG_ok {x : Int} (h : vrune x) : widG x = (if x < 128 then 1 else if x < 2048 then 2 else if x < 65536 then 3 else 4) := if_pos h
theorem widG_zero (x : Int) : widG x = 0 ↔ ¬ vrune x := by
  constructor
  · intro h hv
    rw [widG_ok hv] at h
    split at h
    · omega
    · split at h
      · omega
      · split at h <;> omega
  · exact widG_bad
theorem RuneLen_is {k : Nat} (hk : 1 ≤ k) {x : Int} (h0 : 0 ≤ x) (h1 : x ≤ 1114111) : (utf8_RuneLen.f k x).bind (fun t => some (mx 0 t)) = some (widG x) := by
  obtain ⟨k, rfl⟩ : ∃ m, k = m + 1 := ⟨k - 1, by omega⟩
  unfold utf8_RuneLen.f
  have hmx : ∀ n : Int, 0 ≤ n → mx 0 n = n := fun n hn => by unfold mx; omega
  rw [if_neg (by omega)]
  by_cases a : x ≤ 127
  · rw [if_pos a, Option.bind_some, hmx 1 (by omega), widG_ok (by unfold vrune; omega), if_pos (by omega)]
  rw [if_neg a]
  by_cases b : x ≤ 2047
  · rw [if_pos b, Option.bind_some, hmx 2 (by omega), widG_ok (by unfold vrune; omega), if_neg (by omega), if_pos (by omega)]
  rw [if_neg b]
  by_cases c : 55296 ≤ x
  · rw [if_pos c]
    simp only [utf8_RuneLen.j0]
    by_cases d : x ≤ 57343
    · rw [if_pos (decide_eq_true d), Option.bind_some, widG_bad (by unfold vrune; omega)]
      rfl
    · rw [if_neg (by simpa using d)]
      by_cases e : x ≤ 65535
      · rw [if_pos e, Option.bind_some, hmx 3 (by omega), widG_ok (by unfold vrune; omega), if_neg (by omega), if_neg (by omega), if_pos (by omega)]
      · rw [if_neg e, if_pos h1, Option.bind_some, hmx 4 (by omega), widG_ok (by unfold vrune; omega), if_neg (by omega), if_neg (by omega), if_neg (by omega)]
  · rw [if_neg c]
    simp only [utf8_RuneLen.j0]
    rw [if_neg (by decide), if_pos (by omega), Option.bind_some, hmx 3 (by omega), widG_ok (by unfold vrune; omega), if_neg (by omega), if_neg (by omega), if_pos (by omega)]
theorem Width_is {k : Nat} (hk : 1 ≤ k) (x : Int) : glyph_Width.f k x = some (widG x) := by
  unfold glyph_Width.f
  by_cases a : x < 0
  · rw [if_pos a, widG_bad (by unfold vrune; omega)]
  rw [if_neg a]
  by_cases b : x > 1114111
  · rw [if_pos b, widG_bad (by unfold vrune; omega)]
  rw [if_neg b, show wrap32 x = x from by unfold wrap32; omega]
  exact RuneLen_is hk (by omega) (by omega)

/-! ### It is alive -/
theorem lv_runes : glyph_Runes.f (⟨#[97, 195, 169, 226, 130, 172]⟩ : ByteArray) = some ([97, 233, 8364], 0) := by decide +kernel
theorem lv_cut : glyph_Cut.f (⟨#[97, 195, 169, 98]⟩ : ByteArray) 2 = some (⟨#[97, 195, 169]⟩, ⟨#[98]⟩) := by decide +kernel
theorem lv_bad : glyph_Bad.f (⟨#[97, 195]⟩ : ByteArray) = some 1 := by decide +kernel
theorem lv_text {k : Nat} (hk : 3 ≤ k) : glyph_Text.f k [55296] = some (⟨#[]⟩, 2) := by
  obtain ⟨k, rfl⟩ : ∃ m, k = m + 1 := ⟨k - 1, by omega⟩
  unfold glyph_Text.f
  simp only [glyph_Text.l0]
  rw [if_pos (by decide), if_pos (by decide), if_pos (by decide), Width_is (by omega)]
  rfl
theorem lv_class {k : Nat} (hk : 3 ≤ k) : glyph_Class.f k 233 = some 1 := by
  unfold glyph_Class.f
  rw [Width_is (by omega)]
  rfl
theorem lives_is {k : Nat} (hk : 10 ≤ k) : argosylaw01_lives.f k = some true := by
  unfold argosylaw01_lives.f
  rw [lv_runes, Option.bind_some, lv_text (by omega), Option.bind_some, lv_cut, Option.bind_some, Same_is (by simp) (by simp; omega), Option.bind_some, if_pos (by decide), if_pos rfl, if_pos rfl, lv_bad, Option.bind_some, if_pos rfl, lv_class (by omega), Option.bind_some, if_pos rfl]
  rw [bytes_toList, bytes_toList, if_pos rfl]
  rfl

/-! ### A rune's bytes, and what a range over a text reads -/
open Go.Lib (decodeN)
theorem dN_pos (n b0 b1 b2 b3 : Nat) : 1 ≤ (decodeN n b0 b1 b2 b3).2 := by
  unfold decodeN
  repeat' split
  all_goals simp
theorem dN_le (n b0 b1 b2 b3 : Nat) (hn : 1 ≤ n) : (decodeN n b0 b1 b2 b3).2 ≤ n := by
  unfold decodeN
  repeat' split
  all_goals (simp only; omega)
def badN (n b0 b1 b2 b3 : Nat) : Prop := decodeN n b0 b1 b2 b3 = (65533, 1)
instance (n b0 b1 b2 b3 : Nat) : Decidable (badN n b0 b1 b2 b3) := by unfold badN; infer_instance
theorem dN_good (n b0 b1 b2 b3 : Nat) (h0 : b0 < 256) (h : ¬ badN n b0 b1 b2 b3) : vrune ((decodeN n b0 b1 b2 b3).1 : Int) ∧ widG ((decodeN n b0 b1 b2 b3).1 : Int) = ((decodeN n b0 b1 b2 b3).2 : Int) := by
  have key : ∀ (r w : Nat), vrune (r : Int) → (if (r : Int) < 128 then (1 : Int) else if (r : Int) < 2048 then 2 else if (r : Int) < 65536 then 3 else 4) = (w : Int) → vrune (((r, w) : Nat × Nat).1 : Int) ∧ widG (((r, w) : Nat × Nat).1 : Int) = (((r, w) : Nat × Nat).2 : Int) := fun r w h1 h2 => ⟨h1, by rw [widG_ok h1]; exact h2⟩
  unfold badN at h
  revert h
  unfold decodeN
  by_cases c0 : b0 < 128
  · rw [if_pos c0]
    exact fun _ => key _ _ (by unfold vrune; omega) (by rw [if_pos (by omega)]; rfl)
  rw [if_neg c0]
  by_cases c1 : b0 / 32 = 6 ∧ (1 < n ∧ b1 / 64 = 2)
  · rw [if_pos c1]
    by_cases c2 : b0 % 32 * 64 + b1 % 64 ≥ 128
    · rw [if_pos c2]
      exact fun _ => key _ _ (by unfold vrune; omega) (by rw [if_neg (by omega), if_pos (by omega)]; rfl)
    · rw [if_neg c2]; exact fun h => absurd rfl h
  rw [if_neg c1]
  by_cases c2 : b0 / 16 = 14 ∧ (1 < n ∧ b1 / 64 = 2) ∧ (2 < n ∧ b2 / 64 = 2)
  · rw [if_pos c2]
    split
    · rename_i c3
      exact fun _ => key _ _ (by unfold vrune; omega) (by rw [if_neg (by omega), if_neg (by omega), if_pos (by omega)]; rfl)
    · exact fun h => absurd rfl h
  rw [if_neg c2]
  by_cases c3 : b0 / 8 = 30 ∧ (1 < n ∧ b1 / 64 = 2) ∧ (2 < n ∧ b2 / 64 = 2) ∧ (3 < n ∧ b3 / 64 = 2)
  · rw [if_pos c3]
    split
    · rename_i c4
      exact fun _ => key _ _ (by unfold vrune; omega) (by rw [if_neg (by omega), if_neg (by omega), if_neg (by omega)]; rfl)
    · exact fun h => absurd rfl h
  rw [if_neg c3]
  exact fun h => absurd rfl h
theorem dN_fffd (n b0 b1 b2 b3 : Nat) (h0 : b0 < 256) (h1 : b1 < 256) (h2 : b2 < 256) (h3 : b3 < 256) (h : (decodeN n b0 b1 b2 b3).1 = 65533) : ¬ badN n b0 b1 b2 b3 ↔ (3 ≤ n ∧ b0 = 239 ∧ b1 = 191 ∧ b2 = 189) := by
  have key : ∀ (r w : Nat), (((r, w) : Nat × Nat)).1 = 65533 → (¬ ((r, w) : Nat × Nat) = (65533, 1) ↔ w ≠ 1) := fun r w h => by
    simp only at h
    subst h
    simp
  unfold badN
  revert h
  unfold decodeN
  by_cases c0 : b0 < 128
  · rw [if_pos c0]; intro h; rw [key _ _ h]; simp only at h; omega
  rw [if_neg c0]
  by_cases c1 : b0 / 32 = 6 ∧ (1 < n ∧ b1 / 64 = 2)
  · rw [if_pos c1]
    by_cases c2 : b0 % 32 * 64 + b1 % 64 ≥ 128
    · rw [if_pos c2]; intro h; rw [key _ _ h]; simp only at h; omega
    · rw [if_neg c2]; intro h; rw [key _ _ h]; omega
  rw [if_neg c1]
  by_cases c2 : b0 / 16 = 14 ∧ (1 < n ∧ b1 / 64 = 2) ∧ (2 < n ∧ b2 / 64 = 2)
  · rw [if_pos c2]
    split
    · rename_i c3; intro h; rw [key _ _ h]; simp only at h; omega
    · rename_i c3; intro h; rw [key _ _ h]; omega
  rw [if_neg c2]
  by_cases c3 : b0 / 8 = 30 ∧ (1 < n ∧ b1 / 64 = 2) ∧ (2 < n ∧ b2 / 64 = 2) ∧ (3 < n ∧ b3 / 64 = 2)
  · rw [if_pos c3]
    split
    · rename_i c4; intro h; rw [key _ _ h]; simp only at h; omega
    · rename_i c4; intro h; rw [key _ _ h]; omega
  rw [if_neg c3]
  intro h; rw [key _ _ h]; omega
/-- Byte i of a row, 0 beyond its end. -/
def gb (xs : List Int) (i : Nat) : Nat := (xs.getD i 0).toNat
theorem gb_lt {xs : List Int} (hx : isB xs) (i : Nat) : gb xs i < 256 := by
  unfold gb
  rw [List.getD_eq_getElem?_getD]
  by_cases h : i < xs.length
  · rw [List.getElem?_eq_getElem h]
    have := hx _ (List.getElem_mem h)
    simp only [Option.getD_some]
    omega
  · rw [List.getElem?_eq_none (by omega)]
    simp
theorem gb_drop (xs : List Int) (p i : Nat) : gb (xs.drop p) i = gb xs (p + i) := by
  unfold gb
  simp [List.getD_eq_getElem?_getD, List.getElem?_drop]
theorem dec_at {xs : List Int} (hx : isB xs) (p : Nat) : Utf8.decode (strOfNums xs) p = decodeN (xs.length - p) (gb xs p) (gb xs (p + 1)) (gb xs (p + 2)) (gb xs (p + 3)) := by
  rw [Go.Lib.decode_N, son_data, List.length_map]
  have : ∀ i : Nat, ((xs.map fun n => UInt8.ofNat n.toNat).getD i 0).toNat = gb xs i := by
    intro i
    have hl := gb_lt hx i
    have key : ∀ o : Option Int, (o.getD 0).toNat < 256 → ((o.map fun n => UInt8.ofNat n.toNat).getD 0).toNat = (o.getD 0).toNat := by
      intro o ho
      cases o with
      | none => rfl
      | some v =>
        simp only [Option.map_some, Option.getD_some, UInt8.toNat_ofNat'] at ho ⊢
        omega
    unfold gb at hl ⊢
    rw [List.getD_eq_getElem?_getD] at hl
    rw [List.getD_eq_getElem?_getD, List.getD_eq_getElem?_getD, List.getElem?_map]
    exact key _ hl
  rw [this, this, this, this]
/-- What stands at place p: nothing to be read (a broken byte). -/
def badAt (xs : List Int) (p : Nat) : Prop := badN (xs.length - p) (gb xs p) (gb xs (p + 1)) (gb xs (p + 2)) (gb xs (p + 3))
instance (xs : List Int) (p : Nat) : Decidable (badAt xs p) := by unfold badAt; infer_instance
def runeAt (xs : List Int) (p : Nat) : Int := ((decodeN (xs.length - p) (gb xs p) (gb xs (p + 1)) (gb xs (p + 2)) (gb xs (p + 3))).1 : Int)
def widAt (xs : List Int) (p : Nat) : Nat := (decodeN (xs.length - p) (gb xs p) (gb xs (p + 1)) (gb xs (p + 2)) (gb xs (p + 3))).2
theorem widAt_pos (xs : List Int) (p : Nat) : 1 ≤ widAt xs p := dN_pos _ _ _ _ _
theorem widAt_le (xs : List Int) (p : Nat) (h : p < xs.length) : p + widAt xs p ≤ xs.length := by
  have := dN_le (xs.length - p) (gb xs p) (gb xs (p + 1)) (gb xs (p + 2)) (gb xs (p + 3)) (by omega)
  unfold widAt
  omega
theorem good_at {xs : List Int} (hx : isB xs) {p : Nat} (h : ¬ badAt xs p) : vrune (runeAt xs p) ∧ widG (runeAt xs p) = (widAt xs p : Int) := dN_good _ _ _ _ _ (gb_lt hx _) h
theorem dec_rune {xs : List Int} (hx : isB xs) (p : Nat) : (((Utf8.decode (strOfNums xs) p).1 : Nat) : Int) = runeAt xs p := by rw [dec_at hx]; rfl
theorem dec_wid {xs : List Int} (hx : isB xs) (p : Nat) : (Utf8.decode (strOfNums xs) p).2 = widAt xs p := by rw [dec_at hx]; rfl
theorem take3 (xs : List Int) (p : Nat) : ((xs.drop p).take 3 = [239, 191, 189]) ↔ (3 ≤ xs.length - p ∧ xs.getD p 0 = 239 ∧ xs.getD (p + 1) 0 = 191 ∧ xs.getD (p + 2) 0 = 189) := by
  have e : ∀ i, xs.getD (p + i) 0 = (xs.drop p).getD i 0 := fun i => by simp [List.getD_eq_getElem?_getD, List.getElem?_drop]
  have hl : (xs.drop p).length = xs.length - p := by simp
  have e0 := e 0
  rw [Nat.add_zero] at e0
  rw [e0, e 1, e 2, ← hl]
  generalize xs.drop p = ys
  rcases ys with _ | ⟨a, _ | ⟨b, _ | ⟨c, ys⟩⟩⟩ <;> simp
theorem brk_at {xs : List Int} (hx : isB xs) (p : Nat) (hp : p ≤ xs.length) (r : Nat) (hr : (r : Int) = runeAt xs p) : brk (strOfNums xs) (p, r) = decide (badAt xs p) := by
  unfold brk glyph_broken.f
  simp only
  by_cases h : (r : Int) = 65533
  · have hk := dN_fffd (xs.length - p) (gb xs p) (gb xs (p + 1)) (gb xs (p + 2)) (gb xs (p + 3)) (gb_lt hx _) (gb_lt hx _) (gb_lt hx _) (gb_lt hx _) (by have := hr.symm.trans h; unfold runeAt at this; omega)
    have hsz := son_size xs
    rw [if_pos h, if_pos (by omega), if_pos (by omega), Int.toNat_natCast, son_extract, hsz, List.take_length]
    have e3 : (⟨#[239, 191, 189]⟩ : ByteArray) = strOfNums [239, 191, 189] := rfl
    have hs3 : (strOfNums [239, 191, 189]).size = 3 := rfl
    have i3 : isB [239, 191, 189] := by intro x hx; simp at hx; omega
    have hgb : ∀ i v, v < 256 → 0 ≤ v → (gb xs i = v.toNat ↔ (xs.getD i 0) = v) := by
      intro i v h1 h2
      unfold gb
      by_cases hi : i < xs.length
      · rw [List.getD_eq_getElem?_getD, List.getElem?_eq_getElem hi]
        have := hx _ (List.getElem_mem hi)
        simp only [Option.getD_some]
        omega
      · rw [List.getD_eq_getElem?_getD, List.getElem?_eq_none (by omega)]
        simp only [Option.getD_none]
        omega
    have hz : (strOfNums (xs.drop p)).size = xs.length - p := by rw [son_size]; simp
    have ht := take3 xs p
    rw [← hgb p 239 (by omega) (by omega), ← hgb (p + 1) 191 (by omega) (by omega), ← hgb (p + 2) 189 (by omega) (by omega)] at ht
    have hall := hk.trans ht.symm
    unfold strings_HasPrefix.f stringslite_HasPrefix.f
    rw [e3, hs3, hz]
    by_cases hc : ((xs.length - p : Nat) : Int) ≥ ((3 : Nat) : Int)
    · rw [if_pos hc, if_pos (by omega), if_pos (by omega), Int.toNat_natCast, son_extract]
      simp only [Option.bind_some, Option.getD_some, List.drop_zero]
      rw [Bool.eq_iff_iff, Bool.not_eq_true', beq_eq_false_iff_ne, decide_eq_true_iff, Ne, son_toList_inj (isB_take (isB_drop hx _) _) i3, ← hall, Decidable.not_not]
      rfl
    · rw [if_neg hc]
      simp only [Option.bind_some, Option.getD_some, Bool.not_false]
      rw [eq_comm, decide_eq_true_iff]
      refine Decidable.of_not_not fun hb => ?_
      have := (hk.1 hb).1
      omega
  · rw [if_neg h, Option.getD_some, eq_comm, decide_eq_false_iff_not]
    intro hb
    refine h (hr.trans ?_)
    unfold badAt badN at hb
    unfold runeAt
    rw [hb]
    rfl

/-! ### The loops over a text -/
def goodL (xs : List Int) : Nat → Nat → List Int
  | 0, _ => []
  | d + 1, p => if p < xs.length then (if badAt xs p then [] else runeAt xs p :: goodL xs d (p + widAt xs p)) else []
def badL (xs : List Int) : Nat → Nat → Int
  | 0, _ => -1
  | d + 1, p => if p < xs.length then (if badAt xs p then (p : Int) else badL xs d (p + widAt xs p)) else -1
def cutL (xs : List Int) : Nat → Nat → Int → Nat
  | 0, _, _ => xs.length
  | d + 1, p, n => if p < xs.length then (if n ≤ 0 then p else if badAt xs p then p else cutL xs d (p + widAt xs p) (n - 1)) else xs.length
theorem goodL_len (xs : List Int) : ∀ d p, (goodL xs d p).length ≤ d
  | 0, p => by simp [goodL]
  | d + 1, p => by
    rw [goodL]
    split
    · split
      · simp
      · have := goodL_len xs d (p + widAt xs p)
        simp; omega
    · simp
theorem goodL_v {xs : List Int} (hx : isB xs) : ∀ d p, ∀ r ∈ goodL xs d p, vrune r
  | 0, p => by simp [goodL]
  | d + 1, p => by
    rw [goodL]
    split
    · split
      · simp
      · rename_i hb
        intro r hr
        rcases List.mem_cons.1 hr with rfl | hr
        · exact (good_at hx hb).1
        · exact goodL_v hx d _ r hr
    · simp
theorem badG_is {xs : List Int} (hx : isB xs) : ∀ d p, p ≤ xs.length → badG (strOfNums xs) d p = badL xs d p
  | 0, p, _ => rfl
  | d + 1, p, hp => by
    rw [badG, badL, son_size]
    by_cases h : p < xs.length
    · rw [if_pos h, if_pos h, brk_at hx p hp _ (dec_rune hx p), dec_wid hx]
      by_cases hb : badAt xs p
      · rw [if_pos (decide_eq_true hb), if_pos hb]
      · rw [if_neg (by simpa using hb), if_neg hb, badG_is hx d _ (widAt_le xs p h)]
    · rw [if_neg h, if_neg h]
theorem badL_range (xs : List Int) : ∀ d p, badL xs d p = -1 ∨ (0 ≤ badL xs d p ∧ badL xs d p < xs.length)
  | 0, p => .inl rfl
  | d + 1, p => by
    rw [badL]
    split
    · split
      · exact .inr ⟨by omega, by omega⟩
      · exact badL_range xs d _
    · exact .inl rfl
theorem runesG_is {xs : List Int} (hx : isB xs) : ∀ d p, badL xs d p < 0 → runesG (strOfNums xs) d p = goodL xs d p
  | 0, p, _ => rfl
  | d + 1, p, hb0 => by
    rw [badL] at hb0
    rw [runesG, goodL, son_size]
    by_cases h : p < xs.length
    · rw [if_pos h] at hb0
      rw [if_pos h, if_pos h, dec_rune hx, dec_wid hx]
      by_cases hb : badAt xs p
      · rw [if_pos hb] at hb0; omega
      · rw [if_neg hb] at hb0
        have hv := (good_at hx hb).1
        unfold vrune at hv
        rw [if_neg hb, w64 (by omega), runesG_is hx d _ hb0]
    · rw [if_neg h, if_neg h]
/-- The runes of a text. -/
def runesL (xs : List Int) : List Int × Int := if 0 ≤ badL xs xs.length 0 then ([], 4) else (goodL xs xs.length 0, 0)
theorem Runes_is {xs : List Int} (hx : isB xs) (hl : xs.length < 17592186044416) : glyph_Runes.f (strOfNums xs) = some (runesL xs) := by
  unfold glyph_Runes.f runesF runesE tornG runesL
  rw [son_size, if_pos hl, badG_is hx _ _ (by omega)]
  by_cases h : 0 ≤ badL xs xs.length 0
  · rw [if_pos (decide_eq_true h), if_pos (decide_eq_true h), if_pos h]
  · rw [if_neg (by simpa using h), if_neg (by simpa using h), if_neg h, runesG_is hx _ _ (by omega)]
theorem Bad_is {xs : List Int} (hx : isB xs) : glyph_Bad.f (strOfNums xs) = some (badL xs xs.length 0) := by
  unfold glyph_Bad.f
  rw [son_size, badG_is hx _ _ (by omega)]
theorem cutG_is {xs : List Int} (hx : isB xs) : ∀ d p (n : Int), p ≤ xs.length → xs.length ≤ p + d → n ≤ 9223372036854775807 → cutP (strOfNums xs) (cutG (strOfNums xs) d p n) = (strOfNums (xs.take (cutL xs d p n)), strOfNums (xs.drop (cutL xs d p n)))
  | 0, p, n, hp, _, _ => by
    rw [cutG, cutL, cutP, List.take_length, List.drop_length]
    rfl
  | d + 1, p, n, hp, hd, hn => by
    have e : cutP (strOfNums xs) (some p) = (strOfNums (xs.take p), strOfNums (xs.drop p)) := by
      rw [cutP, son_size, son_extract, son_extract, List.drop_zero, List.take_length]
    rw [cutG, cutL, son_size]
    by_cases h : p < xs.length
    · rw [if_pos h, if_pos h, brk_at hx p hp _ (dec_rune hx p), dec_wid hx]
      by_cases h0 : n ≤ 0
      · rw [if_pos h0, if_pos h0]; exact e
      rw [if_neg h0, if_neg h0]
      by_cases hb : badAt xs p
      · rw [if_pos (decide_eq_true hb), if_pos hb]; exact e
      · have := widAt_pos xs p
        rw [if_neg (by simpa using hb), if_neg hb, w64 (by omega), cutG_is hx d _ _ (widAt_le xs p h) (by omega) (by omega)]
    · rw [if_neg h, if_neg h, cutP, List.take_length, List.drop_length]
      rfl
theorem Cut_is {xs : List Int} (hx : isB xs) {n : Int} (hn : n ≤ 9223372036854775807) : glyph_Cut.f (strOfNums xs) n = some (strOfNums (xs.take (cutL xs xs.length 0 n)), strOfNums (xs.drop (cutL xs xs.length 0 n))) := by
  unfold glyph_Cut.f
  rw [son_size, cutG_is hx _ _ _ (by omega) (by omega) hn]

/-! ### A rune is told by its own bytes alone -/
theorem dN_local (n n' b0 b1 b2 b3 c1 c2 c3 : Nat) (h : ¬ badN n b0 b1 b2 b3) (hw : (decodeN n b0 b1 b2 b3).2 ≤ n') (e1 : 2 ≤ (decodeN n b0 b1 b2 b3).2 → c1 = b1) (e2 : 3 ≤ (decodeN n b0 b1 b2 b3).2 → c2 = b2) (e3 : 4 ≤ (decodeN n b0 b1 b2 b3).2 → c3 = b3) : decodeN n' b0 c1 c2 c3 = decodeN n b0 b1 b2 b3 := by
  unfold badN at h
  revert h hw e1 e2 e3
  generalize hD : decodeN n b0 b1 b2 b3 = D
  unfold decodeN at hD
  by_cases a0 : b0 < 128
  · rw [if_pos a0] at hD
    subst hD
    intro _ _ _ _ _
    unfold decodeN
    rw [if_pos a0]
  rw [if_neg a0] at hD
  by_cases a1 : b0 / 32 = 6 ∧ (1 < n ∧ b1 / 64 = 2)
  · rw [if_pos a1] at hD
    split at hD
    · rename_i g
      subst hD
      intro _ hw e1 _ _
      simp only at hw e1
      have e1 := e1 (by omega)
      subst e1
      unfold decodeN
      rw [if_neg a0, if_pos (by omega), if_pos g]
    · subst hD; intro h; exact absurd rfl h
  rw [if_neg a1] at hD
  by_cases a2 : b0 / 16 = 14 ∧ (1 < n ∧ b1 / 64 = 2) ∧ (2 < n ∧ b2 / 64 = 2)
  · rw [if_pos a2] at hD
    split at hD
    · rename_i g
      subst hD
      intro _ hw e1 e2 _
      simp only at hw e1 e2
      have e1 := e1 (by omega)
      have e2 := e2 (by omega)
      subst e1 e2
      unfold decodeN
      rw [if_neg a0, if_neg (by omega), if_pos (by omega), if_pos g]
    · subst hD; intro h; exact absurd rfl h
  rw [if_neg a2] at hD
  by_cases a3 : b0 / 8 = 30 ∧ (1 < n ∧ b1 / 64 = 2) ∧ (2 < n ∧ b2 / 64 = 2) ∧ (3 < n ∧ b3 / 64 = 2)
  · rw [if_pos a3] at hD
    split at hD
    · rename_i g
      subst hD
      intro _ hw e1 e2 e3
      simp only at hw e1 e2 e3
      have e1 := e1 (by omega)
      have e2 := e2 (by omega)
      have e3 := e3 (by omega)
      subst e1 e2 e3
      unfold decodeN
      rw [if_neg a0, if_neg (by omega), if_neg (by omega), if_pos (by omega), if_pos g]
    · subst hD; intro h; exact absurd rfl h
  rw [if_neg a3] at hD
  subst hD
  intro h; exact absurd rfl h
theorem loc {xs ys : List Int} {p q : Nat} (h : ¬ badAt xs p) (hl : q + widAt xs p ≤ ys.length) (he : ∀ i, i < widAt xs p → gb ys (q + i) = gb xs (p + i)) : ¬ badAt ys q ∧ runeAt ys q = runeAt xs p ∧ widAt ys q = widAt xs p := by
  have hw := widAt_pos xs p
  have e0 : gb ys q = gb xs p := he 0 hw
  have e := dN_local (xs.length - p) (ys.length - q) (gb xs p) (gb xs (p + 1)) (gb xs (p + 2)) (gb xs (p + 3)) (gb ys (q + 1)) (gb ys (q + 2)) (gb ys (q + 3)) h (by unfold widAt at hl; omega) (fun g => he 1 (by unfold widAt; omega)) (fun g => he 2 (by unfold widAt; omega)) (fun g => he 3 (by unfold widAt; omega))
  rw [← e0] at e
  have e' : decodeN (ys.length - q) (gb ys q) (gb ys (q + 1)) (gb ys (q + 2)) (gb ys (q + 3)) = decodeN (xs.length - p) (gb xs p) (gb xs (p + 1)) (gb xs (p + 2)) (gb xs (p + 3)) := by rw [← e0]; exact e
  refine ⟨?_, ?_, ?_⟩
  · unfold badAt badN at h ⊢
    rw [e']
    exact h
  · unfold runeAt
    rw [e']
  · unfold widAt
    rw [e']
theorem gb_take (xs : List Int) (c i : Nat) (h : i < c) : gb (xs.take c) i = gb xs i := by
  unfold gb
  simp [List.getD_eq_getElem?_getD, List.getElem?_take, h]
theorem gb_left (xs ys : List Int) (i : Nat) (h : i < xs.length) : gb (xs ++ ys) i = gb xs i := by
  unfold gb
  simp [List.getD_eq_getElem?_getD, List.getElem?_append_left h]
theorem gb_right (xs ys : List Int) (i : Nat) : gb (xs ++ ys) (xs.length + i) = gb ys i := by
  unfold gb
  simp [List.getD_eq_getElem?_getD, List.getElem?_append_right]
theorem badAt_drop (xs : List Int) (c : Nat) : badAt (xs.drop c) 0 ↔ badAt xs c := by
  unfold badAt
  rw [gb_drop, gb_drop, gb_drop, gb_drop, List.length_drop]
  rfl
theorem goodL_end (xs : List Int) (d p : Nat) (h : ¬ p < xs.length) : goodL xs d p = [] := by cases d <;> simp [goodL, h]
theorem badL_end (xs : List Int) (d p : Nat) (h : ¬ p < xs.length) : badL xs d p = -1 := by cases d <;> simp [badL, h]

/-! ### The reference's bytes of one rune -/
def encL (x : Int) : List Int := if x < 128 then [x] else if x < 2048 then [192 + x / 64, 128 + x % 64] else if x < 65536 then [224 + x / 4096, 128 + x / 64 % 64, 128 + x % 64] else [240 + x / 262144, 128 + x / 4096 % 64, 128 + x / 64 % 64, 128 + x % 64]
theorem encL_isB {x : Int} (h : vrune x) : isB (encL x) := by
  unfold vrune at h
  unfold encL
  split
  · intro z hz; simp only [List.mem_singleton] at hz; omega
  · split
    · intro z hz; simp only [List.mem_cons, List.not_mem_nil, or_false] at hz; omega
    · split
      · intro z hz; simp only [List.mem_cons, List.not_mem_nil, or_false] at hz; omega
      · intro z hz; simp only [List.mem_cons, List.not_mem_nil, or_false] at hz; omega
theorem encL_len {x : Int} (h : vrune x) : ((encL x).length : Int) = widG x := by
  rw [widG_ok h]
  unfold encL
  split
  · rfl
  · split
    · rfl
    · split <;> rfl

/-! ### The bytes of runes -/
theorem or128 (y : Int) (h : 0 ≤ y ∧ y < 256) : Go.bits .or .u8 128 (Go.bits .and .u8 y 63) = 128 + y % 64 := by
  have : ∀ n : Fin 256, Go.bits .or .u8 128 (Go.bits .and .u8 ((n.val : Nat) : Int) 63) = 128 + ((n.val : Nat) : Int) % 64 := by decide +kernel
  have := this ⟨y.toNat, by omega⟩
  simpa [show ((y.toNat : Nat) : Int) = y from by omega] using this
theorem or192 (y : Int) (h : 0 ≤ y ∧ y < 32) : Go.bits .or .u8 192 y = 192 + y := by
  have : ∀ n : Fin 32, Go.bits .or .u8 192 ((n.val : Nat) : Int) = 192 + ((n.val : Nat) : Int) := by decide +kernel
  have := this ⟨y.toNat, by omega⟩
  simpa [show ((y.toNat : Nat) : Int) = y from by omega] using this
theorem or224 (y : Int) (h : 0 ≤ y ∧ y < 16) : Go.bits .or .u8 224 y = 224 + y := by
  have : ∀ n : Fin 16, Go.bits .or .u8 224 ((n.val : Nat) : Int) = 224 + ((n.val : Nat) : Int) := by decide +kernel
  have := this ⟨y.toNat, by omega⟩
  simpa [show ((y.toNat : Nat) : Int) = y from by omega] using this
theorem or240 (y : Int) (h : 0 ≤ y ∧ y < 8) : Go.bits .or .u8 240 y = 240 + y := by
  have : ∀ n : Fin 8, Go.bits .or .u8 240 ((n.val : Nat) : Int) = 240 + ((n.val : Nat) : Int) := by decide +kernel
  have := this ⟨y.toNat, by omega⟩
  simpa [show ((y.toNat : Nat) : Int) = y from by omega] using this
theorem AppendRune_is {k : Nat} (hk : 2 ≤ k) (l : List Int) (hl : l.length ≤ 1000000000) {x : Int} (hv : vrune x) : utf8_AppendRune.f k l x = some (l ++ encL x) := by
  obtain ⟨k, rfl⟩ : ∃ m, k = m + 1 := ⟨k - 1, by omega⟩
  unfold vrune at hv
  have e : x % 4294967296 = x := by omega
  unfold utf8_AppendRune.f encL
  rw [e]
  by_cases a : x ≤ 127
  · rw [if_pos a, if_pos (by omega), if_pos (by omega), show x % 256 = x from by omega]
  rw [if_neg a, if_neg (c := x < 128) (by omega)]
  unfold utf8_appendRuneNonASCII.f
  rw [e]
  by_cases b : x ≤ 2047
  · rw [if_pos b, if_pos (by omega), Option.bind_some, if_pos (by simp; omega), Option.bind_some, or192 _ (by omega), or128 _ (by omega), show x / 64 % 256 = x / 64 from by omega, show x % 256 % 64 = x % 64 from by omega]
  rw [if_neg b, if_neg (c := x < 2048) (by omega)]
  have three : x ≤ 65535 → (some ([Go.bits .or .u8 224 (x / 4096 % 256), Go.bits .or .u8 128 (Go.bits .and .u8 (x / 64 % 256) 63), Go.bits .or .u8 128 (Go.bits .and .u8 (x % 256) 63)] : List Int)).bind (fun y114 => (if l.length + y114.length < 140737488355328 then (some (l ++ y114)) else (none))) = some (l ++ (if x < 65536 then [224 + x / 4096, 128 + x / 64 % 64, 128 + x % 64] else [240 + x / 262144, 128 + x / 4096 % 64, 128 + x / 64 % 64, 128 + x % 64])) := by
    intro h
    rw [if_pos (c := x < 65536) (by omega), Option.bind_some, if_pos (by simp; omega), or224 _ (by omega), or128 _ (by omega), or128 _ (by omega), show x / 4096 % 256 = x / 4096 from by omega, show x / 64 % 256 % 64 = x / 64 % 64 from by omega, show x % 256 % 64 = x % 64 from by omega]
  by_cases c : x < 55296
  · rw [if_pos c, decide_eq_true c, utf8_appendRuneNonASCII.j0, if_pos rfl, three (by omega), Option.bind_some]
  rw [if_neg c, if_pos (by omega)]
  by_cases d : x ≤ 65535
  · rw [decide_eq_true d, utf8_appendRuneNonASCII.j0, if_pos rfl, three d, Option.bind_some]
  · rw [decide_eq_false d, utf8_appendRuneNonASCII.j0, if_neg (by decide), if_pos (by omega), if_pos (by omega), Option.bind_some, if_pos (by simp; omega), Option.bind_some, if_neg (c := x < 65536) (by omega), or240 _ (by omega), or128 _ (by omega), or128 _ (by omega), or128 _ (by omega), show x / 262144 % 256 = x / 262144 from by omega, show x / 4096 % 256 % 64 = x / 4096 % 64 from by omega, show x / 64 % 256 % 64 = x / 64 % 64 from by omega, show x % 256 % 64 = x % 64 from by omega]
theorem encL_len4 (x : Int) : (encL x).length ≤ 4 := by
  unfold encL
  split
  · simp
  · split
    · simp
    · split <;> simp
def textL (l : List Int) : ByteArray × Int := if ∀ r ∈ l, vrune r then (strOfNums (l.flatMap encL), 0) else (⟨#[]⟩, 2)
theorem Text_loop (L : List Int) (hL : L.length ≤ 100000) : ∀ (d k i : Nat) (acc : List Int), i + d = L.length → d + 10 ≤ k → acc.length + 4 * d ≤ 10000000 → glyph_Text.l0 k acc L (L.length : Int) (i : Int) = some (if ∀ r ∈ L.drop i, vrune r then (strOfNums (acc ++ (L.drop i).flatMap encL), 0) else (⟨#[]⟩, 2)) := by
  intro d
  induction d with
  | zero =>
    intro k i acc hi hk ha
    obtain ⟨k, rfl⟩ : ∃ m, k = m + 1 := ⟨k - 1, by omega⟩
    rw [glyph_Text.l0, if_neg (by omega), List.drop_eq_nil_of_le (by omega), if_pos (by simp)]
    simp
  | succ d ih =>
    intro k i acc hi hk ha
    obtain ⟨k, rfl⟩ : ∃ m, k = m + 1 := ⟨k - 1, by omega⟩
    have hiL : i < L.length := by omega
    have hr : rd L (i : Int) = L[i] := by rw [rd_at _ (by omega) (by omega)]; rfl
    rw [glyph_Text.l0, if_pos (by omega), if_pos (by omega), if_pos (by omega), hr, Width_is (by omega), Option.bind_some, List.drop_eq_getElem_cons hiL]
    generalize L[i] = x
    by_cases hv : vrune x
    · have hv' := hv
      unfold vrune at hv'
      have h4 := encL_len4 x
      rw [if_neg (fun h => (widG_zero x).1 h hv), show wrap32 x = x from by unfold wrap32; omega, AppendRune_is (by omega) acc (by omega) hv, Option.bind_some, w64 (by omega), show (i : Int) + 1 = ((i + 1 : Nat) : Int) from by omega, ih k (i + 1) _ (by omega) (by omega) (by rw [List.length_append]; omega), List.flatMap_cons, List.append_assoc]
      congr 1
      by_cases hall : ∀ r ∈ L.drop (i + 1), vrune r
      · rw [if_pos hall, if_pos (by intro r hr; rcases List.mem_cons.1 hr with rfl | hr; exact hv; exact hall r hr)]
      · rw [if_neg hall, if_neg (fun h => hall fun r hr => h r (List.mem_cons_of_mem _ hr))]
    · rw [if_pos (widG_bad hv), if_neg (fun h => hv (h x List.mem_cons_self))]
theorem Text_is {k : Nat} {l : List Int} (hl : l.length ≤ 100000) (hk : 100100 ≤ k) : glyph_Text.f k l = some (textL l) := by
  unfold glyph_Text.f textL
  have := Text_loop l hl l.length k 0 [] (by omega) (by omega) (by simp; omega)
  simpa using this

theorem enc_dec (n a b c d : Nat) (ha : a < 256) (hb : b < 256) (hc : c < 256) (hd : d < 256) (h : ¬ badN n a b c d) : encL ((decodeN n a b c d).1 : Int) = ([(a : Int), b, c, d]).take (decodeN n a b c d).2 := by
  have key : ∀ (r w : Nat) (l : List Int), decodeN n a b c d = (r, w) → encL (r : Int) = l → l = ([(a : Int), b, c, d]).take w → encL ((decodeN n a b c d).1 : Int) = ([(a : Int), b, c, d]).take (decodeN n a b c d).2 := fun r w l e h1 h2 => by rw [e, h1]; exact h2
  have bad : decodeN n a b c d = (65533, 1) → encL ((decodeN n a b c d).1 : Int) = ([(a : Int), b, c, d]).take (decodeN n a b c d).2 := fun e => absurd e h
  have hD : decodeN n a b c d = (if a < 128 then (a, 1)
    else if a / 32 = 6 ∧ (1 < n ∧ b / 64 = 2) then (if a % 32 * 64 + b % 64 ≥ 128 then (a % 32 * 64 + b % 64, 2) else (65533, 1))
    else if a / 16 = 14 ∧ (1 < n ∧ b / 64 = 2) ∧ (2 < n ∧ c / 64 = 2) then (if a % 16 * 4096 + b % 64 * 64 + c % 64 ≥ 2048 ∧ (a % 16 * 4096 + b % 64 * 64 + c % 64 < 55296 ∨ (57344 ≤ a % 16 * 4096 + b % 64 * 64 + c % 64 ∧ a % 16 * 4096 + b % 64 * 64 + c % 64 ≤ 1114111)) then (a % 16 * 4096 + b % 64 * 64 + c % 64, 3) else (65533, 1))
    else if a / 8 = 30 ∧ (1 < n ∧ b / 64 = 2) ∧ (2 < n ∧ c / 64 = 2) ∧ (3 < n ∧ d / 64 = 2) then (if a % 8 * 262144 + b % 64 * 4096 + c % 64 * 64 + d % 64 ≥ 65536 ∧ (a % 8 * 262144 + b % 64 * 4096 + c % 64 * 64 + d % 64 < 55296 ∨ (57344 ≤ a % 8 * 262144 + b % 64 * 4096 + c % 64 * 64 + d % 64 ∧ a % 8 * 262144 + b % 64 * 4096 + c % 64 * 64 + d % 64 ≤ 1114111)) then (a % 8 * 262144 + b % 64 * 4096 + c % 64 * 64 + d % 64, 4) else (65533, 1))
    else (65533, 1)) := rfl
  by_cases c0 : a < 128
  · rw [if_pos c0] at hD
    exact key _ _ [((a : Nat) : Int)] hD (by unfold encL; rw [if_pos (by omega)]) rfl
  rw [if_neg c0] at hD
  by_cases c1 : a / 32 = 6 ∧ (1 < n ∧ b / 64 = 2)
  · rw [if_pos c1] at hD
    by_cases c2 : a % 32 * 64 + b % 64 ≥ 128
    · rw [if_pos c2] at hD
      refine key _ _ [((a : Nat) : Int), b] hD ?_ rfl
      clear key bad hD
      generalize hx : a % 32 * 64 + b % 64 = x at *
      unfold encL
      rw [if_neg (by omega), if_pos (by omega), show 192 + (x : Int) / 64 = (a : Int) from by omega, show 128 + (x : Int) % 64 = (b : Int) from by omega]
    · rw [if_neg c2] at hD; exact bad hD
  rw [if_neg c1] at hD
  by_cases c2 : a / 16 = 14 ∧ (1 < n ∧ b / 64 = 2) ∧ (2 < n ∧ c / 64 = 2)
  · rw [if_pos c2] at hD
    by_cases c3 : a % 16 * 4096 + b % 64 * 64 + c % 64 ≥ 2048 ∧ (a % 16 * 4096 + b % 64 * 64 + c % 64 < 55296 ∨ (57344 ≤ a % 16 * 4096 + b % 64 * 64 + c % 64 ∧ a % 16 * 4096 + b % 64 * 64 + c % 64 ≤ 1114111))
    · rw [if_pos c3] at hD
      refine key _ _ [((a : Nat) : Int), b, c] hD ?_ rfl
      clear key bad hD
      generalize hx : a % 16 * 4096 + b % 64 * 64 + c % 64 = x at *
      unfold encL
      rw [if_neg (by omega), if_neg (by omega), if_pos (by omega), show 224 + (x : Int) / 4096 = (a : Int) from by omega, show 128 + (x : Int) / 64 % 64 = (b : Int) from by omega, show 128 + (x : Int) % 64 = (c : Int) from by omega]
    · rw [if_neg c3] at hD; exact bad hD
  rw [if_neg c2] at hD
  by_cases c3 : a / 8 = 30 ∧ (1 < n ∧ b / 64 = 2) ∧ (2 < n ∧ c / 64 = 2) ∧ (3 < n ∧ d / 64 = 2)
  · rw [if_pos c3] at hD
    by_cases c4 : a % 8 * 262144 + b % 64 * 4096 + c % 64 * 64 + d % 64 ≥ 65536 ∧ (a % 8 * 262144 + b % 64 * 4096 + c % 64 * 64 + d % 64 < 55296 ∨ (57344 ≤ a % 8 * 262144 + b % 64 * 4096 + c % 64 * 64 + d % 64 ∧ a % 8 * 262144 + b % 64 * 4096 + c % 64 * 64 + d % 64 ≤ 1114111))
    · rw [if_pos c4] at hD
      refine key _ _ [((a : Nat) : Int), b, c, d] hD ?_ rfl
      clear key bad hD
      generalize hx : a % 8 * 262144 + b % 64 * 4096 + c % 64 * 64 + d % 64 = x at *
      unfold encL
      rw [if_neg (by omega), if_neg (by omega), if_neg (by omega), show 240 + (x : Int) / 262144 = (a : Int) from by omega, show 128 + (x : Int) / 4096 % 64 = (b : Int) from by omega, show 128 + (x : Int) / 64 % 64 = (c : Int) from by omega, show 128 + (x : Int) % 64 = (d : Int) from by omega]
    · rw [if_neg c4] at hD; exact bad hD
  rw [if_neg c3] at hD
  exact bad hD
theorem gb_get {xs : List Int} (hx : isB xs) (i : Nat) (h : i < xs.length) : ((gb xs i : Nat) : Int) = xs[i] := by
  have := hx _ (List.getElem_mem h)
  unfold gb
  rw [List.getD_eq_getElem?_getD, List.getElem?_eq_getElem h, Option.getD_some]
  omega
theorem dN_le4 (n b0 b1 b2 b3 : Nat) : (decodeN n b0 b1 b2 b3).2 ≤ 4 := by
  unfold decodeN
  repeat' split
  all_goals simp
theorem enc_at {xs : List Int} (hx : isB xs) {p : Nat} (hp : p < xs.length) (h : ¬ badAt xs p) : encL (runeAt xs p) = (xs.drop p).take (widAt xs p) := by
  have e := enc_dec _ _ _ _ _ (gb_lt hx p) (gb_lt hx (p + 1)) (gb_lt hx (p + 2)) (gb_lt hx (p + 3)) h
  have hw := widAt_le xs p hp
  have h4 : widAt xs p ≤ 4 := dN_le4 _ _ _ _ _
  show encL ((decodeN _ _ _ _ _).1 : Int) = _
  rw [e]
  show List.take (widAt xs p) _ = _
  apply List.ext_getElem
  · simp; omega
  · intro i h1 h2
    simp at h1 h2
    have g := gb_get hx (p + i) (by omega)
    simp only [List.getElem_take, List.getElem_drop]
    rw [← g]
    rcases i with _ | _ | _ | _ | i
    · rfl
    · rfl
    · rfl
    · rfl
    · omega
/-- The runes put together make the bytes again. -/
theorem back_bytes {xs : List Int} (hx : isB xs) : ∀ d p, p ≤ xs.length → xs.length ≤ p + d → badL xs d p < 0 → (goodL xs d p).flatMap encL = xs.drop p
  | 0, p, hp, hd, _ => by rw [goodL, List.drop_eq_nil_of_le (by omega)]; rfl
  | d + 1, p, hp, hd, hb0 => by
    rw [badL] at hb0
    rw [goodL]
    by_cases h : p < xs.length
    · rw [if_pos h] at hb0 ⊢
      by_cases hb : badAt xs p
      · rw [if_pos hb] at hb0; omega
      · rw [if_neg hb] at hb0 ⊢
        have := widAt_pos xs p
        rw [List.flatMap_cons, back_bytes hx d _ (widAt_le xs p h) (by omega) hb0, enc_at hx h hb]
        conv => rhs; rw [← List.take_append_drop (widAt xs p) (xs.drop p)]
        rw [List.drop_drop]
    · rw [if_neg h, List.drop_eq_nil_of_le (by omega)]; rfl
/-- What stands where a rune's bytes were put. -/
theorem dec_enc {x : Int} (hv : vrune x) (ys : List Int) : ¬ badAt (encL x ++ ys) 0 ∧ runeAt (encL x ++ ys) 0 = x ∧ widAt (encL x ++ ys) 0 = (encL x).length := by
  have hv' := hv
  unfold vrune at hv'
  obtain ⟨n, rfl⟩ : ∃ n : Nat, x = (n : Int) := ⟨x.toNat, by omega⟩
  have key : ∀ (m a b c d w : Nat), decodeN m a b c d = (n, w) → (w ≠ 1 ∨ n < 128) → ¬ badN m a b c d ∧ ((decodeN m a b c d).1 : Int) = (n : Int) ∧ (decodeN m a b c d).2 = w := fun m a b c d w e h => ⟨fun hb => by unfold badN at hb; rw [e] at hb; simp only [Prod.mk.injEq] at hb; omega, by rw [e], by rw [e]⟩
  have gc : ∀ (z : Int) (zs : List Int), gb (z :: zs) 0 = z.toNat := fun z zs => rfl
  have gs : ∀ (z : Int) (zs : List Int) (i : Nat), gb (z :: zs) (i + 1) = gb zs i := fun z zs i => rfl
  unfold badAt runeAt widAt encL
  by_cases a : (n : Int) < 128
  · rw [if_pos a]
    refine key _ _ _ _ _ _ ?_ (.inr (by omega))
    show decodeN _ (Int.toNat (n : Int)) _ _ _ = _
    unfold decodeN
    rw [if_pos (by omega), Int.toNat_natCast]
    rfl
  rw [if_neg a]
  by_cases b : (n : Int) < 2048
  · rw [if_pos b]
    refine key _ _ _ _ _ _ ?_ (.inl (by simp))
    have e0 : gb ([192 + (n : Int) / 64, 128 + (n : Int) % 64] ++ ys) 0 = 192 + n / 64 := by show Int.toNat (192 + (n : Int) / 64) = _; omega
    have e1 : gb ([192 + (n : Int) / 64, 128 + (n : Int) % 64] ++ ys) 1 = 128 + n % 64 := by show Int.toNat (128 + (n : Int) % 64) = _; omega
    rw [e0, Nat.zero_add, e1]
    unfold decodeN
    rw [if_neg (by omega), if_pos ⟨by omega, by simp, by omega⟩, if_pos (by omega)]
    congr 1
    omega
  rw [if_neg b]
  by_cases c : (n : Int) < 65536
  · rw [if_pos c]
    refine key _ _ _ _ _ _ ?_ (.inl (by simp))
    have e0 : gb ([224 + (n : Int) / 4096, 128 + (n : Int) / 64 % 64, 128 + (n : Int) % 64] ++ ys) 0 = 224 + n / 4096 := by show Int.toNat (224 + (n : Int) / 4096) = _; omega
    have e1 : gb ([224 + (n : Int) / 4096, 128 + (n : Int) / 64 % 64, 128 + (n : Int) % 64] ++ ys) 1 = 128 + n / 64 % 64 := by show Int.toNat (128 + (n : Int) / 64 % 64) = _; omega
    have e2 : gb ([224 + (n : Int) / 4096, 128 + (n : Int) / 64 % 64, 128 + (n : Int) % 64] ++ ys) 2 = 128 + n % 64 := by show Int.toNat (128 + (n : Int) % 64) = _; omega
    rw [e0, Nat.zero_add, Nat.zero_add, e1, e2]
    have hx : (224 + n / 4096) % 16 * 4096 + (128 + n / 64 % 64) % 64 * 64 + (128 + n % 64) % 64 = n := by omega
    unfold decodeN
    rw [hx, if_neg (by omega), if_neg (by omega), if_pos ⟨by omega, ⟨by simp, by omega⟩, by simp, by omega⟩, if_pos (by omega)]
    rfl
  · rw [if_neg c]
    refine key _ _ _ _ _ _ ?_ (.inl (by simp))
    have e0 : gb ([240 + (n : Int) / 262144, 128 + (n : Int) / 4096 % 64, 128 + (n : Int) / 64 % 64, 128 + (n : Int) % 64] ++ ys) 0 = 240 + n / 262144 := by show Int.toNat (240 + (n : Int) / 262144) = _; omega
    have e1 : gb ([240 + (n : Int) / 262144, 128 + (n : Int) / 4096 % 64, 128 + (n : Int) / 64 % 64, 128 + (n : Int) % 64] ++ ys) 1 = 128 + n / 4096 % 64 := by show Int.toNat (128 + (n : Int) / 4096 % 64) = _; omega
    have e2 : gb ([240 + (n : Int) / 262144, 128 + (n : Int) / 4096 % 64, 128 + (n : Int) / 64 % 64, 128 + (n : Int) % 64] ++ ys) 2 = 128 + n / 64 % 64 := by show Int.toNat (128 + (n : Int) / 64 % 64) = _; omega
    have e3 : gb ([240 + (n : Int) / 262144, 128 + (n : Int) / 4096 % 64, 128 + (n : Int) / 64 % 64, 128 + (n : Int) % 64] ++ ys) 3 = 128 + n % 64 := by show Int.toNat (128 + (n : Int) % 64) = _; omega
    rw [e0, Nat.zero_add, Nat.zero_add, Nat.zero_add, e1, e2, e3]
    have hx : (240 + n / 262144) % 8 * 262144 + (128 + n / 4096 % 64) % 64 * 4096 + (128 + n / 64 % 64) % 64 * 64 + (128 + n % 64) % 64 = n := by omega
    unfold decodeN
    rw [hx, if_neg (by omega), if_neg (by omega), if_neg (by omega), if_pos ⟨by omega, ⟨by simp, by omega⟩, ⟨by simp, by omega⟩, by simp, by omega⟩, if_pos (by omega)]
    rfl
theorem at_shift (xs : List Int) (p : Nat) : (badAt xs p ↔ badAt (xs.drop p) 0) ∧ runeAt xs p = runeAt (xs.drop p) 0 ∧ widAt xs p = widAt (xs.drop p) 0 := by
  unfold badAt runeAt widAt
  rw [gb_drop, gb_drop, gb_drop, gb_drop, List.length_drop]
  exact ⟨Iff.rfl, rfl, rfl⟩
theorem encL_pos (x : Int) : 1 ≤ (encL x).length := by
  unfold encL
  split
  · simp
  · split
    · simp
    · split <;> simp
theorem flat_read : ∀ (l : List Int) (xs : List Int) (d p : Nat), (∀ r ∈ l, vrune r) → xs.drop p = l.flatMap encL → p ≤ xs.length → xs.length ≤ p + d → goodL xs d p = l ∧ badL xs d p = -1
  | [], xs, d, p, _, h, hp, hd => by
    have : xs.length ≤ p := by
      have := congrArg List.length h
      simp at this
      omega
    rw [goodL_end xs d p (by omega), badL_end xs d p (by omega)]
    exact ⟨rfl, rfl⟩
  | r :: l, xs, d, p, hv, h, hp, hd => by
    rw [List.flatMap_cons] at h
    have h1 := encL_pos r
    have hl := congrArg List.length h
    rw [List.length_drop, List.length_append] at hl
    have hpl : p < xs.length := by omega
    obtain ⟨d, rfl⟩ : ∃ m, d = m + 1 := ⟨d - 1, by omega⟩
    obtain ⟨a1, a2, a3⟩ := at_shift xs p
    obtain ⟨b1, b2, b3⟩ := dec_enc (hv r List.mem_cons_self) (l.flatMap encL)
    rw [← h] at b1 b2 b3
    have nb : ¬ badAt xs p := fun g => b1 (a1.1 g)
    have hw : widAt xs p = (encL r).length := a3.trans b3
    have hd2 : xs.drop (p + widAt xs p) = l.flatMap encL := by
      rw [← List.drop_drop, h, hw, List.drop_left]
    obtain ⟨i1, i2⟩ := flat_read l xs d (p + widAt xs p) (fun q hq => hv q (List.mem_cons_of_mem _ hq)) hd2 (widAt_le xs p hpl) (by omega)
    rw [goodL, badL, if_pos hpl, if_pos hpl, if_neg nb, if_neg nb, i1, i2, a2, b2]
    exact ⟨rfl, rfl⟩
theorem flat_isB : ∀ (l : List Int), (∀ r ∈ l, vrune r) → isB (l.flatMap encL)
  | [], _ => by intro x hx; simp at hx
  | r :: l, hv => by
    rw [List.flatMap_cons]
    exact isB_append (encL_isB (hv r List.mem_cons_self)) (flat_isB l fun q hq => hv q (List.mem_cons_of_mem _ hq))
theorem flat_len : ∀ (l : List Int), (l.flatMap encL).length ≤ 4 * l.length
  | [] => by simp
  | r :: l => by
    have := flat_len l
    have := encL_len4 r
    rw [List.flatMap_cons, List.length_append, List.length_cons]
    omega
theorem runes_text {l : List Int} (hv : ∀ r ∈ l, vrune r) : runesL (l.flatMap encL) = (l, 0) := by
  obtain ⟨i1, i2⟩ := flat_read l (l.flatMap encL) (l.flatMap encL).length 0 hv rfl (by omega) (by omega)
  unfold runesL
  rw [i2, if_neg (by decide), i1]
theorem back_loop (L : List Int) (hL : L.length ≤ 10000) (hv : ∀ r ∈ L, vrune r) (s : ByteArray) (hs : s = strOfNums (L.flatMap encL)) : ∀ (d k i : Nat), i + d = L.length → d + 30 + L.length ≤ k → argosylaw01_GlyphBack.l0 k L s L 0 (((L.take i).flatMap encL).length : Int) (i : Int) = some true := by
  have hfl := flat_len L
  intro d
  induction d with
  | zero =>
    intro k i hi hk
    obtain ⟨k, rfl⟩ : ∃ m, k = m + 1 := ⟨k - 1, by omega⟩
    rw [argosylaw01_GlyphBack.l0, if_neg (by omega), Same_is (by omega) (by omega), Option.bind_some, if_pos (by simp), if_pos rfl, if_pos (by rw [hs, son_size, List.take_of_length_le (by omega)]), lives_is (by omega)]
    rfl
  | succ d ih =>
    intro k i hi hk
    obtain ⟨k, rfl⟩ : ∃ m, k = m + 1 := ⟨k - 1, by omega⟩
    have hiL : i < L.length := by omega
    have hr : rd L (i : Int) = L[i] := by rw [rd_at _ (by omega) (by omega)]; rfl
    have hvi := hv _ (List.getElem_mem hiL)
    have e : ((L.take (i + 1)).flatMap encL).length = ((L.take i).flatMap encL).length + (encL L[i]).length := by
      rw [List.take_succ_eq_append_getElem hiL, List.flatMap_append, List.length_append]
      simp
    have h4 := flat_len (L.take i)
    have h5 := encL_len4 L[i]
    have hle : (L.take i).length ≤ L.length := by rw [List.length_take]; omega
    rw [argosylaw01_GlyphBack.l0, if_pos (by omega), if_pos (by omega), hr, Width_is (by omega), Option.bind_some, ← encL_len hvi, w64 (by omega), w64 (by omega), show (((L.take i).flatMap encL).length : Int) + ((encL L[i]).length : Int) = (((L.take (i + 1)).flatMap encL).length : Int) from by omega, show (i : Int) + 1 = ((i + 1 : Nat) : Int) from by omega]
    exact ih k (i + 1) (by omega) (by omega)
theorem j1_is {k : Nat} (hk : 150000 ≤ k) (l : List Int) (hl : l.length ≤ 2000) : argosylaw01_GlyphBack.j1 k l = some true := by
  obtain ⟨k, rfl⟩ : ∃ m, k = m + 1 := ⟨k - 1, by omega⟩
  rw [argosylaw01_GlyphBack.j1, Text_is (by omega) (by omega), Option.bind_some]
  unfold textL
  by_cases hv : ∀ r ∈ l, vrune r
  · have hfl := flat_len l
    rw [if_pos hv]
    simp only
    rw [if_pos trivial, Runes_is (flat_isB l hv) (by omega), Option.bind_some, runes_text hv]
    have := back_loop l (by omega) hv _ rfl l.length k 0 (by omega) (by omega)
    simpa using this
  · rw [if_neg hv, if_neg (by decide), bytes_toList, if_pos rfl, lives_is (by omega)]
    rfl
theorem GlyphBack : argosylaw01_GlyphBack.Pure := by
  intro s l hs h1 h2 h3
  refine ⟨200000, ?_⟩
  unfold argosylaw01_GlyphBack.f
  have out : ∀ s l, argosylaw01_GlyphBack.j0 200000 s l true = some true := by
    intro s t
    rw [show 200000 = 199999 + 1 from rfl, argosylaw01_GlyphBack.j0, if_pos rfl, lives_is (by omega)]; rfl
  by_cases h : (s.size : Int) > 5000
  · rw [if_pos h]; exact out s l
  rw [if_neg h]
  by_cases hl : (l.length : Int) > 2000
  · rw [decide_eq_true hl]; exact out s l
  rw [decide_eq_false hl]
  obtain ⟨xs, hx, rfl⟩ : ∃ xs, isB xs ∧ strOfNums xs = s := ⟨bytesOf s, bytesOf_isB s, son_bytesOf s⟩
  rw [son_size] at h
  have hj := j1_is (k := 199999) (by omega) l (by omega)
  have hg := goodL_len xs xs.length 0
  rw [show 200000 = 199999 + 1 from rfl, argosylaw01_GlyphBack.j0, if_neg (by decide), Runes_is hx (by omega), Option.bind_some, Bad_is hx]
  unfold runesL
  by_cases hb : 0 ≤ badL xs xs.length 0
  · have hr := badL_range xs xs.length 0
    rw [if_pos hb, if_neg (by decide), if_pos (by rfl), if_pos (by rfl), Option.bind_some, if_neg (by omega), Option.bind_some, if_neg (by rw [son_size]; omega), hj]
  · have hbb := back_bytes hx xs.length 0 (by omega) (by omega) (by omega)
    have hvv := goodL_v hx xs.length 0
    have hr := badL_range xs xs.length 0
    rw [if_neg hb, if_pos (by rfl), Text_is (by simp only; omega) (by omega), Option.bind_some]
    unfold textL
    rw [if_pos hvv, if_pos (by rw [hbb]; rfl), if_pos rfl, Option.bind_some, if_pos (by omega), hj]

end Go.Proofs.Ytmjbpcoopbihhaa.Pure
