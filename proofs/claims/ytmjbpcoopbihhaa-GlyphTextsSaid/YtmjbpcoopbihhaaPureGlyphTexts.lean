/- Runes have the text that the document says, or are refused as it says. -/
import Derived.Test.YtmjbpcoopbihhaaPGlyphTextsx3
set_option linter.unusedVariables false
set_option linter.unusedSimpArgs false
namespace Go.Proofs.Ytmjbpcoopbihhaa.Pure
open Go.RowKit Go.Proofs.Ytmjbpcoopbihhaa.PGlyphTexts Go.Proofs.YtmjbpcoopbihhaaW.PrintWords Go.Proofs.YtmjbpcoopbihhaaW.PrintLast Go.Proofs.YtmjbpcoopbihhaaW.PrintMore

/-! ### Bytes -/
def isB (l : List Int) : Prop := ∀ x ∈ l, 0 ≤ x ∧ x < 256
theorem isB_of_wf {l : List Int} (h : ∀ x ∈ l, (Lit.int .u8 x).wf = true) : isB l := by
  intro x hx
  have := h x hx
  simp [Lit.wf, IntKind.min, IntKind.max, IntKind.bits, IntKind.signed] at this
  omega
theorem i64_of_wf {x : Int} (h : (Lit.int .i64 x).wf = true) : -9223372036854775808 ≤ x ∧ x ≤ 9223372036854775807 := by
  simp [Lit.wf, IntKind.min, IntKind.max, IntKind.bits, IntKind.signed] at h
  omega
theorem toList_loop (s : ByteArray) : ∀ (d i : Nat) (r : List UInt8), s.size - i = d → ByteArray.toList.loop s i r = r.reverse ++ s.data.toList.drop i := by
  intro d
  have hl : s.data.toList.length = s.size := Array.length_toList
  induction d with
  | zero =>
    intro i r h
    unfold ByteArray.toList.loop
    rw [if_neg (by omega), List.drop_eq_nil_of_le (by omega), List.append_nil]
  | succ d ih =>
    intro i r h
    unfold ByteArray.toList.loop
    rw [if_pos (by omega), ih (i + 1) _ (by omega)]
    have hi : i < s.data.toList.length := by omega
    rw [List.drop_eq_getElem_cons hi, List.reverse_cons, List.append_assoc]
    have : s.get! i = s.data.toList[i] := by
      have hs : i < s.size := by omega
      simp [ByteArray.get!, getElem!_pos, hs]
    rw [this]; rfl
theorem bytes_toList (s : ByteArray) : s.toList = s.data.toList := by
  unfold ByteArray.toList
  rw [toList_loop s _ 0 [] rfl]
  simp
theorem bytes_ext {a b : ByteArray} (h : a.toList = b.toList) : a = b := by
  rw [bytes_toList, bytes_toList] at h
  cases a; cases b
  congr 1
  exact Array.toList_inj.1 h
theorem son_data (xs : List Int) : (strOfNums xs).data.toList = xs.map fun n => UInt8.ofNat n.toNat := by simp [strOfNums]
theorem son_size (xs : List Int) : (strOfNums xs).size = xs.length := by simp [strOfNums, ByteArray.size]
theorem son_append (xs ys : List Int) : strOfNums (xs ++ ys) = strOfNums xs ++ strOfNums ys := by
  apply bytes_ext
  rw [bytes_toList, bytes_toList, son_data]
  simp [strOfNums]
theorem son_nil : strOfNums [] = (⟨#[]⟩ : ByteArray) := rfl
theorem u8_inj {a b : Int} (ha : 0 ≤ a ∧ a < 256) (hb : 0 ≤ b ∧ b < 256) (h : UInt8.ofNat a.toNat = UInt8.ofNat b.toNat) : a = b := by
  have := congrArg UInt8.toNat h
  simp [UInt8.toNat_ofNat'] at this
  omega
theorem map_u8_inj : ∀ {xs ys : List Int}, isB xs → isB ys → (xs.map fun n => UInt8.ofNat n.toNat) = (ys.map fun n => UInt8.ofNat n.toNat) → xs = ys
  | [], [], _, _, _ => rfl
  | [], y :: ys, _, _, h => by simp at h
  | x :: xs, [], _, _, h => by simp at h
  | x :: xs, y :: ys, hx, hy, h => by
    simp only [List.map_cons, List.cons.injEq] at h
    rw [u8_inj (hx x (by simp)) (hy y (by simp)) h.1, map_u8_inj (fun z hz => hx z (by simp [hz])) (fun z hz => hy z (by simp [hz])) h.2]
theorem son_inj {xs ys : List Int} (hx : isB xs) (hy : isB ys) (h : strOfNums xs = strOfNums ys) : xs = ys := by
  have := congrArg (fun s : ByteArray => s.data.toList) h
  simp only [son_data] at this
  exact map_u8_inj hx hy this
theorem son_toList_inj {xs ys : List Int} (hx : isB xs) (hy : isB ys) : (strOfNums xs).toList = (strOfNums ys).toList ↔ xs = ys :=
  ⟨fun h => son_inj hx hy (bytes_ext h), fun h => by rw [h]⟩
theorem son_bt {xs : List Int} (hx : isB xs) (i : Int) (h0 : 0 ≤ i) (h : i < xs.length) : bt (strOfNums xs) i = rd xs i := by
  have hi : i.toNat < xs.length := by omega
  unfold bt rd
  rw [dif_pos (by rw [son_size]; exact hi)]
  have hg : (strOfNums xs)[i.toNat]'(by rw [son_size]; exact hi) = UInt8.ofNat (xs[i.toNat]).toNat := by
    show (strOfNums xs).data[i.toNat]'_ = _
    simp [strOfNums]
  rw [hg, List.getD_eq_getElem?_getD, List.getElem?_eq_getElem hi]
  have := hx _ (List.getElem_mem hi)
  simp [UInt8.toNat_ofNat']
  omega
theorem son_extract (xs : List Int) (a b : Nat) : (strOfNums xs).extract a b = strOfNums ((xs.take b).drop a) := by
  apply bytes_ext
  rw [bytes_toList, bytes_toList, son_data]
  simp [strOfNums, ByteArray.data_extract, List.drop_take, List.map_take, List.map_drop, List.extract]
theorem isB_append {xs ys : List Int} (hx : isB xs) (hy : isB ys) : isB (xs ++ ys) := by
  intro z hz
  rcases List.mem_append.1 hz with h | h
  · exact hx z h
  · exact hy z h
theorem isB_take {xs : List Int} (h : isB xs) (n : Nat) : isB (xs.take n) := fun z hz => h z (List.mem_of_mem_take hz)
theorem isB_drop {xs : List Int} (h : isB xs) (n : Nat) : isB (xs.drop n) := fun z hz => h z (List.mem_of_mem_drop hz)
theorem rd_at {xs : List Int} (i : Int) (h0 : 0 ≤ i) (h : i < xs.length) : rd xs i = xs[i.toNat]'(by omega) := by
  unfold rd
  rw [List.getD_eq_getElem?_getD, List.getElem?_eq_getElem (by omega)]; rfl
theorem rd_isB {xs : List Int} (hx : isB xs) (i : Int) (h0 : 0 ≤ i) (h : i < xs.length) : 0 ≤ rd xs i ∧ rd xs i < 256 := by
  rw [rd_at i h0 h]
  exact hx _ (List.getElem_mem _)
theorem w64 {x : Int} (h : -9223372036854775808 ≤ x ∧ x ≤ 9223372036854775807) : wrap64 x = x := by
  unfold wrap64
  omega

/-! ### A string's bytes -/
theorem bytesOf_isB (s : ByteArray) : isB (bytesOf s) := by
  intro x hx
  unfold bytesOf at hx
  obtain ⟨b, _, rfl⟩ := List.mem_map.1 hx
  have := b.toNat_lt
  omega
theorem son_bytesOf (s : ByteArray) : strOfNums (bytesOf s) = s := by
  apply bytes_ext
  rw [bytes_toList, bytes_toList, son_data, bytesOf, List.map_map]
  have : ((fun n : Int => UInt8.ofNat n.toNat) ∘ fun b : UInt8 => (b.toNat : Int)) = id := by
    funext b
    simp
  rw [this, List.map_id]

/-! ### Numbers alike -/
theorem Same_loop (a b : List Int) (hl : a.length = b.length) (ha : a.length ≤ 1152921504606846976) : ∀ (d k i : Nat), i + d = a.length → d < k → argosyref01_Same.l0 k a b (i : Int) = some (decide (a.drop i = b.drop i)) := by
  intro d
  induction d with
  | zero =>
    intro k i hi hk
    obtain ⟨k, rfl⟩ : ∃ m, k = m + 1 := ⟨k - 1, by omega⟩
    simp only [argosyref01_Same.l0]
    rw [if_neg (by omega), List.drop_eq_nil_of_le (by omega), List.drop_eq_nil_of_le (by omega)]
    simp
  | succ d ih =>
    intro k i hi hk
    obtain ⟨k, rfl⟩ : ∃ m, k = m + 1 := ⟨k - 1, by omega⟩
    simp only [argosyref01_Same.l0]
    have h1 : i < a.length := by omega
    have h2 : i < b.length := by omega
    have hra : rd a (i : Int) = a[i] := by rw [rd_at _ (by omega) (by omega)]; rfl
    have hrb : rd b (i : Int) = b[i] := by rw [rd_at _ (by omega) (by omega)]; rfl
    rw [if_pos (by omega), if_pos (by omega), if_pos (by omega), hra, hrb, List.drop_eq_getElem_cons h1, List.drop_eq_getElem_cons h2]
    by_cases h : a[i] = b[i]
    · rw [if_pos h, w64 (by omega), show ((i : Int) + 1) = ((i + 1 : Nat) : Int) from by omega, ih k (i + 1) (by omega) (by omega)]
      rw [h]
      congr 1
      rw [decide_eq_decide]
      simp only [List.cons.injEq, true_and]
    · rw [if_neg h, decide_eq_false]
      simp only [List.cons.injEq]
      exact fun hc => h hc.1
theorem Same_is {k : Nat} {a b : List Int} (ha : a.length ≤ 1152921504606846976) (hk : a.length < k) : argosyref01_Same.f k a b = some (decide (a = b)) := by
  unfold argosyref01_Same.f
  by_cases hl : a.length = b.length
  · rw [if_pos (by omega)]
    have := Same_loop a b hl ha a.length k 0 (by omega) hk
    simpa using this
  · rw [if_neg (by omega)]
    have : a ≠ b := fun h => hl (by rw [h])
    simp [this]

/-! ### The width of a rune -/
def vrune (x : Int) : Prop := 0 ≤ x ∧ x ≤ 1114111 ∧ (x < 55296 ∨ 57343 < x)
instance (x : Int) : Decidable (vrune x) := by unfold vrune; infer_instance
def widG (x : Int) : Int := if vrune x then (if x < 128 then 1 else if x < 2048 then 2 else if x < 65536 then 3 else 4) else 0
theorem widG_bad {x : Int} (h : ¬ vrune x) : widG x = 0 := if_neg h
theorem widG_ok {x : Int} (h : vrune x) : widG x = (if x < 128 then 1 else if x < 2048 then 2 else if x < 65536 then 3 else 4) := if_pos h
theorem widG_zero (x : Int) : widG x = 0 ↔ ¬ vrune x := by
  constructor
  · intro h hv
    rw [widG_ok hv] at h
    split at h
    · omega
    · split at h
      · omega
      · split at h <;> omega
  · exact widG_bad
theorem RuneLen_is {k : Nat} (hk : 1 ≤ k) {x : Int} (h0 : 0 ≤ x) (h1 : x ≤ 1114111) : (utf8_RuneLen.f k x).bind (fun t => some (mx 0 t)) = some (widG x) := by
  obtain ⟨k, rfl⟩ : ∃ m, k = m + 1 := ⟨k - 1, by omega⟩
  unfold utf8_RuneLen.f
  have hmx : ∀ n : Int, 0 ≤ n → mx 0 n = n := fun n hn => by unfold mx; omega
  rw [if_neg (by omega)]
  by_cases a : x ≤ 127
  · rw [if_pos a, Option.bind_some, hmx 1 (by omega), widG_ok (by unfold vrune; omega), if_pos (by omega)]
  rw [if_neg a]
  by_cases b : x ≤ 2047
  · rw [if_pos b, Option.bind_some, hmx 2 (by omega), widG_ok (by unfold vrune; omega), if_neg (by omega), if_pos (by omega)]
  rw [if_neg b]
  by_cases c : 55296 ≤ x
  · rw [if_pos c]
    simp only [utf8_RuneLen.j0]
    by_cases d : x ≤ 57343
    · rw [if_pos (decide_eq_true d), Option.bind_some, widG_bad (by unfold vrune; omega)]
      rfl
    · rw [if_neg (by simpa using d)]
      by_cases e : x ≤ 65535
      · rw [if_pos e, Option.bind_some, hmx 3 (by omega), widG_ok (by unfold vrune; omega), if_neg (by omega), if_neg (by omega), if_pos (by omega)]
      · rw [if_neg e, if_pos h1, Option.bind_some, hmx 4 (by omega), widG_ok (by unfold vrune; omega), if_neg (by omega), if_neg (by omega), if_neg (by omega)]
  · rw [if_neg c]
    simp only [utf8_RuneLen.j0]
    rw [if_neg (by decide), if_pos (by omega), Option.bind_some, hmx 3 (by omega), widG_ok (by unfold vrune; omega), if_neg (by omega), if_neg (by omega), if_pos (by omega)]
theorem Width_is {k : Nat} (hk : 1 ≤ k) (x : Int) : glyph_Width.f k x = some (widG x) := by
  unfold glyph_Width.f
  by_cases a : x < 0
  · rw [if_pos a, widG_bad (by unfold vrune; omega)]
  rw [if_neg a]
  by_cases b : x > 1114111
  · rw [if_pos b, widG_bad (by unfold vrune; omega)]
  rw [if_neg b, show wrap32 x = x from by unfold wrap32; omega]
  exact RuneLen_is hk (by omega) (by omega)

/-! ### The reference's width -/
theorem rIs_is (x : Int) : argosyref01_Is.f x = some (decide (vrune x)) := by
  unfold argosyref01_Is.f
  by_cases a : x ≥ 0
  · rw [if_pos a]
    by_cases b : x ≤ 1114111
    · rw [if_pos b]
      by_cases c : x < 55296
      · rw [if_pos c, decide_eq_true (show vrune x from ⟨a, b, .inl c⟩)]
      · rw [if_neg c]
        congr 1
        rw [decide_eq_decide]
        unfold vrune
        omega
    · rw [if_neg b, decide_eq_false (show ¬ vrune x from fun h => b h.2.1)]
  · rw [if_neg a, decide_eq_false (show ¬ vrune x from fun h => a h.1)]
theorem rWidth_is (x : Int) : argosyref01_Width.f x = some (widG x) := by
  unfold argosyref01_Width.f
  rw [rIs_is, Option.bind_some]
  by_cases h : vrune x
  · rw [if_pos (decide_eq_true h), widG_ok h]
    split
    · rfl
    · split
      · rfl
      · split <;> rfl
  · rw [if_neg (by simpa using h), widG_bad h]

/-! ### It is alive -/
theorem lv_runes : glyph_Runes.f (⟨#[97, 195, 169, 226, 130, 172]⟩ : ByteArray) = some ([97, 233, 8364], 0) := by decide +kernel
theorem lv_cut : glyph_Cut.f (⟨#[97, 195, 169, 98]⟩ : ByteArray) 2 = some (⟨#[97, 195, 169]⟩, ⟨#[98]⟩) := by decide +kernel
theorem lv_bad : glyph_Bad.f (⟨#[97, 195]⟩ : ByteArray) = some 1 := by decide +kernel
theorem lv_text {k : Nat} (hk : 3 ≤ k) : glyph_Text.f k [55296] = some (⟨#[]⟩, 2) := by
  obtain ⟨k, rfl⟩ : ∃ m, k = m + 1 := ⟨k - 1, by omega⟩
  unfold glyph_Text.f
  simp only [glyph_Text.l0]
  rw [if_pos (by decide), if_pos (by decide), if_pos (by decide), Width_is (by omega)]
  rfl
theorem lv_class {k : Nat} (hk : 3 ≤ k) : glyph_Class.f k 233 = some 1 := by
  unfold glyph_Class.f
  rw [Width_is (by omega)]
  rfl
theorem lives_is {k : Nat} (hk : 10 ≤ k) : argosylaw01_lives.f k = some true := by
  unfold argosylaw01_lives.f
  rw [lv_runes, Option.bind_some, lv_text (by omega), Option.bind_some, lv_cut, Option.bind_some, Same_is (by simp) (by simp; omega), Option.bind_some, if_pos (by decide), if_pos rfl, if_pos rfl, lv_bad, Option.bind_some, if_pos rfl, lv_class (by omega), Option.bind_some, if_pos rfl]
  rw [bytes_toList, bytes_toList, if_pos rfl]
  rfl

/-! ### The reference's bytes of one rune -/
def encL (x : Int) : List Int := if x < 128 then [x] else if x < 2048 then [192 + x / 64, 128 + x % 64] else if x < 65536 then [224 + x / 4096, 128 + x / 64 % 64, 128 + x % 64] else [240 + x / 262144, 128 + x / 4096 % 64, 128 + x / 64 % 64, 128 + x % 64]
theorem encL_isB {x : Int} (h : vrune x) : isB (encL x) := by
  unfold vrune at h
  unfold encL
  split
  · intro z hz; simp only [List.mem_singleton] at hz; omega
  · split
    · intro z hz; simp only [List.mem_cons, List.not_mem_nil, or_false] at hz; omega
    · split
      · intro z hz; simp only [List.mem_cons, List.not_mem_nil, or_false] at hz; omega
      · intro z hz; simp only [List.mem_cons, List.not_mem_nil, or_false] at hz; omega
theorem encL_len {x : Int} (h : vrune x) : ((encL x).length : Int) = widG x := by
  rw [widG_ok h]
  unfold encL
  split
  · rfl
  · split
    · rfl
    · split <;> rfl
theorem one_step (k : Nat) (x n i : Int) (tbl t : List Int) (hi : i < n) (hi2 : 0 ≤ i ∧ i < 10) (hx : 0 ≤ x ∧ x ≤ 1114111) (ht : t.length ≤ 10) : argosyref01_one.l0 (k + 1) x n tbl (strOfNums t) i = argosyref01_one.l0 k (x / 64) n tbl (strOfNums ((128 + x % 64) :: t)) (i + 1) := by
  have e1 : (wrap64 (128 + Int.tmod x 64)) % 256 = 128 + x % 64 := by
    rw [Int.tmod_eq_emod_of_nonneg hx.1, w64 (by omega)]
    omega
  have e2 : wrap64 (Int.tdiv x 64) = x / 64 := by
    rw [Int.tdiv_eq_ediv_of_nonneg hx.1, w64 (by omega)]
  rw [argosyref01_one.l0, if_pos hi, Option.bind_some, e1, e2, w64 (by omega), ← son_append, if_pos (by rw [son_size, son_size]; simp; omega)]
  rfl
theorem one_end (k : Nat) (x n i : Int) (tbl t : List Int) (hi : ¬ i < n) (h0 : 0 ≤ n) (hn : n < tbl.length) (ht : t.length ≤ 10) (hx : 0 ≤ x ∧ x < 256 ) (hv : 0 ≤ rd tbl n + x ∧ rd tbl n + x < 256) : argosyref01_one.l0 (k + 1) x n tbl (strOfNums t) i = some (strOfNums ((rd tbl n + x) :: t)) := by
  have e1 : (rd tbl n + x % 256) % 256 = rd tbl n + x := by omega
  rw [argosyref01_one.l0, if_neg hi, if_pos h0, if_pos hn, Option.bind_some, e1, ← son_append, if_pos (by rw [son_size, son_size]; simp; omega)]
  rfl
theorem one_is {k : Nat} (hk : 6 ≤ k) {x : Int} (h : vrune x) : argosyref01_one.f k x = some (strOfNums (encL x)) := by
  obtain ⟨k, rfl⟩ : ∃ m, k = m + 5 := ⟨k - 5, by omega⟩
  have hv := h
  unfold vrune at hv
  unfold argosyref01_one.f
  rw [rWidth_is, Option.bind_some, widG_ok h]
  unfold encL
  by_cases a : x < 128
  · rw [if_pos a, if_pos a, if_pos rfl, show x % 256 = x from by omega]
  rw [if_neg a, if_neg a]
  have sn : (⟨#[]⟩ : ByteArray) = strOfNums [] := rfl
  rw [sn]
  by_cases b : x < 2048
  · rw [if_pos b, if_pos b, if_neg (by decide), one_step _ x 2 1 _ _ (by decide) (by decide) (by omega) (by simp), one_end _ _ 2 _ _ _ (by decide) (by decide) (by decide) (by simp) (by omega) (by rw [show rd [0, 0, 192, 224, 240] 2 = 192 from rfl]; omega)]
    rfl
  rw [if_neg b, if_neg b]
  by_cases c : x < 65536
  · rw [if_pos c, if_pos c, if_neg (by decide), one_step _ x 3 1 _ _ (by decide) (by decide) (by omega) (by simp), one_step _ (x / 64) 3 _ _ _ (by decide) (by decide) (by omega) (by simp), one_end _ _ 3 _ _ _ (by decide) (by decide) (by decide) (by simp) (by omega) (by rw [show rd [0, 0, 192, 224, 240] 3 = 224 from rfl]; omega), show rd [0, 0, 192, 224, 240] 3 = 224 from rfl, show x / 64 / 64 = x / 4096 from by omega]
  rw [if_neg c, if_neg c, if_neg (by decide), one_step _ x 4 1 _ _ (by decide) (by decide) (by omega) (by simp), one_step _ (x / 64) 4 _ _ _ (by decide) (by decide) (by omega) (by simp), one_step _ (x / 64 / 64) 4 _ _ _ (by decide) (by decide) (by omega) (by simp), one_end _ _ 4 _ _ _ (by decide) (by decide) (by decide) (by simp) (by omega) (by rw [show rd [0, 0, 192, 224, 240] 4 = 240 from rfl]; omega), show rd [0, 0, 192, 224, 240] 4 = 240 from rfl, show x / 64 / 64 = x / 4096 from by omega, show x / 4096 / 64 = x / 262144 from by omega]

/-! ### The bytes of runes -/
theorem or128 (y : Int) (h : 0 ≤ y ∧ y < 256) : Go.bits .or .u8 128 (Go.bits .and .u8 y 63) = 128 + y % 64 := by
  have : ∀ n : Fin 256, Go.bits .or .u8 128 (Go.bits .and .u8 ((n.val : Nat) : Int) 63) = 128 + ((n.val : Nat) : Int) % 64 := by decide +kernel
  have := this ⟨y.toNat, by omega⟩
  simpa [show ((y.toNat : Nat) : Int) = y from by omega] using this
theorem or192 (y : Int) (h : 0 ≤ y ∧ y < 32) : Go.bits .or .u8 192 y = 192 + y := by
  have : ∀ n : Fin 32, Go.bits .or .u8 192 ((n.val : Nat) : Int) = 192 + ((n.val : Nat) : Int) := by decide +kernel
  have := this ⟨y.toNat, by omega⟩
  simpa [show ((y.toNat : Nat) : Int) = y from by omega] using this
theorem or224 (y : Int) (h : 0 ≤ y ∧ y < 16) : Go.bits .or .u8 224 y = 224 + y := by
  have : ∀ n : Fin 16, Go.bits .or .u8 224 ((n.val : Nat) : Int) = 224 + ((n.val : Nat) : Int) := by decide +kernel
  have := this ⟨y.toNat, by omega⟩
  simpa [show ((y.toNat : Nat) : Int) = y from by omega] using this
theorem or240 (y : Int) (h : 0 ≤ y ∧ y < 8) : Go.bits .or .u8 240 y = 240 + y := by
  have : ∀ n : Fin 8, Go.bits .or .u8 240 ((n.val : Nat) : Int) = 240 + ((n.val : Nat) : Int) := by decide +kernel
  have := this ⟨y.toNat, by omega⟩
  simpa [show ((y.toNat : Nat) : Int) = y from by omega] using this
theorem AppendRune_is {k : Nat} (hk : 2 ≤ k) (l : List Int) (hl : l.length ≤ 1000000000) {x : Int} (hv : vrune x) : utf8_AppendRune.f k l x = some (l ++ encL x) := by
  obtain ⟨k, rfl⟩ : ∃ m, k = m + 1 := ⟨k - 1, by omega⟩
  unfold vrune at hv
  have e : x % 4294967296 = x := by omega
  unfold utf8_AppendRune.f encL
  rw [e]
  by_cases a : x ≤ 127
  · rw [if_pos a, if_pos (by omega), if_pos (by omega), show x % 256 = x from by omega]
  rw [if_neg a, if_neg (c := x < 128) (by omega)]
  unfold utf8_appendRuneNonASCII.f
  rw [e]
  by_cases b : x ≤ 2047
  · rw [if_pos b, if_pos (by omega), Option.bind_some, if_pos (by simp; omega), Option.bind_some, or192 _ (by omega), or128 _ (by omega), show x / 64 % 256 = x / 64 from by omega, show x % 256 % 64 = x % 64 from by omega]
  rw [if_neg b, if_neg (c := x < 2048) (by omega)]
  have three : x ≤ 65535 → (some ([Go.bits .or .u8 224 (x / 4096 % 256), Go.bits .or .u8 128 (Go.bits .and .u8 (x / 64 % 256) 63), Go.bits .or .u8 128 (Go.bits .and .u8 (x % 256) 63)] : List Int)).bind (fun y114 => (if l.length + y114.length < 140737488355328 then (some (l ++ y114)) else (none))) = some (l ++ (if x < 65536 then [224 + x / 4096, 128 + x / 64 % 64, 128 + x % 64] else [240 + x / 262144, 128 + x / 4096 % 64, 128 + x / 64 % 64, 128 + x % 64])) := by
    intro h
    rw [if_pos (c := x < 65536) (by omega), Option.bind_some, if_pos (by simp; omega), or224 _ (by omega), or128 _ (by omega), or128 _ (by omega), show x / 4096 % 256 = x / 4096 from by omega, show x / 64 % 256 % 64 = x / 64 % 64 from by omega, show x % 256 % 64 = x % 64 from by omega]
  by_cases c : x < 55296
  · rw [if_pos c, decide_eq_true c, utf8_appendRuneNonASCII.j0, if_pos rfl, three (by omega), Option.bind_some]
  rw [if_neg c, if_pos (by omega)]
  by_cases d : x ≤ 65535
  · rw [decide_eq_true d, utf8_appendRuneNonASCII.j0, if_pos rfl, three d, Option.bind_some]
  · rw [decide_eq_false d, utf8_appendRuneNonASCII.j0, if_neg (by decide), if_pos (by omega), if_pos (by omega), Option.bind_some, if_pos (by simp; omega), Option.bind_some, if_neg (c := x < 65536) (by omega), or240 _ (by omega), or128 _ (by omega), or128 _ (by omega), or128 _ (by omega), show x / 262144 % 256 = x / 262144 from by omega, show x / 4096 % 256 % 64 = x / 4096 % 64 from by omega, show x / 64 % 256 % 64 = x / 64 % 64 from by omega, show x % 256 % 64 = x % 64 from by omega]
theorem encL_len4 (x : Int) : (encL x).length ≤ 4 := by
  unfold encL
  split
  · simp
  · split
    · simp
    · split <;> simp
def textL (l : List Int) : ByteArray × Int := if ∀ r ∈ l, vrune r then (strOfNums (l.flatMap encL), 0) else (⟨#[]⟩, 2)
theorem Text_loop (L : List Int) (hL : L.length ≤ 100000) : ∀ (d k i : Nat) (acc : List Int), i + d = L.length → d + 10 ≤ k → acc.length + 4 * d ≤ 10000000 → glyph_Text.l0 k acc L (L.length : Int) (i : Int) = some (if ∀ r ∈ L.drop i, vrune r then (strOfNums (acc ++ (L.drop i).flatMap encL), 0) else (⟨#[]⟩, 2)) := by
  intro d
  induction d with
  | zero =>
    intro k i acc hi hk ha
    obtain ⟨k, rfl⟩ : ∃ m, k = m + 1 := ⟨k - 1, by omega⟩
    rw [glyph_Text.l0, if_neg (by omega), List.drop_eq_nil_of_le (by omega), if_pos (by simp)]
    simp
  | succ d ih =>
    intro k i acc hi hk ha
    obtain ⟨k, rfl⟩ : ∃ m, k = m + 1 := ⟨k - 1, by omega⟩
    have hiL : i < L.length := by omega
    have hr : rd L (i : Int) = L[i] := by rw [rd_at _ (by omega) (by omega)]; rfl
    rw [glyph_Text.l0, if_pos (by omega), if_pos (by omega), if_pos (by omega), hr, Width_is (by omega), Option.bind_some, List.drop_eq_getElem_cons hiL]
    generalize L[i] = x
    by_cases hv : vrune x
    · have hv' := hv
      unfold vrune at hv'
      have h4 := encL_len4 x
      rw [if_neg (fun h => (widG_zero x).1 h hv), show wrap32 x = x from by unfold wrap32; omega, AppendRune_is (by omega) acc (by omega) hv, Option.bind_some, w64 (by omega), show (i : Int) + 1 = ((i + 1 : Nat) : Int) from by omega, ih k (i + 1) _ (by omega) (by omega) (by rw [List.length_append]; omega), List.flatMap_cons, List.append_assoc]
      congr 1
      by_cases hall : ∀ r ∈ L.drop (i + 1), vrune r
      · rw [if_pos hall, if_pos (by intro r hr; rcases List.mem_cons.1 hr with rfl | hr; exact hv; exact hall r hr)]
      · rw [if_neg hall, if_neg (fun h => hall fun r hr => h r (List.mem_cons_of_mem _ hr))]
    · rw [if_pos (widG_bad hv), if_neg (fun h => hv (h x List.mem_cons_self))]
theorem Text_is {k : Nat} {l : List Int} (hl : l.length ≤ 100000) (hk : 100100 ≤ k) : glyph_Text.f k l = some (textL l) := by
  unfold glyph_Text.f textL
  have := Text_loop l hl l.length k 0 [] (by omega) (by omega) (by simp; omega)
  simpa using this

theorem rText_loop (L : List Int) (hL : L.length ≤ 100000) : ∀ (d k i : Nat) (acc : List Int), i + d = L.length → d + 10 ≤ k → acc.length + 4 * d ≤ 10000000 → argosyref01_Text.l0 k L (strOfNums acc) (i : Int) = some (if ∀ r ∈ L.drop i, vrune r then (strOfNums (acc ++ (L.drop i).flatMap encL), 0) else (⟨#[]⟩, 2)) := by
  intro d
  induction d with
  | zero =>
    intro k i acc hi hk ha
    obtain ⟨k, rfl⟩ : ∃ m, k = m + 1 := ⟨k - 1, by omega⟩
    rw [argosyref01_Text.l0, if_neg (by omega), List.drop_eq_nil_of_le (by omega), if_pos (by simp)]
    simp
  | succ d ih =>
    intro k i acc hi hk ha
    obtain ⟨k, rfl⟩ : ∃ m, k = m + 1 := ⟨k - 1, by omega⟩
    have hiL : i < L.length := by omega
    have hr : rd L (i : Int) = L[i] := by rw [rd_at _ (by omega) (by omega)]; rfl
    rw [argosyref01_Text.l0, if_pos (by omega), if_pos (by omega), hr, rIs_is, Option.bind_some, List.drop_eq_getElem_cons hiL]
    generalize L[i] = x
    by_cases hv : vrune x
    · have h4 := encL_len4 x
      rw [if_pos (decide_eq_true hv), one_is (by omega) hv, Option.bind_some, if_pos (by rw [son_size, son_size]; omega), ← son_append, w64 (by omega), show (i : Int) + 1 = ((i + 1 : Nat) : Int) from by omega, ih k (i + 1) _ (by omega) (by omega) (by rw [List.length_append]; omega), List.flatMap_cons, List.append_assoc]
      congr 1
      by_cases hall : ∀ r ∈ L.drop (i + 1), vrune r
      · rw [if_pos hall, if_pos (by intro r hr; rcases List.mem_cons.1 hr with rfl | hr; exact hv; exact hall r hr)]
      · rw [if_neg hall, if_neg (fun h => hall fun r hr => h r (List.mem_cons_of_mem _ hr))]
    · rw [if_neg (by simpa using hv), if_neg (fun h => hv (h x List.mem_cons_self))]
theorem rText_is {k : Nat} {l : List Int} (hl : l.length ≤ 100000) (hk : 100100 ≤ k) : argosyref01_Text.f k l = some (textL l) := by
  unfold argosyref01_Text.f textL
  have := rText_loop l hl l.length k 0 [] (by omega) (by omega) (by simp; omega)
  simpa [son_nil] using this
theorem GlyphTexts : argosylaw01_GlyphTexts.Pure := by
  intro l h1 h2 h3
  refine ⟨200000, ?_⟩
  unfold argosylaw01_GlyphTexts.f
  by_cases h : (l.length : Int) > 2000
  · rw [if_pos h, lives_is (by omega)]; rfl
  rw [if_neg h, Option.bind_some, if_pos (by simp; omega), List.nil_append, Text_is (by omega) (by omega), Option.bind_some, rText_is (by omega) (by omega), Option.bind_some, if_pos rfl, if_pos rfl, lives_is (by omega)]
  rfl

end Go.Proofs.Ytmjbpcoopbihhaa.Pure
