/- A number has the width and the class that the document says. -/
import Derived.Test.YtmjbpcoopbihhaaPGlyphClassesx3
set_option linter.unusedVariables false
set_option linter.unusedSimpArgs false
namespace Go.Proofs.Ytmjbpcoopbihhaa.Pure
open Go.RowKit Go.Proofs.Ytmjbpcoopbihhaa.PGlyphClasses Go.Proofs.YtmjbpcoopbihhaaW.PrintWords Go.Proofs.YtmjbpcoopbihhaaW.PrintLast Go.Proofs.YtmjbpcoopbihhaaW.PrintMore

/-! ### Bytes -/
def isB (l : List Int) : Prop := ∀ x ∈ l, 0 ≤ x ∧ x < 256
theorem isB_of_wf {l : List Int} (h : ∀ x ∈ l, (Lit.int .u8 x).wf = true) : isB l := by
  intro x hx
  have := h x hx
  simp [Lit.wf, IntKind.min, IntKind.max, IntKind.bits, IntKind.signed] at this
  omega
theorem i64_of_wf {x : Int} (h : (Lit.int .i64 x).wf = true) : -9223372036854775808 ≤ x ∧ x ≤ 9223372036854775807 := by
  simp [Lit.wf, IntKind.min, IntKind.max, IntKind.bits, IntKind.signed] at h
  omega
theorem toList_loop (s : ByteArray) : ∀ (d i : Nat) (r : List UInt8), s.size - i = d → ByteArray.toList.loop s i r = r.reverse ++ s.data.toList.drop i := by
  intro d
  have hl : s.data.toList.length = s.size := Array.length_toList
  induction d with
  | zero =>
    intro i r h
    unfold ByteArray.toList.loop
    rw [if_neg (by omega), List.drop_eq_nil_of_le (by omega), List.append_nil]
  | succ d ih =>
    intro i r h
    unfold ByteArray.toList.loop
    rw [if_pos (by omega), ih (i + 1) _ (by omega)]
    have hi : i < s.data.toList.length := by omega
    rw [List.drop_eq_getElem_cons hi, List.reverse_cons, List.append_assoc]
    have : s.get! i = s.data.toList[i] := by
      have hs : i < s.size := by omega
      simp [ByteArray.get!, getElem!_pos, hs]
    rw [this]; rfl
theorem bytes_toList (s : ByteArray) : s.toList = s.data.toList := by
  unfold ByteArray.toList
  rw [toList_loop s _ 0 [] rfl]
  simp
theorem bytes_ext {a b : ByteArray} (h : a.toList = b.toList) : a = b := by
  rw [bytes_toList, bytes_toList] at h
  cases a; cases b
  congr 1
  exact Array.toList_inj.1 h
theorem son_data (xs : List Int) : (strOfNums xs).data.toList = xs.map fun n => UInt8.ofNat n.toNat := by simp [strOfNums]
theorem son_size (xs : List Int) : (strOfNums xs).size = xs.length := by simp [strOfNums, ByteArray.size]
theorem son_append (xs ys : List Int) : strOfNums (xs ++ ys) = strOfNums xs ++ strOfNums ys := by
  apply bytes_ext
  rw [bytes_toList, bytes_toList, son_data]
  simp [strOfNums]
theorem son_nil : strOfNums [] = (⟨#[]⟩ : ByteArray) := rfl
theorem u8_inj {a b : Int} (ha : 0 ≤ a ∧ a < 256) (hb : 0 ≤ b ∧ b < 256) (h : UInt8.ofNat a.toNat = UInt8.ofNat b.toNat) : a = b := by
  have := congrArg UInt8.toNat h
  simp [UInt8.toNat_ofNat'] at this
  omega
theorem map_u8_inj : ∀ {xs ys : List Int}, isB xs → isB ys → (xs.map fun n => UInt8.ofNat n.toNat) = (ys.map fun n => UInt8.ofNat n.toNat) → xs = ys
  | [], [], _, _, _ => rfl
  | [], y :: ys, _, _, h => by simp at h
  | x :: xs, [], _, _, h => by simp at h
  | x :: xs, y :: ys, hx, hy, h => by
    simp only [List.map_cons, List.cons.injEq] at h
    rw [u8_inj (hx x (by simp)) (hy y (by simp)) h.1, map_u8_inj (fun z hz => hx z (by simp [hz])) (fun z hz => hy z (by simp [hz])) h.2]
theorem son_inj {xs ys : List Int} (hx : isB xs) (hy : isB ys) (h : strOfNums xs = strOfNums ys) : xs = ys := by
  have := congrArg (fun s : ByteArray => s.data.toList) h
  simp only [son_data] at this
  exact map_u8_inj hx hy this
theorem son_toList_inj {xs ys : List Int} (hx : isB xs) (hy : isB ys) : (strOfNums xs).toList = (strOfNums ys).toList ↔ xs = ys :=
  ⟨fun h => son_inj hx hy (bytes_ext h), fun h => by rw [h]⟩
theorem son_bt {xs : List Int} (hx : isB xs) (i : Int) (h0 : 0 ≤ i) (h : i < xs.length) : bt (strOfNums xs) i = rd xs i := by
  have hi : i.toNat < xs.length := by omega
  unfold bt rd
  rw [dif_pos (by rw [son_size]; exact hi)]
  have hg : (strOfNums xs)[i.toNat]'(by rw [son_size]; exact hi) = UInt8.ofNat (xs[i.toNat]).toNat := by
    show (strOfNums xs).data[i.toNat]'_ = _
    simp [strOfNums]
  rw [hg, List.getD_eq_getElem?_getD, List.getElem?_eq_getElem hi]
  have := hx _ (List.getElem_mem hi)
  simp [UInt8.toNat_ofNat']
  omega
theorem son_extract (xs : List Int) (a b : Nat) : (strOfNums xs).extract a b = strOfNums ((xs.take b).drop a) := by
  apply bytes_ext
  rw [bytes_toList, bytes_toList, son_data]
  simp [strOfNums, ByteArray.data_extract, List.drop_take, List.map_take, List.map_drop, List.extract]
theorem isB_append {xs ys : List Int} (hx : isB xs) (hy : isB ys) : isB (xs ++ ys) := by
  intro z hz
  rcases List.mem_append.1 hz with h | h
  · exact hx z h
  · exact hy z h
theorem isB_take {xs : List Int} (h : isB xs) (n : Nat) : isB (xs.take n) := fun z hz => h z (List.mem_of_mem_take hz)
theorem isB_drop {xs : List Int} (h : isB xs) (n : Nat) : isB (xs.drop n) := fun z hz => h z (List.mem_of_mem_drop hz)
theorem rd_at {xs : List Int} (i : Int) (h0 : 0 ≤ i) (h : i < xs.length) : rd xs i = xs[i.toNat]'(by omega) := by
  unfold rd
  rw [List.getD_eq_getElem?_getD, List.getElem?_eq_getElem (by omega)]; rfl
theorem rd_isB {xs : List Int} (hx : isB xs) (i : Int) (h0 : 0 ≤ i) (h : i < xs.length) : 0 ≤ rd xs i ∧ rd xs i < 256 := by
  rw [rd_at i h0 h]
  exact hx _ (List.getElem_mem _)
theorem w64 {x : Int} (h : -9223372036854775808 ≤ x ∧ x ≤ 9223372036854775807) : wrap64 x = x := by
  unfold wrap64
  omega

/-! ### Numbers alike -/
theorem Same_loop (a b : List Int) (hl : a.length = b.length) (ha : a.length ≤ 1152921504606846976) : ∀ (d k i : Nat), i + d = a.length → d < k → argosyref01_Same.l0 k a b (i : Int) = some (decide (a.drop i = b.drop i)) := by
  intro d
  induction d with
  | zero =>
    intro k i hi hk
    obtain ⟨k, rfl⟩ : ∃ m, k = m + 1 := ⟨k - 1, by omega⟩
    simp only [argosyref01_Same.l0]
    rw [if_neg (by omega), List.drop_eq_nil_of_le (by omega), List.drop_eq_nil_of_le (by omega)]
    simp
  | succ d ih =>
    intro k i hi hk
    obtain ⟨k, rfl⟩ : ∃ m, k = m + 1 := ⟨k - 1, by omega⟩
    simp only [argosyref01_Same.l0]
    have h1 : i < a.length := by omega
    have h2 : i < b.length := by omega
    have hra : rd a (i : Int) = a[i] := by rw [rd_at _ (by omega) (by omega)]; rfl
    have hrb : rd b (i : Int) = b[i] := by rw [rd_at _ (by omega) (by omega)]; rfl
    rw [if_pos (by omega), if_pos (by omega), if_pos (by omega), hra, hrb, List.drop_eq_getElem_cons h1, List.drop_eq_getElem_cons h2]
    by_cases h : a[i] = b[i]
    · rw [if_pos h, w64 (by omega), show ((i : Int) + 1) = ((i + 1 : Nat) : Int) from by omega, ih k (i + 1) (by omega) (by omega)]
      rw [h]
      congr 1
      rw [decide_eq_decide]
      simp only [List.cons.injEq, true_and]
    · rw [if_neg h, decide_eq_false]
      simp only [List.cons.injEq]
      exact fun hc => h hc.1
theorem Same_is {k : Nat} {a b : List Int} (ha : a.length ≤ 1152921504606846976) (hk : a.length < k) : argosyref01_Same.f k a b = some (decide (a = b)) := by
  unfold argosyref01_Same.f
  by_cases hl : a.length = b.length
  · rw [if_pos (by omega)]
    have := Same_loop a b hl ha a.length k 0 (by omega) hk
    simpa using this
  · rw [if_neg (by omega)]
    have : a ≠ b := fun h => hl (by rw [h])
    simp [this]

/-! ### The width of a rune -/
def vrune (x : Int) : Prop := 0 ≤ x ∧ x ≤ 1114111 ∧ (x < 55296 ∨ 57343 < x)
instance (x : Int) : Decidable (vrune x) := by unfold vrune; infer_instance
def widG (x : Int) : Int := if vrune x then (if x < 128 then 1 else if x < 2048 then 2 else if x < 65536 then 3 else 4) else 0
theorem widG_bad {x : Int} (h : ¬ vrune x) : widG x = 0 := if_neg h
theorem widG_ok {x : Int} (h : vrune x) : widG x = (if x < 128 then 1 else if x < 2048 then 2 else if x < 65536 then 3 else 4) := if_pos h
theorem widG_zero (x : Int) : widG x = 0 ↔ ¬ vrune x := by
  constructor
  · intro h hv
    rw [widG_ok hv] at h
    split at h
    · omega
    · split at h
      · omega
      · split at h <;> omega
  · exact widG_bad
theorem RuneLen_is {k : Nat} (hk : 1 ≤ k) {x : Int} (h0 : 0 ≤ x) (h1 : x ≤ 1114111) : (utf8_RuneLen.f k x).bind (fun t => some (mx 0 t)) = some (widG x) := by
  obtain ⟨k, rfl⟩ : ∃ m, k = m + 1 := ⟨k - 1, by omega⟩
  unfold utf8_RuneLen.f
  have hmx : ∀ n : Int, 0 ≤ n → mx 0 n = n := fun n hn => by unfold mx; omega
  rw [if_neg (by omega)]
  by_cases a : x ≤ 127
  · rw [if_pos a, Option.bind_some, hmx 1 (by omega), widG_ok (by unfold vrune; omega), if_pos (by omega)]
  rw [if_neg a]
  by_cases b : x ≤ 2047
  · rw [if_pos b, Option.bind_some, hmx 2 (by omega), widG_ok (by unfold vrune; omega), if_neg (by omega), if_pos (by omega)]
  rw [if_neg b]
  by_cases c : 55296 ≤ x
  · rw [if_pos c]
    simp only [utf8_RuneLen.j0]
    by_cases d : x ≤ 57343
    · rw [if_pos (decide_eq_true d), Option.bind_some, widG_bad (by unfold vrune; omega)]
      rfl
    · rw [if_neg (by simpa using d)]
      by_cases e : x ≤ 65535
      · rw [if_pos e, Option.bind_some, hmx 3 (by omega), widG_ok (by unfold vrune; omega), if_neg (by omega), if_neg (by omega), if_pos (by omega)]
      · rw [if_neg e, if_pos h1, Option.bind_some, hmx 4 (by omega), widG_ok (by unfold vrune; omega), if_neg (by omega), if_neg (by omega), if_neg (by omega)]
  · rw [if_neg c]
    simp only [utf8_RuneLen.j0]
    rw [if_neg (by decide), if_pos (by omega), Option.bind_some, hmx 3 (by omega), widG_ok (by unfold vrune; omega), if_neg (by omega), if_neg (by omega), if_pos (by omega)]
theorem Width_is {k : Nat} (hk : 1 ≤ k) (x : Int) : glyph_Width.f k x = some (widG x) := by
  unfold glyph_Width.f
  by_cases a : x < 0
  · rw [if_pos a, widG_bad (by unfold vrune; omega)]
  rw [if_neg a]
  by_cases b : x > 1114111
  · rw [if_pos b, widG_bad (by unfold vrune; omega)]
  rw [if_neg b, show wrap32 x = x from by unfold wrap32; omega]
  exact RuneLen_is hk (by omega) (by omega)

/-! ### The reference's width -/
theorem rIs_is (x : Int) : argosyref01_Is.f x = some (decide (vrune x)) := by
  unfold argosyref01_Is.f
  by_cases a : x ≥ 0
  · rw [if_pos a]
    by_cases b : x ≤ 1114111
    · rw [if_pos b]
      by_cases c : x < 55296
      · rw [if_pos c, decide_eq_true (show vrune x from ⟨a, b, .inl c⟩)]
      · rw [if_neg c]
        congr 1
        rw [decide_eq_decide]
        unfold vrune
        omega
    · rw [if_neg b, decide_eq_false (show ¬ vrune x from fun h => b h.2.1)]
  · rw [if_neg a, decide_eq_false (show ¬ vrune x from fun h => a h.1)]
theorem rWidth_is (x : Int) : argosyref01_Width.f x = some (widG x) := by
  unfold argosyref01_Width.f
  rw [rIs_is, Option.bind_some]
  by_cases h : vrune x
  · rw [if_pos (decide_eq_true h), widG_ok h]
    split
    · rfl
    · split
      · rfl
      · split <;> rfl
  · rw [if_neg (by simpa using h), widG_bad h]

/-! ### It is alive -/
theorem lv_runes : glyph_Runes.f (⟨#[97, 195, 169, 226, 130, 172]⟩ : ByteArray) = some ([97, 233, 8364], 0) := by decide +kernel
theorem lv_cut : glyph_Cut.f (⟨#[97, 195, 169, 98]⟩ : ByteArray) 2 = some (⟨#[97, 195, 169]⟩, ⟨#[98]⟩) := by decide +kernel
theorem lv_bad : glyph_Bad.f (⟨#[97, 195]⟩ : ByteArray) = some 1 := by decide +kernel
theorem lv_text {k : Nat} (hk : 3 ≤ k) : glyph_Text.f k [55296] = some (⟨#[]⟩, 2) := by
  obtain ⟨k, rfl⟩ : ∃ m, k = m + 1 := ⟨k - 1, by omega⟩
  unfold glyph_Text.f
  simp only [glyph_Text.l0]
  rw [if_pos (by decide), if_pos (by decide), if_pos (by decide), Width_is (by omega)]
  rfl
theorem lv_class {k : Nat} (hk : 3 ≤ k) : glyph_Class.f k 233 = some 1 := by
  unfold glyph_Class.f
  rw [Width_is (by omega)]
  rfl
theorem lives_is {k : Nat} (hk : 10 ≤ k) : argosylaw01_lives.f k = some true := by
  unfold argosylaw01_lives.f
  rw [lv_runes, Option.bind_some, lv_text (by omega), Option.bind_some, lv_cut, Option.bind_some, Same_is (by simp) (by simp; omega), Option.bind_some, if_pos (by decide), if_pos rfl, if_pos rfl, lv_bad, Option.bind_some, if_pos rfl, lv_class (by omega), Option.bind_some, if_pos rfl]
  rw [bytes_toList, bytes_toList, if_pos rfl]
  rfl

theorem rj2 (k : Nat) (x : Int) (b : Bool) (h : b = decide (x = 9 ∨ x = 10 ∨ x = 13 ∨ x = 32)) : argosyref01_Class.j2 (k + 1) x b = some (if (9 ≤ x ∧ x ≤ 10) ∨ x = 13 ∨ x = 32 then 3 else if 33 ≤ x ∧ x ≤ 126 then 4 else 0) := by
  subst h
  simp only [argosyref01_Class.j2]
  by_cases a : x = 9 ∨ x = 10 ∨ x = 13 ∨ x = 32
  · rw [if_pos (decide_eq_true a), if_pos (by omega)]
  · rw [if_neg (by simpa using a), if_neg (c := (9 ≤ x ∧ x ≤ 10) ∨ x = 13 ∨ x = 32) (by omega)]
    by_cases b : x > 32
    · rw [if_pos b]
      by_cases c : x < 127
      · rw [if_pos c, if_pos (by omega)]
      · rw [if_neg c, if_neg (by omega)]
    · rw [if_neg b, if_neg (by omega)]
theorem rj1 (k : Nat) (x : Int) (b : Bool) (h : b = decide (48 ≤ x ∧ x ≤ 57)) : argosyref01_Class.j1 (k + 2) x b = some (if 48 ≤ x ∧ x ≤ 57 then 2 else if (9 ≤ x ∧ x ≤ 10) ∨ x = 13 ∨ x = 32 then 3 else if 33 ≤ x ∧ x ≤ 126 then 4 else 0) := by
  subst h
  simp only [argosyref01_Class.j1]
  by_cases a : 48 ≤ x ∧ x ≤ 57
  · rw [if_pos (decide_eq_true a), if_pos a]
  · rw [if_neg (by simpa using a), if_neg a]
    by_cases b : x = 9
    · rw [if_pos b]; exact rj2 k x _ (by rw [eq_comm, decide_eq_true_iff]; omega)
    rw [if_neg b]
    by_cases c : x = 10
    · rw [if_pos c]; exact rj2 k x _ (by rw [eq_comm, decide_eq_true_iff]; omega)
    rw [if_neg c]
    by_cases d : x = 13
    · rw [if_pos d]; exact rj2 k x _ (by rw [eq_comm, decide_eq_true_iff]; omega)
    rw [if_neg d]
    exact rj2 k x _ (by rw [Bool.eq_iff_iff, beq_iff_eq, decide_eq_true_iff]; omega)
theorem rj0 (k : Nat) (x : Int) (b : Bool) (h : b = decide (x ≥ 128 ∨ (97 ≤ x ∧ x ≤ 122) ∨ (65 ≤ x ∧ x ≤ 90) ∨ x = 95)) : argosyref01_Class.j0 (k + 3) x b = some (classG x) := by
  subst h
  simp only [argosyref01_Class.j0]
  unfold classG
  by_cases a : x ≥ 128 ∨ (97 ≤ x ∧ x ≤ 122) ∨ (65 ≤ x ∧ x ≤ 90) ∨ x = 95
  · rw [if_pos (decide_eq_true a), if_pos a]
  · rw [if_neg (by simpa using a), if_neg a]
    by_cases b : x ≥ 48
    · rw [if_pos b]
      exact rj1 k x _ (by rw [decide_eq_decide]; omega)
    · rw [if_neg b]
      exact rj1 k x _ (by rw [eq_comm, decide_eq_false_iff_not]; omega)
theorem rClass_is {k : Nat} (hk : 3 ≤ k) (x : Int) : argosyref01_Class.f k x = some (if widG x = 0 then 0 else classG x) := by
  obtain ⟨k, rfl⟩ : ∃ m, k = m + 3 := ⟨k - 3, by omega⟩
  unfold argosyref01_Class.f
  rw [rIs_is, Option.bind_some]
  by_cases h : vrune x
  · have hz : (if widG x = 0 then (0 : Int) else classG x) = classG x := if_neg (fun e => (widG_zero x).1 e h)
    rw [if_pos (decide_eq_true h), hz]
    clear hz
    clear h hk
    have tt : ∀ P : Prop, [Decidable P] → P → true = decide P := fun P _ h => (decide_eq_true h).symm
    have e95 : ¬ x ≥ 128 → ¬ (97 ≤ x ∧ x ≤ 122) → ¬ (65 ≤ x ∧ x ≤ 90) → (x == 95) = decide (x ≥ 128 ∨ (97 ≤ x ∧ x ≤ 122) ∨ (65 ≤ x ∧ x ≤ 90) ∨ x = 95) := fun h1 h2 h3 => by
      rw [Bool.eq_iff_iff, beq_iff_eq, decide_eq_true_iff]; omega
    by_cases a : x ≥ 128
    · rw [if_pos a]; exact rj0 k x _ (tt _ (by omega))
    rw [if_neg a]
    by_cases b : x ≥ 97
    · rw [if_pos b]
      by_cases c : x ≤ 122
      · rw [if_pos c]; exact rj0 k x _ (tt _ (by omega))
      rw [if_neg c, if_pos (by omega), if_neg (by omega)]
      exact rj0 k x _ (e95 (by omega) (by omega) (by omega))
    · rw [if_neg b]
      by_cases c : x ≥ 65
      · rw [if_pos c]
        by_cases d : x ≤ 90
        · rw [if_pos d]; exact rj0 k x _ (tt _ (by omega))
        · rw [if_neg d]; exact rj0 k x _ (e95 (by omega) (by omega) (by omega))
      · rw [if_neg c]; exact rj0 k x _ (e95 (by omega) (by omega) (by omega))
  · rw [if_neg (by simpa using h), if_pos (widG_bad h)]
theorem GlyphClasses : argosylaw01_GlyphClasses.Pure := by
  intro x hw
  refine ⟨20, ?_⟩
  unfold argosylaw01_GlyphClasses.f
  have hc : glyph_Class.f 20 x = some (if widG x = 0 then 0 else classG x) := by
    unfold glyph_Class.f
    rw [Width_is (by omega), Option.bind_some]
    split <;> rfl
  rw [Width_is (by omega), Option.bind_some, rWidth_is, Option.bind_some, if_pos rfl, hc, Option.bind_some, rClass_is (by omega), Option.bind_some, if_pos rfl, lives_is (by omega)]
  rfl

end Go.Proofs.Ytmjbpcoopbihhaa.Pure
