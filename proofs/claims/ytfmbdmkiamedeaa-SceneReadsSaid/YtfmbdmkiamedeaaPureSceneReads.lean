/- Any text has the moves that the document says, or the error, at the place, that it says. -/
import Derived.Test.YtfmbdmkiamedeaaPSceneReadsx11
import Derived.Lib.TrimUEq
set_option linter.unusedVariables false
set_option linter.unusedSimpArgs false
namespace Go.Proofs.Ytfmbdmkiamedeaa.Pure
open Go.RowKit Go.Proofs.Ytfmbdmkiamedeaa.PSceneReads Go.Proofs.YtfmbdmkiamedeaaW.PrintWords Go.Proofs.YtfmbdmkiamedeaaW.PrintLast Go.Proofs.YtfmbdmkiamedeaaW.PrintMore

/-! ### Bytes -/
def isB (l : List Int) : Prop := ∀ x ∈ l, 0 ≤ x ∧ x < 256
theorem isB_of_wf {l : List Int} (h : ∀ x ∈ l, (Lit.int .u8 x).wf = true) : isB l := by
  intro x hx
  have := h x hx
  simp [Lit.wf, IntKind.min, IntKind.max, IntKind.bits, IntKind.signed] at this
  omega
theorem i64_of_wf {x : Int} (h : (Lit.int .i64 x).wf = true) : -9223372036854775808 ≤ x ∧ x ≤ 9223372036854775807 := by
  simp [Lit.wf, IntKind.min, IntKind.max, IntKind.bits, IntKind.signed] at h
  omega
theorem toList_loop (s : ByteArray) : ∀ (d i : Nat) (r : List UInt8), s.size - i = d → ByteArray.toList.loop s i r = r.reverse ++ s.data.toList.drop i := by
  intro d
  have hl : s.data.toList.length = s.size := Array.length_toList
  induction d with
  | zero =>
    intro i r h
    unfold ByteArray.toList.loop
    rw [if_neg (by omega), List.drop_eq_nil_of_le (by omega), List.append_nil]
  | succ d ih =>
    intro i r h
    unfold ByteArray.toList.loop
    rw [if_pos (by omega), ih (i + 1) _ (by omega)]
    have hi : i < s.data.toList.length := by omega
    rw [List.drop_eq_getElem_cons hi, List.reverse_cons, List.append_assoc]
    have : s.get! i = s.data.toList[i] := by
      have hs : i < s.size := by omega
      simp [ByteArray.get!, getElem!_pos, hs]
    rw [this]; rfl
theorem bytes_toList (s : ByteArray) : s.toList = s.data.toList := by
  unfold ByteArray.toList
  rw [toList_loop s _ 0 [] rfl]
  simp
theorem bytes_ext {a b : ByteArray} (h : a.toList = b.toList) : a = b := by
  rw [bytes_toList, bytes_toList] at h
  cases a; cases b
  congr 1
  exact Array.toList_inj.1 h
theorem son_data (xs : List Int) : (strOfNums xs).data.toList = xs.map fun n => UInt8.ofNat n.toNat := by simp [strOfNums]
theorem son_size (xs : List Int) : (strOfNums xs).size = xs.length := by simp [strOfNums, ByteArray.size]
theorem son_append (xs ys : List Int) : strOfNums (xs ++ ys) = strOfNums xs ++ strOfNums ys := by
  apply bytes_ext
  rw [bytes_toList, bytes_toList, son_data]
  simp [strOfNums]
theorem son_nil : strOfNums [] = (⟨#[]⟩ : ByteArray) := rfl
theorem u8_inj {a b : Int} (ha : 0 ≤ a ∧ a < 256) (hb : 0 ≤ b ∧ b < 256) (h : UInt8.ofNat a.toNat = UInt8.ofNat b.toNat) : a = b := by
  have := congrArg UInt8.toNat h
  simp [UInt8.toNat_ofNat'] at this
  omega
theorem map_u8_inj : ∀ {xs ys : List Int}, isB xs → isB ys → (xs.map fun n => UInt8.ofNat n.toNat) = (ys.map fun n => UInt8.ofNat n.toNat) → xs = ys
  | [], [], _, _, _ => rfl
  | [], y :: ys, _, _, h => by simp at h
  | x :: xs, [], _, _, h => by simp at h
  | x :: xs, y :: ys, hx, hy, h => by
    simp only [List.map_cons, List.cons.injEq] at h
    rw [u8_inj (hx x (by simp)) (hy y (by simp)) h.1, map_u8_inj (fun z hz => hx z (by simp [hz])) (fun z hz => hy z (by simp [hz])) h.2]
theorem son_inj {xs ys : List Int} (hx : isB xs) (hy : isB ys) (h : strOfNums xs = strOfNums ys) : xs = ys := by
  have := congrArg (fun s : ByteArray => s.data.toList) h
  simp only [son_data] at this
  exact map_u8_inj hx hy this
theorem son_toList_inj {xs ys : List Int} (hx : isB xs) (hy : isB ys) : (strOfNums xs).toList = (strOfNums ys).toList ↔ xs = ys :=
  ⟨fun h => son_inj hx hy (bytes_ext h), fun h => by rw [h]⟩
theorem son_bt {xs : List Int} (hx : isB xs) (i : Int) (h0 : 0 ≤ i) (h : i < xs.length) : bt (strOfNums xs) i = rd xs i := by
  have hi : i.toNat < xs.length := by omega
  unfold bt rd
  rw [dif_pos (by rw [son_size]; exact hi)]
  have hg : (strOfNums xs)[i.toNat]'(by rw [son_size]; exact hi) = UInt8.ofNat (xs[i.toNat]).toNat := by
    show (strOfNums xs).data[i.toNat]'_ = _
    simp [strOfNums]
  rw [hg, List.getD_eq_getElem?_getD, List.getElem?_eq_getElem hi]
  have := hx _ (List.getElem_mem hi)
  simp [UInt8.toNat_ofNat']
  omega
theorem son_extract (xs : List Int) (a b : Nat) : (strOfNums xs).extract a b = strOfNums ((xs.take b).drop a) := by
  apply bytes_ext
  rw [bytes_toList, bytes_toList, son_data]
  simp [strOfNums, ByteArray.data_extract, List.drop_take, List.map_take, List.map_drop, List.extract]
theorem isB_append {xs ys : List Int} (hx : isB xs) (hy : isB ys) : isB (xs ++ ys) := by
  intro z hz
  rcases List.mem_append.1 hz with h | h
  · exact hx z h
  · exact hy z h
theorem isB_take {xs : List Int} (h : isB xs) (n : Nat) : isB (xs.take n) := fun z hz => h z (List.mem_of_mem_take hz)
theorem isB_drop {xs : List Int} (h : isB xs) (n : Nat) : isB (xs.drop n) := fun z hz => h z (List.mem_of_mem_drop hz)
theorem rd_at {xs : List Int} (i : Int) (h0 : 0 ≤ i) (h : i < xs.length) : rd xs i = xs[i.toNat]'(by omega) := by
  unfold rd
  rw [List.getD_eq_getElem?_getD, List.getElem?_eq_getElem (by omega)]; rfl
theorem rd_isB {xs : List Int} (hx : isB xs) (i : Int) (h0 : 0 ≤ i) (h : i < xs.length) : 0 ≤ rd xs i ∧ rd xs i < 256 := by
  rw [rd_at i h0 h]
  exact hx _ (List.getElem_mem _)
theorem w64 {x : Int} (h : -9223372036854775808 ≤ x ∧ x ≤ 9223372036854775807) : wrap64 x = x := by
  unfold wrap64
  omega

/-! ### A string's bytes -/
theorem bytesOf_isB (s : ByteArray) : isB (bytesOf s) := by
  intro x hx
  unfold bytesOf at hx
  obtain ⟨b, _, rfl⟩ := List.mem_map.1 hx
  have := b.toNat_lt
  omega
theorem son_bytesOf (s : ByteArray) : strOfNums (bytesOf s) = s := by
  apply bytes_ext
  rw [bytes_toList, bytes_toList, son_data, bytesOf, List.map_map]
  have : ((fun n : Int => UInt8.ofNat n.toNat) ∘ fun b : UInt8 => (b.toNat : Int)) = id := by
    funext b
    simp
  rw [this, List.map_id]

/-! ### Numbers alike -/
theorem Same_loop (a b : List Int) (hl : a.length = b.length) (ha : a.length ≤ 1152921504606846976) : ∀ (d k i : Nat), i + d = a.length → d < k → argosyref01_Same.l0 k a b (i : Int) = some (decide (a.drop i = b.drop i)) := by
  intro d
  induction d with
  | zero =>
    intro k i hi hk
    obtain ⟨k, rfl⟩ : ∃ m, k = m + 1 := ⟨k - 1, by omega⟩
    simp only [argosyref01_Same.l0]
    rw [if_neg (by omega), List.drop_eq_nil_of_le (by omega), List.drop_eq_nil_of_le (by omega)]
    simp
  | succ d ih =>
    intro k i hi hk
    obtain ⟨k, rfl⟩ : ∃ m, k = m + 1 := ⟨k - 1, by omega⟩
    simp only [argosyref01_Same.l0]
    have h1 : i < a.length := by omega
    have h2 : i < b.length := by omega
    have hra : rd a (i : Int) = a[i] := by rw [rd_at _ (by omega) (by omega)]; rfl
    have hrb : rd b (i : Int) = b[i] := by rw [rd_at _ (by omega) (by omega)]; rfl
    rw [if_pos (by omega), if_pos (by omega), if_pos (by omega), hra, hrb, List.drop_eq_getElem_cons h1, List.drop_eq_getElem_cons h2]
    by_cases h : a[i] = b[i]
    · rw [if_pos h, w64 (by omega), show ((i : Int) + 1) = ((i + 1 : Nat) : Int) from by omega, ih k (i + 1) (by omega) (by omega)]
      rw [h]
      congr 1
      rw [decide_eq_decide]
      simp only [List.cons.injEq, true_and]
    · rw [if_neg h, decide_eq_false]
      simp only [List.cons.injEq]
      exact fun hc => h hc.1
theorem Same_is {k : Nat} {a b : List Int} (ha : a.length ≤ 1152921504606846976) (hk : a.length < k) : argosyref01_Same.f k a b = some (decide (a = b)) := by
  unfold argosyref01_Same.f
  by_cases hl : a.length = b.length
  · rw [if_pos (by omega)]
    have := Same_loop a b hl ha a.length k 0 (by omega) hk
    simpa using this
  · rw [if_neg (by omega)]
    have : a ≠ b := fun h => hl (by rw [h])
    simp [this]

/-! ### The width of a rune -/
def vrune (x : Int) : Prop := 0 ≤ x ∧ x ≤ 1114111 ∧ (x < 55296 ∨ 57343 < x)
instance (x : Int) : Decidable (vrune x) := by unfold vrune; infer_instance
def widG (x : Int) : Int := if vrune x then (if x < 128 then 1 else if x < 2048 then 2 else if x < 65536 then 3 else 4) else 0
theorem widG_bad {x : Int} (h : ¬ vrune x) : widG x = 0 := if_neg h
theorem widG_ok {x : Int} (h : vrune x) : widG x = (if x < 128 then 1 else if x < 2048 then 2 else if x < 65536 then 3 else 4) := if_pos h
theorem widG_zero (x : Int) : widG x = 0 ↔ ¬ vrune x := by
  constructor
  · intro h hv
    rw [widG_ok hv] at h
    split at h
    · omega
    · split at h
      · omega
      · split at h <;> omega
  · exact widG_bad
theorem RuneLen_is {k : Nat} (hk : 1 ≤ k) {x : Int} (h0 : 0 ≤ x) (h1 : x ≤ 1114111) : (utf8_RuneLen.f k x).bind (fun t => some (mx 0 t)) = some (widG x) := by
  obtain ⟨k, rfl⟩ : ∃ m, k = m + 1 := ⟨k - 1, by omega⟩
  unfold utf8_RuneLen.f
  have hmx : ∀ n : Int, 0 ≤ n → mx 0 n = n := fun n hn => by unfold mx; omega
  rw [if_neg (by omega)]
  by_cases a : x ≤ 127
  · rw [if_pos a, Option.bind_some, hmx 1 (by omega), widG_ok (by unfold vrune; omega), if_pos (by omega)]
  rw [if_neg a]
  by_cases b : x ≤ 2047
  · rw [if_pos b, Option.bind_some, hmx 2 (by omega), widG_ok (by unfold vrune; omega), if_neg (by omega), if_pos (by omega)]
  rw [if_neg b]
  by_cases c : 55296 ≤ x
  · rw [if_pos c]
    simp only [utf8_RuneLen.j0]
    by_cases d : x ≤ 57343
    · rw [if_pos (decide_eq_true d), Option.bind_some, widG_bad (by unfold vrune; omega)]
      rfl
    · rw [if_neg (by simpa using d)]
      by_cases e : x ≤ 65535
      · rw [if_pos e, Option.bind_some, hmx 3 (by omega), widG_ok (by unfold vrune; omega), if_neg (by omega), if_neg (by omega), if_pos (by omega)]
      · rw [if_neg e, if_pos h1, Option.bind_some, hmx 4 (by omega), widG_ok (by unfold vrune; omega), if_neg (by omega), if_neg (by omega), if_neg (by omega)]
  · rw [if_neg c]
    simp only [utf8_RuneLen.j0]
    rw [if_neg (by decide), if_pos (by omega), Option.bind_some, hmx 3 (by omega), widG_ok (by unfold vrune; omega), if_neg (by omega), if_neg (by omega), if_pos (by omega)]
theorem Width_is {k : Nat} (hk : 1 ≤ k) (x : Int) : glyph_Width.f k x = some (widG x) := by
  unfold glyph_Width.f
  by_cases a : x < 0
  · rw [if_pos a, widG_bad (by unfold vrune; omega)]
  rw [if_neg a]
  by_cases b : x > 1114111
  · rw [if_pos b, widG_bad (by unfold vrune; omega)]
  rw [if_neg b, show wrap32 x = x from by unfold wrap32; omega]
  exact RuneLen_is hk (by omega) (by omega)

/-! ### The reference's width -/
theorem rIs_is (x : Int) : argosyref01_Is.f x = some (decide (vrune x)) := by
  unfold argosyref01_Is.f
  by_cases a : x ≥ 0
  · rw [if_pos a]
    by_cases b : x ≤ 1114111
    · rw [if_pos b]
      by_cases c : x < 55296
      · rw [if_pos c, decide_eq_true (show vrune x from ⟨a, b, .inl c⟩)]
      · rw [if_neg c]
        congr 1
        rw [decide_eq_decide]
        unfold vrune
        omega
    · rw [if_neg b, decide_eq_false (show ¬ vrune x from fun h => b h.2.1)]
  · rw [if_neg a, decide_eq_false (show ¬ vrune x from fun h => a h.1)]
theorem rWidth_is (x : Int) : argosyref01_Width.f x = some (widG x) := by
  unfold argosyref01_Width.f
  rw [rIs_is, Option.bind_some]
  by_cases h : vrune x
  · rw [if_pos (decide_eq_true h), widG_ok h]
    split
    · rfl
    · split
      · rfl
      · split <;> rfl
  · rw [if_neg (by simpa using h), widG_bad h]

/-! ### A rune's bytes, and what a range over a text reads -/
open Go.Lib (decodeN)
theorem dN_pos (n b0 b1 b2 b3 : Nat) : 1 ≤ (decodeN n b0 b1 b2 b3).2 := by
  unfold decodeN
  repeat' split
  all_goals simp
theorem dN_le (n b0 b1 b2 b3 : Nat) (hn : 1 ≤ n) : (decodeN n b0 b1 b2 b3).2 ≤ n := by
  unfold decodeN
  repeat' split
  all_goals (simp only; omega)
def badN (n b0 b1 b2 b3 : Nat) : Prop := decodeN n b0 b1 b2 b3 = (65533, 1)
instance (n b0 b1 b2 b3 : Nat) : Decidable (badN n b0 b1 b2 b3) := by unfold badN; infer_instance
theorem dN_good (n b0 b1 b2 b3 : Nat) (h0 : b0 < 256) (h : ¬ badN n b0 b1 b2 b3) : vrune ((decodeN n b0 b1 b2 b3).1 : Int) ∧ widG ((decodeN n b0 b1 b2 b3).1 : Int) = ((decodeN n b0 b1 b2 b3).2 : Int) := by
  have key : ∀ (r w : Nat), vrune (r : Int) → (if (r : Int) < 128 then (1 : Int) else if (r : Int) < 2048 then 2 else if (r : Int) < 65536 then 3 else 4) = (w : Int) → vrune (((r, w) : Nat × Nat).1 : Int) ∧ widG (((r, w) : Nat × Nat).1 : Int) = (((r, w) : Nat × Nat).2 : Int) := fun r w h1 h2 => ⟨h1, by rw [widG_ok h1]; exact h2⟩
  unfold badN at h
  revert h
  unfold decodeN
  by_cases c0 : b0 < 128
  · rw [if_pos c0]
    exact fun _ => key _ _ (by unfold vrune; omega) (by rw [if_pos (by omega)]; rfl)
  rw [if_neg c0]
  by_cases c1 : b0 / 32 = 6 ∧ (1 < n ∧ b1 / 64 = 2)
  · rw [if_pos c1]
    by_cases c2 : b0 % 32 * 64 + b1 % 64 ≥ 128
    · rw [if_pos c2]
      exact fun _ => key _ _ (by unfold vrune; omega) (by rw [if_neg (by omega), if_pos (by omega)]; rfl)
    · rw [if_neg c2]; exact fun h => absurd rfl h
  rw [if_neg c1]
  by_cases c2 : b0 / 16 = 14 ∧ (1 < n ∧ b1 / 64 = 2) ∧ (2 < n ∧ b2 / 64 = 2)
  · rw [if_pos c2]
    split
    · rename_i c3
      exact fun _ => key _ _ (by unfold vrune; omega) (by rw [if_neg (by omega), if_neg (by omega), if_pos (by omega)]; rfl)
    · exact fun h => absurd rfl h
  rw [if_neg c2]
  by_cases c3 : b0 / 8 = 30 ∧ (1 < n ∧ b1 / 64 = 2) ∧ (2 < n ∧ b2 / 64 = 2) ∧ (3 < n ∧ b3 / 64 = 2)
  · rw [if_pos c3]
    split
    · rename_i c4
      exact fun _ => key _ _ (by unfold vrune; omega) (by rw [if_neg (by omega), if_neg (by omega), if_neg (by omega)]; rfl)
    · exact fun h => absurd rfl h
  rw [if_neg c3]
  exact fun h => absurd rfl h
theorem dN_fffd (n b0 b1 b2 b3 : Nat) (h0 : b0 < 256) (h1 : b1 < 256) (h2 : b2 < 256) (h3 : b3 < 256) (h : (decodeN n b0 b1 b2 b3).1 = 65533) : ¬ badN n b0 b1 b2 b3 ↔ (3 ≤ n ∧ b0 = 239 ∧ b1 = 191 ∧ b2 = 189) := by
  have key : ∀ (r w : Nat), (((r, w) : Nat × Nat)).1 = 65533 → (¬ ((r, w) : Nat × Nat) = (65533, 1) ↔ w ≠ 1) := fun r w h => by
    simp only at h
    subst h
    simp
  unfold badN
  revert h
  unfold decodeN
  by_cases c0 : b0 < 128
  · rw [if_pos c0]; intro h; rw [key _ _ h]; simp only at h; omega
  rw [if_neg c0]
  by_cases c1 : b0 / 32 = 6 ∧ (1 < n ∧ b1 / 64 = 2)
  · rw [if_pos c1]
    by_cases c2 : b0 % 32 * 64 + b1 % 64 ≥ 128
    · rw [if_pos c2]; intro h; rw [key _ _ h]; simp only at h; omega
    · rw [if_neg c2]; intro h; rw [key _ _ h]; omega
  rw [if_neg c1]
  by_cases c2 : b0 / 16 = 14 ∧ (1 < n ∧ b1 / 64 = 2) ∧ (2 < n ∧ b2 / 64 = 2)
  · rw [if_pos c2]
    split
    · rename_i c3; intro h; rw [key _ _ h]; simp only at h; omega
    · rename_i c3; intro h; rw [key _ _ h]; omega
  rw [if_neg c2]
  by_cases c3 : b0 / 8 = 30 ∧ (1 < n ∧ b1 / 64 = 2) ∧ (2 < n ∧ b2 / 64 = 2) ∧ (3 < n ∧ b3 / 64 = 2)
  · rw [if_pos c3]
    split
    · rename_i c4; intro h; rw [key _ _ h]; simp only at h; omega
    · rename_i c4; intro h; rw [key _ _ h]; omega
  rw [if_neg c3]
  intro h; rw [key _ _ h]; omega
/-- Byte i of a row, 0 beyond its end. -/
def gb (xs : List Int) (i : Nat) : Nat := (xs.getD i 0).toNat
theorem gb_lt {xs : List Int} (hx : isB xs) (i : Nat) : gb xs i < 256 := by
  unfold gb
  rw [List.getD_eq_getElem?_getD]
  by_cases h : i < xs.length
  · rw [List.getElem?_eq_getElem h]
    have := hx _ (List.getElem_mem h)
    simp only [Option.getD_some]
    omega
  · rw [List.getElem?_eq_none (by omega)]
    simp
theorem gb_drop (xs : List Int) (p i : Nat) : gb (xs.drop p) i = gb xs (p + i) := by
  unfold gb
  simp [List.getD_eq_getElem?_getD, List.getElem?_drop]
theorem dec_at {xs : List Int} (hx : isB xs) (p : Nat) : Utf8.decode (strOfNums xs) p = decodeN (xs.length - p) (gb xs p) (gb xs (p + 1)) (gb xs (p + 2)) (gb xs (p + 3)) := by
  rw [Go.Lib.decode_N, son_data, List.length_map]
  have : ∀ i : Nat, ((xs.map fun n => UInt8.ofNat n.toNat).getD i 0).toNat = gb xs i := by
    intro i
    have hl := gb_lt hx i
    have key : ∀ o : Option Int, (o.getD 0).toNat < 256 → ((o.map fun n => UInt8.ofNat n.toNat).getD 0).toNat = (o.getD 0).toNat := by
      intro o ho
      cases o with
      | none => rfl
      | some v =>
        simp only [Option.map_some, Option.getD_some, UInt8.toNat_ofNat'] at ho ⊢
        omega
    unfold gb at hl ⊢
    rw [List.getD_eq_getElem?_getD] at hl
    rw [List.getD_eq_getElem?_getD, List.getD_eq_getElem?_getD, List.getElem?_map]
    exact key _ hl
  rw [this, this, this, this]
/-- What stands at place p: nothing to be read (a broken byte). -/
def badAt (xs : List Int) (p : Nat) : Prop := badN (xs.length - p) (gb xs p) (gb xs (p + 1)) (gb xs (p + 2)) (gb xs (p + 3))
instance (xs : List Int) (p : Nat) : Decidable (badAt xs p) := by unfold badAt; infer_instance
def runeAt (xs : List Int) (p : Nat) : Int := ((decodeN (xs.length - p) (gb xs p) (gb xs (p + 1)) (gb xs (p + 2)) (gb xs (p + 3))).1 : Int)
def widAt (xs : List Int) (p : Nat) : Nat := (decodeN (xs.length - p) (gb xs p) (gb xs (p + 1)) (gb xs (p + 2)) (gb xs (p + 3))).2
theorem widAt_pos (xs : List Int) (p : Nat) : 1 ≤ widAt xs p := dN_pos _ _ _ _ _
theorem widAt_le (xs : List Int) (p : Nat) (h : p < xs.length) : p + widAt xs p ≤ xs.length := by
  have := dN_le (xs.length - p) (gb xs p) (gb xs (p + 1)) (gb xs (p + 2)) (gb xs (p + 3)) (by omega)
  unfold widAt
  omega
theorem good_at {xs : List Int} (hx : isB xs) {p : Nat} (h : ¬ badAt xs p) : vrune (runeAt xs p) ∧ widG (runeAt xs p) = (widAt xs p : Int) := dN_good _ _ _ _ _ (gb_lt hx _) h
theorem dec_rune {xs : List Int} (hx : isB xs) (p : Nat) : (((Utf8.decode (strOfNums xs) p).1 : Nat) : Int) = runeAt xs p := by rw [dec_at hx]; rfl
theorem dec_wid {xs : List Int} (hx : isB xs) (p : Nat) : (Utf8.decode (strOfNums xs) p).2 = widAt xs p := by rw [dec_at hx]; rfl
theorem take3 (xs : List Int) (p : Nat) : ((xs.drop p).take 3 = [239, 191, 189]) ↔ (3 ≤ xs.length - p ∧ xs.getD p 0 = 239 ∧ xs.getD (p + 1) 0 = 191 ∧ xs.getD (p + 2) 0 = 189) := by
  have e : ∀ i, xs.getD (p + i) 0 = (xs.drop p).getD i 0 := fun i => by simp [List.getD_eq_getElem?_getD, List.getElem?_drop]
  have hl : (xs.drop p).length = xs.length - p := by simp
  have e0 := e 0
  rw [Nat.add_zero] at e0
  rw [e0, e 1, e 2, ← hl]
  generalize xs.drop p = ys
  rcases ys with _ | ⟨a, _ | ⟨b, _ | ⟨c, ys⟩⟩⟩ <;> simp
theorem brk_at {xs : List Int} (hx : isB xs) (p : Nat) (hp : p ≤ xs.length) (r : Nat) (hr : (r : Int) = runeAt xs p) : brk (strOfNums xs) (p, r) = decide (badAt xs p) := by
  unfold brk glyph_broken.f
  simp only
  by_cases h : (r : Int) = 65533
  · have hk := dN_fffd (xs.length - p) (gb xs p) (gb xs (p + 1)) (gb xs (p + 2)) (gb xs (p + 3)) (gb_lt hx _) (gb_lt hx _) (gb_lt hx _) (gb_lt hx _) (by have := hr.symm.trans h; unfold runeAt at this; omega)
    have hsz := son_size xs
    rw [if_pos h, if_pos (by omega), if_pos (by omega), Int.toNat_natCast, son_extract, hsz, List.take_length]
    have e3 : (⟨#[239, 191, 189]⟩ : ByteArray) = strOfNums [239, 191, 189] := rfl
    have hs3 : (strOfNums [239, 191, 189]).size = 3 := rfl
    have i3 : isB [239, 191, 189] := by intro x hx; simp at hx; omega
    have hgb : ∀ i v, v < 256 → 0 ≤ v → (gb xs i = v.toNat ↔ (xs.getD i 0) = v) := by
      intro i v h1 h2
      unfold gb
      by_cases hi : i < xs.length
      · rw [List.getD_eq_getElem?_getD, List.getElem?_eq_getElem hi]
        have := hx _ (List.getElem_mem hi)
        simp only [Option.getD_some]
        omega
      · rw [List.getD_eq_getElem?_getD, List.getElem?_eq_none (by omega)]
        simp only [Option.getD_none]
        omega
    have hz : (strOfNums (xs.drop p)).size = xs.length - p := by rw [son_size]; simp
    have ht := take3 xs p
    rw [← hgb p 239 (by omega) (by omega), ← hgb (p + 1) 191 (by omega) (by omega), ← hgb (p + 2) 189 (by omega) (by omega)] at ht
    have hall := hk.trans ht.symm
    unfold strings_HasPrefix.f stringslite_HasPrefix.f
    rw [e3, hs3, hz]
    by_cases hc : ((xs.length - p : Nat) : Int) ≥ ((3 : Nat) : Int)
    · rw [if_pos hc, if_pos (by omega), if_pos (by omega), Int.toNat_natCast, son_extract]
      simp only [Option.bind_some, Option.getD_some, List.drop_zero]
      rw [Bool.eq_iff_iff, Bool.not_eq_true', beq_eq_false_iff_ne, decide_eq_true_iff, Ne, son_toList_inj (isB_take (isB_drop hx _) _) i3, ← hall, Decidable.not_not]
      rfl
    · rw [if_neg hc]
      simp only [Option.bind_some, Option.getD_some, Bool.not_false]
      rw [eq_comm, decide_eq_true_iff]
      refine Decidable.of_not_not fun hb => ?_
      have := (hk.1 hb).1
      omega
  · rw [if_neg h, Option.getD_some, eq_comm, decide_eq_false_iff_not]
    intro hb
    refine h (hr.trans ?_)
    unfold badAt badN at hb
    unfold runeAt
    rw [hb]
    rfl

/-! ### The reference's bytes of one rune -/
def encL (x : Int) : List Int := if x < 128 then [x] else if x < 2048 then [192 + x / 64, 128 + x % 64] else if x < 65536 then [224 + x / 4096, 128 + x / 64 % 64, 128 + x % 64] else [240 + x / 262144, 128 + x / 4096 % 64, 128 + x / 64 % 64, 128 + x % 64]
theorem encL_isB {x : Int} (h : vrune x) : isB (encL x) := by
  unfold vrune at h
  unfold encL
  split
  · intro z hz; simp only [List.mem_singleton] at hz; omega
  · split
    · intro z hz; simp only [List.mem_cons, List.not_mem_nil, or_false] at hz; omega
    · split
      · intro z hz; simp only [List.mem_cons, List.not_mem_nil, or_false] at hz; omega
      · intro z hz; simp only [List.mem_cons, List.not_mem_nil, or_false] at hz; omega
theorem encL_len {x : Int} (h : vrune x) : ((encL x).length : Int) = widG x := by
  rw [widG_ok h]
  unfold encL
  split
  · rfl
  · split
    · rfl
    · split <;> rfl
theorem one_step (k : Nat) (x n i : Int) (tbl t : List Int) (hi : i < n) (hi2 : 0 ≤ i ∧ i < 10) (hx : 0 ≤ x ∧ x ≤ 1114111) (ht : t.length ≤ 10) : argosyref01_one.l0 (k + 1) x n tbl (strOfNums t) i = argosyref01_one.l0 k (x / 64) n tbl (strOfNums ((128 + x % 64) :: t)) (i + 1) := by
  have e1 : (wrap64 (128 + Int.tmod x 64)) % 256 = 128 + x % 64 := by
    rw [Int.tmod_eq_emod_of_nonneg hx.1, w64 (by omega)]
    omega
  have e2 : wrap64 (Int.tdiv x 64) = x / 64 := by
    rw [Int.tdiv_eq_ediv_of_nonneg hx.1, w64 (by omega)]
  rw [argosyref01_one.l0, if_pos hi, Option.bind_some, e1, e2, w64 (by omega), ← son_append, if_pos (by rw [son_size, son_size]; simp; omega)]
  rfl
theorem one_end (k : Nat) (x n i : Int) (tbl t : List Int) (hi : ¬ i < n) (h0 : 0 ≤ n) (hn : n < tbl.length) (ht : t.length ≤ 10) (hx : 0 ≤ x ∧ x < 256 ) (hv : 0 ≤ rd tbl n + x ∧ rd tbl n + x < 256) : argosyref01_one.l0 (k + 1) x n tbl (strOfNums t) i = some (strOfNums ((rd tbl n + x) :: t)) := by
  have e1 : (rd tbl n + x % 256) % 256 = rd tbl n + x := by omega
  rw [argosyref01_one.l0, if_neg hi, if_pos h0, if_pos hn, Option.bind_some, e1, ← son_append, if_pos (by rw [son_size, son_size]; simp; omega)]
  rfl
theorem one_is {k : Nat} (hk : 6 ≤ k) {x : Int} (h : vrune x) : argosyref01_one.f k x = some (strOfNums (encL x)) := by
  obtain ⟨k, rfl⟩ : ∃ m, k = m + 5 := ⟨k - 5, by omega⟩
  have hv := h
  unfold vrune at hv
  unfold argosyref01_one.f
  rw [rWidth_is, Option.bind_some, widG_ok h]
  unfold encL
  by_cases a : x < 128
  · rw [if_pos a, if_pos a, if_pos rfl, show x % 256 = x from by omega]
  rw [if_neg a, if_neg a]
  have sn : (⟨#[]⟩ : ByteArray) = strOfNums [] := rfl
  rw [sn]
  by_cases b : x < 2048
  · rw [if_pos b, if_pos b, if_neg (by decide), one_step _ x 2 1 _ _ (by decide) (by decide) (by omega) (by simp), one_end _ _ 2 _ _ _ (by decide) (by decide) (by decide) (by simp) (by omega) (by rw [show rd [0, 0, 192, 224, 240] 2 = 192 from rfl]; omega)]
    rfl
  rw [if_neg b, if_neg b]
  by_cases c : x < 65536
  · rw [if_pos c, if_pos c, if_neg (by decide), one_step _ x 3 1 _ _ (by decide) (by decide) (by omega) (by simp), one_step _ (x / 64) 3 _ _ _ (by decide) (by decide) (by omega) (by simp), one_end _ _ 3 _ _ _ (by decide) (by decide) (by decide) (by simp) (by omega) (by rw [show rd [0, 0, 192, 224, 240] 3 = 224 from rfl]; omega), show rd [0, 0, 192, 224, 240] 3 = 224 from rfl, show x / 64 / 64 = x / 4096 from by omega]
  rw [if_neg c, if_neg c, if_neg (by decide), one_step _ x 4 1 _ _ (by decide) (by decide) (by omega) (by simp), one_step _ (x / 64) 4 _ _ _ (by decide) (by decide) (by omega) (by simp), one_step _ (x / 64 / 64) 4 _ _ _ (by decide) (by decide) (by omega) (by simp), one_end _ _ 4 _ _ _ (by decide) (by decide) (by decide) (by simp) (by omega) (by rw [show rd [0, 0, 192, 224, 240] 4 = 240 from rfl]; omega), show rd [0, 0, 192, 224, 240] 4 = 240 from rfl, show x / 64 / 64 = x / 4096 from by omega, show x / 4096 / 64 = x / 262144 from by omega]

/-! ### The reference's first rune -/
theorem bt_at {xs : List Int} (hx : isB xs) (i : Nat) (h : i < xs.length) : bt (strOfNums xs) (i : Int) = (gb xs i : Int) := by
  have hr : rd xs (i : Int) = xs[i] := by rw [rd_at _ (by omega) (by omega)]; rfl
  rw [son_bt hx _ (by omega) (by omega), hr]
  unfold gb
  rw [List.getD_eq_getElem?_getD, List.getElem?_eq_getElem h]
  have := hx _ (List.getElem_mem h)
  simp only [Option.getD_some]
  omega
theorem l1_step (k : Nat) {xs : List Int} (hx : isB xs) (n x : Int) (i : Nat) (hn : (i : Int) < n) (hi : i < xs.length) (hl : i < 10) (h : 0 ≤ x ∧ x ≤ 1000000) : argosyref01_first.l1 (k + 1) (strOfNums xs) n x (i : Int) = argosyref01_first.l1 k (strOfNums xs) n (64 * x + (gb xs i : Int) % 64) ((i + 1 : Nat) : Int) := by
  have hg := gb_lt hx i
  rw [argosyref01_first.l1, if_pos hn, if_pos (by omega), if_pos (by rw [son_size]; omega), bt_at hx i hi, w64 (x := ((gb xs i : Nat) : Int)) (by omega), Int.tmod_eq_emod_of_nonneg (by omega), w64 (x := 64 * x) (by omega), w64 (by omega), w64 (by omega)]
  rfl
/-- The try at n bytes: x, and the bytes are those of x. -/
def att (n : Nat) (ys : List Int) (x : Int) : Prop := widG x = (n : Int) ∧ encL x = ys.take n
instance (n : Nat) (ys : List Int) (x : Int) : Decidable (att n ys x) := by unfold att; infer_instance
theorem l1_end {k : Nat} (hk : 6 ≤ k) {xs : List Int} (hx : isB xs) (n : Nat) (x i : Int) (h1 : 1 ≤ n) (hn : n ≤ 4) (hi : ¬ i < (n : Int)) (hl : n ≤ xs.length) : argosyref01_first.l1 (k + 1) (strOfNums xs) (n : Int) x i = if att n xs x then some x else argosyref01_first.l0 k (strOfNums xs) ((n + 1 : Nat) : Int) := by
  rw [argosyref01_first.l1, if_neg hi, rWidth_is, Option.bind_some]
  by_cases hw : widG x = (n : Int)
  · have hv : vrune x := Decidable.of_not_not fun h => by rw [widG_bad h] at hw; omega
    rw [if_pos hw, one_is hk hv, Option.bind_some, if_pos (by omega), if_pos (by rw [son_size]; omega), Int.toNat_natCast, son_extract, List.drop_zero]
    by_cases he : encL x = xs.take n
    · rw [if_pos (by rw [he]), if_pos ⟨hw, he⟩]
    · rw [if_neg (fun h => he ((son_toList_inj (encL_isB hv) (isB_take hx _)).1 h)), if_neg (fun h => he h.2), w64 (by omega)]
      rfl
  · rw [if_neg hw, if_neg (fun h => hw h.1), w64 (by omega)]
    rfl
theorem l0_short (k : Nat) {xs : List Int} (n : Nat) (hn : n ≤ 5) (hl : 4 < n ∨ xs.length < n) : argosyref01_first.l0 (k + 2) (strOfNums xs) (n : Int) = some (-1) := by
  rw [argosyref01_first.l0]
  by_cases h : (n : Int) ≤ 4
  · rw [if_pos h, decide_eq_false (by rw [son_size]; omega)]
    rw [argosyref01_first.j1, if_neg (by decide)]
  · rw [if_neg h]
    rw [argosyref01_first.j1, if_neg (by decide)]
theorem l0_one (k : Nat) {xs : List Int} (hx : isB xs) (hl : 1 ≤ xs.length) : argosyref01_first.l0 (k + 3) (strOfNums xs) 1 = argosyref01_first.l1 k (strOfNums xs) 1 (gb xs 0) 1 := by
  have hg := gb_lt hx 0
  rw [argosyref01_first.l0, if_pos (by decide), decide_eq_true (by rw [son_size]; omega), argosyref01_first.j1, if_pos rfl, if_pos (by rw [son_size]; omega), if_neg (by decide), argosyref01_first.j2]
  have := bt_at hx 0 (by omega)
  rw [Int.natCast_zero] at this
  rw [this, w64 (by omega)]
theorem l0_more (k : Nat) {xs : List Int} (hx : isB xs) (n : Nat) (h2 : 2 ≤ n) (hn : n ≤ 4) (hl : n ≤ xs.length) (m : Int) (hm : rd ([0, 0, 32, 16, 8] : List Int) (n : Int) = m) (hm0 : 0 < m) : argosyref01_first.l0 (k + 3) (strOfNums xs) (n : Int) = argosyref01_first.l1 k (strOfNums xs) (n : Int) ((gb xs 0 : Int) % m) 1 := by
  have hg := gb_lt hx 0
  rw [argosyref01_first.l0, if_pos (by omega), decide_eq_true (by rw [son_size]; omega), argosyref01_first.j1, if_pos rfl, if_pos (by rw [son_size]; omega), if_pos (by omega), Option.bind_some, if_pos (by omega), if_pos (by simp; omega), hm, if_neg (by omega), argosyref01_first.j2]
  have := bt_at hx 0 (by omega)
  rw [Int.natCast_zero] at this
  rw [this, w64 (by omega), Int.tmod_eq_emod_of_nonneg (by omega)]
def x2N (b0 b1 : Nat) : Nat := b0 % 32 * 64 + b1 % 64
def x3N (b0 b1 b2 : Nat) : Nat := b0 % 16 * 4096 + b1 % 64 * 64 + b2 % 64
def x4N (b0 b1 b2 b3 : Nat) : Nat := b0 % 8 * 262144 + b1 % 64 * 4096 + b2 % 64 * 64 + b3 % 64
theorem first_is {k : Nat} (hk : 40 ≤ k) {xs : List Int} (hx : isB xs) (hl : 1 ≤ xs.length) : argosyref01_first.f k (strOfNums xs) = some (
    if att 1 xs (gb xs 0) then (gb xs 0 : Int) else
    if 2 ≤ xs.length ∧ att 2 xs (x2N (gb xs 0) (gb xs 1)) then (x2N (gb xs 0) (gb xs 1) : Int) else
    if 3 ≤ xs.length ∧ att 3 xs (x3N (gb xs 0) (gb xs 1) (gb xs 2)) then (x3N (gb xs 0) (gb xs 1) (gb xs 2) : Int) else
    if 4 ≤ xs.length ∧ att 4 xs (x4N (gb xs 0) (gb xs 1) (gb xs 2) (gb xs 3)) then (x4N (gb xs 0) (gb xs 1) (gb xs 2) (gb xs 3) : Int) else -1) := by
  obtain ⟨k, rfl⟩ : ∃ m, k = m + 40 := ⟨k - 40, by omega⟩
  have g0 := gb_lt hx 0
  have g1 := gb_lt hx 1
  have g2 := gb_lt hx 2
  have g3 := gb_lt hx 3
  unfold argosyref01_first.f
  rw [show k + 40 = (k + 37) + 3 from rfl, l0_one _ hx hl, show k + 37 = (k + 36) + 1 from rfl]
  have e1 := l1_end (k := k + 36) (by omega) hx 1 (gb xs 0) 1 (by omega) (by omega) (by omega) hl
  rw [show ((1 : Nat) : Int) = 1 from rfl] at e1
  rw [e1]
  by_cases a1 : att 1 xs (gb xs 0)
  · rw [if_pos a1, if_pos a1]
  rw [if_neg a1, if_neg a1]
  by_cases l2 : 2 ≤ xs.length
  case neg =>
    rw [show k + 36 = (k + 34) + 2 from rfl, l0_short _ (1 + 1) (by omega) (.inr (by omega)), if_neg (fun h => l2 h.1), if_neg (fun h => by omega), if_neg (fun h => by omega)]
  rw [show k + 36 = (k + 33) + 3 from rfl, l0_more _ hx (1 + 1) (by omega) (by omega) l2 32 rfl (by omega)]
  have s2 := l1_step (k + 32) hx ((1 + 1 : Nat) : Int) ((gb xs 0 : Int) % 32) 1 (by omega) (by omega) (by omega) (by omega)
  rw [show ((1 : Nat) : Int) = 1 from rfl] at s2
  rw [show k + 33 = (k + 32) + 1 from rfl, s2, show k + 32 = (k + 31) + 1 from rfl, l1_end (k := k + 31) (by omega) hx (1 + 1) _ _ (by omega) (by omega) (by omega) l2]
  rw [show 64 * ((gb xs 0 : Int) % 32) + (gb xs 1 : Int) % 64 = ((x2N (gb xs 0) (gb xs 1) : Nat) : Int) from by unfold x2N; omega]
  by_cases a2 : att 2 xs (x2N (gb xs 0) (gb xs 1))
  · rw [if_pos a2, if_pos ⟨l2, a2⟩]
  rw [if_neg a2, if_neg (fun h => a2 h.2)]
  by_cases l3 : 3 ≤ xs.length
  case neg =>
    rw [show k + 31 = (k + 29) + 2 from rfl, l0_short _ (1 + 1 + 1) (by omega) (.inr (by omega)), if_neg (fun h => l3 h.1), if_neg (fun h => by omega)]
  rw [show k + 31 = (k + 28) + 3 from rfl, l0_more _ hx (1 + 1 + 1) (by omega) (by omega) l3 16 rfl (by omega)]
  have s3 := l1_step (k + 27) hx ((1 + 1 + 1 : Nat) : Int) ((gb xs 0 : Int) % 16) 1 (by omega) (by omega) (by omega) (by omega)
  rw [show ((1 : Nat) : Int) = 1 from rfl] at s3
  rw [show k + 28 = (k + 27) + 1 from rfl, s3, show k + 27 = (k + 26) + 1 from rfl, l1_step (k + 26) hx _ _ (1 + 1) (by omega) (by omega) (by omega) (by omega), show k + 26 = (k + 25) + 1 from rfl, l1_end (k := k + 25) (by omega) hx (1 + 1 + 1) _ _ (by omega) (by omega) (by omega) l3]
  rw [show 64 * (64 * ((gb xs 0 : Int) % 16) + (gb xs 1 : Int) % 64) + (gb xs (1 + 1) : Int) % 64 = ((x3N (gb xs 0) (gb xs 1) (gb xs 2) : Nat) : Int) from by rw [show gb xs (1 + 1) = gb xs 2 from rfl]; unfold x3N; omega]
  by_cases a3 : att 3 xs (x3N (gb xs 0) (gb xs 1) (gb xs 2))
  · rw [if_pos a3, if_pos ⟨l3, a3⟩]
  rw [if_neg a3, if_neg (fun h => a3 h.2)]
  by_cases l4 : 4 ≤ xs.length
  case neg =>
    rw [show k + 25 = (k + 23) + 2 from rfl, l0_short _ (1 + 1 + 1 + 1) (by omega) (.inr (by omega)), if_neg (fun h => l4 h.1)]
  rw [show k + 25 = (k + 22) + 3 from rfl, l0_more _ hx (1 + 1 + 1 + 1) (by omega) (by omega) l4 8 rfl (by omega)]
  have s4 := l1_step (k + 21) hx ((1 + 1 + 1 + 1 : Nat) : Int) ((gb xs 0 : Int) % 8) 1 (by omega) (by omega) (by omega) (by omega)
  rw [show ((1 : Nat) : Int) = 1 from rfl] at s4
  rw [show k + 22 = (k + 21) + 1 from rfl, s4, show k + 21 = (k + 20) + 1 from rfl, l1_step (k + 20) hx _ _ (1 + 1) (by omega) (by omega) (by omega) (by omega), show k + 20 = (k + 19) + 1 from rfl, l1_step (k + 19) hx _ _ (1 + 1 + 1) (by omega) (by omega) (by omega) (by omega), show k + 19 = (k + 18) + 1 from rfl, l1_end (k := k + 18) (by omega) hx (1 + 1 + 1 + 1) _ _ (by omega) (by omega) (by omega) l4]
  rw [show 64 * (64 * (64 * ((gb xs 0 : Int) % 8) + (gb xs 1 : Int) % 64) + (gb xs (1 + 1) : Int) % 64) + (gb xs (1 + 1 + 1) : Int) % 64 = ((x4N (gb xs 0) (gb xs 1) (gb xs 2) (gb xs 3) : Nat) : Int) from by rw [show gb xs (1 + 1) = gb xs 2 from rfl, show gb xs (1 + 1 + 1) = gb xs 3 from rfl]; unfold x4N; omega]
  by_cases a4 : att 4 xs (x4N (gb xs 0) (gb xs 1) (gb xs 2) (gb xs 3))
  · rw [if_pos a4, if_pos ⟨l4, a4⟩]
  rw [if_neg a4, if_neg (fun h => a4 h.2)]
  rw [show k + 18 = (k + 16) + 2 from rfl, l0_short _ (1 + 1 + 1 + 1 + 1) (by omega) (.inl (by omega))]

/-! ### What is read, and what the reference reads -/
theorem att_len {n : Nat} {ys : List Int} {x : Int} (h : att n ys x) (hn : 1 ≤ n) : n ≤ ys.length := by
  have hv : vrune x := Decidable.of_not_not fun hv => by have := h.1; rw [widG_bad hv] at this; omega
  have := encL_len hv
  rw [h.2, h.1] at this
  simp at this
  omega
theorem att1 {a : Nat} (ys : List Int) : att 1 ((a : Int) :: ys) a ↔ a < 128 := by
  unfold att
  by_cases h : a < 128
  · simp only [h, iff_true]
    refine ⟨by rw [widG_ok (by unfold vrune; omega), if_pos (by omega)]; rfl, ?_⟩
    unfold encL
    rw [if_pos (by omega)]
    rfl
  · simp only [h, iff_false]
    intro hc
    have h1 := hc.1
    by_cases hv : vrune (a : Int)
    · rw [widG_ok hv, if_neg (by omega)] at h1
      split at h1
      · omega
      · split at h1 <;> omega
    · rw [widG_bad hv] at h1; omega
theorem att2 {a b : Nat} (ys : List Int) (ha : a < 256) (hb : b < 256) : att 2 ((a : Int) :: (b : Int) :: ys) (x2N a b : Nat) ↔ (a / 32 = 6 ∧ b / 64 = 2 ∧ 128 ≤ x2N a b) := by
  have hx : x2N a b = a % 32 * 64 + b % 64 := rfl
  generalize x2N a b = x at hx
  unfold att
  by_cases h : 128 ≤ x
  · have e : encL (x : Int) = [192 + (x : Int) / 64, 128 + (x : Int) % 64] := by unfold encL; rw [if_neg (by omega), if_pos (by omega)]
    have w : widG (x : Int) = ((2 : Nat) : Int) := by rw [widG_ok (by unfold vrune; omega), if_neg (by omega), if_pos (by omega)]; rfl
    rw [e, w, List.take_succ_cons, List.take_succ_cons, List.take_zero, List.cons.injEq, List.cons.injEq]
    clear e w
    constructor
    · rintro ⟨-, h1, h2, -⟩; omega
    · rintro ⟨h1, h2, -⟩
      exact ⟨rfl, by omega, by omega, rfl⟩
  · constructor
    · rintro ⟨h1, -⟩
      by_cases hv : vrune (x : Int)
      · rw [widG_ok hv, if_pos (by omega)] at h1; omega
      · rw [widG_bad hv] at h1; omega
    · rintro ⟨-, -, h1⟩; omega
theorem att3 {a b c : Nat} (ys : List Int) (ha : a < 256) (hb : b < 256) (hc : c < 256) : att 3 ((a : Int) :: (b : Int) :: (c : Int) :: ys) (x3N a b c : Nat) ↔ (a / 16 = 14 ∧ b / 64 = 2 ∧ c / 64 = 2 ∧ 2048 ≤ x3N a b c ∧ vrune (x3N a b c : Int)) := by
  have hx : x3N a b c = a % 16 * 4096 + b % 64 * 64 + c % 64 := rfl
  generalize x3N a b c = x at hx
  unfold att
  by_cases hv : vrune (x : Int)
  · by_cases h : 2048 ≤ x
    · have e : encL (x : Int) = [224 + (x : Int) / 4096, 128 + (x : Int) / 64 % 64, 128 + (x : Int) % 64] := by unfold encL; rw [if_neg (by omega), if_neg (by omega), if_pos (by omega)]
      have w : widG (x : Int) = ((3 : Nat) : Int) := by rw [widG_ok hv, if_neg (by omega), if_neg (by omega), if_pos (by omega)]; rfl
      rw [e, w, List.take_succ_cons, List.take_succ_cons, List.take_succ_cons, List.take_zero, List.cons.injEq, List.cons.injEq, List.cons.injEq]
      clear e w
      constructor
      · rintro ⟨-, h1, h2, h3, -⟩; exact ⟨by omega, by omega, by omega, h, hv⟩
      · rintro ⟨h1, h2, h3, -⟩
        exact ⟨rfl, by omega, by omega, by omega, rfl⟩
    · constructor
      · rintro ⟨h1, -⟩
        rw [widG_ok hv] at h1
        split at h1
        · omega
        · rw [if_pos (by omega)] at h1; omega
      · rintro ⟨-, -, -, h1, -⟩; omega
  · constructor
    · rintro ⟨h1, -⟩
      rw [widG_bad hv] at h1; omega
    · rintro ⟨-, -, -, -, h1⟩; exact absurd h1 hv
theorem att4 {a b c d : Nat} (ys : List Int) (ha : a < 256) (hb : b < 256) (hc : c < 256) (hd : d < 256) : att 4 ((a : Int) :: (b : Int) :: (c : Int) :: (d : Int) :: ys) (x4N a b c d : Nat) ↔ (a / 8 = 30 ∧ b / 64 = 2 ∧ c / 64 = 2 ∧ d / 64 = 2 ∧ 65536 ≤ x4N a b c d ∧ vrune (x4N a b c d : Int)) := by
  have hx : x4N a b c d = a % 8 * 262144 + b % 64 * 4096 + c % 64 * 64 + d % 64 := rfl
  generalize x4N a b c d = x at hx
  unfold att
  by_cases hv : vrune (x : Int)
  · by_cases h : 65536 ≤ x
    · have e : encL (x : Int) = [240 + (x : Int) / 262144, 128 + (x : Int) / 4096 % 64, 128 + (x : Int) / 64 % 64, 128 + (x : Int) % 64] := by unfold encL; rw [if_neg (by omega), if_neg (by omega), if_neg (by omega)]
      have w : widG (x : Int) = ((4 : Nat) : Int) := by rw [widG_ok hv, if_neg (by omega), if_neg (by omega), if_neg (by omega)]; rfl
      rw [e, w, List.take_succ_cons, List.take_succ_cons, List.take_succ_cons, List.take_succ_cons, List.take_zero, List.cons.injEq, List.cons.injEq, List.cons.injEq, List.cons.injEq]
      clear e w
      constructor
      · rintro ⟨-, h1, h2, h3, h4, -⟩; exact ⟨by omega, by omega, by omega, by omega, h, hv⟩
      · rintro ⟨h1, h2, h3, h4, -⟩
        exact ⟨rfl, by omega, by omega, by omega, by omega, rfl⟩
    · constructor
      · rintro ⟨h1, -⟩
        rw [widG_ok hv] at h1
        split at h1
        · omega
        · split at h1
          · omega
          · rw [if_pos (by omega)] at h1; omega
      · rintro ⟨-, -, -, -, h1, -⟩; omega
  · constructor
    · rintro ⟨h1, -⟩
      rw [widG_bad hv] at h1; omega
    · rintro ⟨-, -, -, -, -, h1⟩; exact absurd h1 hv
/-- The four tries tell what the model's decoding tells. -/
theorem tries_dec (n a b c d : Nat) (hn : 1 ≤ n) :
    (if a < 128 then (a : Int) else if 2 ≤ n ∧ (a / 32 = 6 ∧ b / 64 = 2 ∧ 128 ≤ x2N a b) then (x2N a b : Int) else if 3 ≤ n ∧ (a / 16 = 14 ∧ b / 64 = 2 ∧ c / 64 = 2 ∧ 2048 ≤ x3N a b c ∧ vrune (x3N a b c : Int)) then (x3N a b c : Int) else if 4 ≤ n ∧ (a / 8 = 30 ∧ b / 64 = 2 ∧ c / 64 = 2 ∧ d / 64 = 2 ∧ 65536 ≤ x4N a b c d ∧ vrune (x4N a b c d : Int)) then (x4N a b c d : Int) else -1)
      = if badN n a b c d then -1 else ((decodeN n a b c d).1 : Int) := by
  have hD : decodeN n a b c d = (if a < 128 then (a, 1)
    else if a / 32 = 6 ∧ (1 < n ∧ b / 64 = 2) then (if x2N a b ≥ 128 then (x2N a b, 2) else (65533, 1))
    else if a / 16 = 14 ∧ (1 < n ∧ b / 64 = 2) ∧ (2 < n ∧ c / 64 = 2) then (if x3N a b c ≥ 2048 ∧ (x3N a b c < 55296 ∨ (57344 ≤ x3N a b c ∧ x3N a b c ≤ 1114111)) then (x3N a b c, 3) else (65533, 1))
    else if a / 8 = 30 ∧ (1 < n ∧ b / 64 = 2) ∧ (2 < n ∧ c / 64 = 2) ∧ (3 < n ∧ d / 64 = 2) then (if x4N a b c d ≥ 65536 ∧ (x4N a b c d < 55296 ∨ (57344 ≤ x4N a b c d ∧ x4N a b c d ≤ 1114111)) then (x4N a b c d, 4) else (65533, 1))
    else (65533, 1)) := rfl
  have key : ∀ (r w : Nat), decodeN n a b c d = (r, w) → (w ≠ 1 ∨ r < 128) → (r : Int) = (if badN n a b c d then (-1 : Int) else ((decodeN n a b c d).1 : Int)) := fun r w e h => by
    rw [if_neg (fun hb => by unfold badN at hb; rw [e] at hb; simp only [Prod.mk.injEq] at hb; omega), e]
  have bad : decodeN n a b c d = (65533, 1) → -1 = (if badN n a b c d then (-1 : Int) else ((decodeN n a b c d).1 : Int)) := fun e => by rw [if_pos (show badN n a b c d from e)]
  have v3 : vrune (x3N a b c : Int) ↔ (x3N a b c < 55296 ∨ 57344 ≤ x3N a b c ∧ x3N a b c ≤ 1114111) := by unfold vrune; omega
  have v4 : vrune (x4N a b c d : Int) ↔ (x4N a b c d < 55296 ∨ 57344 ≤ x4N a b c d ∧ x4N a b c d ≤ 1114111) := by unfold vrune; omega
  revert hD
  generalize x2N a b = x2
  revert v3
  generalize x3N a b c = x3
  revert v4
  generalize x4N a b c d = x4
  intro v4 v3 hD
  by_cases c0 : a < 128
  · rw [if_pos c0] at hD
    rw [if_pos c0]
    exact key _ _ hD (.inr c0)
  rw [if_neg c0] at hD
  rw [if_neg c0]
  by_cases c1 : a / 32 = 6 ∧ (1 < n ∧ b / 64 = 2)
  · rw [if_pos c1] at hD
    by_cases c2 : x2 ≥ 128
    · rw [if_pos c2] at hD
      rw [if_pos (by clear key bad hD v3 v4; omega)]
      exact key _ _ hD (.inl (by decide))
    · rw [if_neg c2] at hD
      rw [if_neg (by clear key bad hD v3 v4; omega), if_neg (fun h => by clear key bad hD v3 v4; omega), if_neg (fun h => by clear key bad hD v3 v4; omega)]
      exact bad hD
  rw [if_neg c1] at hD
  rw [if_neg (c := 2 ≤ n ∧ a / 32 = 6 ∧ b / 64 = 2 ∧ 128 ≤ x2) (by clear key bad hD v3 v4; omega)]
  by_cases c2 : a / 16 = 14 ∧ (1 < n ∧ b / 64 = 2) ∧ (2 < n ∧ c / 64 = 2)
  · rw [if_pos c2] at hD
    by_cases c3 : x3 ≥ 2048 ∧ (x3 < 55296 ∨ 57344 ≤ x3 ∧ x3 ≤ 1114111)
    · rw [if_pos c3] at hD
      rw [if_pos ⟨c2.2.2.1, c2.1, c2.2.1.2, c2.2.2.2, c3.1, v3.2 c3.2⟩]
      exact key _ _ hD (.inl (by decide))
    · rw [if_neg c3] at hD
      rw [if_neg (fun h => c3 ⟨h.2.2.2.2.1, v3.1 h.2.2.2.2.2⟩), if_neg (fun h => by have h1 := c2.1; have h2 := h.2.1; clear key bad hD v3 v4; omega)]
      exact bad hD
  rw [if_neg c2] at hD
  rw [if_neg (c := 3 ≤ n ∧ (a / 16 = 14 ∧ b / 64 = 2 ∧ c / 64 = 2 ∧ 2048 ≤ x3 ∧ vrune (x3 : Int))) (fun h => c2 ⟨h.2.1, ⟨by omega, h.2.2.1⟩, ⟨by omega, h.2.2.2.1⟩⟩)]
  by_cases c3 : a / 8 = 30 ∧ (1 < n ∧ b / 64 = 2) ∧ (2 < n ∧ c / 64 = 2) ∧ (3 < n ∧ d / 64 = 2)
  · rw [if_pos c3] at hD
    by_cases c4 : x4 ≥ 65536 ∧ (x4 < 55296 ∨ 57344 ≤ x4 ∧ x4 ≤ 1114111)
    · rw [if_pos c4] at hD
      rw [if_pos ⟨c3.2.2.2.1, c3.1, c3.2.1.2, c3.2.2.1.2, c3.2.2.2.2, c4.1, v4.2 c4.2⟩]
      exact key _ _ hD (.inl (by decide))
    · rw [if_neg c4] at hD
      rw [if_neg (fun h => c4 ⟨h.2.2.2.2.2.1, v4.1 h.2.2.2.2.2.2⟩)]
      exact bad hD
  rw [if_neg c3] at hD
  rw [if_neg (fun h => c3 ⟨h.2.1, ⟨by omega, h.2.2.1⟩, ⟨by omega, h.2.2.2.1⟩, ⟨by omega, h.2.2.2.2.1⟩⟩)]
  exact bad hD
theorem rFirst_is {k : Nat} (hk : 40 ≤ k) {xs : List Int} (hx : isB xs) {p : Nat} (hp : p < xs.length) : argosyref01_first.f k (strOfNums (xs.drop p)) = some (if badAt xs p then -1 else runeAt xs p) := by
  have hy : isB (xs.drop p) := isB_drop hx p
  have hl : 1 ≤ (xs.drop p).length := by simp; omega
  rw [first_is hk hy hl]
  have hn : (xs.drop p).length = xs.length - p := by simp
  have e0 : gb (xs.drop p) 0 = gb xs p := by rw [gb_drop]; rfl
  have hb : badAt xs p ↔ badN (xs.drop p).length (gb (xs.drop p) 0) (gb (xs.drop p) 1) (gb (xs.drop p) 2) (gb (xs.drop p) 3) := by unfold badAt; rw [e0, gb_drop, gb_drop, gb_drop, hn]
  have hr : runeAt xs p = ((decodeN (xs.drop p).length (gb (xs.drop p) 0) (gb (xs.drop p) 1) (gb (xs.drop p) 2) (gb (xs.drop p) 3)).1 : Int) := by unfold runeAt; rw [e0, gb_drop, gb_drop, gb_drop, hn]
  have hT : (if badAt xs p then -1 else runeAt xs p) = (if badN (xs.drop p).length (gb (xs.drop p) 0) (gb (xs.drop p) 1) (gb (xs.drop p) 2) (gb (xs.drop p) 3) then -1 else ((decodeN (xs.drop p).length (gb (xs.drop p) 0) (gb (xs.drop p) 1) (gb (xs.drop p) 2) (gb (xs.drop p) 3)).1 : Int)) := by
    by_cases h : badAt xs p
    · rw [if_pos h, if_pos (hb.1 h)]
    · rw [if_neg h, if_neg (fun q => h (hb.2 q)), hr]
  clear hb hr
  rw [hT, ← tries_dec _ _ _ _ _ hl]
  congr 1
  have gl := gb_lt hy
  have gi : ∀ i, i < (xs.drop p).length → ((gb (xs.drop p) i : Nat) : Int) = (xs.drop p).getD i 0 := by
    intro i hi
    have := hy _ (List.getElem_mem hi)
    unfold gb
    rw [List.getD_eq_getElem?_getD, List.getElem?_eq_getElem hi, Option.getD_some]
    omega
  revert hl gl gi
  generalize xs.drop p = ys
  intro hl gl gi
  have sh : ∀ m, m ≤ 4 → m ≤ ys.length → ∃ zs, ys = ((List.range m).map fun i => ((gb ys i : Nat) : Int)) ++ zs := by
    intro m h4 hm
    refine ⟨ys.drop m, ?_⟩
    conv => lhs; rw [← List.take_append_drop m ys]
    congr 1
    apply List.ext_getElem
    · simp; omega
    · intro i h1 h2
      simp at h1 h2
      simp only [List.getElem_take, List.getElem_map, List.getElem_range]
      rw [gi i (by omega), List.getD_eq_getElem?_getD, List.getElem?_eq_getElem (by omega), Option.getD_some]
  have A1 : att 1 ys (gb ys 0) ↔ gb ys 0 < 128 := by
    obtain ⟨zs, e⟩ := sh 1 (by omega) hl
    have := @att1 (gb ys 0) zs
    conv => lhs; rw [show att 1 ys (gb ys 0) = att 1 ((gb ys 0 : Int) :: zs) (gb ys 0) from congrArg (fun l => att 1 l (gb ys 0)) e]
    exact this
  have A2 : (2 ≤ ys.length ∧ att 2 ys (x2N (gb ys 0) (gb ys 1))) ↔ (2 ≤ ys.length ∧ (gb ys 0 / 32 = 6 ∧ gb ys 1 / 64 = 2 ∧ 128 ≤ x2N (gb ys 0) (gb ys 1))) := by
    refine and_congr_right fun h => ?_
    obtain ⟨zs, e⟩ := sh 2 (by omega) h
    have := @att2 (gb ys 0) (gb ys 1) zs (gl 0) (gl 1)
    conv => lhs; rw [show att 2 ys (x2N (gb ys 0) (gb ys 1)) = att 2 ((gb ys 0 : Int) :: (gb ys 1 : Int) :: zs) (x2N (gb ys 0) (gb ys 1)) from congrArg (fun l => att 2 l (x2N (gb ys 0) (gb ys 1))) e]
    exact this
  have A3 : (3 ≤ ys.length ∧ att 3 ys (x3N (gb ys 0) (gb ys 1) (gb ys 2))) ↔ (3 ≤ ys.length ∧ (gb ys 0 / 16 = 14 ∧ gb ys 1 / 64 = 2 ∧ gb ys 2 / 64 = 2 ∧ 2048 ≤ x3N (gb ys 0) (gb ys 1) (gb ys 2) ∧ vrune (x3N (gb ys 0) (gb ys 1) (gb ys 2) : Int))) := by
    refine and_congr_right fun h => ?_
    obtain ⟨zs, e⟩ := sh 3 (by omega) h
    have := @att3 (gb ys 0) (gb ys 1) (gb ys 2) zs (gl 0) (gl 1) (gl 2)
    conv => lhs; rw [show att 3 ys (x3N (gb ys 0) (gb ys 1) (gb ys 2)) = att 3 ((gb ys 0 : Int) :: (gb ys 1 : Int) :: (gb ys 2 : Int) :: zs) (x3N (gb ys 0) (gb ys 1) (gb ys 2)) from congrArg (fun l => att 3 l (x3N (gb ys 0) (gb ys 1) (gb ys 2))) e]
    exact this
  have A4 : (4 ≤ ys.length ∧ att 4 ys (x4N (gb ys 0) (gb ys 1) (gb ys 2) (gb ys 3))) ↔ (4 ≤ ys.length ∧ (gb ys 0 / 8 = 30 ∧ gb ys 1 / 64 = 2 ∧ gb ys 2 / 64 = 2 ∧ gb ys 3 / 64 = 2 ∧ 65536 ≤ x4N (gb ys 0) (gb ys 1) (gb ys 2) (gb ys 3) ∧ vrune (x4N (gb ys 0) (gb ys 1) (gb ys 2) (gb ys 3) : Int))) := by
    refine and_congr_right fun h => ?_
    obtain ⟨zs, e⟩ := sh 4 (by omega) h
    have := @att4 (gb ys 0) (gb ys 1) (gb ys 2) (gb ys 3) zs (gl 0) (gl 1) (gl 2) (gl 3)
    conv => lhs; rw [show att 4 ys (x4N (gb ys 0) (gb ys 1) (gb ys 2) (gb ys 3)) = att 4 ((gb ys 0 : Int) :: (gb ys 1 : Int) :: (gb ys 2 : Int) :: (gb ys 3 : Int) :: zs) (x4N (gb ys 0) (gb ys 1) (gb ys 2) (gb ys 3)) from congrArg (fun l => att 4 l (x4N (gb ys 0) (gb ys 1) (gb ys 2) (gb ys 3))) e]
    exact this
  have gen : ∀ (P Q : Prop) [Decidable P] [Decidable Q] (u v v' : Int), (P ↔ Q) → v = v' → (if P then u else v) = (if Q then u else v') := fun P Q _ _ u v v' h e => by
    by_cases hp : P
    · rw [if_pos hp, if_pos (h.1 hp)]
    · rw [if_neg hp, if_neg (fun q => hp (h.2 q)), e]
  exact gen _ _ _ _ _ A1 (gen _ _ _ _ _ A2 (gen _ _ _ _ _ A3 (gen _ _ _ _ _ A4 rfl)))

/-! ### The loops over a text -/
def goodL (xs : List Int) : Nat → Nat → List Int
  | 0, _ => []
  | d + 1, p => if p < xs.length then (if badAt xs p then [] else runeAt xs p :: goodL xs d (p + widAt xs p)) else []
def badL (xs : List Int) : Nat → Nat → Int
  | 0, _ => -1
  | d + 1, p => if p < xs.length then (if badAt xs p then (p : Int) else badL xs d (p + widAt xs p)) else -1
theorem goodL_len (xs : List Int) : ∀ d p, (goodL xs d p).length ≤ d
  | 0, p => by simp [goodL]
  | d + 1, p => by
    rw [goodL]
    split
    · split
      · simp
      · have := goodL_len xs d (p + widAt xs p)
        simp; omega
    · simp
theorem goodL_v {xs : List Int} (hx : isB xs) : ∀ d p, ∀ r ∈ goodL xs d p, vrune r
  | 0, p => by simp [goodL]
  | d + 1, p => by
    rw [goodL]
    split
    · split
      · simp
      · rename_i hb
        intro r hr
        rcases List.mem_cons.1 hr with rfl | hr
        · exact (good_at hx hb).1
        · exact goodL_v hx d _ r hr
    · simp
theorem badG_is {xs : List Int} (hx : isB xs) : ∀ d p, p ≤ xs.length → badG (strOfNums xs) d p = badL xs d p
  | 0, p, _ => rfl
  | d + 1, p, hp => by
    rw [badG, badL, son_size]
    by_cases h : p < xs.length
    · rw [if_pos h, if_pos h, brk_at hx p hp _ (dec_rune hx p), dec_wid hx]
      by_cases hb : badAt xs p
      · rw [if_pos (decide_eq_true hb), if_pos hb]
      · rw [if_neg (by simpa using hb), if_neg hb, badG_is hx d _ (widAt_le xs p h)]
    · rw [if_neg h, if_neg h]
theorem badL_range (xs : List Int) : ∀ d p, badL xs d p = -1 ∨ (0 ≤ badL xs d p ∧ badL xs d p < xs.length)
  | 0, p => .inl rfl
  | d + 1, p => by
    rw [badL]
    split
    · split
      · exact .inr ⟨by omega, by omega⟩
      · exact badL_range xs d _
    · exact .inl rfl

/-! ### The document reads a text -/
theorem read_loop {xs : List Int} (hx : isB xs) (hl : xs.length ≤ 100000) : ∀ (d k : Nat) (acc : List Int) (p : Nat), xs.length ≤ p + d → p ≤ xs.length → d + 50 ≤ k → acc.length + d ≤ 1000000 → argosyref01_read.l0 k (strOfNums xs) acc (p : Int) = some (acc ++ goodL xs d p, badL xs d p) := by
  intro d
  induction d with
  | zero =>
    intro k acc p h1 h2 hk ha
    obtain ⟨k, rfl⟩ : ∃ m, k = m + 1 := ⟨k - 1, by omega⟩
    rw [argosyref01_read.l0, if_neg (by rw [son_size]; omega), goodL, badL, List.append_nil]
  | succ d ih =>
    intro k acc p h1 h2 hk ha
    obtain ⟨k, rfl⟩ : ∃ m, k = m + 1 := ⟨k - 1, by omega⟩
    rw [argosyref01_read.l0, goodL, badL]
    by_cases h : p < xs.length
    · have hd : (strOfNums xs).extract (p : Int).toNat (strOfNums xs).size = strOfNums (xs.drop p) := by rw [son_size, son_extract, List.take_length, Int.toNat_natCast]
      rw [if_pos (by rw [son_size]; omega), if_pos (by omega), if_pos (by rw [son_size]; omega), if_pos h, if_pos h, hd, rFirst_is (by omega) hx h, Option.bind_some]
      by_cases hb : badAt xs p
      · rw [if_pos hb, if_pos hb, if_pos hb, if_pos (by omega), List.append_nil]
      · have hg := good_at hx hb
        have hv := hg.1
        have hw := widAt_le xs p h
        unfold vrune at hv
        rw [if_neg hb, if_neg hb, if_neg hb, if_neg (by omega), if_pos (by omega), rWidth_is, Option.bind_some, hg.2, w64 (by omega), show (p : Int) + (widAt xs p : Int) = ((p + widAt xs p : Nat) : Int) from by omega]
        have := widAt_pos xs p
        rw [ih k (acc ++ [runeAt xs p]) _ (by omega) hw (by omega) (by simp; omega), List.append_assoc]
        rfl
    · rw [if_neg (by rw [son_size]; omega), if_neg h, if_neg h, List.append_nil]
theorem read_is {k : Nat} {xs : List Int} (hx : isB xs) (hl : xs.length ≤ 100000) (hk : 100100 ≤ k) : argosyref01_read.f k (strOfNums xs) = some (goodL xs xs.length 0, badL xs xs.length 0) := by
  unfold argosyref01_read.f
  have := read_loop hx hl xs.length k [] 0 (by omega) (by omega) (by omega) (by simp; omega)
  simpa using this
theorem rBad_is {k : Nat} {xs : List Int} (hx : isB xs) (hl : xs.length ≤ 100000) (hk : 100100 ≤ k) : argosyref01_Bad.f k (strOfNums xs) = some (badL xs xs.length 0) := by
  unfold argosyref01_Bad.f
  rw [read_is hx hl hk, Option.bind_some]

/-! ### Pieces of a text -/
def endL (xs : List Int) (fr : Int) (e : Nat) : List (List Int × Int) := if fr < 0 then [] else [((xs.take e).drop fr.toNat, fr)]
/-- A text's pieces, byte by byte, from a place on. -/
def pcL (xs : List Int) : Nat → Nat → Bool → Int → List (List Int × Int)
  | 0, _, _, fr => endL xs fr xs.length
  | d + 1, pos, rm, fr =>
    if pos < xs.length then
      (if rm = true then pcL xs d (pos + 1) (gb xs pos != 10) fr
       else if gb xs pos = 35 then endL xs fr pos ++ pcL xs d (pos + 1) true (-1)
       else if gb xs pos = 59 then endL xs fr pos ++ ([59], (pos : Int)) :: pcL xs d (pos + 1) false (-1)
       else if gb xs pos = 9 ∨ gb xs pos = 10 ∨ gb xs pos = 13 ∨ gb xs pos = 32 then endL xs fr pos ++ pcL xs d (pos + 1) false (-1)
       else pcL xs d (pos + 1) false (if fr < 0 then (pos : Int) else fr))
    else endL xs fr xs.length
theorem pcL_end (xs : List Int) (d pos : Nat) (rm : Bool) (fr : Int) (h : ¬ pos < xs.length) : pcL xs d pos rm fr = endL xs fr xs.length := by cases d <;> simp [pcL, h]
theorem pcL_fuel (xs : List Int) : ∀ (d d' pos : Nat) (rm : Bool) (fr : Int), xs.length ≤ pos + d → xs.length ≤ pos + d' → pcL xs d pos rm fr = pcL xs d' pos rm fr
  | 0, d', pos, rm, fr, h, h' => by rw [pcL_end _ _ _ _ _ (by omega), pcL_end _ _ _ _ _ (by omega)]
  | d + 1, 0, pos, rm, fr, h, h' => by rw [pcL_end _ _ _ _ _ (by omega), pcL_end _ _ _ _ _ (by omega)]
  | d + 1, d' + 1, pos, rm, fr, h, h' => by
    have ih : ∀ rm fr, pcL xs d (pos + 1) rm fr = pcL xs d' (pos + 1) rm fr := fun rm fr => pcL_fuel xs d d' (pos + 1) rm fr (by omega) (by omega)
    simp only [pcL, ih]
/-- A byte of no meaning. -/
theorem pcL_skip (xs : List Int) (d pos : Nat) (rm : Bool) (fr : Int) (hp : pos < xs.length) (h : 128 ≤ gb xs pos) : pcL xs (d + 1) pos rm fr = pcL xs d (pos + 1) rm (if rm = true then fr else if fr < 0 then (pos : Int) else fr) := by
  simp only [pcL]
  rw [if_pos hp]
  cases rm with
  | true =>
    rw [if_pos rfl, if_pos rfl]
    congr 1
    simp; omega
  | false =>
    rw [if_neg (by decide), if_neg (by omega), if_neg (by omega), if_neg (by omega), if_neg (c := (false : Bool) = true) (by decide)]
theorem pcL_skips (xs : List Int) : ∀ (w d pos : Nat) (rm : Bool) (fr : Int), pos + w < xs.length → (∀ i, i ≤ w → 128 ≤ gb xs (pos + i)) → pcL xs (d + w + 1) pos rm fr = pcL xs d (pos + w + 1) rm (if rm = true then fr else if fr < 0 then (pos : Int) else fr)
  | 0, d, pos, rm, fr, hp, h => pcL_skip xs d pos rm fr (by omega) (h 0 (Nat.le_refl _))
  | w + 1, d, pos, rm, fr, hp, h => by
    rw [show d + (w + 1) + 1 = (d + w + 1) + 1 from by omega, pcL_skip xs (d + w + 1) pos rm fr (by omega) (h 0 (by omega)), pcL_skips xs w d (pos + 1) rm _ (by omega) (fun i hi => by have := h (i + 1) (by omega); rwa [show pos + (i + 1) = pos + 1 + i from by omega] at this), show pos + 1 + w + 1 = pos + (w + 1) + 1 from by omega]
    congr 1
    cases rm with
    | true => simp
    | false =>
      simp only [Bool.false_eq_true, if_false]
      by_cases hf : fr < 0
      · rw [if_pos hf, if_neg (by omega)]
      · rw [if_neg hf, if_neg hf]
theorem dN_ascii (n b0 b1 b2 b3 : Nat) (h : b0 < 128) : decodeN n b0 b1 b2 b3 = (b0, 1) := by
  unfold decodeN
  rw [if_pos h]
theorem dN_high (n b0 b1 b2 b3 : Nat) (h : ¬ b0 < 128) : 128 ≤ (decodeN n b0 b1 b2 b3).1 ∧ (decodeN n b0 b1 b2 b3).2 ≤ 4 ∧ (2 ≤ (decodeN n b0 b1 b2 b3).2 → 128 ≤ b1) ∧ (3 ≤ (decodeN n b0 b1 b2 b3).2 → 128 ≤ b2) ∧ (4 ≤ (decodeN n b0 b1 b2 b3).2 → 128 ≤ b3) := by
  unfold decodeN
  rw [if_neg h]
  repeat' split
  all_goals (simp only; omega)
theorem rune_low {xs : List Int} {p : Nat} (h : gb xs p < 128) : runeAt xs p = (gb xs p : Int) ∧ widAt xs p = 1 := by
  unfold runeAt widAt
  rw [dN_ascii _ _ _ _ _ h]
  exact ⟨rfl, rfl⟩
theorem rune_high {xs : List Int} {p : Nat} (h : ¬ gb xs p < 128) : 128 ≤ runeAt xs p ∧ ∀ i, i < widAt xs p → 128 ≤ gb xs (p + i) := by
  obtain ⟨h1, h2, h3, h4, h5⟩ := dN_high (xs.length - p) (gb xs p) (gb xs (p + 1)) (gb xs (p + 2)) (gb xs (p + 3)) h
  unfold runeAt widAt
  refine ⟨by omega, fun i hi => ?_⟩
  rcases i with _ | _ | _ | _ | i
  · simpa using h
  · exact h3 (by omega)
  · exact h4 (by omega)
  · exact h5 (by omega)
  · omega

theorem clsK_high {x : Int} (h : 128 ≤ x) : clsK x ≠ 3 := by
  unfold clsK classG
  split
  · omega
  · rw [if_pos (by omega)]; omega
theorem clsK_low {x : Int} (h0 : 0 ≤ x) (h : x < 128) : clsK x = 3 ↔ (x = 9 ∨ x = 10 ∨ x = 13 ∨ x = 32) := by
  have hw : ¬ widK x = 0 := by rw [widK_ok (by unfold vruneK; omega), if_pos h]; omega
  unfold clsK classG
  rw [if_neg hw]
  repeat' split
  all_goals omega
theorem rune_rng {xs : List Int} (hx : isB xs) (p : Nat) : 0 ≤ runeAt xs p ∧ runeAt xs p ≤ 1114111 := by
  by_cases hb : badAt xs p
  · unfold badAt badN at hb
    unfold runeAt
    rw [hb]
    simp only
    omega
  · have := (good_at hx hb).1
    unfold vrune at this
    omega
def mapP (l : List (List Int × Int)) : List (ByteArray × Int) := l.map fun p => (strOfNums p.1, p.2)
theorem end_is (xs : List Int) (fr : Int) (e : Nat) : pcEnd (strOfNums xs) fr e = mapP (endL xs fr e) := by
  unfold pcEnd endL mapP
  split
  · rfl
  · rw [son_extract]; rfl
theorem mapP_app (a b : List (List Int × Int)) : mapP (a ++ b) = mapP a ++ mapP b := List.map_append
theorem semi_is : (⟨#[59]⟩ : ByteArray) = strOfNums [59] := rfl
theorem pcG_is {xs : List Int} (hx : isB xs) : ∀ (d d' pos : Nat) (rm : Bool) (fr : Int), pos ≤ xs.length → xs.length ≤ pos + d → xs.length ≤ pos + d' → pcG (strOfNums xs) clsK d pos rm fr = mapP (pcL xs d' pos rm fr)
  | 0, d', pos, rm, fr, hp, h, h' => by
    rw [pcL_end _ _ _ _ _ (by omega)]
    simp only [pcG]
    rw [end_is, son_size]
  | d + 1, d', pos, rm, fr, hp, h, h' => by
    by_cases hlt : pos < xs.length
    · simp only [pcG]
      rw [if_pos (by rw [son_size]; exact hlt), dec_rune hx, dec_wid hx]
      have hrr := rune_rng hx pos
      have hwp := widAt_pos xs pos
      have hwl := widAt_le xs pos hlt
      rw [show wrap64 (runeAt xs pos) = runeAt xs pos from w64 (by omega)]
      have ih : ∀ rm fr, pcG (strOfNums xs) clsK d (pos + widAt xs pos) rm fr = mapP (pcL xs xs.length (pos + widAt xs pos) rm fr) := fun rm fr => pcG_is hx d xs.length _ rm fr hwl (by omega) (by omega)
      rw [ih, ih, ih, ih]
      rw [pcL_fuel xs d' (xs.length + (widAt xs pos - 1) + 1) pos rm fr h' (by omega)]
      by_cases hg : gb xs pos < 128
      · obtain ⟨e1, e2⟩ := rune_low hg
        rw [e1, e2]
        simp only [Nat.sub_self, Nat.add_zero, pcL]
        rw [if_pos hlt, end_is, semi_is]
        cases rm with
        | true =>
          rw [if_pos rfl, if_pos rfl]
          congr 2
          by_cases h10 : gb xs pos = 10
          · rw [h10]; rfl
          · rw [bne_iff_ne.mpr h10, bne_iff_ne.mpr (show ((gb xs pos : Nat) : Int) ≠ 10 by omega)]
        | false =>
          rw [if_neg (c := (false : Bool) = true) (by decide), if_neg (c := (false : Bool) = true) (by decide)]
          by_cases c1 : gb xs pos = 35
          · rw [if_pos (by omega), if_pos c1, mapP_app]
          rw [if_neg (by omega), if_neg c1]
          by_cases c2 : gb xs pos = 59
          · rw [if_pos (by omega), if_pos c2, mapP_app]; rfl
          rw [if_neg (by omega), if_neg c2]
          have hc := clsK_low (x := (gb xs pos : Int)) (by omega) (by omega)
          by_cases c3 : gb xs pos = 9 ∨ gb xs pos = 10 ∨ gb xs pos = 13 ∨ gb xs pos = 32
          · rw [if_pos (hc.2 (by omega)), if_pos c3, mapP_app]
          · rw [if_neg (fun e => c3 (by have := hc.1 e; omega)), if_neg c3]
      · obtain ⟨e1, e2⟩ := rune_high hg
        rw [pcL_skips xs (widAt xs pos - 1) xs.length pos rm fr (by omega) (fun i hi => e2 i (by omega)), show pos + (widAt xs pos - 1) + 1 = pos + widAt xs pos from by omega]
        cases rm with
        | true =>
          rw [if_pos rfl, if_pos rfl, bne_iff_ne.mpr (by omega)]
        | false =>
          rw [if_neg (c := (false : Bool) = true) (by decide), if_neg (by omega), if_neg (by omega), if_neg (clsK_high e1), if_neg (c := (false : Bool) = true) (by decide)]
    · rw [pcL_end _ _ _ _ _ hlt, pcG_end _ _ _ _ _ _ (by rw [son_size]; exact hlt), end_is, son_size]
theorem pieces_is {xs : List Int} (hx : isB xs) : pcG (strOfNums xs) clsK (strOfNums xs).size 0 false (-1) = mapP (pcL xs xs.length 0 false (-1)) := by
  rw [son_size]
  exact pcG_is hx _ _ 0 false (-1) (by omega) (by omega) (by omega)
theorem bt_gb {xs : List Int} (hx : isB xs) {p : Nat} (h : p < xs.length) : bt (strOfNums xs) (p : Int) = (gb xs p : Int) := by
  rw [son_bt hx (p : Int) (by omega) (by omega)]
  unfold rd gb
  rw [Int.toNat_natCast, List.getD_eq_getElem?_getD, List.getElem?_eq_getElem h, Option.getD_some]
  have := hx _ (List.getElem_mem h)
  omega

/-! ### Numbers' texts -/
def dig (c : Int) : Prop := 48 ≤ c ∧ c ≤ 57
instance (c : Int) : Decidable (dig c) := by unfold dig; infer_instance
def valL : List Int → Int → Int
  | [], n => n
  | c :: cs, n => valL cs (10 * n + (c - 48))
/-- A number's digits. -/
def digL (n : Nat) : List Int := if h : n < 10 then [48 + (n : Int)] else digL (n / 10) ++ [48 + ((n % 10 : Nat) : Int)]
termination_by n
decreasing_by omega
theorem digL_small {n : Nat} (h : n < 10) : digL n = [48 + (n : Int)] := by rw [digL]; simp [h]
theorem digL_big {n : Nat} (h : ¬ n < 10) : digL n = digL (n / 10) ++ [48 + ((n % 10 : Nat) : Int)] := by rw [digL]; simp [h]
theorem valL_app : ∀ (xs ys : List Int) (n : Int), valL (xs ++ ys) n = valL ys (valL xs n)
  | [], _, _ => rfl
  | c :: cs, ys, n => valL_app cs ys _
theorem valL_mono : ∀ (xs : List Int) (n : Int), (∀ c ∈ xs, dig c) → 0 ≤ n → n * 10 ^ xs.length ≤ valL xs n ∧ valL xs n < (n + 1) * 10 ^ xs.length
  | [], n, _, _ => by simp [valL]; omega
  | c :: cs, n, h, hn => by
    have hc := h c (by simp)
    unfold dig at hc
    have ih := valL_mono cs (10 * n + (c - 48)) (fun z hz => h z (by simp [hz])) (by omega)
    simp only [valL, List.length_cons]
    have hp : (0 : Int) < 10 ^ cs.length := Int.pow_pos (by decide)
    have e : (10 : Int) ^ (cs.length + 1) = 10 * 10 ^ cs.length := by rw [Int.pow_succ, Int.mul_comm]
    obtain ⟨P, hP⟩ : ∃ P : Int, (10 : Int) ^ cs.length = P := ⟨_, rfl⟩
    rw [hP] at ih hp e
    rw [e]
    have e1 : n * (10 * P) = (10 * n) * P := by rw [← Int.mul_assoc, Int.mul_comm n 10]
    have e2 : (n + 1) * (10 * P) = (10 * (n + 1)) * P := by rw [← Int.mul_assoc, Int.mul_comm (n + 1) 10]
    rw [e1, e2]
    constructor
    · exact Int.le_trans (Int.mul_le_mul_of_nonneg_right (by omega) (by omega)) ih.1
    · exact Int.lt_of_lt_of_le ih.2 (Int.mul_le_mul_of_nonneg_right (by omega) (by omega))
theorem snoc_cases {α : Type} (xs : List α) : xs = [] ∨ ∃ ys c, xs = ys ++ [c] := by
  rcases List.eq_nil_or_concat xs with h | ⟨ys, c, h⟩
  · exact .inl h
  · exact .inr ⟨ys, c, by simpa using h⟩
theorem val_nonneg {xs : List Int} (h : ∀ c ∈ xs, dig c) : 0 ≤ valL xs 0 := by
  have := (valL_mono xs 0 h (by omega)).1
  simpa using this
theorem val_pos {c : Int} {cs : List Int} (h : ∀ z ∈ c :: cs, dig z) (hc : c ≠ 48) : 10 ^ cs.length ≤ valL (c :: cs) 0 := by
  have h0 := h c (by simp)
  unfold dig at h0
  have := (valL_mono cs (10 * 0 + (c - 48)) (fun z hz => h z (by simp [hz])) (by omega)).1
  have hp : (0 : Int) ≤ 10 ^ cs.length := Int.le_of_lt (Int.pow_pos (by decide))
  refine Int.le_trans ?_ this
  have := Int.mul_le_mul_of_nonneg_right (show (1 : Int) ≤ 10 * 0 + (c - 48) by omega) hp
  rwa [Int.one_mul] at this
/-- No digit too many ahead. -/
def canon (xs : List Int) : Prop := (∀ c ∈ xs, dig c) ∧ xs ≠ [] ∧ (xs.getD 0 0 = 48 → xs.length = 1)
theorem digL_val : ∀ (m : Nat) (xs : List Int), xs.length = m → canon xs → digL (valL xs 0).toNat = xs
  | 0, xs, hm, h => absurd (List.eq_nil_of_length_eq_zero hm) h.2.1
  | m + 1, xs, hm, h => by
    rcases snoc_cases xs with rfl | ⟨ys, c, rfl⟩
    · exact absurd rfl h.2.1
    · have hc := h.1 c (by simp)
      unfold dig at hc
      rw [valL_app]
      simp only [valL]
      rcases ys with _ | ⟨y, ys⟩
      · simp only [valL, List.nil_append]
        rw [digL_small (by omega)]
        congr 1
        omega
      · have hy : ∀ z ∈ y :: ys, dig z := fun z hz => h.1 z (by simp at hz ⊢; rcases hz with hz | hz <;> simp [hz])
        have hy48 : y ≠ 48 := fun e => by
          have := h.2.2 (by simp [e])
          simp at this
        have hv := val_pos hy hy48
        have hp : (1 : Int) ≤ 10 ^ ys.length := Int.add_one_le_iff.2 (Int.pow_pos (by decide))
        have ih := digL_val m (y :: ys) (by simp at hm ⊢; omega) ⟨hy, by simp, fun e => absurd (by simpa using e) hy48⟩
        obtain ⟨v, hvv⟩ : ∃ v, valL (y :: ys) 0 = v := ⟨_, rfl⟩
        rw [hvv] at hv ih ⊢
        rw [digL_big (by omega), show (10 * v + (c - 48)).toNat / 10 = v.toNat from by omega, ih]
        congr 2
        omega
theorem digL_ne (n : Nat) : digL n ≠ [] := by
  by_cases h : n < 10
  · rw [digL_small h]; simp
  · rw [digL_big h]; simp
theorem digL_canon (n : Nat) : canon (digL n) ∧ valL (digL n) 0 = (n : Int) ∧ ((digL n).getD 0 0 = 48 → n = 0) := by
  induction n using Nat.strongRecOn with
  | ind n ih =>
    by_cases h : n < 10
    · rw [digL_small h]
      refine ⟨⟨?_, by simp, by simp⟩, ?_, ?_⟩
      · intro c hc
        simp at hc
        unfold dig
        omega
      · simp only [valL]; omega
      · simp; omega
    · obtain ⟨⟨h1, h2, h3⟩, h4, h5⟩ := ih (n / 10) (by omega)
      rw [digL_big h]
      have hg : (digL (n / 10) ++ [48 + ((n % 10 : Nat) : Int)]).getD 0 0 = (digL (n / 10)).getD 0 0 := by
        rcases hd : digL (n / 10) with _ | ⟨a, l⟩
        · exact absurd hd (digL_ne _)
        · rfl
      have hne : (digL (n / 10)).getD 0 0 ≠ 48 := fun e => by have := h5 e; omega
      refine ⟨⟨?_, by simp, ?_⟩, ?_, ?_⟩
      · intro c hc
        rcases List.mem_append.1 hc with hc | hc
        · exact h1 c hc
        · simp at hc
          unfold dig
          omega
      · rw [hg]; exact fun e => absurd e hne
      · rw [valL_app, h4]
        simp only [valL]
        omega
      · rw [hg]; exact fun e => absurd e hne
theorem canon_iff (xs : List Int) (h : ∀ c ∈ xs, dig c) : canon xs ↔ digL (valL xs 0).toNat = xs := by
  constructor
  · exact fun hc => digL_val _ xs rfl hc
  · intro e
    rw [← e]
    exact (digL_canon _).1
theorem canon_len {xs : List Int} (h : canon xs) (hv : valL xs 0 ≤ 1099511627776) : xs.length ≤ 13 := by
  obtain ⟨h1, h2, h3⟩ := h
  rcases xs with _ | ⟨c, cs⟩
  · exact absurd rfl h2
  · by_cases hc : c = 48
    · have := h3 (by simp [hc]); omega
    · have hp := val_pos h1 hc
      refine Decidable.of_not_not fun hl => ?_
      have : (10 : Int) ^ 13 ≤ 10 ^ cs.length := by
        obtain ⟨m, hm⟩ : ∃ m, cs.length = 13 + m := ⟨cs.length - 13, by simp at hl; omega⟩
        rw [hm, Int.pow_add]
        have h1 : (1 : Int) ≤ 10 ^ m := Int.add_one_le_iff.2 (Int.pow_pos (by decide))
        have := Int.mul_le_mul_of_nonneg_left h1 (show (0 : Int) ≤ 10 ^ 13 by decide)
        rwa [Int.mul_one] at this
      omega
theorem isB_digL (n : Nat) : isB (digL n) := fun c hc => by
  have := (digL_canon n).1.1 c hc
  unfold dig at this
  omega
theorem canon_len' (n : Nat) (h : n < 1000000000000000000) : (digL n).length ≤ 1000000 := by
  have hc := digL_canon n
  rcases hd : digL n with _ | ⟨c, cs⟩
  · simp
  · rw [hd] at hc
    by_cases h48 : c = 48
    · have := hc.1.2.2 (by simp [h48])
      omega
    · have hp := val_pos hc.1.1 h48
      rw [hc.2.1] at hp
      refine Decidable.of_not_not fun hl => ?_
      have : (10 : Int) ^ 20 ≤ 10 ^ cs.length := by
        obtain ⟨m, hm⟩ : ∃ m, cs.length = 20 + m := ⟨cs.length - 20, by simp at hl; omega⟩
        rw [hm, Int.pow_add]
        have h1 : (1 : Int) ≤ 10 ^ m := Int.add_one_le_iff.2 (Int.pow_pos (by decide))
        have := Int.mul_le_mul_of_nonneg_left h1 (show (0 : Int) ≤ 10 ^ 20 by decide)
        rwa [Int.mul_one] at this
      omega

/-! ### Numbers read -/
theorem drop_gb {xs : List Int} (hx : isB xs) {p : Nat} (h : p < xs.length) : xs.drop p = (gb xs p : Int) :: xs.drop (p + 1) := by
  rw [List.drop_eq_getElem_cons h]
  congr 1
  unfold gb
  rw [List.getD_eq_getElem?_getD, List.getElem?_eq_getElem h, Option.getD_some]
  have := hx _ (List.getElem_mem h)
  omega
instance (xs : List Int) : Decidable (canon xs) := by unfold canon; infer_instance
theorem numG_is {xs : List Int} (hx : isB xs) (hl : xs.length ≤ 15) : ∀ (d pos : Nat) (n : Int), pos ≤ xs.length → xs.length ≤ pos + d → 0 ≤ n → n < 10 ^ pos → numG (strOfNums xs) d pos n = if (∀ c ∈ xs.drop pos, dig c) then some (valL (xs.drop pos) n) else none
  | 0, pos, n, hp, hd, h0, hn => by
    rw [List.drop_eq_nil_of_le (by omega)]
    simp [numG, valL]
  | d + 1, pos, n, hp, hd, h0, hn => by
    by_cases hlt : pos < xs.length
    · simp only [numG]
      rw [if_pos (by rw [son_size]; exact hlt), dec_rune hx, dec_wid hx, drop_gb hx hlt]
      have hb : (10 : Int) ^ pos ≤ 10 ^ 15 := by
        obtain ⟨m, hm⟩ : ∃ m, 15 = pos + m := ⟨15 - pos, by omega⟩
        rw [hm, Int.pow_add]
        have h1 : (1 : Int) ≤ 10 ^ m := Int.add_one_le_iff.2 (Int.pow_pos (by decide))
        have h2 : (0 : Int) ≤ 10 ^ pos := Int.le_of_lt (Int.pow_pos (by decide))
        have := Int.mul_le_mul_of_nonneg_left h1 h2
        rwa [Int.mul_one] at this
      by_cases hg : gb xs pos < 128
      · obtain ⟨e1, e2⟩ := rune_low hg
        rw [e1, e2]
        by_cases hd2 : dig (gb xs pos : Int)
        · have hd3 := hd2
          unfold dig at hd3
          have hw : wrap64 (wrap64 (10 * n) + wrap64 (wrap32 ((gb xs pos : Int) - 48))) = 10 * n + ((gb xs pos : Int) - 48) := by
            rw [show wrap32 ((gb xs pos : Int) - 48) = (gb xs pos : Int) - 48 from by unfold wrap32; omega, w64 (x := (gb xs pos : Int) - 48) (by omega), w64 (x := 10 * n) (by omega), w64 (by omega)]
          rw [if_neg (by omega), hw, numG_is hx hl d (pos + 1) _ (by omega) (by omega) (by omega) (by rw [Int.pow_succ]; omega)]
          simp only [valL, List.forall_mem_cons]
          by_cases ha : ∀ c ∈ xs.drop (pos + 1), dig c
          · rw [if_pos ha, if_pos ⟨hd2, ha⟩]
          · rw [if_neg ha, if_neg (fun h => ha h.2)]
        · rw [if_pos (by unfold dig at hd2; omega), if_neg (fun h => hd2 (h _ (by simp)))]
      · obtain ⟨e1, e2⟩ := rune_high hg
        rw [if_pos (by omega), if_neg (fun h => by have := h _ (List.mem_cons_self); unfold dig at this; omega)]
    · rw [numG_end _ _ _ _ (by rw [son_size]; exact hlt), List.drop_eq_nil_of_le (by omega)]
      simp [valL]
/-- The number that a text tells, or none. -/
def numZ (xs : List Int) : Int × Bool :=
  if 1 < xs.length ∧ xs.getD 0 0 = 45 then (if canon (xs.drop 1) ∧ valL (xs.drop 1) 0 ≤ 1099511627776 ∧ xs.getD 1 0 ≠ 48 then (-(valL (xs.drop 1) 0), true) else (0, false))
  else if canon xs ∧ valL xs 0 ≤ 1099511627776 then (valL xs 0, true) else (0, false)
theorem bt0 {xs : List Int} (hx : isB xs) (h : 0 < xs.length) : bt (strOfNums xs) 0 = xs.getD 0 0 := by
  have := son_bt hx 0 (by omega) (by omega)
  rw [this]; rfl
theorem val_15 {xs : List Int} (h : ∀ c ∈ xs, dig c) (hl : xs.length ≤ 15) : valL xs 0 < 10 ^ 15 := by
  have h1 := (valL_mono xs 0 h (by omega)).2
  have h2 : (10 : Int) ^ xs.length ≤ 10 ^ 15 := by
    obtain ⟨m, hm⟩ : ∃ m, 15 = xs.length + m := ⟨15 - xs.length, by omega⟩
    rw [hm, Int.pow_add]
    have h1 : (1 : Int) ≤ 10 ^ m := Int.add_one_le_iff.2 (Int.pow_pos (by decide))
    have h2 : (0 : Int) ≤ 10 ^ xs.length := Int.le_of_lt (Int.pow_pos (by decide))
    have := Int.mul_le_mul_of_nonneg_left h1 h2
    rwa [Int.mul_one] at this
  simp only [Int.zero_add, Int.one_mul] at h1
  omega
theorem digN_is {xs : List Int} (hx : isB xs) (mn : Bool) : digN (strOfNums xs) mn = if canon xs ∧ valL xs 0 ≤ 1099511627776 ∧ (mn = true → xs.getD 0 0 ≠ 48) then ((if mn = true then -(valL xs 0) else valL xs 0), true) else (0, false) := by
  unfold digN
  rw [son_size]
  by_cases h0 : xs.length = 0
  · rw [if_pos (.inl h0), if_neg (fun h => h.1.2.1 (List.eq_nil_of_length_eq_zero h0))]
  rw [bt0 hx (by omega)]
  by_cases h13 : 13 < xs.length
  · rw [if_pos (.inr (.inl h13)), if_neg (fun h => by have := canon_len h.1 h.2.1; omega)]
  by_cases hz : xs.getD 0 0 = 48 ∧ (mn = true ∨ 1 < xs.length)
  · rw [if_pos (.inr (.inr hz)), if_neg]
    rintro ⟨h1, h2, h3⟩
    rcases hz.2 with h | h
    · exact h3 h hz.1
    · have := h1.2.2 hz.1
      omega
  · rw [if_neg (by rintro (h | h | h); exact h0 h; exact h13 h; exact hz h), numG_is hx (by omega) _ 0 0 (by omega) (by omega) (by omega) (by simp), List.drop_zero]
    by_cases ha : ∀ c ∈ xs, dig c
    · have hv := val_15 ha (by omega)
      have hn := val_nonneg ha
      have hc : canon xs := ⟨ha, fun e => h0 (by rw [e]; rfl), fun e => Decidable.of_not_not fun hl => hz ⟨e, .inr (by omega)⟩⟩
      rw [if_pos ha]
      simp only [endN]
      by_cases hm : 1099511627776 < valL xs 0
      · rw [if_pos hm, if_neg (fun h => by have := h.2.1; omega)]
      · rw [if_neg hm, if_pos (c := canon xs ∧ valL xs 0 ≤ 1099511627776 ∧ (mn = true → xs.getD 0 0 ≠ 48)) ⟨hc, by omega, fun e h => hz ⟨h, .inl e⟩⟩, w64 (by omega)]
        cases mn <;> rfl
    · rw [if_neg ha, if_neg (fun h => ha h.1.1)]
      rfl
theorem numberF_is {xs : List Int} (hx : isB xs) : numberF (strOfNums xs) = numZ xs := by
  unfold numberF numZ
  rw [son_size]
  by_cases h : 1 < xs.length ∧ xs.getD 0 0 = 45
  · rw [if_pos ⟨h.1, by rw [bt0 hx (by omega)]; exact h.2⟩, if_pos h, son_extract, List.take_length, digN_is (isB_drop hx 1)]
    have e : (xs.drop 1).getD 0 0 = xs.getD 1 0 := by simp [List.getD_eq_getElem?_getD, List.getElem?_drop]
    rw [e]
    simp only [if_true, true_implies]
  · have hh : ¬ (1 < xs.length ∧ bt (strOfNums xs) 0 = 45) := fun hc => h ⟨hc.1, by rw [← bt0 hx (by omega)]; exact hc.2⟩
    rw [if_neg hh, if_neg h, digN_is hx]
    simp

/-! ### The document's digits -/
theorem Digits10_is : ∀ (k n : Nat), n < 10 ^ k → n < 1000000000000000000 → argosyref10_Digits.f (k + 2) (n : Int) = some (strOfNums (digL n))
  | k, n, h, hb => by
    have small : ∀ (k' : Nat) (m : Nat), m < 10 → argosyref10_Digits.f (k' + 1) (m : Int) = some (strOfNums (digL m)) := by
      intro k' m hm
      have hmx : mx (m : Int) 0 = m := by unfold mx; omega
      simp only [argosyref10_Digits.f]
      rw [if_pos (by omega), hmx, w64 (by omega), if_pos (by omega), if_pos (by omega), if_pos (by omega), digL_small hm, Int.toNat_natCast, show ((m : Int) + 1).toNat = m + 1 from by omega]
      have e : (⟨#[48, 49, 50, 51, 52, 53, 54, 55, 56, 57]⟩ : ByteArray) = strOfNums [48, 49, 50, 51, 52, 53, 54, 55, 56, 57] := rfl
      rw [e, son_extract]
      obtain rfl | rfl | rfl | rfl | rfl | rfl | rfl | rfl | rfl | rfl : m = 0 ∨ m = 1 ∨ m = 2 ∨ m = 3 ∨ m = 4 ∨ m = 5 ∨ m = 6 ∨ m = 7 ∨ m = 8 ∨ m = 9 := by omega
      all_goals rfl
    by_cases hs : n < 10
    · exact small (k + 1) n hs
    · obtain ⟨k, rfl⟩ : ∃ m, k = m + 1 := ⟨k - 1, by
        rcases k with _ | k
        · simp at h; omega
        · rfl⟩
      have hq : n / 10 < 10 ^ k := by
        rw [Nat.pow_succ] at h
        omega
      have ih := Digits10_is k (n / 10) hq (by omega)
      have hr := small (k + 1) (n % 10) (by omega)
      rw [show k + 1 + 2 = (k + 2) + 1 from by omega]
      rw [argosyref10_Digits.f]
      have e1 : wrap64 (Int.tdiv (n : Int) 10) = ((n / 10 : Nat) : Int) := by
        rw [Int.tdiv_eq_ediv_of_nonneg (by omega)]
        rw [w64 (by omega)]
        omega
      have e2 : Int.tmod (n : Int) 10 = ((n % 10 : Nat) : Int) := by
        rw [Int.tmod_eq_emod_of_nonneg (by omega)]
        omega
      rw [if_neg (by omega), e1, e2, ih, hr, Option.bind_some, Option.bind_some, if_pos, digL_big hs, digL_small (n := n % 10) (by omega), son_append]
      rw [son_size, son_size, digL_small (n := n % 10) (by omega)]
      have hlen := canon_len' (n / 10) (by omega)
      simp
      omega
/-- A number's text. -/
def digZ (n : Int) : List Int := if n < 0 then 45 :: digL (-n).toNat else digL n.toNat
theorem digZ_isB (n : Int) : isB (digZ n) := by
  unfold digZ
  split
  · intro x hx
    rcases List.mem_cons.1 hx with rfl | hx
    · omega
    · exact isB_digL _ x hx
  · exact isB_digL _
theorem Digits_is {k : Nat} (hk : 20 ≤ k) {n : Int} (h : -100000000000000000 ≤ n ∧ n ≤ 100000000000000000) : argosyref27_Digits.f k n = some (strOfNums (digZ n)) := by
  obtain ⟨k, rfl⟩ : ∃ m, k = m + 2 := ⟨k - 2, by omega⟩
  have hp : 100000000000000000 < 10 ^ k := by
    obtain ⟨m, rfl⟩ : ∃ m, k = 18 + m := ⟨k - 18, by omega⟩
    rw [Nat.pow_add]
    have : 1 ≤ 10 ^ m := Nat.pos_iff_ne_zero.2 (by simp)
    omega
  unfold argosyref27_Digits.f digZ
  by_cases hn : n < 0
  · have e := Digits10_is k (-n).toNat (by omega) (by omega)
    rw [show (((-n).toNat : Nat) : Int) = -n from by omega] at e
    rw [if_pos hn, if_pos hn, w64 (by omega), e, Option.bind_some, if_pos]
    · rw [show (⟨#[45]⟩ : ByteArray) = strOfNums [45] from rfl, ← son_append]
      rfl
    · rw [son_size]
      have := canon_len' (-n).toNat (by omega)
      omega
  · have e := Digits10_is k n.toNat (by omega) (by omega)
    rw [show ((n.toNat : Nat) : Int) = n from by omega] at e
    rw [if_neg hn, if_neg hn, e, Option.bind_some]

/-! ### The document's numbers -/
def finZ (xs : List Int) (v sg : Int) : Int × Bool := if v ≤ 1099511627776 ∧ digZ (sg * v) = xs then (sg * v, true) else (0, false)
theorem is_is (v : Int) (h : 0 ≤ v) : argosyref27_is.f v = some (decide (v ≤ 1099511627776)) := by
  unfold argosyref27_is.f
  rw [if_pos (by omega)]
theorem rNum_loop {xs : List Int} (hx : isB xs) (hl : xs.length ≤ 15) (sg : Int) (hsg : sg = 1 ∨ sg = -1) : ∀ (d p k : Nat) (n : Int), xs.length = p + d → 2 * d + 21 ≤ k → 0 ≤ n → n < 10 ^ p → ¬ (p = 0 ∧ xs.getD 0 0 = 45) → argosyref27_Number.l0 k (strOfNums xs) n sg (p : Int) = some (if (∀ c ∈ xs.drop p, dig c) then finZ xs (valL (xs.drop p) n) sg else (0, false))
  | 0, p, k, n, hd, hk, h0, hn, hp => by
    obtain ⟨k, rfl⟩ : ∃ m, k = m + 1 := ⟨k - 1, by omega⟩
    have hb : (10 : Int) ^ p ≤ 10 ^ 15 := by
      obtain ⟨m, hm⟩ : ∃ m, 15 = p + m := ⟨15 - p, by omega⟩
      rw [hm, Int.pow_add]
      have h1 : (1 : Int) ≤ 10 ^ m := Int.add_one_le_iff.2 (Int.pow_pos (by decide))
      have h2 : (0 : Int) ≤ 10 ^ p := Int.le_of_lt (Int.pow_pos (by decide))
      have := Int.mul_le_mul_of_nonneg_left h1 h2
      rwa [Int.mul_one] at this
    have hw : wrap64 (sg * n) = sg * n := by rcases hsg with rfl | rfl <;> exact w64 (by omega)
    simp only [argosyref27_Number.l0]
    rw [if_neg (by rw [son_size]; omega), is_is _ h0, Option.bind_some, hw, List.drop_eq_nil_of_le (by omega)]
    simp only [valL]
    rw [if_pos (c := ∀ c ∈ ([] : List Int), dig c) (by simp)]
    unfold finZ
    by_cases hv : n ≤ 1099511627776
    · rw [if_pos (decide_eq_true hv), Digits_is (by omega) (by rcases hsg with rfl | rfl <;> omega), Option.bind_some]
      by_cases he : digZ (sg * n) = xs
      · rw [if_pos (by rw [he]), if_pos ⟨hv, he⟩]
      · rw [if_neg (fun e => he ((son_toList_inj (digZ_isB _) hx).1 e)), if_neg (fun h => he h.2)]
    · rw [if_neg (by simpa using hv), if_neg (fun h => hv h.1)]
  | d + 1, p, k, n, hd, hk, h0, hn, hp => by
    obtain ⟨k, rfl⟩ : ∃ m, k = m + 2 := ⟨k - 2, by omega⟩
    have hlt : p < xs.length := by omega
    have hb : (10 : Int) ^ p ≤ 10 ^ 15 := by
      obtain ⟨m, hm⟩ : ∃ m, 15 = p + m := ⟨15 - p, by omega⟩
      rw [hm, Int.pow_add]
      have h1 : (1 : Int) ≤ 10 ^ m := Int.add_one_le_iff.2 (Int.pow_pos (by decide))
      have h2 : (0 : Int) ≤ 10 ^ p := Int.le_of_lt (Int.pow_pos (by decide))
      have := Int.mul_le_mul_of_nonneg_left h1 h2
      rwa [Int.mul_one] at this
    have hg : bt (strOfNums xs) (p : Int) = (gb xs p : Int) := bt_gb hx hlt
    have hg0 : gb xs p < 256 := gb_lt hx p
    have hstep : argosyref27_Number.l0 (k + 2) (strOfNums xs) n sg (p : Int) = argosyref27_Number.j1 (k + 1) (strOfNums xs) n sg (p : Int) false := by
      rw [show k + 2 = (k + 1) + 1 from rfl]
      simp only [argosyref27_Number.l0]
      rw [if_pos (by rw [son_size]; omega)]
      by_cases h00 : p = 0
      · subst h00
        rw [if_pos (c := ((0 : Nat) : Int) = 0) rfl, if_pos (by omega), hg]
        have : (gb xs 0 : Int) ≠ 45 := fun e => hp ⟨rfl, by
          have h1 := bt0 hx hlt
          have h2 : bt (strOfNums xs) 0 = (gb xs 0 : Int) := hg
          omega⟩
        rw [beq_eq_false_iff_ne.mpr this]
      · rw [if_neg (by omega)]
    rw [hstep, drop_gb hx hlt]
    simp only [argosyref27_Number.j1]
    rw [if_neg (by decide), if_pos (by omega), if_pos (by rw [son_size]; omega), hg]
    by_cases hd2 : dig (gb xs p : Int)
    · have hd3 := hd2
      unfold dig at hd3
      rw [if_neg (by omega), if_neg (by omega), w64 (x := 10 * n) (by omega), show ((gb xs p : Int) - 48) % 256 = (gb xs p : Int) - 48 from by omega, w64 (by omega), w64 (by omega), show (p : Int) + 1 = ((p + 1 : Nat) : Int) from by omega, rNum_loop hx hl sg hsg d (p + 1) k _ (by omega) (by omega) (by omega) (by rw [Int.pow_succ]; omega) (by omega)]
      simp only [valL, List.forall_mem_cons]
      by_cases ha : ∀ c ∈ xs.drop (p + 1), dig c
      · rw [if_pos ha, if_pos ⟨hd2, ha⟩]
      · rw [if_neg ha, if_neg (fun h => ha h.2)]
    · rw [if_neg (c := ∀ c ∈ _, dig c) (fun h => hd2 (h _ (by simp)))]
      unfold dig at hd2
      by_cases h48 : (gb xs p : Int) < 48
      · rw [if_pos h48]
      · rw [if_neg h48, if_pos (by omega)]
theorem rNumber_is {xs : List Int} (hx : isB xs) {k : Nat} (hk : 60 ≤ k) : argosyref27_Number.f k (strOfNums xs) = some (numZ xs) := by
  unfold argosyref27_Number.f
  rw [son_size]
  by_cases hl : (xs.length : Int) > 15
  · rw [if_pos hl]
    unfold numZ
    split
    · rename_i h
      rw [if_neg (fun hc => by have := canon_len hc.1 hc.2.1; simp at this; omega)]
    · rw [if_neg (fun hc => by have := canon_len hc.1 hc.2; omega)]
  · rw [if_neg hl]
    by_cases h45 : 0 < xs.length ∧ xs.getD 0 0 = 45
    · have hlt := h45.1
      obtain ⟨k, rfl⟩ : ∃ m, k = m + 2 := ⟨k - 2, by omega⟩
      have hb0 := bt0 hx hlt
      have hstep : argosyref27_Number.l0 (k + 2) (strOfNums xs) 0 1 0 = argosyref27_Number.l0 k (strOfNums xs) 0 (-1) ((1 : Nat) : Int) := by
        rw [show k + 2 = (k + 1) + 1 from rfl]
        rw [argosyref27_Number.l0, if_pos (by rw [son_size]; omega), if_pos rfl, if_pos (by omega), hb0, h45.2, argosyref27_Number.j1, if_pos (by decide), w64 (by omega)]
        rfl
      rw [hstep, rNum_loop hx (by omega) (-1) (.inr rfl) (xs.length - 1) 1 k 0 (by omega) (by omega) (by omega) (by decide) (by omega)]
      congr 1
      obtain ⟨ds, rfl⟩ : ∃ ds, xs = 45 :: ds := by
        rcases xs with _ | ⟨a, ds⟩
        · simp at hlt
        · exact ⟨ds, by have := h45.2; simp at this; rw [this]⟩
      have e1 : (45 :: ds).drop 1 = ds := rfl
      rw [e1]
      unfold numZ finZ
      rw [e1]
      have eg : (45 :: ds).getD 1 0 = ds.getD 0 0 := by cases ds <;> rfl
      by_cases ha : ∀ c ∈ ds, dig c
      · have hn := val_nonneg ha
        rw [if_pos ha]
        have key : (1 < (45 :: ds).length ∧ canon ds ∧ (45 :: ds).getD 1 0 ≠ 48) ↔ digZ (-1 * valL ds 0) = 45 :: ds := by
          unfold digZ
          rw [eg]
          constructor
          · rintro ⟨h1, h2, h3⟩
            rcases ds with _ | ⟨c, cs⟩
            · simp at h1
            · have hp := val_pos ha (by simpa using h3)
              have h1 : (1 : Int) ≤ 10 ^ cs.length := Int.add_one_le_iff.2 (Int.pow_pos (by decide))
              rw [if_pos (by omega), show (-(-1 * valL (c :: cs) 0)).toNat = (valL (c :: cs) 0).toNat from by omega, digL_val _ _ rfl h2]
          · intro e
            by_cases hv : valL ds 0 = 0
            · rw [hv] at e
              rw [if_neg (by omega), digL_small (by omega)] at e
              simp at e
            · rw [if_pos (by omega), show (-(-1 * valL ds 0)).toNat = (valL ds 0).toNat from by omega] at e
              have e2 := (List.cons.inj e).2
              have hc := digL_canon (valL ds 0).toNat
              rw [e2] at hc
              refine ⟨?_, hc.1, fun e48 => by have := hc.2.2 e48; omega⟩
              have := hc.1.2.1
              rcases ds with _ | ⟨c, cs⟩
              · exact absurd rfl this
              · simp
        by_cases h1 : 1 < (45 :: ds).length
        · rw [if_pos (c := 1 < (45 :: ds).length ∧ (45 :: ds).getD 0 0 = 45) ⟨h1, rfl⟩]
          by_cases hc : canon ds ∧ valL ds 0 ≤ 1099511627776 ∧ (45 :: ds).getD 1 0 ≠ 48
          · rw [if_pos hc, if_pos ⟨hc.2.1, key.1 ⟨h1, hc.1, hc.2.2⟩⟩, Int.neg_one_mul]
          · rw [if_neg hc, if_neg (fun h => hc ⟨(key.2 h.2).2.1, h.1, (key.2 h.2).2.2⟩)]
        · rw [if_neg (c := 1 < (45 :: ds).length ∧ (45 :: ds).getD 0 0 = 45) (fun h => h1 h.1), if_neg (fun h => h1 (key.2 h.2).1), if_neg]
          rintro ⟨h, _⟩
          have := h.1 45 (by simp)
          unfold dig at this
          omega
      · rw [if_neg ha]
        split
        · rw [if_neg (fun h => ha h.1.1)]
        · rw [if_neg (fun h => ha (fun c hc => h.1.1 c (by simp [hc])))]
    · rw [show (0 : Int) = ((0 : Nat) : Int) from rfl, rNum_loop hx (by omega) 1 (.inl rfl) xs.length 0 k ((0 : Nat) : Int) (by omega) (by omega) (by omega) (by simp) (by
        rintro ⟨_, h⟩
        refine h45 ⟨?_, h⟩
        rcases xs with _ | ⟨a, l⟩
        · simp at h
        · simp)]
      congr 1
      rw [List.drop_zero]
      unfold numZ finZ
      rw [if_neg (c := 1 < xs.length ∧ xs.getD 0 0 = 45) (fun h => h45 ⟨by omega, h.2⟩)]
      by_cases ha : ∀ c ∈ xs, dig c
      · have hn := val_nonneg ha
        have key := canon_iff xs ha
        have ed : digZ (1 * valL xs ((0 : Nat) : Int)) = digL (valL xs 0).toNat := by
          unfold digZ
          rw [Int.one_mul, if_neg (by show ¬ valL xs 0 < 0; omega)]
          rfl
        rw [if_pos ha, ed]
        by_cases hc : canon xs ∧ valL xs 0 ≤ 1099511627776
        · rw [if_pos hc, if_pos ⟨hc.2, key.1 hc.1⟩, Int.one_mul]
          rfl
        · rw [if_neg hc, if_neg (fun h => hc ⟨key.2 h.2, h.1⟩)]
      · rw [if_neg ha, if_neg (fun h => ha h.1.1)]

/-! ### The document's pieces -/
def toS (l : List (List Int × Int)) : List S54 := l.map fun p => (⟨strOfNums p.1, p.2⟩ : S54)
theorem toS_app (a b : List (List Int × Int)) : toS (a ++ b) = toS a ++ toS b := List.map_append
theorem endL_none (xs : List Int) (e : Nat) : endL xs (-1) e = [] := rfl
theorem rp_flush {xs : List Int} (k : Nat) (acc : List S54) (rm : Bool) (fr : Int) (p : Nat) (c : Int) (hf : fr = -1 ∨ (0 ≤ fr ∧ fr ≤ (p : Int))) (hp : p ≤ xs.length) (ha : acc.length < 5864062014805) :
    argosyref27_pieces.j2 (k + 2) (strOfNums xs) acc rm fr (p : Int) c true = argosyref27_pieces.j4 k (strOfNums xs) (acc ++ toS (endL xs fr p)) rm (-1) (p : Int) c true := by
  rw [show k + 2 = (k + 1) + 1 from rfl, argosyref27_pieces.j2, if_pos rfl, argosyref27_pieces.j3]
  rcases hf with rfl | hf
  · rw [if_neg (by decide), endL_none]
    simp [toS]
  · rw [if_pos (decide_eq_true (by omega)), if_pos hf.1, if_pos hf.2, if_pos (by rw [son_size]; omega), if_pos ha, Int.toNat_natCast, son_extract]
    congr 1
    unfold endL
    rw [if_neg (by omega)]
    rfl
theorem rp_end {xs : List Int} (k : Nat) (acc : List S54) (rm : Bool) (fr : Int) (hf : fr = -1 ∨ (0 ≤ fr ∧ fr ≤ (xs.length : Int))) (ha : acc.length < 5864062014800) (hl : xs.length < 1000000) :
    argosyref27_pieces.l0 (k + 7) (strOfNums xs) acc rm fr (xs.length : Int) = some (acc ++ toS (endL xs fr xs.length)) := by
  rw [show k + 7 = (k + 6) + 1 from rfl, argosyref27_pieces.l0, if_pos (by rw [son_size]; omega), if_neg (by rw [son_size]; omega), show k + 6 = (k + 5) + 1 from rfl, argosyref27_pieces.j1, if_neg (by decide), if_pos rfl, show k + 5 = (k + 3) + 2 from rfl, rp_flush _ _ _ _ _ _ hf (Nat.le_refl _) (by omega), show k + 3 = (k + 2) + 1 from rfl, argosyref27_pieces.j4, if_pos rfl, show k + 2 = (k + 1) + 1 from rfl, argosyref27_pieces.j5, if_neg (by decide), if_neg (by decide), w64 (by omega)]
  have e : ∀ rm' fr', argosyref27_pieces.l0 (k + 1) (strOfNums xs) (acc ++ toS (endL xs fr xs.length)) rm' fr' ((xs.length : Int) + 1) = some (acc ++ toS (endL xs fr xs.length)) := fun rm' fr' => by
    rw [argosyref27_pieces.l0, if_neg (by rw [son_size]; omega)]
  rw [e, e]
  split
  · rfl
  · split <;> rfl
theorem j1_blank (k : Nat) (x0 : ByteArray) (acc : List S54) (rm : Bool) (fr i c : Int) (h : c = 9 ∨ c = 10 ∨ c = 13 ∨ c = 32 ∨ c = 35 ∨ c = 59) : argosyref27_pieces.j1 (k + 1) x0 acc rm fr i c = argosyref27_pieces.j2 k x0 acc rm fr i c true := by
  rw [argosyref27_pieces.j1]
  rcases h with h | h | h | h | h | h <;> subst h <;> rfl
theorem j1_other (k : Nat) (x0 : ByteArray) (acc : List S54) (rm : Bool) (fr i c : Int) (h : ¬ (c = 9 ∨ c = 10 ∨ c = 13 ∨ c = 32 ∨ c = 35 ∨ c = 59)) : argosyref27_pieces.j1 (k + 1) x0 acc rm fr i c = argosyref27_pieces.j2 k x0 acc rm fr i c rm := by
  rw [argosyref27_pieces.j1, if_neg (by omega), if_neg (by omega), if_neg (by omega), if_neg (by omega), if_neg (by omega), if_neg (by omega)]
theorem rp_step {xs : List Int} (hx : isB xs) (k : Nat) (acc : List S54) (rm : Bool) (fr : Int) (p : Nat) (hf : fr = -1 ∨ (0 ≤ fr ∧ fr ≤ (p : Int))) (hrm : rm = true → fr = -1) (hp : p < xs.length) (ha : acc.length < 5864062014800) (hl : xs.length < 1000000) :
    argosyref27_pieces.l0 (k + 6) (strOfNums xs) acc rm fr (p : Int) =
      if rm = true then argosyref27_pieces.l0 k (strOfNums xs) acc (gb xs p != 10) fr ((p + 1 : Nat) : Int)
      else if gb xs p = 35 then argosyref27_pieces.l0 k (strOfNums xs) (acc ++ toS (endL xs fr p)) true (-1) ((p + 1 : Nat) : Int)
      else if gb xs p = 59 then argosyref27_pieces.l0 k (strOfNums xs) (acc ++ toS (endL xs fr p) ++ [⟨(⟨#[59]⟩ : ByteArray), (p : Int)⟩]) false (-1) ((p + 1 : Nat) : Int)
      else if gb xs p = 9 ∨ gb xs p = 10 ∨ gb xs p = 13 ∨ gb xs p = 32 then argosyref27_pieces.l0 k (strOfNums xs) (acc ++ toS (endL xs fr p)) false (-1) ((p + 1 : Nat) : Int)
      else argosyref27_pieces.l0 k (strOfNums xs) acc false (if fr < 0 then (p : Int) else fr) ((p + 1 : Nat) : Int) := by
  have hlen : (toS (endL xs fr p)).length ≤ 1 := by
    unfold endL
    split <;> simp [toS]
  have hbne : ((gb xs p : Int) != 10) = (gb xs p != 10) := by
    by_cases h10 : gb xs p = 10
    · rw [h10]; rfl
    · rw [bne_iff_ne.mpr h10, bne_iff_ne.mpr (show ((gb xs p : Nat) : Int) ≠ 10 by omega)]
  rw [show k + 6 = (k + 5) + 1 from rfl, argosyref27_pieces.l0, if_pos (by rw [son_size]; omega), if_pos (by rw [son_size]; omega), if_pos (by omega), bt_gb hx hp]
  have hw : wrap64 ((p : Int) + 1) = ((p + 1 : Nat) : Int) := by rw [w64 (by omega)]; omega
  have hflush : ∀ acc', argosyref27_pieces.j4 (k + 2) (strOfNums xs) acc' rm (-1) (p : Int) (gb xs p) true = argosyref27_pieces.j5 (k + 1) (strOfNums xs) acc' rm (-1) (p : Int) (gb xs p) false := fun acc' => by
    rw [show k + 2 = (k + 1) + 1 from rfl, argosyref27_pieces.j4, if_pos rfl]
  cases rm with
  | true =>
    have hfr := hrm rfl
    subst hfr
    rw [if_pos rfl]
    have h2 : argosyref27_pieces.j1 (k + 5) (strOfNums xs) acc true (-1) (p : Int) (gb xs p) = argosyref27_pieces.j2 (k + 4) (strOfNums xs) acc true (-1) (p : Int) (gb xs p) true := by
      by_cases hb : (gb xs p : Int) = 9 ∨ (gb xs p : Int) = 10 ∨ (gb xs p : Int) = 13 ∨ (gb xs p : Int) = 32 ∨ (gb xs p : Int) = 35 ∨ (gb xs p : Int) = 59
      · exact j1_blank (k + 4) _ _ _ _ _ _ hb
      · exact j1_other (k + 4) _ _ _ _ _ _ hb
    rw [h2, show k + 4 = (k + 2) + 2 from rfl, rp_flush _ _ _ _ _ _ (.inl rfl) (by omega) (by omega), hflush, argosyref27_pieces.j5, if_neg (by decide), if_pos rfl, if_pos rfl, hw, hbne, endL_none]
    simp [toS]
  | false =>
    rw [if_neg (c := (false : Bool) = true) (by decide)]
    have hne : ∀ {y z : Option (List S54)}, (if (false : Bool) = true then y else z) = z := fun {y z} => if_neg (by decide)
    by_cases c1 : gb xs p = 35
    · rw [if_pos c1, show k + 5 = (k + 4) + 1 from rfl, j1_blank _ _ _ _ _ _ _ (by omega), show k + 4 = (k + 2) + 2 from rfl, rp_flush _ _ _ _ _ _ hf (by omega) (by omega), hflush, argosyref27_pieces.j5, hne, if_neg (by omega), hne, if_pos (by omega), hw, hbne, c1]
      rfl
    rw [if_neg c1]
    by_cases c2 : gb xs p = 59
    · rw [if_pos c2, show k + 5 = (k + 4) + 1 from rfl, j1_blank _ _ _ _ _ _ _ (by omega), show k + 4 = (k + 2) + 2 from rfl, rp_flush _ _ _ _ _ _ hf (by omega) (by omega), hflush, argosyref27_pieces.j5, hne, if_pos (by omega), hne, if_pos (by simp; omega), Option.bind_some, if_neg (by omega), hw]
    rw [if_neg c2]
    by_cases c3 : gb xs p = 9 ∨ gb xs p = 10 ∨ gb xs p = 13 ∨ gb xs p = 32
    · rw [if_pos c3, show k + 5 = (k + 4) + 1 from rfl, j1_blank _ _ _ _ _ _ _ (by omega), show k + 4 = (k + 2) + 2 from rfl, rp_flush _ _ _ _ _ _ hf (by omega) (by omega), hflush, argosyref27_pieces.j5, hne, if_neg (by omega), hne, if_neg (by omega), hw]
    · rw [if_neg c3, show k + 5 = (k + 4) + 1 from rfl, j1_other _ _ _ _ _ _ _ (by omega), show k + 4 = (k + 3) + 1 from rfl, argosyref27_pieces.j2, hne, show k + 3 = (k + 2) + 1 from rfl, argosyref27_pieces.j3, hne, show k + 2 = (k + 1) + 1 from rfl, argosyref27_pieces.j4, hne, argosyref27_pieces.j5]
      by_cases h0 : fr < 0
      · rw [if_pos (decide_eq_true h0), if_neg (by omega), hne, if_neg (by omega), hw, if_pos h0]
      · rw [if_neg (by simpa using h0), if_neg (by omega), hne, if_neg (by omega), hw, if_neg h0]
theorem rp_loop {xs : List Int} (hx : isB xs) (hl : xs.length < 1000000) : ∀ (d p k : Nat) (acc : List S54) (rm : Bool) (fr : Int), xs.length = p + d → 6 * d + 7 ≤ k → (fr = -1 ∨ (0 ≤ fr ∧ fr ≤ (p : Int))) → (rm = true → fr = -1) → acc.length ≤ 2 * p → argosyref27_pieces.l0 k (strOfNums xs) acc rm fr (p : Int) = some (acc ++ toS (pcL xs d p rm fr))
  | 0, p, k, acc, rm, fr, hd, hk, hf, hrm, ha => by
    obtain ⟨k, rfl⟩ : ∃ m, k = m + 7 := ⟨k - 7, by omega⟩
    have hpl : p = xs.length := by omega
    rw [hpl] at hf ⊢
    rw [rp_end k acc rm fr hf (by omega) hl]
    rfl
  | d + 1, p, k, acc, rm, fr, hd, hk, hf, hrm, ha => by
    obtain ⟨k, rfl⟩ : ∃ m, k = m + 6 := ⟨k - 6, by omega⟩
    have hlen : (toS (endL xs fr p)).length ≤ 1 := by
      unfold endL
      split <;> simp [toS]
    have ih := fun acc rm fr => rp_loop hx hl d (p + 1) k acc rm fr (by omega) (by omega)
    rw [rp_step hx k acc rm fr p hf hrm (by omega) (by omega) hl]
    simp only [pcL]
    rw [if_pos (by omega : p < xs.length)]
    cases rm with
    | true =>
      have hfr := hrm rfl
      rw [if_pos rfl, if_pos rfl, ih acc _ fr (by omega) (fun _ => hfr) (by omega)]
    | false =>
      rw [if_neg (c := (false : Bool) = true) (by decide), if_neg (c := (false : Bool) = true) (by decide)]
      by_cases c1 : gb xs p = 35
      · rw [if_pos c1, if_pos c1, ih _ _ _ (.inl rfl) (fun _ => rfl) (by simp; omega), toS_app, List.append_assoc]
      rw [if_neg c1, if_neg c1]
      by_cases c2 : gb xs p = 59
      · rw [if_pos c2, if_pos c2, ih _ _ _ (.inl rfl) (fun _ => rfl) (by simp; omega), toS_app, List.append_assoc, List.append_assoc]
        rfl
      rw [if_neg c2, if_neg c2]
      by_cases c3 : gb xs p = 9 ∨ gb xs p = 10 ∨ gb xs p = 13 ∨ gb xs p = 32
      · rw [if_pos c3, if_pos c3, ih _ _ _ (.inl rfl) (fun _ => rfl) (by simp; omega), toS_app, List.append_assoc]
      · rw [if_neg c3, if_neg c3, ih _ _ _ (by split <;> omega) (fun e => by cases e) (by omega)]
theorem rPieces_is {xs : List Int} (hx : isB xs) (hl : xs.length < 1000000) {k : Nat} (hk : 6 * xs.length + 7 ≤ k) : argosyref27_pieces.f k (strOfNums xs) = some (toS (pcL xs xs.length 0 false (-1))) := by
  unfold argosyref27_pieces.f
  have := rp_loop hx hl xs.length 0 k [] false (-1) (by omega) hk (.inl rfl) (fun _ => rfl) (by simp)
  simpa using this

/-! ### Moves read -/
theorem endL_isB {xs : List Int} (hx : isB xs) (fr : Int) (e : Nat) : ∀ q ∈ endL xs fr e, isB q.1 := by
  intro q hq
  unfold endL at hq
  split at hq
  · simp at hq
  · simp at hq
    rw [hq]
    exact isB_drop (isB_take hx _) _
theorem pcL_isB {xs : List Int} (hx : isB xs) : ∀ (d p : Nat) (rm : Bool) (fr : Int), ∀ q ∈ pcL xs d p rm fr, isB q.1
  | 0, p, rm, fr => endL_isB hx _ _
  | d + 1, p, rm, fr => by
    have ih := fun rm fr => pcL_isB hx d (p + 1) rm fr
    have he := endL_isB hx fr p
    intro q hq
    simp only [pcL] at hq
    split at hq
    · split at hq
      · exact ih _ _ q hq
      · split at hq
        · rcases List.mem_append.1 hq with hq | hq
          · exact he q hq
          · exact ih _ _ q hq
        · split at hq
          · rcases List.mem_append.1 hq with hq | hq
            · exact he q hq
            · rcases List.mem_cons.1 hq with rfl | hq
              · intro z hz; simp at hz; omega
              · exact ih _ _ q hq
          · split at hq
            · rcases List.mem_append.1 hq with hq | hq
              · exact he q hq
              · exact ih _ _ q hq
            · exact ih _ _ q hq
    · exact endL_isB hx _ _ q hq
theorem want_is (a : ByteArray) : argosyref27_want.f a = some (if (formF a).2.2.2 = true then ((formF a).2.1, (formF a).2.2.1) else (-1, -1)) := by
  unfold argosyref27_want.f formF scene_formed.f
  repeat' split
  all_goals first | rfl | simp_all
theorem kindL (k : Nat) (a : ByteArray) (h : (formF a).2.2.2 = true) : argosyref27_kind.f (k + 7) a = some (formF a).1 ∧ (a.toList == ([99, 114, 97, 115, 104] : List UInt8)) = decide ((formF a).1 = 2) ∧ ((formF a).1 ≠ 2 → (formF a).2.2.1 ≤ 2) ∧ 0 ≤ (formF a).2.1 := by
  have t0 : (rdOf ByteArray.empty ([(⟨#[]⟩ : ByteArray), (⟨#[116, 105, 99, 107]⟩ : ByteArray), (⟨#[99, 114, 97, 115, 104]⟩ : ByteArray), (⟨#[111, 112, 101, 110]⟩ : ByteArray), (⟨#[97, 114, 109]⟩ : ByteArray), (⟨#[103, 114, 111, 119]⟩ : ByteArray)] : List ByteArray) 1).toList = ([116, 105, 99, 107] : List UInt8) := by decide +kernel
  have t1 : (rdOf ByteArray.empty ([(⟨#[]⟩ : ByteArray), (⟨#[116, 105, 99, 107]⟩ : ByteArray), (⟨#[99, 114, 97, 115, 104]⟩ : ByteArray), (⟨#[111, 112, 101, 110]⟩ : ByteArray), (⟨#[97, 114, 109]⟩ : ByteArray), (⟨#[103, 114, 111, 119]⟩ : ByteArray)] : List ByteArray) 2).toList = ([99, 114, 97, 115, 104] : List UInt8) := by decide +kernel
  have t2 : (rdOf ByteArray.empty ([(⟨#[]⟩ : ByteArray), (⟨#[116, 105, 99, 107]⟩ : ByteArray), (⟨#[99, 114, 97, 115, 104]⟩ : ByteArray), (⟨#[111, 112, 101, 110]⟩ : ByteArray), (⟨#[97, 114, 109]⟩ : ByteArray), (⟨#[103, 114, 111, 119]⟩ : ByteArray)] : List ByteArray) 3).toList = ([111, 112, 101, 110] : List UInt8) := by decide +kernel
  have t3 : (rdOf ByteArray.empty ([(⟨#[]⟩ : ByteArray), (⟨#[116, 105, 99, 107]⟩ : ByteArray), (⟨#[99, 114, 97, 115, 104]⟩ : ByteArray), (⟨#[111, 112, 101, 110]⟩ : ByteArray), (⟨#[97, 114, 109]⟩ : ByteArray), (⟨#[103, 114, 111, 119]⟩ : ByteArray)] : List ByteArray) 4).toList = ([97, 114, 109] : List UInt8) := by decide +kernel
  have t4 : (rdOf ByteArray.empty ([(⟨#[]⟩ : ByteArray), (⟨#[116, 105, 99, 107]⟩ : ByteArray), (⟨#[99, 114, 97, 115, 104]⟩ : ByteArray), (⟨#[111, 112, 101, 110]⟩ : ByteArray), (⟨#[97, 114, 109]⟩ : ByteArray), (⟨#[103, 114, 111, 119]⟩ : ByteArray)] : List ByteArray) 5).toList = ([103, 114, 111, 119] : List UInt8) := by decide +kernel
  have hcase : a.toList = ([116, 105, 99, 107] : List UInt8) ∨ a.toList = ([99, 114, 97, 115, 104] : List UInt8) ∨ a.toList = ([111, 112, 101, 110] : List UInt8) ∨ a.toList = ([97, 114, 109] : List UInt8) ∨ a.toList = ([103, 114, 111, 119] : List UInt8) := by
    unfold formF scene_formed.f at h
    repeat' split at h
    all_goals first | simp_all | (simp at h)
  have w1 : wrap64 ((1 : Int) + 1) = 2 := w64 (by omega)
  have w2 : wrap64 ((2 : Int) + 1) = 3 := w64 (by omega)
  have w3 : wrap64 ((3 : Int) + 1) = 4 := w64 (by omega)
  have w4 : wrap64 ((4 : Int) + 1) = 5 := w64 (by omega)
  unfold argosyref27_kind.f
  rcases hcase with e | e | e | e | e
  · have hf : formF a = (1, 2, 2, true) := by unfold formF scene_formed.f; rw [e]; rfl
    rw [hf]
    refine ⟨?_, by rw [e]; decide, by decide, by decide⟩
    simp only [argosyref27_kind.l0, t0, t1, t2, t3, t4, e]
    rfl
  · have hf : formF a = (2, 0, 70, true) := by unfold formF scene_formed.f; rw [e]; rfl
    rw [hf]
    refine ⟨?_, by rw [e]; decide, by decide, by decide⟩
    simp only [argosyref27_kind.l0, w1, t0, t1, t2, t3, t4, e]
    rfl
  · have hf : formF a = (3, 0, 0, true) := by unfold formF scene_formed.f; rw [e]; rfl
    rw [hf]
    refine ⟨?_, by rw [e]; decide, by decide, by decide⟩
    simp only [argosyref27_kind.l0, w1, w2, t0, t1, t2, t3, t4, e]
    rfl
  · have hf : formF a = (4, 1, 1, true) := by unfold formF scene_formed.f; rw [e]; rfl
    rw [hf]
    refine ⟨?_, by rw [e]; decide, by decide, by decide⟩
    simp only [argosyref27_kind.l0, w1, w2, w3, t0, t1, t2, t3, t4, e]
    rfl
  · have hf : formF a = (5, 1, 1, true) := by unfold formF scene_formed.f; rw [e]; rfl
    rw [hf]
    refine ⟨?_, by rw [e]; decide, by decide, by decide⟩
    simp only [argosyref27_kind.l0, w1, w2, w3, w4, t0, t1, t2, t3, t4, e]
    rfl
theorem form_mo0 (a : ByteArray) : 0 ≤ (formF a).2.2.1 := by
  unfold formF scene_formed.f
  repeat' split
  all_goals first | (simp; done) | (simp_all; done) | skip

/-! ### Running over pieces -/
def finR (sz : Int) : RS × Option (Int × Int) → List S39 × Int × Int
  | (_, some (a, e)) => ([], a, e)
  | (r, none) => if r.op = true then ([], sz, 10) else (r.out, sz, 0)
theorem runP_cons {σ : Type} (step : σ → ByteArray × Int → σ × Bool) (st : σ) (p : ByteArray × Int) (ps : List (ByteArray × Int)) : runP step st (p :: ps) = if (step st p).2 = true then runP step (step st p).1 ps else ((step st p).1, false) := rfl
theorem run_ok {s s1 : RS} {p : ByteArray × Int} {ps : List (ByteArray × Int)} (h : takeF s p.1 = (s1, 0)) : (runP stepR (s, none) (p :: ps)).1 = (runP stepR (s1, none) ps).1 := by
  rw [runP_cons]
  have : stepR (s, none) p = ((s1, none), true) := by unfold stepR; simp only [h]; rfl
  rw [this, if_pos rfl]
theorem run_err {s s1 : RS} {e : Int} {p : ByteArray × Int} {ps : List (ByteArray × Int)} (h : takeF s p.1 = (s1, e)) (he : e ≠ 0) : (runP stepR (s, none) (p :: ps)).1 = (s1, some (p.2, e)) := by
  rw [runP_cons]
  have : stepR (s, none) p = ((s1, some (p.2, e)), false) := by unfold stepR; simp only [h]; rw [if_neg he]
  rw [this, if_neg (by simp)]
theorem semi_ne {b : List Int} (hb : isB b) : ((strOfNums b).toList != ([59] : List UInt8)) = decide (b ≠ [59]) := by
  have e : ([59] : List UInt8) = (strOfNums [59]).toList := by decide +kernel
  have h59 : isB [59] := by intro z hz; simp at hz; omega
  rw [e]
  by_cases h : b = [59]
  · rw [h]; simp
  · rw [decide_eq_true h, bne_iff_ne]
    exact fun hc => h ((son_toList_inj hb h59).1 hc)
theorem semi_eq {b : List Int} (hb : isB b) : ((strOfNums b).toList = ([59] : List UInt8)) ↔ b = [59] := by
  have e : ([59] : List UInt8) = (strOfNums [59]).toList := by decide +kernel
  have h59 : isB [59] := by intro z hz; simp at hz; omega
  rw [e]
  exact son_toList_inj hb h59

theorem rd_S {P : List (List Int × Int)} {i : Nat} {p : List Int × Int} {rest : List (List Int × Int)} (h : P.drop i = p :: rest) : rd_T54 (toS P) (i : Int) = ⟨strOfNums p.1, p.2⟩ ∧ i < P.length := by
  have hi : i < P.length := by
    refine Decidable.of_not_not fun hn => ?_
    rw [List.drop_eq_nil_of_le (by omega)] at h
    cases h
  refine ⟨?_, hi⟩
  have e : P[i]? = some p := by
    have := congrArg (fun l => l[0]?) h
    simpa using this
  unfold rd_T54 toS
  rw [Int.toNat_natCast, List.getD_eq_getElem?_getD, List.getElem?_map, e]
  rfl
theorem drop_next {α : Type} {P : List α} {i : Nat} {p : α} {rest : List α} (h : P.drop i = p :: rest) : P.drop (i + 1) = rest := by
  have := congrArg List.tail h
  simpa [List.tail_drop] using this
theorem drop_none {α : Type} {P : List α} {i : Nat} (h : P.drop i = []) : P.length ≤ i := List.drop_eq_nil_iff.1 h
theorem mv_is {w : ByteArray} {s : RS} {c : Bool} (hc : c = decide (s.kd = 2)) (hn : s.kd ≠ 2 → s.nums.length ≤ 2) : mvF s = ⟨s.kd, (moveT c s.nums).1, (moveT c s.nums).2.1, (moveT c s.nums).2.2⟩ := by
  unfold mvF moveT
  by_cases h : s.kd = 2
  · rw [if_pos h, hc, decide_eq_true h, if_pos rfl]
  · have := hn h
    rw [if_neg h, hc, decide_eq_false h]
    simp only [Bool.false_eq_true, if_false]
    by_cases h2 : s.nums.length = 2
    · rw [if_pos h2, if_pos (by omega)]
    · rw [if_neg h2]
      by_cases h1 : s.nums.length = 1
      · rw [if_pos h1, if_neg (by omega)]
      · rw [if_neg h1, if_neg (by omega)]
        have h0 : s.nums = [] := List.eq_nil_of_length_eq_zero (by omega)
        rw [h0]
        rfl
mutual
theorem rl0 {xs : List Int} (hl : xs.length < 1000000) (P : List (List Int × Int)) (hP : ∀ q ∈ P, isB q.1) (hPl : P.length < 1000000000) (sz : Int) (hsz : sz = (xs.length : Int)) : ∀ (Q : List (List Int × Int)) (i k : Nat) (out : List S39) (kd le mo : Int), P.drop i = Q → 3 * Q.length + 70 ≤ k → out.length ≤ 1000 →
    argosyref27_Read.l0 k (strOfNums xs) (toS P) out (i : Int) = some (finR sz (runP stepR (⟨out, false, kd, le, mo, []⟩, none) (mapP Q)).1)
  | [], i, k, out, kd, le, mo, hQ, hk, ho => by
    obtain ⟨k, rfl⟩ : ∃ m, k = m + 1 := ⟨k - 1, by omega⟩
    have hPi := drop_none hQ
    rw [argosyref27_Read.l0, if_neg (by simp [toS]; omega), son_size, ← hsz]
    rfl
  | p :: Q, i, k, out, kd, le, mo, hQ, hk, ho => by
    obtain ⟨k, rfl⟩ : ∃ m, k = m + 1 := ⟨k - 1, by omega⟩
    obtain ⟨hr, hi⟩ := rd_S hQ
    have hQ' := drop_next hQ
    have hlen : (toS P).length = P.length := by simp [toS]
    rw [argosyref27_Read.l0, hlen, if_pos (by omega), if_pos (by omega), hr, want_is, Option.bind_some, w64 (by omega), show (i : Int) + 1 = ((i + 1 : Nat) : Int) from by omega]
    simp only
    have hm : mapP (p :: Q) = (strOfNums p.1, p.2) :: mapP Q := rfl
    rw [hm]
    have ht : takeF ⟨out, false, kd, le, mo, []⟩ (strOfNums p.1) = beginF (formF (strOfNums p.1)) ⟨out, false, kd, le, mo, []⟩ := by unfold takeF; rw [if_pos rfl]
    unfold beginF at ht
    by_cases hf : (formF (strOfNums p.1)).2.2.2 = true
    · have hk2 := kindL 0 _ hf
      rw [if_pos hf] at ht ⊢
      rw [if_neg (by simp only; omega)]
      by_cases h1000 : out.length = 1000
      · rw [if_pos h1000] at ht
        rw [if_pos (by omega), run_err (p := (strOfNums p.1, p.2)) ht (by decide)]
        rfl
      · rw [if_neg h1000] at ht
        rw [if_neg (by omega), run_ok (p := (strOfNums p.1, p.2)) ht]
        exact rl1 hl P hP hPl sz hsz Q (i + 1) k out (strOfNums p.1) p.2 [] hQ' (by simp at hk; omega) (by omega) hf (by simp) (by simp)
    · rw [if_neg hf] at ht ⊢
      rw [if_pos (by decide), run_err (p := (strOfNums p.1, p.2)) ht (by decide)]
      rfl
theorem rl1 {xs : List Int} (hl : xs.length < 1000000) (P : List (List Int × Int)) (hP : ∀ q ∈ P, isB q.1) (hPl : P.length < 1000000000) (sz : Int) (hsz : sz = (xs.length : Int)) : ∀ (Q : List (List Int × Int)) (i k : Nat) (out : List S39) (w : ByteArray) (at_ : Int) (nums : List Int), P.drop i = Q → 3 * Q.length + 72 ≤ k → out.length < 1000 → (formF w).2.2.2 = true → (nums.length : Int) ≤ (formF w).2.2.1 ∨ nums = [] → nums.length ≤ 70 →
    argosyref27_Read.l1 k (strOfNums xs) (toS P) out (i : Int) (formF w).2.1 (formF w).2.2.1 nums w at_ = some (finR sz (runP stepR (⟨out, true, (formF w).1, (formF w).2.1, (formF w).2.2.1, nums⟩, none) (mapP Q)).1)
  | [], i, k, out, w, at_, nums, hQ, hk, ho, hf, hn, hn7 => by
    obtain ⟨k, rfl⟩ : ∃ m, k = m + 2 := ⟨k - 2, by omega⟩
    have hPi := drop_none hQ
    have hlen : (toS P).length = P.length := by simp [toS]
    rw [show k + 2 = (k + 1) + 1 from rfl, argosyref27_Read.l1, hlen, if_neg (by omega), argosyref27_Read.j2, if_neg (by decide), hlen, if_pos (by omega), son_size, ← hsz]
    rfl
  | p :: Q, i, k, out, w, at_, nums, hQ, hk, ho, hf, hn, hn7 => by
    obtain ⟨k, rfl⟩ : ∃ m, k = m + 2 := ⟨k - 2, by omega⟩
    obtain ⟨hr, hi⟩ := rd_S hQ
    have hQ' := drop_next hQ
    have hlen : (toS P).length = P.length := by simp [toS]
    have hpB : isB p.1 := hP p (List.mem_of_mem_drop (hQ ▸ List.mem_cons_self))
    obtain ⟨hk1, hk2, hk3, hk4⟩ := kindL (k - 7) w hf
    rw [show k - 7 + 7 = k from by simp at hk; omega] at hk1
    have hmo := form_mo w
    have hm : mapP (p :: Q) = (strOfNums p.1, p.2) :: mapP Q := rfl
    rw [hm, show k + 2 = (k + 1) + 1 from rfl, argosyref27_Read.l1, hlen, if_pos (by omega), if_pos (by omega), argosyref27_Read.j2, hlen, hr]
    simp only
    rw [semi_ne hpB]
    have htk : takeF ⟨out, true, (formF w).1, (formF w).2.1, (formF w).2.2.1, nums⟩ (strOfNums p.1) = if p.1 = [59] then ((shutF ⟨out, true, (formF w).1, (formF w).2.1, (formF w).2.2.1, nums⟩).1, if (shutF ⟨out, true, (formF w).1, (formF w).2.1, (formF w).2.2.1, nums⟩).2 = true then 0 else 10) else if (numZ p.1).2 = true ∧ (nums.length : Int) < (formF w).2.2.1 then (⟨out, true, (formF w).1, (formF w).2.1, (formF w).2.2.1, nums ++ [(numZ p.1).1]⟩, 0) else (⟨out, true, (formF w).1, (formF w).2.1, (formF w).2.2.1, nums⟩, 10) := by
      unfold takeF
      rw [if_neg (by simp), numberF_is hpB]
      simp only [semi_eq hpB]
    by_cases h59 : p.1 = [59]
    · rw [if_pos h59] at htk
      rw [if_neg (by simp [h59]), if_neg (by omega)]
      unfold shutF at htk
      simp only at htk
      by_cases hle : (nums.length : Int) < (formF w).2.1
      · rw [if_pos hle] at htk
        simp only [Bool.false_eq_true, if_false] at htk
        rw [if_pos hle, if_pos (by omega), if_pos (by omega), run_err (p := (strOfNums p.1, p.2)) htk (by decide)]
        rfl
      · rw [if_neg hle] at htk
        simp only [if_true] at htk
        have hmv := mv_is (w := w) (s := ⟨out, true, (formF w).1, (formF w).2.1, (formF w).2.2.1, nums⟩) hk2 (fun e => by
          have := hk3 e
          rcases hn with hn | hn
          · show nums.length ≤ 2; omega
          · rw [hn]; simp)
        rw [if_neg hle, run_ok (p := (strOfNums p.1, p.2)) htk]
        have hmf : argosyref27_move.f k w nums = some ((formF w).1, moveT (w.toList == ([99, 114, 97, 115, 104] : List UInt8)) nums) := by unfold argosyref27_move.f; rw [hk1, Option.bind_some]
        rw [hmf, Option.bind_some, if_pos (by omega), w64 (by omega), show (i : Int) + 1 = ((i + 1 : Nat) : Int) from by omega, hmv]
        exact rl0 hl P hP hPl sz hsz Q (i + 1) k _ _ _ _ hQ' (by simp at hk; omega) (by simp; omega)
    · rw [if_neg h59] at htk
      rw [if_pos (by simpa using h59), if_pos (by omega), if_pos (by omega), rNumber_is hpB (by simp at hk; omega), Option.bind_some]
      by_cases hok : (numZ p.1).2 = true
      · rw [if_pos hok]
        by_cases hmm : (nums.length : Int) = (formF w).2.2.1
        · rw [if_neg (fun h => by have := h.2; omega)] at htk
          rw [if_pos hmm, run_err (p := (strOfNums p.1, p.2)) htk (by decide)]
          rfl
        · have hlt : (nums.length : Int) < (formF w).2.2.1 := by
            rcases hn with hn | hn
            · omega
            · have hm0 : 0 ≤ (formF w).2.2.1 := form_mo0 w
              rw [hn] at hmm ⊢
              simp at hmm ⊢
              omega
          rw [if_pos ⟨hok, hlt⟩] at htk
          rw [if_neg hmm, if_pos (by omega), run_ok (p := (strOfNums p.1, p.2)) htk, w64 (by omega), show (i : Int) + 1 = ((i + 1 : Nat) : Int) from by omega]
          have hke : k = k := rfl
          exact rl1 hl P hP hPl sz hsz Q (i + 1) k out w at_ _ hQ' (by simp at hk; omega) ho hf (.inl (by simp; omega)) (by simp; omega)
      · rw [if_neg (fun h => hok h.1)] at htk
        rw [if_neg hok, run_err (p := (strOfNums p.1, p.2)) htk (by decide)]
        rfl
end

/-! ### The moves that a text tells -/
def r0Z : RS := ⟨[], false, 0, 0, 0, []⟩
def piecesL (xs : List Int) : List (List Int × Int) := pcL xs xs.length 0 false (-1)
def readZ (xs : List Int) : List S39 × Int × Int :=
  if (xs.length : Int) > 65536 then ([], 0, 5)
  else if badL xs xs.length 0 ≥ 0 then ([], badL xs xs.length 0, 4)
  else finR (xs.length : Int) (runP stepR (r0Z, none) (mapP (piecesL xs))).1
theorem Read_is {xs : List Int} (hx : isB xs) : scene_Read.f (strOfNums xs) = some (readZ xs) := by
  unfold scene_Read.f readF readZ
  rw [son_size, badG_is hx _ _ (Nat.zero_le _)]
  congr 1
  have hp : pcG (strOfNums xs) clsK xs.length 0 false (-1) = mapP (piecesL xs) := pcG_is hx _ _ 0 false (-1) (by omega) (by omega) (by omega)
  rw [hp]
  unfold r0Z
  by_cases h1 : (xs.length : Int) > 65536
  · rw [if_pos h1, if_pos h1]
  rw [if_neg h1, if_neg h1]
  by_cases h2 : badL xs xs.length 0 ≥ 0
  · rw [if_pos h2, if_pos h2]
  rw [if_neg h2, if_neg h2]
  rcases (runP stepR (⟨[], false, 0, 0, 0, []⟩, none) (mapP (piecesL xs))).1 with ⟨r, _ | ⟨a, e⟩⟩ <;> rfl

/-! ### The document reads -/
theorem endL_len (xs : List Int) (fr : Int) (e : Nat) : (endL xs fr e).length ≤ 1 := by
  unfold endL
  split <;> simp
theorem pcL_len (xs : List Int) : ∀ (d p : Nat) (rm : Bool) (fr : Int), (pcL xs d p rm fr).length ≤ 2 * d + 1
  | 0, p, rm, fr => by have := endL_len xs fr xs.length; simp only [pcL]; omega
  | d + 1, p, rm, fr => by
    have ih := fun rm fr => pcL_len xs d (p + 1) rm fr
    have he := endL_len xs fr p
    have he2 := endL_len xs fr xs.length
    simp only [pcL]
    split
    · split
      · have := ih (gb xs p != 10) fr; omega
      · split
        · have := ih true (-1); simp; omega
        · split
          · have := ih false (-1); simp; omega
          · split
            · have := ih false (-1); simp; omega
            · have := ih false (if fr < 0 then (p : Int) else fr); omega
    · omega
theorem rRead_is {xs : List Int} (hx : isB xs) {k : Nat} (hk : 1000000 ≤ k) : argosyref27_Read.f k (strOfNums xs) = some (readZ xs) := by
  unfold argosyref27_Read.f readZ
  rw [son_size]
  by_cases h1 : (xs.length : Int) > 65536
  · rw [if_pos h1, if_pos h1]
  rw [if_neg h1, if_neg h1, rBad_is hx (by omega) (by omega), Option.bind_some]
  by_cases h2 : badL xs xs.length 0 ≥ 0
  · rw [if_pos h2, if_pos h2]
  rw [if_neg h2, if_neg h2, rPieces_is hx (by omega) (by omega), Option.bind_some]
  have hpl := pcL_len xs xs.length 0 false (-1)
  exact rl0 (by omega) (piecesL xs) (pcL_isB hx _ _ _ _) (by unfold piecesL; omega) _ rfl (piecesL xs) 0 k [] 0 0 0 rfl (by unfold piecesL; omega) (by simp)

/-! ### Same moves -/
theorem Same39_loop (a : List S39) (hal : a.length ≤ 1000000) (h3 : ∀ m ∈ a, m.f3.length ≤ 1000) : ∀ (d i k : Nat), a.length = i + d → d + 1010 ≤ k → argosyref27_Same.l0 k a a (i : Int) = some true
  | 0, i, k, hd, hk => by
    obtain ⟨k, rfl⟩ : ∃ m, k = m + 1 := ⟨k - 1, by omega⟩
    rw [argosyref27_Same.l0, if_neg (by omega)]
  | d + 1, i, k, hd, hk => by
    obtain ⟨k, rfl⟩ : ∃ m, k = m + 1 := ⟨k - 1, by omega⟩
    have hi : i < a.length := by omega
    have hm : rd_T39 a (i : Int) ∈ a := by
      unfold rd_T39
      rw [Int.toNat_natCast, List.getD_eq_getElem?_getD, List.getElem?_eq_getElem hi]
      exact List.getElem_mem hi
    have := h3 _ hm
    rw [argosyref27_Same.l0, if_pos (by omega), if_pos (by omega), if_pos (by omega), if_pos rfl, if_pos rfl, if_pos rfl, Same_is (by omega) (by omega), Option.bind_some, decide_eq_true rfl, if_pos rfl, w64 (by omega), show (i : Int) + 1 = ((i + 1 : Nat) : Int) from by omega]
    exact Same39_loop a hal h3 d (i + 1) k (by omega) (by omega)
theorem Same39_is {a : List S39} (hal : a.length ≤ 1000000) (h3 : ∀ m ∈ a, m.f3.length ≤ 1000) {k : Nat} (hk : a.length + 1010 ≤ k) : argosyref27_Same.f k a a = some true := by
  unfold argosyref27_Same.f
  rw [if_pos rfl]
  exact Same39_loop a hal h3 a.length 0 k (by omega) hk

/-! ### What a reader's state keeps -/
structure InvZ (s : RS) : Prop where
  inv : InvR s
  l3 : ∀ m ∈ s.out, m.f3.length ≤ 70
theorem r0Z_inv : InvZ r0Z := ⟨⟨by simp [r0Z], by simp [r0Z], by simp [r0Z], by simp [r0Z]⟩, by simp [r0Z]⟩
theorem takeF_out (s : RS) (a : ByteArray) : (takeF s a).1.out = s.out ∨ (takeF s a).1.out = s.out ++ [mvF s] := by
  unfold takeF beginF shutF
  repeat' split
  all_goals first | exact .inl rfl | exact .inr rfl
theorem mvF_l3 (s : RS) (h : s.nums.length ≤ 70) : (mvF s).f3.length ≤ 70 := by
  unfold mvF
  repeat' split
  all_goals simp
  exact h
theorem takeF_invZ (s : RS) (a : ByteArray) (h : InvZ s) : InvZ (takeF s a).1 := by
  refine ⟨takeF_inv s a h.inv, ?_⟩
  rcases takeF_out s a with e | e
  · rw [e]; exact h.l3
  · rw [e]
    intro m hm
    rcases List.mem_append.1 hm with hm | hm
    · exact h.l3 m hm
    · simp at hm
      rw [hm]
      exact mvF_l3 s h.inv.nums
theorem run_inv : ∀ (ps : List (ByteArray × Int)) (s : RS), InvZ s → InvZ (runP stepR (s, none) ps).1.1
  | [], s, h => h
  | p :: ps, s, h => by
    have h1 := takeF_invZ s p.1 h
    obtain ⟨s1, e, hT⟩ : ∃ s1 e, takeF s p.1 = (s1, e) := ⟨_, _, rfl⟩
    rw [hT] at h1
    by_cases he : e = 0
    · subst he
      rw [run_ok hT]
      exact run_inv ps s1 h1
    · rw [run_err hT he]
      exact h1
theorem readZ_out (xs : List Int) : (readZ xs).1.length ≤ 1000 ∧ ∀ m ∈ (readZ xs).1, m.f3.length ≤ 70 := by
  unfold readZ
  split
  · simp
  · split
    · simp
    · have h := run_inv (mapP (piecesL xs)) r0Z r0Z_inv
      rcases hr : (runP stepR (r0Z, none) (mapP (piecesL xs))).1 with ⟨r, _ | ⟨a, e⟩⟩
      · rw [hr] at h
        simp only [finR]
        split
        · simp
        · exact ⟨h.inv.out, h.l3⟩
      · simp [finR]

/-! ### The examples -/
theorem lv1 : scene_Read.f (⟨#[116, 105, 99, 107, 32, 48, 32, 45, 51, 59, 32, 99, 114, 97, 115, 104, 32, 49, 32, 50, 32, 59, 111, 112, 101, 110, 59, 32, 35, 32, 101, 110, 100]⟩ : ByteArray) = some ([(⟨1, 0, (-3), ([] : List Int)⟩ : S39), (⟨2, 0, 0, (([1, 2] : List Int))⟩ : S39), (⟨3, 0, 0, ([] : List Int)⟩ : S39)], 33, 0) := by kernel_rfl
theorem lv2 : scene_Read.f (⟨#[116, 105, 99, 107, 32, 48, 59]⟩ : ByteArray) = some ([], 6, 10) := by kernel_rfl
theorem lv3 : scene_Read.f (⟨#[97, 114, 109, 32, 48, 49, 59]⟩ : ByteArray) = some ([], 4, 10) := by kernel_rfl
theorem lv4 : scene_Number.f (⟨#[45, 49, 50]⟩ : ByteArray) = some (-12, true) := by kernel_rfl
theorem lives_is {k : Nat} (hk : 1100 ≤ k) : argosylaw27_lives.f k = some true := by
  unfold argosylaw27_lives.f
  rw [lv1, Option.bind_some, lv2, Option.bind_some, lv3, Option.bind_some, lv4, Option.bind_some]
  simp only
  rw [Same39_is (by simp) (by intro m hm; simp at hm; rcases hm with rfl | rfl | rfl <;> simp) (by simp; omega), Option.bind_some]
  rfl

theorem SceneReads : argosylaw27_SceneReads.Pure := by
  intro a hw
  refine ⟨2000000, ?_⟩
  obtain ⟨k, hk⟩ : ∃ k : Nat, k = 2000000 := ⟨_, rfl⟩
  rw [← hk]
  unfold argosylaw27_SceneReads.f
  rw [lives_is (by omega), Option.bind_some]
  by_cases h1 : (a.size : Int) > 5000
  · rw [if_pos h1]
  · rw [if_neg h1]
    obtain ⟨xs, hxs⟩ : ∃ xs, xs = bytesOf a := ⟨_, rfl⟩
    have hx : isB xs := hxs ▸ bytesOf_isB a
    have ha : a = strOfNums xs := by rw [hxs, son_bytesOf]
    obtain ⟨h2, h3⟩ := readZ_out xs
    rw [ha, Read_is hx, Option.bind_some, rRead_is hx (by omega), Option.bind_some, Same39_is (by omega) (fun m hm => Nat.le_trans (h3 m hm) (by omega)) (by omega), Option.bind_some, if_pos rfl, if_pos rfl, if_pos rfl]

end Go.Proofs.Ytfmbdmkiamedeaa.Pure
