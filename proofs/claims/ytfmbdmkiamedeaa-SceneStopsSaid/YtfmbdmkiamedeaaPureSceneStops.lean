/- What stands ahead of the move in which an error is can be read: cut off behind the last semicolon ahead of the error's place a scene that is no scene for its pieces is one. -/
import Derived.Test.YtfmbdmkiamedeaaPSceneStopsx6
import Derived.Lib.TrimUEq
set_option linter.unusedVariables false
set_option linter.unusedSimpArgs false
namespace Go.Proofs.Ytfmbdmkiamedeaa.Pure
open Go.RowKit Go.Proofs.Ytfmbdmkiamedeaa.PSceneStops Go.Proofs.YtfmbdmkiamedeaaW.PrintWords Go.Proofs.YtfmbdmkiamedeaaW.PrintLast Go.Proofs.YtfmbdmkiamedeaaW.PrintMore

/-! ### Bytes -/
def isB (l : List Int) : Prop := ∀ x ∈ l, 0 ≤ x ∧ x < 256
theorem isB_of_wf {l : List Int} (h : ∀ x ∈ l, (Lit.int .u8 x).wf = true) : isB l := by
  intro x hx
  have := h x hx
  simp [Lit.wf, IntKind.min, IntKind.max, IntKind.bits, IntKind.signed] at this
  omega
theorem i64_of_wf {x : Int} (h : (Lit.int .i64 x).wf = true) : -9223372036854775808 ≤ x ∧ x ≤ 9223372036854775807 := by
  simp [Lit.wf, IntKind.min, IntKind.max, IntKind.bits, IntKind.signed] at h
  omega
theorem toList_loop (s : ByteArray) : ∀ (d i : Nat) (r : List UInt8), s.size - i = d → ByteArray.toList.loop s i r = r.reverse ++ s.data.toList.drop i := by
  intro d
  have hl : s.data.toList.length = s.size := Array.length_toList
  induction d with
  | zero =>
    intro i r h
    unfold ByteArray.toList.loop
    rw [if_neg (by omega), List.drop_eq_nil_of_le (by omega), List.append_nil]
  | succ d ih =>
    intro i r h
    unfold ByteArray.toList.loop
    rw [if_pos (by omega), ih (i + 1) _ (by omega)]
    have hi : i < s.data.toList.length := by omega
    rw [List.drop_eq_getElem_cons hi, List.reverse_cons, List.append_assoc]
    have : s.get! i = s.data.toList[i] := by
      have hs : i < s.size := by omega
      simp [ByteArray.get!, getElem!_pos, hs]
    rw [this]; rfl
theorem bytes_toList (s : ByteArray) : s.toList = s.data.toList := by
  unfold ByteArray.toList
  rw [toList_loop s _ 0 [] rfl]
  simp
theorem bytes_ext {a b : ByteArray} (h : a.toList = b.toList) : a = b := by
  rw [bytes_toList, bytes_toList] at h
  cases a; cases b
  congr 1
  exact Array.toList_inj.1 h
theorem son_data (xs : List Int) : (strOfNums xs).data.toList = xs.map fun n => UInt8.ofNat n.toNat := by simp [strOfNums]
theorem son_size (xs : List Int) : (strOfNums xs).size = xs.length := by simp [strOfNums, ByteArray.size]
theorem son_append (xs ys : List Int) : strOfNums (xs ++ ys) = strOfNums xs ++ strOfNums ys := by
  apply bytes_ext
  rw [bytes_toList, bytes_toList, son_data]
  simp [strOfNums]
theorem son_nil : strOfNums [] = (⟨#[]⟩ : ByteArray) := rfl
theorem u8_inj {a b : Int} (ha : 0 ≤ a ∧ a < 256) (hb : 0 ≤ b ∧ b < 256) (h : UInt8.ofNat a.toNat = UInt8.ofNat b.toNat) : a = b := by
  have := congrArg UInt8.toNat h
  simp [UInt8.toNat_ofNat'] at this
  omega
theorem map_u8_inj : ∀ {xs ys : List Int}, isB xs → isB ys → (xs.map fun n => UInt8.ofNat n.toNat) = (ys.map fun n => UInt8.ofNat n.toNat) → xs = ys
  | [], [], _, _, _ => rfl
  | [], y :: ys, _, _, h => by simp at h
  | x :: xs, [], _, _, h => by simp at h
  | x :: xs, y :: ys, hx, hy, h => by
    simp only [List.map_cons, List.cons.injEq] at h
    rw [u8_inj (hx x (by simp)) (hy y (by simp)) h.1, map_u8_inj (fun z hz => hx z (by simp [hz])) (fun z hz => hy z (by simp [hz])) h.2]
theorem son_inj {xs ys : List Int} (hx : isB xs) (hy : isB ys) (h : strOfNums xs = strOfNums ys) : xs = ys := by
  have := congrArg (fun s : ByteArray => s.data.toList) h
  simp only [son_data] at this
  exact map_u8_inj hx hy this
theorem son_toList_inj {xs ys : List Int} (hx : isB xs) (hy : isB ys) : (strOfNums xs).toList = (strOfNums ys).toList ↔ xs = ys :=
  ⟨fun h => son_inj hx hy (bytes_ext h), fun h => by rw [h]⟩
theorem son_bt {xs : List Int} (hx : isB xs) (i : Int) (h0 : 0 ≤ i) (h : i < xs.length) : bt (strOfNums xs) i = rd xs i := by
  have hi : i.toNat < xs.length := by omega
  unfold bt rd
  rw [dif_pos (by rw [son_size]; exact hi)]
  have hg : (strOfNums xs)[i.toNat]'(by rw [son_size]; exact hi) = UInt8.ofNat (xs[i.toNat]).toNat := by
    show (strOfNums xs).data[i.toNat]'_ = _
    simp [strOfNums]
  rw [hg, List.getD_eq_getElem?_getD, List.getElem?_eq_getElem hi]
  have := hx _ (List.getElem_mem hi)
  simp [UInt8.toNat_ofNat']
  omega
theorem son_extract (xs : List Int) (a b : Nat) : (strOfNums xs).extract a b = strOfNums ((xs.take b).drop a) := by
  apply bytes_ext
  rw [bytes_toList, bytes_toList, son_data]
  simp [strOfNums, ByteArray.data_extract, List.drop_take, List.map_take, List.map_drop, List.extract]
theorem isB_append {xs ys : List Int} (hx : isB xs) (hy : isB ys) : isB (xs ++ ys) := by
  intro z hz
  rcases List.mem_append.1 hz with h | h
  · exact hx z h
  · exact hy z h
theorem isB_take {xs : List Int} (h : isB xs) (n : Nat) : isB (xs.take n) := fun z hz => h z (List.mem_of_mem_take hz)
theorem isB_drop {xs : List Int} (h : isB xs) (n : Nat) : isB (xs.drop n) := fun z hz => h z (List.mem_of_mem_drop hz)
theorem rd_at {xs : List Int} (i : Int) (h0 : 0 ≤ i) (h : i < xs.length) : rd xs i = xs[i.toNat]'(by omega) := by
  unfold rd
  rw [List.getD_eq_getElem?_getD, List.getElem?_eq_getElem (by omega)]; rfl
theorem rd_isB {xs : List Int} (hx : isB xs) (i : Int) (h0 : 0 ≤ i) (h : i < xs.length) : 0 ≤ rd xs i ∧ rd xs i < 256 := by
  rw [rd_at i h0 h]
  exact hx _ (List.getElem_mem _)
theorem w64 {x : Int} (h : -9223372036854775808 ≤ x ∧ x ≤ 9223372036854775807) : wrap64 x = x := by
  unfold wrap64
  omega

/-! ### A string's bytes -/
theorem bytesOf_isB (s : ByteArray) : isB (bytesOf s) := by
  intro x hx
  unfold bytesOf at hx
  obtain ⟨b, _, rfl⟩ := List.mem_map.1 hx
  have := b.toNat_lt
  omega
theorem son_bytesOf (s : ByteArray) : strOfNums (bytesOf s) = s := by
  apply bytes_ext
  rw [bytes_toList, bytes_toList, son_data, bytesOf, List.map_map]
  have : ((fun n : Int => UInt8.ofNat n.toNat) ∘ fun b : UInt8 => (b.toNat : Int)) = id := by
    funext b
    simp
  rw [this, List.map_id]

/-! ### Numbers alike -/
theorem Same_loop (a b : List Int) (hl : a.length = b.length) (ha : a.length ≤ 1152921504606846976) : ∀ (d k i : Nat), i + d = a.length → d < k → argosyref01_Same.l0 k a b (i : Int) = some (decide (a.drop i = b.drop i)) := by
  intro d
  induction d with
  | zero =>
    intro k i hi hk
    obtain ⟨k, rfl⟩ : ∃ m, k = m + 1 := ⟨k - 1, by omega⟩
    simp only [argosyref01_Same.l0]
    rw [if_neg (by omega), List.drop_eq_nil_of_le (by omega), List.drop_eq_nil_of_le (by omega)]
    simp
  | succ d ih =>
    intro k i hi hk
    obtain ⟨k, rfl⟩ : ∃ m, k = m + 1 := ⟨k - 1, by omega⟩
    simp only [argosyref01_Same.l0]
    have h1 : i < a.length := by omega
    have h2 : i < b.length := by omega
    have hra : rd a (i : Int) = a[i] := by rw [rd_at _ (by omega) (by omega)]; rfl
    have hrb : rd b (i : Int) = b[i] := by rw [rd_at _ (by omega) (by omega)]; rfl
    rw [if_pos (by omega), if_pos (by omega), if_pos (by omega), hra, hrb, List.drop_eq_getElem_cons h1, List.drop_eq_getElem_cons h2]
    by_cases h : a[i] = b[i]
    · rw [if_pos h, w64 (by omega), show ((i : Int) + 1) = ((i + 1 : Nat) : Int) from by omega, ih k (i + 1) (by omega) (by omega)]
      rw [h]
      congr 1
      rw [decide_eq_decide]
      simp only [List.cons.injEq, true_and]
    · rw [if_neg h, decide_eq_false]
      simp only [List.cons.injEq]
      exact fun hc => h hc.1
theorem Same_is {k : Nat} {a b : List Int} (ha : a.length ≤ 1152921504606846976) (hk : a.length < k) : argosyref01_Same.f k a b = some (decide (a = b)) := by
  unfold argosyref01_Same.f
  by_cases hl : a.length = b.length
  · rw [if_pos (by omega)]
    have := Same_loop a b hl ha a.length k 0 (by omega) hk
    simpa using this
  · rw [if_neg (by omega)]
    have : a ≠ b := fun h => hl (by rw [h])
    simp [this]

/-! ### The width of a rune -/
def vrune (x : Int) : Prop := 0 ≤ x ∧ x ≤ 1114111 ∧ (x < 55296 ∨ 57343 < x)
instance (x : Int) : Decidable (vrune x) := by unfold vrune; infer_instance
def widG (x : Int) : Int := if vrune x then (if x < 128 then 1 else if x < 2048 then 2 else if x < 65536 then 3 else 4) else 0
theorem widG_bad {x : Int} (h : ¬ vrune x) : widG x = 0 := if_neg h
theorem widG_ok {x : Int} (h : vrune x) : widG x = (if x < 128 then 1 else if x < 2048 then 2 else if x < 65536 then 3 else 4) := if_pos h
theorem widG_zero (x : Int) : widG x = 0 ↔ ¬ vrune x := by
  constructor
  · intro h hv
    rw [widG_ok hv] at h
    split at h
    · omega
    · split at h
      · omega
      · split at h <;> omega
  · exact widG_bad
theorem RuneLen_is {k : Nat} (hk : 1 ≤ k) {x : Int} (h0 : 0 ≤ x) (h1 : x ≤ 1114111) : (utf8_RuneLen.f k x).bind (fun t => some (mx 0 t)) = some (widG x) := by
  obtain ⟨k, rfl⟩ : ∃ m, k = m + 1 := ⟨k - 1, by omega⟩
  unfold utf8_RuneLen.f
  have hmx : ∀ n : Int, 0 ≤ n → mx 0 n = n := fun n hn => by unfold mx; omega
  rw [if_neg (by omega)]
  by_cases a : x ≤ 127
  · rw [if_pos a, Option.bind_some, hmx 1 (by omega), widG_ok (by unfold vrune; omega), if_pos (by omega)]
  rw [if_neg a]
  by_cases b : x ≤ 2047
  · rw [if_pos b, Option.bind_some, hmx 2 (by omega), widG_ok (by unfold vrune; omega), if_neg (by omega), if_pos (by omega)]
  rw [if_neg b]
  by_cases c : 55296 ≤ x
  · rw [if_pos c]
    simp only [utf8_RuneLen.j0]
    by_cases d : x ≤ 57343
    · rw [if_pos (decide_eq_true d), Option.bind_some, widG_bad (by unfold vrune; omega)]
      rfl
    · rw [if_neg (by simpa using d)]
      by_cases e : x ≤ 65535
      · rw [if_pos e, Option.bind_some, hmx 3 (by omega), widG_ok (by unfold vrune; omega), if_neg (by omega), if_neg (by omega), if_pos (by omega)]
      · rw [if_neg e, if_pos h1, Option.bind_some, hmx 4 (by omega), widG_ok (by unfold vrune; omega), if_neg (by omega), if_neg (by omega), if_neg (by omega)]
  · rw [if_neg c]
    simp only [utf8_RuneLen.j0]
    rw [if_neg (by decide), if_pos (by omega), Option.bind_some, hmx 3 (by omega), widG_ok (by unfold vrune; omega), if_neg (by omega), if_neg (by omega), if_pos (by omega)]
theorem Width_is {k : Nat} (hk : 1 ≤ k) (x : Int) : glyph_Width.f k x = some (widG x) := by
  unfold glyph_Width.f
  by_cases a : x < 0
  · rw [if_pos a, widG_bad (by unfold vrune; omega)]
  rw [if_neg a]
  by_cases b : x > 1114111
  · rw [if_pos b, widG_bad (by unfold vrune; omega)]
  rw [if_neg b, show wrap32 x = x from by unfold wrap32; omega]
  exact RuneLen_is hk (by omega) (by omega)

/-! ### A rune's bytes, and what a range over a text reads -/
open Go.Lib (decodeN)
theorem dN_pos (n b0 b1 b2 b3 : Nat) : 1 ≤ (decodeN n b0 b1 b2 b3).2 := by
  unfold decodeN
  repeat' split
  all_goals simp
theorem dN_le (n b0 b1 b2 b3 : Nat) (hn : 1 ≤ n) : (decodeN n b0 b1 b2 b3).2 ≤ n := by
  unfold decodeN
  repeat' split
  all_goals (simp only; omega)
def badN (n b0 b1 b2 b3 : Nat) : Prop := decodeN n b0 b1 b2 b3 = (65533, 1)
instance (n b0 b1 b2 b3 : Nat) : Decidable (badN n b0 b1 b2 b3) := by unfold badN; infer_instance
theorem dN_good (n b0 b1 b2 b3 : Nat) (h0 : b0 < 256) (h : ¬ badN n b0 b1 b2 b3) : vrune ((decodeN n b0 b1 b2 b3).1 : Int) ∧ widG ((decodeN n b0 b1 b2 b3).1 : Int) = ((decodeN n b0 b1 b2 b3).2 : Int) := by
  have key : ∀ (r w : Nat), vrune (r : Int) → (if (r : Int) < 128 then (1 : Int) else if (r : Int) < 2048 then 2 else if (r : Int) < 65536 then 3 else 4) = (w : Int) → vrune (((r, w) : Nat × Nat).1 : Int) ∧ widG (((r, w) : Nat × Nat).1 : Int) = (((r, w) : Nat × Nat).2 : Int) := fun r w h1 h2 => ⟨h1, by rw [widG_ok h1]; exact h2⟩
  unfold badN at h
  revert h
  unfold decodeN
  by_cases c0 : b0 < 128
  · rw [if_pos c0]
    exact fun _ => key _ _ (by unfold vrune; omega) (by rw [if_pos (by omega)]; rfl)
  rw [if_neg c0]
  by_cases c1 : b0 / 32 = 6 ∧ (1 < n ∧ b1 / 64 = 2)
  · rw [if_pos c1]
    by_cases c2 : b0 % 32 * 64 + b1 % 64 ≥ 128
    · rw [if_pos c2]
      exact fun _ => key _ _ (by unfold vrune; omega) (by rw [if_neg (by omega), if_pos (by omega)]; rfl)
    · rw [if_neg c2]; exact fun h => absurd rfl h
  rw [if_neg c1]
  by_cases c2 : b0 / 16 = 14 ∧ (1 < n ∧ b1 / 64 = 2) ∧ (2 < n ∧ b2 / 64 = 2)
  · rw [if_pos c2]
    split
    · rename_i c3
      exact fun _ => key _ _ (by unfold vrune; omega) (by rw [if_neg (by omega), if_neg (by omega), if_pos (by omega)]; rfl)
    · exact fun h => absurd rfl h
  rw [if_neg c2]
  by_cases c3 : b0 / 8 = 30 ∧ (1 < n ∧ b1 / 64 = 2) ∧ (2 < n ∧ b2 / 64 = 2) ∧ (3 < n ∧ b3 / 64 = 2)
  · rw [if_pos c3]
    split
    · rename_i c4
      exact fun _ => key _ _ (by unfold vrune; omega) (by rw [if_neg (by omega), if_neg (by omega), if_neg (by omega)]; rfl)
    · exact fun h => absurd rfl h
  rw [if_neg c3]
  exact fun h => absurd rfl h
theorem dN_fffd (n b0 b1 b2 b3 : Nat) (h0 : b0 < 256) (h1 : b1 < 256) (h2 : b2 < 256) (h3 : b3 < 256) (h : (decodeN n b0 b1 b2 b3).1 = 65533) : ¬ badN n b0 b1 b2 b3 ↔ (3 ≤ n ∧ b0 = 239 ∧ b1 = 191 ∧ b2 = 189) := by
  have key : ∀ (r w : Nat), (((r, w) : Nat × Nat)).1 = 65533 → (¬ ((r, w) : Nat × Nat) = (65533, 1) ↔ w ≠ 1) := fun r w h => by
    simp only at h
    subst h
    simp
  unfold badN
  revert h
  unfold decodeN
  by_cases c0 : b0 < 128
  · rw [if_pos c0]; intro h; rw [key _ _ h]; simp only at h; omega
  rw [if_neg c0]
  by_cases c1 : b0 / 32 = 6 ∧ (1 < n ∧ b1 / 64 = 2)
  · rw [if_pos c1]
    by_cases c2 : b0 % 32 * 64 + b1 % 64 ≥ 128
    · rw [if_pos c2]; intro h; rw [key _ _ h]; simp only at h; omega
    · rw [if_neg c2]; intro h; rw [key _ _ h]; omega
  rw [if_neg c1]
  by_cases c2 : b0 / 16 = 14 ∧ (1 < n ∧ b1 / 64 = 2) ∧ (2 < n ∧ b2 / 64 = 2)
  · rw [if_pos c2]
    split
    · rename_i c3; intro h; rw [key _ _ h]; simp only at h; omega
    · rename_i c3; intro h; rw [key _ _ h]; omega
  rw [if_neg c2]
  by_cases c3 : b0 / 8 = 30 ∧ (1 < n ∧ b1 / 64 = 2) ∧ (2 < n ∧ b2 / 64 = 2) ∧ (3 < n ∧ b3 / 64 = 2)
  · rw [if_pos c3]
    split
    · rename_i c4; intro h; rw [key _ _ h]; simp only at h; omega
    · rename_i c4; intro h; rw [key _ _ h]; omega
  rw [if_neg c3]
  intro h; rw [key _ _ h]; omega
/-- Byte i of a row, 0 beyond its end. -/
def gb (xs : List Int) (i : Nat) : Nat := (xs.getD i 0).toNat
theorem gb_lt {xs : List Int} (hx : isB xs) (i : Nat) : gb xs i < 256 := by
  unfold gb
  rw [List.getD_eq_getElem?_getD]
  by_cases h : i < xs.length
  · rw [List.getElem?_eq_getElem h]
    have := hx _ (List.getElem_mem h)
    simp only [Option.getD_some]
    omega
  · rw [List.getElem?_eq_none (by omega)]
    simp
theorem gb_drop (xs : List Int) (p i : Nat) : gb (xs.drop p) i = gb xs (p + i) := by
  unfold gb
  simp [List.getD_eq_getElem?_getD, List.getElem?_drop]
theorem dec_at {xs : List Int} (hx : isB xs) (p : Nat) : Utf8.decode (strOfNums xs) p = decodeN (xs.length - p) (gb xs p) (gb xs (p + 1)) (gb xs (p + 2)) (gb xs (p + 3)) := by
  rw [Go.Lib.decode_N, son_data, List.length_map]
  have : ∀ i : Nat, ((xs.map fun n => UInt8.ofNat n.toNat).getD i 0).toNat = gb xs i := by
    intro i
    have hl := gb_lt hx i
    have key : ∀ o : Option Int, (o.getD 0).toNat < 256 → ((o.map fun n => UInt8.ofNat n.toNat).getD 0).toNat = (o.getD 0).toNat := by
      intro o ho
      cases o with
      | none => rfl
      | some v =>
        simp only [Option.map_some, Option.getD_some, UInt8.toNat_ofNat'] at ho ⊢
        omega
    unfold gb at hl ⊢
    rw [List.getD_eq_getElem?_getD] at hl
    rw [List.getD_eq_getElem?_getD, List.getD_eq_getElem?_getD, List.getElem?_map]
    exact key _ hl
  rw [this, this, this, this]
/-- What stands at place p: nothing to be read (a broken byte). -/
def badAt (xs : List Int) (p : Nat) : Prop := badN (xs.length - p) (gb xs p) (gb xs (p + 1)) (gb xs (p + 2)) (gb xs (p + 3))
instance (xs : List Int) (p : Nat) : Decidable (badAt xs p) := by unfold badAt; infer_instance
def runeAt (xs : List Int) (p : Nat) : Int := ((decodeN (xs.length - p) (gb xs p) (gb xs (p + 1)) (gb xs (p + 2)) (gb xs (p + 3))).1 : Int)
def widAt (xs : List Int) (p : Nat) : Nat := (decodeN (xs.length - p) (gb xs p) (gb xs (p + 1)) (gb xs (p + 2)) (gb xs (p + 3))).2
theorem widAt_pos (xs : List Int) (p : Nat) : 1 ≤ widAt xs p := dN_pos _ _ _ _ _
theorem widAt_le (xs : List Int) (p : Nat) (h : p < xs.length) : p + widAt xs p ≤ xs.length := by
  have := dN_le (xs.length - p) (gb xs p) (gb xs (p + 1)) (gb xs (p + 2)) (gb xs (p + 3)) (by omega)
  unfold widAt
  omega
theorem good_at {xs : List Int} (hx : isB xs) {p : Nat} (h : ¬ badAt xs p) : vrune (runeAt xs p) ∧ widG (runeAt xs p) = (widAt xs p : Int) := dN_good _ _ _ _ _ (gb_lt hx _) h
theorem dec_rune {xs : List Int} (hx : isB xs) (p : Nat) : (((Utf8.decode (strOfNums xs) p).1 : Nat) : Int) = runeAt xs p := by rw [dec_at hx]; rfl
theorem dec_wid {xs : List Int} (hx : isB xs) (p : Nat) : (Utf8.decode (strOfNums xs) p).2 = widAt xs p := by rw [dec_at hx]; rfl
theorem take3 (xs : List Int) (p : Nat) : ((xs.drop p).take 3 = [239, 191, 189]) ↔ (3 ≤ xs.length - p ∧ xs.getD p 0 = 239 ∧ xs.getD (p + 1) 0 = 191 ∧ xs.getD (p + 2) 0 = 189) := by
  have e : ∀ i, xs.getD (p + i) 0 = (xs.drop p).getD i 0 := fun i => by simp [List.getD_eq_getElem?_getD, List.getElem?_drop]
  have hl : (xs.drop p).length = xs.length - p := by simp
  have e0 := e 0
  rw [Nat.add_zero] at e0
  rw [e0, e 1, e 2, ← hl]
  generalize xs.drop p = ys
  rcases ys with _ | ⟨a, _ | ⟨b, _ | ⟨c, ys⟩⟩⟩ <;> simp
theorem brk_at {xs : List Int} (hx : isB xs) (p : Nat) (hp : p ≤ xs.length) (r : Nat) (hr : (r : Int) = runeAt xs p) : brk (strOfNums xs) (p, r) = decide (badAt xs p) := by
  unfold brk glyph_broken.f
  simp only
  by_cases h : (r : Int) = 65533
  · have hk := dN_fffd (xs.length - p) (gb xs p) (gb xs (p + 1)) (gb xs (p + 2)) (gb xs (p + 3)) (gb_lt hx _) (gb_lt hx _) (gb_lt hx _) (gb_lt hx _) (by have := hr.symm.trans h; unfold runeAt at this; omega)
    have hsz := son_size xs
    rw [if_pos h, if_pos (by omega), if_pos (by omega), Int.toNat_natCast, son_extract, hsz, List.take_length]
    have e3 : (⟨#[239, 191, 189]⟩ : ByteArray) = strOfNums [239, 191, 189] := rfl
    have hs3 : (strOfNums [239, 191, 189]).size = 3 := rfl
    have i3 : isB [239, 191, 189] := by intro x hx; simp at hx; omega
    have hgb : ∀ i v, v < 256 → 0 ≤ v → (gb xs i = v.toNat ↔ (xs.getD i 0) = v) := by
      intro i v h1 h2
      unfold gb
      by_cases hi : i < xs.length
      · rw [List.getD_eq_getElem?_getD, List.getElem?_eq_getElem hi]
        have := hx _ (List.getElem_mem hi)
        simp only [Option.getD_some]
        omega
      · rw [List.getD_eq_getElem?_getD, List.getElem?_eq_none (by omega)]
        simp only [Option.getD_none]
        omega
    have hz : (strOfNums (xs.drop p)).size = xs.length - p := by rw [son_size]; simp
    have ht := take3 xs p
    rw [← hgb p 239 (by omega) (by omega), ← hgb (p + 1) 191 (by omega) (by omega), ← hgb (p + 2) 189 (by omega) (by omega)] at ht
    have hall := hk.trans ht.symm
    unfold strings_HasPrefix.f stringslite_HasPrefix.f
    rw [e3, hs3, hz]
    by_cases hc : ((xs.length - p : Nat) : Int) ≥ ((3 : Nat) : Int)
    · rw [if_pos hc, if_pos (by omega), if_pos (by omega), Int.toNat_natCast, son_extract]
      simp only [Option.bind_some, Option.getD_some, List.drop_zero]
      rw [Bool.eq_iff_iff, Bool.not_eq_true', beq_eq_false_iff_ne, decide_eq_true_iff, Ne, son_toList_inj (isB_take (isB_drop hx _) _) i3, ← hall, Decidable.not_not]
      rfl
    · rw [if_neg hc]
      simp only [Option.bind_some, Option.getD_some, Bool.not_false]
      rw [eq_comm, decide_eq_true_iff]
      refine Decidable.of_not_not fun hb => ?_
      have := (hk.1 hb).1
      omega
  · rw [if_neg h, Option.getD_some, eq_comm, decide_eq_false_iff_not]
    intro hb
    refine h (hr.trans ?_)
    unfold badAt badN at hb
    unfold runeAt
    rw [hb]
    rfl

/-! ### The loops over a text -/
def goodL (xs : List Int) : Nat → Nat → List Int
  | 0, _ => []
  | d + 1, p => if p < xs.length then (if badAt xs p then [] else runeAt xs p :: goodL xs d (p + widAt xs p)) else []
def badL (xs : List Int) : Nat → Nat → Int
  | 0, _ => -1
  | d + 1, p => if p < xs.length then (if badAt xs p then (p : Int) else badL xs d (p + widAt xs p)) else -1
theorem goodL_len (xs : List Int) : ∀ d p, (goodL xs d p).length ≤ d
  | 0, p => by simp [goodL]
  | d + 1, p => by
    rw [goodL]
    split
    · split
      · simp
      · have := goodL_len xs d (p + widAt xs p)
        simp; omega
    · simp
theorem goodL_v {xs : List Int} (hx : isB xs) : ∀ d p, ∀ r ∈ goodL xs d p, vrune r
  | 0, p => by simp [goodL]
  | d + 1, p => by
    rw [goodL]
    split
    · split
      · simp
      · rename_i hb
        intro r hr
        rcases List.mem_cons.1 hr with rfl | hr
        · exact (good_at hx hb).1
        · exact goodL_v hx d _ r hr
    · simp
theorem badG_is {xs : List Int} (hx : isB xs) : ∀ d p, p ≤ xs.length → badG (strOfNums xs) d p = badL xs d p
  | 0, p, _ => rfl
  | d + 1, p, hp => by
    rw [badG, badL, son_size]
    by_cases h : p < xs.length
    · rw [if_pos h, if_pos h, brk_at hx p hp _ (dec_rune hx p), dec_wid hx]
      by_cases hb : badAt xs p
      · rw [if_pos (decide_eq_true hb), if_pos hb]
      · rw [if_neg (by simpa using hb), if_neg hb, badG_is hx d _ (widAt_le xs p h)]
    · rw [if_neg h, if_neg h]
theorem badL_range (xs : List Int) : ∀ d p, badL xs d p = -1 ∨ (0 ≤ badL xs d p ∧ badL xs d p < xs.length)
  | 0, p => .inl rfl
  | d + 1, p => by
    rw [badL]
    split
    · split
      · exact .inr ⟨by omega, by omega⟩
      · exact badL_range xs d _
    · exact .inl rfl

/-! ### A rune is told by its own bytes alone -/
theorem dN_local (n n' b0 b1 b2 b3 c1 c2 c3 : Nat) (h : ¬ badN n b0 b1 b2 b3) (hw : (decodeN n b0 b1 b2 b3).2 ≤ n') (e1 : 2 ≤ (decodeN n b0 b1 b2 b3).2 → c1 = b1) (e2 : 3 ≤ (decodeN n b0 b1 b2 b3).2 → c2 = b2) (e3 : 4 ≤ (decodeN n b0 b1 b2 b3).2 → c3 = b3) : decodeN n' b0 c1 c2 c3 = decodeN n b0 b1 b2 b3 := by
  unfold badN at h
  revert h hw e1 e2 e3
  generalize hD : decodeN n b0 b1 b2 b3 = D
  unfold decodeN at hD
  by_cases a0 : b0 < 128
  · rw [if_pos a0] at hD
    subst hD
    intro _ _ _ _ _
    unfold decodeN
    rw [if_pos a0]
  rw [if_neg a0] at hD
  by_cases a1 : b0 / 32 = 6 ∧ (1 < n ∧ b1 / 64 = 2)
  · rw [if_pos a1] at hD
    split at hD
    · rename_i g
      subst hD
      intro _ hw e1 _ _
      simp only at hw e1
      have e1 := e1 (by omega)
      subst e1
      unfold decodeN
      rw [if_neg a0, if_pos (by omega), if_pos g]
    · subst hD; intro h; exact absurd rfl h
  rw [if_neg a1] at hD
  by_cases a2 : b0 / 16 = 14 ∧ (1 < n ∧ b1 / 64 = 2) ∧ (2 < n ∧ b2 / 64 = 2)
  · rw [if_pos a2] at hD
    split at hD
    · rename_i g
      subst hD
      intro _ hw e1 e2 _
      simp only at hw e1 e2
      have e1 := e1 (by omega)
      have e2 := e2 (by omega)
      subst e1 e2
      unfold decodeN
      rw [if_neg a0, if_neg (by omega), if_pos (by omega), if_pos g]
    · subst hD; intro h; exact absurd rfl h
  rw [if_neg a2] at hD
  by_cases a3 : b0 / 8 = 30 ∧ (1 < n ∧ b1 / 64 = 2) ∧ (2 < n ∧ b2 / 64 = 2) ∧ (3 < n ∧ b3 / 64 = 2)
  · rw [if_pos a3] at hD
    split at hD
    · rename_i g
      subst hD
      intro _ hw e1 e2 e3
      simp only at hw e1 e2 e3
      have e1 := e1 (by omega)
      have e2 := e2 (by omega)
      have e3 := e3 (by omega)
      subst e1 e2 e3
      unfold decodeN
      rw [if_neg a0, if_neg (by omega), if_neg (by omega), if_pos (by omega), if_pos g]
    · subst hD; intro h; exact absurd rfl h
  rw [if_neg a3] at hD
  subst hD
  intro h; exact absurd rfl h
theorem loc {xs ys : List Int} {p q : Nat} (h : ¬ badAt xs p) (hl : q + widAt xs p ≤ ys.length) (he : ∀ i, i < widAt xs p → gb ys (q + i) = gb xs (p + i)) : ¬ badAt ys q ∧ runeAt ys q = runeAt xs p ∧ widAt ys q = widAt xs p := by
  have hw := widAt_pos xs p
  have e0 : gb ys q = gb xs p := he 0 hw
  have e := dN_local (xs.length - p) (ys.length - q) (gb xs p) (gb xs (p + 1)) (gb xs (p + 2)) (gb xs (p + 3)) (gb ys (q + 1)) (gb ys (q + 2)) (gb ys (q + 3)) h (by unfold widAt at hl; omega) (fun g => he 1 (by unfold widAt; omega)) (fun g => he 2 (by unfold widAt; omega)) (fun g => he 3 (by unfold widAt; omega))
  rw [← e0] at e
  have e' : decodeN (ys.length - q) (gb ys q) (gb ys (q + 1)) (gb ys (q + 2)) (gb ys (q + 3)) = decodeN (xs.length - p) (gb xs p) (gb xs (p + 1)) (gb xs (p + 2)) (gb xs (p + 3)) := by rw [← e0]; exact e
  refine ⟨?_, ?_, ?_⟩
  · unfold badAt badN at h ⊢
    rw [e']
    exact h
  · unfold runeAt
    rw [e']
  · unfold widAt
    rw [e']
theorem gb_take (xs : List Int) (c i : Nat) (h : i < c) : gb (xs.take c) i = gb xs i := by
  unfold gb
  simp [List.getD_eq_getElem?_getD, List.getElem?_take, h]
theorem gb_left (xs ys : List Int) (i : Nat) (h : i < xs.length) : gb (xs ++ ys) i = gb xs i := by
  unfold gb
  simp [List.getD_eq_getElem?_getD, List.getElem?_append_left h]
theorem gb_right (xs ys : List Int) (i : Nat) : gb (xs ++ ys) (xs.length + i) = gb ys i := by
  unfold gb
  simp [List.getD_eq_getElem?_getD, List.getElem?_append_right]
theorem badAt_drop (xs : List Int) (c : Nat) : badAt (xs.drop c) 0 ↔ badAt xs c := by
  unfold badAt
  rw [gb_drop, gb_drop, gb_drop, gb_drop, List.length_drop]
  rfl
theorem goodL_end (xs : List Int) (d p : Nat) (h : ¬ p < xs.length) : goodL xs d p = [] := by cases d <;> simp [goodL, h]
theorem badL_end (xs : List Int) (d p : Nat) (h : ¬ p < xs.length) : badL xs d p = -1 := by cases d <;> simp [badL, h]

theorem at_right (xs ys : List Int) (q : Nat) : (badAt (xs ++ ys) (xs.length + q) ↔ badAt ys q) ∧ runeAt (xs ++ ys) (xs.length + q) = runeAt ys q ∧ widAt (xs ++ ys) (xs.length + q) = widAt ys q := by
  have e : ∀ i, gb (xs ++ ys) (xs.length + q + i) = gb ys (q + i) := fun i => by rw [Nat.add_assoc]; exact gb_right xs ys (q + i)
  have e0 := e 0
  rw [Nat.add_zero, Nat.add_zero] at e0
  have hl : (xs ++ ys).length - (xs.length + q) = ys.length - q := by simp; omega
  unfold badAt runeAt widAt
  rw [e0, e 1, e 2, e 3, hl]
  exact ⟨Iff.rfl, rfl, rfl⟩
theorem good_right (xs ys : List Int) : ∀ (d q : Nat), goodL (xs ++ ys) d (xs.length + q) = goodL ys d q ∧ (badL (xs ++ ys) d (xs.length + q) < 0 ↔ badL ys d q < 0)
  | 0, q => ⟨rfl, Iff.rfl⟩
  | d + 1, q => by
    obtain ⟨a1, a2, a3⟩ := at_right xs ys q
    rw [goodL, goodL, badL, badL]
    by_cases h : q < ys.length
    · have h' : xs.length + q < (xs ++ ys).length := by simp; omega
      rw [if_pos h, if_pos h, if_pos h', if_pos h']
      by_cases hb : badAt ys q
      · rw [if_pos hb, if_pos hb, if_pos (a1.2 hb), if_pos (a1.2 hb)]
        exact ⟨rfl, by omega⟩
      · have hb' : ¬ badAt (xs ++ ys) (xs.length + q) := fun g => hb (a1.1 g)
        rw [if_neg hb, if_neg hb, if_neg hb', if_neg hb', a2, a3, Nat.add_assoc]
        obtain ⟨i1, i2⟩ := good_right xs ys d (q + widAt ys q)
        exact ⟨by rw [i1], i2⟩
    · have h' : ¬ xs.length + q < (xs ++ ys).length := by simp; omega
      rw [if_neg h, if_neg h, if_neg h', if_neg h']
      exact ⟨rfl, by omega⟩
theorem good_fuel (xs : List Int) : ∀ (d d' p : Nat), xs.length ≤ p + d → xs.length ≤ p + d' → goodL xs d p = goodL xs d' p ∧ badL xs d p = badL xs d' p
  | 0, d', p, h, _ => by
    rw [goodL_end xs 0 p (by omega), goodL_end xs d' p (by omega), badL_end xs 0 p (by omega), badL_end xs d' p (by omega)]
    exact ⟨rfl, rfl⟩
  | d + 1, 0, p, _, h => by
    rw [goodL_end xs 0 p (by omega), goodL_end xs (d + 1) p (by omega), badL_end xs 0 p (by omega), badL_end xs (d + 1) p (by omega)]
    exact ⟨rfl, rfl⟩
  | d + 1, d' + 1, p, h1, h2 => by
    rw [goodL, goodL, badL, badL]
    by_cases h : p < xs.length
    · rw [if_pos h, if_pos h, if_pos h, if_pos h]
      by_cases hb : badAt xs p
      · rw [if_pos hb, if_pos hb, if_pos hb, if_pos hb]
        exact ⟨rfl, rfl⟩
      · have := widAt_pos xs p
        obtain ⟨i1, i2⟩ := good_fuel xs d d' (p + widAt xs p) (by omega) (by omega)
        rw [if_neg hb, if_neg hb, if_neg hb, if_neg hb, i1, i2]
        exact ⟨rfl, rfl⟩
    · rw [if_neg h, if_neg h, if_neg h, if_neg h]
      exact ⟨rfl, rfl⟩
theorem good_left (xs ys : List Int) (hy : badL ys ys.length 0 < 0) : ∀ (d p d' : Nat), p ≤ xs.length → xs.length ≤ p + d → xs.length + ys.length ≤ p + d' → badL xs d p < 0 → goodL (xs ++ ys) d' p = goodL xs d p ++ goodL ys ys.length 0 ∧ badL (xs ++ ys) d' p < 0 := by
  have atEnd : ∀ (p d d' : Nat), p = xs.length → xs.length + ys.length ≤ p + d' → goodL (xs ++ ys) d' p = goodL xs d p ++ goodL ys ys.length 0 ∧ badL (xs ++ ys) d' p < 0 := by
    rintro p d d' rfl hd
    obtain ⟨i1, i2⟩ := good_right xs ys d' 0
    rw [Nat.add_zero] at i1 i2
    obtain ⟨f1, f2⟩ := good_fuel ys d' ys.length 0 (by omega) (by omega)
    rw [goodL_end xs d xs.length (by omega), List.nil_append, i1, i2, f1, f2]
    exact ⟨rfl, hy⟩
  intro d
  induction d with
  | zero => intro p d' hp hd hd' _; exact atEnd p 0 d' (by omega) hd'
  | succ d ih =>
    intro p d' hp hd hd' hb0
    by_cases h : p < xs.length
    · obtain ⟨d', rfl⟩ : ∃ m, d' = m + 1 := ⟨d' - 1, by omega⟩
      rw [badL, if_pos h] at hb0
      by_cases hb : badAt xs p
      · rw [if_pos hb] at hb0; omega
      rw [if_neg hb] at hb0
      have hw := widAt_le xs p h
      have hw1 := widAt_pos xs p
      obtain ⟨l1, l2, l3⟩ := loc (xs := xs) (ys := xs ++ ys) (p := p) (q := p) hb (by simp; omega) (fun i hi => gb_left xs ys _ (by omega))
      have h' : p < (xs ++ ys).length := by simp; omega
      obtain ⟨i1, i2⟩ := ih (p + widAt xs p) d' hw (by omega) (by omega) hb0
      rw [goodL, goodL, badL, if_pos h, if_pos h', if_pos h', if_neg hb, if_neg l1, if_neg l1, l2, l3, i1, List.cons_append]
      exact ⟨rfl, i2⟩
    · exact atEnd p (d + 1) d' (by omega) hd'

/-! ### Pieces of a text -/
def endL (xs : List Int) (fr : Int) (e : Nat) : List (List Int × Int) := if fr < 0 then [] else [((xs.take e).drop fr.toNat, fr)]
/-- A text's pieces, byte by byte, from a place on. -/
def pcL (xs : List Int) : Nat → Nat → Bool → Int → List (List Int × Int)
  | 0, _, _, fr => endL xs fr xs.length
  | d + 1, pos, rm, fr =>
    if pos < xs.length then
      (if rm = true then pcL xs d (pos + 1) (gb xs pos != 10) fr
       else if gb xs pos = 35 then endL xs fr pos ++ pcL xs d (pos + 1) true (-1)
       else if gb xs pos = 59 then endL xs fr pos ++ ([59], (pos : Int)) :: pcL xs d (pos + 1) false (-1)
       else if gb xs pos = 9 ∨ gb xs pos = 10 ∨ gb xs pos = 13 ∨ gb xs pos = 32 then endL xs fr pos ++ pcL xs d (pos + 1) false (-1)
       else pcL xs d (pos + 1) false (if fr < 0 then (pos : Int) else fr))
    else endL xs fr xs.length
theorem pcL_end (xs : List Int) (d pos : Nat) (rm : Bool) (fr : Int) (h : ¬ pos < xs.length) : pcL xs d pos rm fr = endL xs fr xs.length := by cases d <;> simp [pcL, h]
theorem pcL_fuel (xs : List Int) : ∀ (d d' pos : Nat) (rm : Bool) (fr : Int), xs.length ≤ pos + d → xs.length ≤ pos + d' → pcL xs d pos rm fr = pcL xs d' pos rm fr
  | 0, d', pos, rm, fr, h, h' => by rw [pcL_end _ _ _ _ _ (by omega), pcL_end _ _ _ _ _ (by omega)]
  | d + 1, 0, pos, rm, fr, h, h' => by rw [pcL_end _ _ _ _ _ (by omega), pcL_end _ _ _ _ _ (by omega)]
  | d + 1, d' + 1, pos, rm, fr, h, h' => by
    have ih : ∀ rm fr, pcL xs d (pos + 1) rm fr = pcL xs d' (pos + 1) rm fr := fun rm fr => pcL_fuel xs d d' (pos + 1) rm fr (by omega) (by omega)
    simp only [pcL, ih]
/-- A byte of no meaning. -/
theorem pcL_skip (xs : List Int) (d pos : Nat) (rm : Bool) (fr : Int) (hp : pos < xs.length) (h : 128 ≤ gb xs pos) : pcL xs (d + 1) pos rm fr = pcL xs d (pos + 1) rm (if rm = true then fr else if fr < 0 then (pos : Int) else fr) := by
  simp only [pcL]
  rw [if_pos hp]
  cases rm with
  | true =>
    rw [if_pos rfl, if_pos rfl]
    congr 1
    simp; omega
  | false =>
    rw [if_neg (by decide), if_neg (by omega), if_neg (by omega), if_neg (by omega), if_neg (c := (false : Bool) = true) (by decide)]
theorem pcL_skips (xs : List Int) : ∀ (w d pos : Nat) (rm : Bool) (fr : Int), pos + w < xs.length → (∀ i, i ≤ w → 128 ≤ gb xs (pos + i)) → pcL xs (d + w + 1) pos rm fr = pcL xs d (pos + w + 1) rm (if rm = true then fr else if fr < 0 then (pos : Int) else fr)
  | 0, d, pos, rm, fr, hp, h => pcL_skip xs d pos rm fr (by omega) (h 0 (Nat.le_refl _))
  | w + 1, d, pos, rm, fr, hp, h => by
    rw [show d + (w + 1) + 1 = (d + w + 1) + 1 from by omega, pcL_skip xs (d + w + 1) pos rm fr (by omega) (h 0 (by omega)), pcL_skips xs w d (pos + 1) rm _ (by omega) (fun i hi => by have := h (i + 1) (by omega); rwa [show pos + (i + 1) = pos + 1 + i from by omega] at this), show pos + 1 + w + 1 = pos + (w + 1) + 1 from by omega]
    congr 1
    cases rm with
    | true => simp
    | false =>
      simp only [Bool.false_eq_true, if_false]
      by_cases hf : fr < 0
      · rw [if_pos hf, if_neg (by omega)]
      · rw [if_neg hf, if_neg hf]
theorem dN_ascii (n b0 b1 b2 b3 : Nat) (h : b0 < 128) : decodeN n b0 b1 b2 b3 = (b0, 1) := by
  unfold decodeN
  rw [if_pos h]
theorem dN_high (n b0 b1 b2 b3 : Nat) (h : ¬ b0 < 128) : 128 ≤ (decodeN n b0 b1 b2 b3).1 ∧ (decodeN n b0 b1 b2 b3).2 ≤ 4 ∧ (2 ≤ (decodeN n b0 b1 b2 b3).2 → 128 ≤ b1) ∧ (3 ≤ (decodeN n b0 b1 b2 b3).2 → 128 ≤ b2) ∧ (4 ≤ (decodeN n b0 b1 b2 b3).2 → 128 ≤ b3) := by
  unfold decodeN
  rw [if_neg h]
  repeat' split
  all_goals (simp only; omega)
theorem rune_low {xs : List Int} {p : Nat} (h : gb xs p < 128) : runeAt xs p = (gb xs p : Int) ∧ widAt xs p = 1 := by
  unfold runeAt widAt
  rw [dN_ascii _ _ _ _ _ h]
  exact ⟨rfl, rfl⟩
theorem rune_high {xs : List Int} {p : Nat} (h : ¬ gb xs p < 128) : 128 ≤ runeAt xs p ∧ ∀ i, i < widAt xs p → 128 ≤ gb xs (p + i) := by
  obtain ⟨h1, h2, h3, h4, h5⟩ := dN_high (xs.length - p) (gb xs p) (gb xs (p + 1)) (gb xs (p + 2)) (gb xs (p + 3)) h
  unfold runeAt widAt
  refine ⟨by omega, fun i hi => ?_⟩
  rcases i with _ | _ | _ | _ | i
  · simpa using h
  · exact h3 (by omega)
  · exact h4 (by omega)
  · exact h5 (by omega)
  · omega

theorem clsK_high {x : Int} (h : 128 ≤ x) : clsK x ≠ 3 := by
  unfold clsK classG
  split
  · omega
  · rw [if_pos (by omega)]; omega
theorem clsK_low {x : Int} (h0 : 0 ≤ x) (h : x < 128) : clsK x = 3 ↔ (x = 9 ∨ x = 10 ∨ x = 13 ∨ x = 32) := by
  have hw : ¬ widK x = 0 := by rw [widK_ok (by unfold vruneK; omega), if_pos h]; omega
  unfold clsK classG
  rw [if_neg hw]
  repeat' split
  all_goals omega
theorem rune_rng {xs : List Int} (hx : isB xs) (p : Nat) : 0 ≤ runeAt xs p ∧ runeAt xs p ≤ 1114111 := by
  by_cases hb : badAt xs p
  · unfold badAt badN at hb
    unfold runeAt
    rw [hb]
    simp only
    omega
  · have := (good_at hx hb).1
    unfold vrune at this
    omega
def mapP (l : List (List Int × Int)) : List (ByteArray × Int) := l.map fun p => (strOfNums p.1, p.2)
theorem end_is (xs : List Int) (fr : Int) (e : Nat) : pcEnd (strOfNums xs) fr e = mapP (endL xs fr e) := by
  unfold pcEnd endL mapP
  split
  · rfl
  · rw [son_extract]; rfl
theorem mapP_app (a b : List (List Int × Int)) : mapP (a ++ b) = mapP a ++ mapP b := List.map_append
theorem semi_is : (⟨#[59]⟩ : ByteArray) = strOfNums [59] := rfl
theorem pcG_is {xs : List Int} (hx : isB xs) : ∀ (d d' pos : Nat) (rm : Bool) (fr : Int), pos ≤ xs.length → xs.length ≤ pos + d → xs.length ≤ pos + d' → pcG (strOfNums xs) clsK d pos rm fr = mapP (pcL xs d' pos rm fr)
  | 0, d', pos, rm, fr, hp, h, h' => by
    rw [pcL_end _ _ _ _ _ (by omega)]
    simp only [pcG]
    rw [end_is, son_size]
  | d + 1, d', pos, rm, fr, hp, h, h' => by
    by_cases hlt : pos < xs.length
    · simp only [pcG]
      rw [if_pos (by rw [son_size]; exact hlt), dec_rune hx, dec_wid hx]
      have hrr := rune_rng hx pos
      have hwp := widAt_pos xs pos
      have hwl := widAt_le xs pos hlt
      rw [show wrap64 (runeAt xs pos) = runeAt xs pos from w64 (by omega)]
      have ih : ∀ rm fr, pcG (strOfNums xs) clsK d (pos + widAt xs pos) rm fr = mapP (pcL xs xs.length (pos + widAt xs pos) rm fr) := fun rm fr => pcG_is hx d xs.length _ rm fr hwl (by omega) (by omega)
      rw [ih, ih, ih, ih]
      rw [pcL_fuel xs d' (xs.length + (widAt xs pos - 1) + 1) pos rm fr h' (by omega)]
      by_cases hg : gb xs pos < 128
      · obtain ⟨e1, e2⟩ := rune_low hg
        rw [e1, e2]
        simp only [Nat.sub_self, Nat.add_zero, pcL]
        rw [if_pos hlt, end_is, semi_is]
        cases rm with
        | true =>
          rw [if_pos rfl, if_pos rfl]
          congr 2
          by_cases h10 : gb xs pos = 10
          · rw [h10]; rfl
          · rw [bne_iff_ne.mpr h10, bne_iff_ne.mpr (show ((gb xs pos : Nat) : Int) ≠ 10 by omega)]
        | false =>
          rw [if_neg (c := (false : Bool) = true) (by decide), if_neg (c := (false : Bool) = true) (by decide)]
          by_cases c1 : gb xs pos = 35
          · rw [if_pos (by omega), if_pos c1, mapP_app]
          rw [if_neg (by omega), if_neg c1]
          by_cases c2 : gb xs pos = 59
          · rw [if_pos (by omega), if_pos c2, mapP_app]; rfl
          rw [if_neg (by omega), if_neg c2]
          have hc := clsK_low (x := (gb xs pos : Int)) (by omega) (by omega)
          by_cases c3 : gb xs pos = 9 ∨ gb xs pos = 10 ∨ gb xs pos = 13 ∨ gb xs pos = 32
          · rw [if_pos (hc.2 (by omega)), if_pos c3, mapP_app]
          · rw [if_neg (fun e => c3 (by have := hc.1 e; omega)), if_neg c3]
      · obtain ⟨e1, e2⟩ := rune_high hg
        rw [pcL_skips xs (widAt xs pos - 1) xs.length pos rm fr (by omega) (fun i hi => e2 i (by omega)), show pos + (widAt xs pos - 1) + 1 = pos + widAt xs pos from by omega]
        cases rm with
        | true =>
          rw [if_pos rfl, if_pos rfl, bne_iff_ne.mpr (by omega)]
        | false =>
          rw [if_neg (c := (false : Bool) = true) (by decide), if_neg (by omega), if_neg (by omega), if_neg (clsK_high e1), if_neg (c := (false : Bool) = true) (by decide)]
    · rw [pcL_end _ _ _ _ _ hlt, pcG_end _ _ _ _ _ _ (by rw [son_size]; exact hlt), end_is, son_size]
theorem pieces_is {xs : List Int} (hx : isB xs) : pcG (strOfNums xs) clsK (strOfNums xs).size 0 false (-1) = mapP (pcL xs xs.length 0 false (-1)) := by
  rw [son_size]
  exact pcG_is hx _ _ 0 false (-1) (by omega) (by omega) (by omega)
theorem bt_gb {xs : List Int} (hx : isB xs) {p : Nat} (h : p < xs.length) : bt (strOfNums xs) (p : Int) = (gb xs p : Int) := by
  rw [son_bt hx (p : Int) (by omega) (by omega)]
  unfold rd gb
  rw [Int.toNat_natCast, List.getD_eq_getElem?_getD, List.getElem?_eq_getElem h, Option.getD_some]
  have := hx _ (List.getElem_mem h)
  omega

/-! ### Running over pieces -/
def finR (sz : Int) : RS × Option (Int × Int) → List S39 × Int × Int
  | (_, some (a, e)) => ([], a, e)
  | (r, none) => if r.op = true then ([], sz, 10) else (r.out, sz, 0)
theorem runP_cons {σ : Type} (step : σ → ByteArray × Int → σ × Bool) (st : σ) (p : ByteArray × Int) (ps : List (ByteArray × Int)) : runP step st (p :: ps) = if (step st p).2 = true then runP step (step st p).1 ps else ((step st p).1, false) := rfl
theorem run_ok {s s1 : RS} {p : ByteArray × Int} {ps : List (ByteArray × Int)} (h : takeF s p.1 = (s1, 0)) : (runP stepR (s, none) (p :: ps)).1 = (runP stepR (s1, none) ps).1 := by
  rw [runP_cons]
  have : stepR (s, none) p = ((s1, none), true) := by unfold stepR; simp only [h]; rfl
  rw [this, if_pos rfl]
theorem run_err {s s1 : RS} {e : Int} {p : ByteArray × Int} {ps : List (ByteArray × Int)} (h : takeF s p.1 = (s1, e)) (he : e ≠ 0) : (runP stepR (s, none) (p :: ps)).1 = (s1, some (p.2, e)) := by
  rw [runP_cons]
  have : stepR (s, none) p = ((s1, some (p.2, e)), false) := by unfold stepR; simp only [h]; rw [if_neg he]
  rw [this, if_neg (by simp)]
theorem semi_ne {b : List Int} (hb : isB b) : ((strOfNums b).toList != ([59] : List UInt8)) = decide (b ≠ [59]) := by
  have e : ([59] : List UInt8) = (strOfNums [59]).toList := by decide +kernel
  have h59 : isB [59] := by intro z hz; simp at hz; omega
  rw [e]
  by_cases h : b = [59]
  · rw [h]; simp
  · rw [decide_eq_true h, bne_iff_ne]
    exact fun hc => h ((son_toList_inj hb h59).1 hc)
theorem semi_eq {b : List Int} (hb : isB b) : ((strOfNums b).toList = ([59] : List UInt8)) ↔ b = [59] := by
  have e : ([59] : List UInt8) = (strOfNums [59]).toList := by decide +kernel
  have h59 : isB [59] := by intro z hz; simp at hz; omega
  rw [e]
  exact son_toList_inj hb h59

/-! ### The moves that a text tells -/
def r0Z : RS := ⟨[], false, 0, 0, 0, []⟩
def piecesL (xs : List Int) : List (List Int × Int) := pcL xs xs.length 0 false (-1)
def readZ (xs : List Int) : List S39 × Int × Int :=
  if (xs.length : Int) > 65536 then ([], 0, 5)
  else if badL xs xs.length 0 ≥ 0 then ([], badL xs xs.length 0, 4)
  else finR (xs.length : Int) (runP stepR (r0Z, none) (mapP (piecesL xs))).1
theorem Read_is {xs : List Int} (hx : isB xs) : scene_Read.f (strOfNums xs) = some (readZ xs) := by
  unfold scene_Read.f readF readZ
  rw [son_size, badG_is hx _ _ (Nat.zero_le _)]
  congr 1
  have hp : pcG (strOfNums xs) clsK xs.length 0 false (-1) = mapP (piecesL xs) := pcG_is hx _ _ 0 false (-1) (by omega) (by omega) (by omega)
  rw [hp]
  unfold r0Z
  by_cases h1 : (xs.length : Int) > 65536
  · rw [if_pos h1, if_pos h1]
  rw [if_neg h1, if_neg h1]
  by_cases h2 : badL xs xs.length 0 ≥ 0
  · rw [if_pos h2, if_pos h2]
  rw [if_neg h2, if_neg h2]
  rcases (runP stepR (⟨[], false, 0, 0, 0, []⟩, none) (mapP (piecesL xs))).1 with ⟨r, _ | ⟨a, e⟩⟩ <;> rfl

/-! ### Same moves -/
theorem Same39_loop (a : List S39) (hal : a.length ≤ 1000000) (h3 : ∀ m ∈ a, m.f3.length ≤ 1000) : ∀ (d i k : Nat), a.length = i + d → d + 1010 ≤ k → argosyref27_Same.l0 k a a (i : Int) = some true
  | 0, i, k, hd, hk => by
    obtain ⟨k, rfl⟩ : ∃ m, k = m + 1 := ⟨k - 1, by omega⟩
    rw [argosyref27_Same.l0, if_neg (by omega)]
  | d + 1, i, k, hd, hk => by
    obtain ⟨k, rfl⟩ : ∃ m, k = m + 1 := ⟨k - 1, by omega⟩
    have hi : i < a.length := by omega
    have hm : rd_T39 a (i : Int) ∈ a := by
      unfold rd_T39
      rw [Int.toNat_natCast, List.getD_eq_getElem?_getD, List.getElem?_eq_getElem hi]
      exact List.getElem_mem hi
    have := h3 _ hm
    rw [argosyref27_Same.l0, if_pos (by omega), if_pos (by omega), if_pos (by omega), if_pos rfl, if_pos rfl, if_pos rfl, Same_is (by omega) (by omega), Option.bind_some, decide_eq_true rfl, if_pos rfl, w64 (by omega), show (i : Int) + 1 = ((i + 1 : Nat) : Int) from by omega]
    exact Same39_loop a hal h3 d (i + 1) k (by omega) (by omega)
theorem Same39_is {a : List S39} (hal : a.length ≤ 1000000) (h3 : ∀ m ∈ a, m.f3.length ≤ 1000) {k : Nat} (hk : a.length + 1010 ≤ k) : argosyref27_Same.f k a a = some true := by
  unfold argosyref27_Same.f
  rw [if_pos rfl]
  exact Same39_loop a hal h3 a.length 0 k (by omega) hk

/-! ### A run ends well, or at a piece -/
theorem takeF_code (s : RS) (a : ByteArray) : (takeF s a).2 = 0 ∨ (takeF s a).2 = 5 ∨ (takeF s a).2 = 10 := by
  unfold takeF beginF
  repeat' split
  all_goals first | exact .inl rfl | exact .inr (.inl rfl) | exact .inr (.inr rfl)
theorem run_two : ∀ (ps : List (ByteArray × Int)) (s : RS), (∃ t, runP stepR (s, none) ps = ((t, none), true)) ∨ (∃ t p e, p ∈ ps ∧ (e = 5 ∨ e = 10) ∧ runP stepR (s, none) ps = ((t, some (p.2, e)), false))
  | [], s => .inl ⟨s, rfl⟩
  | p :: ps, s => by
    obtain ⟨s1, e, hT⟩ : ∃ s1 e, takeF s p.1 = (s1, e) := ⟨_, _, rfl⟩
    have hc := takeF_code s p.1
    rw [hT] at hc
    simp only at hc
    by_cases he : e = 0
    · subst he
      have hs : stepR (s, none) p = ((s1, none), true) := by unfold stepR; simp only [hT]; rfl
      rw [runP_cons, hs, if_pos rfl]
      rcases run_two ps s1 with ⟨t, h⟩ | ⟨t, q, e, hq, he, h⟩
      · exact .inl ⟨t, h⟩
      · exact .inr ⟨t, q, e, List.mem_cons_of_mem _ hq, he, h⟩
    · have hs : stepR (s, none) p = ((s1, some (p.2, e)), false) := by unfold stepR; simp only [hT]; rw [if_neg he]
      rw [runP_cons, hs, if_neg (by simp)]
      exact .inr ⟨s1, p, e, List.mem_cons_self, by omega, rfl⟩
theorem mapP_mem {l : List (List Int × Int)} {p : ByteArray × Int} (h : p ∈ mapP l) : ∃ q ∈ l, q.2 = p.2 := by
  unfold mapP at h
  obtain ⟨q, hq, rfl⟩ := List.mem_map.1 h
  exact ⟨q, hq, rfl⟩
/-! ### The places of pieces -/
theorem endL_at {xs : List Int} {fr : Int} {e n : Nat} (hf : fr < 0 ∨ (n : Int) ≤ fr) : ∀ q ∈ endL xs fr e, (n : Int) ≤ q.2 := by
  intro q hq
  unfold endL at hq
  split at hq
  · simp at hq
  · simp at hq
    rw [hq]
    show (n : Int) ≤ fr
    omega
theorem pcL_from (xs : List Int) (n : Nat) : ∀ (d p : Nat) (rm : Bool) (fr : Int), n ≤ p → (fr < 0 ∨ (n : Int) ≤ fr) → ∀ q ∈ pcL xs d p rm fr, (n : Int) ≤ q.2
  | 0, p, rm, fr, hp, hf => endL_at hf
  | d + 1, p, rm, fr, hp, hf => by
    have ih := fun rm fr hf => pcL_from xs n d (p + 1) rm fr (by omega) hf
    have he := endL_at (xs := xs) (e := p) hf
    intro q hq
    simp only [pcL] at hq
    split at hq
    · split at hq
      · exact ih _ _ hf q hq
      · split at hq
        · rcases List.mem_append.1 hq with hq | hq
          · exact he q hq
          · exact ih _ _ (.inl (by omega)) q hq
        · split at hq
          · rcases List.mem_append.1 hq with hq | hq
            · exact he q hq
            · rcases List.mem_cons.1 hq with rfl | hq
              · show (n : Int) ≤ (p : Int); omega
              · exact ih _ _ (.inl (by omega)) q hq
          · split at hq
            · rcases List.mem_append.1 hq with hq | hq
              · exact he q hq
              · exact ih _ _ (.inl (by omega)) q hq
            · exact ih _ _ (by split <;> omega) q hq
    · exact endL_at hf q hq
theorem endL_below {xs : List Int} {fr : Int} {e n : Nat} (hf : fr < (n : Int)) : ∀ q ∈ endL xs fr e, q.2 < (n : Int) := by
  intro q hq
  unfold endL at hq
  split at hq
  · simp at hq
  · simp at hq
    rw [hq]
    exact hf
theorem pcL_below (xs : List Int) : ∀ (d p : Nat) (rm : Bool) (fr : Int), fr < (xs.length : Int) → ∀ q ∈ pcL xs d p rm fr, q.2 < (xs.length : Int)
  | 0, p, rm, fr, hf => endL_below hf
  | d + 1, p, rm, fr, hf => by
    have ih := fun rm fr hf => pcL_below xs d (p + 1) rm fr hf
    have he := endL_below (xs := xs) (e := p) hf
    intro q hq
    simp only [pcL] at hq
    split at hq
    · split at hq
      · exact ih _ _ hf q hq
      · split at hq
        · rcases List.mem_append.1 hq with hq | hq
          · exact he q hq
          · exact ih _ _ (by omega) q hq
        · split at hq
          · rcases List.mem_append.1 hq with hq | hq
            · exact he q hq
            · rcases List.mem_cons.1 hq with rfl | hq
              · show (p : Int) < _; omega
              · exact ih _ _ (by omega) q hq
          · split at hq
            · rcases List.mem_append.1 hq with hq | hq
              · exact he q hq
              · exact ih _ _ (by omega) q hq
            · exact ih _ _ (by split <;> omega) q hq
    · exact endL_below hf q hq

/-! ### A text cut off behind a semicolon -/
theorem endL_take (xs : List Int) (n : Nat) (fr : Int) (e : Nat) (he : e ≤ n) : endL (xs.take n) fr e = endL xs fr e := by
  unfold endL
  rw [List.take_take, Nat.min_eq_left he]
theorem pcL_cut (xs : List Int) (n : Nat) (hn : n ≤ xs.length) : ∀ (d p d' : Nat) (fr : Int), p ≤ n → n ≤ p + d → xs.length ≤ p + d' → (p < n ∨ fr < 0) → (p < n → gb xs (n - 1) = 59) → (∀ i, p ≤ i → i < n → gb xs i ≠ 35) → pcL xs d' p false fr = pcL (xs.take n) d p false fr ++ pcL xs xs.length n false (-1) := by
  have hlen : (xs.take n).length = n := by simp; omega
  have atEnd : ∀ (p d d' : Nat) (fr : Int), p = n → xs.length ≤ p + d' → fr < 0 → pcL xs d' p false fr = pcL (xs.take n) d p false fr ++ pcL xs xs.length n false (-1) := by
    rintro p d d' fr rfl hd hf
    rw [pcL_end (xs.take p) d p false fr (by omega)]
    have : endL (xs.take p) fr (xs.take p).length = [] := by unfold endL; rw [if_pos hf]
    rw [this, List.nil_append, pcL_fuel xs d' xs.length p false fr hd (by omega)]
    have hneg : ∀ (d p : Nat), pcL xs d p false fr = pcL xs d p false (-1) := by
      intro d p
      cases d with
      | zero => simp only [pcL]; unfold endL; rw [if_pos hf, if_pos (by omega)]
      | succ d =>
        simp only [pcL]
        rw [if_pos hf, if_pos (c := (-1 : Int) < 0) (by omega)]
        have e : ∀ e, endL xs fr e = endL xs (-1) e := fun e => by unfold endL; rw [if_pos hf, if_pos (c := (-1 : Int) < 0) (by omega)]
        simp only [e, Bool.false_eq_true, if_false]
    exact hneg _ _
  intro d
  induction d with
  | zero => intro p d' fr hp hd hd' hf h59 h35; exact atEnd p 0 d' fr (by omega) hd' (by omega)
  | succ d ih =>
    intro p d' fr hp hd hd' hf h59 h35
    by_cases h : p < n
    · obtain ⟨d', rfl⟩ : ∃ m, d' = m + 1 := ⟨d' - 1, by omega⟩
      have hg := h59 h
      have ih := fun fr hf => ih (p + 1) d' fr h (by omega) (by omega) hf (fun _ => hg) (fun i h1 h2 => h35 i (by omega) h2)
      have c1 : ¬ gb xs p = 35 := h35 p (Nat.le_refl _) h
      simp only [pcL]
      rw [if_pos (show p < xs.length by omega), if_pos (show p < (xs.take n).length by omega), gb_take xs n p h, endL_take xs n fr p (by omega)]
      rw [if_neg (c := (false : Bool) = true) (by decide), if_neg (c := (false : Bool) = true) (by decide), if_neg c1, if_neg c1]
      by_cases c2 : gb xs p = 59
      · rw [if_pos c2, if_pos c2, ih (-1) (.inr (by omega)), List.append_assoc]; rfl
      rw [if_neg c2, if_neg c2]
      have hlt : p + 1 < n := by
        refine Decidable.of_not_not fun hc => c2 ?_
        rw [show p = n - 1 from by omega]
        exact hg
      by_cases c3 : gb xs p = 9 ∨ gb xs p = 10 ∨ gb xs p = 13 ∨ gb xs p = 32
      · rw [if_pos c3, if_pos c3, ih (-1) (.inr (by omega)), List.append_assoc]
      · rw [if_neg c3, if_neg c3]
        exact ih _ (.inl hlt)
    · exact atEnd p (d + 1) d' fr (by omega) hd' (by omega)
theorem badL_cut (xs : List Int) (n : Nat) (hn : n ≤ xs.length) (h59 : 0 < n → gb xs (n - 1) = 59) : ∀ (d p d' : Nat), p ≤ n → xs.length ≤ p + d → badL xs d p < 0 → badL (xs.take n) d' p < 0 := by
  have hlen : (xs.take n).length = n := by simp; omega
  intro d
  induction d with
  | zero =>
    intro p d' hp hd hb
    rw [badL_end _ _ _ (by omega)]
    omega
  | succ d ih =>
    intro p d' hp hd hb
    by_cases h : p < n
    · cases d' with
      | zero => rw [badL]; omega
      | succ d' =>
        rw [badL, if_pos (by omega)] at hb
        by_cases hbad : badAt xs p
        · rw [if_pos hbad] at hb; omega
        rw [if_neg hbad] at hb
        have hw := widAt_pos xs p
        have hle : p + widAt xs p ≤ n := by
          refine Decidable.of_not_not fun hc => ?_
          have hg := h59 (by omega)
          by_cases hlow : gb xs p < 128
          · have := (rune_low hlow).2; omega
          · have := (rune_high hlow).2 (n - 1 - p) (by omega)
            rw [show p + (n - 1 - p) = n - 1 from by omega, hg] at this
            omega
        obtain ⟨l1, l2, l3⟩ := loc (xs := xs) (ys := xs.take n) (p := p) (q := p) hbad (by omega) (fun i hi => gb_take xs n _ (by omega))
        rw [badL, if_pos (by omega), if_neg l1, l3]
        exact ih (p + widAt xs p) d' hle (by omega) hb
    · rw [badL_end _ _ _ (by omega)]
      omega
/-- A text that ends with a semicolon ends with this piece. -/
theorem pcL_last (xs : List Int) (n : Nat) (hn : xs.length = n + 1) (hg : gb xs n = 59) : ∀ (d p : Nat) (fr : Int), p ≤ n → n + 1 ≤ p + d → (∀ i, p ≤ i → i < n → gb xs i ≠ 35) → ∃ l, pcL xs d p false fr = l ++ [([59], (n : Int))]
  | 0, p, fr, hp, hd, h35 => by omega
  | d + 1, p, fr, hp, hd, h35 => by
    simp only [pcL]
    rw [if_pos (by omega), if_neg (c := (false : Bool) = true) (by decide)]
    by_cases h : p = n
    · subst h
      rw [if_neg (by omega), if_pos hg, pcL_end _ _ _ _ _ (by omega)]
      exact ⟨endL xs fr p, rfl⟩
    · have ih := fun fr => pcL_last xs n hn hg d (p + 1) fr (by omega) (by omega) (fun i h1 h2 => h35 i (by omega) h2)
      obtain ⟨l1, e1⟩ := ih (-1)
      obtain ⟨l2, e2⟩ := ih (if fr < 0 then (p : Int) else fr)
      rw [if_neg (h35 p (Nat.le_refl _) (by omega)), e1, e2]
      split
      · exact ⟨endL xs fr p ++ ([59], (p : Int)) :: l1, by simp⟩
      · split
        · exact ⟨endL xs fr p ++ l1, by simp⟩
        · exact ⟨l2, rfl⟩
theorem form_semi : (formF (strOfNums [59])).2.2.2 = false := by decide +kernel
theorem take_semi {s t : RS} (h : takeF s (strOfNums [59]) = (t, 0)) : t.op = false := by
  have e : (strOfNums [59]).toList = ([59] : List UInt8) := by decide +kernel
  obtain ⟨out, op, kd, le, mo, nums⟩ := s
  unfold takeF at h
  cases op with
  | false =>
    simp only [if_true] at h
    unfold beginF at h
    rw [form_semi, if_neg (by decide)] at h
    exact absurd (congrArg Prod.snd h) (by simp)
  | true =>
    simp only [Bool.true_eq_false, if_false] at h
    rw [if_pos e] at h
    unfold shutF at h
    simp only at h
    by_cases hle : (nums.length : Int) < le
    · rw [if_pos hle] at h
      exact absurd (congrArg Prod.snd h) (by simp)
    · rw [if_neg hle] at h
      have := congrArg (fun z => z.1.op) h
      simp only at this
      exact this.symm
theorem run_semi (l : List (ByteArray × Int)) (at_ : Int) {s t : RS} (h : runP stepR (s, none) (l ++ [(strOfNums [59], at_)]) = ((t, none), true)) : t.op = false := by
  rw [runP_append] at h
  rcases run_two l s with ⟨u, hu⟩ | ⟨u, p, e, hp, he, hu⟩
  · rw [hu, if_pos rfl] at h
    obtain ⟨s1, e, hT⟩ : ∃ s1 e, takeF u (strOfNums [59]) = (s1, e) := ⟨_, _, rfl⟩
    by_cases he : e = 0
    · subst he
      have h1 := run_ok (p := (strOfNums [59], at_)) (ps := []) hT
      rw [h] at h1
      have : t = s1 := congrArg Prod.fst h1
      rw [this]
      exact take_semi hT
    · have h1 := run_err (p := (strOfNums [59], at_)) (ps := []) hT he
      rw [h] at h1
      exact absurd (congrArg Prod.snd h1) (by simp)
  · rw [hu, if_neg (by simp)] at h
    exact absurd (congrArg (fun z => z.1.2) h) (by simp)
theorem readZ_code (xs : List Int) : ((readZ xs).2.2 = 0 ∨ (readZ xs).2.2 = 4 ∨ (readZ xs).2.2 = 5 ∨ (readZ xs).2.2 = 10) ∧ ((readZ xs).2.2 = 10 → badL xs xs.length 0 < 0 ∧ xs.length ≤ 65536 ∧ 0 ≤ (readZ xs).2.1 ∧ (readZ xs).2.1 ≤ (xs.length : Int) ∧ ((readZ xs).2.1 = (xs.length : Int) ∧ (runP stepR (r0Z, none) (mapP (piecesL xs))).2 = true ∨ ∃ t, runP stepR (r0Z, none) (mapP (piecesL xs)) = ((t, some ((readZ xs).2.1, 10)), false))) := by
  unfold readZ
  by_cases h1 : (xs.length : Int) > 65536
  · rw [if_pos h1]; exact ⟨.inr (.inr (.inl rfl)), fun h => absurd h (by simp)⟩
  rw [if_neg h1]
  by_cases h2 : badL xs xs.length 0 ≥ 0
  · rw [if_pos h2]; exact ⟨.inr (.inl rfl), fun h => absurd h (by simp)⟩
  rw [if_neg h2]
  rcases run_two (mapP (piecesL xs)) r0Z with ⟨t, ht⟩ | ⟨t, p, e, hp, he, ht⟩
  · rw [ht]
    simp only [finR]
    by_cases ho : t.op = true
    · rw [if_pos ho]
      exact ⟨.inr (.inr (.inr rfl)), fun _ => ⟨by omega, by omega, by simp, Int.le_refl _, .inl ⟨rfl, by simp⟩⟩⟩
    · rw [if_neg ho]
      exact ⟨.inl rfl, fun h => absurd h (by simp)⟩
  · obtain ⟨q, hq, hqp⟩ := mapP_mem hp
    have ha := pcL_from xs 0 _ _ _ _ (Nat.le_refl _) (.inl (by omega)) q hq
    have hb := pcL_below xs _ _ _ _ (by omega) q hq
    rw [ht]
    simp only [finR]
    refine ⟨by omega, fun h => ⟨by omega, by omega, by omega, by omega, .inr ⟨t, by rw [h]⟩⟩⟩
theorem readZ_stop (xs : List Int) (h : (readZ xs).2.2 = 10) (n : Nat) (hn : (n : Int) ≤ (readZ xs).2.1) (h59 : 0 < n → gb xs (n - 1) = 59) (h35 : ∀ i, i < n → gb xs i ≠ 35) : (readZ (xs.take n)).2 = ((n : Int), 0) := by
  obtain ⟨_, hc⟩ := readZ_code xs
  obtain ⟨hb, hl, ha0, ha1, hr⟩ := hc h
  have hnl : n ≤ xs.length := by omega
  have hlen : (xs.take n).length = n := by simp; omega
  have hbc := badL_cut xs n hnl h59 xs.length 0 (xs.take n).length (by omega) (by omega) hb
  have hp : piecesL xs = piecesL (xs.take n) ++ pcL xs xs.length n false (-1) := by
    unfold piecesL
    rw [hlen]
    exact pcL_cut xs n hnl n 0 xs.length (-1) (by omega) (by omega) (by omega) (.inr (by omega)) h59 (fun i _ hi => h35 i hi)
  have hz : readZ (xs.take n) = finR ((xs.take n).length : Int) (runP stepR (r0Z, none) (mapP (piecesL (xs.take n)))).1 := by
    unfold readZ
    rw [if_neg (by omega), if_neg (by omega)]
  rw [hz, hlen]
  rcases run_two (mapP (piecesL (xs.take n))) r0Z with ⟨t, ht⟩ | ⟨t, p, e, hpm, he, ht⟩
  · have ho : t.op = false := by
      cases n with
      | zero =>
        have : mapP (piecesL (xs.take 0)) = [] := by rw [List.take_zero]; rfl
        rw [this] at ht
        have : r0Z = t := congrArg (fun z => z.1.1) ht
        rw [← this]; rfl
      | succ n =>
        obtain ⟨l, el⟩ := pcL_last (xs.take (n + 1)) n hlen (by rw [gb_take _ _ _ (by omega)]; exact h59 (by omega)) (xs.take (n + 1)).length 0 (-1) (by omega) (by omega) (fun i _ hi => by rw [gb_take _ _ _ (by omega)]; exact h35 i (by omega))
        have : mapP (piecesL (xs.take (n + 1))) = mapP l ++ [(strOfNums [59], (n : Int))] := by
          unfold piecesL
          rw [el, mapP_app]
          rfl
        rw [this] at ht
        exact run_semi _ _ ht
    rw [ht]
    simp only [finR]
    rw [if_neg (by rw [ho]; decide)]
  · obtain ⟨q, hq, hqp⟩ := mapP_mem hpm
    have hbl := pcL_below (xs.take n) _ _ _ _ (by omega) q hq
    rw [hlen] at hbl
    have hfull : runP stepR (r0Z, none) (mapP (piecesL xs)) = ((t, some (p.2, e)), false) := by
      rw [hp, mapP_app, runP_append, ht, if_neg (by simp)]
    rw [hfull] at hr
    rcases hr with ⟨_, hr⟩ | ⟨t2, hr⟩
    · exact absurd hr (by simp)
    · have := congrArg (fun z => z.1.2) hr
      simp only [Option.some.injEq, Prod.mk.injEq] at this
      omega

/-! ### The examples -/
theorem lv1 : scene_Read.f (⟨#[116, 105, 99, 107, 32, 48, 32, 45, 51, 59, 32, 99, 114, 97, 115, 104, 32, 49, 32, 50, 32, 59, 111, 112, 101, 110, 59, 32, 35, 32, 101, 110, 100]⟩ : ByteArray) = some ([(⟨1, 0, (-3), ([] : List Int)⟩ : S39), (⟨2, 0, 0, (([1, 2] : List Int))⟩ : S39), (⟨3, 0, 0, ([] : List Int)⟩ : S39)], 33, 0) := by kernel_rfl
theorem lv2 : scene_Read.f (⟨#[116, 105, 99, 107, 32, 48, 59]⟩ : ByteArray) = some ([], 6, 10) := by kernel_rfl
theorem lv3 : scene_Read.f (⟨#[97, 114, 109, 32, 48, 49, 59]⟩ : ByteArray) = some ([], 4, 10) := by kernel_rfl
theorem lv4 : scene_Number.f (⟨#[45, 49, 50]⟩ : ByteArray) = some (-12, true) := by kernel_rfl
theorem lives_is {k : Nat} (hk : 1100 ≤ k) : argosylaw27_lives.f k = some true := by
  unfold argosylaw27_lives.f
  rw [lv1, Option.bind_some, lv2, Option.bind_some, lv3, Option.bind_some, lv4, Option.bind_some]
  simp only
  rw [Same39_is (by simp) (by intro m hm; simp at hm; rcases hm with rfl | rfl | rfl <;> simp) (by simp; omega), Option.bind_some]
  rfl

theorem stop_loop (xs : List Int) (hx : isB xs) (h : (readZ xs).2.2 = 10) (hl : xs.length ≤ 5000) : ∀ (d i e k : Nat), (readZ xs).2.1 = ((i + d : Nat) : Int) → d + 1200 ≤ k → e ≤ i → (0 < e → gb xs (e - 1) = 59) → (∀ j, j < i → gb xs j ≠ 35) → argosylaw27_SceneStops.l0 k (strOfNums xs) (readZ xs).2.1 (e : Int) (i : Int) = some true := by
  intro d
  induction d with
  | zero =>
    intro i e k ha hk he h59 h35
    obtain ⟨_, hc⟩ := readZ_code xs
    obtain ⟨_, _, ha0, ha1, _⟩ := hc h
    obtain ⟨k, rfl⟩ : ∃ m, k = m + 1 := ⟨k - 1, by omega⟩
    rw [argosylaw27_SceneStops.l0, lives_is (by omega), Option.bind_some]
    rw [if_neg (by omega), if_pos (by omega), if_pos (by rw [son_size]; omega), show (strOfNums xs).extract 0 (e : Int).toNat = strOfNums (xs.take e) from by rw [son_extract, Int.toNat_natCast]; rfl, Read_is (isB_take hx _), Option.bind_some, readZ_stop xs h e (by omega) h59 (fun j hj => h35 j (by omega))]
    rw [if_pos rfl, if_pos rfl]
  | succ d ih =>
    intro i e k ha hk he h59 h35
    obtain ⟨_, hc⟩ := readZ_code xs
    obtain ⟨_, _, ha0, ha1, _⟩ := hc h
    obtain ⟨k, rfl⟩ : ∃ m, k = m + 1 := ⟨k - 1, by omega⟩
    rw [argosylaw27_SceneStops.l0, lives_is (by omega), Option.bind_some]
    rw [if_pos (by omega), if_pos (by omega), if_pos (by rw [son_size]; omega), bt_gb hx (by omega)]
    by_cases c1 : (gb xs i : Int) = 35
    · rw [if_pos c1]
    rw [if_neg c1, w64 (by omega), show (i : Int) + 1 = ((i + 1 : Nat) : Int) from by omega]
    have hn : ∀ j, j < i + 1 → gb xs j ≠ 35 := fun j hj => by
      by_cases hji : j = i
      · rw [hji]; omega
      · exact h35 j (by omega)
    by_cases c2 : (gb xs i : Int) = 59
    · rw [if_pos c2]
      exact ih (i + 1) (i + 1) k (by omega) (by omega) (by omega) (fun _ => by rw [Nat.add_sub_cancel]; omega) hn
    · rw [if_neg c2]
      exact ih (i + 1) e k (by omega) (by omega) (by omega) h59 hn
theorem SceneStops : argosylaw27_SceneStops.Pure := by
  intro a ha
  refine ⟨10000, ?_⟩
  obtain ⟨k, hk⟩ : ∃ k : Nat, k = 9999 := ⟨_, rfl⟩
  rw [show 10000 = k + 1 by omega]
  unfold argosylaw27_SceneStops.f
  rw [lives_is (by omega), Option.bind_some]
  by_cases h1 : (a.size : Int) > 5000
  · rw [if_pos h1]
  rw [if_neg h1]
  obtain ⟨xs, hxs⟩ : ∃ xs, xs = bytesOf a := ⟨_, rfl⟩
  have hx : isB xs := hxs ▸ bytesOf_isB a
  have hae : a = strOfNums xs := by rw [hxs, son_bytesOf]
  rw [hae, son_size] at h1
  rw [hae, Read_is hx, Option.bind_some, son_size]
  obtain ⟨hcode, hc⟩ := readZ_code xs
  by_cases h : (readZ xs).2.2 = 10
  · obtain ⟨_, _, ha0, ha1, _⟩ := hc h
    rw [if_pos h, if_neg (by omega), decide_eq_false (by omega), argosylaw27_SceneStops.j0, if_neg (by decide)]
    exact stop_loop xs hx h (by omega) (readZ xs).2.1.toNat 0 0 k (by omega) (by omega) (Nat.le_refl _) (fun h => by omega) (fun j hj => by omega)
  · rw [if_neg h, argosylaw27_SceneStops.j0, if_pos rfl, lives_is (by omega), Option.bind_some]
    by_cases e0 : (readZ xs).2.2 = 0
    · rw [if_pos e0]
    rw [if_neg e0]
    by_cases e4 : (readZ xs).2.2 = 4
    · rw [if_pos e4]
    rw [if_neg e4, if_pos (by omega)]

end Go.Proofs.Ytfmbdmkiamedeaa.Pure
