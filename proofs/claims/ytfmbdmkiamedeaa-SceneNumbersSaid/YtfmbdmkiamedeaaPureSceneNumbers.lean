/- Any text is the number that the document says, or none; each number's text is it, with nothing ahead or behind. -/
import Derived.Test.YtfmbdmkiamedeaaPSceneNumbersx6
import Derived.Lib.TrimUEq
set_option linter.unusedVariables false
set_option linter.unusedSimpArgs false
namespace Go.Proofs.Ytfmbdmkiamedeaa.Pure
open Go.RowKit Go.Proofs.Ytfmbdmkiamedeaa.PSceneNumbers Go.Proofs.YtfmbdmkiamedeaaW.PrintWords Go.Proofs.YtfmbdmkiamedeaaW.PrintLast Go.Proofs.YtfmbdmkiamedeaaW.PrintMore

/-! ### Bytes -/
def isB (l : List Int) : Prop := ∀ x ∈ l, 0 ≤ x ∧ x < 256
theorem isB_of_wf {l : List Int} (h : ∀ x ∈ l, (Lit.int .u8 x).wf = true) : isB l := by
  intro x hx
  have := h x hx
  simp [Lit.wf, IntKind.min, IntKind.max, IntKind.bits, IntKind.signed] at this
  omega
theorem i64_of_wf {x : Int} (h : (Lit.int .i64 x).wf = true) : -9223372036854775808 ≤ x ∧ x ≤ 9223372036854775807 := by
  simp [Lit.wf, IntKind.min, IntKind.max, IntKind.bits, IntKind.signed] at h
  omega
theorem toList_loop (s : ByteArray) : ∀ (d i : Nat) (r : List UInt8), s.size - i = d → ByteArray.toList.loop s i r = r.reverse ++ s.data.toList.drop i := by
  intro d
  have hl : s.data.toList.length = s.size := Array.length_toList
  induction d with
  | zero =>
    intro i r h
    unfold ByteArray.toList.loop
    rw [if_neg (by omega), List.drop_eq_nil_of_le (by omega), List.append_nil]
  | succ d ih =>
    intro i r h
    unfold ByteArray.toList.loop
    rw [if_pos (by omega), ih (i + 1) _ (by omega)]
    have hi : i < s.data.toList.length := by omega
    rw [List.drop_eq_getElem_cons hi, List.reverse_cons, List.append_assoc]
    have : s.get! i = s.data.toList[i] := by
      have hs : i < s.size := by omega
      simp [ByteArray.get!, getElem!_pos, hs]
    rw [this]; rfl
theorem bytes_toList (s : ByteArray) : s.toList = s.data.toList := by
  unfold ByteArray.toList
  rw [toList_loop s _ 0 [] rfl]
  simp
theorem bytes_ext {a b : ByteArray} (h : a.toList = b.toList) : a = b := by
  rw [bytes_toList, bytes_toList] at h
  cases a; cases b
  congr 1
  exact Array.toList_inj.1 h
theorem son_data (xs : List Int) : (strOfNums xs).data.toList = xs.map fun n => UInt8.ofNat n.toNat := by simp [strOfNums]
theorem son_size (xs : List Int) : (strOfNums xs).size = xs.length := by simp [strOfNums, ByteArray.size]
theorem son_append (xs ys : List Int) : strOfNums (xs ++ ys) = strOfNums xs ++ strOfNums ys := by
  apply bytes_ext
  rw [bytes_toList, bytes_toList, son_data]
  simp [strOfNums]
theorem son_nil : strOfNums [] = (⟨#[]⟩ : ByteArray) := rfl
theorem u8_inj {a b : Int} (ha : 0 ≤ a ∧ a < 256) (hb : 0 ≤ b ∧ b < 256) (h : UInt8.ofNat a.toNat = UInt8.ofNat b.toNat) : a = b := by
  have := congrArg UInt8.toNat h
  simp [UInt8.toNat_ofNat'] at this
  omega
theorem map_u8_inj : ∀ {xs ys : List Int}, isB xs → isB ys → (xs.map fun n => UInt8.ofNat n.toNat) = (ys.map fun n => UInt8.ofNat n.toNat) → xs = ys
  | [], [], _, _, _ => rfl
  | [], y :: ys, _, _, h => by simp at h
  | x :: xs, [], _, _, h => by simp at h
  | x :: xs, y :: ys, hx, hy, h => by
    simp only [List.map_cons, List.cons.injEq] at h
    rw [u8_inj (hx x (by simp)) (hy y (by simp)) h.1, map_u8_inj (fun z hz => hx z (by simp [hz])) (fun z hz => hy z (by simp [hz])) h.2]
theorem son_inj {xs ys : List Int} (hx : isB xs) (hy : isB ys) (h : strOfNums xs = strOfNums ys) : xs = ys := by
  have := congrArg (fun s : ByteArray => s.data.toList) h
  simp only [son_data] at this
  exact map_u8_inj hx hy this
theorem son_toList_inj {xs ys : List Int} (hx : isB xs) (hy : isB ys) : (strOfNums xs).toList = (strOfNums ys).toList ↔ xs = ys :=
  ⟨fun h => son_inj hx hy (bytes_ext h), fun h => by rw [h]⟩
theorem son_bt {xs : List Int} (hx : isB xs) (i : Int) (h0 : 0 ≤ i) (h : i < xs.length) : bt (strOfNums xs) i = rd xs i := by
  have hi : i.toNat < xs.length := by omega
  unfold bt rd
  rw [dif_pos (by rw [son_size]; exact hi)]
  have hg : (strOfNums xs)[i.toNat]'(by rw [son_size]; exact hi) = UInt8.ofNat (xs[i.toNat]).toNat := by
    show (strOfNums xs).data[i.toNat]'_ = _
    simp [strOfNums]
  rw [hg, List.getD_eq_getElem?_getD, List.getElem?_eq_getElem hi]
  have := hx _ (List.getElem_mem hi)
  simp [UInt8.toNat_ofNat']
  omega
theorem son_extract (xs : List Int) (a b : Nat) : (strOfNums xs).extract a b = strOfNums ((xs.take b).drop a) := by
  apply bytes_ext
  rw [bytes_toList, bytes_toList, son_data]
  simp [strOfNums, ByteArray.data_extract, List.drop_take, List.map_take, List.map_drop, List.extract]
theorem isB_append {xs ys : List Int} (hx : isB xs) (hy : isB ys) : isB (xs ++ ys) := by
  intro z hz
  rcases List.mem_append.1 hz with h | h
  · exact hx z h
  · exact hy z h
theorem isB_take {xs : List Int} (h : isB xs) (n : Nat) : isB (xs.take n) := fun z hz => h z (List.mem_of_mem_take hz)
theorem isB_drop {xs : List Int} (h : isB xs) (n : Nat) : isB (xs.drop n) := fun z hz => h z (List.mem_of_mem_drop hz)
theorem rd_at {xs : List Int} (i : Int) (h0 : 0 ≤ i) (h : i < xs.length) : rd xs i = xs[i.toNat]'(by omega) := by
  unfold rd
  rw [List.getD_eq_getElem?_getD, List.getElem?_eq_getElem (by omega)]; rfl
theorem rd_isB {xs : List Int} (hx : isB xs) (i : Int) (h0 : 0 ≤ i) (h : i < xs.length) : 0 ≤ rd xs i ∧ rd xs i < 256 := by
  rw [rd_at i h0 h]
  exact hx _ (List.getElem_mem _)
theorem w64 {x : Int} (h : -9223372036854775808 ≤ x ∧ x ≤ 9223372036854775807) : wrap64 x = x := by
  unfold wrap64
  omega

/-! ### A string's bytes -/
theorem bytesOf_isB (s : ByteArray) : isB (bytesOf s) := by
  intro x hx
  unfold bytesOf at hx
  obtain ⟨b, _, rfl⟩ := List.mem_map.1 hx
  have := b.toNat_lt
  omega
theorem son_bytesOf (s : ByteArray) : strOfNums (bytesOf s) = s := by
  apply bytes_ext
  rw [bytes_toList, bytes_toList, son_data, bytesOf, List.map_map]
  have : ((fun n : Int => UInt8.ofNat n.toNat) ∘ fun b : UInt8 => (b.toNat : Int)) = id := by
    funext b
    simp
  rw [this, List.map_id]

/-! ### Numbers alike -/
theorem Same_loop (a b : List Int) (hl : a.length = b.length) (ha : a.length ≤ 1152921504606846976) : ∀ (d k i : Nat), i + d = a.length → d < k → argosyref01_Same.l0 k a b (i : Int) = some (decide (a.drop i = b.drop i)) := by
  intro d
  induction d with
  | zero =>
    intro k i hi hk
    obtain ⟨k, rfl⟩ : ∃ m, k = m + 1 := ⟨k - 1, by omega⟩
    simp only [argosyref01_Same.l0]
    rw [if_neg (by omega), List.drop_eq_nil_of_le (by omega), List.drop_eq_nil_of_le (by omega)]
    simp
  | succ d ih =>
    intro k i hi hk
    obtain ⟨k, rfl⟩ : ∃ m, k = m + 1 := ⟨k - 1, by omega⟩
    simp only [argosyref01_Same.l0]
    have h1 : i < a.length := by omega
    have h2 : i < b.length := by omega
    have hra : rd a (i : Int) = a[i] := by rw [rd_at _ (by omega) (by omega)]; rfl
    have hrb : rd b (i : Int) = b[i] := by rw [rd_at _ (by omega) (by omega)]; rfl
    rw [if_pos (by omega), if_pos (by omega), if_pos (by omega), hra, hrb, List.drop_eq_getElem_cons h1, List.drop_eq_getElem_cons h2]
    by_cases h : a[i] = b[i]
    · rw [if_pos h, w64 (by omega), show ((i : Int) + 1) = ((i + 1 : Nat) : Int) from by omega, ih k (i + 1) (by omega) (by omega)]
      rw [h]
      congr 1
      rw [decide_eq_decide]
      simp only [List.cons.injEq, true_and]
    · rw [if_neg h, decide_eq_false]
      simp only [List.cons.injEq]
      exact fun hc => h hc.1
theorem Same_is {k : Nat} {a b : List Int} (ha : a.length ≤ 1152921504606846976) (hk : a.length < k) : argosyref01_Same.f k a b = some (decide (a = b)) := by
  unfold argosyref01_Same.f
  by_cases hl : a.length = b.length
  · rw [if_pos (by omega)]
    have := Same_loop a b hl ha a.length k 0 (by omega) hk
    simpa using this
  · rw [if_neg (by omega)]
    have : a ≠ b := fun h => hl (by rw [h])
    simp [this]

/-! ### The width of a rune -/
def vrune (x : Int) : Prop := 0 ≤ x ∧ x ≤ 1114111 ∧ (x < 55296 ∨ 57343 < x)
instance (x : Int) : Decidable (vrune x) := by unfold vrune; infer_instance
def widG (x : Int) : Int := if vrune x then (if x < 128 then 1 else if x < 2048 then 2 else if x < 65536 then 3 else 4) else 0
theorem widG_bad {x : Int} (h : ¬ vrune x) : widG x = 0 := if_neg h
theorem widG_ok {x : Int} (h : vrune x) : widG x = (if x < 128 then 1 else if x < 2048 then 2 else if x < 65536 then 3 else 4) := if_pos h
theorem widG_zero (x : Int) : widG x = 0 ↔ ¬ vrune x := by
  constructor
  · intro h hv
    rw [widG_ok hv] at h
    split at h
    · omega
    · split at h
      · omega
      · split at h <;> omega
  · exact widG_bad
theorem RuneLen_is {k : Nat} (hk : 1 ≤ k) {x : Int} (h0 : 0 ≤ x) (h1 : x ≤ 1114111) : (utf8_RuneLen.f k x).bind (fun t => some (mx 0 t)) = some (widG x) := by
  obtain ⟨k, rfl⟩ : ∃ m, k = m + 1 := ⟨k - 1, by omega⟩
  unfold utf8_RuneLen.f
  have hmx : ∀ n : Int, 0 ≤ n → mx 0 n = n := fun n hn => by unfold mx; omega
  rw [if_neg (by omega)]
  by_cases a : x ≤ 127
  · rw [if_pos a, Option.bind_some, hmx 1 (by omega), widG_ok (by unfold vrune; omega), if_pos (by omega)]
  rw [if_neg a]
  by_cases b : x ≤ 2047
  · rw [if_pos b, Option.bind_some, hmx 2 (by omega), widG_ok (by unfold vrune; omega), if_neg (by omega), if_pos (by omega)]
  rw [if_neg b]
  by_cases c : 55296 ≤ x
  · rw [if_pos c]
    simp only [utf8_RuneLen.j0]
    by_cases d : x ≤ 57343
    · rw [if_pos (decide_eq_true d), Option.bind_some, widG_bad (by unfold vrune; omega)]
      rfl
    · rw [if_neg (by simpa using d)]
      by_cases e : x ≤ 65535
      · rw [if_pos e, Option.bind_some, hmx 3 (by omega), widG_ok (by unfold vrune; omega), if_neg (by omega), if_neg (by omega), if_pos (by omega)]
      · rw [if_neg e, if_pos h1, Option.bind_some, hmx 4 (by omega), widG_ok (by unfold vrune; omega), if_neg (by omega), if_neg (by omega), if_neg (by omega)]
  · rw [if_neg c]
    simp only [utf8_RuneLen.j0]
    rw [if_neg (by decide), if_pos (by omega), Option.bind_some, hmx 3 (by omega), widG_ok (by unfold vrune; omega), if_neg (by omega), if_neg (by omega), if_pos (by omega)]
theorem Width_is {k : Nat} (hk : 1 ≤ k) (x : Int) : glyph_Width.f k x = some (widG x) := by
  unfold glyph_Width.f
  by_cases a : x < 0
  · rw [if_pos a, widG_bad (by unfold vrune; omega)]
  rw [if_neg a]
  by_cases b : x > 1114111
  · rw [if_pos b, widG_bad (by unfold vrune; omega)]
  rw [if_neg b, show wrap32 x = x from by unfold wrap32; omega]
  exact RuneLen_is hk (by omega) (by omega)

/-! ### A rune's bytes, and what a range over a text reads -/
open Go.Lib (decodeN)
theorem dN_pos (n b0 b1 b2 b3 : Nat) : 1 ≤ (decodeN n b0 b1 b2 b3).2 := by
  unfold decodeN
  repeat' split
  all_goals simp
theorem dN_le (n b0 b1 b2 b3 : Nat) (hn : 1 ≤ n) : (decodeN n b0 b1 b2 b3).2 ≤ n := by
  unfold decodeN
  repeat' split
  all_goals (simp only; omega)
def badN (n b0 b1 b2 b3 : Nat) : Prop := decodeN n b0 b1 b2 b3 = (65533, 1)
instance (n b0 b1 b2 b3 : Nat) : Decidable (badN n b0 b1 b2 b3) := by unfold badN; infer_instance
theorem dN_good (n b0 b1 b2 b3 : Nat) (h0 : b0 < 256) (h : ¬ badN n b0 b1 b2 b3) : vrune ((decodeN n b0 b1 b2 b3).1 : Int) ∧ widG ((decodeN n b0 b1 b2 b3).1 : Int) = ((decodeN n b0 b1 b2 b3).2 : Int) := by
  have key : ∀ (r w : Nat), vrune (r : Int) → (if (r : Int) < 128 then (1 : Int) else if (r : Int) < 2048 then 2 else if (r : Int) < 65536 then 3 else 4) = (w : Int) → vrune (((r, w) : Nat × Nat).1 : Int) ∧ widG (((r, w) : Nat × Nat).1 : Int) = (((r, w) : Nat × Nat).2 : Int) := fun r w h1 h2 => ⟨h1, by rw [widG_ok h1]; exact h2⟩
  unfold badN at h
  revert h
  unfold decodeN
  by_cases c0 : b0 < 128
  · rw [if_pos c0]
    exact fun _ => key _ _ (by unfold vrune; omega) (by rw [if_pos (by omega)]; rfl)
  rw [if_neg c0]
  by_cases c1 : b0 / 32 = 6 ∧ (1 < n ∧ b1 / 64 = 2)
  · rw [if_pos c1]
    by_cases c2 : b0 % 32 * 64 + b1 % 64 ≥ 128
    · rw [if_pos c2]
      exact fun _ => key _ _ (by unfold vrune; omega) (by rw [if_neg (by omega), if_pos (by omega)]; rfl)
    · rw [if_neg c2]; exact fun h => absurd rfl h
  rw [if_neg c1]
  by_cases c2 : b0 / 16 = 14 ∧ (1 < n ∧ b1 / 64 = 2) ∧ (2 < n ∧ b2 / 64 = 2)
  · rw [if_pos c2]
    split
    · rename_i c3
      exact fun _ => key _ _ (by unfold vrune; omega) (by rw [if_neg (by omega), if_neg (by omega), if_pos (by omega)]; rfl)
    · exact fun h => absurd rfl h
  rw [if_neg c2]
  by_cases c3 : b0 / 8 = 30 ∧ (1 < n ∧ b1 / 64 = 2) ∧ (2 < n ∧ b2 / 64 = 2) ∧ (3 < n ∧ b3 / 64 = 2)
  · rw [if_pos c3]
    split
    · rename_i c4
      exact fun _ => key _ _ (by unfold vrune; omega) (by rw [if_neg (by omega), if_neg (by omega), if_neg (by omega)]; rfl)
    · exact fun h => absurd rfl h
  rw [if_neg c3]
  exact fun h => absurd rfl h
theorem dN_fffd (n b0 b1 b2 b3 : Nat) (h0 : b0 < 256) (h1 : b1 < 256) (h2 : b2 < 256) (h3 : b3 < 256) (h : (decodeN n b0 b1 b2 b3).1 = 65533) : ¬ badN n b0 b1 b2 b3 ↔ (3 ≤ n ∧ b0 = 239 ∧ b1 = 191 ∧ b2 = 189) := by
  have key : ∀ (r w : Nat), (((r, w) : Nat × Nat)).1 = 65533 → (¬ ((r, w) : Nat × Nat) = (65533, 1) ↔ w ≠ 1) := fun r w h => by
    simp only at h
    subst h
    simp
  unfold badN
  revert h
  unfold decodeN
  by_cases c0 : b0 < 128
  · rw [if_pos c0]; intro h; rw [key _ _ h]; simp only at h; omega
  rw [if_neg c0]
  by_cases c1 : b0 / 32 = 6 ∧ (1 < n ∧ b1 / 64 = 2)
  · rw [if_pos c1]
    by_cases c2 : b0 % 32 * 64 + b1 % 64 ≥ 128
    · rw [if_pos c2]; intro h; rw [key _ _ h]; simp only at h; omega
    · rw [if_neg c2]; intro h; rw [key _ _ h]; omega
  rw [if_neg c1]
  by_cases c2 : b0 / 16 = 14 ∧ (1 < n ∧ b1 / 64 = 2) ∧ (2 < n ∧ b2 / 64 = 2)
  · rw [if_pos c2]
    split
    · rename_i c3; intro h; rw [key _ _ h]; simp only at h; omega
    · rename_i c3; intro h; rw [key _ _ h]; omega
  rw [if_neg c2]
  by_cases c3 : b0 / 8 = 30 ∧ (1 < n ∧ b1 / 64 = 2) ∧ (2 < n ∧ b2 / 64 = 2) ∧ (3 < n ∧ b3 / 64 = 2)
  · rw [if_pos c3]
    split
    · rename_i c4; intro h; rw [key _ _ h]; simp only at h; omega
    · rename_i c4; intro h; rw [key _ _ h]; omega
  rw [if_neg c3]
  intro h; rw [key _ _ h]; omega
/-- Byte i of a row, 0 beyond its end. -/
def gb (xs : List Int) (i : Nat) : Nat := (xs.getD i 0).toNat
theorem gb_lt {xs : List Int} (hx : isB xs) (i : Nat) : gb xs i < 256 := by
  unfold gb
  rw [List.getD_eq_getElem?_getD]
  by_cases h : i < xs.length
  · rw [List.getElem?_eq_getElem h]
    have := hx _ (List.getElem_mem h)
    simp only [Option.getD_some]
    omega
  · rw [List.getElem?_eq_none (by omega)]
    simp
theorem gb_drop (xs : List Int) (p i : Nat) : gb (xs.drop p) i = gb xs (p + i) := by
  unfold gb
  simp [List.getD_eq_getElem?_getD, List.getElem?_drop]
theorem dec_at {xs : List Int} (hx : isB xs) (p : Nat) : Utf8.decode (strOfNums xs) p = decodeN (xs.length - p) (gb xs p) (gb xs (p + 1)) (gb xs (p + 2)) (gb xs (p + 3)) := by
  rw [Go.Lib.decode_N, son_data, List.length_map]
  have : ∀ i : Nat, ((xs.map fun n => UInt8.ofNat n.toNat).getD i 0).toNat = gb xs i := by
    intro i
    have hl := gb_lt hx i
    have key : ∀ o : Option Int, (o.getD 0).toNat < 256 → ((o.map fun n => UInt8.ofNat n.toNat).getD 0).toNat = (o.getD 0).toNat := by
      intro o ho
      cases o with
      | none => rfl
      | some v =>
        simp only [Option.map_some, Option.getD_some, UInt8.toNat_ofNat'] at ho ⊢
        omega
    unfold gb at hl ⊢
    rw [List.getD_eq_getElem?_getD] at hl
    rw [List.getD_eq_getElem?_getD, List.getD_eq_getElem?_getD, List.getElem?_map]
    exact key _ hl
  rw [this, this, this, this]
/-- What stands at place p: nothing to be read (a broken byte). -/
def badAt (xs : List Int) (p : Nat) : Prop := badN (xs.length - p) (gb xs p) (gb xs (p + 1)) (gb xs (p + 2)) (gb xs (p + 3))
instance (xs : List Int) (p : Nat) : Decidable (badAt xs p) := by unfold badAt; infer_instance
def runeAt (xs : List Int) (p : Nat) : Int := ((decodeN (xs.length - p) (gb xs p) (gb xs (p + 1)) (gb xs (p + 2)) (gb xs (p + 3))).1 : Int)
def widAt (xs : List Int) (p : Nat) : Nat := (decodeN (xs.length - p) (gb xs p) (gb xs (p + 1)) (gb xs (p + 2)) (gb xs (p + 3))).2
theorem widAt_pos (xs : List Int) (p : Nat) : 1 ≤ widAt xs p := dN_pos _ _ _ _ _
theorem widAt_le (xs : List Int) (p : Nat) (h : p < xs.length) : p + widAt xs p ≤ xs.length := by
  have := dN_le (xs.length - p) (gb xs p) (gb xs (p + 1)) (gb xs (p + 2)) (gb xs (p + 3)) (by omega)
  unfold widAt
  omega
theorem good_at {xs : List Int} (hx : isB xs) {p : Nat} (h : ¬ badAt xs p) : vrune (runeAt xs p) ∧ widG (runeAt xs p) = (widAt xs p : Int) := dN_good _ _ _ _ _ (gb_lt hx _) h
theorem dec_rune {xs : List Int} (hx : isB xs) (p : Nat) : (((Utf8.decode (strOfNums xs) p).1 : Nat) : Int) = runeAt xs p := by rw [dec_at hx]; rfl
theorem dec_wid {xs : List Int} (hx : isB xs) (p : Nat) : (Utf8.decode (strOfNums xs) p).2 = widAt xs p := by rw [dec_at hx]; rfl
theorem take3 (xs : List Int) (p : Nat) : ((xs.drop p).take 3 = [239, 191, 189]) ↔ (3 ≤ xs.length - p ∧ xs.getD p 0 = 239 ∧ xs.getD (p + 1) 0 = 191 ∧ xs.getD (p + 2) 0 = 189) := by
  have e : ∀ i, xs.getD (p + i) 0 = (xs.drop p).getD i 0 := fun i => by simp [List.getD_eq_getElem?_getD, List.getElem?_drop]
  have hl : (xs.drop p).length = xs.length - p := by simp
  have e0 := e 0
  rw [Nat.add_zero] at e0
  rw [e0, e 1, e 2, ← hl]
  generalize xs.drop p = ys
  rcases ys with _ | ⟨a, _ | ⟨b, _ | ⟨c, ys⟩⟩⟩ <;> simp
theorem brk_at {xs : List Int} (hx : isB xs) (p : Nat) (hp : p ≤ xs.length) (r : Nat) (hr : (r : Int) = runeAt xs p) : brk (strOfNums xs) (p, r) = decide (badAt xs p) := by
  unfold brk glyph_broken.f
  simp only
  by_cases h : (r : Int) = 65533
  · have hk := dN_fffd (xs.length - p) (gb xs p) (gb xs (p + 1)) (gb xs (p + 2)) (gb xs (p + 3)) (gb_lt hx _) (gb_lt hx _) (gb_lt hx _) (gb_lt hx _) (by have := hr.symm.trans h; unfold runeAt at this; omega)
    have hsz := son_size xs
    rw [if_pos h, if_pos (by omega), if_pos (by omega), Int.toNat_natCast, son_extract, hsz, List.take_length]
    have e3 : (⟨#[239, 191, 189]⟩ : ByteArray) = strOfNums [239, 191, 189] := rfl
    have hs3 : (strOfNums [239, 191, 189]).size = 3 := rfl
    have i3 : isB [239, 191, 189] := by intro x hx; simp at hx; omega
    have hgb : ∀ i v, v < 256 → 0 ≤ v → (gb xs i = v.toNat ↔ (xs.getD i 0) = v) := by
      intro i v h1 h2
      unfold gb
      by_cases hi : i < xs.length
      · rw [List.getD_eq_getElem?_getD, List.getElem?_eq_getElem hi]
        have := hx _ (List.getElem_mem hi)
        simp only [Option.getD_some]
        omega
      · rw [List.getD_eq_getElem?_getD, List.getElem?_eq_none (by omega)]
        simp only [Option.getD_none]
        omega
    have hz : (strOfNums (xs.drop p)).size = xs.length - p := by rw [son_size]; simp
    have ht := take3 xs p
    rw [← hgb p 239 (by omega) (by omega), ← hgb (p + 1) 191 (by omega) (by omega), ← hgb (p + 2) 189 (by omega) (by omega)] at ht
    have hall := hk.trans ht.symm
    unfold strings_HasPrefix.f stringslite_HasPrefix.f
    rw [e3, hs3, hz]
    by_cases hc : ((xs.length - p : Nat) : Int) ≥ ((3 : Nat) : Int)
    · rw [if_pos hc, if_pos (by omega), if_pos (by omega), Int.toNat_natCast, son_extract]
      simp only [Option.bind_some, Option.getD_some, List.drop_zero]
      rw [Bool.eq_iff_iff, Bool.not_eq_true', beq_eq_false_iff_ne, decide_eq_true_iff, Ne, son_toList_inj (isB_take (isB_drop hx _) _) i3, ← hall, Decidable.not_not]
      rfl
    · rw [if_neg hc]
      simp only [Option.bind_some, Option.getD_some, Bool.not_false]
      rw [eq_comm, decide_eq_true_iff]
      refine Decidable.of_not_not fun hb => ?_
      have := (hk.1 hb).1
      omega
  · rw [if_neg h, Option.getD_some, eq_comm, decide_eq_false_iff_not]
    intro hb
    refine h (hr.trans ?_)
    unfold badAt badN at hb
    unfold runeAt
    rw [hb]
    rfl

/-! ### Pieces of a text -/
def endL (xs : List Int) (fr : Int) (e : Nat) : List (List Int × Int) := if fr < 0 then [] else [((xs.take e).drop fr.toNat, fr)]
/-- A text's pieces, byte by byte, from a place on. -/
def pcL (xs : List Int) : Nat → Nat → Bool → Int → List (List Int × Int)
  | 0, _, _, fr => endL xs fr xs.length
  | d + 1, pos, rm, fr =>
    if pos < xs.length then
      (if rm = true then pcL xs d (pos + 1) (gb xs pos != 10) fr
       else if gb xs pos = 35 then endL xs fr pos ++ pcL xs d (pos + 1) true (-1)
       else if gb xs pos = 59 then endL xs fr pos ++ ([59], (pos : Int)) :: pcL xs d (pos + 1) false (-1)
       else if gb xs pos = 9 ∨ gb xs pos = 10 ∨ gb xs pos = 13 ∨ gb xs pos = 32 then endL xs fr pos ++ pcL xs d (pos + 1) false (-1)
       else pcL xs d (pos + 1) false (if fr < 0 then (pos : Int) else fr))
    else endL xs fr xs.length
theorem pcL_end (xs : List Int) (d pos : Nat) (rm : Bool) (fr : Int) (h : ¬ pos < xs.length) : pcL xs d pos rm fr = endL xs fr xs.length := by cases d <;> simp [pcL, h]
theorem pcL_fuel (xs : List Int) : ∀ (d d' pos : Nat) (rm : Bool) (fr : Int), xs.length ≤ pos + d → xs.length ≤ pos + d' → pcL xs d pos rm fr = pcL xs d' pos rm fr
  | 0, d', pos, rm, fr, h, h' => by rw [pcL_end _ _ _ _ _ (by omega), pcL_end _ _ _ _ _ (by omega)]
  | d + 1, 0, pos, rm, fr, h, h' => by rw [pcL_end _ _ _ _ _ (by omega), pcL_end _ _ _ _ _ (by omega)]
  | d + 1, d' + 1, pos, rm, fr, h, h' => by
    have ih : ∀ rm fr, pcL xs d (pos + 1) rm fr = pcL xs d' (pos + 1) rm fr := fun rm fr => pcL_fuel xs d d' (pos + 1) rm fr (by omega) (by omega)
    simp only [pcL, ih]
/-- A byte of no meaning. -/
theorem pcL_skip (xs : List Int) (d pos : Nat) (rm : Bool) (fr : Int) (hp : pos < xs.length) (h : 128 ≤ gb xs pos) : pcL xs (d + 1) pos rm fr = pcL xs d (pos + 1) rm (if rm = true then fr else if fr < 0 then (pos : Int) else fr) := by
  simp only [pcL]
  rw [if_pos hp]
  cases rm with
  | true =>
    rw [if_pos rfl, if_pos rfl]
    congr 1
    simp; omega
  | false =>
    rw [if_neg (by decide), if_neg (by omega), if_neg (by omega), if_neg (by omega), if_neg (c := (false : Bool) = true) (by decide)]
theorem pcL_skips (xs : List Int) : ∀ (w d pos : Nat) (rm : Bool) (fr : Int), pos + w < xs.length → (∀ i, i ≤ w → 128 ≤ gb xs (pos + i)) → pcL xs (d + w + 1) pos rm fr = pcL xs d (pos + w + 1) rm (if rm = true then fr else if fr < 0 then (pos : Int) else fr)
  | 0, d, pos, rm, fr, hp, h => pcL_skip xs d pos rm fr (by omega) (h 0 (Nat.le_refl _))
  | w + 1, d, pos, rm, fr, hp, h => by
    rw [show d + (w + 1) + 1 = (d + w + 1) + 1 from by omega, pcL_skip xs (d + w + 1) pos rm fr (by omega) (h 0 (by omega)), pcL_skips xs w d (pos + 1) rm _ (by omega) (fun i hi => by have := h (i + 1) (by omega); rwa [show pos + (i + 1) = pos + 1 + i from by omega] at this), show pos + 1 + w + 1 = pos + (w + 1) + 1 from by omega]
    congr 1
    cases rm with
    | true => simp
    | false =>
      simp only [Bool.false_eq_true, if_false]
      by_cases hf : fr < 0
      · rw [if_pos hf, if_neg (by omega)]
      · rw [if_neg hf, if_neg hf]
theorem dN_ascii (n b0 b1 b2 b3 : Nat) (h : b0 < 128) : decodeN n b0 b1 b2 b3 = (b0, 1) := by
  unfold decodeN
  rw [if_pos h]
theorem dN_high (n b0 b1 b2 b3 : Nat) (h : ¬ b0 < 128) : 128 ≤ (decodeN n b0 b1 b2 b3).1 ∧ (decodeN n b0 b1 b2 b3).2 ≤ 4 ∧ (2 ≤ (decodeN n b0 b1 b2 b3).2 → 128 ≤ b1) ∧ (3 ≤ (decodeN n b0 b1 b2 b3).2 → 128 ≤ b2) ∧ (4 ≤ (decodeN n b0 b1 b2 b3).2 → 128 ≤ b3) := by
  unfold decodeN
  rw [if_neg h]
  repeat' split
  all_goals (simp only; omega)
theorem rune_low {xs : List Int} {p : Nat} (h : gb xs p < 128) : runeAt xs p = (gb xs p : Int) ∧ widAt xs p = 1 := by
  unfold runeAt widAt
  rw [dN_ascii _ _ _ _ _ h]
  exact ⟨rfl, rfl⟩
theorem rune_high {xs : List Int} {p : Nat} (h : ¬ gb xs p < 128) : 128 ≤ runeAt xs p ∧ ∀ i, i < widAt xs p → 128 ≤ gb xs (p + i) := by
  obtain ⟨h1, h2, h3, h4, h5⟩ := dN_high (xs.length - p) (gb xs p) (gb xs (p + 1)) (gb xs (p + 2)) (gb xs (p + 3)) h
  unfold runeAt widAt
  refine ⟨by omega, fun i hi => ?_⟩
  rcases i with _ | _ | _ | _ | i
  · simpa using h
  · exact h3 (by omega)
  · exact h4 (by omega)
  · exact h5 (by omega)
  · omega

theorem clsK_high {x : Int} (h : 128 ≤ x) : clsK x ≠ 3 := by
  unfold clsK classG
  split
  · omega
  · rw [if_pos (by omega)]; omega
theorem clsK_low {x : Int} (h0 : 0 ≤ x) (h : x < 128) : clsK x = 3 ↔ (x = 9 ∨ x = 10 ∨ x = 13 ∨ x = 32) := by
  have hw : ¬ widK x = 0 := by rw [widK_ok (by unfold vruneK; omega), if_pos h]; omega
  unfold clsK classG
  rw [if_neg hw]
  repeat' split
  all_goals omega
theorem rune_rng {xs : List Int} (hx : isB xs) (p : Nat) : 0 ≤ runeAt xs p ∧ runeAt xs p ≤ 1114111 := by
  by_cases hb : badAt xs p
  · unfold badAt badN at hb
    unfold runeAt
    rw [hb]
    simp only
    omega
  · have := (good_at hx hb).1
    unfold vrune at this
    omega
def mapP (l : List (List Int × Int)) : List (ByteArray × Int) := l.map fun p => (strOfNums p.1, p.2)
theorem end_is (xs : List Int) (fr : Int) (e : Nat) : pcEnd (strOfNums xs) fr e = mapP (endL xs fr e) := by
  unfold pcEnd endL mapP
  split
  · rfl
  · rw [son_extract]; rfl
theorem mapP_app (a b : List (List Int × Int)) : mapP (a ++ b) = mapP a ++ mapP b := List.map_append
theorem semi_is : (⟨#[59]⟩ : ByteArray) = strOfNums [59] := rfl
theorem pcG_is {xs : List Int} (hx : isB xs) : ∀ (d d' pos : Nat) (rm : Bool) (fr : Int), pos ≤ xs.length → xs.length ≤ pos + d → xs.length ≤ pos + d' → pcG (strOfNums xs) clsK d pos rm fr = mapP (pcL xs d' pos rm fr)
  | 0, d', pos, rm, fr, hp, h, h' => by
    rw [pcL_end _ _ _ _ _ (by omega)]
    simp only [pcG]
    rw [end_is, son_size]
  | d + 1, d', pos, rm, fr, hp, h, h' => by
    by_cases hlt : pos < xs.length
    · simp only [pcG]
      rw [if_pos (by rw [son_size]; exact hlt), dec_rune hx, dec_wid hx]
      have hrr := rune_rng hx pos
      have hwp := widAt_pos xs pos
      have hwl := widAt_le xs pos hlt
      rw [show wrap64 (runeAt xs pos) = runeAt xs pos from w64 (by omega)]
      have ih : ∀ rm fr, pcG (strOfNums xs) clsK d (pos + widAt xs pos) rm fr = mapP (pcL xs xs.length (pos + widAt xs pos) rm fr) := fun rm fr => pcG_is hx d xs.length _ rm fr hwl (by omega) (by omega)
      rw [ih, ih, ih, ih]
      rw [pcL_fuel xs d' (xs.length + (widAt xs pos - 1) + 1) pos rm fr h' (by omega)]
      by_cases hg : gb xs pos < 128
      · obtain ⟨e1, e2⟩ := rune_low hg
        rw [e1, e2]
        simp only [Nat.sub_self, Nat.add_zero, pcL]
        rw [if_pos hlt, end_is, semi_is]
        cases rm with
        | true =>
          rw [if_pos rfl, if_pos rfl]
          congr 2
          by_cases h10 : gb xs pos = 10
          · rw [h10]; rfl
          · rw [bne_iff_ne.mpr h10, bne_iff_ne.mpr (show ((gb xs pos : Nat) : Int) ≠ 10 by omega)]
        | false =>
          rw [if_neg (c := (false : Bool) = true) (by decide), if_neg (c := (false : Bool) = true) (by decide)]
          by_cases c1 : gb xs pos = 35
          · rw [if_pos (by omega), if_pos c1, mapP_app]
          rw [if_neg (by omega), if_neg c1]
          by_cases c2 : gb xs pos = 59
          · rw [if_pos (by omega), if_pos c2, mapP_app]; rfl
          rw [if_neg (by omega), if_neg c2]
          have hc := clsK_low (x := (gb xs pos : Int)) (by omega) (by omega)
          by_cases c3 : gb xs pos = 9 ∨ gb xs pos = 10 ∨ gb xs pos = 13 ∨ gb xs pos = 32
          · rw [if_pos (hc.2 (by omega)), if_pos c3, mapP_app]
          · rw [if_neg (fun e => c3 (by have := hc.1 e; omega)), if_neg c3]
      · obtain ⟨e1, e2⟩ := rune_high hg
        rw [pcL_skips xs (widAt xs pos - 1) xs.length pos rm fr (by omega) (fun i hi => e2 i (by omega)), show pos + (widAt xs pos - 1) + 1 = pos + widAt xs pos from by omega]
        cases rm with
        | true =>
          rw [if_pos rfl, if_pos rfl, bne_iff_ne.mpr (by omega)]
        | false =>
          rw [if_neg (c := (false : Bool) = true) (by decide), if_neg (by omega), if_neg (by omega), if_neg (clsK_high e1), if_neg (c := (false : Bool) = true) (by decide)]
    · rw [pcL_end _ _ _ _ _ hlt, pcG_end _ _ _ _ _ _ (by rw [son_size]; exact hlt), end_is, son_size]
theorem pieces_is {xs : List Int} (hx : isB xs) : pcG (strOfNums xs) clsK (strOfNums xs).size 0 false (-1) = mapP (pcL xs xs.length 0 false (-1)) := by
  rw [son_size]
  exact pcG_is hx _ _ 0 false (-1) (by omega) (by omega) (by omega)
theorem bt_gb {xs : List Int} (hx : isB xs) {p : Nat} (h : p < xs.length) : bt (strOfNums xs) (p : Int) = (gb xs p : Int) := by
  rw [son_bt hx (p : Int) (by omega) (by omega)]
  unfold rd gb
  rw [Int.toNat_natCast, List.getD_eq_getElem?_getD, List.getElem?_eq_getElem h, Option.getD_some]
  have := hx _ (List.getElem_mem h)
  omega

/-! ### Numbers' texts -/
def dig (c : Int) : Prop := 48 ≤ c ∧ c ≤ 57
instance (c : Int) : Decidable (dig c) := by unfold dig; infer_instance
def valL : List Int → Int → Int
  | [], n => n
  | c :: cs, n => valL cs (10 * n + (c - 48))
/-- A number's digits. -/
def digL (n : Nat) : List Int := if h : n < 10 then [48 + (n : Int)] else digL (n / 10) ++ [48 + ((n % 10 : Nat) : Int)]
termination_by n
decreasing_by omega
theorem digL_small {n : Nat} (h : n < 10) : digL n = [48 + (n : Int)] := by rw [digL]; simp [h]
theorem digL_big {n : Nat} (h : ¬ n < 10) : digL n = digL (n / 10) ++ [48 + ((n % 10 : Nat) : Int)] := by rw [digL]; simp [h]
theorem valL_app : ∀ (xs ys : List Int) (n : Int), valL (xs ++ ys) n = valL ys (valL xs n)
  | [], _, _ => rfl
  | c :: cs, ys, n => valL_app cs ys _
theorem valL_mono : ∀ (xs : List Int) (n : Int), (∀ c ∈ xs, dig c) → 0 ≤ n → n * 10 ^ xs.length ≤ valL xs n ∧ valL xs n < (n + 1) * 10 ^ xs.length
  | [], n, _, _ => by simp [valL]; omega
  | c :: cs, n, h, hn => by
    have hc := h c (by simp)
    unfold dig at hc
    have ih := valL_mono cs (10 * n + (c - 48)) (fun z hz => h z (by simp [hz])) (by omega)
    simp only [valL, List.length_cons]
    have hp : (0 : Int) < 10 ^ cs.length := Int.pow_pos (by decide)
    have e : (10 : Int) ^ (cs.length + 1) = 10 * 10 ^ cs.length := by rw [Int.pow_succ, Int.mul_comm]
    obtain ⟨P, hP⟩ : ∃ P : Int, (10 : Int) ^ cs.length = P := ⟨_, rfl⟩
    rw [hP] at ih hp e
    rw [e]
    have e1 : n * (10 * P) = (10 * n) * P := by rw [← Int.mul_assoc, Int.mul_comm n 10]
    have e2 : (n + 1) * (10 * P) = (10 * (n + 1)) * P := by rw [← Int.mul_assoc, Int.mul_comm (n + 1) 10]
    rw [e1, e2]
    constructor
    · exact Int.le_trans (Int.mul_le_mul_of_nonneg_right (by omega) (by omega)) ih.1
    · exact Int.lt_of_lt_of_le ih.2 (Int.mul_le_mul_of_nonneg_right (by omega) (by omega))
theorem snoc_cases {α : Type} (xs : List α) : xs = [] ∨ ∃ ys c, xs = ys ++ [c] := by
  rcases List.eq_nil_or_concat xs with h | ⟨ys, c, h⟩
  · exact .inl h
  · exact .inr ⟨ys, c, by simpa using h⟩
theorem val_nonneg {xs : List Int} (h : ∀ c ∈ xs, dig c) : 0 ≤ valL xs 0 := by
  have := (valL_mono xs 0 h (by omega)).1
  simpa using this
theorem val_pos {c : Int} {cs : List Int} (h : ∀ z ∈ c :: cs, dig z) (hc : c ≠ 48) : 10 ^ cs.length ≤ valL (c :: cs) 0 := by
  have h0 := h c (by simp)
  unfold dig at h0
  have := (valL_mono cs (10 * 0 + (c - 48)) (fun z hz => h z (by simp [hz])) (by omega)).1
  have hp : (0 : Int) ≤ 10 ^ cs.length := Int.le_of_lt (Int.pow_pos (by decide))
  refine Int.le_trans ?_ this
  have := Int.mul_le_mul_of_nonneg_right (show (1 : Int) ≤ 10 * 0 + (c - 48) by omega) hp
  rwa [Int.one_mul] at this
/-- No digit too many ahead. -/
def canon (xs : List Int) : Prop := (∀ c ∈ xs, dig c) ∧ xs ≠ [] ∧ (xs.getD 0 0 = 48 → xs.length = 1)
theorem digL_val : ∀ (m : Nat) (xs : List Int), xs.length = m → canon xs → digL (valL xs 0).toNat = xs
  | 0, xs, hm, h => absurd (List.eq_nil_of_length_eq_zero hm) h.2.1
  | m + 1, xs, hm, h => by
    rcases snoc_cases xs with rfl | ⟨ys, c, rfl⟩
    · exact absurd rfl h.2.1
    · have hc := h.1 c (by simp)
      unfold dig at hc
      rw [valL_app]
      simp only [valL]
      rcases ys with _ | ⟨y, ys⟩
      · simp only [valL, List.nil_append]
        rw [digL_small (by omega)]
        congr 1
        omega
      · have hy : ∀ z ∈ y :: ys, dig z := fun z hz => h.1 z (by simp at hz ⊢; rcases hz with hz | hz <;> simp [hz])
        have hy48 : y ≠ 48 := fun e => by
          have := h.2.2 (by simp [e])
          simp at this
        have hv := val_pos hy hy48
        have hp : (1 : Int) ≤ 10 ^ ys.length := Int.add_one_le_iff.2 (Int.pow_pos (by decide))
        have ih := digL_val m (y :: ys) (by simp at hm ⊢; omega) ⟨hy, by simp, fun e => absurd (by simpa using e) hy48⟩
        obtain ⟨v, hvv⟩ : ∃ v, valL (y :: ys) 0 = v := ⟨_, rfl⟩
        rw [hvv] at hv ih ⊢
        rw [digL_big (by omega), show (10 * v + (c - 48)).toNat / 10 = v.toNat from by omega, ih]
        congr 2
        omega
theorem digL_ne (n : Nat) : digL n ≠ [] := by
  by_cases h : n < 10
  · rw [digL_small h]; simp
  · rw [digL_big h]; simp
theorem digL_canon (n : Nat) : canon (digL n) ∧ valL (digL n) 0 = (n : Int) ∧ ((digL n).getD 0 0 = 48 → n = 0) := by
  induction n using Nat.strongRecOn with
  | ind n ih =>
    by_cases h : n < 10
    · rw [digL_small h]
      refine ⟨⟨?_, by simp, by simp⟩, ?_, ?_⟩
      · intro c hc
        simp at hc
        unfold dig
        omega
      · simp only [valL]; omega
      · simp; omega
    · obtain ⟨⟨h1, h2, h3⟩, h4, h5⟩ := ih (n / 10) (by omega)
      rw [digL_big h]
      have hg : (digL (n / 10) ++ [48 + ((n % 10 : Nat) : Int)]).getD 0 0 = (digL (n / 10)).getD 0 0 := by
        rcases hd : digL (n / 10) with _ | ⟨a, l⟩
        · exact absurd hd (digL_ne _)
        · rfl
      have hne : (digL (n / 10)).getD 0 0 ≠ 48 := fun e => by have := h5 e; omega
      refine ⟨⟨?_, by simp, ?_⟩, ?_, ?_⟩
      · intro c hc
        rcases List.mem_append.1 hc with hc | hc
        · exact h1 c hc
        · simp at hc
          unfold dig
          omega
      · rw [hg]; exact fun e => absurd e hne
      · rw [valL_app, h4]
        simp only [valL]
        omega
      · rw [hg]; exact fun e => absurd e hne
theorem canon_iff (xs : List Int) (h : ∀ c ∈ xs, dig c) : canon xs ↔ digL (valL xs 0).toNat = xs := by
  constructor
  · exact fun hc => digL_val _ xs rfl hc
  · intro e
    rw [← e]
    exact (digL_canon _).1
theorem canon_len {xs : List Int} (h : canon xs) (hv : valL xs 0 ≤ 1099511627776) : xs.length ≤ 13 := by
  obtain ⟨h1, h2, h3⟩ := h
  rcases xs with _ | ⟨c, cs⟩
  · exact absurd rfl h2
  · by_cases hc : c = 48
    · have := h3 (by simp [hc]); omega
    · have hp := val_pos h1 hc
      refine Decidable.of_not_not fun hl => ?_
      have : (10 : Int) ^ 13 ≤ 10 ^ cs.length := by
        obtain ⟨m, hm⟩ : ∃ m, cs.length = 13 + m := ⟨cs.length - 13, by simp at hl; omega⟩
        rw [hm, Int.pow_add]
        have h1 : (1 : Int) ≤ 10 ^ m := Int.add_one_le_iff.2 (Int.pow_pos (by decide))
        have := Int.mul_le_mul_of_nonneg_left h1 (show (0 : Int) ≤ 10 ^ 13 by decide)
        rwa [Int.mul_one] at this
      omega
theorem isB_digL (n : Nat) : isB (digL n) := fun c hc => by
  have := (digL_canon n).1.1 c hc
  unfold dig at this
  omega
theorem canon_len' (n : Nat) (h : n < 1000000000000000000) : (digL n).length ≤ 1000000 := by
  have hc := digL_canon n
  rcases hd : digL n with _ | ⟨c, cs⟩
  · simp
  · rw [hd] at hc
    by_cases h48 : c = 48
    · have := hc.1.2.2 (by simp [h48])
      omega
    · have hp := val_pos hc.1.1 h48
      rw [hc.2.1] at hp
      refine Decidable.of_not_not fun hl => ?_
      have : (10 : Int) ^ 20 ≤ 10 ^ cs.length := by
        obtain ⟨m, hm⟩ : ∃ m, cs.length = 20 + m := ⟨cs.length - 20, by simp at hl; omega⟩
        rw [hm, Int.pow_add]
        have h1 : (1 : Int) ≤ 10 ^ m := Int.add_one_le_iff.2 (Int.pow_pos (by decide))
        have := Int.mul_le_mul_of_nonneg_left h1 (show (0 : Int) ≤ 10 ^ 20 by decide)
        rwa [Int.mul_one] at this
      omega

/-! ### Numbers read -/
theorem drop_gb {xs : List Int} (hx : isB xs) {p : Nat} (h : p < xs.length) : xs.drop p = (gb xs p : Int) :: xs.drop (p + 1) := by
  rw [List.drop_eq_getElem_cons h]
  congr 1
  unfold gb
  rw [List.getD_eq_getElem?_getD, List.getElem?_eq_getElem h, Option.getD_some]
  have := hx _ (List.getElem_mem h)
  omega
instance (xs : List Int) : Decidable (canon xs) := by unfold canon; infer_instance
theorem numG_is {xs : List Int} (hx : isB xs) (hl : xs.length ≤ 15) : ∀ (d pos : Nat) (n : Int), pos ≤ xs.length → xs.length ≤ pos + d → 0 ≤ n → n < 10 ^ pos → numG (strOfNums xs) d pos n = if (∀ c ∈ xs.drop pos, dig c) then some (valL (xs.drop pos) n) else none
  | 0, pos, n, hp, hd, h0, hn => by
    rw [List.drop_eq_nil_of_le (by omega)]
    simp [numG, valL]
  | d + 1, pos, n, hp, hd, h0, hn => by
    by_cases hlt : pos < xs.length
    · simp only [numG]
      rw [if_pos (by rw [son_size]; exact hlt), dec_rune hx, dec_wid hx, drop_gb hx hlt]
      have hb : (10 : Int) ^ pos ≤ 10 ^ 15 := by
        obtain ⟨m, hm⟩ : ∃ m, 15 = pos + m := ⟨15 - pos, by omega⟩
        rw [hm, Int.pow_add]
        have h1 : (1 : Int) ≤ 10 ^ m := Int.add_one_le_iff.2 (Int.pow_pos (by decide))
        have h2 : (0 : Int) ≤ 10 ^ pos := Int.le_of_lt (Int.pow_pos (by decide))
        have := Int.mul_le_mul_of_nonneg_left h1 h2
        rwa [Int.mul_one] at this
      by_cases hg : gb xs pos < 128
      · obtain ⟨e1, e2⟩ := rune_low hg
        rw [e1, e2]
        by_cases hd2 : dig (gb xs pos : Int)
        · have hd3 := hd2
          unfold dig at hd3
          have hw : wrap64 (wrap64 (10 * n) + wrap64 (wrap32 ((gb xs pos : Int) - 48))) = 10 * n + ((gb xs pos : Int) - 48) := by
            rw [show wrap32 ((gb xs pos : Int) - 48) = (gb xs pos : Int) - 48 from by unfold wrap32; omega, w64 (x := (gb xs pos : Int) - 48) (by omega), w64 (x := 10 * n) (by omega), w64 (by omega)]
          rw [if_neg (by omega), hw, numG_is hx hl d (pos + 1) _ (by omega) (by omega) (by omega) (by rw [Int.pow_succ]; omega)]
          simp only [valL, List.forall_mem_cons]
          by_cases ha : ∀ c ∈ xs.drop (pos + 1), dig c
          · rw [if_pos ha, if_pos ⟨hd2, ha⟩]
          · rw [if_neg ha, if_neg (fun h => ha h.2)]
        · rw [if_pos (by unfold dig at hd2; omega), if_neg (fun h => hd2 (h _ (by simp)))]
      · obtain ⟨e1, e2⟩ := rune_high hg
        rw [if_pos (by omega), if_neg (fun h => by have := h _ (List.mem_cons_self); unfold dig at this; omega)]
    · rw [numG_end _ _ _ _ (by rw [son_size]; exact hlt), List.drop_eq_nil_of_le (by omega)]
      simp [valL]
/-- The number that a text tells, or none. -/
def numZ (xs : List Int) : Int × Bool :=
  if 1 < xs.length ∧ xs.getD 0 0 = 45 then (if canon (xs.drop 1) ∧ valL (xs.drop 1) 0 ≤ 1099511627776 ∧ xs.getD 1 0 ≠ 48 then (-(valL (xs.drop 1) 0), true) else (0, false))
  else if canon xs ∧ valL xs 0 ≤ 1099511627776 then (valL xs 0, true) else (0, false)
theorem bt0 {xs : List Int} (hx : isB xs) (h : 0 < xs.length) : bt (strOfNums xs) 0 = xs.getD 0 0 := by
  have := son_bt hx 0 (by omega) (by omega)
  rw [this]; rfl
theorem val_15 {xs : List Int} (h : ∀ c ∈ xs, dig c) (hl : xs.length ≤ 15) : valL xs 0 < 10 ^ 15 := by
  have h1 := (valL_mono xs 0 h (by omega)).2
  have h2 : (10 : Int) ^ xs.length ≤ 10 ^ 15 := by
    obtain ⟨m, hm⟩ : ∃ m, 15 = xs.length + m := ⟨15 - xs.length, by omega⟩
    rw [hm, Int.pow_add]
    have h1 : (1 : Int) ≤ 10 ^ m := Int.add_one_le_iff.2 (Int.pow_pos (by decide))
    have h2 : (0 : Int) ≤ 10 ^ xs.length := Int.le_of_lt (Int.pow_pos (by decide))
    have := Int.mul_le_mul_of_nonneg_left h1 h2
    rwa [Int.mul_one] at this
  simp only [Int.zero_add, Int.one_mul] at h1
  omega
theorem digN_is {xs : List Int} (hx : isB xs) (mn : Bool) : digN (strOfNums xs) mn = if canon xs ∧ valL xs 0 ≤ 1099511627776 ∧ (mn = true → xs.getD 0 0 ≠ 48) then ((if mn = true then -(valL xs 0) else valL xs 0), true) else (0, false) := by
  unfold digN
  rw [son_size]
  by_cases h0 : xs.length = 0
  · rw [if_pos (.inl h0), if_neg (fun h => h.1.2.1 (List.eq_nil_of_length_eq_zero h0))]
  rw [bt0 hx (by omega)]
  by_cases h13 : 13 < xs.length
  · rw [if_pos (.inr (.inl h13)), if_neg (fun h => by have := canon_len h.1 h.2.1; omega)]
  by_cases hz : xs.getD 0 0 = 48 ∧ (mn = true ∨ 1 < xs.length)
  · rw [if_pos (.inr (.inr hz)), if_neg]
    rintro ⟨h1, h2, h3⟩
    rcases hz.2 with h | h
    · exact h3 h hz.1
    · have := h1.2.2 hz.1
      omega
  · rw [if_neg (by rintro (h | h | h); exact h0 h; exact h13 h; exact hz h), numG_is hx (by omega) _ 0 0 (by omega) (by omega) (by omega) (by simp), List.drop_zero]
    by_cases ha : ∀ c ∈ xs, dig c
    · have hv := val_15 ha (by omega)
      have hn := val_nonneg ha
      have hc : canon xs := ⟨ha, fun e => h0 (by rw [e]; rfl), fun e => Decidable.of_not_not fun hl => hz ⟨e, .inr (by omega)⟩⟩
      rw [if_pos ha]
      simp only [endN]
      by_cases hm : 1099511627776 < valL xs 0
      · rw [if_pos hm, if_neg (fun h => by have := h.2.1; omega)]
      · rw [if_neg hm, if_pos (c := canon xs ∧ valL xs 0 ≤ 1099511627776 ∧ (mn = true → xs.getD 0 0 ≠ 48)) ⟨hc, by omega, fun e h => hz ⟨h, .inl e⟩⟩, w64 (by omega)]
        cases mn <;> rfl
    · rw [if_neg ha, if_neg (fun h => ha h.1.1)]
      rfl
theorem numberF_is {xs : List Int} (hx : isB xs) : numberF (strOfNums xs) = numZ xs := by
  unfold numberF numZ
  rw [son_size]
  by_cases h : 1 < xs.length ∧ xs.getD 0 0 = 45
  · rw [if_pos ⟨h.1, by rw [bt0 hx (by omega)]; exact h.2⟩, if_pos h, son_extract, List.take_length, digN_is (isB_drop hx 1)]
    have e : (xs.drop 1).getD 0 0 = xs.getD 1 0 := by simp [List.getD_eq_getElem?_getD, List.getElem?_drop]
    rw [e]
    simp only [if_true, true_implies]
  · have hh : ¬ (1 < xs.length ∧ bt (strOfNums xs) 0 = 45) := fun hc => h ⟨hc.1, by rw [← bt0 hx (by omega)]; exact hc.2⟩
    rw [if_neg hh, if_neg h, digN_is hx]
    simp

/-! ### The document's digits -/
theorem Digits10_is : ∀ (k n : Nat), n < 10 ^ k → n < 1000000000000000000 → argosyref10_Digits.f (k + 2) (n : Int) = some (strOfNums (digL n))
  | k, n, h, hb => by
    have small : ∀ (k' : Nat) (m : Nat), m < 10 → argosyref10_Digits.f (k' + 1) (m : Int) = some (strOfNums (digL m)) := by
      intro k' m hm
      have hmx : mx (m : Int) 0 = m := by unfold mx; omega
      simp only [argosyref10_Digits.f]
      rw [if_pos (by omega), hmx, w64 (by omega), if_pos (by omega), if_pos (by omega), if_pos (by omega), digL_small hm, Int.toNat_natCast, show ((m : Int) + 1).toNat = m + 1 from by omega]
      have e : (⟨#[48, 49, 50, 51, 52, 53, 54, 55, 56, 57]⟩ : ByteArray) = strOfNums [48, 49, 50, 51, 52, 53, 54, 55, 56, 57] := rfl
      rw [e, son_extract]
      obtain rfl | rfl | rfl | rfl | rfl | rfl | rfl | rfl | rfl | rfl : m = 0 ∨ m = 1 ∨ m = 2 ∨ m = 3 ∨ m = 4 ∨ m = 5 ∨ m = 6 ∨ m = 7 ∨ m = 8 ∨ m = 9 := by omega
      all_goals rfl
    by_cases hs : n < 10
    · exact small (k + 1) n hs
    · obtain ⟨k, rfl⟩ : ∃ m, k = m + 1 := ⟨k - 1, by
        rcases k with _ | k
        · simp at h; omega
        · rfl⟩
      have hq : n / 10 < 10 ^ k := by
        rw [Nat.pow_succ] at h
        omega
      have ih := Digits10_is k (n / 10) hq (by omega)
      have hr := small (k + 1) (n % 10) (by omega)
      rw [show k + 1 + 2 = (k + 2) + 1 from by omega]
      rw [argosyref10_Digits.f]
      have e1 : wrap64 (Int.tdiv (n : Int) 10) = ((n / 10 : Nat) : Int) := by
        rw [Int.tdiv_eq_ediv_of_nonneg (by omega)]
        rw [w64 (by omega)]
        omega
      have e2 : Int.tmod (n : Int) 10 = ((n % 10 : Nat) : Int) := by
        rw [Int.tmod_eq_emod_of_nonneg (by omega)]
        omega
      rw [if_neg (by omega), e1, e2, ih, hr, Option.bind_some, Option.bind_some, if_pos, digL_big hs, digL_small (n := n % 10) (by omega), son_append]
      rw [son_size, son_size, digL_small (n := n % 10) (by omega)]
      have hlen := canon_len' (n / 10) (by omega)
      simp
      omega
/-- A number's text. -/
def digZ (n : Int) : List Int := if n < 0 then 45 :: digL (-n).toNat else digL n.toNat
theorem digZ_isB (n : Int) : isB (digZ n) := by
  unfold digZ
  split
  · intro x hx
    rcases List.mem_cons.1 hx with rfl | hx
    · omega
    · exact isB_digL _ x hx
  · exact isB_digL _
theorem Digits_is {k : Nat} (hk : 20 ≤ k) {n : Int} (h : -100000000000000000 ≤ n ∧ n ≤ 100000000000000000) : argosyref27_Digits.f k n = some (strOfNums (digZ n)) := by
  obtain ⟨k, rfl⟩ : ∃ m, k = m + 2 := ⟨k - 2, by omega⟩
  have hp : 100000000000000000 < 10 ^ k := by
    obtain ⟨m, rfl⟩ : ∃ m, k = 18 + m := ⟨k - 18, by omega⟩
    rw [Nat.pow_add]
    have : 1 ≤ 10 ^ m := Nat.pos_iff_ne_zero.2 (by simp)
    omega
  unfold argosyref27_Digits.f digZ
  by_cases hn : n < 0
  · have e := Digits10_is k (-n).toNat (by omega) (by omega)
    rw [show (((-n).toNat : Nat) : Int) = -n from by omega] at e
    rw [if_pos hn, if_pos hn, w64 (by omega), e, Option.bind_some, if_pos]
    · rw [show (⟨#[45]⟩ : ByteArray) = strOfNums [45] from rfl, ← son_append]
      rfl
    · rw [son_size]
      have := canon_len' (-n).toNat (by omega)
      omega
  · have e := Digits10_is k n.toNat (by omega) (by omega)
    rw [show ((n.toNat : Nat) : Int) = n from by omega] at e
    rw [if_neg hn, if_neg hn, e, Option.bind_some]

/-! ### The document's numbers -/
def finZ (xs : List Int) (v sg : Int) : Int × Bool := if v ≤ 1099511627776 ∧ digZ (sg * v) = xs then (sg * v, true) else (0, false)
theorem is_is (v : Int) (h : 0 ≤ v) : argosyref27_is.f v = some (decide (v ≤ 1099511627776)) := by
  unfold argosyref27_is.f
  rw [if_pos (by omega)]
theorem rNum_loop {xs : List Int} (hx : isB xs) (hl : xs.length ≤ 15) (sg : Int) (hsg : sg = 1 ∨ sg = -1) : ∀ (d p k : Nat) (n : Int), xs.length = p + d → 2 * d + 21 ≤ k → 0 ≤ n → n < 10 ^ p → ¬ (p = 0 ∧ xs.getD 0 0 = 45) → argosyref27_Number.l0 k (strOfNums xs) n sg (p : Int) = some (if (∀ c ∈ xs.drop p, dig c) then finZ xs (valL (xs.drop p) n) sg else (0, false))
  | 0, p, k, n, hd, hk, h0, hn, hp => by
    obtain ⟨k, rfl⟩ : ∃ m, k = m + 1 := ⟨k - 1, by omega⟩
    have hb : (10 : Int) ^ p ≤ 10 ^ 15 := by
      obtain ⟨m, hm⟩ : ∃ m, 15 = p + m := ⟨15 - p, by omega⟩
      rw [hm, Int.pow_add]
      have h1 : (1 : Int) ≤ 10 ^ m := Int.add_one_le_iff.2 (Int.pow_pos (by decide))
      have h2 : (0 : Int) ≤ 10 ^ p := Int.le_of_lt (Int.pow_pos (by decide))
      have := Int.mul_le_mul_of_nonneg_left h1 h2
      rwa [Int.mul_one] at this
    have hw : wrap64 (sg * n) = sg * n := by rcases hsg with rfl | rfl <;> exact w64 (by omega)
    simp only [argosyref27_Number.l0]
    rw [if_neg (by rw [son_size]; omega), is_is _ h0, Option.bind_some, hw, List.drop_eq_nil_of_le (by omega)]
    simp only [valL]
    rw [if_pos (c := ∀ c ∈ ([] : List Int), dig c) (by simp)]
    unfold finZ
    by_cases hv : n ≤ 1099511627776
    · rw [if_pos (decide_eq_true hv), Digits_is (by omega) (by rcases hsg with rfl | rfl <;> omega), Option.bind_some]
      by_cases he : digZ (sg * n) = xs
      · rw [if_pos (by rw [he]), if_pos ⟨hv, he⟩]
      · rw [if_neg (fun e => he ((son_toList_inj (digZ_isB _) hx).1 e)), if_neg (fun h => he h.2)]
    · rw [if_neg (by simpa using hv), if_neg (fun h => hv h.1)]
  | d + 1, p, k, n, hd, hk, h0, hn, hp => by
    obtain ⟨k, rfl⟩ : ∃ m, k = m + 2 := ⟨k - 2, by omega⟩
    have hlt : p < xs.length := by omega
    have hb : (10 : Int) ^ p ≤ 10 ^ 15 := by
      obtain ⟨m, hm⟩ : ∃ m, 15 = p + m := ⟨15 - p, by omega⟩
      rw [hm, Int.pow_add]
      have h1 : (1 : Int) ≤ 10 ^ m := Int.add_one_le_iff.2 (Int.pow_pos (by decide))
      have h2 : (0 : Int) ≤ 10 ^ p := Int.le_of_lt (Int.pow_pos (by decide))
      have := Int.mul_le_mul_of_nonneg_left h1 h2
      rwa [Int.mul_one] at this
    have hg : bt (strOfNums xs) (p : Int) = (gb xs p : Int) := bt_gb hx hlt
    have hg0 : gb xs p < 256 := gb_lt hx p
    have hstep : argosyref27_Number.l0 (k + 2) (strOfNums xs) n sg (p : Int) = argosyref27_Number.j1 (k + 1) (strOfNums xs) n sg (p : Int) false := by
      rw [show k + 2 = (k + 1) + 1 from rfl]
      simp only [argosyref27_Number.l0]
      rw [if_pos (by rw [son_size]; omega)]
      by_cases h00 : p = 0
      · subst h00
        rw [if_pos (c := ((0 : Nat) : Int) = 0) rfl, if_pos (by omega), hg]
        have : (gb xs 0 : Int) ≠ 45 := fun e => hp ⟨rfl, by
          have h1 := bt0 hx hlt
          have h2 : bt (strOfNums xs) 0 = (gb xs 0 : Int) := hg
          omega⟩
        rw [beq_eq_false_iff_ne.mpr this]
      · rw [if_neg (by omega)]
    rw [hstep, drop_gb hx hlt]
    simp only [argosyref27_Number.j1]
    rw [if_neg (by decide), if_pos (by omega), if_pos (by rw [son_size]; omega), hg]
    by_cases hd2 : dig (gb xs p : Int)
    · have hd3 := hd2
      unfold dig at hd3
      rw [if_neg (by omega), if_neg (by omega), w64 (x := 10 * n) (by omega), show ((gb xs p : Int) - 48) % 256 = (gb xs p : Int) - 48 from by omega, w64 (by omega), w64 (by omega), show (p : Int) + 1 = ((p + 1 : Nat) : Int) from by omega, rNum_loop hx hl sg hsg d (p + 1) k _ (by omega) (by omega) (by omega) (by rw [Int.pow_succ]; omega) (by omega)]
      simp only [valL, List.forall_mem_cons]
      by_cases ha : ∀ c ∈ xs.drop (p + 1), dig c
      · rw [if_pos ha, if_pos ⟨hd2, ha⟩]
      · rw [if_neg ha, if_neg (fun h => ha h.2)]
    · rw [if_neg (c := ∀ c ∈ _, dig c) (fun h => hd2 (h _ (by simp)))]
      unfold dig at hd2
      by_cases h48 : (gb xs p : Int) < 48
      · rw [if_pos h48]
      · rw [if_neg h48, if_pos (by omega)]
theorem rNumber_is {xs : List Int} (hx : isB xs) {k : Nat} (hk : 60 ≤ k) : argosyref27_Number.f k (strOfNums xs) = some (numZ xs) := by
  unfold argosyref27_Number.f
  rw [son_size]
  by_cases hl : (xs.length : Int) > 15
  · rw [if_pos hl]
    unfold numZ
    split
    · rename_i h
      rw [if_neg (fun hc => by have := canon_len hc.1 hc.2.1; simp at this; omega)]
    · rw [if_neg (fun hc => by have := canon_len hc.1 hc.2; omega)]
  · rw [if_neg hl]
    by_cases h45 : 0 < xs.length ∧ xs.getD 0 0 = 45
    · have hlt := h45.1
      obtain ⟨k, rfl⟩ : ∃ m, k = m + 2 := ⟨k - 2, by omega⟩
      have hb0 := bt0 hx hlt
      have hstep : argosyref27_Number.l0 (k + 2) (strOfNums xs) 0 1 0 = argosyref27_Number.l0 k (strOfNums xs) 0 (-1) ((1 : Nat) : Int) := by
        rw [show k + 2 = (k + 1) + 1 from rfl]
        rw [argosyref27_Number.l0, if_pos (by rw [son_size]; omega), if_pos rfl, if_pos (by omega), hb0, h45.2, argosyref27_Number.j1, if_pos (by decide), w64 (by omega)]
        rfl
      rw [hstep, rNum_loop hx (by omega) (-1) (.inr rfl) (xs.length - 1) 1 k 0 (by omega) (by omega) (by omega) (by decide) (by omega)]
      congr 1
      obtain ⟨ds, rfl⟩ : ∃ ds, xs = 45 :: ds := by
        rcases xs with _ | ⟨a, ds⟩
        · simp at hlt
        · exact ⟨ds, by have := h45.2; simp at this; rw [this]⟩
      have e1 : (45 :: ds).drop 1 = ds := rfl
      rw [e1]
      unfold numZ finZ
      rw [e1]
      have eg : (45 :: ds).getD 1 0 = ds.getD 0 0 := by cases ds <;> rfl
      by_cases ha : ∀ c ∈ ds, dig c
      · have hn := val_nonneg ha
        rw [if_pos ha]
        have key : (1 < (45 :: ds).length ∧ canon ds ∧ (45 :: ds).getD 1 0 ≠ 48) ↔ digZ (-1 * valL ds 0) = 45 :: ds := by
          unfold digZ
          rw [eg]
          constructor
          · rintro ⟨h1, h2, h3⟩
            rcases ds with _ | ⟨c, cs⟩
            · simp at h1
            · have hp := val_pos ha (by simpa using h3)
              have h1 : (1 : Int) ≤ 10 ^ cs.length := Int.add_one_le_iff.2 (Int.pow_pos (by decide))
              rw [if_pos (by omega), show (-(-1 * valL (c :: cs) 0)).toNat = (valL (c :: cs) 0).toNat from by omega, digL_val _ _ rfl h2]
          · intro e
            by_cases hv : valL ds 0 = 0
            · rw [hv] at e
              rw [if_neg (by omega), digL_small (by omega)] at e
              simp at e
            · rw [if_pos (by omega), show (-(-1 * valL ds 0)).toNat = (valL ds 0).toNat from by omega] at e
              have e2 := (List.cons.inj e).2
              have hc := digL_canon (valL ds 0).toNat
              rw [e2] at hc
              refine ⟨?_, hc.1, fun e48 => by have := hc.2.2 e48; omega⟩
              have := hc.1.2.1
              rcases ds with _ | ⟨c, cs⟩
              · exact absurd rfl this
              · simp
        by_cases h1 : 1 < (45 :: ds).length
        · rw [if_pos (c := 1 < (45 :: ds).length ∧ (45 :: ds).getD 0 0 = 45) ⟨h1, rfl⟩]
          by_cases hc : canon ds ∧ valL ds 0 ≤ 1099511627776 ∧ (45 :: ds).getD 1 0 ≠ 48
          · rw [if_pos hc, if_pos ⟨hc.2.1, key.1 ⟨h1, hc.1, hc.2.2⟩⟩, Int.neg_one_mul]
          · rw [if_neg hc, if_neg (fun h => hc ⟨(key.2 h.2).2.1, h.1, (key.2 h.2).2.2⟩)]
        · rw [if_neg (c := 1 < (45 :: ds).length ∧ (45 :: ds).getD 0 0 = 45) (fun h => h1 h.1), if_neg (fun h => h1 (key.2 h.2).1), if_neg]
          rintro ⟨h, _⟩
          have := h.1 45 (by simp)
          unfold dig at this
          omega
      · rw [if_neg ha]
        split
        · rw [if_neg (fun h => ha h.1.1)]
        · rw [if_neg (fun h => ha (fun c hc => h.1.1 c (by simp [hc])))]
    · rw [show (0 : Int) = ((0 : Nat) : Int) from rfl, rNum_loop hx (by omega) 1 (.inl rfl) xs.length 0 k ((0 : Nat) : Int) (by omega) (by omega) (by omega) (by simp) (by
        rintro ⟨_, h⟩
        refine h45 ⟨?_, h⟩
        rcases xs with _ | ⟨a, l⟩
        · simp at h
        · simp)]
      congr 1
      rw [List.drop_zero]
      unfold numZ finZ
      rw [if_neg (c := 1 < xs.length ∧ xs.getD 0 0 = 45) (fun h => h45 ⟨by omega, h.2⟩)]
      by_cases ha : ∀ c ∈ xs, dig c
      · have hn := val_nonneg ha
        have key := canon_iff xs ha
        have ed : digZ (1 * valL xs ((0 : Nat) : Int)) = digL (valL xs 0).toNat := by
          unfold digZ
          rw [Int.one_mul, if_neg (by show ¬ valL xs 0 < 0; omega)]
          rfl
        rw [if_pos ha, ed]
        by_cases hc : canon xs ∧ valL xs 0 ≤ 1099511627776
        · rw [if_pos hc, if_pos ⟨hc.2, key.1 hc.1⟩, Int.one_mul]
          rfl
        · rw [if_neg hc, if_neg (fun h => hc ⟨key.2 h.2, h.1⟩)]
      · rw [if_neg ha, if_neg (fun h => ha h.1.1)]

/-! ### Each number's text is it -/
theorem digL_head (n : Nat) : dig ((digL n).getD 0 0) := by
  have h := (digL_canon n).1
  rcases hd : digL n with _ | ⟨c, cs⟩
  · exact absurd hd (digL_ne n)
  · rw [hd] at h
    exact h.1 c (by simp)
theorem numZ_digZ {n : Int} (h : -1099511627776 ≤ n ∧ n ≤ 1099511627776) : numZ (digZ n) = (n, true) := by
  unfold digZ
  by_cases hn : n < 0
  · rw [if_pos hn]
    obtain ⟨h1, h2, h3⟩ := digL_canon (-n).toNat
    have hne := digL_ne (-n).toNat
    have hl : 1 < (45 :: digL (-n).toNat).length := by
      rcases hd : digL (-n).toNat with _ | ⟨c, cs⟩
      · exact absurd hd hne
      · simp
    have e1 : (45 :: digL (-n).toNat).drop 1 = digL (-n).toNat := rfl
    have eg : (45 :: digL (-n).toNat).getD 1 0 = (digL (-n).toNat).getD 0 0 := by cases digL (-n).toNat <;> rfl
    unfold numZ
    rw [if_pos (c := 1 < (45 :: digL (-n).toNat).length ∧ (45 :: digL (-n).toNat).getD 0 0 = 45) ⟨hl, rfl⟩, e1, eg, if_pos ⟨h1, by rw [h2]; omega, fun e => by have := h3 e; omega⟩, h2]
    congr 1
    omega
  · rw [if_neg hn]
    obtain ⟨h1, h2, h3⟩ := digL_canon n.toNat
    have hh := digL_head n.toNat
    unfold dig at hh
    unfold numZ
    rw [if_neg (fun h => by have := h.2; omega), if_pos ⟨h1, by rw [h2]; omega⟩, h2]
    congr 1
    omega
theorem digZ_ne (n : Int) : digZ n ≠ [] := by
  unfold digZ
  split
  · simp
  · exact digL_ne _
theorem numZ_zero {xs : List Int} (h : xs ≠ []) : (numZ (48 :: xs)).2 = false := by
  unfold numZ
  rw [if_neg (fun h => by have := h.2; simp at this), if_neg]
  rintro ⟨hc, _⟩
  have := hc.2.2 rfl
  rcases xs with _ | ⟨a, l⟩
  · exact h rfl
  · simp at this
theorem canon_32 (xs : List Int) : ¬ canon (xs ++ [32]) := fun h => by
  have := h.1 32 (by simp)
  unfold dig at this
  omega
theorem numZ_space {xs : List Int} (h : xs ≠ []) : (numZ (xs ++ [32])).2 = false := by
  rcases xs with _ | ⟨a, l⟩
  · exact absurd rfl h
  · unfold numZ
    split
    · rw [if_neg (fun hc => canon_32 l (by simpa using hc.1))]
    · rw [if_neg (fun hc => canon_32 (a :: l) hc.1)]

/-! ### Same moves -/
theorem Same39_loop (a : List S39) (hal : a.length ≤ 1000000) (h3 : ∀ m ∈ a, m.f3.length ≤ 1000) : ∀ (d i k : Nat), a.length = i + d → d + 1010 ≤ k → argosyref27_Same.l0 k a a (i : Int) = some true
  | 0, i, k, hd, hk => by
    obtain ⟨k, rfl⟩ : ∃ m, k = m + 1 := ⟨k - 1, by omega⟩
    rw [argosyref27_Same.l0, if_neg (by omega)]
  | d + 1, i, k, hd, hk => by
    obtain ⟨k, rfl⟩ : ∃ m, k = m + 1 := ⟨k - 1, by omega⟩
    have hi : i < a.length := by omega
    have hm : rd_T39 a (i : Int) ∈ a := by
      unfold rd_T39
      rw [Int.toNat_natCast, List.getD_eq_getElem?_getD, List.getElem?_eq_getElem hi]
      exact List.getElem_mem hi
    have := h3 _ hm
    rw [argosyref27_Same.l0, if_pos (by omega), if_pos (by omega), if_pos (by omega), if_pos rfl, if_pos rfl, if_pos rfl, Same_is (by omega) (by omega), Option.bind_some, decide_eq_true rfl, if_pos rfl, w64 (by omega), show (i : Int) + 1 = ((i + 1 : Nat) : Int) from by omega]
    exact Same39_loop a hal h3 d (i + 1) k (by omega) (by omega)
theorem Same39_is {a : List S39} (hal : a.length ≤ 1000000) (h3 : ∀ m ∈ a, m.f3.length ≤ 1000) {k : Nat} (hk : a.length + 1010 ≤ k) : argosyref27_Same.f k a a = some true := by
  unfold argosyref27_Same.f
  rw [if_pos rfl]
  exact Same39_loop a hal h3 a.length 0 k (by omega) hk

/-! ### The examples -/
theorem lv1 : scene_Read.f (⟨#[116, 105, 99, 107, 32, 48, 32, 45, 51, 59, 32, 99, 114, 97, 115, 104, 32, 49, 32, 50, 32, 59, 111, 112, 101, 110, 59, 32, 35, 32, 101, 110, 100]⟩ : ByteArray) = some ([(⟨1, 0, (-3), ([] : List Int)⟩ : S39), (⟨2, 0, 0, (([1, 2] : List Int))⟩ : S39), (⟨3, 0, 0, ([] : List Int)⟩ : S39)], 33, 0) := by kernel_rfl
theorem lv2 : scene_Read.f (⟨#[116, 105, 99, 107, 32, 48, 59]⟩ : ByteArray) = some ([], 6, 10) := by kernel_rfl
theorem lv3 : scene_Read.f (⟨#[97, 114, 109, 32, 48, 49, 59]⟩ : ByteArray) = some ([], 4, 10) := by kernel_rfl
theorem lv4 : scene_Number.f (⟨#[45, 49, 50]⟩ : ByteArray) = some (-12, true) := by kernel_rfl
theorem lives_is {k : Nat} (hk : 1100 ≤ k) : argosylaw27_lives.f k = some true := by
  unfold argosylaw27_lives.f
  rw [lv1, Option.bind_some, lv2, Option.bind_some, lv3, Option.bind_some, lv4, Option.bind_some]
  simp only
  rw [Same39_is (by simp) (by intro m hm; simp at hm; rcases hm with rfl | rfl | rfl <;> simp) (by simp; omega), Option.bind_some]
  rfl

theorem Number_is {xs : List Int} (hx : isB xs) : scene_Number.f (strOfNums xs) = some (numZ xs) := by
  have : scene_Number.f (strOfNums xs) = some (numberF (strOfNums xs)) := rfl
  rw [this, numberF_is hx]
theorem SceneNumbers : argosylaw27_SceneNumbers.Pure := by
  intro a n ha hn
  refine ⟨2000, ?_⟩
  obtain ⟨k, hk⟩ : ∃ k : Nat, k = 1998 := ⟨_, rfl⟩
  rw [show 2000 = k + 2 by omega]
  unfold argosylaw27_SceneNumbers.f
  rw [lives_is (by omega), Option.bind_some]
  by_cases h1 : (a.size : Int) > 3000
  · rw [if_pos h1]
  · rw [if_neg h1]
    obtain ⟨xs, hxs⟩ : ∃ xs, xs = bytesOf a := ⟨_, rfl⟩
    have hx : isB xs := hxs ▸ bytesOf_isB a
    have ha2 : a = strOfNums xs := by rw [hxs, son_bytesOf]
    rw [ha2, Number_is hx, Option.bind_some, rNumber_is hx (by omega), Option.bind_some, if_pos rfl]
    rw [bne_self_eq_false, show k + 2 = (k + 1) + 1 from rfl, argosylaw27_SceneNumbers.j0, if_neg (by decide)]
    have key : ∀ b : Bool, (b = false → -1099511627776 ≤ n ∧ n ≤ 1099511627776) → argosylaw27_SceneNumbers.j1 (k + 1) n b = some true := by
      intro b hb
      rw [argosylaw27_SceneNumbers.j1, lives_is (by omega), Option.bind_some]
      cases b with
      | true => rw [if_pos rfl]
      | false =>
        have hr := hb rfl
        have hd := digZ_isB n
        have hd0 : isB (48 :: digZ n) := fun z hz => by
          rcases List.mem_cons.1 hz with rfl | hz
          · omega
          · exact hd z hz
        have hd1 : isB (digZ n ++ [32]) := fun z hz => by
          rcases List.mem_append.1 hz with hz | hz
          · exact hd z hz
          · simp at hz; omega
        have hl : (digZ n).length ≤ 1000001 := by
          unfold digZ
          split
          · have := canon_len' (-n).toNat (by omega)
            simp; omega
          · have := canon_len' n.toNat (by omega)
            omega
        rw [if_neg (by decide), Digits_is (by omega) (by omega), Option.bind_some, Number_is hd, Option.bind_some, Option.bind_some, son_size, if_pos (by omega), show (⟨#[48]⟩ : ByteArray) = strOfNums [48] from rfl, ← son_append, show ([48] ++ digZ n : List Int) = 48 :: digZ n from rfl, Number_is hd0, Option.bind_some, Option.bind_some, son_size, if_pos (by omega), show (⟨#[32]⟩ : ByteArray) = strOfNums [32] from rfl, ← son_append, Number_is hd1, Option.bind_some, numZ_digZ hr, numZ_zero (digZ_ne n), numZ_space (digZ_ne n), if_pos rfl, if_pos rfl, if_neg (by decide), if_neg (by decide)]
    by_cases h2 : n < -1099511627776
    · rw [if_pos h2]
      exact key true (by simp)
    · rw [if_neg h2]
      exact key _ (fun e => by have := of_decide_eq_false e; omega)

end Go.Proofs.Ytfmbdmkiamedeaa.Pure
