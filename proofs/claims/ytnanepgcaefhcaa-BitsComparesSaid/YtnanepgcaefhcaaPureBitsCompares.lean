/- BitsCompares returns true for all lists of values and all texts: the two comparisons of values and of lists answer alike, nothing handed in is changed, and the texts above a prefix are the same. Conditions: the form's own reach. -/
import Derived.Test.YtnanepgcaefhcaaPBitsComparesx6
import Derived.Test.YtnanepgcaefhcaaHComp
import Derived.Test.YtnanepgcaefhcaaHCore
set_option linter.unusedVariables false
set_option linter.unusedSimpArgs false
namespace Go.Proofs.Ytnanepgcaefhcaa.Pure
open Go.RowKit Go.Proofs.Ytnanepgcaefhcaa.PBitsCompares Go.Proofs.YtnanepgcaefhcaaW.PrintWords Go.Proofs.YtnanepgcaefhcaaW.PrintLast Go.Proofs.Ytnanepgcaefhcaa.HCore Go.Proofs.Ytnanepgcaefhcaa.HComp

/-- The order of two numbers. -/
def co (a b : Int) : Int := if a < b then -1 else if a > b then 1 else 0
/-- The order of two values. -/
def cv (x y : S62) : Int := if x.f0 ≠ y.f0 then co x.f0 y.f0 else if x.f1 ≠ y.f1 then co x.f1 y.f1 else Lib.compareBytes x.f2.data.toList y.f2.data.toList
/-- The order of two lists of values. -/
def cl : List S62 → List S62 → Int
  | [], [] => 0
  | [], _ :: _ => -1
  | _ :: _, [] => 1
  | x :: xs, y :: ys => if cv x y = 0 then cl xs ys else cv x y
theorem co_zero {a b : Int} : co a b = 0 ↔ a = b := by
  unfold co
  constructor
  · intro h
    by_cases h1 : a < b
    · rw [if_pos h1] at h; omega
    · rw [if_neg h1] at h
      by_cases h2 : a > b
      · rw [if_pos h2] at h; omega
      · omega
  · rintro rfl; simp
theorem nan0 (a : Int) : (a != a) = false := by simp
theorem kind_is (a b : Int) : api_Kind_59.f a b = some (co a b) := by
  simp only [api_Kind_59.f, api_Kind_67.f, nan0, Option.bind_some, co, Bool.false_eq_true, if_false]
  repeat' split
  all_goals rfl
theorem c64_is (a b : Int) : cmp_Compare_int64.f a b = some (co a b) := by
  simp only [cmp_Compare_int64.f, cmp_isNaN_int64.f, nan0, Option.bind_some, co, Bool.false_eq_true, if_false]
  repeat' split
  all_goals rfl
theorem cint_is (a b : Int) : cmp_Compare_int.f a b = some (co a b) := by
  simp only [cmp_Compare_int.f, cmp_isNaN_int.f, nan0, Option.bind_some, co, Bool.false_eq_true, if_false]
  repeat' split
  all_goals rfl
theorem or_is (k : Nat) (a b c : Int) : cmp_Or_int.f (k + 4) [a, b, c] = some (if a ≠ 0 then a else if b ≠ 0 then b else c) := by
  have e1 : wrap64 (1 : Int) = 1 := w64 (by omega) (by omega)
  have e2 : wrap64 (2 : Int) = 2 := w64 (by omega) (by omega)
  have e3 : wrap64 (3 : Int) = 3 := w64 (by omega) (by omega)
  unfold cmp_Or_int.f
  by_cases ha : a = 0 <;> by_cases hb : b = 0 <;> by_cases hc : c = 0 <;> simp [cmp_Or_int.l0, rd, e1, e2, e3, ha, hb, hc]
theorem cv_bits (k : Nat) (x y : S62) : bits_CompareValues.f (k + 4) x.f0 x.f1 x.f2 y.f0 y.f1 y.f2 = some (cv x y) := by
  simp only [bits_CompareValues.f, kind_is, c64_is, strings_Compare.f, Option.bind_some, or_is, cv, ne_eq, co_zero]
theorem cv_ref (x y : S62) : strataref01_CompareValues.f x.f0 x.f1 x.f2 y.f0 y.f1 y.f2 = some (cv x y) := by
  unfold strataref01_CompareValues.f cv
  by_cases h0 : x.f0 = y.f0
  · by_cases h1 : x.f1 = y.f1
    · rw [if_pos h0, if_pos h1, if_neg (by simpa using h0), if_neg (by simpa using h1), compare_spells, ← toList_data, ← toList_data]
      simp only [strataref01_order.f]
      by_cases g1 : Op.bytesLess x.f2.toList y.f2.toList = true
      · simp [g1]
      · by_cases g2 : Op.bytesLess y.f2.toList x.f2.toList = true
        · simp [g1, g2]
        · simp [g1, g2]
    · rw [if_pos h0, if_neg h1, if_neg (by simpa using h0), if_pos h1]
      simp only [strataref01_order.f, co, decide_eq_true_eq]
      by_cases g : x.f1 < y.f1
      · simp [g]
      · simp [g, show y.f1 < x.f1 by omega]
  · rw [if_neg h0, if_pos h0]
    simp only [strataref01_order.f, co, decide_eq_true_eq]
    by_cases g : x.f0 < y.f0
    · simp [g]
    · simp [g, show y.f0 < x.f0 by omega]

theorem rd_drop {x : List S62} {i : Nat} (h : i < x.length) : x.drop i = rd_T62 x (i : Int) :: x.drop (i + 1) := by
  rw [List.drop_eq_getElem_cons h]
  simp [rd_T62, List.getD_eq_getElem?_getD, List.getElem?_eq_getElem h]
theorem cl_bits (x y : List S62) (hx : x.length < 9223372036854775807) (d : Nat) : ∀ (k i : Nat), i + d = x.length → i ≤ y.length → d + 4 < k →
    bits_Compare.l0 k x y x (x.length : Int) (i : Int) = some (cl (x.drop i) (y.drop i)) := by
  induction d with
  | zero =>
    intro k i hi hy hk
    obtain ⟨k, rfl⟩ : ∃ m, k = m + 1 := ⟨k - 1, by omega⟩
    obtain rfl : i = x.length := by omega
    simp only [bits_Compare.l0]
    rw [if_neg (show ¬ (x.length : Int) < (x.length : Int) by omega), cint_is, List.drop_length]
    simp only [Option.bind_some, co]
    by_cases h : x.length < y.length
    · rw [rd_drop h, if_pos (by omega)]; rfl
    · rw [List.drop_eq_nil_of_le (by omega), if_neg (by omega), if_neg (by omega)]; rfl
  | succ d ih =>
    intro k i hi hy hk
    obtain ⟨k, rfl⟩ : ∃ m, k = m + 5 := ⟨k - 5, by omega⟩
    have hw : wrap64 ((i : Int) + 1) = ((i + 1 : Nat) : Int) := by rw [w64 (by omega) (by omega)]; omega
    simp only [bits_Compare.l0]
    rw [if_pos (show (i : Int) < (x.length : Int) by omega), if_pos (show (0 : Int) ≤ (i : Int) by omega), if_pos (show (i : Int) < (x.length : Int) by omega), rd_drop (show i < x.length by omega)]
    by_cases h : i = y.length
    · rw [if_pos (by omega), show y.drop i = [] from List.drop_eq_nil_of_le (by omega)]; rfl
    · rw [if_neg (by omega), if_pos (show (i : Int) < (y.length : Int) by omega), cv_bits, Option.bind_some, rd_drop (show i < y.length by omega), hw]
      simp only [cl]
      by_cases g : cv (rd_T62 x (i : Int)) (rd_T62 y (i : Int)) = 0
      · rw [if_pos g, if_pos g]
        exact ih (k + 4) (i + 1) (by omega) (by omega) (by omega)
      · rw [if_neg g, if_neg g]
theorem cl_ref (x y : List S62) (hx : x.length < 9223372036854775807) (d : Nat) : ∀ (k i : Nat), i + d = x.length → i ≤ y.length → 2 * d + 1 < k →
    strataref01_Compare.l0 k x y (i : Int) = some (cl (x.drop i) (y.drop i)) := by
  induction d with
  | zero =>
    intro k i hi hy hk
    obtain ⟨k, rfl⟩ : ∃ m, k = m + 2 := ⟨k - 2, by omega⟩
    obtain rfl : i = x.length := by omega
    simp only [strataref01_Compare.l0, strataref01_Compare.j1, strataref01_order.f]
    rw [if_neg (show ¬ (x.length : Int) < (x.length : Int) by omega), if_neg (by decide), List.drop_length]
    by_cases h : x.length < y.length
    · rw [rd_drop h, if_pos (decide_eq_true (by omega))]; rfl
    · rw [List.drop_eq_nil_of_le (by omega), if_neg (by simp; omega), if_neg (by simp; omega)]; rfl
  | succ d ih =>
    intro k i hi hy hk
    obtain ⟨k, rfl⟩ : ∃ m, k = m + 2 := ⟨k - 2, by omega⟩
    have hw : wrap64 ((i : Int) + 1) = ((i + 1 : Nat) : Int) := by rw [w64 (by omega) (by omega)]; omega
    simp only [strataref01_Compare.l0, strataref01_Compare.j1]
    rw [if_pos (show (i : Int) < (x.length : Int) by omega), rd_drop (show i < x.length by omega)]
    by_cases h : i = y.length
    · rw [if_neg (by simp; omega), show y.drop i = [] from List.drop_eq_nil_of_le (by omega)]
      simp only [strataref01_order.f]
      rw [if_neg (by simp; omega), if_pos (decide_eq_true (by omega))]; rfl
    · rw [if_pos (decide_eq_true (by omega)), if_pos (show (0 : Int) ≤ (i : Int) by omega), if_pos (show (i : Int) < (x.length : Int) by omega), if_pos (show (i : Int) < (y.length : Int) by omega), cv_ref, Option.bind_some, rd_drop (show i < y.length by omega), hw]
      simp only [cl]
      by_cases g : cv (rd_T62 x (i : Int)) (rd_T62 y (i : Int)) = 0
      · rw [if_pos g, if_pos g]
        exact ih k (i + 1) (by omega) (by omega) (by omega)
      · rw [if_neg g, if_neg g]

theorem cl_bits_f (x y : List S62) (hx : x.length < 9223372036854775807) (k : Nat) (hk : x.length + 4 < k) : bits_Compare.f k x y = some (cl x y) := by
  have := cl_bits x y hx x.length k 0 (by omega) (by omega) hk
  rw [List.drop_zero, List.drop_zero] at this
  exact this
theorem cl_ref_f (x y : List S62) (hx : x.length < 9223372036854775807) (k : Nat) (hk : 2 * x.length + 1 < k) : strataref01_Compare.f k x y = some (cl x y) := by
  have := cl_ref x y hx x.length k 0 (by omega) (by omega) hk
  rw [List.drop_zero, List.drop_zero] at this
  exact this
/-- The mark behind a copy. -/
def mark : S62 := ⟨77, 77, (⟨#[109, 97, 114, 107]⟩ : ByteArray)⟩
theorem rd_take {x : List S62} {i : Nat} (h : i < x.length) : x.take i ++ [rd_T62 x (i : Int)] = x.take (i + 1) := by
  rw [List.take_succ_eq_append_getElem h]
  simp [rd_T62, List.getD_eq_getElem?_getD, List.getElem?_eq_getElem h]
theorem room_loop (x : List S62) (hx : x.length < 4398046511104) (d : Nat) : ∀ (k i : Nat), i + d = x.length → d < k →
    stratalaw01_room.l0 k x (x.take i) (i : Int) = some (x ++ [mark]) := by
  induction d with
  | zero =>
    intro k i hi hk
    obtain ⟨k, rfl⟩ : ∃ m, k = m + 1 := ⟨k - 1, by omega⟩
    simp only [stratalaw01_room.l0]
    rw [if_neg (by omega), List.take_of_length_le (by omega), if_pos hx]
    rfl
  | succ d ih =>
    intro k i hi hk
    obtain ⟨k, rfl⟩ : ∃ m, k = m + 1 := ⟨k - 1, by omega⟩
    have hw : wrap64 ((i : Int) + 1) = ((i + 1 : Nat) : Int) := by rw [w64 (by omega) (by omega)]; omega
    simp only [stratalaw01_room.l0]
    rw [if_pos (by omega), if_pos (by omega), if_pos (by rw [List.length_take]; omega), hw]
    have e : (⟨(rd_T62 x (i : Int)).f0, (rd_T62 x (i : Int)).f1, (rd_T62 x (i : Int)).f2⟩ : S62) = rd_T62 x (i : Int) := rfl
    rw [e, rd_take (by omega)]
    exact ih k (i + 1) (by omega) (by omega)
theorem room_is (x : List S62) (hx : x.length < 4398046511104) (k : Nat) (hk : x.length < k) : stratalaw01_room.f k x = some (x ++ [mark]) := by
  have := room_loop x hx x.length k 0 (by omega) hk
  rw [List.take_zero] at this
  exact this
theorem same_loop (x : List S62) (hx : x.length < 9223372036854775807) (d : Nat) : ∀ (k i : Nat), i + d = x.length → d < k →
    stratalaw01_same.l0 k x x (i : Int) = some true := by
  induction d with
  | zero =>
    intro k i hi hk
    obtain ⟨k, rfl⟩ : ∃ m, k = m + 1 := ⟨k - 1, by omega⟩
    simp only [stratalaw01_same.l0]
    rw [if_neg (by omega)]
  | succ d ih =>
    intro k i hi hk
    obtain ⟨k, rfl⟩ : ∃ m, k = m + 1 := ⟨k - 1, by omega⟩
    have hw : wrap64 ((i : Int) + 1) = ((i + 1 : Nat) : Int) := by rw [w64 (by omega) (by omega)]; omega
    simp only [stratalaw01_same.l0]
    rw [if_pos (by omega), if_pos (by omega), if_pos (by omega), hw, if_neg (by simp)]
    exact ih k (i + 1) (by omega) (by omega)
theorem same_is (x : List S62) (hx : x.length < 9223372036854775807) (k : Nat) (hk : x.length < k) : stratalaw01_same.f k x x = some true := by
  unfold stratalaw01_same.f
  rw [if_pos rfl]
  exact same_loop x hx x.length k 0 (by omega) hk

/-- The text above all that begin with the first n bytes. -/
def aft (s : ByteArray) : Nat → ByteArray × Bool
  | 0 => ((⟨#[]⟩ : ByteArray), false)
  | n + 1 => if bt s (n : Int) = 255 then aft s n else (s.extract 0 n ++ strOfNums [(bt s (n : Int) + 1) % 256], true)
theorem ext_list0 (s : ByteArray) (n : Nat) : (s.extract 0 n).data.toList = s.data.toList.take n := by rw [extract_list, List.drop_zero, Nat.sub_zero]
theorem bt_ext (s : ByteArray) (n i : Nat) (h : i < n) : bt (s.extract 0 n) (i : Int) = bt s (i : Int) := by
  rw [bt_list, bt_list, ext_list0, List.getD_eq_getElem?_getD, List.getD_eq_getElem?_getD, List.getElem?_take, if_pos h]
theorem ext_ext (s : ByteArray) (n m : Nat) (h : n ≤ m) : (s.extract 0 m).extract 0 n = s.extract 0 n := by
  apply ba_ext
  rw [ext_list0, ext_list0, ext_list0, List.take_take, Nat.min_eq_left h]
theorem ext_all (s : ByteArray) : s.extract 0 s.size = s := by
  apply ba_ext
  rw [ext_list0, List.take_of_length_le (by rw [size_list]; omega)]
theorem aft_bits (s : ByteArray) (hs : s.size ≤ 140737488351232) : ∀ (n k : Nat), n ≤ s.size → n < k → bits_After.l0 k (s.extract 0 n) = some (aft s n)
  | 0, k, hn, hk => by
    obtain ⟨k, rfl⟩ : ∃ m, k = m + 1 := ⟨k - 1, by omega⟩
    simp only [bits_After.l0]
    rw [if_pos (by rw [toList_data, ext_list0, List.take_zero])]
    rfl
  | n + 1, k, hn, hk => by
    obtain ⟨k, rfl⟩ : ∃ m, k = m + 1 := ⟨k - 1, by omega⟩
    have hz : (s.extract 0 (n + 1)).size = n + 1 := ext_size0 s (n + 1) hn
    have hz' : (s.extract 0 n).size = n := ext_size0 s n (by omega)
    have hw : wrap64 ((((s.extract 0 (n + 1)).size : Nat) : Int) - 1) = (n : Int) := by rw [hz, w64 (by omega) (by omega)]; omega
    simp only [bits_After.l0]
    rw [hw, if_neg (by rw [toList_data]; intro h; have := congrArg List.length h; rw [size_list, hz] at this; simp at this), hz, if_pos (by omega), if_pos (by omega), if_pos (by omega), bt_ext s (n + 1) n (by omega), Int.toNat_natCast, ext_ext s n (n + 1) (by omega)]
    simp only [aft]
    by_cases g : bt s (n : Int) = 255
    · rw [if_pos g, if_pos g]
      exact aft_bits s hs n k (by omega) (by omega)
    · rw [if_neg g, if_neg g, Option.bind_some, if_pos (by rw [hz', strOfNums_len]; simp only [List.length_cons, List.length_nil]; omega)]
theorem aft_ref (s : ByteArray) (hs : s.size ≤ 140737488351232) : ∀ (n k : Nat), n ≤ s.size → n < k → strataref01_After.l0 k s (n : Int) = some (aft s n)
  | 0, k, hn, hk => by
    obtain ⟨k, rfl⟩ : ∃ m, k = m + 1 := ⟨k - 1, by omega⟩
    simp only [strataref01_After.l0]
    rw [if_neg (by decide), if_pos (by decide)]
    rfl
  | n + 1, k, hn, hk => by
    obtain ⟨k, rfl⟩ : ∃ m, k = m + 1 := ⟨k - 1, by omega⟩
    have hz' : (s.extract 0 n).size = n := ext_size0 s n (by omega)
    have hw : wrap64 (((n + 1 : Nat) : Int) - 1) = (n : Int) := by rw [w64 (by omega) (by omega)]; omega
    simp only [strataref01_After.l0]
    rw [hw, if_pos (by omega), if_pos (by omega), if_pos (by omega)]
    simp only [aft]
    by_cases g : bt s (n : Int) = 255
    · rw [if_pos g, if_pos g]
      exact aft_ref s hs n k (by omega) (by omega)
    · rw [if_neg g, if_neg g, if_neg (by omega), if_pos (by omega), Option.bind_some, Int.toNat_natCast, if_pos (by rw [hz', strOfNums_len]; simp only [List.length_cons, List.length_nil]; omega)]

theorem law_loop (x y : List S62) (s : ByteArray) (hx : x.length < 4398046511104) (hs : s.size ≤ 140737488351232) (d : Nat) : ∀ (k i : Nat), i + d = x.length → 2 * d + s.size + 8 < k →
    stratalaw01_BitsCompares.l0 k x y s (i : Int) = some true := by
  have fin : ∀ k i, s.size + 4 < k → stratalaw01_BitsCompares.j3 k x y s i false = some true := by
    intro k i hk
    obtain ⟨k, rfl⟩ : ∃ m, k = m + 1 := ⟨k - 1, by omega⟩
    simp only [stratalaw01_BitsCompares.j3]
    have h1 : bits_After.f k s = some (aft s s.size) := by
      have := aft_bits s hs s.size k (by omega) (by omega)
      rw [ext_all] at this
      exact this
    have h2 : strataref01_After.f k s = some (aft s s.size) := aft_ref s hs s.size k (by omega) (by omega)
    rw [if_neg (by decide), h1, h2]
    simp
  induction d with
  | zero =>
    intro k i hi hk
    obtain ⟨k, rfl⟩ : ∃ m, k = m + 1 := ⟨k - 1, by omega⟩
    simp only [stratalaw01_BitsCompares.l0]
    rw [if_neg (by omega)]
    exact fin k _ (by omega)
  | succ d ih =>
    intro k i hi hk
    obtain ⟨k, rfl⟩ : ∃ m, k = m + 6 := ⟨k - 6, by omega⟩
    have hw : wrap64 ((i : Int) + 1) = ((i + 1 : Nat) : Int) := by rw [w64 (by omega) (by omega)]; omega
    simp only [stratalaw01_BitsCompares.l0]
    rw [if_pos (by omega)]
    by_cases g : i < y.length
    · rw [decide_eq_true (by omega)]
      simp only [stratalaw01_BitsCompares.j3]
      rw [if_pos trivial, if_pos (by omega), if_pos (by omega), if_pos (by omega), cv_bits, cv_ref]
      simp only [Option.bind_some, if_true]
      rw [hw]
      exact ih (k + 4) (i + 1) (by omega) (by omega)
    · rw [decide_eq_false (by omega)]
      exact fin _ _ (by omega)

theorem law (x y : List S62) (s : ByteArray) (hx : x.length * 32 ≤ 140737488351232) (hy : y.length * 32 ≤ 140737488351232) (hs : s.size ≤ 140737488351232) : ∃ k, stratalaw01_BitsCompares.f k x y s = some true := by
  refine ⟨3 * (x.length + y.length) + s.size + 30, ?_⟩
  generalize hK : 3 * (x.length + y.length) + s.size + 30 = k
  have e1 : (x ++ [mark]).take ((x.length : Int)).toNat = x := by rw [Int.toNat_natCast, List.take_left]
  have e2 : (y ++ [mark]).take ((y.length : Int)).toNat = y := by rw [Int.toNat_natCast, List.take_left]
  have l1 : (x ++ [mark]).length = x.length + 1 := by rw [List.length_append]; rfl
  have l2 : (y ++ [mark]).length = y.length + 1 := by rw [List.length_append]; rfl
  unfold stratalaw01_BitsCompares.f
  rw [room_is x (by omega) k (by omega), room_is y (by omega) k (by omega)]
  simp only [Option.bind_some]
  rw [if_pos (by omega), if_pos (by omega), if_pos (by omega), if_pos (by omega), e1, e2, cl_bits_f x y (by omega) k (by omega), cl_ref_f x y (by omega) k (by omega), cl_bits_f y x (by omega) k (by omega), cl_ref_f y x (by omega) k (by omega)]
  simp only [Option.bind_some, if_true]
  obtain ⟨m, rfl⟩ : ∃ m, k = m + 2 := ⟨k - 2, by omega⟩
  simp only [stratalaw01_BitsCompares.j0]
  rw [if_neg (by simp), room_is x (by omega) (m + 1) (by omega), room_is y (by omega) (m + 1) (by omega)]
  simp only [Option.bind_some]
  rw [same_is _ (by omega) (m + 1) (by omega), same_is _ (by omega) (m + 1) (by omega)]
  simp only [Option.bind_some, if_true, stratalaw01_BitsCompares.j1]
  rw [if_neg (by decide)]
  exact law_loop x y s (by omega) hs x.length m 0 (by omega) (by omega)
theorem walk (A0 : Option Addr) (c0 : Nat) (x0 : List S62) (A1 : Option Addr) (c1 : Nat) (x1 : List S62) (a2 : ByteArray) (w : World) (hC0 : Kd.C k62 w A0 x0.length x0) (hl0 : x0.length ≤ c0) (hC1 : Kd.C k62 w A1 x1.length x1) (hl1 : x1.length ≤ c1)
    (q0 : x0.length * 32 ≤ 140737488351232) (q1 : x1.length * 32 ≤ 140737488351232) (q2 : a2.size ≤ 140737488351232) :
    Calls Try.prog 10 #[.slice A0 x0.length c0, .slice A1 x1.length c1, .string a2] w fun e w' => e = .returned (.bool true) ∧ Below w.heap.size w w' := by
  obtain ⟨k, hk⟩ := law x0 x1 a2 q0 q1 q2
  exact stratalaw01_BitsCompares.calls k A0 c0 x0 A1 c1 x1 a2 true w hC0 hl0 hC1 hl1 hk
end Go.Proofs.Ytnanepgcaefhcaa.Pure
