/- Plain laws: what was laid down, as a number, a fixed number or a blob, is read back from where it stands. -/
import Derived.Test.YtbekgkikgcmmaaaDoorHCore
set_option linter.unusedVariables false
set_option linter.unusedSimpArgs false
namespace Go.Proofs.YtbekgkikgcmmaaaDoor.HCore
open Go.RowKit Go.Proofs.YtbekgkikgcmmaaaDoorW.PrintWords Go.Proofs.YtbekgkikgcmmaaaDoorW.PrintLast Go.Proofs.YtbekgkikgcmmaaaDoorW.PrintMore

/-- These bytes stand at this place. -/
def At (s : ByteArray) (q : Int) (ys : List Int) : Prop := ∀ j : Nat, j < ys.length → bt s (q + j) = ys.getD j 0
theorem At.head {s : ByteArray} {q y : Int} {ys : List Int} (h : At s q (y :: ys)) : bt s q = y := by
  have := h 0 (by simp)
  simpa using this
theorem At.tail {s : ByteArray} {q y : Int} {ys : List Int} (h : At s q (y :: ys)) : At s (q + 1) ys := fun j hj => by
  have := h (j + 1) (by simp; omega)
  rw [show q + ((j + 1 : Nat) : Int) = q + 1 + j by omega] at this
  simpa using this
theorem byte_back {y : Int} (h : 0 ≤ y ∧ y < 256) : ((UInt8.ofNat y.toNat).toNat : Int) = y := by
  rw [UInt8.toNat_ofNat']
  omega
theorem At_list (s : ByteArray) (pre post : List UInt8) (ys : List Int) (hs : s.data.toList = pre ++ ys.map (fun n => UInt8.ofNat n.toNat) ++ post) (hr : ∀ y ∈ ys, 0 ≤ y ∧ y < 256) : At s (pre.length : Int) ys := fun j hj => by
  have e : (pre.length : Int) + (j : Int) = ((pre.length + j : Nat) : Int) := by omega
  rw [e, bt_list, hs, List.append_assoc, List.getD_eq_getElem?_getD, List.getElem?_append_right (by omega)]
  rw [show pre.length + j - pre.length = j by omega, List.getElem?_append_left (by simpa using hj), List.getElem?_map, List.getElem?_eq_getElem hj]
  simp only [Option.map_some, Option.getD_some, List.getD_eq_getElem?_getD, List.getElem?_eq_getElem hj]
  exact byte_back (hr _ (List.getElem_mem hj))
theorem uvl_rng : ∀ d v n, n ∈ uvl d v → n < 256
  | 0, _, _, h => by simp [uvl] at h
  | d + 1, v, n, h => by
    rw [uvl] at h
    split at h
    · rcases List.mem_cons.1 h with h | h
      · omega
      · exact uvl_rng d _ n h
    · have : n = v := by simpa using h
      omega
theorem uvl_ne {d v : Nat} (h : 1 ≤ d) : uvl d v ≠ [] := by
  obtain ⟨d, rfl⟩ : ∃ e, d = e + 1 := ⟨d - 1, by omega⟩
  rw [uvl]
  split <;> simp
theorem uvl_len : ∀ d v, (uvl d v).length ≤ d
  | 0, _ => by simp [uvl]
  | d + 1, v => by
    rw [uvl]
    split
    · have := uvl_len d (v / 128); simp; omega
    · simp
theorem uvb_list (v : Nat) : (uvb v).data.toList = ((uvl 10 v).map fun (n : Nat) => (n : Int)).map (fun n => UInt8.ofNat n.toNat) := by
  unfold uvb
  rw [strOfNums_list]
theorem uvb_len (v : Nat) : (uvb v).size = (uvl 10 v).length := by
  unfold uvb
  rw [strOfNums_len, List.length_map]
theorem small_next {d x : Nat} (h : x * 128 ^ (10 - (d + 1)) < 2 ^ 64) (hd : d + 1 ≤ 10) : x / 128 * 128 ^ (10 - d) < 2 ^ 64 := by
  have e : 10 - d = (10 - (d + 1)) + 1 := by omega
  rw [e, show 128 ^ (10 - (d + 1) + 1) = 128 * 128 ^ (10 - (d + 1)) by rw [Nat.pow_succ, Nat.mul_comm], ← Nat.mul_assoc]
  exact Nat.lt_of_le_of_lt (Nat.mul_le_mul_right _ (Nat.div_mul_le_self x 128)) h
theorem ruvFrom_of (s : ByteArray) (p : Int) (d : Nat) : ∀ (i x : Nat), d + i = 10 → 1 ≤ d → x * 128 ^ (10 - d) < 2 ^ 64 → (i = 0 ∨ 0 < x) →
    At s (p + i) ((uvl d x).map fun (n : Nat) => (n : Int)) → p + i + (uvl d x).length ≤ s.size →
    ruvFrom s p d i = (uval s p i + x * 128 ^ i, p + i + (uvl d x).length, 0) := by
  induction d with
  | zero => intro i x _ h; omega
  | succ d ih =>
    intro i x hd _ hx hi hA hs
    have hpos : 1 ≤ (uvl (d + 1) x).length := by
      rcases Nat.eq_zero_or_pos (uvl (d + 1) x).length with h | h
      · exact absurd (List.eq_nil_of_length_eq_zero h) (uvl_ne (by omega))
      · exact h
    have h9 : i = 9 → x ≤ 1 := by
      intro h
      obtain rfl : d = 0 := by omega
      rw [show 10 - (0 + 1) = 9 from rfl] at hx
      omega
    simp only [ruvFrom]
    rw [if_neg (by omega)]
    by_cases hg : 128 ≤ x
    · have e : uvl (d + 1) x = (x % 128 + 128) :: uvl d (x / 128) := by rw [uvl, if_pos hg]
      rw [e] at hA hs ⊢
      simp only [List.map_cons] at hA
      have hb := hA.head
      have hd1 : 1 ≤ d := by
        rcases Nat.eq_zero_or_pos d with h | h
        · have := h9 (by omega); omega
        · exact h
      rw [hb, if_neg (by omega), if_neg (by omega)]
      have hA2 := hA.tail
      rw [show p + (i : Int) + 1 = p + ((i + 1 : Nat) : Int) by omega] at hA2
      rw [ih (i + 1) (x / 128) (by omega) hd1 (small_next hx (by omega)) (Or.inr (by omega)) hA2 (by simp at hs; omega)]
      simp only [uval, hb, List.length_cons]
      have hpw : (128 : Int) ^ (i + 1) = 128 * 128 ^ i := by rw [Int.pow_succ, Int.mul_comm]
      have hm : ((x % 128 + 128 : Nat) : Int) % 128 = (x : Int) % 128 := by omega
      rw [hm, hpw, Int.add_assoc, ← Int.mul_assoc, ← Int.add_mul]
      have hx2 : (x : Int) % 128 + ((x / 128 : Nat) : Int) * 128 = x := by omega
      rw [hx2]
      simp only [Prod.mk.injEq, true_and, and_true]
      omega
    · have e : uvl (d + 1) x = [x] := by rw [uvl, if_neg hg]
      rw [e] at hA hs ⊢
      simp only [List.map_cons] at hA
      have hb := hA.head
      rw [hb, if_neg (by omega), if_pos (by omega), if_neg (by omega)]
      simp only [uval, hb]
      rw [show (x : Int) % 128 = x by omega]
      rfl
theorem ruv_of (s : ByteArray) (p : Int) (v : Nat) (hp : 0 ≤ p) (hv : v < 2 ^ 64) (hA : At s p ((uvl 10 v).map fun (n : Nat) => (n : Int))) (hs : p + (uvl 10 v).length ≤ s.size) : ruv s p = ((v : Int), p + (uvl 10 v).length, 0) := by
  unfold ruv
  rw [if_neg (by omega), ruvFrom_of s p 10 0 v rfl (by decide) (by simpa using hv) (Or.inl rfl) (by simpa using hA) (by simpa using hs)]
  simp [uval]
theorem ruvFrom_cut (s : ByteArray) (p : Int) (d : Nat) : ∀ (i x : Nat), d + i = 10 → 1 ≤ d → x * 128 ^ (10 - d) < 2 ^ 64 →
    At s (p + i) (((uvl d x).map fun (n : Nat) => (n : Int)).dropLast) → p + i + (uvl d x).length = s.size + 1 →
    ruvFrom s p d i = (0, p, 11) := by
  induction d with
  | zero => intro i x _ h; omega
  | succ d ih =>
    intro i x hd _ hx hA hs
    simp only [ruvFrom]
    by_cases hg : 128 ≤ x
    · have e : uvl (d + 1) x = (x % 128 + 128) :: uvl d (x / 128) := by rw [uvl, if_pos hg]
      have hd1 : 1 ≤ d := by
        rcases Nat.eq_zero_or_pos d with h | h
        · subst h
          rw [show 10 - (0 + 1) = 9 from rfl] at hx
          omega
        · exact h
      have hne : (uvl d (x / 128)).map (fun (n : Nat) => (n : Int)) ≠ [] := by simpa using uvl_ne (v := x / 128) hd1
      have hpos : 1 ≤ (uvl d (x / 128)).length := by
        rcases Nat.eq_zero_or_pos (uvl d (x / 128)).length with h | h
        · exact absurd (List.eq_nil_of_length_eq_zero h) (uvl_ne hd1)
        · exact h
      have h9 : i ≠ 9 := by omega
      rw [e] at hA hs
      simp only [List.map_cons, List.length_cons] at hA hs
      rw [List.dropLast_cons_of_ne_nil hne] at hA
      have hb := hA.head
      rw [if_neg (by omega), hb, if_neg (by omega), if_neg (by omega)]
      have hA2 := hA.tail
      rw [show p + (i : Int) + 1 = p + ((i + 1 : Nat) : Int) by omega] at hA2
      exact ih (i + 1) (x / 128) (by omega) hd1 (small_next hx (by omega)) hA2 (by omega)
    · have e : uvl (d + 1) x = [x] := by rw [uvl, if_neg hg]
      rw [e] at hs
      rw [if_pos (by simp at hs; omega)]
theorem ruv_cut (s : ByteArray) (p : Int) (v : Nat) (hp : 0 ≤ p) (hv : v < 2 ^ 64) (hA : At s p (((uvl 10 v).map fun (n : Nat) => (n : Int)).dropLast)) (hs : p + (uvl 10 v).length = s.size + 1) : ruv s p = (0, p, 11) := by
  unfold ruv
  have hpos : 1 ≤ (uvl 10 v).length := by
    rcases Nat.eq_zero_or_pos (uvl 10 v).length with h | h
    · exact absurd (List.eq_nil_of_length_eq_zero h) (uvl_ne (by decide))
    · exact h
  rw [if_neg (by omega), ruvFrom_cut s p 10 0 v rfl (by decide) (by simpa using hv) (by simpa using hA) (by simpa using hs)]
theorem unzig_zig (i : Int) : unzig (zig i) = i := by
  unfold unzig zig
  split <;> split <;> omega
theorem zig_rng {i : Int} (h : -9223372036854775808 ≤ i ∧ i ≤ 9223372036854775807) : 0 ≤ zig i ∧ zig i < 18446744073709551616 := by
  unfold zig; split <;> omega
theorem rsv_of (s : ByteArray) (p i : Int) (hp : 0 ≤ p) (hi : -9223372036854775808 ≤ i ∧ i ≤ 9223372036854775807) (hA : At s p ((uvl 10 (zig i).toNat).map fun (n : Nat) => (n : Int))) (hs : p + (uvl 10 (zig i).toNat).length ≤ s.size) : rsv s p = (i, p + (uvl 10 (zig i).toNat).length, 0) := by
  have hz := zig_rng hi
  unfold rsv
  rw [ruv_of s p (zig i).toNat hp (by omega) hA hs]
  simp only [if_true]
  rw [Int.toNat_of_nonneg hz.1, unzig_zig]
theorem fxl_rng : ∀ n v y, y ∈ fxl n v → 0 ≤ y ∧ y < 256
  | 0, _, _, h => by simp [fxl] at h
  | n + 1, v, y, h => by
    rw [fxl] at h
    rcases List.mem_cons.1 h with h | h
    · omega
    · exact fxl_rng n _ y h
theorem fxl_len : ∀ n v, (fxl n v).length = n
  | 0, _ => rfl
  | n + 1, v => by rw [fxl, List.length_cons, fxl_len]
theorem fxb_len (n : Nat) (v : Int) : (fxb n v).size = n := by unfold fxb; rw [strOfNums_len, fxl_len]
theorem fxl_getD : ∀ n v (j : Nat), j < n → (fxl n v).getD j 0 = v / 256 ^ j % 256
  | 0, _, _, h => by omega
  | n + 1, v, 0, _ => by simp [fxl]
  | n + 1, v, j + 1, h => by
    have ih := fxl_getD n (v / 256) j (by omega)
    rw [fxl, List.getD_cons_succ, ih, Int.ediv_ediv_of_nonneg (by decide), show (256 : Int) * 256 ^ j = 256 ^ (j + 1) by rw [Int.pow_succ, Int.mul_comm]]
theorem fval_of (s : ByteArray) (p : Int) (n : Nat) (v : Int) (hA : At s p (fxl n v)) : ∀ m, m ≤ n → fval s p m = v % 256 ^ m
  | 0, _ => by simp [fval]
  | m + 1, h => by
    have ih := fval_of s p n v hA m (by omega)
    have hb := hA m (by rw [fxl_len]; omega)
    rw [fxl_getD n v m (by omega)] at hb
    simp only [fval]
    rw [ih, hb]
    have hpw : (256 : Int) ^ (m + 1) = 256 ^ m * 256 := Int.pow_succ 256 m
    rw [hpw]
    have hq := pow256_pos m
    generalize (256 : Int) ^ m = q at hq
    have e1 := Int.emod_add_mul_ediv v (q * 256)
    have e2 := Int.emod_add_mul_ediv v q
    have e3 : v / (q * 256) = v / q / 256 := (Int.ediv_ediv_of_nonneg (by omega)).symm
    have e4 := Int.emod_add_mul_ediv (v / q) 256
    have e5 : v / q % 256 * q = q * (v / q) - q * 256 * (v / q / 256) := by
      have : v / q % 256 = v / q - 256 * (v / q / 256) := by omega
      rw [this, Int.sub_mul, Int.mul_comm (v / q) q, Int.mul_comm (256 * _) q, Int.mul_assoc]
    rw [e5]
    rw [e3] at e1
    omega
theorem rfix_of (s : ByteArray) (p : Int) (n : Nat) (v : Int) (hp : 0 ≤ p) (hA : At s p (fxl n v)) (hs : p + n ≤ s.size) (hv : 0 ≤ v ∧ v < 256 ^ n) : rfix s p n = (v, p + n, 0) := by
  rw [rfix_ok (by omega) (by omega), fval_of s p n v hA n (Nat.le_refl _), Int.emod_eq_of_lt hv.1 hv.2]
/-- A text between two others. -/
theorem At_uvb (h t : ByteArray) (v : Nat) : At ((h ++ uvb v) ++ t) h.size ((uvl 10 v).map fun (n : Nat) => (n : Int)) := by
  have := At_list ((h ++ uvb v) ++ t) h.data.toList t.data.toList ((uvl 10 v).map fun (n : Nat) => (n : Int)) (by rw [append_list, append_list, uvb_list]) (by
    intro y hy
    obtain ⟨n, hn, rfl⟩ := List.mem_map.1 hy
    have := uvl_rng 10 v n hn
    omega)
  rw [size_list] at this
  exact this
theorem At_fxb (h t : ByteArray) (n : Nat) (v : Int) : At ((h ++ fxb n v) ++ t) h.size (fxl n v) := by
  have := At_list ((h ++ fxb n v) ++ t) h.data.toList t.data.toList (fxl n v) (by rw [append_list, append_list]; unfold fxb; rw [strOfNums_list]) (fxl_rng n v)
  rw [size_list] at this
  exact this
theorem size_app (a b : ByteArray) : (a ++ b).size = a.size + b.size := by rw [← size_list, ← size_list, ← size_list, append_list, List.length_append]
theorem ruv_back (h t : ByteArray) (v : Nat) (hv : v < 2 ^ 64) : ruv ((h ++ uvb v) ++ t) h.size = ((v : Int), (h.size : Int) + (uvb v).size, 0) := by
  rw [ruv_of _ _ v (by omega) hv (At_uvb h t v) (by rw [size_app, size_app, uvb_len]; omega), uvb_len]
theorem rsv_back (h t : ByteArray) (i : Int) (hi : -9223372036854775808 ≤ i ∧ i ≤ 9223372036854775807) : rsv ((h ++ uvb (zig i).toNat) ++ t) h.size = (i, (h.size : Int) + (uvb (zig i).toNat).size, 0) := by
  rw [rsv_of _ _ i (by omega) hi (At_uvb h t _) (by rw [size_app, size_app, uvb_len]; omega), uvb_len]
theorem rfix_back (h t : ByteArray) (n : Nat) (v : Int) (hv : 0 ≤ v ∧ v < 256 ^ n) : rfix ((h ++ fxb n v) ++ t) h.size n = (v, (h.size : Int) + n, 0) :=
  rfix_of _ _ n v (by omega) (At_fxb h t n v) (by rw [size_app, size_app, fxb_len]; omega) hv
theorem ruv_short (h : ByteArray) (v : Nat) (hv : v < 2 ^ 64) (m : Nat) (hm : m + 1 = (uvb v).size) : ruv (h ++ (uvb v).extract 0 m) h.size = (0, (h.size : Int), 11) := by
  have hl := uvb_len v
  have hlist : ((uvb v).extract 0 m).data.toList = (((uvl 10 v).map fun (n : Nat) => (n : Int)).dropLast).map (fun n => UInt8.ofNat n.toNat) := by
    rw [extract_list, uvb_list, List.dropLast_eq_take, List.map_take]
    simp only [List.drop_zero, Nat.sub_zero, List.length_map]
    rw [show (uvl 10 v).length - 1 = m by omega]
  refine ruv_cut _ _ v (by omega) hv ?_ ?_
  · have := At_list (h ++ (uvb v).extract 0 m) h.data.toList [] (((uvl 10 v).map fun (n : Nat) => (n : Int)).dropLast) (by rw [append_list, hlist]; simp) (by
      intro y hy
      obtain ⟨n, hn, rfl⟩ := List.mem_map.1 ((List.dropLast_sublist _).subset hy)
      have := uvl_rng 10 v n hn
      omega)
    rw [size_list] at this
    exact this
  · have e : ((uvb v).extract 0 m).size = m := by
      rw [← size_list, hlist, List.length_map, List.length_dropLast, List.length_map]
      omega
    rw [size_app, e]
    omega
theorem rtext_back (h b t : ByteArray) (most : Int) (hb : (b.size : Int) ≤ most) (hb2 : b.size < 2 ^ 64) : rtext ((h ++ (uvb b.size ++ b)) ++ t) h.size most = (b, (h.size : Int) + (uvb b.size ++ b).size, 0) := by
  have e : (h ++ (uvb b.size ++ b)) ++ t = (h ++ uvb b.size) ++ (b ++ t) := by
    apply ba_ext
    simp only [append_list, List.append_assoc]
  have hr := ruv_back h (b ++ t) b.size hb2
  rw [e]
  unfold rtext
  rw [hr]
  simp only [if_true]
  rw [if_neg (by omega), if_neg (by simp only [size_app]; omega)]
  simp only [Prod.mk.injEq, and_true]
  refine ⟨?_, by rw [size_app]; omega⟩
  apply ba_ext
  rw [extract_list]
  rw [show (((h.size : Int) + ((uvb b.size).size : Int)).toNat) = h.size + (uvb b.size).size by omega, show (((h.size : Int) + ((uvb b.size).size : Int) + (b.size : Int)).toNat) = h.size + (uvb b.size).size + b.size by omega]
  rw [append_list (h ++ uvb b.size), append_list b t]
  have hlen : ((h ++ uvb b.size).data.toList).length = h.size + (uvb b.size).size := by rw [size_list, size_app]
  rw [← hlen, List.drop_left, hlen, show h.size + (uvb b.size).size + b.size - (h.size + (uvb b.size).size) = b.size by omega, ← size_list b, List.take_left]

end Go.Proofs.YtbekgkikgcmmaaaDoor.HCore
