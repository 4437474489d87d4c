/- Plain laws on the linear maps of 32 bits, each told by what becomes of the 32 single bits: a map is had back from its table; the table of a map made twice; so many bytes of zeros by doubling. -/
import Derived.Test.YtnanepgcaefhcaaDoorHCrc
set_option linter.unusedVariables false
set_option linter.unusedSimpArgs false
namespace Go.Proofs.YtnanepgcaefhcaaDoor.HMat
open Go.RowKit Go.Proofs.YtnanepgcaefhcaaDoor.HCore Go.Proofs.YtnanepgcaefhcaaDoor.HCrc

structure Lin (f : Nat → Nat) : Prop where
  xor : ∀ a b, f (a ^^^ b) = f a ^^^ f b
  lt : ∀ a, a < 2 ^ 32 → f a < 2 ^ 32
theorem Lin.zero {f : Nat → Nat} (h : Lin f) : f 0 = 0 := by
  have := h.xor 0 0
  rw [Nat.xor_self, Nat.xor_self] at this
  exact this
theorem Lin.comp {f g : Nat → Nat} (h : Lin f) (k : Lin g) : Lin (fun r => f (g r)) := ⟨fun a b => by show f (g (a ^^^ b)) = _; rw [k.xor, h.xor], fun a ha => h.lt _ (k.lt _ ha)⟩
theorem lin_dn : Lin dn := ⟨dn_xor, fun _ => dn_lt⟩
theorem lin_dn8 : Lin dn8 := ⟨dn8_xor, fun _ => dn8_lt⟩
theorem zer_lt : ∀ n {a}, a < 2 ^ 32 → zer n a < 2 ^ 32
  | 0, _, h => h
  | n + 1, _, h => zer_lt n (dn8_lt h)
theorem lin_zer (n : Nat) : Lin (zer n) := ⟨zer_xor n, fun _ => zer_lt n⟩
theorem zer_add : ∀ m n a, zer (m + n) a = zer n (zer m a)
  | 0, n, a => by rw [Nat.zero_add]; rfl
  | m + 1, n, a => by rw [show m + 1 + n = (m + n) + 1 by omega]; exact zer_add m n (dn8 a)
/-- So many bits of zeros. -/
def dns : Nat → Nat → Nat
  | 0, r => r
  | n + 1, r => dns n (dn r)
theorem dns_lt : ∀ n {a}, a < 2 ^ 32 → dns n a < 2 ^ 32
  | 0, _, h => h
  | n + 1, _, h => dns_lt n (dn_lt h)
theorem dns_xor : ∀ n a b, dns n (a ^^^ b) = dns n a ^^^ dns n b
  | 0, _, _ => rfl
  | n + 1, a, b => by simp only [dns]; rw [dn_xor, dns_xor n]
theorem lin_dns (n : Nat) : Lin (dns n) := ⟨dns_xor n, fun _ => dns_lt n⟩
theorem dns_add : ∀ m n a, dns (m + n) a = dns n (dns m a)
  | 0, n, a => by rw [Nat.zero_add]; rfl
  | m + 1, n, a => by rw [show m + 1 + n = (m + n) + 1 by omega]; exact dns_add m n (dn a)
theorem dns_eight : ∀ n a, dns (8 * n) a = zer n a
  | 0, _ => rfl
  | n + 1, a => by
    rw [show 8 * (n + 1) = 8 + 8 * n by omega, dns_add, dns_eight n]
    rfl

/-- The table of a map: what becomes of each single bit. -/
def mat (f : Nat → Nat) : List Nat := (List.range 32).map fun i => f (2 ^ i)
theorem mat_len (f : Nat → Nat) : (mat f).length = 32 := by unfold mat; rw [List.length_map, List.length_range]
theorem mat_at (f : Nat → Nat) (i : Nat) (h : i < 32) : (mat f).getD i 0 = f (2 ^ i) := by
  unfold mat
  rw [List.getD_eq_getElem?_getD, List.getElem?_map, List.getElem?_range h]
  rfl
theorem mat_lt {f : Nat → Nat} (h : Lin f) (i : Nat) : (mat f).getD i 0 < 2 ^ 32 := by
  by_cases hi : i < 32
  · rw [mat_at f i hi]
    exact h.lt _ (Nat.pow_lt_pow_right (by decide) hi)
  · rw [List.getD_eq_getElem?_getD, List.getElem?_eq_none (by rw [mat_len]; omega)]
    decide
/-- What the table's rows of the first k bits of r come to. -/
def acc (m : List Nat) (r : Nat) : Nat → Nat
  | 0 => 0
  | k + 1 => if r / 2 ^ k % 2 = 1 then acc m r k ^^^ m.getD k 0 else acc m r k
theorem acc_mat {f : Nat → Nat} (h : Lin f) (r : Nat) : ∀ k, k ≤ 32 → acc (mat f) r k = f (r % 2 ^ k)
  | 0, _ => by rw [Nat.pow_zero, Nat.mod_one, h.zero]; rfl
  | k + 1, hk => by
    have ih := acc_mat h r k (by omega)
    have hp : 0 < 2 ^ k := Nat.pow_pos (by decide)
    simp only [acc]
    rw [ih, mat_at f k (by omega), Nat.mod_pow_succ]
    rcases Nat.mod_two_eq_zero_or_one (r / 2 ^ k) with e | e
    · rw [e, if_neg (by decide), Nat.mul_zero, Nat.add_zero]
    · rw [e, if_pos rfl, join_xor k (r % 2 ^ k) 1 (Nat.mod_lt _ hp), h.xor, Nat.mul_one]
theorem acc_all {f : Nat → Nat} (h : Lin f) (r : Nat) (hr : r < 2 ^ 32) : acc (mat f) r 32 = f r := by
  rw [acc_mat h r 32 (Nat.le_refl _), Nat.mod_eq_of_lt hr]
theorem acc_done {f : Nat → Nat} (h : Lin f) (r k : Nat) (hk : k ≤ 32) (h0 : r / 2 ^ k = 0) : acc (mat f) r k = f r := by
  rw [acc_mat h r k hk]
  have hp : 0 < 2 ^ k := Nat.pow_pos (by decide)
  rw [Nat.mod_eq_of_lt (by rcases Nat.div_eq_zero_iff.1 h0 with e | e <;> omega)]
theorem acc_lt {f : Nat → Nat} (h : Lin f) (r k : Nat) : acc (mat f) r k < 2 ^ 32 := by
  induction k with
  | zero => show (0 : Nat) < 2 ^ 32; decide
  | succ k ih =>
    simp only [acc]
    split
    · exact Nat.xor_lt_two_pow ih (mat_lt h k)
    · exact ih
/-- The list whose first k places hold what becomes of the table's own rows, the others the table's rows. -/
def sqr (f : Nat → Nat) (k : Nat) : List Nat := (List.range 32).map fun i => if i < k then f (f (2 ^ i)) else f (2 ^ i)
theorem sqr_zero (f : Nat → Nat) : sqr f 0 = mat f := by unfold sqr mat; apply List.map_congr_left; intro i _; rw [if_neg (by omega)]
theorem sqr_all (f : Nat → Nat) : sqr f 32 = mat (fun r => f (f r)) := by unfold sqr mat; apply List.map_congr_left; intro i hi; rw [if_pos (by simpa using hi)]
theorem sqr_step (f : Nat → Nat) (k : Nat) (hk : k < 32) : (sqr f k).set k (f (f (2 ^ k))) = sqr f (k + 1) := by
  apply List.ext_getElem?
  intro j
  unfold sqr
  rw [List.getElem?_set]
  simp only [List.length_map, List.length_range, List.getElem?_map]
  by_cases h : k = j
  · subst h; rw [if_pos rfl, if_pos hk, List.getElem?_range hk]; simp
  · rw [if_neg h]
    by_cases hj : j < 32
    · rw [List.getElem?_range hj]
      simp only [Option.map_some, Option.some.injEq]
      by_cases g : j < k
      · rw [if_pos g, if_pos (by omega)]
      · rw [if_neg g, if_neg (by omega)]
    · rw [List.getElem?_eq_none (by rw [List.length_range]; omega)]
      rfl
theorem sqr_at (f : Nat → Nat) (k i : Nat) (hi : i < 32) (h : k ≤ i) : (sqr f k).getD i 0 = f (2 ^ i) := by
  unfold sqr
  rw [List.getD_eq_getElem?_getD, List.getElem?_map, List.getElem?_range hi]
  simp only [Option.map_some, Option.getD_some]
  rw [if_neg (by omega)]
theorem sqr_len (f : Nat → Nat) (k : Nat) : (sqr f k).length = 32 := by unfold sqr; rw [List.length_map, List.length_range]
theorem mat_congr {f g : Nat → Nat} (h : ∀ r, f r = g r) : mat f = mat g := by unfold mat; apply List.map_congr_left; intro i _; exact h _
theorem mat_twice (n : Nat) : mat (fun r => zer n (zer n r)) = mat (zer (n + n)) := mat_congr fun r => (zer_add n n r).symm
theorem dns_twice (n : Nat) : mat (fun r => dns n (dns n r)) = mat (dns (n + n)) := mat_congr fun r => (dns_add n n r).symm
end Go.Proofs.YtnanepgcaefhcaaDoor.HMat
