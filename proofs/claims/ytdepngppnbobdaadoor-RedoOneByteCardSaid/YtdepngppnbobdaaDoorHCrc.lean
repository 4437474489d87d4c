/- Plain laws on the sum CRC-32C: its register moves by a linear rule, half bytes by a table, four bytes beside one another are told apart, and the sum of two texts joined comes out of both sums. -/
import Derived.Test.YtdepngppnbobdaaDoorHCore
set_option linter.unusedVariables false
set_option linter.unusedSimpArgs false
namespace Go.Proofs.YtdepngppnbobdaaDoor.HCrc
open Go.RowKit Go.Proofs.YtdepngppnbobdaaDoor.HCore

def poly : Nat := 2197175160
/-- The register, by one bit. -/
def dn (r : Nat) : Nat := if r % 2 = 1 then (r / 2) ^^^ poly else r / 2
def dn4 (r : Nat) : Nat := dn (dn (dn (dn r)))
def dn8 (r : Nat) : Nat := dn4 (dn4 r)
def halves : List Nat := [0, 274646895, 549293790, 820201905, 1098587580, 1361435347, 1640403810, 1905808397, 2197175160, 2460548119, 2722870694, 2987750089, 3280807620, 3553878443, 3811616794, 4084100981]
/-- What becomes of the register, byte by byte. -/
def crc (r : Nat) (l : List UInt8) : Nat := l.foldl (fun r b => dn8 (r ^^^ b.toNat)) r
/-- The sum of what gave the sum c, with l behind it. -/
def ext (c : Nat) (l : List UInt8) : Nat := 4294967295 ^^^ crc (4294967295 ^^^ c) l

theorem xor_div2 (a b : Nat) : (a ^^^ b) / 2 = a / 2 ^^^ b / 2 := by
  have := Nat.shiftRight_xor_distrib (a := a) (b := b) (i := 1)
  simpa [Nat.shiftRight_eq_div_pow] using this
theorem xor_mod2 (a b : Nat) : (a ^^^ b) % 2 = (a % 2 + b % 2) % 2 := by
  have h := Nat.testBit_xor a b 0
  simp only [Nat.testBit_zero] at h
  rcases Nat.mod_two_eq_zero_or_one a with ha | ha <;> rcases Nat.mod_two_eq_zero_or_one b with hb | hb <;> rcases Nat.mod_two_eq_zero_or_one (a ^^^ b) with hc | hc <;> simp_all
theorem dn_xor (a b : Nat) : dn (a ^^^ b) = dn a ^^^ dn b := by
  unfold dn
  rw [xor_mod2, xor_div2]
  rcases Nat.mod_two_eq_zero_or_one a with ha | ha <;> rcases Nat.mod_two_eq_zero_or_one b with hb | hb <;> rw [ha, hb]
  · simp
  · simp [Nat.xor_assoc]
  · simp only [Nat.add_zero, Nat.one_mod, if_true, Nat.zero_ne_one, if_false]
    rw [Nat.xor_assoc, Nat.xor_assoc, Nat.xor_comm poly]
  · simp only [show (1 + 1) % 2 = 0 from rfl, Nat.zero_ne_one, if_false, if_true]
    rw [Nat.xor_assoc, Nat.xor_comm poly (b / 2 ^^^ poly), Nat.xor_assoc (b / 2), Nat.xor_self, Nat.xor_zero]
theorem dn4_xor (a b : Nat) : dn4 (a ^^^ b) = dn4 a ^^^ dn4 b := by unfold dn4; rw [dn_xor, dn_xor, dn_xor, dn_xor]
theorem dn8_xor (a b : Nat) : dn8 (a ^^^ b) = dn8 a ^^^ dn8 b := by unfold dn8; rw [dn4_xor, dn4_xor]
theorem dn_even (q : Nat) : dn (2 * q) = q := by unfold dn; rw [if_neg (by omega)]; omega
theorem dn4_16 (q : Nat) : dn4 (16 * q) = q := by
  unfold dn4
  rw [show 16 * q = 2 * (2 * (2 * (2 * q))) by omega, dn_even, dn_even, dn_even, dn_even]
theorem dn8_256 (q : Nat) : dn8 (256 * q) = q := by
  unfold dn8
  rw [show 256 * q = 16 * (16 * q) by omega, dn4_16, dn4_16]
theorem join_xor (i w q : Nat) (hw : w < 2 ^ i) : w + 2 ^ i * q = w ^^^ (2 ^ i * q) := by
  apply Nat.eq_of_testBit_eq
  intro j
  rw [Nat.testBit_xor, Nat.add_comm, Nat.testBit_two_pow_mul_add q hw j, Nat.testBit_two_pow_mul]
  by_cases h : j < i
  · rw [if_pos h]; simp [Nat.not_le.2 h]
  · have h2 : w.testBit j = false := Nat.testBit_lt_two_pow (Nat.lt_of_lt_of_le hw (Nat.pow_le_pow_right (by decide) (by omega)))
    rw [if_neg h, h2]; simp; omega
theorem half_small : ∀ x, x < 16 → dn4 x = halves.getD x 0 := by decide
/-- One step of the table. -/
theorem step4 (r : Nat) : (halves.getD (r % 16) 0) ^^^ (r / 16) = dn4 r := by
  have e : r = (r % 16) ^^^ (16 * (r / 16)) := by
    rw [show (16 : Nat) = 2 ^ 4 from rfl, ← join_xor 4 _ _ (by omega)]
    omega
  conv => rhs; rw [e]
  rw [dn4_xor, dn4_16, half_small _ (by omega)]

/-! ### the register has 32 bits -/
theorem dn_lt {r : Nat} (h : r < 2 ^ 32) : dn r < 2 ^ 32 := by
  unfold dn
  split
  · exact Nat.xor_lt_two_pow (by omega) (by decide)
  · omega
theorem dn4_lt {r : Nat} (h : r < 2 ^ 32) : dn4 r < 2 ^ 32 := dn_lt (dn_lt (dn_lt (dn_lt h)))
theorem dn8_lt {r : Nat} (h : r < 2 ^ 32) : dn8 r < 2 ^ 32 := dn4_lt (dn4_lt h)
theorem crc_lt (l : List UInt8) : ∀ {r : Nat}, r < 2 ^ 32 → crc r l < 2 ^ 32 := by
  induction l with
  | nil => intro r h; exact h
  | cons b l ih =>
    intro r h
    show crc (dn8 (r ^^^ b.toNat)) l < 2 ^ 32
    exact ih (dn8_lt (Nat.xor_lt_two_pow h (by have := b.toNat_lt; omega)))
theorem ext_lt (c : Nat) (l : List UInt8) (h : c < 2 ^ 32) : ext c l < 2 ^ 32 :=
  Nat.xor_lt_two_pow (by decide) (crc_lt l (Nat.xor_lt_two_pow (by decide) h))
theorem crc_append (r : Nat) (a b : List UInt8) : crc r (a ++ b) = crc (crc r a) b := List.foldl_append
theorem not_not (c : Nat) : 4294967295 ^^^ (4294967295 ^^^ c) = c := by rw [← Nat.xor_assoc, Nat.xor_self, Nat.zero_xor]
theorem ext_append (c : Nat) (a b : List UInt8) : ext c (a ++ b) = ext (ext c a) b := by
  unfold ext
  rw [crc_append, not_not]
theorem ext_nil (c : Nat) : ext c [] = c := not_not c

/-! ### what is told apart -/
theorem xor_zero_eq {a b : Nat} (h : a ^^^ b = 0) : a = b := by
  have : a ^^^ (a ^^^ b) = a ^^^ 0 := by rw [h]
  rw [← Nat.xor_assoc, Nat.xor_self, Nat.zero_xor, Nat.xor_zero] at this
  exact this.symm
theorem dn_zero {r : Nat} (h : r < 2 ^ 32) (h0 : dn r = 0) : r = 0 := by
  unfold dn at h0
  split at h0
  · have := xor_zero_eq h0
    unfold poly at this
    omega
  · omega
theorem dn_inj {a b : Nat} (ha : a < 2 ^ 32) (hb : b < 2 ^ 32) (h : dn a = dn b) : a = b := by
  apply xor_zero_eq
  apply dn_zero (Nat.xor_lt_two_pow ha hb)
  rw [dn_xor, h, Nat.xor_self]
theorem dn4_inj {a b : Nat} (ha : a < 2 ^ 32) (hb : b < 2 ^ 32) (h : dn4 a = dn4 b) : a = b :=
  dn_inj ha hb (dn_inj (dn_lt ha) (dn_lt hb) (dn_inj (dn_lt (dn_lt ha)) (dn_lt (dn_lt hb)) (dn_inj (dn_lt (dn_lt (dn_lt ha))) (dn_lt (dn_lt (dn_lt hb))) h)))
theorem dn8_inj {a b : Nat} (ha : a < 2 ^ 32) (hb : b < 2 ^ 32) (h : dn8 a = dn8 b) : a = b := dn4_inj ha hb (dn4_inj (dn4_lt ha) (dn4_lt hb) h)
theorem xor_cancel {a b c : Nat} (h : a ^^^ c = b ^^^ c) : a = b := by
  have : (a ^^^ c) ^^^ c = (b ^^^ c) ^^^ c := by rw [h]
  rw [Nat.xor_assoc, Nat.xor_assoc, Nat.xor_self, Nat.xor_zero, Nat.xor_zero] at this
  exact this
theorem xor_cancel_left {a b c : Nat} (h : c ^^^ a = c ^^^ b) : a = b := xor_cancel (c := c) (by rw [Nat.xor_comm a, Nat.xor_comm b, h])
theorem crc_inj (l : List UInt8) : ∀ {a b : Nat}, a < 2 ^ 32 → b < 2 ^ 32 → crc a l = crc b l → a = b := by
  induction l with
  | nil => intro a b _ _ h; exact h
  | cons c l ih =>
    intro a b ha hb h
    have hc : c.toNat < 2 ^ 32 := by have := c.toNat_lt; omega
    have := ih (dn8_lt (Nat.xor_lt_two_pow ha hc)) (dn8_lt (Nat.xor_lt_two_pow hb hc)) h
    exact xor_cancel (dn8_inj (Nat.xor_lt_two_pow ha hc) (Nat.xor_lt_two_pow hb hc) this)
theorem dn8_word (r w q : Nat) (hw : w < 256) : dn8 (r ^^^ (w + 256 * q)) = dn8 (r ^^^ w) ^^^ q := by
  rw [show (256 : Nat) = 2 ^ 8 from rfl, join_xor 8 w q hw, ← Nat.xor_assoc, dn8_xor, show (2 : Nat) ^ 8 = 256 from rfl, dn8_256]
theorem crc_word (r : Nat) (a b c d : UInt8) : crc r [a, b, c, d] = dn8 (dn8 (dn8 (dn8 (r ^^^ (a.toNat + 256 * (b.toNat + 256 * (c.toNat + 256 * d.toNat))))))) := by
  have ha := a.toNat_lt
  have hb := b.toNat_lt
  have hc := c.toNat_lt
  have hd := d.toNat_lt
  rw [dn8_word r _ _ ha, dn8_word _ _ _ hb, dn8_word _ _ _ hc]
  rfl
/-- Four bytes beside one another: the sum tells them apart. -/
theorem ext_told (c : Nat) (hc : c < 2 ^ 32) (pre post : List UInt8) (a0 a1 a2 a3 b0 b1 b2 b3 : UInt8) (h : ext c (pre ++ [a0, a1, a2, a3] ++ post) = ext c (pre ++ [b0, b1, b2, b3] ++ post)) : a0 = b0 ∧ a1 = b1 ∧ a2 = b2 ∧ a3 = b3 := by
  have h1 := xor_cancel_left h
  rw [crc_append, crc_append, crc_append, crc_append] at h1
  have hr : crc (4294967295 ^^^ c) pre < 2 ^ 32 := crc_lt pre (Nat.xor_lt_two_pow (by decide) hc)
  have h2 := crc_inj post (crc_lt _ hr) (crc_lt _ hr) h1
  rw [crc_word, crc_word] at h2
  generalize crc (4294967295 ^^^ c) pre = r at hr h2
  have ha0 := a0.toNat_lt
  have ha1 := a1.toNat_lt
  have ha2 := a2.toNat_lt
  have ha3 := a3.toNat_lt
  have hb0 := b0.toNat_lt
  have hb1 := b1.toNat_lt
  have hb2 := b2.toNat_lt
  have hb3 := b3.toNat_lt
  have hx : r ^^^ (a0.toNat + 256 * (a1.toNat + 256 * (a2.toNat + 256 * a3.toNat))) < 2 ^ 32 := Nat.xor_lt_two_pow hr (by omega)
  have hy : r ^^^ (b0.toNat + 256 * (b1.toNat + 256 * (b2.toNat + 256 * b3.toNat))) < 2 ^ 32 := Nat.xor_lt_two_pow hr (by omega)
  have h3 := dn8_inj hx hy (dn8_inj (dn8_lt hx) (dn8_lt hy) (dn8_inj (dn8_lt (dn8_lt hx)) (dn8_lt (dn8_lt hy)) (dn8_inj (dn8_lt (dn8_lt (dn8_lt hx))) (dn8_lt (dn8_lt (dn8_lt hy))) h2)))
  have h4 := xor_cancel_left h3
  refine ⟨UInt8.toNat_inj.1 ?_, UInt8.toNat_inj.1 ?_, UInt8.toNat_inj.1 ?_, UInt8.toNat_inj.1 ?_⟩ <;> omega

/-! ### joining -/
/-- n bytes of zeros. -/
def zer : Nat → Nat → Nat
  | 0, r => r
  | n + 1, r => zer n (dn8 r)
theorem zer_xor : ∀ n a b, zer n (a ^^^ b) = zer n a ^^^ zer n b
  | 0, _, _ => rfl
  | n + 1, a, b => by simp only [zer]; rw [dn8_xor, zer_xor n]
theorem crc_xor (l : List UInt8) : ∀ (r q : Nat), crc (r ^^^ q) l = crc r l ^^^ zer l.length q := by
  induction l with
  | nil => intro r q; rfl
  | cons b l ih =>
    intro r q
    show crc (dn8 ((r ^^^ q) ^^^ b.toNat)) l = crc (dn8 (r ^^^ b.toNat)) l ^^^ zer l.length (dn8 q)
    rw [Nat.xor_assoc, Nat.xor_comm q, ← Nat.xor_assoc, dn8_xor, ih]
/-- The sum of two texts joined. -/
theorem ext_join (c : Nat) (l : List UInt8) : ext c l = zer l.length c ^^^ ext 0 l := by
  unfold ext
  rw [crc_xor l 4294967295 c, show 4294967295 ^^^ (0 : Nat) = 4294967295 from rfl, ← Nat.xor_assoc, Nat.xor_comm]

end Go.Proofs.YtdepngppnbobdaaDoor.HCrc
