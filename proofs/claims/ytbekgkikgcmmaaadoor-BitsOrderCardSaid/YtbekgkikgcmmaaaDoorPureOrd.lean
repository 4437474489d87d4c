/- Several texts of this seat laid together: HBitS, PureBitsOrder. -/
import Derived.Test.YtbekgkikgcmmaaaDoorHBitN
import Derived.Test.YtbekgkikgcmmaaaDoorHCompD
import Derived.Test.YtbekgkikgcmmaaaDoorPOrdx9
import Derived.Test.YtbekgkikgcmmaaaDoorPOrdA
/- The order of the bytes of two keys is the order of their lists. -/
set_option linter.unusedVariables false
set_option linter.unusedSimpArgs false
namespace Go.Proofs.YtbekgkikgcmmaaaDoor.HBitS
open Go.RowKit Go.Proofs.YtbekgkikgcmmaaaDoor.PBit Go.Proofs.YtbekgkikgcmmaaaDoor.HBase Go.Proofs.YtbekgkikgcmmaaaDoorW.PrintWords Go.Proofs.YtbekgkikgcmmaaaDoorW.PrintLast Go.Proofs.YtbekgkikgcmmaaaDoorW.PrintMore Go.Proofs.YtbekgkikgcmmaaaDoor.HCore Go.Proofs.YtbekgkikgcmmaaaDoor.HComp Go.Proofs.YtbekgkikgcmmaaaDoor.HBitL Go.Proofs.YtbekgkikgcmmaaaDoor.HBitT Go.Proofs.YtbekgkikgcmmaaaDoor.HBitE Go.Proofs.YtbekgkikgcmmaaaDoor.HBitF Go.Proofs.YtbekgkikgcmmaaaDoor.HBitX Go.Proofs.YtbekgkikgcmmaaaDoor.HBitQ Go.Proofs.YtbekgkikgcmmaaaDoor.HBitU Go.Proofs.YtbekgkikgcmmaaaDoor.HBitO

/-- Two texts part at a byte. -/
def Parts (P Q : List UInt8) (lt : Bool) : Prop := ∃ l c d p q, P = l ++ c :: p ∧ Q = l ++ d :: q ∧ c ≠ d ∧ lt = decide (c < d)
theorem u8_turn {c d : UInt8} (h : c ≠ d) : decide (d < c) = !decide (c < d) := by
  have hn : c.toNat ≠ d.toNat := fun e => h (UInt8.toNat_inj.1 e)
  by_cases e : c < d
  · have : ¬ d < c := by rw [UInt8.lt_iff_toNat_lt] at e ⊢; omega
    simp [e, this]
  · have : d < c := by rw [UInt8.lt_iff_toNat_lt] at e ⊢; omega
    simp [e, this]
theorem Parts.turn {P Q : List UInt8} {b : Bool} (h : Parts P Q b) : Parts Q P (!b) := by
  obtain ⟨l, c, d, p, q, rfl, rfl, hn, rfl⟩ := h
  exact ⟨l, d, c, q, p, rfl, rfl, Ne.symm hn, (u8_turn hn).symm⟩
theorem Parts.app {P Q : List UInt8} {b : Bool} (h : Parts P Q b) (A B : List UInt8) : Parts (P ++ A) (Q ++ B) b := by
  obtain ⟨l, c, d, p, q, rfl, rfl, hn, hb⟩ := h
  exact ⟨l, c, d, p ++ A, q ++ B, by simp, by simp, hn, hb⟩
theorem Parts.pre {P Q : List UInt8} {b : Bool} (h : Parts P Q b) (L : List UInt8) : Parts (L ++ P) (L ++ Q) b := by
  obtain ⟨l, c, d, p, q, rfl, rfl, hn, hb⟩ := h
  exact ⟨L ++ l, c, d, p, q, by simp, by simp, hn, hb⟩
theorem Parts.head {c d : UInt8} {p q : List UInt8} (h : c ≠ d) : Parts (c :: p) (d :: q) (decide (c < d)) := ⟨[], c, d, p, q, rfl, rfl, h, rfl⟩
theorem less_pre : ∀ (l P Q : List UInt8), Op.bytesLess (l ++ P) (l ++ Q) = Op.bytesLess P Q
  | [], _, _ => rfl
  | c :: l, P, Q => by
    have h1 : ¬ c < c := by rw [UInt8.lt_iff_toNat_lt]; omega
    rw [List.cons_append, List.cons_append, Op.bytesLess, less_pre l P Q]
    simp [h1]
theorem Parts.less {P Q : List UInt8} {b : Bool} (h : Parts P Q b) : Op.bytesLess P Q = b := by
  obtain ⟨l, c, d, p, q, rfl, rfl, hn, rfl⟩ := h
  rw [less_pre, Op.bytesLess]
  simp [hn]
theorem Parts.ne {P Q : List UInt8} {b : Bool} (h : Parts P Q b) : P ≠ Q := by
  obtain ⟨l, c, d, p, q, rfl, rfl, hn, _⟩ := h
  intro e
  have := List.append_cancel_left e
  injection this with h1 _
  exact hn h1
theorem Parts.take {P Q : List UInt8} {b : Bool} (h : Parts P Q b) : Q.take P.length ≠ P := by
  obtain ⟨l, c, d, p, q, rfl, rfl, hn, _⟩ := h
  intro e
  rw [List.length_append, List.take_append, List.take_of_length_le (by omega)] at e
  have := List.append_cancel_left e
  rw [List.length_cons, show l.length + (p.length + 1) - l.length = p.length + 1 by omega, List.take_succ_cons] at this
  injection this with h1 _
  exact hn h1.symm
theorem ofNat_lt {a b : Int} (ha : 0 ≤ a ∧ a < 256) (hb : 0 ≤ b ∧ b < 256) (h : a < b) : UInt8.ofNat a.toNat ≠ UInt8.ofNat b.toNat ∧ decide (UInt8.ofNat a.toNat < UInt8.ofNat b.toNat) = true := by
  have e1 : (UInt8.ofNat a.toNat).toNat = a.toNat := by rw [UInt8.toNat_ofNat']; omega
  have e2 : (UInt8.ofNat b.toNat).toNat = b.toNat := by rw [UInt8.toNat_ofNat']; omega
  constructor
  · intro e
    have := congrArg UInt8.toNat e
    omega
  · rw [decide_eq_true_eq, UInt8.lt_iff_toNat_lt]
    omega
theorem head_lt {a b : Int} (ha : 0 ≤ a ∧ a < 256) (hb : 0 ≤ b ∧ b < 256) (h : a < b) (p q : List Int) : Parts (ub (a :: p)) (ub (b :: q)) true := by
  obtain ⟨h1, h2⟩ := ofNat_lt ha hb h
  have := Parts.head (p := ub p) (q := ub q) h1
  rw [h2] at this
  exact this
theorem cons_same {a : Int} {p q : List Int} {b : Bool} (h : Parts (ub p) (ub q) b) : Parts (ub (a :: p)) (ub (a :: q)) b := h.pre [UInt8.ofNat a.toNat]
/-- Two numbers below 256^n part at their highest digits that differ. -/
theorem bdt_parts (t : Int) (ht : t = 0 ∨ t = 255) (u v : Nat) : ∀ n, u % 256 ^ n < v % 256 ^ n → Parts (ub (bdt u t n)) (ub (bdt v t n)) (decide (t = 0))
  | 0, h => by rw [Nat.pow_zero, Nat.mod_one, Nat.mod_one] at h; omega
  | n + 1, h => by
    rw [Nat.pow_succ, Nat.mod_mul, Nat.mod_mul] at h
    rw [bdt, bdt]
    have hu : u / 256 ^ n % 256 < 256 := Nat.mod_lt _ (by decide)
    have hv : v / 256 ^ n % 256 < 256 := Nat.mod_lt _ (by decide)
    have hm : u % 256 ^ n < 256 ^ n := Nat.mod_lt _ (Nat.pow_pos (by decide))
    have hm2 : v % 256 ^ n < 256 ^ n := Nat.mod_lt _ (Nat.pow_pos (by decide))
    have ih := bdt_parts t ht u v n
    generalize u / 256 ^ n % 256 = du at h hu
    generalize v / 256 ^ n % 256 = dv at h hv
    by_cases e : du = dv
    · subst e
      exact cons_same (ih (by omega))
    · have hlt : du < dv := by
        refine Nat.lt_of_le_of_ne (Nat.le_of_not_lt fun hgt => ?_) e
        have : 256 ^ n * (dv + 1) ≤ 256 ^ n * du := Nat.mul_le_mul_left _ hgt
        rw [Nat.mul_add, Nat.mul_one] at this
        omega
      rcases ht with rfl | rfl
      · rw [xor0 ⟨du, hu⟩, xor0 ⟨dv, hv⟩]
        exact head_lt (by simp only; omega) (by simp only; omega) (by simp only; omega) _ _
      · rw [xor255 ⟨du, hu⟩, xor255 ⟨dv, hv⟩]
        have := (head_lt (a := 255 - (dv : Int)) (b := 255 - (du : Int)) (by omega) (by omega) (by omega) (bdt v 255 n) (bdt u 255 n)).turn
        exact this
theorem int_parts (i j : Int) (hi : -9223372036854775808 ≤ i ∧ i ≤ 9223372036854775807) (hj : -9223372036854775808 ≤ j ∧ j ≤ 9223372036854775807) (h : i < j) : Parts (ub (kint i)) (ub (kint j)) true := by
  by_cases h0 : 0 ≤ i
  · obtain ⟨u, rfl⟩ := Int.eq_ofNat_of_zero_le h0
    obtain ⟨v, rfl⟩ := Int.eq_ofNat_of_zero_le (show 0 ≤ j by omega)
    have b1 := nb_le u
    have b2 := nb_le v
    obtain ⟨a1, a2⟩ := nb_lt (nb u) u rfl (by omega)
    obtain ⟨a3, a4⟩ := nb_lt (nb v) v rfl (by omega)
    rw [kint_up, kint_up]
    by_cases e : nb u = nb v
    · rw [← e] at a3 ⊢
      exact cons_same (bdt_parts 0 (Or.inl rfl) u v (nb u) (by rw [Nat.mod_eq_of_lt a1, Nat.mod_eq_of_lt a3]; omega))
    · have : nb u < nb v := by
        refine Nat.lt_of_le_of_ne (Nat.le_of_not_lt fun hgt => ?_) e
        have h1 := a2 (by omega)
        have h2 : 256 ^ nb v ≤ 256 ^ (nb u - 1) := Nat.pow_le_pow_right (by decide) (by omega)
        omega
      exact head_lt (by omega) (by omega) (by omega) _ _
  · obtain ⟨u, hu⟩ : ∃ u : Nat, i = -1 - (u : Int) := ⟨(-1 - i).toNat, by omega⟩
    subst hu
    have b1 := nb_le u
    obtain ⟨a1, a2⟩ := nb_lt (nb u) u rfl (by omega)
    rw [kint_dn u (by omega)]
    by_cases h1 : 0 ≤ j
    · obtain ⟨v, rfl⟩ := Int.eq_ofNat_of_zero_le h1
      have b2 := nb_le v
      rw [kint_up]
      exact head_lt (by omega) (by omega) (by omega) _ _
    · obtain ⟨v, hv⟩ : ∃ v : Nat, j = -1 - (v : Int) := ⟨(-1 - j).toNat, by omega⟩
      subst hv
      have b2 := nb_le v
      obtain ⟨a3, a4⟩ := nb_lt (nb v) v rfl (by omega)
      rw [kint_dn v (by omega)]
      by_cases e : nb u = nb v
      · rw [← e] at a3 ⊢
        have := (bdt_parts 255 (Or.inr rfl) v u (nb u) (by rw [Nat.mod_eq_of_lt a1, Nat.mod_eq_of_lt a3]; omega)).turn
        exact cons_same this
      · have : nb v < nb u := by
          refine Nat.lt_of_le_of_ne (Nat.le_of_not_lt fun hgt => ?_) (Ne.symm e)
          have h1 := a4 (by omega)
          have h2 : 256 ^ nb u ≤ 256 ^ (nb v - 1) := Nat.pow_le_pow_right (by decide) (by omega)
          omega
        exact head_lt (by omega) (by omega) (by omega) _ _
theorem u8_pos {b : UInt8} (h : b ≠ 0) : decide ((0 : UInt8) < b) = true := by
  have hn : b.toNat ≠ 0 := fun e => h (UInt8.toNat_inj.1 e)
  rw [decide_eq_true_eq, UInt8.lt_iff_toNat_lt]
  show 0 < b.toNat
  omega
theorem text_parts : ∀ (r r' : List UInt8), r ≠ r' → Parts (zz r ++ [0, 1]) (zz r' ++ [0, 1]) (Op.bytesLess r r')
  | [], [], h => absurd rfl h
  | [], b :: r', _ => by
    by_cases hz : b = 0
    · subst hz
      rw [show zz (0 :: r') = 0 :: 255 :: zz r' by rw [zz, if_pos rfl]]
      exact (Parts.head (c := 1) (d := 255) (p := []) (q := zz r' ++ [0, 1]) (by decide)).pre [0]
    · rw [show zz (b :: r') = b :: zz r' by rw [zz, if_neg hz]]
      have := Parts.head (c := 0) (d := b) (p := [1]) (q := zz r' ++ [0, 1]) (Ne.symm hz)
      rw [u8_pos hz] at this
      exact this
  | b :: r, [], _ => by
    by_cases hz : b = 0
    · subst hz
      rw [show zz (0 :: r) = 0 :: 255 :: zz r by rw [zz, if_pos rfl]]
      exact (Parts.head (c := 255) (d := 1) (p := zz r ++ [0, 1]) (q := []) (by decide)).pre [0]
    · rw [show zz (b :: r) = b :: zz r by rw [zz, if_neg hz]]
      have := Parts.head (c := b) (d := 0) (p := zz r ++ [0, 1]) (q := [1]) hz
      rw [u8_turn (Ne.symm hz), u8_pos hz] at this
      exact this
  | b :: r, c :: r', h => by
    by_cases e : b = c
    · subst e
      have ih := text_parts r r' (fun e => h (by rw [e]))
      have hl : Op.bytesLess (b :: r) (b :: r') = Op.bytesLess r r' := less_pre [b] r r'
      rw [hl]
      by_cases hz : b = 0
      · subst hz
        rw [show zz (0 :: r) = 0 :: 255 :: zz r by rw [zz, if_pos rfl], show zz (0 :: r') = 0 :: 255 :: zz r' by rw [zz, if_pos rfl]]
        exact ih.pre [0, 255]
      · rw [show zz (b :: r) = b :: zz r by rw [zz, if_neg hz], show zz (b :: r') = b :: zz r' by rw [zz, if_neg hz]]
        exact ih.pre [b]
    · have hl : Op.bytesLess (b :: r) (c :: r') = decide (b < c) := by
        rw [Op.bytesLess]
        simp [e]
      rw [hl]
      have f : ∀ (x : UInt8) (y : List UInt8), ∃ p, zz (x :: y) ++ [0, 1] = x :: p := fun x y => by
        by_cases hz : x = 0
        · subst hz; exact ⟨_, by rw [show zz (0 :: y) = 0 :: 255 :: zz y by rw [zz, if_pos rfl]]; rfl⟩
        · exact ⟨_, by rw [show zz (x :: y) = x :: zz y by rw [zz, if_neg hz]]; rfl⟩
      obtain ⟨p, hp⟩ := f b r
      obtain ⟨q, hq⟩ := f c r'
      rw [hp, hq]
      exact Parts.head e
/-- Is a value ahead of another? -/
def lessV (x y : S33) : Bool := if x.f0 = y.f0 then (if x.f1 = y.f1 then Op.bytesLess x.f2.toList y.f2.toList else decide (x.f1 < y.f1)) else decide (x.f0 < y.f0)
theorem head_of {x : S33} (h : chk1 x = 0) (hr : -9223372036854775808 ≤ x.f1 ∧ x.f1 ≤ 9223372036854775807) :
    ∃ b p, kb x = b :: p ∧ ((x.f0 = 0 ∧ b = 16) ∨ (x.f0 = 1 ∧ 32 ≤ b ∧ b ≤ 33) ∨ (x.f0 = 2 ∧ 47 ≤ b ∧ b ≤ 64) ∨ (x.f0 = 3 ∧ b = 80)) := by
  rcases shape_of h hr with e | e | e | e | ⟨e, _⟩
  · rw [e]
    exact ⟨16, [], kb_0, Or.inl ⟨rfl, rfl⟩⟩
  · rw [e]
    exact ⟨32 + 0, [], kb_1 0, Or.inr (Or.inl ⟨rfl, by decide, by decide⟩)⟩
  · rw [e]
    exact ⟨32 + 1, [], kb_1 1, Or.inr (Or.inl ⟨rfl, by decide, by decide⟩)⟩
  · generalize x.f1 = f1 at e hr
    rw [e]
    by_cases h0 : 0 ≤ f1
    · obtain ⟨u, rfl⟩ := Int.eq_ofNat_of_zero_le h0
      have := nb_le u
      exact ⟨_, _, (kb_2 _).trans (kint_up u), Or.inr (Or.inr (Or.inl ⟨rfl, by omega, by omega⟩))⟩
    · obtain ⟨u, hu⟩ : ∃ u : Nat, f1 = -1 - (u : Int) := ⟨(-1 - f1).toNat, by omega⟩
      subst hu
      have := nb_le u
      exact ⟨_, _, (kb_2 _).trans (kint_dn u (by omega)), Or.inr (Or.inr (Or.inl ⟨rfl, by omega, by omega⟩))⟩
  · rw [e]
    exact ⟨80, _, kb_3 _, Or.inr (Or.inr (Or.inr ⟨rfl, rfl⟩))⟩
theorem less_irr : ∀ l : List UInt8, Op.bytesLess l l = false
  | [] => rfl
  | c :: l => (less_pre [c] l l).trans (less_irr l)
theorem value_parts (x y : S33) (hx : chk1 x = 0) (hxr : -9223372036854775808 ≤ x.f1 ∧ x.f1 ≤ 9223372036854775807) (hy : chk1 y = 0) (hyr : -9223372036854775808 ≤ y.f1 ∧ y.f1 ≤ 9223372036854775807) (hne : x ≠ y) :
    Parts (ub (kb x)) (ub (kb y)) (lessV x y) := by
  by_cases h0 : x.f0 = y.f0
  · unfold lessV
    rw [if_pos h0]
    rcases shape_of hx hxr with e | e | e | e | ⟨e, _⟩
    · rcases shape_of hy hyr with e' | e' | e' | e' | ⟨e', _⟩ <;> rw [e, e'] at h0 <;> first | exact absurd (e.trans e'.symm) hne | (exact absurd h0 (by decide)) | (have h0 : (0 : Int) = 2 := h0; omega) | (have h0 : (0 : Int) = 3 := h0; omega)
    · rcases shape_of hy hyr with e' | e' | e' | e' | ⟨e', _⟩ <;> rw [e, e'] at h0
      · exact absurd h0 (by decide)
      · exact absurd (e.trans e'.symm) hne
      · rw [e, e', kb_1, kb_1]
        exact head_lt (by decide) (by decide) (by decide) [] []
      · have h0 : (1 : Int) = 2 := h0
        omega
      · have h0 : (1 : Int) = 3 := h0
        omega
    · rcases shape_of hy hyr with e' | e' | e' | e' | ⟨e', _⟩ <;> rw [e, e'] at h0
      · exact absurd h0 (by decide)
      · rw [e, e', kb_1, kb_1]
        exact (head_lt (a := 32 + 0) (b := 32 + 1) (by decide) (by decide) (by decide) [] []).turn
      · exact absurd (e.trans e'.symm) hne
      · have h0 : (1 : Int) = 2 := h0
        omega
      · have h0 : (1 : Int) = 3 := h0
        omega
    · rcases shape_of hy hyr with e' | e' | e' | e' | ⟨e', _⟩
      · rw [e, e'] at h0
        have h0 : (2 : Int) = 0 := h0
        omega
      · rw [e, e'] at h0
        have h0 : (2 : Int) = 1 := h0
        omega
      · rw [e, e'] at h0
        have h0 : (2 : Int) = 1 := h0
        omega
      · have hf : x.f1 ≠ y.f1 := fun hf => hne (by rw [e, e', hf])
        have ex : kb x = kint x.f1 := by
          generalize x.f1 = f1 at e
          rw [e]
          exact kb_2 f1
        have ey : kb y = kint y.f1 := by
          generalize y.f1 = f1 at e'
          rw [e']
          exact kb_2 f1
        rw [if_neg hf, ex, ey]
        by_cases hlt : x.f1 < y.f1
        · rw [decide_eq_true hlt]
          exact int_parts _ _ hxr hyr hlt
        · rw [decide_eq_false hlt]
          exact (int_parts _ _ hyr hxr (by omega)).turn
      · rw [e, e'] at h0
        have h0 : (2 : Int) = 3 := h0
        omega
    · rcases shape_of hy hyr with e' | e' | e' | e' | ⟨e', _⟩
      · rw [e, e'] at h0
        have h0 : (3 : Int) = 0 := h0
        omega
      · rw [e, e'] at h0
        have h0 : (3 : Int) = 1 := h0
        omega
      · rw [e, e'] at h0
        have h0 : (3 : Int) = 1 := h0
        omega
      · rw [e, e'] at h0
        have h0 : (3 : Int) = 2 := h0
        omega
      · generalize x.f2 = a at e
        generalize y.f2 = b at e'
        subst e
        subst e'
        have hab : a.data.toList ≠ b.data.toList := fun h => hne (by rw [ba_ext h])
        rw [if_pos (show (0 : Int) = 0 from rfl), kb_3, kb_3]
        show Parts _ _ (Op.bytesLess a.toList b.toList)
        rw [toList_data, toList_data]
        have e1 : ∀ s : ByteArray, ub ([80] ++ zi s ++ [0, 1]) = [80] ++ (zz s.data.toList ++ [0, 1]) := fun s => by
          rw [zi_is, ub_app, ub_app, ub_nums, List.append_assoc]
          rfl
        rw [e1, e1]
        exact (text_parts _ _ hab).pre [80]
  · unfold lessV
    rw [if_neg h0]
    obtain ⟨b, p, e1, c1⟩ := head_of hx hxr
    obtain ⟨c, q, e2, c2⟩ := head_of hy hyr
    rw [e1, e2]
    by_cases hlt : x.f0 < y.f0
    · rw [decide_eq_true hlt]
      exact head_lt (by omega) (by omega) (by omega) _ _
    · rw [decide_eq_false hlt]
      exact (head_lt (a := c) (b := b) (by omega) (by omega) (by omega) q p).turn
def eqv (x y : S33) : Bool := x.f0 == y.f0 && (x.f1 == y.f1 && x.f2.toList == y.f2.toList)
theorem eqv_iff (x y : S33) : eqv x y = true ↔ x = y := by
  obtain ⟨a, b, c⟩ := x
  obtain ⟨a', b', c'⟩ := y
  unfold eqv
  rw [Bool.and_eq_true, Bool.and_eq_true, beq_iff_eq, beq_iff_eq, beq_iff_eq]
  constructor
  · rintro ⟨h1, h2, h3⟩
    dsimp only at h1 h2 h3
    rw [toList_data, toList_data] at h3
    rw [h1, h2, ba_ext h3]
  · intro h
    injection h with h1 h2 h3
    exact ⟨h1, h2, by rw [h3]⟩
/-- Is a list ahead of another; does it begin it? -/
def aheadS : List S33 → List S33 → Bool × Bool
  | [], b => (decide (0 < b.length), true)
  | _ :: _, [] => (false, false)
  | x :: r, y :: r' => if eqv x y = true then aheadS r r' else (lessV x y, false)
theorem kb_ne {x : S33} (h : chk1 x = 0) (hr : -9223372036854775808 ≤ x.f1 ∧ x.f1 ≤ 9223372036854775807) : ∃ c p, ub (kb x) = c :: p := by
  obtain ⟨b, p, e, _⟩ := head_of h hr
  rw [e]
  exact ⟨_, _, rfl⟩
/-- The order of the bytes of two lists; whether the one begins the other. -/
theorem list_order : ∀ (a b : List S33), (∀ x ∈ a, chk1 x = 0) → inr a → (∀ x ∈ b, chk1 x = 0) → inr b →
    Op.bytesLess (ub (a.flatMap kb)) (ub (b.flatMap kb)) = (aheadS a b).1 ∧ (ub (a.flatMap kb) = ub (b.flatMap kb) ↔ a = b) ∧ ((ub (b.flatMap kb)).take (ub (a.flatMap kb)).length = ub (a.flatMap kb) ↔ (aheadS a b).2 = true)
  | [], [], _, _, _, _ => ⟨rfl, by simp, by simp [aheadS, ub]⟩
  | [], y :: r', _, _, hc, hr => by
    obtain ⟨c, p, e⟩ := kb_ne (hc y List.mem_cons_self) (hr y List.mem_cons_self)
    rw [List.flatMap_cons, ub_app, e]
    refine ⟨rfl, by simp [ub], by simp [aheadS, ub]⟩
  | x :: r, [], hc, hr, _, _ => by
    obtain ⟨c, p, e⟩ := kb_ne (hc x List.mem_cons_self) (hr x List.mem_cons_self)
    rw [List.flatMap_cons, ub_app, e]
    refine ⟨rfl, by simp [ub], by simp [aheadS, ub]⟩
  | x :: r, y :: r', hc, hr, hc', hr' => by
    rw [List.flatMap_cons, List.flatMap_cons, ub_app, ub_app, aheadS]
    by_cases e : x = y
    · subst e
      obtain ⟨i1, i2, i3⟩ := list_order r r' (fun z hz => hc z (List.mem_cons_of_mem _ hz)) (fun z hz => hr z (List.mem_cons_of_mem _ hz)) (fun z hz => hc' z (List.mem_cons_of_mem _ hz)) (fun z hz => hr' z (List.mem_cons_of_mem _ hz))
      rw [if_pos ((eqv_iff x x).2 rfl), less_pre]
      refine ⟨i1, ?_, ?_⟩
      · rw [List.append_cancel_left_eq, i2]
        simp
      · rw [List.length_append, List.take_append, List.take_of_length_le (by omega), Nat.add_sub_cancel_left, List.append_cancel_left_eq]
        exact i3
    · have hP := (value_parts x y (hc x List.mem_cons_self) (hr x List.mem_cons_self) (hc' y List.mem_cons_self) (hr' y List.mem_cons_self) e).app (ub (r.flatMap kb)) (ub (r'.flatMap kb))
      rw [if_neg (fun h => e ((eqv_iff x y).1 h))]
      refine ⟨hP.less, ⟨fun h => absurd h hP.ne, fun h => absurd (List.cons.inj h).1 e⟩, ⟨fun h => absurd h hP.take, fun h => by cases h⟩⟩
end Go.Proofs.YtbekgkikgcmmaaaDoor.HBitS

/- BitsOrder: the plain law: the bytes of two keys stand in the order of their lists; one begins the other just where its list does. -/
set_option linter.unusedVariables false
set_option linter.unusedSimpArgs false
namespace Go.Proofs.YtbekgkikgcmmaaaDoor.Pure
open Go.RowKit Go.Proofs.YtbekgkikgcmmaaaDoor.PBit Go.Proofs.YtbekgkikgcmmaaaDoor.POrd Go.Proofs.YtbekgkikgcmmaaaDoor.HBase Go.Proofs.YtbekgkikgcmmaaaDoor.HUv Go.Proofs.YtbekgkikgcmmaaaDoorW.PrintWords Go.Proofs.YtbekgkikgcmmaaaDoorW.PrintLast Go.Proofs.YtbekgkikgcmmaaaDoor.HCore Go.Proofs.YtbekgkikgcmmaaaDoor.HComp Go.Proofs.YtbekgkikgcmmaaaDoor.HBitE Go.Proofs.YtbekgkikgcmmaaaDoor.HBitF Go.Proofs.YtbekgkikgcmmaaaDoor.HBitX Go.Proofs.YtbekgkikgcmmaaaDoor.HGx Go.Proofs.YtbekgkikgcmmaaaDoor.HBitQ Go.Proofs.YtbekgkikgcmmaaaDoor.HBitU Go.Proofs.YtbekgkikgcmmaaaDoor.HBitO Go.Proofs.YtbekgkikgcmmaaaDoor.HBitS

theorem may_step (x : S33) (hr : -9223372036854775808 ≤ x.f1 ∧ x.f1 ≤ 9223372036854775807) (v : Option Bool) :
    (if x.f0 = 0 then (if x.f1 = 0 then (if (x.f2.toList = ([] : List UInt8)) then v else (some false)) else (some false)) else (if x.f0 = 1 then (if x.f1 = 0 then (if (x.f2.toList = ([] : List UInt8)) then v else (some false)) else (if x.f1 = 1 then (if (x.f2.toList = ([] : List UInt8)) then v else (some false)) else (some false))) else (if x.f0 = 2 then (if (x.f2.toList = ([] : List UInt8)) then v else (some false)) else (if x.f0 = 3 then (if x.f1 = 0 then (if ((x.f2.size : Int) ≤ 4096) then v else (some false)) else (some false)) else (some false))))) = if chk1 x = 0 then v else some false := by
  obtain ⟨e1, e2⟩ := wr1 hr
  obtain ⟨f0, f1, f2⟩ := x
  dsimp only at hr e1 e2 ⊢
  have h6 : f0 = 0 ∨ f0 = 1 ∨ f0 = 2 ∨ f0 = 3 ∨ f0 < 0 ∨ 4 ≤ f0 := by omega
  have hz : f2.toList = ([] : List UInt8) → f2.size = 0 := emp f2
  unfold chk1 vld
  dsimp only
  generalize IntKind.u64.wrap f1 = u at e1 e2
  rcases h6 with rfl | rfl | rfl | rfl | h | h
  · by_cases b : f2.toList = ([] : List UInt8)
    · have := hz b
      by_cases a : f1 = 0 <;> simp [a, b, e1, this, List.isEmpty_iff]
    · by_cases a : f1 = 0 <;> simp [a, b, e1, List.isEmpty_iff]
  · by_cases b : f2.toList = ([] : List UInt8)
    · have := hz b
      by_cases a : f1 = 0 <;> by_cases c : f1 = 1 <;> simp [a, b, c, e2, this, List.isEmpty_iff]
    · by_cases a : f1 = 0 <;> by_cases c : f1 = 1 <;> simp [a, b, c, e2, List.isEmpty_iff]
  · by_cases b : f2.toList = ([] : List UInt8)
    · have := hz b
      simp [b, this, List.isEmpty_iff]
    · simp [b, List.isEmpty_iff]
  · by_cases a : f1 = 0
    · by_cases c : 4096 < (f2.size : Int)
      · have c2 : ¬ (f2.size : Int) ≤ 4096 := by omega
        simp [a, e1.2 a, c, c2]
      · have c2 : (f2.size : Int) ≤ 4096 := by omega
        simp [a, e1.2 a, c, c2]
    · have : ¬ u < 1 := fun h => a (e1.1 h)
      simp [a, this]
  · rw [if_pos h, if_neg (by omega), if_neg (by omega), if_neg (by omega), if_neg (by omega), if_neg (by decide)]
  · rw [if_neg (by omega), if_neg (by omega), if_neg (by omega), if_neg (by omega), if_neg (by omega)]
theorem may_l (l : List S33) (hl : l.length ≤ 16) (hr : inr l) : ∀ (d i : Nat), l.length = i + d → stratalaw01_may.l0 (d + 1) l (i : Int) = some (decide (chkL (l.drop i) = 0))
  | 0, i, h => by
    rw [stratalaw01_may.l0, if_neg (by omega), List.drop_eq_nil_of_le (by omega)]
    rfl
  | d + 1, i, h => by
    have hi : i < l.length := by omega
    have e2 : wrap64 ((i : Int) + 1) = ((i + 1 : Nat) : Int) := (w64 (by omega) (by omega)).trans (by omega)
    rw [stratalaw01_may.l0, if_pos (by omega), if_pos (by omega), e2, may_l l hl hr d (i + 1) (by omega), may_step _ (hr _ (rd_mem l i hi).1), chkL_at l i hi]
    by_cases hc : chk1 (rd_T33 l (i : Int)) = 0
    · rw [if_pos hc, if_pos hc]
    · rw [if_neg hc, if_neg hc, decide_eq_false hc]
theorem may_is (l : List S33) (hr : inr l) (k : Nat) (hk : 18 ≤ k) : stratalaw01_may.f k l = some (decide (chk l = 0)) := by
  unfold stratalaw01_may.f chk
  by_cases hl : (l.length : Int) > 16
  · rw [if_pos hl, if_pos (by omega)]
    rfl
  · rw [if_neg hl, if_neg (by omega)]
    have h := may_l l (by omega) hr l.length 0 (by omega)
    rw [show k = (l.length + 1) + (k - (l.length + 1)) by omega]
    exact at_rounds (f := fun k => stratalaw01_may.l0 k l 0) (fun k => stratalaw01_may.mono_l k l 0) h _
theorem key_size (l : List S33) : (keyB l).size ≤ 160000 := by
  unfold keyB
  by_cases h : chk l = 0
  · obtain ⟨hl, hc⟩ := chk_all h
    rw [if_pos h, strOfNums_len]
    have := flat_len kb l (fun x hx => kb_len (hc x hx))
    omega
  · rw [if_neg h]
    exact Nat.zero_le _
theorem kfor (l : List S33) (hr : inr l) (k : Nat) : bits_Key.f k l = some (keyB l, chk l) := if_pos (all_of hr)
theorem room_l (l : List S33) (hl : l.length < 4398046511104) : ∀ d i : Nat, l.length = i + d → stratalaw01_room.l0 (d + 1) l (l.take i) (i : Int) = some (l ++ [⟨77, 77, ⟨#[109, 97, 114, 107]⟩⟩])
  | 0, i, h => by
    rw [stratalaw01_room.l0, if_neg (by omega), if_pos (by rw [List.length_take]; omega), List.take_of_length_le (by omega)]
  | d + 1, i, h => by
    have hi : i < l.length := by omega
    have e2 : wrap64 ((i : Int) + 1) = ((i + 1 : Nat) : Int) := (w64 (by omega) (by omega)).trans (by omega)
    rw [stratalaw01_room.l0, if_pos (by omega), if_pos (by omega), if_pos (by rw [List.length_take]; omega), e2]
    have e := (rd_mem l i hi).2
    rw [show (⟨(rd_T33 l (i : Int)).f0, (rd_T33 l (i : Int)).f1, (rd_T33 l (i : Int)).f2⟩ : S33) = rd_T33 l (i : Int) from rfl, ← e]
    exact room_l l hl d (i + 1) (by omega)
theorem room_is (l : List S33) (hl : l.length < 4398046511104) (k : Nat) (hk : l.length + 1 ≤ k) : stratalaw01_room.f k l = some (l ++ [⟨77, 77, ⟨#[109, 97, 114, 107]⟩⟩]) := by
  rw [show k = (l.length + 1) + (k - (l.length + 1)) by omega]
  exact at_rounds (f := fun k => stratalaw01_room.f k l) (fun k => stratalaw01_room.mono l k) (room_l l hl l.length 0 (by omega)) _
/-- The order of two numbers. -/
def co (a b : Int) : Int := if a < b then -1 else if a > b then 1 else 0
/-- The order of two values. -/
def cv (x y : S33) : Int := if x.f0 ≠ y.f0 then co x.f0 y.f0 else if x.f1 ≠ y.f1 then co x.f1 y.f1 else Lib.compareBytes x.f2.data.toList y.f2.data.toList
/-- The order of two lists of values. -/
def cl : List S33 → List S33 → Int
  | [], [] => 0
  | [], _ :: _ => -1
  | _ :: _, [] => 1
  | x :: xs, y :: ys => if cv x y = 0 then cl xs ys else cv x y
theorem co_zero {a b : Int} : co a b = 0 ↔ a = b := by
  unfold co
  constructor
  · intro h
    by_cases h1 : a < b
    · rw [if_pos h1] at h; omega
    · rw [if_neg h1] at h
      by_cases h2 : a > b
      · rw [if_pos h2] at h; omega
      · omega
  · rintro rfl; simp
theorem nan0 (a : Int) : (a != a) = false := by simp
theorem kind_is (a b : Int) : api_Kind_64.f a b = some (co a b) := by
  simp only [api_Kind_64.f, api_Kind_79.f, nan0, Option.bind_some, co, Bool.false_eq_true, if_false]
  repeat' split
  all_goals rfl
theorem c64_is (a b : Int) : cmp_Compare_int64.f a b = some (co a b) := by
  simp only [cmp_Compare_int64.f, cmp_isNaN_int64.f, nan0, Option.bind_some, co, Bool.false_eq_true, if_false]
  repeat' split
  all_goals rfl
theorem cint_is (a b : Int) : cmp_Compare_int.f a b = some (co a b) := by
  simp only [cmp_Compare_int.f, cmp_isNaN_int.f, nan0, Option.bind_some, co, Bool.false_eq_true, if_false]
  repeat' split
  all_goals rfl
theorem or_is (k : Nat) (a b c : Int) : cmp_Or_int.f (k + 4) [a, b, c] = some (if a ≠ 0 then a else if b ≠ 0 then b else c) := by
  have e1 : wrap64 (1 : Int) = 1 := w64 (by omega) (by omega)
  have e2 : wrap64 (2 : Int) = 2 := w64 (by omega) (by omega)
  have e3 : wrap64 (3 : Int) = 3 := w64 (by omega) (by omega)
  unfold cmp_Or_int.f
  by_cases ha : a = 0 <;> by_cases hb : b = 0 <;> by_cases hc : c = 0 <;> simp [cmp_Or_int.l0, rd, e1, e2, e3, ha, hb, hc]
theorem cv_bits (k : Nat) (x y : S33) : bits_CompareValues.f (k + 4) x.f0 x.f1 x.f2 y.f0 y.f1 y.f2 = some (cv x y) := by
  simp only [bits_CompareValues.f, kind_is, c64_is, strings_Compare.f, Option.bind_some, or_is, cv, ne_eq, co_zero]
theorem rd_drop {x : List S33} {i : Nat} (h : i < x.length) : x.drop i = rd_T33 x (i : Int) :: x.drop (i + 1) := by
  rw [List.drop_eq_getElem_cons h]
  simp [rd_T33, List.getD_eq_getElem?_getD, List.getElem?_eq_getElem h]
theorem cl_bits (x y : List S33) (hx : x.length < 9223372036854775807) (d : Nat) : ∀ (k i : Nat), i + d = x.length → i ≤ y.length → d + 4 < k →
    bits_Compare.l0 k x y x (x.length : Int) (i : Int) = some (cl (x.drop i) (y.drop i)) := by
  induction d with
  | zero =>
    intro k i hi hy hk
    obtain ⟨k, rfl⟩ : ∃ m, k = m + 1 := ⟨k - 1, by omega⟩
    obtain rfl : i = x.length := by omega
    simp only [bits_Compare.l0]
    rw [if_neg (show ¬ (x.length : Int) < (x.length : Int) by omega), cint_is, List.drop_length]
    simp only [Option.bind_some, co]
    by_cases h : x.length < y.length
    · rw [rd_drop h, if_pos (by omega)]; rfl
    · rw [List.drop_eq_nil_of_le (by omega), if_neg (by omega), if_neg (by omega)]; rfl
  | succ d ih =>
    intro k i hi hy hk
    obtain ⟨k, rfl⟩ : ∃ m, k = m + 5 := ⟨k - 5, by omega⟩
    have hw : wrap64 ((i : Int) + 1) = ((i + 1 : Nat) : Int) := by rw [w64 (by omega) (by omega)]; omega
    simp only [bits_Compare.l0]
    rw [if_pos (show (i : Int) < (x.length : Int) by omega), if_pos (show (0 : Int) ≤ (i : Int) by omega), if_pos (show (i : Int) < (x.length : Int) by omega), rd_drop (show i < x.length by omega)]
    by_cases h : i = y.length
    · rw [if_pos (by omega), show y.drop i = [] from List.drop_eq_nil_of_le (by omega)]; rfl
    · rw [if_neg (by omega), if_pos (show (i : Int) < (y.length : Int) by omega), cv_bits, Option.bind_some, rd_drop (show i < y.length by omega), hw]
      simp only [cl]
      by_cases g : cv (rd_T33 x (i : Int)) (rd_T33 y (i : Int)) = 0
      · rw [if_pos g, if_pos g]
        exact ih (k + 4) (i + 1) (by omega) (by omega) (by omega)
      · rw [if_neg g, if_neg g]
theorem cl_bits_f (x y : List S33) (hx : x.length < 9223372036854775807) (k : Nat) (hk : x.length + 4 < k) : bits_Compare.f k x y = some (cl x y) := by
  have := cl_bits x y hx x.length k 0 (by omega) (by omega) hk
  rw [List.drop_zero, List.drop_zero] at this
  exact this
theorem co_vals (a b : Int) : (co a b = 0 ↔ a = b) ∧ (co a b < 0 ↔ a < b) ∧ co b a = - co a b ∧ -1 ≤ co a b ∧ co a b ≤ 1 := by
  unfold co
  by_cases h1 : a < b
  · rw [if_pos h1, if_neg (show ¬ b < a by omega), if_pos (show b > a by omega)]; omega
  · by_cases h2 : a > b
    · rw [if_neg h1, if_pos h2, if_pos (show b < a by omega)]; omega
    · rw [if_neg h1, if_neg h2, if_neg (show ¬ b < a by omega), if_neg (show ¬ b > a by omega)]; omega
theorem cb_vals (a b : List UInt8) : (Lib.compareBytes a b = 0 ↔ a = b) ∧ (Lib.compareBytes a b < 0 ↔ Op.bytesLess a b = true) ∧ Lib.compareBytes b a = - Lib.compareBytes a b ∧ -1 ≤ Lib.compareBytes a b ∧ Lib.compareBytes a b ≤ 1 := by
  rw [compare_spells a b, compare_spells b a]
  have ht := less_turned a b
  by_cases e : a = b
  · subst e
    rw [less_irr]
    simp
  · cases h1 : Op.bytesLess a b with
    | true =>
      rw [h1] at ht
      simp at ht
      rw [ht]
      simp [e]
    | false =>
      rw [h1] at ht
      have : (a == b) = false := beq_eq_false_iff_ne.2 e
      rw [this] at ht
      simp at ht
      rw [ht]
      simp [e]
theorem cv_vals (x y : S33) : (cv x y = 0 ↔ x = y) ∧ (x ≠ y → (cv x y < 0 ↔ lessV x y = true)) ∧ cv y x = - cv x y ∧ -1 ≤ cv x y ∧ cv x y ≤ 1 := by
  obtain ⟨a, b, c⟩ := x
  obtain ⟨a', b', c'⟩ := y
  unfold cv lessV
  dsimp only
  by_cases h0 : a = a'
  · subst h0
    by_cases h1 : b = b'
    · subst h1
      simp only [ne_eq, not_true_eq_false, if_false, if_true]
      obtain ⟨p1, p2, p3, p4, p5⟩ := cb_vals c.data.toList c'.data.toList
      refine ⟨⟨fun h => by rw [ba_ext (p1.1 h)], fun h => by injection h with _ _ h3; rw [p1, h3]⟩, fun _ => by rw [p2, toList_data, toList_data], p3, p4, p5⟩
    · obtain ⟨p1, p2, p3, p4, p5⟩ := co_vals b b'
      simp only [ne_eq, not_true_eq_false, if_false, if_true, h1, not_false_eq_true, fun h => h1 (Eq.symm h)]
      rw [if_pos (fun h => h1 h.symm)]
      refine ⟨⟨fun h => absurd (p1.1 h) h1, fun h => by injection h with _ h2 _; exact absurd h2 h1⟩, fun _ => by rw [p2, decide_eq_true_eq], p3, p4, p5⟩
  · obtain ⟨p1, p2, p3, p4, p5⟩ := co_vals a a'
    rw [if_pos h0, if_pos (fun h => h0 h.symm), if_neg h0]
    refine ⟨⟨fun h => absurd (p1.1 h) h0, fun h => by injection h with h1 _ _; exact absurd h1 h0⟩, fun _ => by rw [p2, decide_eq_true_eq], p3, p4, p5⟩
theorem cl_vals : ∀ a b : List S33, (cl a b = 0 ↔ a = b) ∧ (cl a b < 0 ↔ (aheadS a b).1 = true) ∧ cl b a = - cl a b ∧ -1 ≤ cl a b ∧ cl a b ≤ 1
  | [], [] => by refine ⟨by simp [cl], by simp [cl, aheadS], by simp [cl], by simp [cl], by simp [cl]⟩
  | [], y :: r => by refine ⟨by simp [cl], by simp [cl, aheadS], by simp [cl], by simp [cl], by simp [cl]⟩
  | x :: r, [] => by refine ⟨by simp [cl], by simp [cl, aheadS], by simp [cl], by simp [cl], by simp [cl]⟩
  | x :: r, y :: r' => by
    obtain ⟨i1, i2, i3, i4, i5⟩ := cl_vals r r'
    obtain ⟨v1, v2, v3, v4, v5⟩ := cv_vals x y
    by_cases e : x = y
    · subst e
      have h0 := v1.2 rfl
      rw [cl, cl, aheadS, if_pos h0, if_pos h0, if_pos ((eqv_iff x x).2 rfl)]
      refine ⟨by rw [i1]; simp, i2, i3, i4, i5⟩
    · have h0 : ¬ cv x y = 0 := fun h => e (v1.1 h)
      have h1 : ¬ cv y x = 0 := fun h => by rw [v3] at h; omega
      rw [cl, cl, aheadS, if_neg h0, if_neg h1, if_neg (fun h => e ((eqv_iff x y).1 h))]
      refine ⟨⟨fun h => absurd h h0, fun h => absurd (List.cons.inj h).1 e⟩, v2 e, v3, v4, v5⟩
def eqL : List S33 → List S33 → Bool
  | [], [] => true
  | x :: r, y :: r' => if eqv x y = true then eqL r r' else false
  | _, _ => false
theorem eqL_iff : ∀ a b : List S33, eqL a b = true ↔ a = b
  | [], [] => by simp [eqL]
  | [], y :: r => by simp [eqL]
  | x :: r, [] => by simp [eqL]
  | x :: r, y :: r' => by
    rw [eqL]
    by_cases e : x = y
    · subst e
      rw [if_pos ((eqv_iff x x).2 rfl), eqL_iff r r']
      simp
    · rw [if_neg (fun h => e ((eqv_iff x y).1 h))]
      simp [e]
theorem cond_eqv (x y : S33) : ((!((x.f0) == (y.f0)) || (!((x.f1) == (y.f1)) || (!((x.f2).toList == (y.f2).toList)))) = true) ↔ ¬ eqv x y = true := by
  unfold eqv
  cases (x.f0 == y.f0) <;> cases (x.f1 == y.f1) <;> cases (x.f2.toList == y.f2.toList) <;> simp
theorem same_l (a b : List S33) (hl : a.length ≤ 16) (hb : b.length = a.length) : ∀ (d i : Nat), a.length = i + d → stratalaw01_same.l0 (d + 1) a b (i : Int) = some (eqL (a.drop i) (b.drop i))
  | 0, i, h => by
    rw [stratalaw01_same.l0, if_neg (by omega), List.drop_eq_nil_of_le (by omega), List.drop_eq_nil_of_le (by omega)]
    rfl
  | d + 1, i, h => by
    have e2 : wrap64 ((i : Int) + 1) = ((i + 1 : Nat) : Int) := (w64 (by omega) (by omega)).trans (by omega)
    rw [stratalaw01_same.l0, if_pos (by omega), if_pos (by omega), if_pos (by omega), e2, same_l a b hl hb d (i + 1) (by omega), rd_drop (show i < a.length by omega), rd_drop (show i < b.length by omega), eqL]
    by_cases c : eqv (rd_T33 a (i : Int)) (rd_T33 b (i : Int)) = true
    · rw [if_neg (fun h => (cond_eqv _ _).1 h c), if_pos c]
    · rw [if_pos ((cond_eqv _ _).2 c), if_neg c]
theorem same_is (a b : List S33) (hl : a.length ≤ 16) (hb : b.length ≤ 16) (k : Nat) (hk : 17 ≤ k) : stratalaw01_same.f k a b = some (eqL a b) := by
  unfold stratalaw01_same.f
  by_cases h : (a.length : Int) = (b.length : Int)
  · rw [if_pos h]
    have h1 := same_l a b hl (by omega) a.length 0 (by omega)
    rw [show k = (a.length + 1) + (k - (a.length + 1)) by omega]
    exact at_rounds (f := fun k => stratalaw01_same.l0 k a b 0) (fun k => stratalaw01_same.mono_l k a b 0) h1 _
  · rw [if_neg h]
    cases he : eqL a b with
    | false => rfl
    | true => exact absurd (by rw [(eqL_iff a b).1 he]) h
theorem less_is (x y : S33) : stratalaw01_less.f x.f0 x.f1 x.f2 y.f0 y.f1 y.f2 = some (lessV x y) := by
  unfold stratalaw01_less.f lessV
  by_cases h0 : x.f0 = y.f0
  · rw [if_pos h0, if_pos h0]
    by_cases h1 : x.f1 = y.f1
    · rw [if_pos h1, if_pos h1]
    · rw [if_neg h1, if_neg h1]
  · rw [if_neg h0, if_neg h0]
theorem ahead_l (a b : List S33) (hl : a.length ≤ 16) : ∀ (d i : Nat), a.length = i + d → i ≤ b.length → stratalaw01_ahead.l0 (d + 1) a b (i : Int) = some (aheadS (a.drop i) (b.drop i))
  | 0, i, h, hb => by
    rw [stratalaw01_ahead.l0, if_neg (by omega), show a.drop i = [] from List.drop_eq_nil_of_le (by omega), aheadS, List.length_drop]
    have e : decide ((a.length : Int) < (b.length : Int)) = decide (0 < b.length - i) := by
      by_cases c : i < b.length
      · rw [decide_eq_true (show (a.length : Int) < (b.length : Int) by omega), decide_eq_true (show 0 < b.length - i by omega)]
      · rw [decide_eq_false (show ¬ (a.length : Int) < (b.length : Int) by omega), decide_eq_false (show ¬ 0 < b.length - i by omega)]
    rw [e]
  | d + 1, i, h, hb => by
    have e2 : wrap64 ((i : Int) + 1) = ((i + 1 : Nat) : Int) := (w64 (by omega) (by omega)).trans (by omega)
    rw [stratalaw01_ahead.l0, if_pos (by omega), rd_drop (show i < a.length by omega)]
    by_cases c0 : i = b.length
    · rw [if_pos (by omega), show b.drop i = [] from List.drop_eq_nil_of_le (by omega)]
      rfl
    · rw [if_neg (by omega), if_pos (by omega), if_pos (by omega), e2, ahead_l a b hl d (i + 1) (by omega) (by omega), rd_drop (show i < b.length by omega), aheadS, less_is, Option.bind_some]
      by_cases c : eqv (rd_T33 a (i : Int)) (rd_T33 b (i : Int)) = true
      · rw [if_neg (fun h => (cond_eqv _ _).1 h c), if_pos c]
      · rw [if_pos ((cond_eqv _ _).2 c), if_neg c]
theorem ahead_is (a b : List S33) (hl : a.length ≤ 16) (k : Nat) (hk : 17 ≤ k) : stratalaw01_ahead.f k a b = some (aheadS a b) := by
  have h1 := ahead_l a b hl a.length 0 (by omega) (by omega)
  rw [show k = (a.length + 1) + (k - (a.length + 1)) by omega]
  exact at_rounds (f := fun k => stratalaw01_ahead.l0 k a b 0) (fun k => stratalaw01_ahead.mono_l k a b 0) h1 _
theorem key_list (l : List S33) (h : chk l = 0) : (keyB l).data.toList = ub (l.flatMap kb) := by
  unfold keyB
  rw [if_pos h]
  rfl
theorem order3 (a b : List S33) (ha : a.length ≤ 16) (hb : b.length ≤ 16) (k : Nat) (hk : 30 ≤ k) : stratalaw01_BitsOrder.j3 (k + 1) a b (aheadS a b).1 false = some true := by
  obtain ⟨c1, c2, c3, c4, c5⟩ := cl_vals a b
  rw [stratalaw01_BitsOrder.j3, if_neg (by decide), cl_bits_f a b (by omega) k (by omega), Option.bind_some]
  have e1 : (decide (cl a b < 0) == (aheadS a b).1) = true := by
    rw [beq_iff_eq]
    cases h : (aheadS a b).1 with
    | true => exact decide_eq_true (c2.2 h)
    | false => exact decide_eq_false (fun h2 => by rw [c2.1 h2] at h; cases h)
  rw [if_pos e1, same_is a b ha hb k (by omega), Option.bind_some]
  have e2 : ((cl a b == 0) == eqL a b) = true := by
    rw [beq_iff_eq]
    cases h : eqL a b with
    | true => exact beq_iff_eq.2 (c1.2 ((eqL_iff a b).1 h))
    | false => exact beq_eq_false_iff_ne.2 (fun h2 => by rw [(eqL_iff a b).2 (c1.1 h2)] at h; cases h)
  rw [if_pos e2, cl_bits_f b a (by omega) k (by omega), Option.bind_some, c3, w64 (by omega) (by omega)]
  congr 1
  rw [beq_iff_eq]
  omega
theorem order_law (a b : List S33) (hra : inr a) (hrb : inr b) : ∃ k, stratalaw01_BitsOrder.f k a b = some true := by
  refine ⟨100, ?_⟩
  unfold stratalaw01_BitsOrder.f
  rw [may_is a hra 100 (by decide), Option.bind_some]
  by_cases ha : chk a = 0
  · rw [decide_eq_true ha, if_pos rfl, may_is b hrb 100 (by decide), Option.bind_some]
    by_cases hb : chk b = 0
    · obtain ⟨la, ca⟩ := chk_all ha
      obtain ⟨lb, cb⟩ := chk_all hb
      obtain ⟨o1, o2, o3⟩ := list_order a b ca hra cb hrb
      have ta : (a ++ [(⟨77, 77, ⟨#[109, 97, 114, 107]⟩⟩ : S33)]).take ((a.length : Int)).toNat = a := by rw [Int.toNat_natCast, List.take_left]
      have tb : (b ++ [(⟨77, 77, ⟨#[109, 97, 114, 107]⟩⟩ : S33)]).take ((b.length : Int)).toNat = b := by rw [Int.toNat_natCast, List.take_left]
      rw [decide_eq_true hb, show (100 : Nat) = 99 + 1 from rfl, stratalaw01_BitsOrder.j0, if_neg (by decide), room_is a (by omega) 99 (by omega), Option.bind_some, if_pos (by omega), if_pos (by rw [List.length_append]; simp; omega), ta, kfor a hra, Option.bind_some,
        room_is b (by omega) 99 (by omega), Option.bind_some, if_pos (by omega), if_pos (by rw [List.length_append]; simp; omega), tb, kfor b hrb, Option.bind_some, ha, hb]
      unfold stratalaw01_num.f
      have sa := key_list a ha
      have sb := key_list b hb
      generalize keyB a = s at sa ⊢
      generalize keyB b = t at sb ⊢
      rw [← sa, ← sb] at o1 o2 o3
      rw [Option.bind_some, if_pos rfl, Option.bind_some, show (99 : Nat) = 98 + 1 from rfl, stratalaw01_BitsOrder.j1, if_neg (show ¬ ((0 : Int) != 0) = true by decide), ahead_is a b la 98 (by omega), Option.bind_some]
      have e1 : ¬ ((Op.bytesLess s.toList t.toList) != (aheadS a b).1) = true := by
        rw [toList_data, toList_data, o1]
        simp
      have e2 : ((s.toList == t.toList) != eqL a b) = false := by
        rw [toList_data, toList_data]
        cases h : eqL a b with
        | true => rw [show (s.data.toList == t.data.toList) = true from beq_iff_eq.2 (o2.2 ((eqL_iff a b).1 h))]; rfl
        | false =>
          have : ¬ s.data.toList = t.data.toList := fun h2 => by rw [(eqL_iff a b).2 (o2.1 h2)] at h; cases h
          rw [show (s.data.toList == t.data.toList) = false from beq_eq_false_iff_ne.2 this]; rfl
      rw [if_neg e1, same_is a b la lb 98 (by omega), Option.bind_some, e2, show (98 : Nat) = 97 + 1 from rfl, stratalaw01_BitsOrder.j2, if_neg (by decide)]
      by_cases hsz : (s.size : Int) ≤ (t.size : Int)
      · rw [if_pos hsz, if_pos (by omega)]
        have e3 : (((t.extract 0 ((s.size : Int)).toNat).toList == s.toList) != (aheadS a b).2) = false := by
          rw [toList_data, toList_data, extract_list, List.drop_zero, Nat.sub_zero, Int.toNat_natCast, ← size_list]
          cases h : (aheadS a b).2 with
          | true => rw [show (t.data.toList.take s.data.toList.length == s.data.toList) = true from beq_iff_eq.2 (o3.2 h)]; rfl
          | false =>
            have : ¬ t.data.toList.take s.data.toList.length = s.data.toList := fun h2 => by rw [o3.1 h2] at h; cases h
            rw [show (t.data.toList.take s.data.toList.length == s.data.toList) = false from beq_eq_false_iff_ne.2 this]; rfl
        rw [e3]
        exact order3 a b la lb 96 (by omega)
      · rw [if_neg hsz]
        have e3 : (false != (aheadS a b).2) = false := by
          cases h : (aheadS a b).2 with
          | false => rfl
          | true =>
            have h2 := congrArg List.length (o3.2 h)
            rw [List.length_take, size_list, size_list] at h2
            omega
        rw [e3]
        exact order3 a b la lb 96 (by omega)
    · rw [decide_eq_false hb, show (100 : Nat) = 99 + 1 from rfl, stratalaw01_BitsOrder.j0, if_pos (by decide)]
  · rw [decide_eq_false ha, if_neg (by decide), show (100 : Nat) = 99 + 1 from rfl, stratalaw01_BitsOrder.j0, if_pos rfl]
theorem walk (A0 : Option Addr) (c0 : Nat) (l0 : List S33) (A1 : Option Addr) (c1 : Nat) (l1 : List S33) (w : World) (hC0 : Kd.C k33 w A0 l0.length l0) (h0 : l0.length ≤ c0) (hC1 : Kd.C k33 w A1 l1.length l1) (h1 : l1.length ≤ c1)
    (q0 : l0.length * 32 ≤ 140737488351232 ∧ ∀ x ∈ l0, (Lit.int .i64 x.f0).wf = true ∧ (Lit.int .i64 x.f1).wf = true ∧ x.f2.size ≤ 140737488351232) (q1 : l1.length * 32 ≤ 140737488351232 ∧ ∀ x ∈ l1, (Lit.int .i64 x.f0).wf = true ∧ (Lit.int .i64 x.f1).wf = true ∧ x.f2.size ≤ 140737488351232) (hT : Tab w) :
    Calls Tryd.prog 4 #[.slice A0 l0.length c0, .slice A1 l1.length c1] w fun e w' => e = .returned (.bool true) ∧ Below w.heap.size w w' := by
  have r : ∀ l : List S33, (∀ x ∈ l, (Lit.int .i64 x.f0).wf = true ∧ (Lit.int .i64 x.f1).wf = true ∧ x.f2.size ≤ 140737488351232) → inr l := fun l q x hx => by
    have := (q x hx).2.1
    simp [Lit.wf, IntKind.min, IntKind.max, IntKind.signed, IntKind.bits] at this
    exact this
  obtain ⟨k, hk⟩ := order_law l0 l1 (r l0 q0.2) (r l1 q1.2)
  exact stratalaw01_BitsOrder.calls k A0 c0 l0 A1 c1 l1 true w hC0 h0 hC1 h1 hk hT
end Go.Proofs.YtbekgkikgcmmaaaDoor.Pure
