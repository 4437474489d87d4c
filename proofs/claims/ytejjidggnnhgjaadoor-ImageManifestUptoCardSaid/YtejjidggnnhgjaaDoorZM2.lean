/- Texts of this seat laid together, what the statement needs of them: HImP, HImD, HImE, PImgx1, PImgx12, PImgx13, HImF, HImR2, PImgx7. -/
import Derived.Test.YtejjidggnnhgjaaDoorZM1
/- Reading and writing of layer 12's files, as plain functions: numbers, texts and sums one behind the other, and records in a row. Plain laws. -/
set_option linter.unusedVariables false
set_option linter.unusedSimpArgs false
namespace Go.Proofs.YtejjidggnnhgjaaDoor.HImP
open Go.RowKit Go.Proofs.YtejjidggnnhgjaaDoor.HBlob Go.Proofs.YtejjidggnnhgjaaDoor.HCanon Go.Proofs.YtejjidggnnhgjaaDoor.HCore Go.Proofs.YtejjidggnnhgjaaDoorW.PrintWords Go.Proofs.YtejjidggnnhgjaaDoorW.PrintLast
/-- At p stands t, and nothing behind it. -/
structure Sees (s : ByteArray) (p : Int) (t : List UInt8) : Prop where
  lo : 0 ≤ p
  hi : p ≤ s.size
  is : s.data.toList.drop p.toNat = t
theorem Sees.all (s : ByteArray) : Sees s 0 s.data.toList := ⟨Int.le_refl _, Int.natCast_nonneg _, rfl⟩
theorem Sees.end_iff {s : ByteArray} {p : Int} {t : List UInt8} (h : Sees s p t) : p = (s.size : Int) ↔ t = [] := by
  have hl : (s.data.toList.drop p.toNat).length = t.length := by rw [h.is]
  rw [List.length_drop, size_list] at hl
  have h1 := h.lo
  have h2 := h.hi
  constructor
  · intro e; apply List.length_eq_zero_iff.1; omega
  · intro e; subst e; simp at hl; omega
/-- The bytes of a number, of a text, of a sum. -/
def ub (v : Int) : List UInt8 := (uvb v.toNat).data.toList
def fb (v : Int) : List UInt8 := (fxb 4 v).data.toList
/-- What is read: a number of at most so much, a text of such a size, a sum. -/
def nm (s : ByteArray) (p most : Int) : Option (Int × Int) := if (ruv s p).2.2 = 0 ∧ (ruv s p).1 ≤ most then some ((ruv s p).1, (ruv s p).2.1) else none
def sm (s : ByteArray) (p : Int) : Option (Int × Int) := if (rfix s p 4).2.2 = 0 then some ((rfix s p 4).1, (rfix s p 4).2.1) else none
/-- What is read loosely: behind a fault nothing is. -/
def cn (s : ByteArray) (c : Int × Bool) : Int × (Int × Bool) := if (ruv s c.1).2.2 = 0 ∧ c.2 = false then ((ruv s c.1).1, ((ruv s c.1).2.1, false)) else (0, (c.1, true))
def cs (s : ByteArray) (c : Int × Bool) : Int × (Int × Bool) := (if (cn s c).1 > 1099511627776 then 1099511627776 else (cn s c).1, (cn s c).2)
def cf (s : ByteArray) (c : Int × Bool) : Int × (Int × Bool) := if (rfix s c.1 4).2.2 = 0 ∧ c.2 = false then ((rfix s c.1 4).1, ((rfix s c.1 4).2.1, false)) else (0, (c.1, true))
theorem ruv_sees {s : ByteArray} {p v : Int} {t : List UInt8} (hv : 0 ≤ v) (hv2 : v < 18446744073709551616) (h : Sees s p (ub v ++ t)) : ∃ q, ruv s p = (v, q, 0) ∧ Sees s q t := by
  obtain ⟨p, rfl⟩ := Int.eq_ofNat_of_zero_le h.lo
  obtain ⟨v, rfl⟩ := Int.eq_ofNat_of_zero_le hv
  have hi := h.hi
  have h2 := h.is
  rw [Int.toNat_natCast] at h2
  obtain ⟨a, b, c⟩ := ruv_fwd (p := p) (v := v) (by omega) (by omega) h2
  exact ⟨_, a, ⟨by omega, by omega, by rw [Int.toNat_natCast]; exact b⟩⟩
theorem nm_fwd {s : ByteArray} {p v most : Int} {t : List UInt8} (hv : 0 ≤ v) (hv2 : v < 18446744073709551616) (hm : v ≤ most) (h : Sees s p (ub v ++ t)) : ∃ q, nm s p most = some (v, q) ∧ Sees s q t := by
  obtain ⟨q, a, b⟩ := ruv_sees hv hv2 h
  exact ⟨q, by unfold nm; rw [a]; exact if_pos ⟨rfl, hm⟩, b⟩
theorem rfix_sees {s : ByteArray} {p v : Int} {t : List UInt8} (hv : 0 ≤ v) (hv2 : v < 4294967296) (h : Sees s p (fb v ++ t)) : ∃ q, rfix s p 4 = (v, q, 0) ∧ Sees s q t := by
  obtain ⟨p, rfl⟩ := Int.eq_ofNat_of_zero_le h.lo
  have hi := h.hi
  have h2 := h.is
  rw [Int.toNat_natCast] at h2
  have hl : (s.data.toList.drop p).length = (fb v).length + t.length := by rw [h2, List.length_append]
  have h4 : (fb v).length = 4 := by unfold fb; rw [size_list, fxb_len]
  rw [List.length_drop, size_list, h4] at hl
  have hA : At s (p : Int) (fxl 4 v) := by
    have e := At_list s (s.data.toList.take p) t (fxl 4 v) (by
      conv => lhs; rw [← List.take_append_drop p s.data.toList]
      rw [h2, List.append_assoc]; rfl) (fxl_rng 4 v)
    rw [List.length_take, size_list, Nat.min_eq_left (by omega)] at e
    exact e
  refine ⟨_, rfix_of s p 4 v (by omega) hA (by omega) ⟨hv, hv2⟩, ⟨by omega, by omega, ?_⟩⟩
  have e : ((p : Int) + (4 : Nat)).toNat = p + 4 := by omega
  rw [e, ← List.drop_drop, h2, List.drop_append_of_le_length (by omega), List.drop_of_length_le (by omega), List.nil_append]
theorem sm_fwd {s : ByteArray} {p v : Int} {t : List UInt8} (hv : 0 ≤ v) (hv2 : v < 4294967296) (h : Sees s p (fb v ++ t)) : ∃ q, sm s p = some (v, q) ∧ Sees s q t := by
  obtain ⟨q, a, b⟩ := rfix_sees hv hv2 h
  exact ⟨q, by unfold sm; rw [a]; exact if_pos rfl, b⟩
theorem nm_drop {s : ByteArray} {p most v q : Int} (h : nm s p most = some (v, q)) : 0 ≤ v ∧ v ≤ most ∧ v < 18446744073709551616 ∧ ∃ t, Sees s p (ub v ++ t) ∧ Sees s q t := by
  unfold nm at h
  split at h
  · rename_i hc
    obtain ⟨rfl, rfl⟩ := Prod.mk.inj (Option.some.inj h)
    obtain ⟨a, b, c, d, e, f⟩ := ruv_drop (s := s) (p := p) (v := (ruv s p).1) (q := (ruv s p).2.1) (Prod.ext rfl (Prod.ext rfl hc.1))
    exact ⟨d, hc.2, e, _, ⟨a, by omega, f⟩, ⟨by omega, c, rfl⟩⟩
  · cases h
theorem fxl_fval (s : ByteArray) (p : Int) : fxl 4 (fval s p 4) = [bt s p, bt s (p + 1), bt s (p + 2), bt s (p + 3)] := by
  have r0 := bt_rng s p
  have r1 := bt_rng s (p + 1)
  have r2 := bt_rng s (p + 2)
  have r3 := bt_rng s (p + 3)
  apply List.ext_getElem
  · rw [fxl_len]; rfl
  · intro j h1 h2
    rw [fxl_len] at h1
    have e := fxl_getD 4 (fval s p 4) j h1
    rw [List.getD_eq_getElem?_getD, List.getElem?_eq_getElem (by rw [fxl_len]; exact h1), Option.getD_some] at e
    rw [e]
    have hv : fval s p 4 = bt s p + bt s (p + 1) * 256 + bt s (p + 2) * 65536 + bt s (p + 3) * 16777216 := by
      show (((0 + bt s (p + ((0 : Nat) : Int)) * 256 ^ 0) + bt s (p + ((1 : Nat) : Int)) * 256 ^ 1) + bt s (p + ((2 : Nat) : Int)) * 256 ^ 2) + bt s (p + ((3 : Nat) : Int)) * 256 ^ 3 = _
      simp
    rw [hv]
    match j, h1 with
    | 0, _ => simp; omega
    | 1, _ => simp; omega
    | 2, _ => simp; omega
    | 3, _ => simp; omega
theorem sm_drop {s : ByteArray} {p q v : Int} (h : sm s p = some (v, q)) : 0 ≤ v ∧ v < 4294967296 ∧ ∃ t, Sees s p (fb v ++ t) ∧ Sees s q t := by
  unfold sm at h
  split at h
  · rename_i hc
    obtain ⟨rfl, rfl⟩ := Prod.mk.inj (Option.some.inj h)
    by_cases g1 : p < 0 ∨ p > s.size
    · rw [rfix_out 4 g1] at hc; exact absurd hc (by simp)
    · by_cases g2 : s.size - p < (4 : Nat)
      · rw [rfix_short g1 g2] at hc; exact absurd hc (by simp)
      · rw [rfix_ok g1 g2]
        simp only
        have hl := fval_lt s p 4
        refine ⟨hl.1, by have := hl.2; simpa using this, s.data.toList.drop (p + 4).toNat, ⟨by omega, by omega, ?_⟩, ⟨by omega, by omega, by congr 1⟩⟩
        obtain ⟨p, rfl⟩ := Int.eq_ofNat_of_zero_le (show 0 ≤ p by omega)
        have hA : At s (p : Int) (fxl 4 (fval s p 4)) := by
          intro j hj
          rw [fxl_len] at hj
          rw [fxl_fval]
          match j, hj with
          | 0, _ => simp
          | 1, _ => simp
          | 2, _ => simp
          | 3, _ => simp
        have e := At_drop hA (by rw [fxl_len]; omega)
        rw [fxl_len] at e
        rw [Int.toNat_natCast, e]
        unfold fb fxb
        rw [strOfNums_list]
        congr 2
  · cases h
theorem cn_fwd {s : ByteArray} {p v : Int} {t : List UInt8} (hv : 0 ≤ v) (hv2 : v < 18446744073709551616) (h : Sees s p (ub v ++ t)) : ∃ q, cn s (p, false) = (v, (q, false)) ∧ Sees s q t := by
  obtain ⟨q, a, b⟩ := ruv_sees hv hv2 h
  exact ⟨q, by unfold cn; rw [a]; exact if_pos ⟨rfl, rfl⟩, b⟩
theorem cs_fwd {s : ByteArray} {p v : Int} {t : List UInt8} (hv : 0 ≤ v) (hv2 : v ≤ 1099511627776) (h : Sees s p (ub v ++ t)) : ∃ q, cs s (p, false) = (v, (q, false)) ∧ Sees s q t := by
  obtain ⟨q, a, b⟩ := cn_fwd hv (by omega) h
  exact ⟨q, by unfold cs; rw [a]; simp only; rw [if_neg (by omega)], b⟩
theorem cf_fwd {s : ByteArray} {p v : Int} {t : List UInt8} (hv : 0 ≤ v) (hv2 : v < 4294967296) (h : Sees s p (fb v ++ t)) : ∃ q, cf s (p, false) = (v, (q, false)) ∧ Sees s q t := by
  obtain ⟨q, a, b⟩ := rfix_sees hv hv2 h
  exact ⟨q, by unfold cf; rw [a]; exact if_pos ⟨rfl, rfl⟩, b⟩
/-- How far a loose reading has come. -/
def Ahead (s : ByteArray) (c c' : Int × Bool) : Prop := c'.2 = false → c.2 = false ∧ c.1 < c'.1 ∧ c'.1 ≤ s.size
theorem cn_rng (s : ByteArray) (c : Int × Bool) : 0 ≤ (cn s c).1 ∧ (cn s c).1 ≤ 18446744073709551615 ∧ Ahead s c (cn s c).2 := by
  unfold cn Ahead
  split
  · rename_i hc
    rcases ruv_good s c.1 with ⟨a, b, d, e, f, g, h⟩ | ⟨a, _⟩
    · exact ⟨d, e, fun _ => ⟨hc.2, f, g⟩⟩
    · exact absurd hc.1 a
  · exact ⟨by simp, by simp, by simp⟩
theorem cs_rng (s : ByteArray) (c : Int × Bool) : 0 ≤ (cs s c).1 ∧ (cs s c).1 ≤ 1099511627776 ∧ Ahead s c (cs s c).2 := by
  have h := cn_rng s c
  unfold cs
  refine ⟨?_, ?_, h.2.2⟩ <;> (simp only; split <;> omega)
theorem cf_rng (s : ByteArray) (c : Int × Bool) : 0 ≤ (cf s c).1 ∧ (cf s c).1 ≤ 4294967295 ∧ Ahead s c (cf s c).2 := by
  unfold cf Ahead
  split
  · rename_i hc
    by_cases g1 : c.1 < 0 ∨ c.1 > s.size
    · rw [rfix_out 4 g1] at hc; exact absurd hc.1 (by simp)
    · by_cases g2 : s.size - c.1 < (4 : Nat)
      · rw [rfix_short g1 g2] at hc; exact absurd hc.1 (by simp)
      · rw [rfix_ok g1 g2]
        have hl := fval_lt s c.1 4
        have h2 : fval s c.1 4 < 4294967296 := hl.2
        exact ⟨hl.1, by simp only; omega, fun _ => ⟨hc.2, by simp only; omega, by simp only; omega⟩⟩
  · exact ⟨by simp, by simp, by simp⟩
/-! ### records in a row -/
section
variable {X : Type}
/-- So many records, each read by what the one ahead of it left. -/
def rn (rec : Int → Int → Option (X × Int)) (nx : X → Int) : Nat → Int → Int → List X → Option (List X × Int)
  | 0, _, p, l => some (l, p)
  | d + 1, st, p, l => (rec st p).bind fun r => rn rec nx d (nx r.1) r.2 (l ++ [r.1])
def ens (wr : Int → X → List UInt8) (nx : X → Int) : Int → List X → List UInt8
  | _, [] => []
  | st, x :: xs => wr st x ++ ens wr nx (nx x) xs
def oks (ok : Int → X → Prop) (nx : X → Int) : Int → List X → Prop
  | _, [] => True
  | st, x :: xs => ok st x ∧ oks ok nx (nx x) xs
/-- What the last record leaves. -/
def lst (nx : X → Int) : Int → List X → Int
  | st, [] => st
  | _, x :: xs => lst nx (nx x) xs
theorem lst_snoc (nx : X → Int) (x : X) : ∀ (l : List X) (st : Int), lst nx st (l ++ [x]) = nx x
  | [], _ => rfl
  | _ :: l, _ => lst_snoc nx x l _
theorem ens_snoc (wr : Int → X → List UInt8) (nx : X → Int) (x : X) : ∀ (l : List X) (st : Int), ens wr nx st (l ++ [x]) = ens wr nx st l ++ wr (lst nx st l) x
  | [], _ => by simp [ens, lst]
  | y :: l, st => by
    show wr st y ++ ens wr nx (nx y) (l ++ [x]) = wr st y ++ ens wr nx (nx y) l ++ wr (lst nx (nx y) l) x
    rw [ens_snoc wr nx x l (nx y), List.append_assoc]
theorem oks_snoc (ok : Int → X → Prop) (nx : X → Int) (x : X) : ∀ (l : List X) (st : Int), oks ok nx st (l ++ [x]) ↔ oks ok nx st l ∧ ok (lst nx st l) x
  | [], _ => by simp [oks, lst]
  | y :: l, st => by
    show ok st y ∧ oks ok nx (nx y) (l ++ [x]) ↔ (ok st y ∧ oks ok nx (nx y) l) ∧ ok (lst nx (nx y) l) x
    rw [oks_snoc ok nx x l (nx y), and_assoc]
theorem rn_drop {s : ByteArray} {rec : Int → Int → Option (X × Int)} {nx : X → Int} {wr : Int → X → List UInt8} {ok : Int → X → Prop} (I : Int → Prop)
    (hI : ∀ st x, I st → ok st x → I (nx x)) (H : ∀ st p x q, I st → rec st p = some (x, q) → ok st x ∧ ∃ t, Sees s p (wr st x ++ t) ∧ Sees s q t) :
    ∀ (d : Nat) (st p : Int) (l l' : List X) (q : Int) (t0 : List UInt8), I st → Sees s p t0 → rn rec nx d st p l = some (l', q) → ∃ xs t, l' = l ++ xs ∧ xs.length = d ∧ oks ok nx st xs ∧ t0 = ens wr nx st xs ++ t ∧ Sees s q t := by
  intro d
  induction d with
  | zero =>
    intro st p l l' q t0 _ h0 h
    obtain ⟨rfl, rfl⟩ := Prod.mk.inj (Option.some.inj h)
    exact ⟨[], t0, by simp, rfl, trivial, by simp [ens], h0⟩
  | succ d ih =>
    intro st p l l' q t0 hst h0 h
    cases hr : rec st p with
    | none => simp only [rn, hr, Option.bind_none] at h; cases h
    | some r =>
      obtain ⟨x, q1⟩ := r
      simp only [rn, hr, Option.bind_some] at h
      obtain ⟨ho, t1, hs1, hs2⟩ := H st p x q1 hst hr
      obtain ⟨xs, t, e1, e2, e3, e4, e5⟩ := ih (nx x) q1 (l ++ [x]) l' q t1 (hI _ _ hst ho) hs2 h
      refine ⟨x :: xs, t, by rw [e1]; simp, by simp [e2], ⟨ho, e3⟩, ?_, e5⟩
      rw [← h0.is, hs1.is, e4]
      simp [ens]
theorem rn_fwd {s : ByteArray} {rec : Int → Int → Option (X × Int)} {nx : X → Int} {wr : Int → X → List UInt8} {ok : Int → X → Prop}
    (H : ∀ st p x t, ok st x → Sees s p (wr st x ++ t) → ∃ q, rec st p = some (x, q) ∧ Sees s q t) :
    ∀ (xs : List X) (st p : Int) (l : List X) (t : List UInt8), oks ok nx st xs → Sees s p (ens wr nx st xs ++ t) → ∃ q, rn rec nx xs.length st p l = some (l ++ xs, q) ∧ Sees s q t := by
  intro xs
  induction xs with
  | nil => intro st p l t _ h; exact ⟨p, by simp [rn], h⟩
  | cons x xs ih =>
    intro st p l t ho h
    obtain ⟨q, h1, h2⟩ := H st p x (ens wr nx (nx x) xs ++ t) ho.1 (by rw [← List.append_assoc]; exact h)
    obtain ⟨q', h3, h4⟩ := ih (nx x) q (l ++ [x]) t ho.2 h2
    exact ⟨q', by simp only [List.length_cons, rn, h1, Option.bind_some]; rw [h3]; simp, h4⟩
/-- Loosely: up to a fault. -/
def lr (rec : Int → (Int × Bool) → X × (Int × Bool)) (nx : X → Int) : Nat → Int → (Int × Bool) → List X → List X × (Int × Bool)
  | 0, _, c, l => (l, c)
  | d + 1, st, c, l => if c.2 = true then (l, c) else lr rec nx d (nx (rec st c).1) (rec st c).2 (l ++ [(rec st c).1])
theorem lr_fwd {s : ByteArray} {rec : Int → (Int × Bool) → X × (Int × Bool)} {nx : X → Int} {wr : Int → X → List UInt8} {ok : Int → X → Prop}
    (H : ∀ st p x t, ok st x → Sees s p (wr st x ++ t) → ∃ q, rec st (p, false) = (x, (q, false)) ∧ Sees s q t) :
    ∀ (xs : List X) (st p : Int) (l : List X) (t : List UInt8), oks ok nx st xs → Sees s p (ens wr nx st xs ++ t) → ∃ q, lr rec nx xs.length st (p, false) l = (l ++ xs, (q, false)) ∧ Sees s q t := by
  intro xs
  induction xs with
  | nil => intro st p l t _ h; exact ⟨p, by simp [lr], h⟩
  | cons x xs ih =>
    intro st p l t ho h
    obtain ⟨q, h1, h2⟩ := H st p x (ens wr nx (nx x) xs ++ t) ho.1 (by rw [← List.append_assoc]; exact h)
    obtain ⟨q', h3, h4⟩ := ih (nx x) q (l ++ [x]) t ho.2 h2
    exact ⟨q', by simp only [List.length_cons, lr, h1]; rw [if_neg (by simp), h3]; simp, h4⟩
end
end Go.Proofs.YtejjidggnnhgjaaDoor.HImP
/- The three files of layer 12 as plain functions: what may be, its bytes, what is read strictly and loosely, and that all this agrees. Plain laws. -/
set_option linter.unusedVariables false
set_option linter.unusedSimpArgs false
namespace Go.Proofs.YtejjidggnnhgjaaDoor.HImD
open Go.RowKit Go.Proofs.YtejjidggnnhgjaaDoor.PImg Go.Proofs.YtejjidggnnhgjaaDoor.HBlob Go.Proofs.YtejjidggnnhgjaaDoor.HCanon Go.Proofs.YtejjidggnnhgjaaDoor.HImP Go.Proofs.YtejjidggnnhgjaaDoor.HCore Go.Proofs.YtejjidggnnhgjaaDoorW.PrintWords Go.Proofs.YtejjidggnnhgjaaDoorW.PrintLast
/-! ### data -/
abbrev SD := S58
abbrev SE := S60
abbrev SN := S36
/-! ### a manifest -/
/-- One name, behind one that ends at last. -/
def cN (gen next upto last : Int) (n : SN) : Bool :=
  decide (1 ≤ n.f0 ∧ n.f0 < next ∧ last ≤ n.f1 ∧ n.f1 < n.f2 ∧ n.f2 ≤ upto ∧ 0 ≤ n.f3 ∧ n.f3 ≤ 65536 ∧ 0 ≤ n.f4 ∧ n.f4 ≤ gen ∧ 0 ≤ n.f5 ∧ n.f5 ≤ n.f3 ∧ (n.f4 = 0 ↔ n.f5 = 0) ∧ (n.f4 = 0 → n.f7 = 0))
def nxN (x : SN) : Int := x.f2
def oksN (gen next upto : Int) : Int → List SN → Bool
  | _, [] => true
  | st, x :: xs => cN gen next upto st x && oksN gen next upto (nxN x) xs
def gdN (gen next upto : Int) (ps : List SN) : Bool := decide (1 ≤ gen ∧ gen ≤ 99999999 ∧ 1 ≤ next ∧ next ≤ 100000000 ∧ upto ≤ 4611686018427387903 ∧ ps.length ≤ 256) && (oksN gen next upto 0 ps && decide (ps.map (fun p => p.f0)).Nodup)
def wrN (st : Int) (x : SN) : List UInt8 := ub x.f0 ++ (ub (x.f1 - st) ++ (ub (x.f2 - x.f1) ++ (ub x.f3 ++ (ub x.f4 ++ (ub x.f5 ++ (fb x.f6 ++ fb x.f7))))))
/-- The sums are numbers of 32 bits. -/
def Su (x : SN) : Prop := (0 ≤ x.f6 ∧ x.f6 < 4294967296) ∧ (0 ≤ x.f7 ∧ x.f7 < 4294967296)
def okN (st : Int) (x : SN) : Prop := (0 ≤ x.f0 ∧ x.f0 ≤ 99999999) ∧ st ≤ x.f1 ∧ x.f1 ≤ x.f2 ∧ x.f2 ≤ 4611686018427387903 ∧ (0 ≤ x.f3 ∧ x.f3 ≤ 65536) ∧ (0 ≤ x.f4 ∧ x.f4 ≤ 99999999) ∧ (0 ≤ x.f5 ∧ x.f5 ≤ 65536) ∧ Su x
def rcN (s : ByteArray) (st p : Int) : Option (SN × Int) :=
  (nm s p 99999999).bind fun a => (nm s a.2 (4611686018427387903 - st)).bind fun b => (nm s b.2 (4611686018427387903 - (st + b.1))).bind fun c => (nm s c.2 65536).bind fun d => (nm s d.2 99999999).bind fun e => (nm s e.2 65536).bind fun f => (sm s f.2).bind fun g => (sm s g.2).bind fun h =>
    some (⟨a.1, st + b.1, st + b.1 + c.1, d.1, e.1, f.1, g.1, h.1⟩, h.2)
def lrN (s : ByteArray) (st : Int) (k : Int × Bool) : SN × (Int × Bool) :=
  let a := cs s k
  let b := cn s a.2
  let c := cn s b.2
  let d := cs s c.2
  let e := cs s d.2
  let f := cs s e.2
  let g := cf s f.2
  let h := cf s g.2
  (⟨a.1, IntKind.u64.wrap (st + b.1), IntKind.u64.wrap (IntKind.u64.wrap (st + b.1) + c.1), d.1, e.1, f.1, g.1, h.1⟩, h.2)
theorem oksN_oks {gen next upto : Int} (h1 : gen ≤ 99999999) (h2 : next ≤ 100000000) (h3 : upto ≤ 4611686018427387903) : ∀ (ps : List SN) (st : Int), (∀ x ∈ ps, Su x) → oksN gen next upto st ps = true → oks okN nxN st ps := by
  intro ps
  induction ps with
  | nil => intro st _ _; trivial
  | cons x ps ih =>
    intro st hs h
    simp only [oksN, Bool.and_eq_true] at h
    have hc := h.1
    unfold cN at hc
    rw [decide_eq_true_eq] at hc
    obtain ⟨c1, c2, c3, c4, c5, c6, c7, c8, c9, c10, c11, _⟩ := hc
    exact ⟨⟨⟨by omega, by omega⟩, c3, by omega, by omega, ⟨c6, c7⟩, ⟨c8, by omega⟩, ⟨c10, by omega⟩, hs x (List.mem_cons_self ..)⟩, ih _ (fun y hy => hs y (List.mem_cons_of_mem _ hy)) h.2⟩
theorem rcN_drop {s : ByteArray} {st p q : Int} {x : SN} (h0 : 0 ≤ st ∧ st ≤ 4611686018427387903) (h : rcN s st p = some (x, q)) : okN st x ∧ ∃ t, Sees s p (wrN st x ++ t) ∧ Sees s q t := by
  unfold rcN at h
  obtain ⟨a, ha, h⟩ := Option.bind_eq_some_iff.1 h
  obtain ⟨b, hb, h⟩ := Option.bind_eq_some_iff.1 h
  obtain ⟨c, hc, h⟩ := Option.bind_eq_some_iff.1 h
  obtain ⟨d, hd, h⟩ := Option.bind_eq_some_iff.1 h
  obtain ⟨e, he, h⟩ := Option.bind_eq_some_iff.1 h
  obtain ⟨f, hf, h⟩ := Option.bind_eq_some_iff.1 h
  obtain ⟨g, hg, h⟩ := Option.bind_eq_some_iff.1 h
  obtain ⟨k, hk, h⟩ := Option.bind_eq_some_iff.1 h
  obtain ⟨rfl, rfl⟩ := Prod.mk.inj (Option.some.inj h)
  obtain ⟨a1, a2, a3, t1, a4, a5⟩ := nm_drop (v := a.1) (q := a.2) ha
  obtain ⟨b1, b2, b3, t2, b4, b5⟩ := nm_drop (v := b.1) (q := b.2) hb
  obtain ⟨c1, c2, c3, t3, c4, c5⟩ := nm_drop (v := c.1) (q := c.2) hc
  obtain ⟨d1, d2, d3, t4, d4, d5⟩ := nm_drop (v := d.1) (q := d.2) hd
  obtain ⟨e1, e2, e3, t5, e4, e5⟩ := nm_drop (v := e.1) (q := e.2) he
  obtain ⟨f1, f2, f3, t6, f4, f5⟩ := nm_drop (v := f.1) (q := f.2) hf
  obtain ⟨g1, g2, t7, g4, g5⟩ := sm_drop (v := g.1) (q := g.2) hg
  obtain ⟨k1, k2, t8, k4, k5⟩ := sm_drop (v := k.1) (q := k.2) hk
  refine ⟨⟨⟨a1, a2⟩, by simp only; omega, by simp only; omega, by simp only; omega, ⟨d1, d2⟩, ⟨e1, e2⟩, ⟨f1, f2⟩, ⟨⟨g1, g2⟩, ⟨k1, k2⟩⟩⟩, t8, ?_, k5⟩
  have x1 : t1 = ub b.1 ++ t2 := a5.is.symm.trans b4.is
  have x2 : t2 = ub c.1 ++ t3 := b5.is.symm.trans c4.is
  have x3 : t3 = ub d.1 ++ t4 := c5.is.symm.trans d4.is
  have x4 : t4 = ub e.1 ++ t5 := d5.is.symm.trans e4.is
  have x5 : t5 = ub f.1 ++ t6 := e5.is.symm.trans f4.is
  have x6 : t6 = fb g.1 ++ t7 := f5.is.symm.trans g4.is
  have x7 : t7 = fb k.1 ++ t8 := g5.is.symm.trans k4.is
  unfold wrN
  simp only
  rw [show st + b.1 - st = b.1 by omega, show st + b.1 + c.1 - (st + b.1) = c.1 by omega]
  simp only [List.append_assoc]
  rw [← x7, ← x6, ← x5, ← x4, ← x3, ← x2, ← x1]
  exact a4
theorem rcN_fwd {s : ByteArray} (st p : Int) (x : SN) (t : List UInt8) (h0 : 0 ≤ st) (ho : okN st x) (h : Sees s p (wrN st x ++ t)) : ∃ q, rcN s st p = some (x, q) ∧ Sees s q t := by
  obtain ⟨⟨o1, o1'⟩, o2, o3, o4, ⟨o5, o5'⟩, ⟨o6, o6'⟩, ⟨o7, o7'⟩, ⟨o8, o8'⟩, ⟨o9, o9'⟩⟩ := ho
  unfold wrN at h
  simp only [List.append_assoc] at h
  obtain ⟨q1, a1, a2⟩ := nm_fwd (most := 99999999) o1 (by omega) o1' h
  obtain ⟨q2, b1, b2⟩ := nm_fwd (most := 4611686018427387903 - st) (by omega) (by omega) (by omega) a2
  obtain ⟨q3, c1, c2⟩ := nm_fwd (most := 4611686018427387903 - x.f1) (by omega) (by omega) (by omega) b2
  obtain ⟨q4, d1, d2⟩ := nm_fwd (most := 65536) o5 (by omega) o5' c2
  obtain ⟨q5, e1, e2⟩ := nm_fwd (most := 99999999) o6 (by omega) o6' d2
  obtain ⟨q6, f1, f2⟩ := nm_fwd (most := 65536) o7 (by omega) o7' e2
  obtain ⟨q7, g1, g2⟩ := sm_fwd o8 o8' f2
  obtain ⟨q8, k1, k2⟩ := sm_fwd o9 o9' g2
  refine ⟨q8, ?_, k2⟩
  unfold rcN
  rw [a1, Option.bind_some]
  simp only
  rw [b1, Option.bind_some]
  simp only
  rw [show st + (x.f1 - st) = x.f1 by omega, c1, Option.bind_some]
  simp only
  rw [d1, Option.bind_some]
  simp only
  rw [e1, Option.bind_some]
  simp only
  rw [f1, Option.bind_some]
  simp only
  rw [g1, Option.bind_some]
  simp only
  rw [k1, Option.bind_some, show x.f1 + (x.f2 - x.f1) = x.f2 by omega]
theorem lrN_fwd {s : ByteArray} (st p : Int) (x : SN) (t : List UInt8) (h0 : 0 ≤ st) (ho : okN st x) (h : Sees s p (wrN st x ++ t)) : ∃ q, lrN s st (p, false) = (x, (q, false)) ∧ Sees s q t := by
  obtain ⟨⟨o1, o1'⟩, o2, o3, o4, ⟨o5, o5'⟩, ⟨o6, o6'⟩, ⟨o7, o7'⟩, ⟨o8, o8'⟩, ⟨o9, o9'⟩⟩ := ho
  unfold wrN at h
  simp only [List.append_assoc] at h
  obtain ⟨q1, a1, a2⟩ := cs_fwd o1 (by omega) h
  obtain ⟨q2, b1, b2⟩ := cn_fwd (by omega) (by omega) a2
  obtain ⟨q3, c1, c2⟩ := cn_fwd (by omega) (by omega) b2
  obtain ⟨q4, d1, d2⟩ := cs_fwd o5 (by omega) c2
  obtain ⟨q5, e1, e2⟩ := cs_fwd o6 (by omega) d2
  obtain ⟨q6, f1, f2⟩ := cs_fwd o7 (by omega) e2
  obtain ⟨q7, g1, g2⟩ := cf_fwd o8 o8' f2
  obtain ⟨q8, k1, k2⟩ := cf_fwd o9 o9' g2
  refine ⟨q8, ?_, k2⟩
  unfold lrN
  simp only [a1, b1, c1, d1, e1, f1, g1, k1]
  rw [show st + (x.f1 - st) = x.f1 by omega, wu64 (by omega) (by omega), show x.f1 + (x.f2 - x.f1) = x.f2 by omega, wu64 (by omega) (by omega)]
def byN (gen next upto : Int) (ps : List SN) : List UInt8 := ub gen ++ (ub next ++ (ub upto ++ (ub ps.length ++ ens wrN nxN 0 ps)))
def dcN (s : ByteArray) : Option ((Int × Int × Int × List SN) × Int) :=
  (nm s 0 99999999).bind fun a => (nm s a.2 100000000).bind fun b => (nm s b.2 4611686018427387903).bind fun c => (nm s c.2 256).bind fun n =>
    (rn (rcN s) nxN n.1.toNat 0 n.2 []).bind fun r => if gdN a.1 b.1 c.1 r.1 = true then some ((a.1, b.1, c.1, r.1), r.2) else none
def ldN (s : ByteArray) : (Int × Int × Int × List SN) × Bool :=
  let a := cs s (0, false)
  let b := cs s a.2
  let c := cn s b.2
  let n := cs s c.2
  let r := lr (lrN s) nxN n.1.toNat 0 n.2 []
  ((a.1, b.1, c.1, r.1), r.2.2)
theorem oks_all {X : Type} {ok : Int → X → Prop} {nx : X → Int} {Q : X → Prop} (h : ∀ st x, ok st x → Q x) : ∀ (l : List X) (st : Int), oks ok nx st l → ∀ x ∈ l, Q x := by
  intro l
  induction l with
  | nil => intro st _ x hx; cases hx
  | cons y l ih =>
    intro st ho x hx
    rcases List.mem_cons.1 hx with rfl | hx
    · exact h _ _ ho.1
    · exact ih _ ho.2 x hx
theorem dcN_drop {s : ByteArray} {gen next upto q : Int} {ps : List SN} (h : dcN s = some ((gen, next, upto, ps), q)) : gdN gen next upto ps = true ∧ 0 ≤ upto ∧ (∀ x ∈ ps, Su x) ∧ ∃ t, s.data.toList = byN gen next upto ps ++ t ∧ Sees s q t := by
  unfold dcN at h
  obtain ⟨a, ha, h⟩ := Option.bind_eq_some_iff.1 h
  obtain ⟨b, hb, h⟩ := Option.bind_eq_some_iff.1 h
  obtain ⟨c, hc, h⟩ := Option.bind_eq_some_iff.1 h
  obtain ⟨n, hn, h⟩ := Option.bind_eq_some_iff.1 h
  obtain ⟨r, hr, h⟩ := Option.bind_eq_some_iff.1 h
  split at h
  · rename_i hg
    obtain ⟨e, rfl⟩ := Prod.mk.inj (Option.some.inj h)
    obtain ⟨rfl, rfl, rfl, rfl⟩ := by simpa using e
    obtain ⟨a1, a2, a3, t1, a4, a5⟩ := nm_drop (v := a.1) (q := a.2) ha
    obtain ⟨b1, b2, b3, t2, b4, b5⟩ := nm_drop (v := b.1) (q := b.2) hb
    obtain ⟨c1, c2, c3, t3, c4, c5⟩ := nm_drop (v := c.1) (q := c.2) hc
    obtain ⟨n1, n2, n3, t4, n4, n5⟩ := nm_drop (v := n.1) (q := n.2) hn
    obtain ⟨xs, t, e1, e2, e3, e4, e5⟩ := rn_drop (s := s) (wr := wrN) (ok := okN) (fun st => 0 ≤ st ∧ st ≤ 4611686018427387903) (fun st x i o => by unfold nxN; exact ⟨by have := o.2.1; have := o.2.2.1; omega, o.2.2.2.1⟩) (fun st p x q i h => rcN_drop i h) n.1.toNat 0 n.2 [] r.1 r.2 t4 ⟨by omega, by omega⟩ n5 hr
    rw [List.nil_append] at e1
    refine ⟨hg, c1, by rw [e1]; exact oks_all (fun st x o => o.2.2.2.2.2.2.2) _ _ e3, t, ?_, e5⟩
    have x1 : t1 = ub b.1 ++ t2 := a5.is.symm.trans b4.is
    have x2 : t2 = ub c.1 ++ t3 := b5.is.symm.trans c4.is
    have x3 : t3 = ub n.1 ++ t4 := c5.is.symm.trans n4.is
    have x0 : s.data.toList = ub a.1 ++ t1 := by have := a4.is; simpa using this
    have hl : (r.1.length : Int) = n.1 := by rw [e1, e2]; omega
    unfold byN
    rw [hl, x0, x1, x2, x3, e4, e1]
    simp only [List.append_assoc]
  · cases h
theorem okN_nonneg : ∀ (ds : List SN) (st : Int), 0 ≤ st → oks okN nxN st ds → oks (fun st x => 0 ≤ st ∧ okN st x) nxN st ds := by
  intro ds
  induction ds with
  | nil => intro st _ _; trivial
  | cons x ds ih => intro st h ho; exact ⟨⟨h, ho.1⟩, ih _ (by have := ho.1.2.1; have := ho.1.2.2.1; unfold nxN; omega) ho.2⟩
theorem gdN_parts {gen next upto : Int} {ps : List SN} (hs : ∀ x ∈ ps, Su x) (h : gdN gen next upto ps = true) : (1 ≤ gen ∧ gen ≤ 99999999 ∧ 1 ≤ next ∧ next ≤ 100000000 ∧ upto ≤ 4611686018427387903 ∧ ps.length ≤ 256) ∧ oks okN nxN 0 ps := by
  unfold gdN at h
  simp only [Bool.and_eq_true, decide_eq_true_eq] at h
  exact ⟨h.1, oksN_oks h.1.2.1 h.1.2.2.2.1 h.1.2.2.2.2.1 ps 0 hs h.2.1⟩
theorem dcN_fwd {s : ByteArray} {gen next upto : Int} {ps : List SN} {t : List UInt8} (hs : ∀ x ∈ ps, Su x) (h0 : 0 ≤ upto) (hg : gdN gen next upto ps = true) (h : s.data.toList = byN gen next upto ps ++ t) : ∃ q, dcN s = some ((gen, next, upto, ps), q) ∧ Sees s q t := by
  obtain ⟨⟨g1, g2, g3, g4, g5, g7⟩, g6⟩ := gdN_parts hs hg
  have h1 := Sees.all s
  rw [h] at h1
  unfold byN at h1
  simp only [List.append_assoc] at h1
  obtain ⟨q1, a1, a2⟩ := nm_fwd (most := 99999999) (by omega) (by omega) g2 h1
  obtain ⟨q2, b1, b2⟩ := nm_fwd (most := 100000000) (by omega) (by omega) (by omega) a2
  obtain ⟨q3, c1, c2⟩ := nm_fwd (most := 4611686018427387903) h0 (by omega) (by omega) b2
  obtain ⟨q4, d1, d2⟩ := nm_fwd (most := 256) (by omega) (by omega) (by omega) c2
  obtain ⟨q5, e1, e2⟩ := rn_fwd (rec := rcN s) (nx := nxN) (fun st p x t ho h => rcN_fwd st p x t ho.1 ho.2 h) ps 0 q4 [] t (okN_nonneg ps 0 (Int.le_refl 0) g6) d2
  refine ⟨q5, ?_, e2⟩
  unfold dcN
  rw [a1, Option.bind_some, b1, Option.bind_some]
  simp only
  rw [c1, Option.bind_some]
  simp only
  rw [d1, Option.bind_some]
  simp only
  rw [Int.toNat_natCast, e1, Option.bind_some, List.nil_append]
  exact if_pos hg
theorem ldN_fwd {s : ByteArray} {gen next upto : Int} {ps : List SN} (hs : ∀ x ∈ ps, Su x) (h0 : 0 ≤ upto) (hg : gdN gen next upto ps = true) (h : s.data.toList = byN gen next upto ps) : ldN s = ((gen, next, upto, ps), false) := by
  obtain ⟨⟨g1, g2, g3, g4, g5, g7⟩, g6⟩ := gdN_parts hs hg
  have h1 := Sees.all s
  rw [h, ← List.append_nil (byN gen next upto ps)] at h1
  unfold byN at h1
  simp only [List.append_assoc] at h1
  obtain ⟨q1, a1, a2⟩ := cs_fwd (by omega) (by omega) h1
  obtain ⟨q2, b1, b2⟩ := cs_fwd (by omega) (by omega) a2
  obtain ⟨q3, c1, c2⟩ := cn_fwd h0 (by omega) b2
  obtain ⟨q4, d1, d2⟩ := cs_fwd (by omega) (by omega) c2
  obtain ⟨q5, e1, e2⟩ := lr_fwd (rec := lrN s) (nx := nxN) (fun st p x t ho h => lrN_fwd st p x t ho.1 ho.2 h) ps 0 q4 [] [] (okN_nonneg ps 0 (Int.le_refl 0) g6) d2
  unfold ldN
  simp only [a1, b1, c1, d1, Int.toNat_natCast, e1, List.nil_append]
end Go.Proofs.YtejjidggnnhgjaaDoor.HImD
/- Layer 12's writers, step by step: a builder of the call's own, and the blocks beside it that stay as they are. -/
set_option linter.unusedVariables false
set_option linter.unusedSimpArgs false
namespace Go.Proofs.YtejjidggnnhgjaaDoor.HImE
open Go.RowKit Go.Proofs.YtejjidggnnhgjaaDoor.PImg Go.Proofs.YtejjidggnnhgjaaDoor.HBase Go.Proofs.YtejjidggnnhgjaaDoor.HBlob Go.Proofs.YtejjidggnnhgjaaDoor.HSum Go.Proofs.YtejjidggnnhgjaaDoor.HCk Go.Proofs.YtejjidggnnhgjaaDoor.HBuildW Go.Proofs.YtejjidggnnhgjaaDoor.HImgW Go.Proofs.YtejjidggnnhgjaaDoor.HImP Go.Proofs.YtejjidggnnhgjaaDoor.HImD Go.Proofs.YtejjidggnnhgjaaDoorW.PrintWords Go.Proofs.YtejjidggnnhgjaaDoorW.PrintLast Go.Proofs.YtejjidggnnhgjaaDoorW.PrintMore Go.Proofs.YtejjidggnnhgjaaDoor.HCore
/-- A builder in block b that holds l, and blocks beside it. -/
structure Es (w w' : World) (b : Nat) (l : List UInt8) (L : List (Nat × Array Value × Nat)) : Prop where
  bld : Bld w w' b l
  box : ∀ t ∈ L, w'.heap[t.1]? = some (.cells t.2.1 t.2.2 (0, 0)) ∧ t.1 ≠ b ∧ t.2.2 ≠ 5
theorem Es.grown {w w' w'' : World} {b : Nat} {l : List UInt8} {L : List (Nat × Array Value × Nat)} (h : Es w w' b l L) (hb : Below w'.heap.size w' w'') : Es w w'' b l L :=
  ⟨h.bld.grown hb, fun t ht => ⟨(hb.block _ (blk_lt (h.box t ht).1)).trans (h.box t ht).1, (h.box t ht).2⟩⟩
theorem Es.drewN {w w' : World} {b : Nat} {l : List UInt8} {L : List (Nat × Array Value × Nat)} (h : Es w w' b l L) (n : Nat) : Es w (w'.drewN n) b l L := h.grown (pw_below_drewN (Below.refl _ _) n)
theorem Es.drew {w w' : World} {b : Nat} {l : List UInt8} {L : List (Nat × Array Value × Nat)} (h : Es w w' b l L) : Es w w'.drew b l L := h.drewN 1
theorem Es.wrote {w w' w'' : World} {b : Nat} {l l' : List UInt8} {L : List (Nat × Array Value × Nat)} (h : Es w w' b l L) (hb : Bld w w'' b l') (hk : Lib.OthersKept 5 (some b) w' w'') : Es w w'' b l' L :=
  ⟨hb, fun t ht => ⟨kept hk (h.box t ht).1 (h.box t ht).2.1 (h.box t ht).2.2, (h.box t ht).2⟩⟩
theorem Es.add {w w' : World} {b : Nat} {l : List UInt8} {L : List (Nat × Array Value × Nat)} (h : Es w w' b l L) (cs : Array Value) (T : Nat) (hT : T ≠ 5) : Es w (w'.alloc (.cells cs T)) b l ((w'.heap.size, cs, T) :: L) := by
  have h2 := h.grown (below_alloc (Below.refl w'.heap.size w') (.cells cs T))
  refine ⟨h2.bld, fun t ht => ?_⟩
  rcases List.mem_cons.1 ht with rfl | ht
  · exact ⟨heap_alloc_new _ _, Nat.ne_of_gt h.bld.lt.1, hT⟩
  · exact h2.box t ht
theorem Es.less {w w' : World} {b : Nat} {l : List UInt8} {L L' : List (Nat × Array Value × Nat)} (h : Es w w' b l L) (hs : ∀ t ∈ L', t ∈ L) : Es w w' b l L' := ⟨h.bld, fun t ht => h.box t (hs t ht)⟩
theorem Es.one {w w' : World} {b : Nat} {l : List UInt8} {g : Nat} {cs : Array Value} {T : Nat} {L : List (Nat × Array Value × Nat)} (h : Es w w' b l ((g, cs, T) :: L)) : w'.heap[g]? = some (.cells cs T (0, 0)) := (h.box _ (List.mem_cons_self ..)).1
theorem Es.two {w w' : World} {b : Nat} {l : List UInt8} {t : Nat × Array Value × Nat} {g : Nat} {cs : Array Value} {T : Nat} {L : List (Nat × Array Value × Nat)} (h : Es w w' b l (t :: (g, cs, T) :: L)) : w'.heap[g]? = some (.cells cs T (0, 0)) := (h.box _ (List.mem_cons_of_mem _ (List.mem_cons_self ..))).1
set_option maxRecDepth 100000 in
set_option maxHeartbeats 1000000 in
theorem new_es (s : ByteArray) (w0 w : World) (hs : s.size ≤ 140737488355328) (h0 : Below w0.heap.size w0 w) (L : List (Nat × Array Value × Nat)) (hL : ∀ t ∈ L, w.heap[t.1]? = some (.cells t.2.1 t.2.2 (0, 0)) ∧ t.2.2 ≠ 5) :
    Calls Tryd.prog 29 #[.string s] w fun e w' => ∃ b, e = .returned (.pointer (some ⟨b, 0, none⟩)) ∧ Es w0 w' b s.data.toList L := by
  have HE : Aside0 (Es w0 (w.alloc (.cells #[.pointer none, .slice none 0 0] 76)) w.heap.size [] L) := ⟨⟨Bld.start h0, fun t ht => ⟨(heap_alloc_old _ _ (blk_lt (hL t ht).1)).trans (hL t ht).1, Nat.ne_of_lt (blk_lt (hL t ht).1), (hL t ht).2⟩⟩⟩
  clear h0 hL
  go_enter Tryd.func29, Tryd.ntmps29
  go_wp2_with fail
  refine (string_any w0 _ w.heap.size [] s HE.out.bld (by rw [List.length_nil]; omega)).mono ?_
  rintro e w1 ⟨rfl, hb1, hk1⟩
  rw [List.nil_append] at hb1
  have HE1 := Aside0.mk (HE.out.wrote hb1 hk1)
  clear hb1 hk1
  go_wp2
  go_ret
  exact ⟨_, rfl, HE1.out⟩
theorem number_es (w0 w : World) (b : Nat) (l : List UInt8) (v : Int) {L : List (Nat × Array Value × Nat)} (h : Es w0 w b l L) (hv : 0 ≤ v ∧ v < 18446744073709551616) (hl : l.length ≤ 100000000000000) :
    Calls Tryd.prog 30 #[.pointer (some ⟨b, 0, none⟩), .int .u64 v] w fun e w' => e = .returned (.tuple #[]) ∧ Es w0 w' b (l ++ ub v) L := by
  obtain ⟨n, rfl⟩ := Int.eq_ofNat_of_zero_le hv.1
  refine (number_any w0 w b l n h.bld (by omega) (by omega)).mono ?_
  rintro e w' ⟨he, hb, hk⟩
  refine ⟨he, h.wrote ?_ hk⟩
  unfold ub
  rw [Int.toNat_natCast]
  exact hb
theorem string_es (w0 w : World) (b : Nat) (l : List UInt8) (s : ByteArray) {L : List (Nat × Array Value × Nat)} (h : Es w0 w b l L) (hs : s.size ≤ 1048576) (hl : l.length ≤ 100000000000000) :
    Calls Tryd.prog 31 #[.pointer (some ⟨b, 0, none⟩), .string s] w fun e w' => e = .returned (.tuple #[.int .i64 s.size, .nilIface]) ∧ Es w0 w' b (l ++ s.data.toList) L := by
  refine (string_any w0 w b l s h.bld (by omega)).mono ?_
  rintro e w' ⟨he, hb, hk⟩
  exact ⟨he, h.wrote hb hk⟩
theorem ub_len (v : Int) : (ub v).length ≤ 10 := by unfold ub; rw [size_list]; exact uvb_size _
theorem fb_len (v : Int) : (fb v).length = 4 := by unfold fb; rw [size_list, fxb_len]
theorem wrN_len (st : Int) (x : SN) : (wrN st x).length ≤ 710 := by
  unfold wrN
  have a := ub_len x.f0
  have b := ub_len (x.f1 - st)
  have c := ub_len (x.f2 - x.f1)
  have d := ub_len x.f3
  have e := ub_len x.f4
  have f := ub_len x.f5
  have g := fb_len x.f6
  have h := fb_len x.f7
  simp only [List.length_append]
  omega
theorem ens_len {X : Type} {wr : Int → X → List UInt8} {nx : X → Int} {ok : Int → X → Prop} (h : ∀ st x, ok st x → (wr st x).length ≤ 710) : ∀ (l : List X) (st : Int), oks ok nx st l → (ens wr nx st l).length ≤ 710 * l.length := by
  intro l
  induction l with
  | nil => intro st _; simp [ens]
  | cons x l ih =>
    intro st ho
    have h1 := h st x ho.1
    have h2 := ih (nx x) ho.2
    simp only [ens, List.length_append, List.length_cons]
    omega
theorem oks_left {X : Type} {ok : Int → X → Prop} {nx : X → Int} {b : List X} : ∀ (a : List X) (st : Int), oks ok nx st (a ++ b) → oks ok nx st a
  | [], _, _ => trivial
  | _ :: a, _, h => ⟨h.1, oks_left a _ h.2⟩
/-- At the k-th record. -/
theorem oks_take {X : Type} {ok : Int → X → Prop} {nx : X → Int} {l : List X} {st : Int} (h : oks ok nx st l) (k : Nat) (hk : k < l.length) : oks ok nx st (l.take k) ∧ ok (lst nx st (l.take k)) l[k] ∧ lst nx st (l.take (k + 1)) = nx l[k] := by
  have e : l.take (k + 1) = l.take k ++ [l[k]] := List.take_succ_eq_append_getElem hk
  have h1 : oks ok nx st (l.take (k + 1)) := by
    have h2 : l = l.take (k + 1) ++ l.drop (k + 1) := (List.take_append_drop _ _).symm
    rw [h2] at h
    exact oks_left _ _ h
  rw [e, oks_snoc] at h1
  exact ⟨h1.1, h1.2, by rw [e, lst_snoc]⟩
def ltN : ByteArray := ⟨#[83, 84, 82, 65, 77, 65, 78, 49]⟩
def fileOf (lt : ByteArray) (l : List UInt8) : ByteArray := (⟨(lt.data.toList ++ l).toArray⟩ : ByteArray) ++ fxb 4 (ck ⟨(lt.data.toList ++ l).toArray⟩)
end Go.Proofs.YtejjidggnnhgjaaDoor.HImE
namespace Go.Proofs.YtejjidggnnhgjaaDoor.PImg
open Go.RowKit Go.Proofs.YtejjidggnnhgjaaDoor.HBase Go.Proofs.YtejjidggnnhgjaaDoor.HBlob Go.Proofs.YtejjidggnnhgjaaDoor.HSum Go.Proofs.YtejjidggnnhgjaaDoor.HUv Go.Proofs.YtejjidggnnhgjaaDoorW.PrintWords Go.Proofs.YtejjidggnnhgjaaDoorW.PrintLast Go.Proofs.YtejjidggnnhgjaaDoorW.PrintMore
attribute [local go_sem] max2_int min2_int max_two min_two max_three min_three max_four min_four   -- for this text's walks alone
set_option linter.unusedVariables false
set_option linter.unusedSimpArgs false
theorem eqA36 (d : Nat) (w : World) (x0 y0 : Int) (x1 y1 : Int) (x2 y2 : Int) (x3 y3 : Int) (x4 y4 : Int) (x5 y5 : Int) (x6 y6 : Int) (x7 y7 : Int) :
    (Op.equalIn (d + 2) 36 (.agg #[.int .i64 x0, .int .u64 x1, .int .u64 x2, .int .i64 x3, .int .i64 x4, .int .i64 x5, .int .u32 x6, .int .u32 x7]) (.agg #[.int .i64 y0, .int .u64 y1, .int .u64 y2, .int .i64 y3, .int .i64 y4, .int .i64 y5, .int .u32 y6, .int .u32 y7])).run Tryd.prog w = .ok (x0 == y0 && (x1 == y1 && (x2 == y2 && (x3 == y3 && (x4 == y4 && (x5 == y5 && (x6 == y6 && (x7 == y7)))))))) w := by
  refine eqA_of Tryd.underlying36 (by kernel_rfl) ?_
  refine eqf_cons (by rfl) (by go_simp; rfl) (by go_simp; rfl) (by go_simp) ?_
  refine eqf_cons (by rfl) (by go_simp; rfl) (by go_simp; rfl) (by go_simp) ?_
  refine eqf_cons (by rfl) (by go_simp; rfl) (by go_simp; rfl) (by go_simp) ?_
  refine eqf_cons (by rfl) (by go_simp; rfl) (by go_simp; rfl) (by go_simp) ?_
  refine eqf_cons (by rfl) (by go_simp; rfl) (by go_simp; rfl) (by go_simp) ?_
  refine eqf_cons (by rfl) (by go_simp; rfl) (by go_simp; rfl) (by go_simp) ?_
  refine eqf_cons (by rfl) (by go_simp; rfl) (by go_simp; rfl) (by go_simp) ?_
  exact eqf_last (by rfl) (by go_simp; rfl) (by go_simp; rfl) (by go_simp)
end Go.Proofs.YtejjidggnnhgjaaDoor.PImg
namespace Go.Proofs.YtejjidggnnhgjaaDoor.PImg
open Go.RowKit Go.Proofs.YtejjidggnnhgjaaDoor.HBase Go.Proofs.YtejjidggnnhgjaaDoor.HBlob Go.Proofs.YtejjidggnnhgjaaDoor.HSum Go.Proofs.YtejjidggnnhgjaaDoor.HUv Go.Proofs.YtejjidggnnhgjaaDoorW.PrintWords Go.Proofs.YtejjidggnnhgjaaDoorW.PrintLast Go.Proofs.YtejjidggnnhgjaaDoorW.PrintMore
attribute [local go_sem] max2_int min2_int max_two min_two max_three min_three max_four min_four   -- for this text's walks alone
set_option linter.unusedVariables false
set_option linter.unusedSimpArgs false
attribute [local go_sem high] eqA36
/-! ### stratalaw12_sameManifest: function 11 -/
mutual
def stratalaw12_sameManifest.j0 : Nat → Bool → Int → Int → Int → List (S36) → Int → Int → Int → List (S36) → Option (Bool)
  | 0, _, _, _, _, _, _, _, _, _ => none
  | k + 1, x33, x273000, x273001, x273002, x273003, x274000, x274001, x274002, x274003 => if x33 = true then (some false) else (stratalaw12_sameManifest.l0 k 0 x273000 x273001 x273002 x273003 x274000 x274001 x274002 x274003)
def stratalaw12_sameManifest.l0 : Nat → Int → Int → Int → Int → List (S36) → Int → Int → Int → List (S36) → Option (Bool)
  | 0, _, _, _, _, _, _, _, _, _ => none
  | k + 1, x5, x273000, x273001, x273002, x273003, x274000, x274001, x274002, x274003 => if x5 < (x273003.length : Int) then (if 0 ≤ x5 then (if x5 < (x274003.length : Int) then (if (!(((rd_T36 x273003 x5).f0) == ((rd_T36 x274003 x5).f0)) || (!(((rd_T36 x273003 x5).f1) == ((rd_T36 x274003 x5).f1)) || (!(((rd_T36 x273003 x5).f2) == ((rd_T36 x274003 x5).f2)) || (!(((rd_T36 x273003 x5).f3) == ((rd_T36 x274003 x5).f3)) || (!(((rd_T36 x273003 x5).f4) == ((rd_T36 x274003 x5).f4)) || (!(((rd_T36 x273003 x5).f5) == ((rd_T36 x274003 x5).f5)) || (!(((rd_T36 x273003 x5).f6) == ((rd_T36 x274003 x5).f6)) || (!(((rd_T36 x273003 x5).f7) == ((rd_T36 x274003 x5).f7)))))))))) = true then (some false) else (stratalaw12_sameManifest.l0 k (wrap64 (x5 + 1)) x273000 x273001 x273002 x273003 x274000 x274001 x274002 x274003)) else (none)) else (none)) else (some true)
end
def stratalaw12_sameManifest.f (k : Nat) (a0_0 : Int) (a0_1 : Int) (a0_2 : Int) (l0_3 : List (S36)) (a1_0 : Int) (a1_1 : Int) (a1_2 : Int) (l1_3 : List (S36)) : Option (Bool) := if a0_0 = a1_0 then (if a0_1 = a1_1 then (if a0_2 = a1_2 then (stratalaw12_sameManifest.j0 k ((l0_3.length : Int) != (l1_3.length : Int)) a0_0 a0_1 a0_2 l0_3 a1_0 a1_1 a1_2 l1_3) else (stratalaw12_sameManifest.j0 k true a0_0 a0_1 a0_2 l0_3 a1_0 a1_1 a1_2 l1_3)) else (stratalaw12_sameManifest.j0 k true a0_0 a0_1 a0_2 l0_3 a1_0 a1_1 a1_2 l1_3)) else (stratalaw12_sameManifest.j0 k true a0_0 a0_1 a0_2 l0_3 a1_0 a1_1 a1_2 l1_3)
set_option maxHeartbeats 8000000 in
set_option maxRecDepth 100000 in
theorem stratalaw12_sameManifest.calls (k : Nat) (a0_0 : Int) (a0_1 : Int) (a0_2 : Int) (A0_3 : Option Addr) (c0_3 : Nat) (l0_3 : List (S36)) (a1_0 : Int) (a1_1 : Int) (a1_2 : Int) (A1_3 : Option Addr) (c1_3 : Nat) (l1_3 : List (S36)) (r : Bool) (w : World) (hr0_3 : Kd.C k36 w A0_3 l0_3.length l0_3) (hc0_3 : l0_3.length ≤ c0_3) (hr1_3 : Kd.C k36 w A1_3 l1_3.length l1_3) (hc1_3 : l1_3.length ≤ c1_3) (h : stratalaw12_sameManifest.f k a0_0 a0_1 a0_2 l0_3 a1_0 a1_1 a1_2 l1_3 = some r) :
    Calls Tryd.prog 11 #[.agg #[.int .i64 a0_0, .int .i64 a0_1, .int .u64 a0_2, .slice A0_3 l0_3.length c0_3], .agg #[.int .i64 a1_0, .int .i64 a1_1, .int .u64 a1_2, .slice A1_3 l1_3.length c1_3]] w fun e w' => e = .returned (.bool r) ∧ Below w.heap.size w w' := by
  have hu25 := Tryd.underlying25
  have hu36 := Tryd.underlying36
  have HR0_3 := Aside0.mk hr0_3
  have HC0_3 := Aside0.mk hc0_3
  clear hr0_3 hc0_3
  have HR1_3 := Aside0.mk hr1_3
  have HC1_3 := Aside0.mk hc1_3
  clear hr1_3 hc1_3
  have HB := Aside0.mk (Below.refl w.heap.size w)
  have H : (if a0_0 = a1_0 then (if a0_1 = a1_1 then (if a0_2 = a1_2 then (stratalaw12_sameManifest.j0 k ((l0_3.length : Int) != (l1_3.length : Int)) a0_0 a0_1 a0_2 l0_3 a1_0 a1_1 a1_2 l1_3) else (stratalaw12_sameManifest.j0 k true a0_0 a0_1 a0_2 l0_3 a1_0 a1_1 a1_2 l1_3)) else (stratalaw12_sameManifest.j0 k true a0_0 a0_1 a0_2 l0_3 a1_0 a1_1 a1_2 l1_3)) else (stratalaw12_sameManifest.j0 k true a0_0 a0_1 a0_2 l0_3 a1_0 a1_1 a1_2 l1_3)) = some r := h
  clear h
  have HC3 := Aside0.mk H
  clear H
  go_enter Tryd.func11, Tryd.ntmps11
  go_upto_region 1 with (first | ((with_reducible refine gate_dst (N := 2) rfl ?_); (try (refine gate_guard (by rfl) ?_; dsimp only)); refine box_event ?hg (N := 2) ?hd (cs := #[.int .i64 a0_0, .int .i64 a0_1, .int .u64 a0_2, .slice A0_3 l0_3.length c0_3]) (t := 25) ?hr ?_; (case hd => rfl); (case hg => rfl); (case hr => first | (go_simp; done) | (go_simp; rfl)); intro gb272 hg w4 hbox hb; have n0_ := Aside0.mk (below_step (by repeat (first | (with_reducible first | exact HB.out | apply below_alloc | apply pw_below_drewN | apply below_drew1) | exact HB.out)) hb); have n1_ := Aside0.mk (hbox); have n2_ := Aside0.mk ((by rw [hg]; exact (below_size (by repeat (first | (with_reducible first | exact HB.out | apply below_alloc | apply pw_below_drewN | apply below_drew1) | exact HB.out))) : w.heap.size ≤ gb272)); have n3_ := Aside0.mk ((by rw [hg]; exact (below_size (by repeat (first | (with_reducible first | exact HB.out | apply below_alloc | apply pw_below_drewN | apply below_drew1) | exact HB.out))) : w.heap.size ≤ gb272)); clear HB; have HB := n0_; have BK272 := n1_; have GW272 := n2_; have GE272 := n3_; clear n0_ n1_ n2_ n3_; clear hb hbox hg) | ((with_reducible refine gate_dst (N := 3) rfl ?_); (try (refine gate_guard (by rfl) ?_; dsimp only)); refine box_event ?hg (N := 3) ?hd (cs := #[.int .i64 a1_0, .int .i64 a1_1, .int .u64 a1_2, .slice A1_3 l1_3.length c1_3]) (t := 25) ?hr ?_; (case hd => rfl); (case hg => rfl); (case hr => first | (go_simp; done) | (go_simp; rfl)); intro gb273 hg w5 hbox hb; have n0_ := Aside0.mk (blk_below (g := gb272) (o := .cells #[.int .i64 a0_0, .int .i64 a0_1, .int .u64 a0_2, .slice A0_3 l0_3.length c0_3] 25 (0, 0)) (by (with_reducible repeat (first | refine blk_drewN ?_ _ | refine blk_drew ?_ | refine blk_alloc ?_ _)); exact BK272.out) hb); have n1_ := Aside0.mk (below_step (by repeat (first | (with_reducible first | exact HB.out | apply below_alloc | apply pw_below_drewN | apply below_drew1 | refine below_set ?_ GE272.out) | exact HB.out)) hb); have n2_ := Aside0.mk (hbox); have n3_ := Aside0.mk ((by rw [hg]; exact (below_size (by repeat (first | (with_reducible first | exact HB.out | apply below_alloc | apply pw_below_drewN | apply below_drew1 | refine below_set ?_ GE272.out) | exact HB.out))) : w.heap.size ≤ gb273)); have n4_ := Aside0.mk ((by rw [hg]; exact (below_size (by repeat (first | (with_reducible first | exact HB.out | apply below_alloc | apply pw_below_drewN | apply below_drew1 | refine below_set ?_ GE272.out) | exact HB.out))) : w.heap.size ≤ gb273)); have n5_ := Aside0.mk ((by rw [hg]; exact Nat.ne_of_lt (blk_lt (g := gb272) (o := .cells #[.int .i64 a0_0, .int .i64 a0_1, .int .u64 a0_2, .slice A0_3 l0_3.length c0_3] 25 (0, 0)) (by (with_reducible repeat (first | refine blk_drewN ?_ _ | refine blk_drew ?_ | refine blk_alloc ?_ _)); exact BK272.out)) : gb272 ≠ gb273)); have n6_ := Aside0.mk ((by rw [hg]; exact Nat.ne_of_gt (blk_lt (g := gb272) (o := .cells #[.int .i64 a0_0, .int .i64 a0_1, .int .u64 a0_2, .slice A0_3 l0_3.length c0_3] 25 (0, 0)) (by (with_reducible repeat (first | refine blk_drewN ?_ _ | refine blk_drew ?_ | refine blk_alloc ?_ _)); exact BK272.out)) : gb273 ≠ gb272)); clear BK272; clear HB; have BK272 := n0_; have HB := n1_; have BK273 := n2_; have GW273 := n3_; have GE273 := n4_; have NB272_273 := n5_; have NB273_272 := n6_; clear n0_ n1_ n2_ n3_ n4_ n5_ n6_; clear hb hbox hg))
  repeat (go_quiet (first | ((with_reducible refine gate_dst (N := 2) rfl ?_); (try (refine gate_guard (by rfl) ?_; dsimp only)); refine box_event ?hg (N := 2) ?hd (cs := #[.int .i64 a0_0, .int .i64 a0_1, .int .u64 a0_2, .slice A0_3 l0_3.length c0_3]) (t := 25) ?hr ?_; (case hd => rfl); (case hg => rfl); (case hr => first | (go_simp; done) | (go_simp; rfl)); intro gb272 hg w4 hbox hb; have n0_ := Aside0.mk (below_step (by repeat (first | (with_reducible first | exact HB.out | apply below_alloc | apply pw_below_drewN | apply below_drew1) | exact HB.out)) hb); have n1_ := Aside0.mk (hbox); have n2_ := Aside0.mk ((by rw [hg]; exact (below_size (by repeat (first | (with_reducible first | exact HB.out | apply below_alloc | apply pw_below_drewN | apply below_drew1) | exact HB.out))) : w.heap.size ≤ gb272)); have n3_ := Aside0.mk ((by rw [hg]; exact (below_size (by repeat (first | (with_reducible first | exact HB.out | apply below_alloc | apply pw_below_drewN | apply below_drew1) | exact HB.out))) : w.heap.size ≤ gb272)); clear HB; have HB := n0_; have BK272 := n1_; have GW272 := n2_; have GE272 := n3_; clear n0_ n1_ n2_ n3_; clear hb hbox hg) | ((with_reducible refine gate_dst (N := 3) rfl ?_); (try (refine gate_guard (by rfl) ?_; dsimp only)); refine box_event ?hg (N := 3) ?hd (cs := #[.int .i64 a1_0, .int .i64 a1_1, .int .u64 a1_2, .slice A1_3 l1_3.length c1_3]) (t := 25) ?hr ?_; (case hd => rfl); (case hg => rfl); (case hr => first | (go_simp; done) | (go_simp; rfl)); intro gb273 hg w5 hbox hb; have n0_ := Aside0.mk (blk_below (g := gb272) (o := .cells #[.int .i64 a0_0, .int .i64 a0_1, .int .u64 a0_2, .slice A0_3 l0_3.length c0_3] 25 (0, 0)) (by (with_reducible repeat (first | refine blk_drewN ?_ _ | refine blk_drew ?_ | refine blk_alloc ?_ _)); exact BK272.out) hb); have n1_ := Aside0.mk (below_step (by repeat (first | (with_reducible first | exact HB.out | apply below_alloc | apply pw_below_drewN | apply below_drew1 | refine below_set ?_ GE272.out) | exact HB.out)) hb); have n2_ := Aside0.mk (hbox); have n3_ := Aside0.mk ((by rw [hg]; exact (below_size (by repeat (first | (with_reducible first | exact HB.out | apply below_alloc | apply pw_below_drewN | apply below_drew1 | refine below_set ?_ GE272.out) | exact HB.out))) : w.heap.size ≤ gb273)); have n4_ := Aside0.mk ((by rw [hg]; exact (below_size (by repeat (first | (with_reducible first | exact HB.out | apply below_alloc | apply pw_below_drewN | apply below_drew1 | refine below_set ?_ GE272.out) | exact HB.out))) : w.heap.size ≤ gb273)); have n5_ := Aside0.mk ((by rw [hg]; exact Nat.ne_of_lt (blk_lt (g := gb272) (o := .cells #[.int .i64 a0_0, .int .i64 a0_1, .int .u64 a0_2, .slice A0_3 l0_3.length c0_3] 25 (0, 0)) (by (with_reducible repeat (first | refine blk_drewN ?_ _ | refine blk_drew ?_ | refine blk_alloc ?_ _)); exact BK272.out)) : gb272 ≠ gb273)); have n6_ := Aside0.mk ((by rw [hg]; exact Nat.ne_of_gt (blk_lt (g := gb272) (o := .cells #[.int .i64 a0_0, .int .i64 a0_1, .int .u64 a0_2, .slice A0_3 l0_3.length c0_3] 25 (0, 0)) (by (with_reducible repeat (first | refine blk_drewN ?_ _ | refine blk_drew ?_ | refine blk_alloc ?_ _)); exact BK272.out)) : gb273 ≠ gb272)); clear BK272; clear HB; have BK272 := n0_; have HB := n1_; have BK273 := n2_; have GW273 := n3_; have GE273 := n4_; have NB272_273 := n5_; have NB273_272 := n6_; clear n0_ n1_ n2_ n3_ n4_ n5_ n6_; clear hb hbox hg)); go_upto_region 1 with (first | ((with_reducible refine gate_dst (N := 2) rfl ?_); (try (refine gate_guard (by rfl) ?_; dsimp only)); refine box_event ?hg (N := 2) ?hd (cs := #[.int .i64 a0_0, .int .i64 a0_1, .int .u64 a0_2, .slice A0_3 l0_3.length c0_3]) (t := 25) ?hr ?_; (case hd => rfl); (case hg => rfl); (case hr => first | (go_simp; done) | (go_simp; rfl)); intro gb272 hg w4 hbox hb; have n0_ := Aside0.mk (below_step (by repeat (first | (with_reducible first | exact HB.out | apply below_alloc | apply pw_below_drewN | apply below_drew1) | exact HB.out)) hb); have n1_ := Aside0.mk (hbox); have n2_ := Aside0.mk ((by rw [hg]; exact (below_size (by repeat (first | (with_reducible first | exact HB.out | apply below_alloc | apply pw_below_drewN | apply below_drew1) | exact HB.out))) : w.heap.size ≤ gb272)); have n3_ := Aside0.mk ((by rw [hg]; exact (below_size (by repeat (first | (with_reducible first | exact HB.out | apply below_alloc | apply pw_below_drewN | apply below_drew1) | exact HB.out))) : w.heap.size ≤ gb272)); clear HB; have HB := n0_; have BK272 := n1_; have GW272 := n2_; have GE272 := n3_; clear n0_ n1_ n2_ n3_; clear hb hbox hg) | ((with_reducible refine gate_dst (N := 3) rfl ?_); (try (refine gate_guard (by rfl) ?_; dsimp only)); refine box_event ?hg (N := 3) ?hd (cs := #[.int .i64 a1_0, .int .i64 a1_1, .int .u64 a1_2, .slice A1_3 l1_3.length c1_3]) (t := 25) ?hr ?_; (case hd => rfl); (case hg => rfl); (case hr => first | (go_simp; done) | (go_simp; rfl)); intro gb273 hg w5 hbox hb; have n0_ := Aside0.mk (blk_below (g := gb272) (o := .cells #[.int .i64 a0_0, .int .i64 a0_1, .int .u64 a0_2, .slice A0_3 l0_3.length c0_3] 25 (0, 0)) (by (with_reducible repeat (first | refine blk_drewN ?_ _ | refine blk_drew ?_ | refine blk_alloc ?_ _)); exact BK272.out) hb); have n1_ := Aside0.mk (below_step (by repeat (first | (with_reducible first | exact HB.out | apply below_alloc | apply pw_below_drewN | apply below_drew1 | refine below_set ?_ GE272.out) | exact HB.out)) hb); have n2_ := Aside0.mk (hbox); have n3_ := Aside0.mk ((by rw [hg]; exact (below_size (by repeat (first | (with_reducible first | exact HB.out | apply below_alloc | apply pw_below_drewN | apply below_drew1 | refine below_set ?_ GE272.out) | exact HB.out))) : w.heap.size ≤ gb273)); have n4_ := Aside0.mk ((by rw [hg]; exact (below_size (by repeat (first | (with_reducible first | exact HB.out | apply below_alloc | apply pw_below_drewN | apply below_drew1 | refine below_set ?_ GE272.out) | exact HB.out))) : w.heap.size ≤ gb273)); have n5_ := Aside0.mk ((by rw [hg]; exact Nat.ne_of_lt (blk_lt (g := gb272) (o := .cells #[.int .i64 a0_0, .int .i64 a0_1, .int .u64 a0_2, .slice A0_3 l0_3.length c0_3] 25 (0, 0)) (by (with_reducible repeat (first | refine blk_drewN ?_ _ | refine blk_drew ?_ | refine blk_alloc ?_ _)); exact BK272.out)) : gb272 ≠ gb273)); have n6_ := Aside0.mk ((by rw [hg]; exact Nat.ne_of_gt (blk_lt (g := gb272) (o := .cells #[.int .i64 a0_0, .int .i64 a0_1, .int .u64 a0_2, .slice A0_3 l0_3.length c0_3] 25 (0, 0)) (by (with_reducible repeat (first | refine blk_drewN ?_ _ | refine blk_drew ?_ | refine blk_alloc ?_ _)); exact BK272.out)) : gb273 ≠ gb272)); clear BK272; clear HB; have BK272 := n0_; have HB := n1_; have BK273 := n2_; have GW273 := n3_; have GE273 := n4_; have NB272_273 := n5_; have NB273_272 := n6_; clear n0_ n1_ n2_ n3_ n4_ n5_ n6_; clear hb hbox hg)))
  (try simp only [Act.put, List.setIfInBounds_toArray, List.set_cons_zero, List.set_cons_succ])
  go_cut [33] (fun v33 wc => ∃ (kq : Nat) (x33_2 : Bool), v33 = .bool x33_2 ∧ Aside0 (stratalaw12_sameManifest.j0 kq x33_2 a0_0 a0_1 a0_2 l0_3 a1_0 a1_1 a1_2 l1_3 = some r) ∧ Aside0 (kq ≤ k) ∧ Aside0 (wc.heap[gb272]? = some (.cells #[.int .i64 a0_0, .int .i64 a0_1, .int .u64 a0_2, (.slice A0_3 l0_3.length c0_3)] 25 (0, 0))) ∧ Aside0 (wc.heap[gb273]? = some (.cells #[.int .i64 a1_0, .int .i64 a1_1, .int .u64 a1_2, (.slice A1_3 l1_3.length c1_3)] 25 (0, 0))) ∧ Aside0 (Below w.heap.size w wc))
  case first =>
    have H := HC3.out
    clear HC3
    by_cases c6 : a0_0 = a1_0
    · rw [if_pos c6] at H
      have c6b0 : (a0_0 == a1_0) = true := beq_iff_eq.mpr c6
      have c6b1 : (a0_0 != a1_0) = false := bne_eq_false_iff_eq.mpr c6
      clear c6
      (first | rw [c6b0] | (simp only [i64_w, i32_w]; rw [c6b0]) | skip)
      by_cases c7 : a0_1 = a1_1
      · rw [if_pos c7] at H
        have c7b0 : (a0_1 == a1_1) = true := beq_iff_eq.mpr c7
        have c7b1 : (a0_1 != a1_1) = false := bne_eq_false_iff_eq.mpr c7
        clear c7
        by_cases c8 : a0_2 = a1_2
        · rw [if_pos c8] at H
          have c8b0 : (a0_2 == a1_2) = true := beq_iff_eq.mpr c8
          have c8b1 : (a0_2 != a1_2) = false := bne_eq_false_iff_eq.mpr c8
          clear c8
          have H' := Aside0.mk H
          clear H
          have hnb9 := NB272_273.out
          have hnc9 := NB273_272.out
          have hcz10_0 : w5.cell? ⟨gb272, 0, none⟩ = some (.int .i64 a0_0) := (blk_cell BK272.out 0).trans rfl
          have hcz10_1 : w5.cell? ⟨gb272, 1, none⟩ = some (.int .i64 a0_1) := (blk_cell BK272.out 1).trans rfl
          have hcz10_2 : w5.cell? ⟨gb272, 2, none⟩ = some (.int .u64 a0_2) := (blk_cell BK272.out 2).trans rfl
          have hcz10_3 : w5.cell? ⟨gb272, 3, none⟩ = some (.slice A0_3 l0_3.length c0_3) := (blk_cell BK272.out 3).trans rfl
          have hfz10_0 := blk_frozen BK272.out 0
          have hfz10_1 := blk_frozen BK272.out 1
          have hfz10_2 := blk_frozen BK272.out 2
          have hfz10_3 := blk_frozen BK272.out 3
          have hcz11_0 : w5.cell? ⟨gb273, 0, none⟩ = some (.int .i64 a1_0) := (blk_cell BK273.out 0).trans rfl
          have hcz11_1 : w5.cell? ⟨gb273, 1, none⟩ = some (.int .i64 a1_1) := (blk_cell BK273.out 1).trans rfl
          have hcz11_2 : w5.cell? ⟨gb273, 2, none⟩ = some (.int .u64 a1_2) := (blk_cell BK273.out 2).trans rfl
          have hcz11_3 : w5.cell? ⟨gb273, 3, none⟩ = some (.slice A1_3 l1_3.length c1_3) := (blk_cell BK273.out 3).trans rfl
          have hfz11_0 := blk_frozen BK273.out 0
          have hfz11_1 := blk_frozen BK273.out 1
          have hfz11_2 := blk_frozen BK273.out 2
          have hfz11_3 := blk_frozen BK273.out 3
          go_wp2
          repeat (go_quiet (fail); try go_wp2)
          go_meet
          case rel => exact ⟨_, (((l0_3.length : Int) != (l1_3.length : Int))), (by first | rfl | (simp; done) | (simp [*]; done)), H', ⟨by first | omega | exact Nat.le_refl _⟩, ⟨by (with_reducible repeat (first | refine blk_drewN ?_ _ | refine blk_drew ?_ | refine blk_alloc ?_ _)); exact BK272.out⟩, ⟨by (with_reducible repeat (first | refine blk_drewN ?_ _ | refine blk_drew ?_ | refine blk_alloc ?_ _)); exact BK273.out⟩, ⟨by repeat (first | (with_reducible first | exact HB.out | apply below_alloc | apply pw_below_drewN | apply below_drew1 | refine below_set ?_ GE272.out | refine below_set ?_ GE273.out) | exact HB.out)⟩⟩
        · rw [if_neg c8] at H
          have c8b0 : (a0_2 == a1_2) = false := beq_eq_false_iff_ne.mpr c8
          have c8b1 : (a0_2 != a1_2) = true := bne_iff_ne.mpr c8
          have H' := Aside0.mk H
          clear H
          have hnb12 := NB272_273.out
          have hnc12 := NB273_272.out
          have hcz13_0 : w5.cell? ⟨gb272, 0, none⟩ = some (.int .i64 a0_0) := (blk_cell BK272.out 0).trans rfl
          have hcz13_1 : w5.cell? ⟨gb272, 1, none⟩ = some (.int .i64 a0_1) := (blk_cell BK272.out 1).trans rfl
          have hcz13_2 : w5.cell? ⟨gb272, 2, none⟩ = some (.int .u64 a0_2) := (blk_cell BK272.out 2).trans rfl
          have hcz13_3 : w5.cell? ⟨gb272, 3, none⟩ = some (.slice A0_3 l0_3.length c0_3) := (blk_cell BK272.out 3).trans rfl
          have hfz13_0 := blk_frozen BK272.out 0
          have hfz13_1 := blk_frozen BK272.out 1
          have hfz13_2 := blk_frozen BK272.out 2
          have hfz13_3 := blk_frozen BK272.out 3
          have hcz14_0 : w5.cell? ⟨gb273, 0, none⟩ = some (.int .i64 a1_0) := (blk_cell BK273.out 0).trans rfl
          have hcz14_1 : w5.cell? ⟨gb273, 1, none⟩ = some (.int .i64 a1_1) := (blk_cell BK273.out 1).trans rfl
          have hcz14_2 : w5.cell? ⟨gb273, 2, none⟩ = some (.int .u64 a1_2) := (blk_cell BK273.out 2).trans rfl
          have hcz14_3 : w5.cell? ⟨gb273, 3, none⟩ = some (.slice A1_3 l1_3.length c1_3) := (blk_cell BK273.out 3).trans rfl
          have hfz14_0 := blk_frozen BK273.out 0
          have hfz14_1 := blk_frozen BK273.out 1
          have hfz14_2 := blk_frozen BK273.out 2
          have hfz14_3 := blk_frozen BK273.out 3
          go_wp2
          repeat (go_quiet (fail); try go_wp2)
          go_meet
          case rel => exact ⟨_, (true), (by first | rfl | (simp; done) | (simp [*]; done)), H', ⟨by first | omega | exact Nat.le_refl _⟩, ⟨by (with_reducible repeat (first | refine blk_drewN ?_ _ | refine blk_drew ?_ | refine blk_alloc ?_ _)); exact BK272.out⟩, ⟨by (with_reducible repeat (first | refine blk_drewN ?_ _ | refine blk_drew ?_ | refine blk_alloc ?_ _)); exact BK273.out⟩, ⟨by repeat (first | (with_reducible first | exact HB.out | apply below_alloc | apply pw_below_drewN | apply below_drew1 | refine below_set ?_ GE272.out | refine below_set ?_ GE273.out) | exact HB.out)⟩⟩
      · rw [if_neg c7] at H
        have c7b0 : (a0_1 == a1_1) = false := beq_eq_false_iff_ne.mpr c7
        have c7b1 : (a0_1 != a1_1) = true := bne_iff_ne.mpr c7
        have H' := Aside0.mk H
        clear H
        have hnb15 := NB272_273.out
        have hnc15 := NB273_272.out
        have hcz16_0 : w5.cell? ⟨gb272, 0, none⟩ = some (.int .i64 a0_0) := (blk_cell BK272.out 0).trans rfl
        have hcz16_1 : w5.cell? ⟨gb272, 1, none⟩ = some (.int .i64 a0_1) := (blk_cell BK272.out 1).trans rfl
        have hcz16_2 : w5.cell? ⟨gb272, 2, none⟩ = some (.int .u64 a0_2) := (blk_cell BK272.out 2).trans rfl
        have hcz16_3 : w5.cell? ⟨gb272, 3, none⟩ = some (.slice A0_3 l0_3.length c0_3) := (blk_cell BK272.out 3).trans rfl
        have hfz16_0 := blk_frozen BK272.out 0
        have hfz16_1 := blk_frozen BK272.out 1
        have hfz16_2 := blk_frozen BK272.out 2
        have hfz16_3 := blk_frozen BK272.out 3
        have hcz17_0 : w5.cell? ⟨gb273, 0, none⟩ = some (.int .i64 a1_0) := (blk_cell BK273.out 0).trans rfl
        have hcz17_1 : w5.cell? ⟨gb273, 1, none⟩ = some (.int .i64 a1_1) := (blk_cell BK273.out 1).trans rfl
        have hcz17_2 : w5.cell? ⟨gb273, 2, none⟩ = some (.int .u64 a1_2) := (blk_cell BK273.out 2).trans rfl
        have hcz17_3 : w5.cell? ⟨gb273, 3, none⟩ = some (.slice A1_3 l1_3.length c1_3) := (blk_cell BK273.out 3).trans rfl
        have hfz17_0 := blk_frozen BK273.out 0
        have hfz17_1 := blk_frozen BK273.out 1
        have hfz17_2 := blk_frozen BK273.out 2
        have hfz17_3 := blk_frozen BK273.out 3
        go_wp2
        repeat (go_quiet (fail); try go_wp2)
        go_meet
        case rel => exact ⟨_, (true), (by first | rfl | (simp; done) | (simp [*]; done)), H', ⟨by first | omega | exact Nat.le_refl _⟩, ⟨by (with_reducible repeat (first | refine blk_drewN ?_ _ | refine blk_drew ?_ | refine blk_alloc ?_ _)); exact BK272.out⟩, ⟨by (with_reducible repeat (first | refine blk_drewN ?_ _ | refine blk_drew ?_ | refine blk_alloc ?_ _)); exact BK273.out⟩, ⟨by repeat (first | (with_reducible first | exact HB.out | apply below_alloc | apply pw_below_drewN | apply below_drew1 | refine below_set ?_ GE272.out | refine below_set ?_ GE273.out) | exact HB.out)⟩⟩
    · rw [if_neg c6] at H
      have c6b0 : (a0_0 == a1_0) = false := beq_eq_false_iff_ne.mpr c6
      have c6b1 : (a0_0 != a1_0) = true := bne_iff_ne.mpr c6
      (first | rw [c6b0] | (simp only [i64_w, i32_w]; rw [c6b0]) | skip)
      have H' := Aside0.mk H
      clear H
      have hnb18 := NB272_273.out
      have hnc18 := NB273_272.out
      have hcz19_0 : w5.cell? ⟨gb272, 0, none⟩ = some (.int .i64 a0_0) := (blk_cell BK272.out 0).trans rfl
      have hcz19_1 : w5.cell? ⟨gb272, 1, none⟩ = some (.int .i64 a0_1) := (blk_cell BK272.out 1).trans rfl
      have hcz19_2 : w5.cell? ⟨gb272, 2, none⟩ = some (.int .u64 a0_2) := (blk_cell BK272.out 2).trans rfl
      have hcz19_3 : w5.cell? ⟨gb272, 3, none⟩ = some (.slice A0_3 l0_3.length c0_3) := (blk_cell BK272.out 3).trans rfl
      have hfz19_0 := blk_frozen BK272.out 0
      have hfz19_1 := blk_frozen BK272.out 1
      have hfz19_2 := blk_frozen BK272.out 2
      have hfz19_3 := blk_frozen BK272.out 3
      have hcz20_0 : w5.cell? ⟨gb273, 0, none⟩ = some (.int .i64 a1_0) := (blk_cell BK273.out 0).trans rfl
      have hcz20_1 : w5.cell? ⟨gb273, 1, none⟩ = some (.int .i64 a1_1) := (blk_cell BK273.out 1).trans rfl
      have hcz20_2 : w5.cell? ⟨gb273, 2, none⟩ = some (.int .u64 a1_2) := (blk_cell BK273.out 2).trans rfl
      have hcz20_3 : w5.cell? ⟨gb273, 3, none⟩ = some (.slice A1_3 l1_3.length c1_3) := (blk_cell BK273.out 3).trans rfl
      have hfz20_0 := blk_frozen BK273.out 0
      have hfz20_1 := blk_frozen BK273.out 1
      have hfz20_2 := blk_frozen BK273.out 2
      have hfz20_3 := blk_frozen BK273.out 3
      go_wp2
      repeat (go_quiet (fail); try go_wp2)
      go_meet
      case rel => exact ⟨_, (true), (by first | rfl | (simp; done) | (simp [*]; done)), H', ⟨by first | omega | exact Nat.le_refl _⟩, ⟨by (with_reducible repeat (first | refine blk_drewN ?_ _ | refine blk_drew ?_ | refine blk_alloc ?_ _)); exact BK272.out⟩, ⟨by (with_reducible repeat (first | refine blk_drewN ?_ _ | refine blk_drew ?_ | refine blk_alloc ?_ _)); exact BK273.out⟩, ⟨by repeat (first | (with_reducible first | exact HB.out | apply below_alloc | apply pw_below_drewN | apply below_drew1 | refine below_set ?_ GE272.out | refine below_set ?_ GE273.out) | exact HB.out)⟩⟩
  case rest =>
    clear HC3
    try clear c1
    try clear p2
    try clear c6
    try clear c6b0
    try clear c6b1
    try clear c7
    try clear c7b0
    try clear c7b1
    try clear c8
    try clear c8b0
    try clear c8b1
    try clear c9
    try clear c11
    try clear c12
    try clear c15
    try clear c18
    try clear hcz10_0
    try clear hcz10_1
    try clear hcz10_2
    try clear hcz10_3
    try clear hcz11_0
    try clear hcz11_1
    try clear hcz11_2
    try clear hcz11_3
    try clear hcz13_0
    try clear hcz13_1
    try clear hcz13_2
    try clear hcz13_3
    try clear hcz14_0
    try clear hcz14_1
    try clear hcz14_2
    try clear hcz14_3
    try clear hcz16_0
    try clear hcz16_1
    try clear hcz16_2
    try clear hcz16_3
    try clear hcz17_0
    try clear hcz17_1
    try clear hcz17_2
    try clear hcz17_3
    try clear hcz19_0
    try clear hcz19_1
    try clear hcz19_2
    try clear hcz19_3
    try clear hcz20_0
    try clear hcz20_1
    try clear hcz20_2
    try clear hcz20_3
    try clear hfz10_0
    try clear hfz10_1
    try clear hfz10_2
    try clear hfz10_3
    try clear hfz11_0
    try clear hfz11_1
    try clear hfz11_2
    try clear hfz11_3
    try clear hfz13_0
    try clear hfz13_1
    try clear hfz13_2
    try clear hfz13_3
    try clear hfz14_0
    try clear hfz14_1
    try clear hfz14_2
    try clear hfz14_3
    try clear hfz16_0
    try clear hfz16_1
    try clear hfz16_2
    try clear hfz16_3
    try clear hfz17_0
    try clear hfz17_1
    try clear hfz17_2
    try clear hfz17_3
    try clear hfz19_0
    try clear hfz19_1
    try clear hfz19_2
    try clear hfz19_3
    try clear hfz20_0
    try clear hfz20_1
    try clear hfz20_2
    try clear hfz20_3
    obtain ⟨kq, x33_2, rfl, HA, HJ2, BK272, BK273, HB⟩ := hcut
    cases kq with
    | zero => exact absurd HA.out (by simp [stratalaw12_sameManifest.j0])
    | succ kj2 =>
      have H := HA.out
      clear HA
      simp only [stratalaw12_sameManifest.j0] at H
      by_cases c21 : x33_2 = true
      · subst c21
        have H1 : (some false) = some r := by rw [if_pos rfl] at H; exact H
        clear H
        have H := H1
        clear H1
        obtain rfl := Option.some.inj H
        go_wp2
        repeat (go_quiet (fail); try go_wp2)
        go_ret
        exact ⟨by first | rfl | (simp [errW_none, errW_some] <;> rfl) | (simp [*, errW_none, errW_some] <;> rfl), by repeat (first | (with_reducible first | exact HB.out | apply below_alloc | apply pw_below_drewN | apply below_drew1 | refine below_set ?_ GE272.out | refine below_set ?_ GE273.out) | exact HB.out)⟩
      · replace c21 := Bool.eq_false_iff.mpr c21
        subst c21
        have H1 : (stratalaw12_sameManifest.l0 kj2 0 a0_0 a0_1 a0_2 l0_3 a1_0 a1_1 a1_2 l1_3) = some r := by rw [if_neg (show ¬ (false = true) by decide)] at H; exact H
        clear H
        have H := H1
        clear H1
        have H' := Aside0.mk H
        clear H
        go_wp2
        repeat (go_quiet (fail); try go_wp2)
        go_loopg [5] kj2 (fun kq v5 w' => ∃ (x5_2 : Int), v5 = .int .i64 x5_2 ∧ Aside0 (stratalaw12_sameManifest.l0 kq x5_2 a0_0 a0_1 a0_2 l0_3 a1_0 a1_1 a1_2 l1_3 = some r) ∧ Aside0 (kq ≤ kj2) ∧ Aside0 (w'.heap[gb272]? = some (.cells #[.int .i64 a0_0, .int .i64 a0_1, .int .u64 a0_2, (.slice A0_3 l0_3.length c0_3)] 25 (0, 0))) ∧ Aside0 (w'.heap[gb273]? = some (.cells #[.int .i64 a1_0, .int .i64 a1_1, .int .u64 a1_2, (.slice A1_3 l1_3.length c1_3)] 25 (0, 0))) ∧ Aside0 (Below w.heap.size w w'))
        case atStart => exact ⟨(0), (by first | rfl | (simp; done) | (simp [*]; done)), H', ⟨Nat.le_refl _⟩, ⟨by (with_reducible repeat (first | refine blk_drewN ?_ _ | refine blk_drew ?_ | refine blk_alloc ?_ _)); exact BK272.out⟩, ⟨by (with_reducible repeat (first | refine blk_drewN ?_ _ | refine blk_drew ?_ | refine blk_alloc ?_ _)); exact BK273.out⟩, ⟨by repeat (first | (with_reducible first | exact HB.out | apply below_alloc | apply pw_below_drewN | apply below_drew1 | refine below_set ?_ GE272.out | refine below_set ?_ GE273.out) | exact HB.out)⟩⟩
        case round =>
          clear H'
          try clear c1
          try clear c2
          try clear p2
          try clear c6
          try clear c6b0
          try clear c6b1
          try clear c7
          try clear c7b0
          try clear c7b1
          try clear c8
          try clear c8b0
          try clear c8b1
          try clear c9
          try clear c11
          try clear c12
          try clear c15
          try clear c18
          try clear c21
          try clear hcz10_0
          try clear hcz10_1
          try clear hcz10_2
          try clear hcz10_3
          try clear hcz11_0
          try clear hcz11_1
          try clear hcz11_2
          try clear hcz11_3
          try clear hcz13_0
          try clear hcz13_1
          try clear hcz13_2
          try clear hcz13_3
          try clear hcz14_0
          try clear hcz14_1
          try clear hcz14_2
          try clear hcz14_3
          try clear hcz16_0
          try clear hcz16_1
          try clear hcz16_2
          try clear hcz16_3
          try clear hcz17_0
          try clear hcz17_1
          try clear hcz17_2
          try clear hcz17_3
          try clear hcz19_0
          try clear hcz19_1
          try clear hcz19_2
          try clear hcz19_3
          try clear hcz20_0
          try clear hcz20_1
          try clear hcz20_2
          try clear hcz20_3
          try clear hfz10_0
          try clear hfz10_1
          try clear hfz10_2
          try clear hfz10_3
          try clear hfz11_0
          try clear hfz11_1
          try clear hfz11_2
          try clear hfz11_3
          try clear hfz13_0
          try clear hfz13_1
          try clear hfz13_2
          try clear hfz13_3
          try clear hfz14_0
          try clear hfz14_1
          try clear hfz14_2
          try clear hfz14_3
          try clear hfz16_0
          try clear hfz16_1
          try clear hfz16_2
          try clear hfz16_3
          try clear hfz17_0
          try clear hfz17_1
          try clear hfz17_2
          try clear hfz17_3
          try clear hfz19_0
          try clear hfz19_1
          try clear hfz19_2
          try clear hfz19_3
          try clear hfz20_0
          try clear hfz20_1
          try clear hfz20_2
          try clear hfz20_3
          try clear p2
          obtain ⟨x5_2, rfl, HA, HK2, BK272, BK273, HB⟩ := hrel
          cases gk with
          | zero => exact absurd HA.out (by simp [stratalaw12_sameManifest.l0])
          | succ k2 =>
            have H := HA.out
            clear HA
            simp only [stratalaw12_sameManifest.l0] at H
            by_cases c22 : x5_2 < (l0_3.length : Int)
            · rw [if_pos c22] at H
              have c22b0 : decide (x5_2 < (l0_3.length : Int)) = true := decide_eq_true c22
              clear c22
              by_cases c23 : 0 ≤ x5_2
              · rw [if_pos c23] at H
                have c23b0 : decide (0 ≤ x5_2) = true := decide_eq_true c23
                clear c23
                by_cases c24 : x5_2 < (l1_3.length : Int)
                · rw [if_pos c24] at H
                  have c24b0 : decide (x5_2 < (l1_3.length : Int)) = true := decide_eq_true c24
                  clear c24
                  by_cases c25 : (!(((rd_T36 l0_3 x5_2).f0) == ((rd_T36 l1_3 x5_2).f0)) || (!(((rd_T36 l0_3 x5_2).f1) == ((rd_T36 l1_3 x5_2).f1)) || (!(((rd_T36 l0_3 x5_2).f2) == ((rd_T36 l1_3 x5_2).f2)) || (!(((rd_T36 l0_3 x5_2).f3) == ((rd_T36 l1_3 x5_2).f3)) || (!(((rd_T36 l0_3 x5_2).f4) == ((rd_T36 l1_3 x5_2).f4)) || (!(((rd_T36 l0_3 x5_2).f5) == ((rd_T36 l1_3 x5_2).f5)) || (!(((rd_T36 l0_3 x5_2).f6) == ((rd_T36 l1_3 x5_2).f6)) || (!(((rd_T36 l0_3 x5_2).f7) == ((rd_T36 l1_3 x5_2).f7)))))))))) = true
                  · rw [if_pos c25] at H
                    have c25b0 : (!(((rd_T36 l0_3 x5_2).f0) == ((rd_T36 l1_3 x5_2).f0)) || (!(((rd_T36 l0_3 x5_2).f1) == ((rd_T36 l1_3 x5_2).f1)) || (!(((rd_T36 l0_3 x5_2).f2) == ((rd_T36 l1_3 x5_2).f2)) || (!(((rd_T36 l0_3 x5_2).f3) == ((rd_T36 l1_3 x5_2).f3)) || (!(((rd_T36 l0_3 x5_2).f4) == ((rd_T36 l1_3 x5_2).f4)) || (!(((rd_T36 l0_3 x5_2).f5) == ((rd_T36 l1_3 x5_2).f5)) || (!(((rd_T36 l0_3 x5_2).f6) == ((rd_T36 l1_3 x5_2).f6)) || (!(((rd_T36 l0_3 x5_2).f7) == ((rd_T36 l1_3 x5_2).f7)))))))))) = true := c25
                    clear c25
                    obtain rfl := Option.some.inj H
                    have hnb26 := NB272_273.out
                    have hnc26 := NB273_272.out
                    have hcz27_0 : wr.cell? ⟨gb272, 0, none⟩ = some (.int .i64 a0_0) := (blk_cell BK272.out 0).trans rfl
                    have hcz27_1 : wr.cell? ⟨gb272, 1, none⟩ = some (.int .i64 a0_1) := (blk_cell BK272.out 1).trans rfl
                    have hcz27_2 : wr.cell? ⟨gb272, 2, none⟩ = some (.int .u64 a0_2) := (blk_cell BK272.out 2).trans rfl
                    have hcz27_3 : wr.cell? ⟨gb272, 3, none⟩ = some (.slice A0_3 l0_3.length c0_3) := (blk_cell BK272.out 3).trans rfl
                    have hfz27_0 := blk_frozen BK272.out 0
                    have hfz27_1 := blk_frozen BK272.out 1
                    have hfz27_2 := blk_frozen BK272.out 2
                    have hfz27_3 := blk_frozen BK272.out 3
                    have p274 : 0 ≤ (x5_2 : Int) := of_decide_eq_true (by first | (with_reducible assumption) | assumption)
                    have q274 : x5_2 < (l0_3.length : Int) := of_decide_eq_true (by first | (with_reducible assumption) | assumption)
                    obtain ⟨ad274, e274, hx274_0, hx274_1, hx274_2, hx274_3, hx274_4, hx274_5, hx274_6, hx274_7⟩ := at_T36 HR0_3.out x5_2 p274 q274
                    cases e274
                    replace hx274_0 := (HB.out.cell (World.block_lt_of_cell? w _ hx274_0)).trans hx274_0
                    replace hx274_1 := (HB.out.cell (World.block_lt_of_cell? w _ hx274_1)).trans hx274_1
                    replace hx274_2 := (HB.out.cell (World.block_lt_of_cell? w _ hx274_2)).trans hx274_2
                    replace hx274_3 := (HB.out.cell (World.block_lt_of_cell? w _ hx274_3)).trans hx274_3
                    replace hx274_4 := (HB.out.cell (World.block_lt_of_cell? w _ hx274_4)).trans hx274_4
                    replace hx274_5 := (HB.out.cell (World.block_lt_of_cell? w _ hx274_5)).trans hx274_5
                    replace hx274_6 := (HB.out.cell (World.block_lt_of_cell? w _ hx274_6)).trans hx274_6
                    replace hx274_7 := (HB.out.cell (World.block_lt_of_cell? w _ hx274_7)).trans hx274_7
                    replace p274 := eq_true p274
                    replace q274 := eq_true q274
                    have hcz28_0 : wr.cell? ⟨gb273, 0, none⟩ = some (.int .i64 a1_0) := (blk_cell BK273.out 0).trans rfl
                    have hcz28_1 : wr.cell? ⟨gb273, 1, none⟩ = some (.int .i64 a1_1) := (blk_cell BK273.out 1).trans rfl
                    have hcz28_2 : wr.cell? ⟨gb273, 2, none⟩ = some (.int .u64 a1_2) := (blk_cell BK273.out 2).trans rfl
                    have hcz28_3 : wr.cell? ⟨gb273, 3, none⟩ = some (.slice A1_3 l1_3.length c1_3) := (blk_cell BK273.out 3).trans rfl
                    have hfz28_0 := blk_frozen BK273.out 0
                    have hfz28_1 := blk_frozen BK273.out 1
                    have hfz28_2 := blk_frozen BK273.out 2
                    have hfz28_3 := blk_frozen BK273.out 3
                    have p275 : 0 ≤ (x5_2 : Int) := of_decide_eq_true (by first | (with_reducible assumption) | assumption)
                    have q275 : x5_2 < (l1_3.length : Int) := of_decide_eq_true (by first | (with_reducible assumption) | assumption)
                    obtain ⟨ad275, e275, hx275_0, hx275_1, hx275_2, hx275_3, hx275_4, hx275_5, hx275_6, hx275_7⟩ := at_T36 HR1_3.out x5_2 p275 q275
                    cases e275
                    replace hx275_0 := (HB.out.cell (World.block_lt_of_cell? w _ hx275_0)).trans hx275_0
                    replace hx275_1 := (HB.out.cell (World.block_lt_of_cell? w _ hx275_1)).trans hx275_1
                    replace hx275_2 := (HB.out.cell (World.block_lt_of_cell? w _ hx275_2)).trans hx275_2
                    replace hx275_3 := (HB.out.cell (World.block_lt_of_cell? w _ hx275_3)).trans hx275_3
                    replace hx275_4 := (HB.out.cell (World.block_lt_of_cell? w _ hx275_4)).trans hx275_4
                    replace hx275_5 := (HB.out.cell (World.block_lt_of_cell? w _ hx275_5)).trans hx275_5
                    replace hx275_6 := (HB.out.cell (World.block_lt_of_cell? w _ hx275_6)).trans hx275_6
                    replace hx275_7 := (HB.out.cell (World.block_lt_of_cell? w _ hx275_7)).trans hx275_7
                    replace p275 := eq_true p275
                    replace q275 := eq_true q275
                    go_wp2
                    repeat (go_quiet (fail); try go_wp2)
                    go_ret
                    exact ⟨by first | rfl | (simp [errW_none, errW_some] <;> rfl) | (simp [*, errW_none, errW_some] <;> rfl), by repeat (first | (with_reducible first | exact HB.out | apply below_alloc | apply pw_below_drewN | apply below_drew1 | refine below_set ?_ GE272.out | refine below_set ?_ GE273.out) | exact HB.out)⟩
                  · rw [if_neg c25] at H
                    have c25b0 : (!(((rd_T36 l0_3 x5_2).f0) == ((rd_T36 l1_3 x5_2).f0)) || (!(((rd_T36 l0_3 x5_2).f1) == ((rd_T36 l1_3 x5_2).f1)) || (!(((rd_T36 l0_3 x5_2).f2) == ((rd_T36 l1_3 x5_2).f2)) || (!(((rd_T36 l0_3 x5_2).f3) == ((rd_T36 l1_3 x5_2).f3)) || (!(((rd_T36 l0_3 x5_2).f4) == ((rd_T36 l1_3 x5_2).f4)) || (!(((rd_T36 l0_3 x5_2).f5) == ((rd_T36 l1_3 x5_2).f5)) || (!(((rd_T36 l0_3 x5_2).f6) == ((rd_T36 l1_3 x5_2).f6)) || (!(((rd_T36 l0_3 x5_2).f7) == ((rd_T36 l1_3 x5_2).f7)))))))))) = false := by simpa using c25
                    clear c25
                    have H' := Aside0.mk H
                    clear H
                    have hnb29 := NB272_273.out
                    have hnc29 := NB273_272.out
                    have hcz30_0 : wr.cell? ⟨gb272, 0, none⟩ = some (.int .i64 a0_0) := (blk_cell BK272.out 0).trans rfl
                    have hcz30_1 : wr.cell? ⟨gb272, 1, none⟩ = some (.int .i64 a0_1) := (blk_cell BK272.out 1).trans rfl
                    have hcz30_2 : wr.cell? ⟨gb272, 2, none⟩ = some (.int .u64 a0_2) := (blk_cell BK272.out 2).trans rfl
                    have hcz30_3 : wr.cell? ⟨gb272, 3, none⟩ = some (.slice A0_3 l0_3.length c0_3) := (blk_cell BK272.out 3).trans rfl
                    have hfz30_0 := blk_frozen BK272.out 0
                    have hfz30_1 := blk_frozen BK272.out 1
                    have hfz30_2 := blk_frozen BK272.out 2
                    have hfz30_3 := blk_frozen BK272.out 3
                    have p274 : 0 ≤ (x5_2 : Int) := of_decide_eq_true (by first | (with_reducible assumption) | assumption)
                    have q274 : x5_2 < (l0_3.length : Int) := of_decide_eq_true (by first | (with_reducible assumption) | assumption)
                    obtain ⟨ad274, e274, hx274_0, hx274_1, hx274_2, hx274_3, hx274_4, hx274_5, hx274_6, hx274_7⟩ := at_T36 HR0_3.out x5_2 p274 q274
                    cases e274
                    replace hx274_0 := (HB.out.cell (World.block_lt_of_cell? w _ hx274_0)).trans hx274_0
                    replace hx274_1 := (HB.out.cell (World.block_lt_of_cell? w _ hx274_1)).trans hx274_1
                    replace hx274_2 := (HB.out.cell (World.block_lt_of_cell? w _ hx274_2)).trans hx274_2
                    replace hx274_3 := (HB.out.cell (World.block_lt_of_cell? w _ hx274_3)).trans hx274_3
                    replace hx274_4 := (HB.out.cell (World.block_lt_of_cell? w _ hx274_4)).trans hx274_4
                    replace hx274_5 := (HB.out.cell (World.block_lt_of_cell? w _ hx274_5)).trans hx274_5
                    replace hx274_6 := (HB.out.cell (World.block_lt_of_cell? w _ hx274_6)).trans hx274_6
                    replace hx274_7 := (HB.out.cell (World.block_lt_of_cell? w _ hx274_7)).trans hx274_7
                    replace p274 := eq_true p274
                    replace q274 := eq_true q274
                    have hcz31_0 : wr.cell? ⟨gb273, 0, none⟩ = some (.int .i64 a1_0) := (blk_cell BK273.out 0).trans rfl
                    have hcz31_1 : wr.cell? ⟨gb273, 1, none⟩ = some (.int .i64 a1_1) := (blk_cell BK273.out 1).trans rfl
                    have hcz31_2 : wr.cell? ⟨gb273, 2, none⟩ = some (.int .u64 a1_2) := (blk_cell BK273.out 2).trans rfl
                    have hcz31_3 : wr.cell? ⟨gb273, 3, none⟩ = some (.slice A1_3 l1_3.length c1_3) := (blk_cell BK273.out 3).trans rfl
                    have hfz31_0 := blk_frozen BK273.out 0
                    have hfz31_1 := blk_frozen BK273.out 1
                    have hfz31_2 := blk_frozen BK273.out 2
                    have hfz31_3 := blk_frozen BK273.out 3
                    have p275 : 0 ≤ (x5_2 : Int) := of_decide_eq_true (by first | (with_reducible assumption) | assumption)
                    have q275 : x5_2 < (l1_3.length : Int) := of_decide_eq_true (by first | (with_reducible assumption) | assumption)
                    obtain ⟨ad275, e275, hx275_0, hx275_1, hx275_2, hx275_3, hx275_4, hx275_5, hx275_6, hx275_7⟩ := at_T36 HR1_3.out x5_2 p275 q275
                    cases e275
                    replace hx275_0 := (HB.out.cell (World.block_lt_of_cell? w _ hx275_0)).trans hx275_0
                    replace hx275_1 := (HB.out.cell (World.block_lt_of_cell? w _ hx275_1)).trans hx275_1
                    replace hx275_2 := (HB.out.cell (World.block_lt_of_cell? w _ hx275_2)).trans hx275_2
                    replace hx275_3 := (HB.out.cell (World.block_lt_of_cell? w _ hx275_3)).trans hx275_3
                    replace hx275_4 := (HB.out.cell (World.block_lt_of_cell? w _ hx275_4)).trans hx275_4
                    replace hx275_5 := (HB.out.cell (World.block_lt_of_cell? w _ hx275_5)).trans hx275_5
                    replace hx275_6 := (HB.out.cell (World.block_lt_of_cell? w _ hx275_6)).trans hx275_6
                    replace hx275_7 := (HB.out.cell (World.block_lt_of_cell? w _ hx275_7)).trans hx275_7
                    replace p275 := eq_true p275
                    replace q275 := eq_true q275
                    go_wp2
                    repeat (go_quiet (fail); try go_wp2)
                    go_roundg k2
                    case measure => have := HJ2.out; have := HK2.out; omega
                    case rel => exact ⟨(wrap64 (x5_2 + 1)), (by first | rfl | (simp; done) | (simp [*]; done)), H', ⟨by have := HJ2.out; have := HK2.out; omega⟩, ⟨by (with_reducible repeat (first | refine blk_drewN ?_ _ | refine blk_drew ?_ | refine blk_alloc ?_ _)); exact BK272.out⟩, ⟨by (with_reducible repeat (first | refine blk_drewN ?_ _ | refine blk_drew ?_ | refine blk_alloc ?_ _)); exact BK273.out⟩, ⟨by repeat (first | (with_reducible first | exact HB.out | apply below_alloc | apply pw_below_drewN | apply below_drew1 | refine below_set ?_ GE272.out | refine below_set ?_ GE273.out) | exact HB.out)⟩⟩
                · rw [if_neg c24] at H
                  exact absurd H (by simp)
              · rw [if_neg c23] at H
                exact absurd H (by simp)
            · rw [if_neg c22] at H
              have c22b0 : decide (x5_2 < (l0_3.length : Int)) = false := decide_eq_false c22
              clear c22
              obtain rfl := Option.some.inj H
              have hnb32 := NB272_273.out
              have hnc32 := NB273_272.out
              have hcz33_0 : wr.cell? ⟨gb272, 0, none⟩ = some (.int .i64 a0_0) := (blk_cell BK272.out 0).trans rfl
              have hcz33_1 : wr.cell? ⟨gb272, 1, none⟩ = some (.int .i64 a0_1) := (blk_cell BK272.out 1).trans rfl
              have hcz33_2 : wr.cell? ⟨gb272, 2, none⟩ = some (.int .u64 a0_2) := (blk_cell BK272.out 2).trans rfl
              have hcz33_3 : wr.cell? ⟨gb272, 3, none⟩ = some (.slice A0_3 l0_3.length c0_3) := (blk_cell BK272.out 3).trans rfl
              have hfz33_0 := blk_frozen BK272.out 0
              have hfz33_1 := blk_frozen BK272.out 1
              have hfz33_2 := blk_frozen BK272.out 2
              have hfz33_3 := blk_frozen BK272.out 3
              go_wp2
              repeat (go_quiet (fail); try go_wp2)
              go_ret
              exact ⟨by first | rfl | (simp [errW_none, errW_some] <;> rfl) | (simp [*, errW_none, errW_some] <;> rfl), by repeat (first | (with_reducible first | exact HB.out | apply below_alloc | apply pw_below_drewN | apply below_drew1 | refine below_set ?_ GE272.out | refine below_set ?_ GE273.out) | exact HB.out)⟩
end Go.Proofs.YtejjidggnnhgjaaDoor.PImg
namespace Go.Proofs.YtejjidggnnhgjaaDoor.PImg
open Go.RowKit Go.Proofs.YtejjidggnnhgjaaDoor.HBase Go.Proofs.YtejjidggnnhgjaaDoor.HBlob Go.Proofs.YtejjidggnnhgjaaDoor.HSum Go.Proofs.YtejjidggnnhgjaaDoor.HUv Go.Proofs.YtejjidggnnhgjaaDoorW.PrintWords Go.Proofs.YtejjidggnnhgjaaDoorW.PrintLast Go.Proofs.YtejjidggnnhgjaaDoorW.PrintMore
attribute [local go_sem] max2_int min2_int max_two min_two max_three min_three max_four min_four   -- for this text's walks alone
set_option linter.unusedVariables false
set_option linter.unusedSimpArgs false
/-! ### stratalaw12_twinManifest: function 7 -/
def stratalaw12_twinManifest.f (a0_0 : Int) (a0_1 : Int) (a0_2 : Int) (l0_3 : List (S36)) : Option (Int × Int × Int × (List (S36))) := (some (([] : List (S36)) : List (S36))).bind fun y302 => (if y302.length + l0_3.length < 2513169434916 then (some (a0_0, a0_1, a0_2, (y302 ++ l0_3))) else (none))
set_option maxHeartbeats 8000000 in
set_option maxRecDepth 100000 in
theorem stratalaw12_twinManifest.calls (a0_0 : Int) (a0_1 : Int) (a0_2 : Int) (A0_3 : Option Addr) (c0_3 : Nat) (l0_3 : List (S36)) (r1 : Int) (r2 : Int) (r3 : Int) (r4 : List (S36)) (w : World) (hr0_3 : Kd.C k36 w A0_3 l0_3.length l0_3) (hc0_3 : l0_3.length ≤ c0_3) (h : stratalaw12_twinManifest.f a0_0 a0_1 a0_2 l0_3 = some (r1, r2, r3, r4)) :
    Calls Tryd.prog 7 #[.agg #[.int .i64 a0_0, .int .i64 a0_1, .int .u64 a0_2, .slice A0_3 l0_3.length c0_3]] w fun e w' => ∃ v3_ : Value, e = .returned (.agg #[.int .i64 r1, .int .i64 r2, .int .u64 r3, v3_]) ∧ Kd.R k36 36 w' w.heap.size (fun _ => True) v3_ r4 ∧ Below w.heap.size w w' := by
  have hu25 := Tryd.underlying25
  have HR0_3 := Aside0.mk hr0_3
  have HC0_3 := Aside0.mk hc0_3
  clear hr0_3 hc0_3
  have HB := Aside0.mk (Below.refl w.heap.size w)
  have H : ((some (([] : List (S36)) : List (S36))).bind fun y302 => (if y302.length + l0_3.length < 2513169434916 then (some (a0_0, a0_1, a0_2, (y302 ++ l0_3))) else (none))) = some (r1, r2, r3, r4) := h
  clear h
  obtain ⟨y302, hy302⟩ : ∃ y_ : List (S36), y_ = (([] : List (S36))) := ⟨_, rfl⟩
  replace H : (if y302.length + l0_3.length < 2513169434916 then (some (a0_0, a0_1, a0_2, (y302 ++ l0_3))) else (none)) = some (r1, r2, r3, r4) := by first | (rw [hy302]; with_reducible exact H) | (have H2_ := (Option.bind_some _ _).symm.trans H; rw [hy302]; with_reducible exact H2_) | (have H2_ := (Option.bind_some _ _).symm.trans H; with_reducible exact H2_) | with_reducible exact H | (rw [hy302]; exact H) | exact H
  have Ny302 := Aside0.mk hy302
  clear hy302
  by_cases c2 : y302.length + l0_3.length < 2513169434916
  · rw [if_pos c2] at H
    have LMc2 := Aside0.mk c2
    clear c2
    obtain ⟨y305, hy305⟩ : ∃ y_ : List (S36), y_ = (y302 ++ l0_3) := ⟨_, rfl⟩
    replace H : (some (a0_0, a0_1, a0_2, y305)) = some (r1, r2, r3, r4) := by first | (rw [hy305]; with_reducible exact H) | (have H2_ := (Option.bind_some _ _).symm.trans H; rw [hy305]; with_reducible exact H2_) | (have H2_ := (Option.bind_some _ _).symm.trans H; with_reducible exact H2_) | with_reducible exact H | (rw [hy305]; exact H) | exact H
    have Ny305 := Aside0.mk hy305
    clear hy305
    simp only [Option.some.injEq, Prod.mk.injEq] at H
    obtain ⟨rfl, rfl, rfl, rfl⟩ := H
    go_enter Tryd.func7, Tryd.ntmps7
    go_wp2_with (first | ((with_reducible refine gate_dst (N := 1) rfl ?_); refine box_event ?hg (N := 1) ?hd (cs := #[.int .i64 a0_0, .int .i64 a0_1, .int .u64 a0_2, .slice A0_3 l0_3.length c0_3]) (t := 25) ?hr ?_; (case hd => rfl); (case hg => rfl); (case hr => first | (go_simp; done) | (go_simp; rfl)); intro gb299 hg w3 hbox hb; have n0_ := Aside0.mk (below_step (by repeat (first | (with_reducible first | exact HB.out | apply below_alloc | apply pw_below_drewN | apply below_drew1) | exact HB.out)) hb); have n1_ := Aside0.mk (hbox); have n2_ := Aside0.mk ((by rw [hg]; exact (below_size (by repeat (first | (with_reducible first | exact HB.out | apply below_alloc | apply pw_below_drewN | apply below_drew1) | exact HB.out))) : w.heap.size ≤ gb299)); have n3_ := Aside0.mk ((by rw [hg]; exact (below_size (by repeat (first | (with_reducible first | exact HB.out | apply below_alloc | apply pw_below_drewN | apply below_drew1) | exact HB.out))) : w.heap.size ≤ gb299)); clear HB; have HB := n0_; have BK299 := n1_; have GW299 := n2_; have GE299 := n3_; clear n0_ n1_ n2_ n3_; clear hb hbox hg) | ((with_reducible refine gate_dst (N := 2) rfl ?_); refine box_event ?hg (N := 2) ?hd (cs := #[.int .i64 0, .int .i64 0, .int .u64 0, .slice none 0 0]) (t := 25) ?hr ?_; (case hd => rfl); (case hg => rfl); (case hr => first | (go_simp; done) | (go_simp; rfl)); intro gb300 hg w4 hbox hb; have n0_ := Aside0.mk (blk_below (g := gb299) (o := .cells #[.int .i64 a0_0, .int .i64 a0_1, .int .u64 a0_2, .slice A0_3 l0_3.length c0_3] 25 (0, 0)) (by (with_reducible repeat (first | refine blk_drewN ?_ _ | refine blk_drew ?_ | refine blk_alloc ?_ _)); exact BK299.out) hb); have n1_ := Aside0.mk (below_step (by repeat (first | (with_reducible first | exact HB.out | apply below_alloc | apply pw_below_drewN | apply below_drew1 | refine below_set ?_ GE299.out) | exact HB.out)) hb); have n2_ := Aside0.mk (hbox); have n3_ := Aside0.mk ((by rw [hg]; exact (below_size (by repeat (first | (with_reducible first | exact HB.out | apply below_alloc | apply pw_below_drewN | apply below_drew1 | refine below_set ?_ GE299.out) | exact HB.out))) : w.heap.size ≤ gb300)); have n4_ := Aside0.mk ((by rw [hg]; exact (below_size (by repeat (first | (with_reducible first | exact HB.out | apply below_alloc | apply pw_below_drewN | apply below_drew1 | refine below_set ?_ GE299.out) | exact HB.out))) : w.heap.size ≤ gb300)); have n5_ := Aside0.mk ((by rw [hg]; exact Nat.ne_of_lt (blk_lt (g := gb299) (o := .cells #[.int .i64 a0_0, .int .i64 a0_1, .int .u64 a0_2, .slice A0_3 l0_3.length c0_3] 25 (0, 0)) (by (with_reducible repeat (first | refine blk_drewN ?_ _ | refine blk_drew ?_ | refine blk_alloc ?_ _)); exact BK299.out)) : gb299 ≠ gb300)); have n6_ := Aside0.mk ((by rw [hg]; exact Nat.ne_of_gt (blk_lt (g := gb299) (o := .cells #[.int .i64 a0_0, .int .i64 a0_1, .int .u64 a0_2, .slice A0_3 l0_3.length c0_3] 25 (0, 0)) (by (with_reducible repeat (first | refine blk_drewN ?_ _ | refine blk_drew ?_ | refine blk_alloc ?_ _)); exact BK299.out)) : gb300 ≠ gb299)); clear BK299; clear HB; have BK299 := n0_; have HB := n1_; have BK300 := n2_; have GW300 := n3_; have GE300 := n4_; have NB299_300 := n5_; have NB300_299 := n6_; clear n0_ n1_ n2_ n3_ n4_ n5_ n6_; clear hb hbox hg; have hnb5 := NB299_300.out; have hnc5 := NB300_299.out; have hcz6_0 : w4.cell? ⟨gb299, 0, none⟩ = some (.int .i64 a0_0) := (blk_cell BK299.out 0).trans rfl; have hcz6_1 : w4.cell? ⟨gb299, 1, none⟩ = some (.int .i64 a0_1) := (blk_cell BK299.out 1).trans rfl; have hcz6_2 : w4.cell? ⟨gb299, 2, none⟩ = some (.int .u64 a0_2) := (blk_cell BK299.out 2).trans rfl; have hcz6_3 : w4.cell? ⟨gb299, 3, none⟩ = some (.slice A0_3 l0_3.length c0_3) := (blk_cell BK299.out 3).trans rfl; have hfz6_0 := blk_frozen BK299.out 0; have hfz6_1 := blk_frozen BK299.out 1; have hfz6_2 := blk_frozen BK299.out 2; have hfz6_3 := blk_frozen BK299.out 3) | ((with_reducible refine gate_dst (N := 3) rfl ?_); refine box_event ?hg (N := 3) ?hd (cs := #[.int .i64 0, .int .i64 0, .int .u64 0, .slice none 0 0]) (t := 25) ?hr ?_; (case hd => rfl); (case hg => rfl); (case hr => first | (go_simp; done) | (go_simp; rfl)); intro gb301 hg w7 hbox hb; have n0_ := Aside0.mk (blk_below (g := gb299) (o := .cells #[.int .i64 a0_0, .int .i64 a0_1, .int .u64 a0_2, .slice A0_3 l0_3.length c0_3] 25 (0, 0)) (by (with_reducible repeat (first | refine blk_drewN ?_ _ | refine blk_drew ?_ | refine blk_alloc ?_ _)); exact BK299.out) hb); have n1_ := Aside0.mk (blk_below (g := gb300) (o := .cells #[.int .i64 0, .int .i64 0, .int .u64 0, .slice none 0 0] 25 (0, 0)) (by (with_reducible repeat (first | refine blk_drewN ?_ _ | refine blk_drew ?_ | refine blk_alloc ?_ _)); exact BK300.out) hb); have n2_ := Aside0.mk (below_step (by repeat (first | (with_reducible first | exact HB.out | apply below_alloc | apply pw_below_drewN | apply below_drew1 | refine below_set ?_ GE299.out | refine below_set ?_ GE300.out) | exact HB.out)) hb); have n3_ := Aside0.mk (hbox); have n4_ := Aside0.mk ((by rw [hg]; exact (below_size (by repeat (first | (with_reducible first | exact HB.out | apply below_alloc | apply pw_below_drewN | apply below_drew1 | refine below_set ?_ GE299.out | refine below_set ?_ GE300.out) | exact HB.out))) : w.heap.size ≤ gb301)); have n5_ := Aside0.mk ((by rw [hg]; exact (below_size (by repeat (first | (with_reducible first | exact HB.out | apply below_alloc | apply pw_below_drewN | apply below_drew1 | refine below_set ?_ GE299.out | refine below_set ?_ GE300.out) | exact HB.out))) : w.heap.size ≤ gb301)); have n6_ := Aside0.mk ((by rw [hg]; exact Nat.ne_of_lt (blk_lt (g := gb299) (o := .cells #[.int .i64 a0_0, .int .i64 a0_1, .int .u64 a0_2, .slice A0_3 l0_3.length c0_3] 25 (0, 0)) (by (with_reducible repeat (first | refine blk_drewN ?_ _ | refine blk_drew ?_ | refine blk_alloc ?_ _)); exact BK299.out)) : gb299 ≠ gb301)); have n7_ := Aside0.mk ((by rw [hg]; exact Nat.ne_of_gt (blk_lt (g := gb299) (o := .cells #[.int .i64 a0_0, .int .i64 a0_1, .int .u64 a0_2, .slice A0_3 l0_3.length c0_3] 25 (0, 0)) (by (with_reducible repeat (first | refine blk_drewN ?_ _ | refine blk_drew ?_ | refine blk_alloc ?_ _)); exact BK299.out)) : gb301 ≠ gb299)); have n8_ := Aside0.mk ((by rw [hg]; exact Nat.ne_of_lt (blk_lt (g := gb300) (o := .cells #[.int .i64 0, .int .i64 0, .int .u64 0, .slice none 0 0] 25 (0, 0)) (by (with_reducible repeat (first | refine blk_drewN ?_ _ | refine blk_drew ?_ | refine blk_alloc ?_ _)); exact BK300.out)) : gb300 ≠ gb301)); have n9_ := Aside0.mk ((by rw [hg]; exact Nat.ne_of_gt (blk_lt (g := gb300) (o := .cells #[.int .i64 0, .int .i64 0, .int .u64 0, .slice none 0 0] 25 (0, 0)) (by (with_reducible repeat (first | refine blk_drewN ?_ _ | refine blk_drew ?_ | refine blk_alloc ?_ _)); exact BK300.out)) : gb301 ≠ gb300)); clear BK299; clear BK300; clear HB; have BK299 := n0_; have BK300 := n1_; have HB := n2_; have BK301 := n3_; have GW301 := n4_; have GE301 := n5_; have NB299_301 := n6_; have NB301_299 := n7_; have NB300_301 := n8_; have NB301_300 := n9_; clear n0_ n1_ n2_ n3_ n4_ n5_ n6_ n7_ n8_ n9_; clear hb hbox hg; have hnb8 := NB301_299.out; have hnc8 := NB299_301.out; have hnb9 := NB301_300.out; have hnc9 := NB300_301.out; have hcz10_0 : w7.cell? ⟨gb301, 0, none⟩ = some (.int .i64 0) := (blk_cell BK301.out 0).trans rfl; have hcz10_1 : w7.cell? ⟨gb301, 1, none⟩ = some (.int .i64 0) := (blk_cell BK301.out 1).trans rfl; have hcz10_2 : w7.cell? ⟨gb301, 2, none⟩ = some (.int .u64 0) := (blk_cell BK301.out 2).trans rfl; have hcz10_3 : w7.cell? ⟨gb301, 3, none⟩ = some (.slice none 0 0) := (blk_cell BK301.out 3).trans rfl; have hfz10_0 := blk_frozen BK301.out 0; have hfz10_1 := blk_frozen BK301.out 1; have hfz10_2 := blk_frozen BK301.out 2; have hfz10_3 := blk_frozen BK301.out 3) | ((with_reducible refine gate_dst (N := 5) rfl ?_); refine Kd.R_lit k36 _ 36 ?hg (N := 5) ?hd (xs := ([] : List (S36))) (inner := []) (ok := fun _ => True) (okp := fun _ => True) ?hr ?hp (fun _ hk => hk) trivial (Below.refl _ _) (Nat.le_refl _) (by simp) ?_; (case hd => rfl); (case hg => rfl); (case hr => first | (go_simp; done) | (go_simp; rfl)); (case hp => exact (Reps.none _ _)); intro v303 w11 ho12 hb hg_ hnew_; clear hg_ hnew_; (first | rw [← Ny302.out] at ho12 | (simp only [Int.reduceToNat] at ho12; rw [← Ny302.out] at ho12)); have n0_ := Aside0.mk (Kd.R_lower ho12 (below_size (by repeat (first | (with_reducible first | exact HB.out | apply below_alloc | apply pw_below_drewN | apply below_drew1 | refine below_set ?_ GE299.out | refine below_set ?_ GE300.out | refine below_set ?_ GE301.out) | exact HB.out)))); have n1_ := Aside0.mk (blk_below (g := gb299) (o := .cells #[.int .i64 a0_0, .int .i64 a0_1, .int .u64 a0_2, .slice A0_3 l0_3.length c0_3] 25 (0, 0)) (by (with_reducible repeat (first | refine blk_drewN ?_ _ | refine blk_drew ?_ | refine blk_alloc ?_ _)); refine blk_far ?_ NB299_301.out _; (with_reducible repeat (first | refine blk_drewN ?_ _ | refine blk_drew ?_ | refine blk_alloc ?_ _)); refine blk_far ?_ NB299_301.out _; (with_reducible repeat (first | refine blk_drewN ?_ _ | refine blk_drew ?_ | refine blk_alloc ?_ _)); refine blk_far ?_ NB299_301.out _; (with_reducible repeat (first | refine blk_drewN ?_ _ | refine blk_drew ?_ | refine blk_alloc ?_ _)); refine blk_far ?_ NB299_301.out _; (with_reducible repeat (first | refine blk_drewN ?_ _ | refine blk_drew ?_ | refine blk_alloc ?_ _)); exact BK299.out) hb); have n2_ := Aside0.mk (blk_below (g := gb300) (o := .cells #[.int .i64 0, .int .i64 0, .int .u64 0, .slice none 0 0] 25 (0, 0)) (by (with_reducible repeat (first | refine blk_drewN ?_ _ | refine blk_drew ?_ | refine blk_alloc ?_ _)); refine blk_far ?_ NB300_301.out _; (with_reducible repeat (first | refine blk_drewN ?_ _ | refine blk_drew ?_ | refine blk_alloc ?_ _)); refine blk_far ?_ NB300_301.out _; (with_reducible repeat (first | refine blk_drewN ?_ _ | refine blk_drew ?_ | refine blk_alloc ?_ _)); refine blk_far ?_ NB300_301.out _; (with_reducible repeat (first | refine blk_drewN ?_ _ | refine blk_drew ?_ | refine blk_alloc ?_ _)); refine blk_far ?_ NB300_301.out _; (with_reducible repeat (first | refine blk_drewN ?_ _ | refine blk_drew ?_ | refine blk_alloc ?_ _)); exact BK300.out) hb); have n3_ := Aside0.mk (blk_below (g := gb301) (o := .cells #[.int .i64 a0_0, .int .i64 a0_1, .int .u64 a0_2, .slice A0_3 l0_3.length c0_3] 25 (0, 0)) (by (with_reducible repeat (first | refine blk_drewN ?_ _ | refine blk_drew ?_ | refine blk_alloc ?_ _)); refine blk_put (cs := #[.int .i64 a0_0, .int .i64 a0_1, .int .u64 a0_2, .slice none 0 0]) ?_ 3 _ rfl; (with_reducible repeat (first | refine blk_drewN ?_ _ | refine blk_drew ?_ | refine blk_alloc ?_ _)); refine blk_put (cs := #[.int .i64 a0_0, .int .i64 a0_1, .int .u64 0, .slice none 0 0]) ?_ 2 _ rfl; (with_reducible repeat (first | refine blk_drewN ?_ _ | refine blk_drew ?_ | refine blk_alloc ?_ _)); refine blk_put (cs := #[.int .i64 a0_0, .int .i64 0, .int .u64 0, .slice none 0 0]) ?_ 1 _ rfl; (with_reducible repeat (first | refine blk_drewN ?_ _ | refine blk_drew ?_ | refine blk_alloc ?_ _)); refine blk_put (cs := #[.int .i64 0, .int .i64 0, .int .u64 0, .slice none 0 0]) ?_ 0 _ rfl; (with_reducible repeat (first | refine blk_drewN ?_ _ | refine blk_drew ?_ | refine blk_alloc ?_ _)); exact BK301.out) hb); have n4_ := Aside0.mk (below_step (by repeat (first | (with_reducible first | exact HB.out | apply below_alloc | apply pw_below_drewN | apply below_drew1 | refine below_set ?_ GE299.out | refine below_set ?_ GE300.out | refine below_set ?_ GE301.out) | exact HB.out)) hb); clear BK299; clear BK300; clear BK301; clear HB; have HO304 := n0_; have BK299 := n1_; have BK300 := n2_; have BK301 := n3_; have HB := n4_; clear n0_ n1_ n2_ n3_ n4_; clear hb ho12; have hcz13_0 : w11.cell? ⟨gb299, 0, none⟩ = some (.int .i64 a0_0) := (blk_cell BK299.out 0).trans rfl; have hcz13_1 : w11.cell? ⟨gb299, 1, none⟩ = some (.int .i64 a0_1) := (blk_cell BK299.out 1).trans rfl; have hcz13_2 : w11.cell? ⟨gb299, 2, none⟩ = some (.int .u64 a0_2) := (blk_cell BK299.out 2).trans rfl; have hcz13_3 : w11.cell? ⟨gb299, 3, none⟩ = some (.slice A0_3 l0_3.length c0_3) := (blk_cell BK299.out 3).trans rfl; have hfz13_0 := blk_frozen BK299.out 0; have hfz13_1 := blk_frozen BK299.out 1; have hfz13_2 := blk_frozen BK299.out 2; have hfz13_3 := blk_frozen BK299.out 3) | ((with_reducible refine gate_builtin (b := .append) (xs := #[.tmp 5, .tmp 7]) rfl ?_); at_builtin; refine Kd.R_append_rows k36 (w0 := w) w.heap.size rfl (.tmp 5) (.tmp 7) 23 36 (.agg #[(.int .i64 0), (.int .u64 0), (.int .u64 0), (.int .i64 0), (.int .i64 0), (.int .i64 0), (.int .u32 0), (.int .u32 0)]) 56 rfl Tryd.underlying23 info36 rfl (by decide) (by omega) v303 y302 l0_3 _ _ _ (fun _ => True) (fun _ => False) rfl rfl ?aO ?aR (fun _ _ h => h) (fun _ h => h.elim) ?aF ?aB ?aS ?aL ?_; (case aR => repeat (first | exact (Kd.C_below HR0_3.out HB.out) | (with_reducible refine Kd.C_alloc ?_ _) | (with_reducible refine Kd.C_drewN ?_ _) | (with_reducible refine Kd.C_drew ?_))); (case aB => exact (by repeat (first | (with_reducible first | exact HB.out | apply below_alloc | apply pw_below_drewN | apply below_drew1 | refine below_set ?_ GE299.out | refine below_set ?_ GE300.out | refine below_set ?_ GE301.out) | exact HB.out))); (case aF => exact (fun _ _ => trivial)); (case aO => exact (by (with_reducible repeat (first | apply Kd.R_alloc | apply Kd.R_drewN | apply Kd.R_drew)); exact HO304.out)); (case aS => exact (below_size (by repeat (first | (with_reducible first | exact HB.out | apply below_alloc | apply pw_below_drewN | apply below_drew1 | refine below_set ?_ GE299.out | refine below_set ?_ GE300.out | refine below_set ?_ GE301.out) | exact HB.out)))); (case aL => have := LMc2.out; omega); intro v306 w14 ho hb hg hat; rw [← Ny305.out] at ho; have n0_ := Aside0.mk (blk_grown (g := gb299) (o := .cells #[.int .i64 a0_0, .int .i64 a0_1, .int .u64 a0_2, .slice A0_3 l0_3.length c0_3] 25 (0, 0)) (by (with_reducible repeat (first | refine blk_drewN ?_ _ | refine blk_drew ?_ | refine blk_alloc ?_ _)); exact BK299.out) hg (Kd.R_ne HO304.out BK299.out (by decide))); have n1_ := Aside0.mk (blk_grown (g := gb300) (o := .cells #[.int .i64 0, .int .i64 0, .int .u64 0, .slice none 0 0] 25 (0, 0)) (by (with_reducible repeat (first | refine blk_drewN ?_ _ | refine blk_drew ?_ | refine blk_alloc ?_ _)); exact BK300.out) hg (Kd.R_ne HO304.out BK300.out (by decide))); have n2_ := Aside0.mk (blk_grown (g := gb301) (o := .cells #[.int .i64 a0_0, .int .i64 a0_1, .int .u64 a0_2, .slice A0_3 l0_3.length c0_3] 25 (0, 0)) (by (with_reducible repeat (first | refine blk_drewN ?_ _ | refine blk_drew ?_ | refine blk_alloc ?_ _)); exact BK301.out) hg (Kd.R_ne HO304.out BK301.out (by decide))); have n3_ := Aside0.mk (hb); have n4_ := Aside0.mk (ho); clear BK299; clear BK300; clear BK301; clear HB; clear HO304; have BK299 := n0_; have BK300 := n1_; have BK301 := n2_; have HB := n3_; have HO307 := n4_; clear n0_ n1_ n2_ n3_ n4_; clear ho hb hg hat; obtain ⟨Ao15, co15, eo15⟩ := Kd.R_slice HO307.out; subst eo15; have hcz16_0 : w14.cell? ⟨gb301, 0, none⟩ = some (.int .i64 a0_0) := (blk_cell BK301.out 0).trans rfl; have hcz16_1 : w14.cell? ⟨gb301, 1, none⟩ = some (.int .i64 a0_1) := (blk_cell BK301.out 1).trans rfl; have hcz16_2 : w14.cell? ⟨gb301, 2, none⟩ = some (.int .u64 a0_2) := (blk_cell BK301.out 2).trans rfl; have hcz16_3 : w14.cell? ⟨gb301, 3, none⟩ = some (.slice A0_3 l0_3.length c0_3) := (blk_cell BK301.out 3).trans rfl; have hfz16_0 := blk_frozen BK301.out 0; have hfz16_1 := blk_frozen BK301.out 1; have hfz16_2 := blk_frozen BK301.out 2; have hfz16_3 := blk_frozen BK301.out 3; have hcz17_0 : w14.cell? ⟨gb300, 0, none⟩ = some (.int .i64 0) := (blk_cell BK300.out 0).trans rfl; have hcz17_1 : w14.cell? ⟨gb300, 1, none⟩ = some (.int .i64 0) := (blk_cell BK300.out 1).trans rfl; have hcz17_2 : w14.cell? ⟨gb300, 2, none⟩ = some (.int .u64 0) := (blk_cell BK300.out 2).trans rfl; have hcz17_3 : w14.cell? ⟨gb300, 3, none⟩ = some (.slice none 0 0) := (blk_cell BK300.out 3).trans rfl; have hfz17_0 := blk_frozen BK300.out 0; have hfz17_1 := blk_frozen BK300.out 1; have hfz17_2 := blk_frozen BK300.out 2; have hfz17_3 := blk_frozen BK300.out 3))
    refine bodyPost_ret (results_cell_row rfl _ _ gb300 25 #[.int .i64 a0_0, .int .i64 a0_1, .int .u64 a0_2, .slice Ao15 y305.length co15] (0, 0) _ rfl (by (with_reducible repeat (first | refine blk_drewN ?_ _ | refine blk_drew ?_ | refine blk_alloc ?_ _)); refine blk_put (cs := #[.int .i64 a0_0, .int .i64 a0_1, .int .u64 a0_2, .slice none 0 0]) ?_ 3 _ rfl; (with_reducible repeat (first | refine blk_drewN ?_ _ | refine blk_drew ?_ | refine blk_alloc ?_ _)); refine blk_put (cs := #[.int .i64 a0_0, .int .i64 a0_1, .int .u64 0, .slice none 0 0]) ?_ 2 _ rfl; (with_reducible repeat (first | refine blk_drewN ?_ _ | refine blk_drew ?_ | refine blk_alloc ?_ _)); refine blk_put (cs := #[.int .i64 a0_0, .int .i64 0, .int .u64 0, .slice none 0 0]) ?_ 1 _ rfl; (with_reducible repeat (first | refine blk_drewN ?_ _ | refine blk_drew ?_ | refine blk_alloc ?_ _)); refine blk_put (cs := #[.int .i64 0, .int .i64 0, .int .u64 0, .slice none 0 0]) ?_ 0 _ rfl; (with_reducible repeat (first | refine blk_drewN ?_ _ | refine blk_drew ?_ | refine blk_alloc ?_ _)); refine blk_far ?_ NB300_301.out _; (with_reducible repeat (first | refine blk_drewN ?_ _ | refine blk_drew ?_ | refine blk_alloc ?_ _)); exact BK300.out) Tryd.underlying25 rfl (by kernel_rfl)) rfl ?_
    exact ⟨_, by first | rfl | (simp [errW_none, errW_some] <;> rfl) | (simp [*, errW_none, errW_some] <;> rfl), by (with_reducible repeat (first | apply Kd.R_alloc | apply Kd.R_drewN | apply Kd.R_drew)); exact Kd.R_mono (Kd.R_far (p := ⟨gb300, 3, none⟩) (Kd.R_far (p := ⟨gb300, 2, none⟩) (Kd.R_far (p := ⟨gb300, 1, none⟩) (Kd.R_far (p := ⟨gb300, 0, none⟩) (Kd.R_far (p := ⟨gb301, 3, none⟩) (Kd.R_types (Kd.R_types HO307.out BK301.out (by decide)) BK300.out (by decide)) (fun _ hk => hk.1.2) (.slice Ao15 y305.length co15)) (fun _ hk => hk.2) (.int .i64 a0_0)) (fun _ hk => hk.2) (.int .i64 a0_1)) (fun _ hk => hk.2) (.int .u64 a0_2)) (fun _ hk => hk.2) (.slice Ao15 y305.length co15)) (fun _ hk => trivial), by repeat (first | (with_reducible first | exact HB.out | apply below_alloc | apply pw_below_drewN | apply below_drew1 | refine below_set ?_ GE299.out | refine below_set ?_ GE300.out | refine below_set ?_ GE301.out) | exact HB.out)⟩
  · rw [if_neg c2] at H
    exact absurd H (by simp)
/-- A state of type 93 at block g of W; what its slices lead to came in by w0. -/
def IsS93 (w0 W : World) (g : Nat) (f0 : ByteArray) (f1 : Int) (f2 : Bool) : Prop := W.heap[g]? = some (.cells #[.string f0, .int .i64 f1, .bool f2] 93 (0, 0)) ∧ w0.heap.size ≤ g
theorem IsS93.grown {w0 W : World} {g : Nat} {f0 : ByteArray} {f1 : Int} {f2 : Bool} {W1 : World} {row : Option Nat} (h : IsS93 w0 W g f0 f1 f2) (hw : W.grownBy W1 row) (hne : some g ≠ row) : IsS93 w0 W1 g f0 f1 f2 := by
  obtain ⟨hb, hg⟩ := h
  exact ⟨blk_grown hb hw hne, hg⟩
theorem IsS93.kept {w0 W : World} {g : Nat} {f0 : ByteArray} {f1 : Int} {f2 : Bool} {W1 : World} {S : Nat → Prop} (h : IsS93 w0 W g f0 f1 f2) (hk : Kept W W1 S) (hne : ¬ S g) : IsS93 w0 W1 g f0 f1 f2 := by
  obtain ⟨hb, hg⟩ := h
  exact ⟨blk_kept hb hk hne, hg⟩
theorem IsS93.below {w0 W : World} {g : Nat} {f0 : ByteArray} {f1 : Int} {f2 : Bool} {W1 : World} (h : IsS93 w0 W g f0 f1 f2) (hw : Below W.heap.size W W1) : IsS93 w0 W1 g f0 f1 f2 := h.grown (grown_of_below hw none) (by simp)
theorem IsS93.alloc {w0 W : World} {g : Nat} {f0 : ByteArray} {f1 : Int} {f2 : Bool} (h : IsS93 w0 W g f0 f1 f2) (o : Obj) : IsS93 w0 (W.alloc o) g f0 f1 f2 := h.below (below_alloc (Below.refl _ _) o)
theorem IsS93.drewN {w0 W : World} {g : Nat} {f0 : ByteArray} {f1 : Int} {f2 : Bool} (h : IsS93 w0 W g f0 f1 f2) (m : Nat) : IsS93 w0 (W.drewN m) g f0 f1 f2 := h
theorem IsS93.drew {w0 W : World} {g : Nat} {f0 : ByteArray} {f1 : Int} {f2 : Bool} (h : IsS93 w0 W g f0 f1 f2) : IsS93 w0 W.drew g f0 f1 f2 := h
theorem IsS93.at_ {w0 W : World} {g : Nat} {f0 : ByteArray} {f1 : Int} {f2 : Bool} {w' : World} {m : Nat} (hq : W.drewN m = w') (h : IsS93 w0 W g f0 f1 f2) : IsS93 w0 w' g f0 f1 f2 := by subst hq; exact IsS93.drewN h m
theorem IsS93.apart {w0 W : World} {g : Nat} {f0 : ByteArray} {f1 : Int} {f2 : Bool} {α : Type} {d : Kd α} {e : Nat} {base : Nat} {ok : Nat → Prop} {v : Value} {xs : List α} (h : IsS93 w0 W g f0 f1 f2) (ho : d.R e W base ok v xs) (ht : ∀ q, q ∈ e :: d.E → q ≠ 93) : d.R e W base (fun k => ok k ∧ k ≠ g) v xs := by
  obtain ⟨hb, hg⟩ := h
  exact Kd.R_types ho hb ht
theorem IsS93.lt {w0 W : World} {g : Nat} {f0 : ByteArray} {f1 : Int} {f2 : Bool} (h : IsS93 w0 W g f0 f1 f2) : g < W.heap.size := by
  obtain ⟨hb, hg⟩ := h
  exact blk_lt hb
theorem IsS93.ge {w0 W : World} {g : Nat} {f0 : ByteArray} {f1 : Int} {f2 : Bool} (h : IsS93 w0 W g f0 f1 f2) : w0.heap.size ≤ g := by
  obtain ⟨hb, hg⟩ := h
  exact hg
theorem IsS93.far {w0 W : World} {g : Nat} {f0 : ByteArray} {f1 : Int} {f2 : Bool} {p : Addr} (h : IsS93 w0 W g f0 f1 f2) (hne : g ≠ p.block) (u : Value) : IsS93 w0 (W.setCell p u) g f0 f1 f2 := by
  obtain ⟨hb, hg⟩ := h
  exact ⟨blk_far hb hne u, hg⟩
theorem cellS93_0 {W : World} {g : Nat} {f0 : ByteArray} {f1 : Int} {f2 : Bool} (h : W.heap[g]? = some (.cells #[.string f0, .int .i64 f1, .bool f2] 93 (0, 0))) : W.cell? ⟨g, 0, none⟩ = some (.string f0) := (blk_cell h 0).trans rfl
theorem IsS93.set_0 {w0 W : World} {g : Nat} {f0 : ByteArray} {f1 : Int} {f2 : Bool} (h : IsS93 w0 W g f0 f1 f2) (x : ByteArray) : IsS93 w0 (W.setCell ⟨g, 0, none⟩ (.string x)) g x f1 f2 := by
  obtain ⟨hb, hg⟩ := h
  exact ⟨by simpa using blk_set hb 0 (.string x), hg⟩
theorem cellS93_1 {W : World} {g : Nat} {f0 : ByteArray} {f1 : Int} {f2 : Bool} (h : W.heap[g]? = some (.cells #[.string f0, .int .i64 f1, .bool f2] 93 (0, 0))) : W.cell? ⟨g, 1, none⟩ = some (.int .i64 f1) := (blk_cell h 1).trans rfl
theorem IsS93.set_1 {w0 W : World} {g : Nat} {f0 : ByteArray} {f1 : Int} {f2 : Bool} (h : IsS93 w0 W g f0 f1 f2) (x : Int) : IsS93 w0 (W.setCell ⟨g, 1, none⟩ (.int .i64 x)) g f0 x f2 := by
  obtain ⟨hb, hg⟩ := h
  exact ⟨by simpa using blk_set hb 1 (.int .i64 x), hg⟩
theorem cellS93_2 {W : World} {g : Nat} {f0 : ByteArray} {f1 : Int} {f2 : Bool} (h : W.heap[g]? = some (.cells #[.string f0, .int .i64 f1, .bool f2] 93 (0, 0))) : W.cell? ⟨g, 2, none⟩ = some (.bool f2) := (blk_cell h 2).trans rfl
theorem IsS93.set_2 {w0 W : World} {g : Nat} {f0 : ByteArray} {f1 : Int} {f2 : Bool} (h : IsS93 w0 W g f0 f1 f2) (x : Bool) : IsS93 w0 (W.setCell ⟨g, 2, none⟩ (.bool x)) g f0 f1 x := by
  obtain ⟨hb, hg⟩ := h
  exact ⟨by simpa using blk_set hb 2 (.bool x), hg⟩
theorem IsS93.new (w0 W : World) (f0 : ByteArray) (f1 : Int) (f2 : Bool) (hB : Below w0.heap.size w0 W) : IsS93 w0 (W.alloc (.cells #[.string f0, .int .i64 f1, .bool f2] 93)) W.heap.size f0 f1 f2 := ⟨by simpa using heap_alloc_new W _, hB.size⟩
/-! ### strataref12_cursor_number: function 45 -/
def strataref12_cursor_number.f (s0_0 : ByteArray) (s0_1 : Int) (s0_2 : Bool) : Option (Int × ByteArray × Int × Bool) := (strataref01_ReadUvarint.f s0_0 s0_1).bind fun bt313 => (if bt313.2.2 = 0 then (if s0_2 = true then (some (0, s0_0, s0_1, true)) else (some (bt313.1, s0_0, bt313.2.1, s0_2))) else (some (0, s0_0, s0_1, true)))
set_option maxHeartbeats 8000000 in
set_option maxRecDepth 100000 in
theorem strataref12_cursor_number.calls (g : Nat) (s0_0 : ByteArray) (s0_1 : Int) (s0_2 : Bool) (r1 : Int) (r2 : ByteArray) (r3 : Int) (r4 : Bool) (w0 w : World) (hI : IsS93 w0 w g s0_0 s0_1 s0_2) (hB : Below w0.heap.size w0 w) (h : strataref12_cursor_number.f s0_0 s0_1 s0_2 = some (r1, r2, r3, r4)) :
    Calls Tryd.prog 45 #[.pointer (some ⟨g, 0, none⟩)] w fun e w' => e = .returned (.int .u64 r1) ∧ IsS93 w0 w' g r2 r3 r4 ∧ Below w0.heap.size w0 w' ∧ KeepBut w w' g none := by
  have HI0 := Aside0.mk hI
  have HK := Aside0.mk (KeepBut.refl w g none)
  have HL := Aside0.mk hB.size
  clear hI
  have HW0 := Aside0.mk hB.size
  have HB := Aside0.mk hB
  clear hB
  have H : ((strataref01_ReadUvarint.f s0_0 s0_1).bind fun bt313 => (if bt313.2.2 = 0 then (if s0_2 = true then (some (0, s0_0, s0_1, true)) else (some (bt313.1, s0_0, bt313.2.1, s0_2))) else (some (0, s0_0, s0_1, true)))) = some (r1, r2, r3, r4) := h
  clear h
  replace H := Option.bind_eq_some_iff.mp H
  obtain ⟨⟨t313, t314, t315⟩, A20, H⟩ := H
  replace H : (if t315 = 0 then (if s0_2 = true then (some (0, s0_0, s0_1, true)) else (some (t313, s0_0, t314, s0_2))) else (some (0, s0_0, s0_1, true))) = some (r1, r2, r3, r4) := H
  have A2 := Aside0.mk A20
  clear A20
  by_cases c3 : t315 = 0
  · rw [if_pos c3] at H
    have c3b0 : (t315 == 0) = true := beq_iff_eq.mpr c3
    have c3b1 : (t315 != 0) = false := bne_eq_false_iff_eq.mpr c3
    clear c3
    by_cases c4 : s0_2 = true
    · subst c4
      have H1 : (some (0, s0_0, s0_1, true)) = some (r1, r2, r3, r4) := by rw [if_pos rfl] at H; exact H
      clear H
      have H := H1
      clear H1
      simp only [Option.some.injEq, Prod.mk.injEq] at H
      obtain ⟨rfl, rfl, rfl, rfl⟩ := H
      obtain ⟨HGz5, hgz5⟩ := HI0.out
      have hcz5_0 := cellS93_0 HGz5
      have hcz5_1 := cellS93_1 HGz5
      have hcz5_2 := cellS93_2 HGz5
      have hfz5_0 := blk_frozen HGz5 0
      have hfz5_1 := blk_frozen HGz5 1
      have hfz5_2 := blk_frozen HGz5 2
      clear HGz5 hgz5
      go_enter Tryd.func45, Tryd.ntmps45
      go_wp2_with (first | (go_at_call 71; (with_reducible refine (strataref01_ReadUvarint.calls s0_0 s0_1 t313 t314 t315 _ A2.out).mono ?_); rintro e w' ⟨rfl, ⟨nd, rfl⟩⟩; (try first | exact ⟨rfl, _, World.drewN_drewN _ _ _⟩ | exact ⟨rfl, _, Eq.trans (World.drewN_drewN _ _ _) (congrArg (World.drewN _) (Nat.add_assoc _ _ _))⟩)))
      repeat (go_quiet (first | (go_at_call 71; (with_reducible refine (strataref01_ReadUvarint.calls s0_0 s0_1 t313 t314 t315 _ A2.out).mono ?_); rintro e w' ⟨rfl, ⟨nd, rfl⟩⟩; (try first | exact ⟨rfl, _, World.drewN_drewN _ _ _⟩ | exact ⟨rfl, _, Eq.trans (World.drewN_drewN _ _ _) (congrArg (World.drewN _) (Nat.add_assoc _ _ _))⟩))); try go_wp2_with (first | (go_at_call 71; (with_reducible refine (strataref01_ReadUvarint.calls s0_0 s0_1 t313 t314 t315 _ A2.out).mono ?_); rintro e w' ⟨rfl, ⟨nd, rfl⟩⟩; (try first | exact ⟨rfl, _, World.drewN_drewN _ _ _⟩ | exact ⟨rfl, _, Eq.trans (World.drewN_drewN _ _ _) (congrArg (World.drewN _) (Nat.add_assoc _ _ _))⟩))))
      go_ret
      exact ⟨by first | rfl | (simp [errW_none, errW_some] <;> rfl) | (simp [*, errW_none, errW_some] <;> rfl), by repeat (first | (with_reducible first | exact HI0.out | apply IsS93.alloc | apply IsS93.drewN | apply IsS93.drew | apply IsS93.set_0 | apply IsS93.set_1 | apply IsS93.set_2) | exact HI0.out), by repeat (first | (with_reducible first | exact HB.out | apply below_alloc | apply pw_below_drewN | apply below_drew1 | refine below_set ?_ (IsS93.ge HI0.out)) | exact HB.out), by repeat (first | (with_reducible first | exact HK.out | apply KeepBut.set_ | apply keep_drewN | apply keep_drew | apply keep_alloc) | exact HK.out)⟩
    · replace c4 := Bool.eq_false_iff.mpr c4
      subst c4
      have H1 : (some (t313, s0_0, t314, false)) = some (r1, r2, r3, r4) := by rw [if_neg (show ¬ (false = true) by decide)] at H; exact H
      clear H
      have H := H1
      clear H1
      simp only [Option.some.injEq, Prod.mk.injEq] at H
      obtain ⟨rfl, rfl, rfl, rfl⟩ := H
      obtain ⟨HGz6, hgz6⟩ := HI0.out
      have hcz6_0 := cellS93_0 HGz6
      have hcz6_1 := cellS93_1 HGz6
      have hcz6_2 := cellS93_2 HGz6
      have hfz6_0 := blk_frozen HGz6 0
      have hfz6_1 := blk_frozen HGz6 1
      have hfz6_2 := blk_frozen HGz6 2
      clear HGz6 hgz6
      go_enter Tryd.func45, Tryd.ntmps45
      go_wp2_with (first | (go_at_call 71; (with_reducible refine (strataref01_ReadUvarint.calls s0_0 s0_1 t313 t314 t315 _ A2.out).mono ?_); rintro e w' ⟨rfl, ⟨nd, rfl⟩⟩; (try first | exact ⟨rfl, _, World.drewN_drewN _ _ _⟩ | exact ⟨rfl, _, Eq.trans (World.drewN_drewN _ _ _) (congrArg (World.drewN _) (Nat.add_assoc _ _ _))⟩)))
      repeat (go_quiet (first | (go_at_call 71; (with_reducible refine (strataref01_ReadUvarint.calls s0_0 s0_1 t313 t314 t315 _ A2.out).mono ?_); rintro e w' ⟨rfl, ⟨nd, rfl⟩⟩; (try first | exact ⟨rfl, _, World.drewN_drewN _ _ _⟩ | exact ⟨rfl, _, Eq.trans (World.drewN_drewN _ _ _) (congrArg (World.drewN _) (Nat.add_assoc _ _ _))⟩))); try go_wp2_with (first | (go_at_call 71; (with_reducible refine (strataref01_ReadUvarint.calls s0_0 s0_1 t313 t314 t315 _ A2.out).mono ?_); rintro e w' ⟨rfl, ⟨nd, rfl⟩⟩; (try first | exact ⟨rfl, _, World.drewN_drewN _ _ _⟩ | exact ⟨rfl, _, Eq.trans (World.drewN_drewN _ _ _) (congrArg (World.drewN _) (Nat.add_assoc _ _ _))⟩))))
      go_ret
      exact ⟨by first | rfl | (simp [errW_none, errW_some] <;> rfl) | (simp [*, errW_none, errW_some] <;> rfl), by repeat (first | (with_reducible first | exact HI0.out | apply IsS93.alloc | apply IsS93.drewN | apply IsS93.drew | apply IsS93.set_0 | apply IsS93.set_1 | apply IsS93.set_2) | exact HI0.out), by repeat (first | (with_reducible first | exact HB.out | apply below_alloc | apply pw_below_drewN | apply below_drew1 | refine below_set ?_ (IsS93.ge HI0.out)) | exact HB.out), by repeat (first | (with_reducible first | exact HK.out | apply KeepBut.set_ | apply keep_drewN | apply keep_drew | apply keep_alloc) | exact HK.out)⟩
  · rw [if_neg c3] at H
    have c3b0 : (t315 == 0) = false := beq_eq_false_iff_ne.mpr c3
    have c3b1 : (t315 != 0) = true := bne_iff_ne.mpr c3
    simp only [Option.some.injEq, Prod.mk.injEq] at H
    obtain ⟨rfl, rfl, rfl, rfl⟩ := H
    obtain ⟨HGz7, hgz7⟩ := HI0.out
    have hcz7_0 := cellS93_0 HGz7
    have hcz7_1 := cellS93_1 HGz7
    have hcz7_2 := cellS93_2 HGz7
    have hfz7_0 := blk_frozen HGz7 0
    have hfz7_1 := blk_frozen HGz7 1
    have hfz7_2 := blk_frozen HGz7 2
    clear HGz7 hgz7
    go_enter Tryd.func45, Tryd.ntmps45
    go_wp2_with (first | (go_at_call 71; (with_reducible refine (strataref01_ReadUvarint.calls s0_0 s0_1 t313 t314 t315 _ A2.out).mono ?_); rintro e w' ⟨rfl, ⟨nd, rfl⟩⟩; (try first | exact ⟨rfl, _, World.drewN_drewN _ _ _⟩ | exact ⟨rfl, _, Eq.trans (World.drewN_drewN _ _ _) (congrArg (World.drewN _) (Nat.add_assoc _ _ _))⟩)))
    repeat (go_quiet (first | (go_at_call 71; (with_reducible refine (strataref01_ReadUvarint.calls s0_0 s0_1 t313 t314 t315 _ A2.out).mono ?_); rintro e w' ⟨rfl, ⟨nd, rfl⟩⟩; (try first | exact ⟨rfl, _, World.drewN_drewN _ _ _⟩ | exact ⟨rfl, _, Eq.trans (World.drewN_drewN _ _ _) (congrArg (World.drewN _) (Nat.add_assoc _ _ _))⟩))); try go_wp2_with (first | (go_at_call 71; (with_reducible refine (strataref01_ReadUvarint.calls s0_0 s0_1 t313 t314 t315 _ A2.out).mono ?_); rintro e w' ⟨rfl, ⟨nd, rfl⟩⟩; (try first | exact ⟨rfl, _, World.drewN_drewN _ _ _⟩ | exact ⟨rfl, _, Eq.trans (World.drewN_drewN _ _ _) (congrArg (World.drewN _) (Nat.add_assoc _ _ _))⟩))))
    go_ret
    exact ⟨by first | rfl | (simp [errW_none, errW_some] <;> rfl) | (simp [*, errW_none, errW_some] <;> rfl), by repeat (first | (with_reducible first | exact HI0.out | apply IsS93.alloc | apply IsS93.drewN | apply IsS93.drew | apply IsS93.set_0 | apply IsS93.set_1 | apply IsS93.set_2) | exact HI0.out), by repeat (first | (with_reducible first | exact HB.out | apply below_alloc | apply pw_below_drewN | apply below_drew1 | refine below_set ?_ (IsS93.ge HI0.out)) | exact HB.out), by repeat (first | (with_reducible first | exact HK.out | apply KeepBut.set_ | apply keep_drewN | apply keep_drew | apply keep_alloc) | exact HK.out)⟩
/-! ### strataref12_cursor_small: function 44 -/
def strataref12_cursor_small.f (s0_0 : ByteArray) (s0_1 : Int) (s0_2 : Bool) : Option (Int × ByteArray × Int × Bool) := (strataref12_cursor_number.f s0_0 s0_1 s0_2).bind fun bt316 => (if bt316.1 > 1099511627776 then (some (1099511627776, bt316.2.1, bt316.2.2.1, bt316.2.2.2)) else (some (wrap64 (bt316.1), bt316.2.1, bt316.2.2.1, bt316.2.2.2)))
set_option maxHeartbeats 8000000 in
set_option maxRecDepth 100000 in
theorem strataref12_cursor_small.calls (g : Nat) (s0_0 : ByteArray) (s0_1 : Int) (s0_2 : Bool) (r1 : Int) (r2 : ByteArray) (r3 : Int) (r4 : Bool) (w0 w : World) (hI : IsS93 w0 w g s0_0 s0_1 s0_2) (hB : Below w0.heap.size w0 w) (h : strataref12_cursor_small.f s0_0 s0_1 s0_2 = some (r1, r2, r3, r4)) :
    Calls Tryd.prog 44 #[.pointer (some ⟨g, 0, none⟩)] w fun e w' => e = .returned (.int .i64 r1) ∧ IsS93 w0 w' g r2 r3 r4 ∧ Below w0.heap.size w0 w' ∧ KeepBut w w' g none := by
  have HI0 := Aside0.mk hI
  have HK := Aside0.mk (KeepBut.refl w g none)
  have HL := Aside0.mk hB.size
  clear hI
  have HW0 := Aside0.mk hB.size
  have HB := Aside0.mk hB
  clear hB
  have H : ((strataref12_cursor_number.f s0_0 s0_1 s0_2).bind fun bt316 => (if bt316.1 > 1099511627776 then (some (1099511627776, bt316.2.1, bt316.2.2.1, bt316.2.2.2)) else (some (wrap64 (bt316.1), bt316.2.1, bt316.2.2.1, bt316.2.2.2)))) = some (r1, r2, r3, r4) := h
  clear h
  replace H := Option.bind_eq_some_iff.mp H
  obtain ⟨⟨t316, t317, t318, t319⟩, A20, H⟩ := H
  replace H : (if t316 > 1099511627776 then (some (1099511627776, t317, t318, t319)) else (some (wrap64 (t316), t317, t318, t319))) = some (r1, r2, r3, r4) := H
  have A2 := Aside0.mk A20
  clear A20
  by_cases c3 : t316 > 1099511627776
  · rw [if_pos c3] at H
    have c3b0 : decide (1099511627776 < t316) = true := decide_eq_true c3
    clear c3
    simp only [Option.some.injEq, Prod.mk.injEq] at H
    obtain ⟨rfl, rfl, rfl, rfl⟩ := H
    go_enter Tryd.func44, Tryd.ntmps44
    go_wp2_with (first | ((with_reducible refine gate_callee (f := 45) rfl ?_); refine goesL_ (some 5) rfl rfl Tryd.func45 (by kernel_rfl) rfl #[.pointer (some ⟨g, 0, none⟩)] rfl (by (try simp only [List.map_toArray, List.map_cons, List.map_nil]); first | done | rfl | (simp only [List.length_drop, List.length_take]; rfl)) ?_; (with_reducible refine (strataref12_cursor_number.calls g s0_0 s0_1 s0_2 t316 t317 t318 t319 w0 _ ?side1 ?side2 A2.out).mono ?_); (case side1 => repeat (first | (with_reducible first | exact HI0.out | apply IsS93.alloc | apply IsS93.drewN | apply IsS93.drew | apply IsS93.set_0 | apply IsS93.set_1 | apply IsS93.set_2) | exact HI0.out)); (case side2 => repeat (first | (with_reducible first | exact HB.out | apply below_alloc | apply pw_below_drewN | apply below_drew1 | refine below_set ?_ (IsS93.ge HI0.out)) | exact HB.out)); rintro e w4 ⟨rfl, hi, hb, hk⟩; refine ⟨_, rfl, ?_⟩; have n0_ := Aside0.mk (KeepBut.trans (by repeat (first | (with_reducible first | exact HK.out | apply KeepBut.set_ | apply keep_drewN | apply keep_drew | apply keep_alloc) | exact HK.out)) hk (.inl rfl)); have n1_ := Aside0.mk (hb); have n2_ := Aside0.mk (hi); clear HK; clear HB; clear HI0; have HK := n0_; have HB := n1_; have HI0 := n2_; clear n0_ n1_ n2_; (try clear hb); (try clear hb2); (try clear hk); (try clear hi)))
    go_ret
    exact ⟨by first | rfl | (simp [errW_none, errW_some] <;> rfl) | (simp [*, errW_none, errW_some] <;> rfl), by repeat (first | (with_reducible first | exact HI0.out | apply IsS93.alloc | apply IsS93.drewN | apply IsS93.drew | apply IsS93.set_0 | apply IsS93.set_1 | apply IsS93.set_2) | exact HI0.out), by repeat (first | (with_reducible first | exact HB.out | apply below_alloc | apply pw_below_drewN | apply below_drew1 | refine below_set ?_ (IsS93.ge HI0.out)) | exact HB.out), by repeat (first | (with_reducible first | exact HK.out | apply KeepBut.set_ | apply keep_drewN | apply keep_drew | apply keep_alloc) | exact HK.out)⟩
  · rw [if_neg c3] at H
    have c3b0 : decide (1099511627776 < t316) = false := decide_eq_false c3
    clear c3
    simp only [Option.some.injEq, Prod.mk.injEq] at H
    obtain ⟨rfl, rfl, rfl, rfl⟩ := H
    go_enter Tryd.func44, Tryd.ntmps44
    go_wp2_with (first | ((with_reducible refine gate_callee (f := 45) rfl ?_); refine goesL_ (some 5) rfl rfl Tryd.func45 (by kernel_rfl) rfl #[.pointer (some ⟨g, 0, none⟩)] rfl (by (try simp only [List.map_toArray, List.map_cons, List.map_nil]); first | done | rfl | (simp only [List.length_drop, List.length_take]; rfl)) ?_; (with_reducible refine (strataref12_cursor_number.calls g s0_0 s0_1 s0_2 t316 t317 t318 t319 w0 _ ?side1 ?side2 A2.out).mono ?_); (case side1 => repeat (first | (with_reducible first | exact HI0.out | apply IsS93.alloc | apply IsS93.drewN | apply IsS93.drew | apply IsS93.set_0 | apply IsS93.set_1 | apply IsS93.set_2) | exact HI0.out)); (case side2 => repeat (first | (with_reducible first | exact HB.out | apply below_alloc | apply pw_below_drewN | apply below_drew1 | refine below_set ?_ (IsS93.ge HI0.out)) | exact HB.out)); rintro e w5 ⟨rfl, hi, hb, hk⟩; refine ⟨_, rfl, ?_⟩; have n0_ := Aside0.mk (KeepBut.trans (by repeat (first | (with_reducible first | exact HK.out | apply KeepBut.set_ | apply keep_drewN | apply keep_drew | apply keep_alloc) | exact HK.out)) hk (.inl rfl)); have n1_ := Aside0.mk (hb); have n2_ := Aside0.mk (hi); clear HK; clear HB; clear HI0; have HK := n0_; have HB := n1_; have HI0 := n2_; clear n0_ n1_ n2_; (try clear hb); (try clear hb2); (try clear hk); (try clear hi)))
    go_ret
    exact ⟨by first | rfl | (simp [errW_none, errW_some] <;> rfl) | (simp [*, errW_none, errW_some] <;> rfl), by repeat (first | (with_reducible first | exact HI0.out | apply IsS93.alloc | apply IsS93.drewN | apply IsS93.drew | apply IsS93.set_0 | apply IsS93.set_1 | apply IsS93.set_2) | exact HI0.out), by repeat (first | (with_reducible first | exact HB.out | apply below_alloc | apply pw_below_drewN | apply below_drew1 | refine below_set ?_ (IsS93.ge HI0.out)) | exact HB.out), by repeat (first | (with_reducible first | exact HK.out | apply KeepBut.set_ | apply keep_drewN | apply keep_drew | apply keep_alloc) | exact HK.out)⟩
/-! ### strataref12_cursor_fixed: function 46 -/
def strataref12_cursor_fixed.f (s0_0 : ByteArray) (s0_1 : Int) (s0_2 : Bool) : Option (Int × ByteArray × Int × Bool) := (strataref01_ReadFixed32.f s0_0 s0_1).bind fun bt323 => (if bt323.2.2 = 0 then (if s0_2 = true then (some (0, s0_0, s0_1, true)) else (some (bt323.1, s0_0, bt323.2.1, s0_2))) else (some (0, s0_0, s0_1, true)))
set_option maxHeartbeats 8000000 in
set_option maxRecDepth 100000 in
theorem strataref12_cursor_fixed.calls (g : Nat) (s0_0 : ByteArray) (s0_1 : Int) (s0_2 : Bool) (r1 : Int) (r2 : ByteArray) (r3 : Int) (r4 : Bool) (w0 w : World) (hI : IsS93 w0 w g s0_0 s0_1 s0_2) (hB : Below w0.heap.size w0 w) (h : strataref12_cursor_fixed.f s0_0 s0_1 s0_2 = some (r1, r2, r3, r4)) :
    Calls Tryd.prog 46 #[.pointer (some ⟨g, 0, none⟩)] w fun e w' => e = .returned (.int .u32 r1) ∧ IsS93 w0 w' g r2 r3 r4 ∧ Below w0.heap.size w0 w' ∧ KeepBut w w' g none := by
  have HI0 := Aside0.mk hI
  have HK := Aside0.mk (KeepBut.refl w g none)
  have HL := Aside0.mk hB.size
  clear hI
  have HW0 := Aside0.mk hB.size
  have HB := Aside0.mk hB
  clear hB
  have H : ((strataref01_ReadFixed32.f s0_0 s0_1).bind fun bt323 => (if bt323.2.2 = 0 then (if s0_2 = true then (some (0, s0_0, s0_1, true)) else (some (bt323.1, s0_0, bt323.2.1, s0_2))) else (some (0, s0_0, s0_1, true)))) = some (r1, r2, r3, r4) := h
  clear h
  replace H := Option.bind_eq_some_iff.mp H
  obtain ⟨⟨t323, t324, t325⟩, A20, H⟩ := H
  replace H : (if t325 = 0 then (if s0_2 = true then (some (0, s0_0, s0_1, true)) else (some (t323, s0_0, t324, s0_2))) else (some (0, s0_0, s0_1, true))) = some (r1, r2, r3, r4) := H
  have A2 := Aside0.mk A20
  clear A20
  by_cases c3 : t325 = 0
  · rw [if_pos c3] at H
    have c3b0 : (t325 == 0) = true := beq_iff_eq.mpr c3
    have c3b1 : (t325 != 0) = false := bne_eq_false_iff_eq.mpr c3
    clear c3
    by_cases c4 : s0_2 = true
    · subst c4
      have H1 : (some (0, s0_0, s0_1, true)) = some (r1, r2, r3, r4) := by rw [if_pos rfl] at H; exact H
      clear H
      have H := H1
      clear H1
      simp only [Option.some.injEq, Prod.mk.injEq] at H
      obtain ⟨rfl, rfl, rfl, rfl⟩ := H
      obtain ⟨HGz5, hgz5⟩ := HI0.out
      have hcz5_0 := cellS93_0 HGz5
      have hcz5_1 := cellS93_1 HGz5
      have hcz5_2 := cellS93_2 HGz5
      have hfz5_0 := blk_frozen HGz5 0
      have hfz5_1 := blk_frozen HGz5 1
      have hfz5_2 := blk_frozen HGz5 2
      clear HGz5 hgz5
      go_enter Tryd.func46, Tryd.ntmps46
      go_wp2_with (first | (go_at_call 72; (with_reducible refine (strataref01_ReadFixed32.calls s0_0 s0_1 t323 t324 t325 _ A2.out).mono ?_); rintro e w' ⟨rfl, ⟨nd, rfl⟩⟩; (try first | exact ⟨rfl, _, World.drewN_drewN _ _ _⟩ | exact ⟨rfl, _, Eq.trans (World.drewN_drewN _ _ _) (congrArg (World.drewN _) (Nat.add_assoc _ _ _))⟩)))
      repeat (go_quiet (first | (go_at_call 72; (with_reducible refine (strataref01_ReadFixed32.calls s0_0 s0_1 t323 t324 t325 _ A2.out).mono ?_); rintro e w' ⟨rfl, ⟨nd, rfl⟩⟩; (try first | exact ⟨rfl, _, World.drewN_drewN _ _ _⟩ | exact ⟨rfl, _, Eq.trans (World.drewN_drewN _ _ _) (congrArg (World.drewN _) (Nat.add_assoc _ _ _))⟩))); try go_wp2_with (first | (go_at_call 72; (with_reducible refine (strataref01_ReadFixed32.calls s0_0 s0_1 t323 t324 t325 _ A2.out).mono ?_); rintro e w' ⟨rfl, ⟨nd, rfl⟩⟩; (try first | exact ⟨rfl, _, World.drewN_drewN _ _ _⟩ | exact ⟨rfl, _, Eq.trans (World.drewN_drewN _ _ _) (congrArg (World.drewN _) (Nat.add_assoc _ _ _))⟩))))
      go_ret
      exact ⟨by first | rfl | (simp [errW_none, errW_some] <;> rfl) | (simp [*, errW_none, errW_some] <;> rfl), by repeat (first | (with_reducible first | exact HI0.out | apply IsS93.alloc | apply IsS93.drewN | apply IsS93.drew | apply IsS93.set_0 | apply IsS93.set_1 | apply IsS93.set_2) | exact HI0.out), by repeat (first | (with_reducible first | exact HB.out | apply below_alloc | apply pw_below_drewN | apply below_drew1 | refine below_set ?_ (IsS93.ge HI0.out)) | exact HB.out), by repeat (first | (with_reducible first | exact HK.out | apply KeepBut.set_ | apply keep_drewN | apply keep_drew | apply keep_alloc) | exact HK.out)⟩
    · replace c4 := Bool.eq_false_iff.mpr c4
      subst c4
      have H1 : (some (t323, s0_0, t324, false)) = some (r1, r2, r3, r4) := by rw [if_neg (show ¬ (false = true) by decide)] at H; exact H
      clear H
      have H := H1
      clear H1
      simp only [Option.some.injEq, Prod.mk.injEq] at H
      obtain ⟨rfl, rfl, rfl, rfl⟩ := H
      obtain ⟨HGz6, hgz6⟩ := HI0.out
      have hcz6_0 := cellS93_0 HGz6
      have hcz6_1 := cellS93_1 HGz6
      have hcz6_2 := cellS93_2 HGz6
      have hfz6_0 := blk_frozen HGz6 0
      have hfz6_1 := blk_frozen HGz6 1
      have hfz6_2 := blk_frozen HGz6 2
      clear HGz6 hgz6
      go_enter Tryd.func46, Tryd.ntmps46
      go_wp2_with (first | (go_at_call 72; (with_reducible refine (strataref01_ReadFixed32.calls s0_0 s0_1 t323 t324 t325 _ A2.out).mono ?_); rintro e w' ⟨rfl, ⟨nd, rfl⟩⟩; (try first | exact ⟨rfl, _, World.drewN_drewN _ _ _⟩ | exact ⟨rfl, _, Eq.trans (World.drewN_drewN _ _ _) (congrArg (World.drewN _) (Nat.add_assoc _ _ _))⟩)))
      repeat (go_quiet (first | (go_at_call 72; (with_reducible refine (strataref01_ReadFixed32.calls s0_0 s0_1 t323 t324 t325 _ A2.out).mono ?_); rintro e w' ⟨rfl, ⟨nd, rfl⟩⟩; (try first | exact ⟨rfl, _, World.drewN_drewN _ _ _⟩ | exact ⟨rfl, _, Eq.trans (World.drewN_drewN _ _ _) (congrArg (World.drewN _) (Nat.add_assoc _ _ _))⟩))); try go_wp2_with (first | (go_at_call 72; (with_reducible refine (strataref01_ReadFixed32.calls s0_0 s0_1 t323 t324 t325 _ A2.out).mono ?_); rintro e w' ⟨rfl, ⟨nd, rfl⟩⟩; (try first | exact ⟨rfl, _, World.drewN_drewN _ _ _⟩ | exact ⟨rfl, _, Eq.trans (World.drewN_drewN _ _ _) (congrArg (World.drewN _) (Nat.add_assoc _ _ _))⟩))))
      go_ret
      exact ⟨by first | rfl | (simp [errW_none, errW_some] <;> rfl) | (simp [*, errW_none, errW_some] <;> rfl), by repeat (first | (with_reducible first | exact HI0.out | apply IsS93.alloc | apply IsS93.drewN | apply IsS93.drew | apply IsS93.set_0 | apply IsS93.set_1 | apply IsS93.set_2) | exact HI0.out), by repeat (first | (with_reducible first | exact HB.out | apply below_alloc | apply pw_below_drewN | apply below_drew1 | refine below_set ?_ (IsS93.ge HI0.out)) | exact HB.out), by repeat (first | (with_reducible first | exact HK.out | apply KeepBut.set_ | apply keep_drewN | apply keep_drew | apply keep_alloc) | exact HK.out)⟩
  · rw [if_neg c3] at H
    have c3b0 : (t325 == 0) = false := beq_eq_false_iff_ne.mpr c3
    have c3b1 : (t325 != 0) = true := bne_iff_ne.mpr c3
    simp only [Option.some.injEq, Prod.mk.injEq] at H
    obtain ⟨rfl, rfl, rfl, rfl⟩ := H
    obtain ⟨HGz7, hgz7⟩ := HI0.out
    have hcz7_0 := cellS93_0 HGz7
    have hcz7_1 := cellS93_1 HGz7
    have hcz7_2 := cellS93_2 HGz7
    have hfz7_0 := blk_frozen HGz7 0
    have hfz7_1 := blk_frozen HGz7 1
    have hfz7_2 := blk_frozen HGz7 2
    clear HGz7 hgz7
    go_enter Tryd.func46, Tryd.ntmps46
    go_wp2_with (first | (go_at_call 72; (with_reducible refine (strataref01_ReadFixed32.calls s0_0 s0_1 t323 t324 t325 _ A2.out).mono ?_); rintro e w' ⟨rfl, ⟨nd, rfl⟩⟩; (try first | exact ⟨rfl, _, World.drewN_drewN _ _ _⟩ | exact ⟨rfl, _, Eq.trans (World.drewN_drewN _ _ _) (congrArg (World.drewN _) (Nat.add_assoc _ _ _))⟩)))
    repeat (go_quiet (first | (go_at_call 72; (with_reducible refine (strataref01_ReadFixed32.calls s0_0 s0_1 t323 t324 t325 _ A2.out).mono ?_); rintro e w' ⟨rfl, ⟨nd, rfl⟩⟩; (try first | exact ⟨rfl, _, World.drewN_drewN _ _ _⟩ | exact ⟨rfl, _, Eq.trans (World.drewN_drewN _ _ _) (congrArg (World.drewN _) (Nat.add_assoc _ _ _))⟩))); try go_wp2_with (first | (go_at_call 72; (with_reducible refine (strataref01_ReadFixed32.calls s0_0 s0_1 t323 t324 t325 _ A2.out).mono ?_); rintro e w' ⟨rfl, ⟨nd, rfl⟩⟩; (try first | exact ⟨rfl, _, World.drewN_drewN _ _ _⟩ | exact ⟨rfl, _, Eq.trans (World.drewN_drewN _ _ _) (congrArg (World.drewN _) (Nat.add_assoc _ _ _))⟩))))
    go_ret
    exact ⟨by first | rfl | (simp [errW_none, errW_some] <;> rfl) | (simp [*, errW_none, errW_some] <;> rfl), by repeat (first | (with_reducible first | exact HI0.out | apply IsS93.alloc | apply IsS93.drewN | apply IsS93.drew | apply IsS93.set_0 | apply IsS93.set_1 | apply IsS93.set_2) | exact HI0.out), by repeat (first | (with_reducible first | exact HB.out | apply below_alloc | apply pw_below_drewN | apply below_drew1 | refine below_set ?_ (IsS93.ge HI0.out)) | exact HB.out), by repeat (first | (with_reducible first | exact HK.out | apply KeepBut.set_ | apply keep_drewN | apply keep_drew | apply keep_alloc) | exact HK.out)⟩
end Go.Proofs.YtejjidggnnhgjaaDoor.PImg
/- The document's reading of a file of layer 12: its cursor, and what opens a file. -/
set_option linter.unusedVariables false
set_option linter.unusedSimpArgs false
namespace Go.Proofs.YtejjidggnnhgjaaDoor.HImF
open Go.RowKit Go.Proofs.YtejjidggnnhgjaaDoor.PImg Go.Proofs.YtejjidggnnhgjaaDoor.HBase Go.Proofs.YtejjidggnnhgjaaDoor.HBlob Go.Proofs.YtejjidggnnhgjaaDoor.HSum Go.Proofs.YtejjidggnnhgjaaDoor.HCk Go.Proofs.YtejjidggnnhgjaaDoor.HImgW Go.Proofs.YtejjidggnnhgjaaDoor.HImgR Go.Proofs.YtejjidggnnhgjaaDoor.HImgO Go.Proofs.YtejjidggnnhgjaaDoor.HImP Go.Proofs.YtejjidggnnhgjaaDoor.HImD Go.Proofs.YtejjidggnnhgjaaDoor.HImE Go.Proofs.YtejjidggnnhgjaaDoorW.PrintWords Go.Proofs.YtejjidggnnhgjaaDoorW.PrintLast Go.Proofs.YtejjidggnnhgjaaDoorW.PrintMore Go.Proofs.YtejjidggnnhgjaaDoor.HCore
theorem num_f (s : ByteArray) (c : Int × Bool) (hs : s.size ≤ 4611686018427387904) : strataref12_cursor_number.f s c.1 c.2 = some ((cn s c).1, s, (cn s c).2.1, (cn s c).2.2) := by
  have h1 : strataref01_ReadUvarint.f s c.1 = some (ruv s c.1) := by unfold strataref01_ReadUvarint.f; rw [if_pos hs]
  unfold strataref12_cursor_number.f
  rw [h1, Option.bind_some]
  unfold cn
  by_cases h : (ruv s c.1).2.2 = 0
  · rw [if_pos h]
    cases hb : c.2 with
    | true => rw [if_pos rfl, if_neg (fun h => by simp at h)]
    | false => rw [if_neg (by simp), if_pos ⟨h, rfl⟩]
  · rw [if_neg h, if_neg (fun g => h g.1)]
theorem small_f (s : ByteArray) (c : Int × Bool) (hs : s.size ≤ 4611686018427387904) : strataref12_cursor_small.f s c.1 c.2 = some ((cs s c).1, s, (cs s c).2.1, (cs s c).2.2) := by
  have hr := cn_rng s c
  unfold strataref12_cursor_small.f cs
  rw [num_f s c hs, Option.bind_some]
  simp only
  by_cases h : (cn s c).1 > 1099511627776
  · rw [if_pos h, if_pos h]
  · rw [if_neg h, if_neg h, w64 (by omega) (by omega)]
theorem fix_f (s : ByteArray) (c : Int × Bool) (hs : s.size ≤ 4611686018427387904) : strataref12_cursor_fixed.f s c.1 c.2 = some ((cf s c).1, s, (cf s c).2.1, (cf s c).2.2) := by
  have h1 : strataref01_ReadFixed32.f s c.1 = some (rfix s c.1 4) := by unfold strataref01_ReadFixed32.f; rw [if_pos hs]
  unfold strataref12_cursor_fixed.f
  rw [h1, Option.bind_some]
  unfold cf
  by_cases h : (rfix s c.1 4).2.2 = 0
  · rw [if_pos h]
    cases hb : c.2 with
    | true => rw [if_pos rfl, if_neg (fun h => by simp at h)]
    | false => rw [if_neg (by simp), if_pos ⟨h, rfl⟩]
  · rw [if_neg h, if_neg (fun g => h g.1)]
/-- A cursor over s, in block g. -/
abbrev Cu (w0 w : World) (g : Nat) (s : ByteArray) (c : Int × Bool) : Prop := IsS93 w0 w g s c.1 c.2
theorem num_any (g : Nat) (s : ByteArray) (c : Int × Bool) (w0 w : World) (hs : s.size ≤ 4611686018427387904) (h : Cu w0 w g s c) (hB : Below w0.heap.size w0 w) :
    Calls Tryd.prog 45 #[.pointer (some ⟨g, 0, none⟩)] w fun e w' => e = .returned (.int .u64 (cn s c).1) ∧ Cu w0 w' g s (cn s c).2 ∧ Below w0.heap.size w0 w' ∧ KeepBut w w' g none :=
  strataref12_cursor_number.calls g s c.1 c.2 _ _ _ _ w0 w h hB (num_f s c hs)
theorem small_any (g : Nat) (s : ByteArray) (c : Int × Bool) (w0 w : World) (hs : s.size ≤ 4611686018427387904) (h : Cu w0 w g s c) (hB : Below w0.heap.size w0 w) :
    Calls Tryd.prog 44 #[.pointer (some ⟨g, 0, none⟩)] w fun e w' => e = .returned (.int .i64 (cs s c).1) ∧ Cu w0 w' g s (cs s c).2 ∧ Below w0.heap.size w0 w' ∧ KeepBut w w' g none :=
  strataref12_cursor_small.calls g s c.1 c.2 _ _ _ _ w0 w h hB (small_f s c hs)
theorem fix_any (g : Nat) (s : ByteArray) (c : Int × Bool) (w0 w : World) (hs : s.size ≤ 4611686018427387904) (h : Cu w0 w g s c) (hB : Below w0.heap.size w0 w) :
    Calls Tryd.prog 46 #[.pointer (some ⟨g, 0, none⟩)] w fun e w' => e = .returned (.int .u32 (cf s c).1) ∧ Cu w0 w' g s (cf s c).2 ∧ Below w0.heap.size w0 w' ∧ KeepBut w w' g none :=
  strataref12_cursor_fixed.calls g s c.1 c.2 _ _ _ _ w0 w h hB (fix_f s c hs)
theorem ins_eq (b : ByteArray) (h : 12 ≤ b.size) : ins b = b.extract 8 (b.size - 4) := by
  apply ba_ext
  unfold ins
  rw [extract_list, extract_list, extract_list, List.drop_zero]
  simp only [Nat.sub_zero]
  rw [List.drop_take, List.take_take]
  congr 1
  omega
theorem pre_iff (b lt : ByteArray) (h : 12 ≤ b.size) (hl : lt.size = 8) : Lib.hasPrefix b.data.toList lt.data.toList = ((b.extract 0 8).toList == lt.toList) := by
  rw [toList_data, toList_data, extract_list, List.drop_zero, Nat.sub_zero]
  rw [Bool.eq_iff_iff, beq_iff_eq]
  unfold Lib.hasPrefix
  have e : lt.data.toList.length = 8 := by rw [size_list, hl]
  rw [List.isPrefixOf_iff_prefix, List.prefix_iff_eq_take, e]
  exact eq_comm
/-- What opens a file: its error, or a cursor at the head of its contents. -/
def Opens (w : World) (b lt : ByteArray) (e : Ending) (w' : World) : Prop :=
  Below w.heap.size w w' ∧ if opn b lt = 0 then ∃ g, e = .returned (.tuple #[.pointer (some ⟨g, 0, none⟩), .int .i64 0]) ∧ Cu w w' g (ins b) (0, false) else e = .returned (.tuple #[.pointer none, .int .i64 (opn b lt)])
theorem Opens.no {w w' : World} {b lt : ByteArray} {c : Int} (hb : Below w.heap.size w w') (h : opn b lt = c) (hc : c ≠ 0) : Opens w b lt (.returned (.tuple #[.pointer none, .int .i64 c])) w' := by
  subst h
  exact ⟨hb, by rw [if_neg hc]⟩
set_option maxRecDepth 100000 in
set_option maxHeartbeats 4000000 in
theorem opened_any (b lt : ByteArray) (w : World) (hb : b.size ≤ 140737488355328) (hl : lt.size = 8) :
    Calls Tryd.prog 43 #[.string b, .string lt] w fun e w' => Opens w b lt e w' := by
  by_cases h1 : b.size < 12
  · have HO := Aside0.mk (Opens.no (w := w) (b := b) (lt := lt) (c := 123) (Below.refl _ w) (by unfold opn; rw [if_pos h1]) (by decide))
    have k1 : decide ((b.size : Int) < 12) = true := decide_eq_true (by omega)
    have k2 : decide (b.size < 12) = true := decide_eq_true h1
    clear h1
    go_enter Tryd.func43, Tryd.ntmps43
    go_wp2
    go_ret2
    exact HO.out
  · have h12 : 12 ≤ b.size := by omega
    have k1 : decide ((b.size : Int) < 12) = false := decide_eq_false (by omega)
    have k2 : decide (b.size < 12) = false := decide_eq_false h1
    have hp := pre_iff b lt h12 hl
    cases hx : ((b.extract 0 8).toList == lt.toList)
    · rw [hx] at hp
      have HO := Aside0.mk (Opens.no (w := w) (b := b) (lt := lt) (c := 122) (Below.refl _ w) (by unfold opn; rw [if_neg h1, if_pos hp]) (by decide))
      clear h1 hp
      go_enter Tryd.func43, Tryd.ntmps43
      go_wp2
      go_ret2
      exact HO.out
    · rw [hx] at hp
      have hp' : ¬ Lib.hasPrefix b.data.toList lt.data.toList = false := by rw [hp]; decide
      have z1 : (b.extract 0 (b.size - 4)).size = b.size - 4 := ext_size0 _ _ (by omega)
      have t1 : ((b.size : Int) - 4).toNat = b.size - 4 := by omega
      obtain ⟨K, hK⟩ : ∃ K, strataref12_Sum.f K (b.extract 0 (b.size - 4)) = some (ck (b.extract 0 (b.size - 4))) := ⟨_, sum_is _ (by omega) (10 * (b.extract 0 (b.size - 4)).size + 3) (by omega)⟩
      have C1 := Aside0.mk hK
      have F1 : Aside0 (strataref01_Fixed32.f (ck (b.extract 0 (b.size - 4))) = some (fxb 4 (ck (b.extract 0 (b.size - 4))))) := ⟨by have := ck_rng (b.extract 0 (b.size - 4)); unfold strataref01_Fixed32.f; rw [if_pos this]⟩
      have HI := Aside0.mk (ins_eq b h12)
      have HOpn : Aside0 (opn b lt = if (fxb 4 (ck (b.extract 0 (b.size - 4)))).toList = (b.extract (b.size - 4) b.size).toList then 0 else 124) := ⟨by unfold opn; rw [if_neg h1, if_neg hp']⟩
      clear h1 hp hp' hK
      go_enter Tryd.func43, Tryd.ntmps43
      go_upto_region 6 with (fail)
      go_cut [25] (fun v25 wx => v25 = .bool (!((fxb 4 (ck (b.extract 0 (b.size - 4)))).toList == (b.extract (b.size - 4) b.size).toList)) ∧ Below w.heap.size w wx)
      case first =>
        go_region_with (first | (go_at_call 66; refine (strataref12_Sum.calls _ _ _ _ C1.out).mono ?_; rintro e wS ⟨rfl, hb1⟩; have HB1 := Aside0.mk (below_then (below_drew (Below.refl w.heap.size w)) (Nat.le_refl _) hb1); clear hb1) | (go_at_call 36; refine (strataref01_Fixed32.calls _ _ _ F1.out).mono ?_; rintro e wF ⟨rfl, hb2⟩; have HB2 := Aside0.mk (below_then HB1.out HB1.out.size hb2); clear hb2))
        all_goals (go_wp2_with fail; go_meet; case rel => exact ⟨rfl, HB2.out⟩)
      obtain ⟨rfl, hB⟩ := hcut
      have HB := Aside0.mk hB
      clear hB
      cases hx2 : ((fxb 4 (ck (b.extract 0 (b.size - 4)))).toList == (b.extract (b.size - 4) b.size).toList)
      · have HO := Aside0.mk (Opens.no (w := w) (b := b) (lt := lt) (c := 124) HB.out (by rw [HOpn.out, if_neg (beq_eq_false_iff_ne.1 hx2)]) (by decide))
        go_wp2
        go_ret2
        exact HO.out
      · have HO : Aside0 (opn b lt = 0) := ⟨by rw [HOpn.out, if_pos (beq_iff_eq.1 hx2)]⟩
        rw [show (b.size : Int) - 4 = ((b.size - 4 : Nat) : Int) by omega]
        clear t1
        obtain ⟨n, hn⟩ : ∃ n, n = b.size - 4 := ⟨_, rfl⟩
        rw [← hn]
        rw [← hn] at HI
        have q1 : 8 ≤ n := by omega
        have q2 : n ≤ b.size := by omega
        have hsl : ∀ W : World, (Instr.slice 9 (.string b) (some (.int .i64 8)) (some (.int .i64 (n : Int))) none).run Tryd.prog W = .ok (.string (b.extract 8 n)) W := fun W => run_slice_string W 9 b .i64 .i64 8 (n : Int) Tryd.underlying9 (by omega) (by omega) (by omega)
        clear hn z1
        go_wp2
        go_ret2
        refine ⟨below_alloc HB.out _, ?_⟩
        rw [if_pos HO.out]
        exact ⟨_, rfl, by rw [HI.out]; exact heap_alloc_new _ _, HB.out.size⟩
end Go.Proofs.YtejjidggnnhgjaaDoor.HImF
/- Reading a file of layer 12 strictly, step by step: what each of the reader's calls leaves, and what stands while the records are gathered. -/
set_option linter.unusedVariables false
set_option linter.unusedSimpArgs false
namespace Go.Proofs.YtejjidggnnhgjaaDoor.HImR2
open Go.RowKit Go.Proofs.YtejjidggnnhgjaaDoor.PImg Go.Proofs.YtejjidggnnhgjaaDoor.HBase Go.Proofs.YtejjidggnnhgjaaDoor.HBlob Go.Proofs.YtejjidggnnhgjaaDoor.HSum Go.Proofs.YtejjidggnnhgjaaDoor.HCk Go.Proofs.YtejjidggnnhgjaaDoor.HImgW Go.Proofs.YtejjidggnnhgjaaDoor.HImgR Go.Proofs.YtejjidggnnhgjaaDoor.HImgO Go.Proofs.YtejjidggnnhgjaaDoor.HImP Go.Proofs.YtejjidggnnhgjaaDoor.HImD Go.Proofs.YtejjidggnnhgjaaDoorW.PrintWords Go.Proofs.YtejjidggnnhgjaaDoorW.PrintLast Go.Proofs.YtejjidggnnhgjaaDoorW.PrintMore Go.Proofs.YtejjidggnnhgjaaDoor.HCore
theorem num_ok (g : Nat) (s : ByteArray) (p : Int) (w : World) (h : w.heap[g]? = some (Rd s p)) (hs : s.size ≤ 4611686018427387904) (most v q : Int) (hr : nm s p most = some (v, q)) :
    Calls Tryd.prog 40 #[.pointer (some ⟨g, 0, none⟩), .int .u64 most] w fun e w' => e = .returned (.int .u64 v) ∧ Turn g w w' ∧ w'.heap[g]? = some (Rd s q) := by
  unfold nm at hr
  split at hr
  · rename_i hc
    obtain ⟨rfl, rfl⟩ := Prod.mk.inj (Option.some.inj hr)
    exact number_ok g s p w h hs most _ _ _ rfl hc
  · cases hr
theorem num_gone (g : Nat) (s : ByteArray) (p : Int) (w : World) (h : w.heap[g]? = some (Rd s p)) (hs : s.size ≤ 4611686018427387904) (most : Int) (hr : nm s p most = none) :
    Calls Tryd.prog 40 #[.pointer (some ⟨g, 0, none⟩), .int .u64 most] w fun e w' => e = gives ∧ Drawn0 w w' := by
  unfold nm at hr
  split at hr
  · cases hr
  · rename_i hc
    exact number_gone g s p w h hs most _ _ _ rfl hc
theorem smm_ok (g : Nat) (s : ByteArray) (p : Int) (w : World) (h : w.heap[g]? = some (Rd s p)) (hs : s.size ≤ 4611686018427387904) (v q : Int) (hr : sm s p = some (v, q)) :
    Calls Tryd.prog 41 #[.pointer (some ⟨g, 0, none⟩)] w fun e w' => e = .returned (.int .u32 v) ∧ Turn g w w' ∧ w'.heap[g]? = some (Rd s q) := by
  unfold sm at hr
  split at hr
  · rename_i hc
    obtain ⟨rfl, rfl⟩ := Prod.mk.inj (Option.some.inj hr)
    exact sum_ok g s p w h hs _ _ _ rfl hc
  · cases hr
theorem smm_gone (g : Nat) (s : ByteArray) (p : Int) (w : World) (h : w.heap[g]? = some (Rd s p)) (hs : s.size ≤ 4611686018427387904) (hr : sm s p = none) :
    Calls Tryd.prog 41 #[.pointer (some ⟨g, 0, none⟩)] w fun e w' => e = gives ∧ Drawn0 w w' := by
  unfold sm at hr
  split at hr
  · cases hr
  · rename_i hc
    exact sum_gone g s p w h hs _ _ _ rfl hc
/-- A call that does not come back, met in a region that draws its order: the walk there wants one way to go on; it is given one that is never gone. -/
theorem num_fake (g : Nat) (s : ByteArray) (p : Int) (w : World) (h : w.heap[g]? = some (Rd s p)) (hs : s.size ≤ 4611686018427387904) (most : Int) (hr : nm s p most = none) {S : Ending → World → Prop} (hR : ∀ wg, Drawn0 w wg → S (.panicked [{ v := gone, recovered := false }]) wg) (hk : Aside0 False → S (.returned (.int .u64 0)) w) :
    Calls Tryd.prog 40 #[.pointer (some ⟨g, 0, none⟩), .int .u64 most] w S := (num_gone g s p w h hs most hr).mono fun e w' hh => by obtain ⟨he, hd⟩ := hh; subst he; exact hR w' hd
/-- Two blocks alone have been written. -/
structure Two (a b : Nat) (w w' : World) : Prop where
  os : w'.os = w.os
  tape : w'.tape = w.tape
  output : w'.output = w.output
  size : w.heap.size ≤ w'.heap.size
  block : ∀ k, k < w.heap.size → k ≠ a → k ≠ b → w'.heap[k]? = w.heap[k]?
theorem Two.refl (a b : Nat) (w : World) : Two a b w w := ⟨rfl, rfl, rfl, Nat.le_refl _, fun _ _ _ _ => rfl⟩
/-- What stands while the records are read: the struct in block pb, the reader in rb; the records' row is not block nb. -/
structure St {X : Type} (d : Kd X) (E T : Nat) (w : World) (pb rb nb : Nat) (s : ByteArray) (p : Int) (cs : Array Value) (u : Value) (l : List X) (wr : World) : Prop where
  two : Two pb rb w wr
  pair : wr.heap[pb]? = some (.cells cs T (0, 0))
  rdr : wr.heap[rb]? = some (Rd s p)
  own : Kd.R d E wr w.heap.size (fun k => k ≠ nb) u l
  elp : ∃ o, w.heap[pb]? = some o
  elr : ∃ o, w.heap[rb]? = some o
  ne : pb ≠ rb
section
variable {X : Type} {d : Kd X} {E T : Nat} {w wr wr' : World} {pb rb nb : Nat} {s : ByteArray} {p q : Int} {cs : Array Value} {u : Value} {l : List X}
theorem St.below (h : St d E T w pb rb nb s p cs u l wr) (hb : Below wr.heap.size wr wr') : St d E T w pb rb nb s p cs u l wr' :=
  ⟨⟨hb.os.trans h.two.os, hb.tape.trans h.two.tape, hb.output.trans h.two.output, Nat.le_trans h.two.size hb.size, fun k hk ha hb2 => (hb.block k (Nat.lt_of_lt_of_le hk h.two.size)).trans (h.two.block k hk ha hb2)⟩, (hb.block _ (blk_lt h.pair)).trans h.pair, (hb.block _ (blk_lt h.rdr)).trans h.rdr, Kd.R_below h.own hb, h.elp, h.elr, h.ne⟩
theorem St.drawn (h : St d E T w pb rb nb s p cs u l wr) (hd : Drawn0 wr wr') : St d E T w pb rb nb s p cs u l wr' := h.below hd.below
theorem St.drew (h : St d E T w pb rb nb s p cs u l wr) : St d E T w pb rb nb s p cs u l wr.drew := h.below (below_drew (Below.refl _ _))
theorem St.drewN (h : St d E T w pb rb nb s p cs u l wr) (n : Nat) : St d E T w pb rb nb s p cs u l (wr.drewN n) := h.below (pw_below_drewN (Below.refl _ _) n)
theorem St.new (h : St d E T w pb rb nb s p cs u l wr) (o : Obj) : St d E T w pb rb wr.heap.size s p cs u l (wr.alloc o) := by
  have h2 := h.below (below_alloc (Below.refl _ _) o)
  exact ⟨h2.two, h2.pair, h2.rdr, Kd.R_alloc (Kd.R_mono (Kd.R_elderB h.own wr.heap.size (Nat.le_refl _)) (fun _ hk => hk.2)) o, h2.elp, h2.elr, h2.ne⟩
theorem St.free (h : St d E T w pb rb nb s p cs u l wr) : St d E T w pb rb rb s p cs u l wr := by
  obtain ⟨o, ho⟩ := h.elr
  exact ⟨h.two, h.pair, h.rdr, Kd.R_mono (Kd.R_newB h.own ho) (fun _ hk => hk.2), h.elp, h.elr, h.ne⟩
theorem St.reads (h : St d E T w pb rb nb s p cs u l wr) (ht : Turn rb wr wr') (hr : wr'.heap[rb]? = some (Rd s q)) : St d E T w pb rb nb s q cs u l wr' := by
  obtain ⟨o, ho⟩ := h.elr
  refine ⟨⟨ht.os.trans h.two.os, ht.tape.trans h.two.tape, ht.output.trans h.two.output, Nat.le_trans h.two.size ht.size, fun k hk ha hb => (ht.block k (Nat.lt_of_lt_of_le hk h.two.size) hb).trans (h.two.block k hk ha hb)⟩, ht.blk h.pair h.ne, hr, ?_, h.elp, h.elr, h.ne⟩
  exact Kd.R_mono (Kd.R_keep (Kd.R_newB h.own ho) (g := rb) ⟨ht.size, fun i hi hg _ => ht.block i hi hg⟩ (fun _ hk => hk.2)) (fun _ hk => hk.1)
theorem St.put (h : St d E T w pb rb nb s p cs u l wr) (j : Nat) (v : Value) : St d E T w pb rb nb s p (cs.setIfInBounds j v) u l (wr.setCell ⟨pb, j, none⟩ v) := by
  obtain ⟨o, ho⟩ := h.elp
  exact ⟨⟨h.two.os, h.two.tape, h.two.output, by simpa [World.setCell] using h.two.size, fun k hk ha hb => (Below.heap_setCell _ _ _ _ ha).trans (h.two.block k hk ha hb)⟩, blk_set h.pair j _, blk_far h.rdr (Ne.symm h.ne) _, Kd.R_mono (Kd.R_far (Kd.R_newB h.own ho) (fun _ hk => hk.2) _) (fun _ hk => hk.1), h.elp, h.elr, h.ne⟩
/-- A write into the block that the row is not. -/
theorem St.far (h : St d E T w pb rb nb s p cs u l wr) (hn : w.heap.size ≤ nb) (j : Nat) (v : Value) : St d E T w pb rb nb s p cs u l (wr.setCell ⟨nb, j, none⟩ v) := by
  obtain ⟨o1, h1⟩ := h.elp
  obtain ⟨o2, h2⟩ := h.elr
  have b1 := blk_lt h1
  have b2 := blk_lt h2
  exact ⟨⟨h.two.os, h.two.tape, h.two.output, by simpa [World.setCell] using h.two.size, fun k hk ha hb => (Below.heap_setCell _ _ _ _ (by show k ≠ nb; omega)).trans (h.two.block k hk ha hb)⟩,
    blk_far h.pair (by show pb ≠ nb; omega) _, blk_far h.rdr (by show rb ≠ nb; omega) _, Kd.R_far h.own (fun _ hk => hk) _, h.elp, h.elr, h.ne⟩
/-- A record appended and laid back. -/
theorem St.more (h : St d E T w pb rb nb s p cs u l wr) {u' : Value} {l' : List X} (hb : Below w.heap.size wr wr') (hg : wr.grownBy wr' u.ownBlock) (ho : Kd.R d E wr' w.heap.size (fun k => k ≠ nb) u' l') (j : Nat) :
    St d E T w pb rb nb s p (cs.setIfInBounds j u') u' l' (wr'.setCell ⟨pb, j, none⟩ u') := by
  obtain ⟨o1, h1⟩ := h.elp
  obtain ⟨o2, h2⟩ := h.elr
  have r1 := (hb.block _ (blk_lt h1)).trans h.pair
  have r2 := (hb.block _ (blk_lt h2)).trans h.rdr
  exact ⟨⟨hb.os.trans h.two.os, hb.tape.trans h.two.tape, hb.output.trans h.two.output, by simpa [World.setCell] using Nat.le_trans h.two.size hb.size, fun k hk ha hc => (Below.heap_setCell _ _ _ _ ha).trans ((hb.block k hk).trans (h.two.block k hk ha hc))⟩,
    blk_set r1 j _, blk_far r2 (Ne.symm h.ne) _, Kd.R_mono (Kd.R_far (Kd.R_newB ho h1) (fun _ hk => hk.2) _) (fun _ hk => hk.1), h.elp, h.elr, h.ne⟩
end
end Go.Proofs.YtejjidggnnhgjaaDoor.HImR2
namespace Go.Proofs.YtejjidggnnhgjaaDoor.PImg
open Go.RowKit Go.Proofs.YtejjidggnnhgjaaDoor.HBase Go.Proofs.YtejjidggnnhgjaaDoor.HBlob Go.Proofs.YtejjidggnnhgjaaDoor.HSum Go.Proofs.YtejjidggnnhgjaaDoor.HUv Go.Proofs.YtejjidggnnhgjaaDoorW.PrintWords Go.Proofs.YtejjidggnnhgjaaDoorW.PrintLast Go.Proofs.YtejjidggnnhgjaaDoorW.PrintMore
attribute [local go_sem] max2_int min2_int max_two min_two max_three min_three max_four min_four   -- for this text's walks alone
set_option linter.unusedVariables false
set_option linter.unusedSimpArgs false
/-! ### strataref12_nameMay: function 64 -/
mutual
def strataref12_nameMay.j0 : Nat → Bool → Int → Int → Int → List (S36) → Int → Int → Int → Int → Int → Int → Int → Int → Option (Bool)
  | 0, _, _, _, _, _, _, _, _, _, _, _, _, _ => none
  | k + 1, x36, x129000, x129001, x129002, x129003, x130000, x130001, x130002, x130003, x130004, x130005, x130006, x130007 => if x36 = true then (some false) else (if x130003 < 0 then (strataref12_nameMay.j1 k true x130000 x130001 x130002 x130003 x130004 x130005 x130006 x130007) else (if x130003 > 65536 then (strataref12_nameMay.j1 k true x130000 x130001 x130002 x130003 x130004 x130005 x130006 x130007) else (if x130004 < 0 then (strataref12_nameMay.j1 k true x130000 x130001 x130002 x130003 x130004 x130005 x130006 x130007) else (if x130004 > x129000 then (strataref12_nameMay.j1 k true x130000 x130001 x130002 x130003 x130004 x130005 x130006 x130007) else (if x130005 < 0 then (strataref12_nameMay.j1 k true x130000 x130001 x130002 x130003 x130004 x130005 x130006 x130007) else (strataref12_nameMay.j1 k (decide (x130005 > x130003)) x130000 x130001 x130002 x130003 x130004 x130005 x130006 x130007))))))
def strataref12_nameMay.j1 : Nat → Bool → Int → Int → Int → Int → Int → Int → Int → Int → Option (Bool)
  | 0, _, _, _, _, _, _, _, _, _ => none
  | k + 1, x68, x130000, x130001, x130002, x130003, x130004, x130005, x130006, x130007 => if x68 = true then (some false) else (if x130004 = 0 then (if x130005 = 0 then (some (x130007 == 0)) else (some false)) else (some (decide (x130005 > 0))))
end
def strataref12_nameMay.f (k : Nat) (a0_0 : Int) (a0_1 : Int) (a0_2 : Int) (l0_3 : List (S36)) (a1_0 : Int) (a1_1 : Int) (a1_2 : Int) (a1_3 : Int) (a1_4 : Int) (a1_5 : Int) (a1_6 : Int) (a1_7 : Int) (a2 : Int) : Option (Bool) := if a1_0 < 1 then (strataref12_nameMay.j0 k true a0_0 a0_1 a0_2 l0_3 a1_0 a1_1 a1_2 a1_3 a1_4 a1_5 a1_6 a1_7) else (if a1_0 ≥ a0_1 then (strataref12_nameMay.j0 k true a0_0 a0_1 a0_2 l0_3 a1_0 a1_1 a1_2 a1_3 a1_4 a1_5 a1_6 a1_7) else (if a1_1 < a2 then (strataref12_nameMay.j0 k true a0_0 a0_1 a0_2 l0_3 a1_0 a1_1 a1_2 a1_3 a1_4 a1_5 a1_6 a1_7) else (if a1_1 ≥ a1_2 then (strataref12_nameMay.j0 k true a0_0 a0_1 a0_2 l0_3 a1_0 a1_1 a1_2 a1_3 a1_4 a1_5 a1_6 a1_7) else (strataref12_nameMay.j0 k (decide (a1_2 > a0_2)) a0_0 a0_1 a0_2 l0_3 a1_0 a1_1 a1_2 a1_3 a1_4 a1_5 a1_6 a1_7))))
set_option maxHeartbeats 8000000 in
set_option maxRecDepth 100000 in
theorem strataref12_nameMay.calls (k : Nat) (a0_0 : Int) (a0_1 : Int) (a0_2 : Int) (A0_3 : Option Addr) (c0_3 : Nat) (l0_3 : List (S36)) (a1_0 : Int) (a1_1 : Int) (a1_2 : Int) (a1_3 : Int) (a1_4 : Int) (a1_5 : Int) (a1_6 : Int) (a1_7 : Int) (a2 : Int) (r : Bool) (w : World) (hr0_3 : Kd.C k36 w A0_3 l0_3.length l0_3) (hc0_3 : l0_3.length ≤ c0_3) (h : strataref12_nameMay.f k a0_0 a0_1 a0_2 l0_3 a1_0 a1_1 a1_2 a1_3 a1_4 a1_5 a1_6 a1_7 a2 = some r) :
    Calls Tryd.prog 64 #[.agg #[.int .i64 a0_0, .int .i64 a0_1, .int .u64 a0_2, .slice A0_3 l0_3.length c0_3], .agg #[.int .i64 a1_0, .int .u64 a1_1, .int .u64 a1_2, .int .i64 a1_3, .int .i64 a1_4, .int .i64 a1_5, .int .u32 a1_6, .int .u32 a1_7], .int .u64 a2] w fun e w' => e = .returned (.bool r) ∧ Below w.heap.size w w' := by
  have hu25 := Tryd.underlying25
  have hu36 := Tryd.underlying36
  have HR0_3 := Aside0.mk hr0_3
  have HC0_3 := Aside0.mk hc0_3
  clear hr0_3 hc0_3
  have HB := Aside0.mk (Below.refl w.heap.size w)
  have H : (if a1_0 < 1 then (strataref12_nameMay.j0 k true a0_0 a0_1 a0_2 l0_3 a1_0 a1_1 a1_2 a1_3 a1_4 a1_5 a1_6 a1_7) else (if a1_0 ≥ a0_1 then (strataref12_nameMay.j0 k true a0_0 a0_1 a0_2 l0_3 a1_0 a1_1 a1_2 a1_3 a1_4 a1_5 a1_6 a1_7) else (if a1_1 < a2 then (strataref12_nameMay.j0 k true a0_0 a0_1 a0_2 l0_3 a1_0 a1_1 a1_2 a1_3 a1_4 a1_5 a1_6 a1_7) else (if a1_1 ≥ a1_2 then (strataref12_nameMay.j0 k true a0_0 a0_1 a0_2 l0_3 a1_0 a1_1 a1_2 a1_3 a1_4 a1_5 a1_6 a1_7) else (strataref12_nameMay.j0 k (decide (a1_2 > a0_2)) a0_0 a0_1 a0_2 l0_3 a1_0 a1_1 a1_2 a1_3 a1_4 a1_5 a1_6 a1_7))))) = some r := h
  clear h
  have HC4 := Aside0.mk H
  clear H
  go_enter Tryd.func64, Tryd.ntmps64
  go_upto_region 1 with (first | ((with_reducible refine gate_dst (N := 3) rfl ?_); refine box_event ?hg (N := 3) ?hd (cs := #[.int .i64 a0_0, .int .i64 a0_1, .int .u64 a0_2, .slice A0_3 l0_3.length c0_3]) (t := 25) ?hr ?_; (case hd => rfl); (case hg => rfl); (case hr => first | (go_simp; done) | (go_simp; rfl)); intro gb128 hg w5 hbox hb; have n0_ := Aside0.mk (below_step (by repeat (first | (with_reducible first | exact HB.out | apply below_alloc | apply pw_below_drewN | apply below_drew1) | exact HB.out)) hb); have n1_ := Aside0.mk (hbox); have n2_ := Aside0.mk ((by rw [hg]; exact (below_size (by repeat (first | (with_reducible first | exact HB.out | apply below_alloc | apply pw_below_drewN | apply below_drew1) | exact HB.out))) : w.heap.size ≤ gb128)); have n3_ := Aside0.mk ((by rw [hg]; exact (below_size (by repeat (first | (with_reducible first | exact HB.out | apply below_alloc | apply pw_below_drewN | apply below_drew1) | exact HB.out))) : w.heap.size ≤ gb128)); clear HB; have HB := n0_; have BK128 := n1_; have GW128 := n2_; have GE128 := n3_; clear n0_ n1_ n2_ n3_; clear hb hbox hg) | ((with_reducible refine gate_dst (N := 4) rfl ?_); refine box_event ?hg (N := 4) ?hd (cs := #[.int .i64 a1_0, .int .u64 a1_1, .int .u64 a1_2, .int .i64 a1_3, .int .i64 a1_4, .int .i64 a1_5, .int .u32 a1_6, .int .u32 a1_7]) (t := 36) ?hr ?_; (case hd => rfl); (case hg => rfl); (case hr => first | (go_simp; done) | (go_simp; rfl)); intro gb129 hg w6 hbox hb; have n0_ := Aside0.mk (blk_below (g := gb128) (o := .cells #[.int .i64 a0_0, .int .i64 a0_1, .int .u64 a0_2, .slice A0_3 l0_3.length c0_3] 25 (0, 0)) (by (with_reducible repeat (first | refine blk_drewN ?_ _ | refine blk_drew ?_ | refine blk_alloc ?_ _)); exact BK128.out) hb); have n1_ := Aside0.mk (below_step (by repeat (first | (with_reducible first | exact HB.out | apply below_alloc | apply pw_below_drewN | apply below_drew1 | refine below_set ?_ GE128.out) | exact HB.out)) hb); have n2_ := Aside0.mk (hbox); have n3_ := Aside0.mk ((by rw [hg]; exact (below_size (by repeat (first | (with_reducible first | exact HB.out | apply below_alloc | apply pw_below_drewN | apply below_drew1 | refine below_set ?_ GE128.out) | exact HB.out))) : w.heap.size ≤ gb129)); have n4_ := Aside0.mk ((by rw [hg]; exact (below_size (by repeat (first | (with_reducible first | exact HB.out | apply below_alloc | apply pw_below_drewN | apply below_drew1 | refine below_set ?_ GE128.out) | exact HB.out))) : w.heap.size ≤ gb129)); have n5_ := Aside0.mk ((by rw [hg]; exact Nat.ne_of_lt (blk_lt (g := gb128) (o := .cells #[.int .i64 a0_0, .int .i64 a0_1, .int .u64 a0_2, .slice A0_3 l0_3.length c0_3] 25 (0, 0)) (by (with_reducible repeat (first | refine blk_drewN ?_ _ | refine blk_drew ?_ | refine blk_alloc ?_ _)); exact BK128.out)) : gb128 ≠ gb129)); have n6_ := Aside0.mk ((by rw [hg]; exact Nat.ne_of_gt (blk_lt (g := gb128) (o := .cells #[.int .i64 a0_0, .int .i64 a0_1, .int .u64 a0_2, .slice A0_3 l0_3.length c0_3] 25 (0, 0)) (by (with_reducible repeat (first | refine blk_drewN ?_ _ | refine blk_drew ?_ | refine blk_alloc ?_ _)); exact BK128.out)) : gb129 ≠ gb128)); clear BK128; clear HB; have BK128 := n0_; have HB := n1_; have BK129 := n2_; have GW129 := n3_; have GE129 := n4_; have NB128_129 := n5_; have NB129_128 := n6_; clear n0_ n1_ n2_ n3_ n4_ n5_ n6_; clear hb hbox hg))
  (try simp only [Act.put, List.setIfInBounds_toArray, List.set_cons_zero, List.set_cons_succ])
  go_cut [36] (fun v36 wc => ∃ (kq : Nat) (x36_3 : Bool), v36 = .bool x36_3 ∧ Aside0 (strataref12_nameMay.j0 kq x36_3 a0_0 a0_1 a0_2 l0_3 a1_0 a1_1 a1_2 a1_3 a1_4 a1_5 a1_6 a1_7 = some r) ∧ Aside0 (kq ≤ k) ∧ Aside0 (wc.heap[gb128]? = some (.cells #[.int .i64 a0_0, .int .i64 a0_1, .int .u64 a0_2, (.slice A0_3 l0_3.length c0_3)] 25 (0, 0))) ∧ Aside0 (wc.heap[gb129]? = some (.cells #[.int .i64 a1_0, .int .u64 a1_1, .int .u64 a1_2, .int .i64 a1_3, .int .i64 a1_4, .int .i64 a1_5, .int .u32 a1_6, .int .u32 a1_7] 36 (0, 0))) ∧ Aside0 (Below w.heap.size w wc))
  case first =>
    have H := HC4.out
    clear HC4
    by_cases c7 : a1_0 < 1
    · rw [if_pos c7] at H
      have c7b0 : decide (a1_0 < 1) = true := decide_eq_true c7
      clear c7
      (first | rw [c7b0] | (simp only [i64_w, i32_w]; rw [c7b0]) | skip)
      have H' := Aside0.mk H
      clear H
      have hnb8 := NB129_128.out
      have hnc8 := NB128_129.out
      have hcz9_0 : w6.cell? ⟨gb129, 0, none⟩ = some (.int .i64 a1_0) := (blk_cell BK129.out 0).trans rfl
      have hcz9_1 : w6.cell? ⟨gb129, 1, none⟩ = some (.int .u64 a1_1) := (blk_cell BK129.out 1).trans rfl
      have hcz9_2 : w6.cell? ⟨gb129, 2, none⟩ = some (.int .u64 a1_2) := (blk_cell BK129.out 2).trans rfl
      have hcz9_3 : w6.cell? ⟨gb129, 3, none⟩ = some (.int .i64 a1_3) := (blk_cell BK129.out 3).trans rfl
      have hcz9_4 : w6.cell? ⟨gb129, 4, none⟩ = some (.int .i64 a1_4) := (blk_cell BK129.out 4).trans rfl
      have hcz9_5 : w6.cell? ⟨gb129, 5, none⟩ = some (.int .i64 a1_5) := (blk_cell BK129.out 5).trans rfl
      have hcz9_6 : w6.cell? ⟨gb129, 6, none⟩ = some (.int .u32 a1_6) := (blk_cell BK129.out 6).trans rfl
      have hcz9_7 : w6.cell? ⟨gb129, 7, none⟩ = some (.int .u32 a1_7) := (blk_cell BK129.out 7).trans rfl
      have hfz9_0 := blk_frozen BK129.out 0
      have hfz9_1 := blk_frozen BK129.out 1
      have hfz9_2 := blk_frozen BK129.out 2
      have hfz9_3 := blk_frozen BK129.out 3
      have hfz9_4 := blk_frozen BK129.out 4
      have hfz9_5 := blk_frozen BK129.out 5
      have hfz9_6 := blk_frozen BK129.out 6
      have hfz9_7 := blk_frozen BK129.out 7
      go_wp2
      go_meet
      case rel => exact ⟨_, (true), (by first | rfl | (simp; done) | (simp [*]; done)), H', ⟨by first | omega | exact Nat.le_refl _⟩, ⟨by (with_reducible repeat (first | refine blk_drewN ?_ _ | refine blk_drew ?_ | refine blk_alloc ?_ _)); exact BK128.out⟩, ⟨by (with_reducible repeat (first | refine blk_drewN ?_ _ | refine blk_drew ?_ | refine blk_alloc ?_ _)); exact BK129.out⟩, ⟨by repeat (first | (with_reducible first | exact HB.out | apply below_alloc | apply pw_below_drewN | apply below_drew1 | refine below_set ?_ GE128.out | refine below_set ?_ GE129.out) | exact HB.out)⟩⟩
    · rw [if_neg c7] at H
      have c7b0 : decide (a1_0 < 1) = false := decide_eq_false c7
      clear c7
      (first | rw [c7b0] | (simp only [i64_w, i32_w]; rw [c7b0]) | skip)
      by_cases c10 : a1_0 ≥ a0_1
      · rw [if_pos c10] at H
        have c10b0 : decide (a0_1 ≤ a1_0) = true := decide_eq_true c10
        clear c10
        have H' := Aside0.mk H
        clear H
        have hnb11 := NB129_128.out
        have hnc11 := NB128_129.out
        have hcz12_0 : w6.cell? ⟨gb129, 0, none⟩ = some (.int .i64 a1_0) := (blk_cell BK129.out 0).trans rfl
        have hcz12_1 : w6.cell? ⟨gb129, 1, none⟩ = some (.int .u64 a1_1) := (blk_cell BK129.out 1).trans rfl
        have hcz12_2 : w6.cell? ⟨gb129, 2, none⟩ = some (.int .u64 a1_2) := (blk_cell BK129.out 2).trans rfl
        have hcz12_3 : w6.cell? ⟨gb129, 3, none⟩ = some (.int .i64 a1_3) := (blk_cell BK129.out 3).trans rfl
        have hcz12_4 : w6.cell? ⟨gb129, 4, none⟩ = some (.int .i64 a1_4) := (blk_cell BK129.out 4).trans rfl
        have hcz12_5 : w6.cell? ⟨gb129, 5, none⟩ = some (.int .i64 a1_5) := (blk_cell BK129.out 5).trans rfl
        have hcz12_6 : w6.cell? ⟨gb129, 6, none⟩ = some (.int .u32 a1_6) := (blk_cell BK129.out 6).trans rfl
        have hcz12_7 : w6.cell? ⟨gb129, 7, none⟩ = some (.int .u32 a1_7) := (blk_cell BK129.out 7).trans rfl
        have hfz12_0 := blk_frozen BK129.out 0
        have hfz12_1 := blk_frozen BK129.out 1
        have hfz12_2 := blk_frozen BK129.out 2
        have hfz12_3 := blk_frozen BK129.out 3
        have hfz12_4 := blk_frozen BK129.out 4
        have hfz12_5 := blk_frozen BK129.out 5
        have hfz12_6 := blk_frozen BK129.out 6
        have hfz12_7 := blk_frozen BK129.out 7
        have hcz13_0 : w6.cell? ⟨gb128, 0, none⟩ = some (.int .i64 a0_0) := (blk_cell BK128.out 0).trans rfl
        have hcz13_1 : w6.cell? ⟨gb128, 1, none⟩ = some (.int .i64 a0_1) := (blk_cell BK128.out 1).trans rfl
        have hcz13_2 : w6.cell? ⟨gb128, 2, none⟩ = some (.int .u64 a0_2) := (blk_cell BK128.out 2).trans rfl
        have hcz13_3 : w6.cell? ⟨gb128, 3, none⟩ = some (.slice A0_3 l0_3.length c0_3) := (blk_cell BK128.out 3).trans rfl
        have hfz13_0 := blk_frozen BK128.out 0
        have hfz13_1 := blk_frozen BK128.out 1
        have hfz13_2 := blk_frozen BK128.out 2
        have hfz13_3 := blk_frozen BK128.out 3
        go_wp2
        go_meet
        case rel => exact ⟨_, (true), (by first | rfl | (simp; done) | (simp [*]; done)), H', ⟨by first | omega | exact Nat.le_refl _⟩, ⟨by (with_reducible repeat (first | refine blk_drewN ?_ _ | refine blk_drew ?_ | refine blk_alloc ?_ _)); exact BK128.out⟩, ⟨by (with_reducible repeat (first | refine blk_drewN ?_ _ | refine blk_drew ?_ | refine blk_alloc ?_ _)); exact BK129.out⟩, ⟨by repeat (first | (with_reducible first | exact HB.out | apply below_alloc | apply pw_below_drewN | apply below_drew1 | refine below_set ?_ GE128.out | refine below_set ?_ GE129.out) | exact HB.out)⟩⟩
      · rw [if_neg c10] at H
        have c10b0 : decide (a0_1 ≤ a1_0) = false := decide_eq_false c10
        clear c10
        by_cases c14 : a1_1 < a2
        · rw [if_pos c14] at H
          have c14b0 : decide (a1_1 < a2) = true := decide_eq_true c14
          clear c14
          have H' := Aside0.mk H
          clear H
          have hnb15 := NB129_128.out
          have hnc15 := NB128_129.out
          have hcz16_0 : w6.cell? ⟨gb129, 0, none⟩ = some (.int .i64 a1_0) := (blk_cell BK129.out 0).trans rfl
          have hcz16_1 : w6.cell? ⟨gb129, 1, none⟩ = some (.int .u64 a1_1) := (blk_cell BK129.out 1).trans rfl
          have hcz16_2 : w6.cell? ⟨gb129, 2, none⟩ = some (.int .u64 a1_2) := (blk_cell BK129.out 2).trans rfl
          have hcz16_3 : w6.cell? ⟨gb129, 3, none⟩ = some (.int .i64 a1_3) := (blk_cell BK129.out 3).trans rfl
          have hcz16_4 : w6.cell? ⟨gb129, 4, none⟩ = some (.int .i64 a1_4) := (blk_cell BK129.out 4).trans rfl
          have hcz16_5 : w6.cell? ⟨gb129, 5, none⟩ = some (.int .i64 a1_5) := (blk_cell BK129.out 5).trans rfl
          have hcz16_6 : w6.cell? ⟨gb129, 6, none⟩ = some (.int .u32 a1_6) := (blk_cell BK129.out 6).trans rfl
          have hcz16_7 : w6.cell? ⟨gb129, 7, none⟩ = some (.int .u32 a1_7) := (blk_cell BK129.out 7).trans rfl
          have hfz16_0 := blk_frozen BK129.out 0
          have hfz16_1 := blk_frozen BK129.out 1
          have hfz16_2 := blk_frozen BK129.out 2
          have hfz16_3 := blk_frozen BK129.out 3
          have hfz16_4 := blk_frozen BK129.out 4
          have hfz16_5 := blk_frozen BK129.out 5
          have hfz16_6 := blk_frozen BK129.out 6
          have hfz16_7 := blk_frozen BK129.out 7
          have hcz17_0 : w6.cell? ⟨gb128, 0, none⟩ = some (.int .i64 a0_0) := (blk_cell BK128.out 0).trans rfl
          have hcz17_1 : w6.cell? ⟨gb128, 1, none⟩ = some (.int .i64 a0_1) := (blk_cell BK128.out 1).trans rfl
          have hcz17_2 : w6.cell? ⟨gb128, 2, none⟩ = some (.int .u64 a0_2) := (blk_cell BK128.out 2).trans rfl
          have hcz17_3 : w6.cell? ⟨gb128, 3, none⟩ = some (.slice A0_3 l0_3.length c0_3) := (blk_cell BK128.out 3).trans rfl
          have hfz17_0 := blk_frozen BK128.out 0
          have hfz17_1 := blk_frozen BK128.out 1
          have hfz17_2 := blk_frozen BK128.out 2
          have hfz17_3 := blk_frozen BK128.out 3
          go_wp2
          go_meet
          case rel => exact ⟨_, (true), (by first | rfl | (simp; done) | (simp [*]; done)), H', ⟨by first | omega | exact Nat.le_refl _⟩, ⟨by (with_reducible repeat (first | refine blk_drewN ?_ _ | refine blk_drew ?_ | refine blk_alloc ?_ _)); exact BK128.out⟩, ⟨by (with_reducible repeat (first | refine blk_drewN ?_ _ | refine blk_drew ?_ | refine blk_alloc ?_ _)); exact BK129.out⟩, ⟨by repeat (first | (with_reducible first | exact HB.out | apply below_alloc | apply pw_below_drewN | apply below_drew1 | refine below_set ?_ GE128.out | refine below_set ?_ GE129.out) | exact HB.out)⟩⟩
        · rw [if_neg c14] at H
          have c14b0 : decide (a1_1 < a2) = false := decide_eq_false c14
          clear c14
          by_cases c18 : a1_1 ≥ a1_2
          · rw [if_pos c18] at H
            have c18b0 : decide (a1_2 ≤ a1_1) = true := decide_eq_true c18
            clear c18
            have H' := Aside0.mk H
            clear H
            have hnb19 := NB129_128.out
            have hnc19 := NB128_129.out
            have hcz20_0 : w6.cell? ⟨gb129, 0, none⟩ = some (.int .i64 a1_0) := (blk_cell BK129.out 0).trans rfl
            have hcz20_1 : w6.cell? ⟨gb129, 1, none⟩ = some (.int .u64 a1_1) := (blk_cell BK129.out 1).trans rfl
            have hcz20_2 : w6.cell? ⟨gb129, 2, none⟩ = some (.int .u64 a1_2) := (blk_cell BK129.out 2).trans rfl
            have hcz20_3 : w6.cell? ⟨gb129, 3, none⟩ = some (.int .i64 a1_3) := (blk_cell BK129.out 3).trans rfl
            have hcz20_4 : w6.cell? ⟨gb129, 4, none⟩ = some (.int .i64 a1_4) := (blk_cell BK129.out 4).trans rfl
            have hcz20_5 : w6.cell? ⟨gb129, 5, none⟩ = some (.int .i64 a1_5) := (blk_cell BK129.out 5).trans rfl
            have hcz20_6 : w6.cell? ⟨gb129, 6, none⟩ = some (.int .u32 a1_6) := (blk_cell BK129.out 6).trans rfl
            have hcz20_7 : w6.cell? ⟨gb129, 7, none⟩ = some (.int .u32 a1_7) := (blk_cell BK129.out 7).trans rfl
            have hfz20_0 := blk_frozen BK129.out 0
            have hfz20_1 := blk_frozen BK129.out 1
            have hfz20_2 := blk_frozen BK129.out 2
            have hfz20_3 := blk_frozen BK129.out 3
            have hfz20_4 := blk_frozen BK129.out 4
            have hfz20_5 := blk_frozen BK129.out 5
            have hfz20_6 := blk_frozen BK129.out 6
            have hfz20_7 := blk_frozen BK129.out 7
            have hcz21_0 : w6.cell? ⟨gb128, 0, none⟩ = some (.int .i64 a0_0) := (blk_cell BK128.out 0).trans rfl
            have hcz21_1 : w6.cell? ⟨gb128, 1, none⟩ = some (.int .i64 a0_1) := (blk_cell BK128.out 1).trans rfl
            have hcz21_2 : w6.cell? ⟨gb128, 2, none⟩ = some (.int .u64 a0_2) := (blk_cell BK128.out 2).trans rfl
            have hcz21_3 : w6.cell? ⟨gb128, 3, none⟩ = some (.slice A0_3 l0_3.length c0_3) := (blk_cell BK128.out 3).trans rfl
            have hfz21_0 := blk_frozen BK128.out 0
            have hfz21_1 := blk_frozen BK128.out 1
            have hfz21_2 := blk_frozen BK128.out 2
            have hfz21_3 := blk_frozen BK128.out 3
            go_wp2
            go_meet
            case rel => exact ⟨_, (true), (by first | rfl | (simp; done) | (simp [*]; done)), H', ⟨by first | omega | exact Nat.le_refl _⟩, ⟨by (with_reducible repeat (first | refine blk_drewN ?_ _ | refine blk_drew ?_ | refine blk_alloc ?_ _)); exact BK128.out⟩, ⟨by (with_reducible repeat (first | refine blk_drewN ?_ _ | refine blk_drew ?_ | refine blk_alloc ?_ _)); exact BK129.out⟩, ⟨by repeat (first | (with_reducible first | exact HB.out | apply below_alloc | apply pw_below_drewN | apply below_drew1 | refine below_set ?_ GE128.out | refine below_set ?_ GE129.out) | exact HB.out)⟩⟩
          · rw [if_neg c18] at H
            have c18b0 : decide (a1_2 ≤ a1_1) = false := decide_eq_false c18
            clear c18
            have H' := Aside0.mk H
            clear H
            have hnb22 := NB129_128.out
            have hnc22 := NB128_129.out
            have hcz23_0 : w6.cell? ⟨gb129, 0, none⟩ = some (.int .i64 a1_0) := (blk_cell BK129.out 0).trans rfl
            have hcz23_1 : w6.cell? ⟨gb129, 1, none⟩ = some (.int .u64 a1_1) := (blk_cell BK129.out 1).trans rfl
            have hcz23_2 : w6.cell? ⟨gb129, 2, none⟩ = some (.int .u64 a1_2) := (blk_cell BK129.out 2).trans rfl
            have hcz23_3 : w6.cell? ⟨gb129, 3, none⟩ = some (.int .i64 a1_3) := (blk_cell BK129.out 3).trans rfl
            have hcz23_4 : w6.cell? ⟨gb129, 4, none⟩ = some (.int .i64 a1_4) := (blk_cell BK129.out 4).trans rfl
            have hcz23_5 : w6.cell? ⟨gb129, 5, none⟩ = some (.int .i64 a1_5) := (blk_cell BK129.out 5).trans rfl
            have hcz23_6 : w6.cell? ⟨gb129, 6, none⟩ = some (.int .u32 a1_6) := (blk_cell BK129.out 6).trans rfl
            have hcz23_7 : w6.cell? ⟨gb129, 7, none⟩ = some (.int .u32 a1_7) := (blk_cell BK129.out 7).trans rfl
            have hfz23_0 := blk_frozen BK129.out 0
            have hfz23_1 := blk_frozen BK129.out 1
            have hfz23_2 := blk_frozen BK129.out 2
            have hfz23_3 := blk_frozen BK129.out 3
            have hfz23_4 := blk_frozen BK129.out 4
            have hfz23_5 := blk_frozen BK129.out 5
            have hfz23_6 := blk_frozen BK129.out 6
            have hfz23_7 := blk_frozen BK129.out 7
            have hcz24_0 : w6.cell? ⟨gb128, 0, none⟩ = some (.int .i64 a0_0) := (blk_cell BK128.out 0).trans rfl
            have hcz24_1 : w6.cell? ⟨gb128, 1, none⟩ = some (.int .i64 a0_1) := (blk_cell BK128.out 1).trans rfl
            have hcz24_2 : w6.cell? ⟨gb128, 2, none⟩ = some (.int .u64 a0_2) := (blk_cell BK128.out 2).trans rfl
            have hcz24_3 : w6.cell? ⟨gb128, 3, none⟩ = some (.slice A0_3 l0_3.length c0_3) := (blk_cell BK128.out 3).trans rfl
            have hfz24_0 := blk_frozen BK128.out 0
            have hfz24_1 := blk_frozen BK128.out 1
            have hfz24_2 := blk_frozen BK128.out 2
            have hfz24_3 := blk_frozen BK128.out 3
            go_wp2
            go_meet
            case rel => exact ⟨_, (decide (a1_2 > a0_2)), (by first | rfl | (simp; done) | (simp [*]; done)), H', ⟨by first | omega | exact Nat.le_refl _⟩, ⟨by (with_reducible repeat (first | refine blk_drewN ?_ _ | refine blk_drew ?_ | refine blk_alloc ?_ _)); exact BK128.out⟩, ⟨by (with_reducible repeat (first | refine blk_drewN ?_ _ | refine blk_drew ?_ | refine blk_alloc ?_ _)); exact BK129.out⟩, ⟨by repeat (first | (with_reducible first | exact HB.out | apply below_alloc | apply pw_below_drewN | apply below_drew1 | refine below_set ?_ GE128.out | refine below_set ?_ GE129.out) | exact HB.out)⟩⟩
  case rest =>
    clear HC4
    try clear c1
    try clear c2
    try clear p2
    try clear c6
    try clear c7
    try clear c7b0
    try clear c8
    try clear c10
    try clear c10b0
    try clear c11
    try clear c14
    try clear c14b0
    try clear c15
    try clear c18
    try clear c18b0
    try clear c19
    try clear c22
    try clear hcz12_0
    try clear hcz12_1
    try clear hcz12_2
    try clear hcz12_3
    try clear hcz12_4
    try clear hcz12_5
    try clear hcz12_6
    try clear hcz12_7
    try clear hcz13_0
    try clear hcz13_1
    try clear hcz13_2
    try clear hcz13_3
    try clear hcz16_0
    try clear hcz16_1
    try clear hcz16_2
    try clear hcz16_3
    try clear hcz16_4
    try clear hcz16_5
    try clear hcz16_6
    try clear hcz16_7
    try clear hcz17_0
    try clear hcz17_1
    try clear hcz17_2
    try clear hcz17_3
    try clear hcz20_0
    try clear hcz20_1
    try clear hcz20_2
    try clear hcz20_3
    try clear hcz20_4
    try clear hcz20_5
    try clear hcz20_6
    try clear hcz20_7
    try clear hcz21_0
    try clear hcz21_1
    try clear hcz21_2
    try clear hcz21_3
    try clear hcz23_0
    try clear hcz23_1
    try clear hcz23_2
    try clear hcz23_3
    try clear hcz23_4
    try clear hcz23_5
    try clear hcz23_6
    try clear hcz23_7
    try clear hcz24_0
    try clear hcz24_1
    try clear hcz24_2
    try clear hcz24_3
    try clear hcz9_0
    try clear hcz9_1
    try clear hcz9_2
    try clear hcz9_3
    try clear hcz9_4
    try clear hcz9_5
    try clear hcz9_6
    try clear hcz9_7
    try clear hfz12_0
    try clear hfz12_1
    try clear hfz12_2
    try clear hfz12_3
    try clear hfz12_4
    try clear hfz12_5
    try clear hfz12_6
    try clear hfz12_7
    try clear hfz13_0
    try clear hfz13_1
    try clear hfz13_2
    try clear hfz13_3
    try clear hfz16_0
    try clear hfz16_1
    try clear hfz16_2
    try clear hfz16_3
    try clear hfz16_4
    try clear hfz16_5
    try clear hfz16_6
    try clear hfz16_7
    try clear hfz17_0
    try clear hfz17_1
    try clear hfz17_2
    try clear hfz17_3
    try clear hfz20_0
    try clear hfz20_1
    try clear hfz20_2
    try clear hfz20_3
    try clear hfz20_4
    try clear hfz20_5
    try clear hfz20_6
    try clear hfz20_7
    try clear hfz21_0
    try clear hfz21_1
    try clear hfz21_2
    try clear hfz21_3
    try clear hfz23_0
    try clear hfz23_1
    try clear hfz23_2
    try clear hfz23_3
    try clear hfz23_4
    try clear hfz23_5
    try clear hfz23_6
    try clear hfz23_7
    try clear hfz24_0
    try clear hfz24_1
    try clear hfz24_2
    try clear hfz24_3
    try clear hfz9_0
    try clear hfz9_1
    try clear hfz9_2
    try clear hfz9_3
    try clear hfz9_4
    try clear hfz9_5
    try clear hfz9_6
    try clear hfz9_7
    obtain ⟨kq, x36_3, rfl, HA, HJ3, BK128, BK129, HB⟩ := hcut
    cases kq with
    | zero => exact absurd HA.out (by simp [strataref12_nameMay.j0])
    | succ kj3 =>
      have H := HA.out
      clear HA
      simp only [strataref12_nameMay.j0] at H
      by_cases c25 : x36_3 = true
      · subst c25
        have H1 : (some false) = some r := by rw [if_pos rfl] at H; exact H
        clear H
        have H := H1
        clear H1
        obtain rfl := Option.some.inj H
        go_wp2
        go_ret
        exact ⟨by first | rfl | (simp [errW_none, errW_some] <;> rfl) | (simp [*, errW_none, errW_some] <;> rfl), by repeat (first | (with_reducible first | exact HB.out | apply below_alloc | apply pw_below_drewN | apply below_drew1 | refine below_set ?_ GE128.out | refine below_set ?_ GE129.out) | exact HB.out)⟩
      · replace c25 := Bool.eq_false_iff.mpr c25
        subst c25
        have H1 : (if a1_3 < 0 then (strataref12_nameMay.j1 kj3 true a1_0 a1_1 a1_2 a1_3 a1_4 a1_5 a1_6 a1_7) else (if a1_3 > 65536 then (strataref12_nameMay.j1 kj3 true a1_0 a1_1 a1_2 a1_3 a1_4 a1_5 a1_6 a1_7) else (if a1_4 < 0 then (strataref12_nameMay.j1 kj3 true a1_0 a1_1 a1_2 a1_3 a1_4 a1_5 a1_6 a1_7) else (if a1_4 > a0_0 then (strataref12_nameMay.j1 kj3 true a1_0 a1_1 a1_2 a1_3 a1_4 a1_5 a1_6 a1_7) else (if a1_5 < 0 then (strataref12_nameMay.j1 kj3 true a1_0 a1_1 a1_2 a1_3 a1_4 a1_5 a1_6 a1_7) else (strataref12_nameMay.j1 kj3 (decide (a1_5 > a1_3)) a1_0 a1_1 a1_2 a1_3 a1_4 a1_5 a1_6 a1_7)))))) = some r := by rw [if_neg (show ¬ (false = true) by decide)] at H; exact H
        clear H
        have H := H1
        clear H1
        have HC26 := Aside0.mk H
        clear H
        go_upto_region 3 with (fail)
        go_cut [68] (fun v68 wc => ∃ (kq : Nat) (x68_25 : Bool), v68 = .bool x68_25 ∧ Aside0 (strataref12_nameMay.j1 kq x68_25 a1_0 a1_1 a1_2 a1_3 a1_4 a1_5 a1_6 a1_7 = some r) ∧ Aside0 (kq ≤ kj3) ∧ Aside0 (wc.heap[gb128]? = some (.cells #[.int .i64 a0_0, .int .i64 a0_1, .int .u64 a0_2, (.slice A0_3 l0_3.length c0_3)] 25 (0, 0))) ∧ Aside0 (wc.heap[gb129]? = some (.cells #[.int .i64 a1_0, .int .u64 a1_1, .int .u64 a1_2, .int .i64 a1_3, .int .i64 a1_4, .int .i64 a1_5, .int .u32 a1_6, .int .u32 a1_7] 36 (0, 0))) ∧ Aside0 (Below w.heap.size w wc))
        case first =>
          have H := HC26.out
          clear HC26
          by_cases c27 : a1_3 < 0
          · rw [if_pos c27] at H
            have c27b0 : decide (a1_3 < 0) = true := decide_eq_true c27
            clear c27
            (first | rw [c27b0] | (simp only [i64_w, i32_w]; rw [c27b0]) | skip)
            have H' := Aside0.mk H
            clear H
            have hnb28 := NB129_128.out
            have hnc28 := NB128_129.out
            have hcz29_0 : wc.cell? ⟨gb129, 0, none⟩ = some (.int .i64 a1_0) := (blk_cell BK129.out 0).trans rfl
            have hcz29_1 : wc.cell? ⟨gb129, 1, none⟩ = some (.int .u64 a1_1) := (blk_cell BK129.out 1).trans rfl
            have hcz29_2 : wc.cell? ⟨gb129, 2, none⟩ = some (.int .u64 a1_2) := (blk_cell BK129.out 2).trans rfl
            have hcz29_3 : wc.cell? ⟨gb129, 3, none⟩ = some (.int .i64 a1_3) := (blk_cell BK129.out 3).trans rfl
            have hcz29_4 : wc.cell? ⟨gb129, 4, none⟩ = some (.int .i64 a1_4) := (blk_cell BK129.out 4).trans rfl
            have hcz29_5 : wc.cell? ⟨gb129, 5, none⟩ = some (.int .i64 a1_5) := (blk_cell BK129.out 5).trans rfl
            have hcz29_6 : wc.cell? ⟨gb129, 6, none⟩ = some (.int .u32 a1_6) := (blk_cell BK129.out 6).trans rfl
            have hcz29_7 : wc.cell? ⟨gb129, 7, none⟩ = some (.int .u32 a1_7) := (blk_cell BK129.out 7).trans rfl
            have hfz29_0 := blk_frozen BK129.out 0
            have hfz29_1 := blk_frozen BK129.out 1
            have hfz29_2 := blk_frozen BK129.out 2
            have hfz29_3 := blk_frozen BK129.out 3
            have hfz29_4 := blk_frozen BK129.out 4
            have hfz29_5 := blk_frozen BK129.out 5
            have hfz29_6 := blk_frozen BK129.out 6
            have hfz29_7 := blk_frozen BK129.out 7
            go_wp2
            go_meet
            case rel => exact ⟨_, (true), (by first | rfl | (simp; done) | (simp [*]; done)), H', ⟨by have := HJ3.out; first | omega | exact Nat.le_refl _⟩, ⟨by (with_reducible repeat (first | refine blk_drewN ?_ _ | refine blk_drew ?_ | refine blk_alloc ?_ _)); exact BK128.out⟩, ⟨by (with_reducible repeat (first | refine blk_drewN ?_ _ | refine blk_drew ?_ | refine blk_alloc ?_ _)); exact BK129.out⟩, ⟨by repeat (first | (with_reducible first | exact HB.out | apply below_alloc | apply pw_below_drewN | apply below_drew1 | refine below_set ?_ GE128.out | refine below_set ?_ GE129.out) | exact HB.out)⟩⟩
          · rw [if_neg c27] at H
            have c27b0 : decide (a1_3 < 0) = false := decide_eq_false c27
            clear c27
            (first | rw [c27b0] | (simp only [i64_w, i32_w]; rw [c27b0]) | skip)
            by_cases c30 : a1_3 > 65536
            · rw [if_pos c30] at H
              have c30b0 : decide (65536 < a1_3) = true := decide_eq_true c30
              clear c30
              have H' := Aside0.mk H
              clear H
              have hnb31 := NB129_128.out
              have hnc31 := NB128_129.out
              have hcz32_0 : wc.cell? ⟨gb129, 0, none⟩ = some (.int .i64 a1_0) := (blk_cell BK129.out 0).trans rfl
              have hcz32_1 : wc.cell? ⟨gb129, 1, none⟩ = some (.int .u64 a1_1) := (blk_cell BK129.out 1).trans rfl
              have hcz32_2 : wc.cell? ⟨gb129, 2, none⟩ = some (.int .u64 a1_2) := (blk_cell BK129.out 2).trans rfl
              have hcz32_3 : wc.cell? ⟨gb129, 3, none⟩ = some (.int .i64 a1_3) := (blk_cell BK129.out 3).trans rfl
              have hcz32_4 : wc.cell? ⟨gb129, 4, none⟩ = some (.int .i64 a1_4) := (blk_cell BK129.out 4).trans rfl
              have hcz32_5 : wc.cell? ⟨gb129, 5, none⟩ = some (.int .i64 a1_5) := (blk_cell BK129.out 5).trans rfl
              have hcz32_6 : wc.cell? ⟨gb129, 6, none⟩ = some (.int .u32 a1_6) := (blk_cell BK129.out 6).trans rfl
              have hcz32_7 : wc.cell? ⟨gb129, 7, none⟩ = some (.int .u32 a1_7) := (blk_cell BK129.out 7).trans rfl
              have hfz32_0 := blk_frozen BK129.out 0
              have hfz32_1 := blk_frozen BK129.out 1
              have hfz32_2 := blk_frozen BK129.out 2
              have hfz32_3 := blk_frozen BK129.out 3
              have hfz32_4 := blk_frozen BK129.out 4
              have hfz32_5 := blk_frozen BK129.out 5
              have hfz32_6 := blk_frozen BK129.out 6
              have hfz32_7 := blk_frozen BK129.out 7
              go_wp2
              go_meet
              case rel => exact ⟨_, (true), (by first | rfl | (simp; done) | (simp [*]; done)), H', ⟨by have := HJ3.out; first | omega | exact Nat.le_refl _⟩, ⟨by (with_reducible repeat (first | refine blk_drewN ?_ _ | refine blk_drew ?_ | refine blk_alloc ?_ _)); exact BK128.out⟩, ⟨by (with_reducible repeat (first | refine blk_drewN ?_ _ | refine blk_drew ?_ | refine blk_alloc ?_ _)); exact BK129.out⟩, ⟨by repeat (first | (with_reducible first | exact HB.out | apply below_alloc | apply pw_below_drewN | apply below_drew1 | refine below_set ?_ GE128.out | refine below_set ?_ GE129.out) | exact HB.out)⟩⟩
            · rw [if_neg c30] at H
              have c30b0 : decide (65536 < a1_3) = false := decide_eq_false c30
              clear c30
              by_cases c33 : a1_4 < 0
              · rw [if_pos c33] at H
                have c33b0 : decide (a1_4 < 0) = true := decide_eq_true c33
                clear c33
                have H' := Aside0.mk H
                clear H
                have hnb34 := NB129_128.out
                have hnc34 := NB128_129.out
                have hcz35_0 : wc.cell? ⟨gb129, 0, none⟩ = some (.int .i64 a1_0) := (blk_cell BK129.out 0).trans rfl
                have hcz35_1 : wc.cell? ⟨gb129, 1, none⟩ = some (.int .u64 a1_1) := (blk_cell BK129.out 1).trans rfl
                have hcz35_2 : wc.cell? ⟨gb129, 2, none⟩ = some (.int .u64 a1_2) := (blk_cell BK129.out 2).trans rfl
                have hcz35_3 : wc.cell? ⟨gb129, 3, none⟩ = some (.int .i64 a1_3) := (blk_cell BK129.out 3).trans rfl
                have hcz35_4 : wc.cell? ⟨gb129, 4, none⟩ = some (.int .i64 a1_4) := (blk_cell BK129.out 4).trans rfl
                have hcz35_5 : wc.cell? ⟨gb129, 5, none⟩ = some (.int .i64 a1_5) := (blk_cell BK129.out 5).trans rfl
                have hcz35_6 : wc.cell? ⟨gb129, 6, none⟩ = some (.int .u32 a1_6) := (blk_cell BK129.out 6).trans rfl
                have hcz35_7 : wc.cell? ⟨gb129, 7, none⟩ = some (.int .u32 a1_7) := (blk_cell BK129.out 7).trans rfl
                have hfz35_0 := blk_frozen BK129.out 0
                have hfz35_1 := blk_frozen BK129.out 1
                have hfz35_2 := blk_frozen BK129.out 2
                have hfz35_3 := blk_frozen BK129.out 3
                have hfz35_4 := blk_frozen BK129.out 4
                have hfz35_5 := blk_frozen BK129.out 5
                have hfz35_6 := blk_frozen BK129.out 6
                have hfz35_7 := blk_frozen BK129.out 7
                go_wp2
                go_meet
                case rel => exact ⟨_, (true), (by first | rfl | (simp; done) | (simp [*]; done)), H', ⟨by have := HJ3.out; first | omega | exact Nat.le_refl _⟩, ⟨by (with_reducible repeat (first | refine blk_drewN ?_ _ | refine blk_drew ?_ | refine blk_alloc ?_ _)); exact BK128.out⟩, ⟨by (with_reducible repeat (first | refine blk_drewN ?_ _ | refine blk_drew ?_ | refine blk_alloc ?_ _)); exact BK129.out⟩, ⟨by repeat (first | (with_reducible first | exact HB.out | apply below_alloc | apply pw_below_drewN | apply below_drew1 | refine below_set ?_ GE128.out | refine below_set ?_ GE129.out) | exact HB.out)⟩⟩
              · rw [if_neg c33] at H
                have c33b0 : decide (a1_4 < 0) = false := decide_eq_false c33
                clear c33
                by_cases c36 : a1_4 > a0_0
                · rw [if_pos c36] at H
                  have c36b0 : decide (a0_0 < a1_4) = true := decide_eq_true c36
                  clear c36
                  have H' := Aside0.mk H
                  clear H
                  have hnb37 := NB129_128.out
                  have hnc37 := NB128_129.out
                  have hcz38_0 : wc.cell? ⟨gb129, 0, none⟩ = some (.int .i64 a1_0) := (blk_cell BK129.out 0).trans rfl
                  have hcz38_1 : wc.cell? ⟨gb129, 1, none⟩ = some (.int .u64 a1_1) := (blk_cell BK129.out 1).trans rfl
                  have hcz38_2 : wc.cell? ⟨gb129, 2, none⟩ = some (.int .u64 a1_2) := (blk_cell BK129.out 2).trans rfl
                  have hcz38_3 : wc.cell? ⟨gb129, 3, none⟩ = some (.int .i64 a1_3) := (blk_cell BK129.out 3).trans rfl
                  have hcz38_4 : wc.cell? ⟨gb129, 4, none⟩ = some (.int .i64 a1_4) := (blk_cell BK129.out 4).trans rfl
                  have hcz38_5 : wc.cell? ⟨gb129, 5, none⟩ = some (.int .i64 a1_5) := (blk_cell BK129.out 5).trans rfl
                  have hcz38_6 : wc.cell? ⟨gb129, 6, none⟩ = some (.int .u32 a1_6) := (blk_cell BK129.out 6).trans rfl
                  have hcz38_7 : wc.cell? ⟨gb129, 7, none⟩ = some (.int .u32 a1_7) := (blk_cell BK129.out 7).trans rfl
                  have hfz38_0 := blk_frozen BK129.out 0
                  have hfz38_1 := blk_frozen BK129.out 1
                  have hfz38_2 := blk_frozen BK129.out 2
                  have hfz38_3 := blk_frozen BK129.out 3
                  have hfz38_4 := blk_frozen BK129.out 4
                  have hfz38_5 := blk_frozen BK129.out 5
                  have hfz38_6 := blk_frozen BK129.out 6
                  have hfz38_7 := blk_frozen BK129.out 7
                  have hcz39_0 : wc.cell? ⟨gb128, 0, none⟩ = some (.int .i64 a0_0) := (blk_cell BK128.out 0).trans rfl
                  have hcz39_1 : wc.cell? ⟨gb128, 1, none⟩ = some (.int .i64 a0_1) := (blk_cell BK128.out 1).trans rfl
                  have hcz39_2 : wc.cell? ⟨gb128, 2, none⟩ = some (.int .u64 a0_2) := (blk_cell BK128.out 2).trans rfl
                  have hcz39_3 : wc.cell? ⟨gb128, 3, none⟩ = some (.slice A0_3 l0_3.length c0_3) := (blk_cell BK128.out 3).trans rfl
                  have hfz39_0 := blk_frozen BK128.out 0
                  have hfz39_1 := blk_frozen BK128.out 1
                  have hfz39_2 := blk_frozen BK128.out 2
                  have hfz39_3 := blk_frozen BK128.out 3
                  go_wp2
                  go_meet
                  case rel => exact ⟨_, (true), (by first | rfl | (simp; done) | (simp [*]; done)), H', ⟨by have := HJ3.out; first | omega | exact Nat.le_refl _⟩, ⟨by (with_reducible repeat (first | refine blk_drewN ?_ _ | refine blk_drew ?_ | refine blk_alloc ?_ _)); exact BK128.out⟩, ⟨by (with_reducible repeat (first | refine blk_drewN ?_ _ | refine blk_drew ?_ | refine blk_alloc ?_ _)); exact BK129.out⟩, ⟨by repeat (first | (with_reducible first | exact HB.out | apply below_alloc | apply pw_below_drewN | apply below_drew1 | refine below_set ?_ GE128.out | refine below_set ?_ GE129.out) | exact HB.out)⟩⟩
                · rw [if_neg c36] at H
                  have c36b0 : decide (a0_0 < a1_4) = false := decide_eq_false c36
                  clear c36
                  by_cases c40 : a1_5 < 0
                  · rw [if_pos c40] at H
                    have c40b0 : decide (a1_5 < 0) = true := decide_eq_true c40
                    clear c40
                    have H' := Aside0.mk H
                    clear H
                    have hnb41 := NB129_128.out
                    have hnc41 := NB128_129.out
                    have hcz42_0 : wc.cell? ⟨gb129, 0, none⟩ = some (.int .i64 a1_0) := (blk_cell BK129.out 0).trans rfl
                    have hcz42_1 : wc.cell? ⟨gb129, 1, none⟩ = some (.int .u64 a1_1) := (blk_cell BK129.out 1).trans rfl
                    have hcz42_2 : wc.cell? ⟨gb129, 2, none⟩ = some (.int .u64 a1_2) := (blk_cell BK129.out 2).trans rfl
                    have hcz42_3 : wc.cell? ⟨gb129, 3, none⟩ = some (.int .i64 a1_3) := (blk_cell BK129.out 3).trans rfl
                    have hcz42_4 : wc.cell? ⟨gb129, 4, none⟩ = some (.int .i64 a1_4) := (blk_cell BK129.out 4).trans rfl
                    have hcz42_5 : wc.cell? ⟨gb129, 5, none⟩ = some (.int .i64 a1_5) := (blk_cell BK129.out 5).trans rfl
                    have hcz42_6 : wc.cell? ⟨gb129, 6, none⟩ = some (.int .u32 a1_6) := (blk_cell BK129.out 6).trans rfl
                    have hcz42_7 : wc.cell? ⟨gb129, 7, none⟩ = some (.int .u32 a1_7) := (blk_cell BK129.out 7).trans rfl
                    have hfz42_0 := blk_frozen BK129.out 0
                    have hfz42_1 := blk_frozen BK129.out 1
                    have hfz42_2 := blk_frozen BK129.out 2
                    have hfz42_3 := blk_frozen BK129.out 3
                    have hfz42_4 := blk_frozen BK129.out 4
                    have hfz42_5 := blk_frozen BK129.out 5
                    have hfz42_6 := blk_frozen BK129.out 6
                    have hfz42_7 := blk_frozen BK129.out 7
                    have hcz43_0 : wc.cell? ⟨gb128, 0, none⟩ = some (.int .i64 a0_0) := (blk_cell BK128.out 0).trans rfl
                    have hcz43_1 : wc.cell? ⟨gb128, 1, none⟩ = some (.int .i64 a0_1) := (blk_cell BK128.out 1).trans rfl
                    have hcz43_2 : wc.cell? ⟨gb128, 2, none⟩ = some (.int .u64 a0_2) := (blk_cell BK128.out 2).trans rfl
                    have hcz43_3 : wc.cell? ⟨gb128, 3, none⟩ = some (.slice A0_3 l0_3.length c0_3) := (blk_cell BK128.out 3).trans rfl
                    have hfz43_0 := blk_frozen BK128.out 0
                    have hfz43_1 := blk_frozen BK128.out 1
                    have hfz43_2 := blk_frozen BK128.out 2
                    have hfz43_3 := blk_frozen BK128.out 3
                    go_wp2
                    go_meet
                    case rel => exact ⟨_, (true), (by first | rfl | (simp; done) | (simp [*]; done)), H', ⟨by have := HJ3.out; first | omega | exact Nat.le_refl _⟩, ⟨by (with_reducible repeat (first | refine blk_drewN ?_ _ | refine blk_drew ?_ | refine blk_alloc ?_ _)); exact BK128.out⟩, ⟨by (with_reducible repeat (first | refine blk_drewN ?_ _ | refine blk_drew ?_ | refine blk_alloc ?_ _)); exact BK129.out⟩, ⟨by repeat (first | (with_reducible first | exact HB.out | apply below_alloc | apply pw_below_drewN | apply below_drew1 | refine below_set ?_ GE128.out | refine below_set ?_ GE129.out) | exact HB.out)⟩⟩
                  · rw [if_neg c40] at H
                    have c40b0 : decide (a1_5 < 0) = false := decide_eq_false c40
                    clear c40
                    have H' := Aside0.mk H
                    clear H
                    have hnb44 := NB129_128.out
                    have hnc44 := NB128_129.out
                    have hcz45_0 : wc.cell? ⟨gb129, 0, none⟩ = some (.int .i64 a1_0) := (blk_cell BK129.out 0).trans rfl
                    have hcz45_1 : wc.cell? ⟨gb129, 1, none⟩ = some (.int .u64 a1_1) := (blk_cell BK129.out 1).trans rfl
                    have hcz45_2 : wc.cell? ⟨gb129, 2, none⟩ = some (.int .u64 a1_2) := (blk_cell BK129.out 2).trans rfl
                    have hcz45_3 : wc.cell? ⟨gb129, 3, none⟩ = some (.int .i64 a1_3) := (blk_cell BK129.out 3).trans rfl
                    have hcz45_4 : wc.cell? ⟨gb129, 4, none⟩ = some (.int .i64 a1_4) := (blk_cell BK129.out 4).trans rfl
                    have hcz45_5 : wc.cell? ⟨gb129, 5, none⟩ = some (.int .i64 a1_5) := (blk_cell BK129.out 5).trans rfl
                    have hcz45_6 : wc.cell? ⟨gb129, 6, none⟩ = some (.int .u32 a1_6) := (blk_cell BK129.out 6).trans rfl
                    have hcz45_7 : wc.cell? ⟨gb129, 7, none⟩ = some (.int .u32 a1_7) := (blk_cell BK129.out 7).trans rfl
                    have hfz45_0 := blk_frozen BK129.out 0
                    have hfz45_1 := blk_frozen BK129.out 1
                    have hfz45_2 := blk_frozen BK129.out 2
                    have hfz45_3 := blk_frozen BK129.out 3
                    have hfz45_4 := blk_frozen BK129.out 4
                    have hfz45_5 := blk_frozen BK129.out 5
                    have hfz45_6 := blk_frozen BK129.out 6
                    have hfz45_7 := blk_frozen BK129.out 7
                    have hcz46_0 : wc.cell? ⟨gb128, 0, none⟩ = some (.int .i64 a0_0) := (blk_cell BK128.out 0).trans rfl
                    have hcz46_1 : wc.cell? ⟨gb128, 1, none⟩ = some (.int .i64 a0_1) := (blk_cell BK128.out 1).trans rfl
                    have hcz46_2 : wc.cell? ⟨gb128, 2, none⟩ = some (.int .u64 a0_2) := (blk_cell BK128.out 2).trans rfl
                    have hcz46_3 : wc.cell? ⟨gb128, 3, none⟩ = some (.slice A0_3 l0_3.length c0_3) := (blk_cell BK128.out 3).trans rfl
                    have hfz46_0 := blk_frozen BK128.out 0
                    have hfz46_1 := blk_frozen BK128.out 1
                    have hfz46_2 := blk_frozen BK128.out 2
                    have hfz46_3 := blk_frozen BK128.out 3
                    go_wp2
                    go_meet
                    case rel => exact ⟨_, (decide (a1_5 > a1_3)), (by first | rfl | (simp; done) | (simp [*]; done)), H', ⟨by have := HJ3.out; first | omega | exact Nat.le_refl _⟩, ⟨by (with_reducible repeat (first | refine blk_drewN ?_ _ | refine blk_drew ?_ | refine blk_alloc ?_ _)); exact BK128.out⟩, ⟨by (with_reducible repeat (first | refine blk_drewN ?_ _ | refine blk_drew ?_ | refine blk_alloc ?_ _)); exact BK129.out⟩, ⟨by repeat (first | (with_reducible first | exact HB.out | apply below_alloc | apply pw_below_drewN | apply below_drew1 | refine below_set ?_ GE128.out | refine below_set ?_ GE129.out) | exact HB.out)⟩⟩
        case rest =>
          clear HC26
          try clear c1
          try clear c2
          try clear p2
          try clear c3
          try clear c4
          try clear c6
          try clear c7
          try clear c7b0
          try clear c8
          try clear c10
          try clear c10b0
          try clear c11
          try clear c14
          try clear c14b0
          try clear c15
          try clear c18
          try clear c18b0
          try clear c19
          try clear c22
          try clear c25
          try clear c27
          try clear c27b0
          try clear c28
          try clear c30
          try clear c30b0
          try clear c31
          try clear c33
          try clear c33b0
          try clear c34
          try clear c36
          try clear c36b0
          try clear c37
          try clear c40
          try clear c40b0
          try clear c41
          try clear c44
          try clear hcz12_0
          try clear hcz12_1
          try clear hcz12_2
          try clear hcz12_3
          try clear hcz12_4
          try clear hcz12_5
          try clear hcz12_6
          try clear hcz12_7
          try clear hcz13_0
          try clear hcz13_1
          try clear hcz13_2
          try clear hcz13_3
          try clear hcz16_0
          try clear hcz16_1
          try clear hcz16_2
          try clear hcz16_3
          try clear hcz16_4
          try clear hcz16_5
          try clear hcz16_6
          try clear hcz16_7
          try clear hcz17_0
          try clear hcz17_1
          try clear hcz17_2
          try clear hcz17_3
          try clear hcz20_0
          try clear hcz20_1
          try clear hcz20_2
          try clear hcz20_3
          try clear hcz20_4
          try clear hcz20_5
          try clear hcz20_6
          try clear hcz20_7
          try clear hcz21_0
          try clear hcz21_1
          try clear hcz21_2
          try clear hcz21_3
          try clear hcz23_0
          try clear hcz23_1
          try clear hcz23_2
          try clear hcz23_3
          try clear hcz23_4
          try clear hcz23_5
          try clear hcz23_6
          try clear hcz23_7
          try clear hcz24_0
          try clear hcz24_1
          try clear hcz24_2
          try clear hcz24_3
          try clear hcz29_0
          try clear hcz29_1
          try clear hcz29_2
          try clear hcz29_3
          try clear hcz29_4
          try clear hcz29_5
          try clear hcz29_6
          try clear hcz29_7
          try clear hcz32_0
          try clear hcz32_1
          try clear hcz32_2
          try clear hcz32_3
          try clear hcz32_4
          try clear hcz32_5
          try clear hcz32_6
          try clear hcz32_7
          try clear hcz35_0
          try clear hcz35_1
          try clear hcz35_2
          try clear hcz35_3
          try clear hcz35_4
          try clear hcz35_5
          try clear hcz35_6
          try clear hcz35_7
          try clear hcz38_0
          try clear hcz38_1
          try clear hcz38_2
          try clear hcz38_3
          try clear hcz38_4
          try clear hcz38_5
          try clear hcz38_6
          try clear hcz38_7
          try clear hcz39_0
          try clear hcz39_1
          try clear hcz39_2
          try clear hcz39_3
          try clear hcz42_0
          try clear hcz42_1
          try clear hcz42_2
          try clear hcz42_3
          try clear hcz42_4
          try clear hcz42_5
          try clear hcz42_6
          try clear hcz42_7
          try clear hcz43_0
          try clear hcz43_1
          try clear hcz43_2
          try clear hcz43_3
          try clear hcz45_0
          try clear hcz45_1
          try clear hcz45_2
          try clear hcz45_3
          try clear hcz45_4
          try clear hcz45_5
          try clear hcz45_6
          try clear hcz45_7
          try clear hcz46_0
          try clear hcz46_1
          try clear hcz46_2
          try clear hcz46_3
          try clear hcz9_0
          try clear hcz9_1
          try clear hcz9_2
          try clear hcz9_3
          try clear hcz9_4
          try clear hcz9_5
          try clear hcz9_6
          try clear hcz9_7
          try clear hfz12_0
          try clear hfz12_1
          try clear hfz12_2
          try clear hfz12_3
          try clear hfz12_4
          try clear hfz12_5
          try clear hfz12_6
          try clear hfz12_7
          try clear hfz13_0
          try clear hfz13_1
          try clear hfz13_2
          try clear hfz13_3
          try clear hfz16_0
          try clear hfz16_1
          try clear hfz16_2
          try clear hfz16_3
          try clear hfz16_4
          try clear hfz16_5
          try clear hfz16_6
          try clear hfz16_7
          try clear hfz17_0
          try clear hfz17_1
          try clear hfz17_2
          try clear hfz17_3
          try clear hfz20_0
          try clear hfz20_1
          try clear hfz20_2
          try clear hfz20_3
          try clear hfz20_4
          try clear hfz20_5
          try clear hfz20_6
          try clear hfz20_7
          try clear hfz21_0
          try clear hfz21_1
          try clear hfz21_2
          try clear hfz21_3
          try clear hfz23_0
          try clear hfz23_1
          try clear hfz23_2
          try clear hfz23_3
          try clear hfz23_4
          try clear hfz23_5
          try clear hfz23_6
          try clear hfz23_7
          try clear hfz24_0
          try clear hfz24_1
          try clear hfz24_2
          try clear hfz24_3
          try clear hfz29_0
          try clear hfz29_1
          try clear hfz29_2
          try clear hfz29_3
          try clear hfz29_4
          try clear hfz29_5
          try clear hfz29_6
          try clear hfz29_7
          try clear hfz32_0
          try clear hfz32_1
          try clear hfz32_2
          try clear hfz32_3
          try clear hfz32_4
          try clear hfz32_5
          try clear hfz32_6
          try clear hfz32_7
          try clear hfz35_0
          try clear hfz35_1
          try clear hfz35_2
          try clear hfz35_3
          try clear hfz35_4
          try clear hfz35_5
          try clear hfz35_6
          try clear hfz35_7
          try clear hfz38_0
          try clear hfz38_1
          try clear hfz38_2
          try clear hfz38_3
          try clear hfz38_4
          try clear hfz38_5
          try clear hfz38_6
          try clear hfz38_7
          try clear hfz39_0
          try clear hfz39_1
          try clear hfz39_2
          try clear hfz39_3
          try clear hfz42_0
          try clear hfz42_1
          try clear hfz42_2
          try clear hfz42_3
          try clear hfz42_4
          try clear hfz42_5
          try clear hfz42_6
          try clear hfz42_7
          try clear hfz43_0
          try clear hfz43_1
          try clear hfz43_2
          try clear hfz43_3
          try clear hfz45_0
          try clear hfz45_1
          try clear hfz45_2
          try clear hfz45_3
          try clear hfz45_4
          try clear hfz45_5
          try clear hfz45_6
          try clear hfz45_7
          try clear hfz46_0
          try clear hfz46_1
          try clear hfz46_2
          try clear hfz46_3
          try clear hfz9_0
          try clear hfz9_1
          try clear hfz9_2
          try clear hfz9_3
          try clear hfz9_4
          try clear hfz9_5
          try clear hfz9_6
          try clear hfz9_7
          try clear p2
          obtain ⟨kq, x68_25, rfl, HA, HJ25, BK128, BK129, HB⟩ := hcut
          cases kq with
          | zero => exact absurd HA.out (by simp [strataref12_nameMay.j1])
          | succ kj25 =>
            have H := HA.out
            clear HA
            simp only [strataref12_nameMay.j1] at H
            by_cases c47 : x68_25 = true
            · subst c47
              have H1 : (some false) = some r := by rw [if_pos rfl] at H; exact H
              clear H
              have H := H1
              clear H1
              obtain rfl := Option.some.inj H
              go_wp2
              go_ret
              exact ⟨by first | rfl | (simp [errW_none, errW_some] <;> rfl) | (simp [*, errW_none, errW_some] <;> rfl), by repeat (first | (with_reducible first | exact HB.out | apply below_alloc | apply pw_below_drewN | apply below_drew1 | refine below_set ?_ GE128.out | refine below_set ?_ GE129.out) | exact HB.out)⟩
            · replace c47 := Bool.eq_false_iff.mpr c47
              subst c47
              have H1 : (if a1_4 = 0 then (if a1_5 = 0 then (some (a1_7 == 0)) else (some false)) else (some (decide (a1_5 > 0)))) = some r := by rw [if_neg (show ¬ (false = true) by decide)] at H; exact H
              clear H
              have H := H1
              clear H1
              by_cases c48 : a1_4 = 0
              · rw [if_pos c48] at H
                have c48b0 : (a1_4 == 0) = true := beq_iff_eq.mpr c48
                have c48b1 : (a1_4 != 0) = false := bne_eq_false_iff_eq.mpr c48
                clear c48
                by_cases c49 : a1_5 = 0
                · rw [if_pos c49] at H
                  have c49b0 : (a1_5 == 0) = true := beq_iff_eq.mpr c49
                  have c49b1 : (a1_5 != 0) = false := bne_eq_false_iff_eq.mpr c49
                  clear c49
                  obtain rfl := Option.some.inj H
                  have hnb50 := NB129_128.out
                  have hnc50 := NB128_129.out
                  have hcz51_0 : wc.cell? ⟨gb129, 0, none⟩ = some (.int .i64 a1_0) := (blk_cell BK129.out 0).trans rfl
                  have hcz51_1 : wc.cell? ⟨gb129, 1, none⟩ = some (.int .u64 a1_1) := (blk_cell BK129.out 1).trans rfl
                  have hcz51_2 : wc.cell? ⟨gb129, 2, none⟩ = some (.int .u64 a1_2) := (blk_cell BK129.out 2).trans rfl
                  have hcz51_3 : wc.cell? ⟨gb129, 3, none⟩ = some (.int .i64 a1_3) := (blk_cell BK129.out 3).trans rfl
                  have hcz51_4 : wc.cell? ⟨gb129, 4, none⟩ = some (.int .i64 a1_4) := (blk_cell BK129.out 4).trans rfl
                  have hcz51_5 : wc.cell? ⟨gb129, 5, none⟩ = some (.int .i64 a1_5) := (blk_cell BK129.out 5).trans rfl
                  have hcz51_6 : wc.cell? ⟨gb129, 6, none⟩ = some (.int .u32 a1_6) := (blk_cell BK129.out 6).trans rfl
                  have hcz51_7 : wc.cell? ⟨gb129, 7, none⟩ = some (.int .u32 a1_7) := (blk_cell BK129.out 7).trans rfl
                  have hfz51_0 := blk_frozen BK129.out 0
                  have hfz51_1 := blk_frozen BK129.out 1
                  have hfz51_2 := blk_frozen BK129.out 2
                  have hfz51_3 := blk_frozen BK129.out 3
                  have hfz51_4 := blk_frozen BK129.out 4
                  have hfz51_5 := blk_frozen BK129.out 5
                  have hfz51_6 := blk_frozen BK129.out 6
                  have hfz51_7 := blk_frozen BK129.out 7
                  go_wp2
                  go_ret
                  exact ⟨by first | rfl | (simp [errW_none, errW_some] <;> rfl) | (simp [*, errW_none, errW_some] <;> rfl), by repeat (first | (with_reducible first | exact HB.out | apply below_alloc | apply pw_below_drewN | apply below_drew1 | refine below_set ?_ GE128.out | refine below_set ?_ GE129.out) | exact HB.out)⟩
                · rw [if_neg c49] at H
                  have c49b0 : (a1_5 == 0) = false := beq_eq_false_iff_ne.mpr c49
                  have c49b1 : (a1_5 != 0) = true := bne_iff_ne.mpr c49
                  obtain rfl := Option.some.inj H
                  have hnb52 := NB129_128.out
                  have hnc52 := NB128_129.out
                  have hcz53_0 : wc.cell? ⟨gb129, 0, none⟩ = some (.int .i64 a1_0) := (blk_cell BK129.out 0).trans rfl
                  have hcz53_1 : wc.cell? ⟨gb129, 1, none⟩ = some (.int .u64 a1_1) := (blk_cell BK129.out 1).trans rfl
                  have hcz53_2 : wc.cell? ⟨gb129, 2, none⟩ = some (.int .u64 a1_2) := (blk_cell BK129.out 2).trans rfl
                  have hcz53_3 : wc.cell? ⟨gb129, 3, none⟩ = some (.int .i64 a1_3) := (blk_cell BK129.out 3).trans rfl
                  have hcz53_4 : wc.cell? ⟨gb129, 4, none⟩ = some (.int .i64 a1_4) := (blk_cell BK129.out 4).trans rfl
                  have hcz53_5 : wc.cell? ⟨gb129, 5, none⟩ = some (.int .i64 a1_5) := (blk_cell BK129.out 5).trans rfl
                  have hcz53_6 : wc.cell? ⟨gb129, 6, none⟩ = some (.int .u32 a1_6) := (blk_cell BK129.out 6).trans rfl
                  have hcz53_7 : wc.cell? ⟨gb129, 7, none⟩ = some (.int .u32 a1_7) := (blk_cell BK129.out 7).trans rfl
                  have hfz53_0 := blk_frozen BK129.out 0
                  have hfz53_1 := blk_frozen BK129.out 1
                  have hfz53_2 := blk_frozen BK129.out 2
                  have hfz53_3 := blk_frozen BK129.out 3
                  have hfz53_4 := blk_frozen BK129.out 4
                  have hfz53_5 := blk_frozen BK129.out 5
                  have hfz53_6 := blk_frozen BK129.out 6
                  have hfz53_7 := blk_frozen BK129.out 7
                  go_wp2
                  go_ret
                  exact ⟨by first | rfl | (simp [errW_none, errW_some] <;> rfl) | (simp [*, errW_none, errW_some] <;> rfl), by repeat (first | (with_reducible first | exact HB.out | apply below_alloc | apply pw_below_drewN | apply below_drew1 | refine below_set ?_ GE128.out | refine below_set ?_ GE129.out) | exact HB.out)⟩
              · rw [if_neg c48] at H
                have c48b0 : (a1_4 == 0) = false := beq_eq_false_iff_ne.mpr c48
                have c48b1 : (a1_4 != 0) = true := bne_iff_ne.mpr c48
                obtain rfl := Option.some.inj H
                have hnb54 := NB129_128.out
                have hnc54 := NB128_129.out
                have hcz55_0 : wc.cell? ⟨gb129, 0, none⟩ = some (.int .i64 a1_0) := (blk_cell BK129.out 0).trans rfl
                have hcz55_1 : wc.cell? ⟨gb129, 1, none⟩ = some (.int .u64 a1_1) := (blk_cell BK129.out 1).trans rfl
                have hcz55_2 : wc.cell? ⟨gb129, 2, none⟩ = some (.int .u64 a1_2) := (blk_cell BK129.out 2).trans rfl
                have hcz55_3 : wc.cell? ⟨gb129, 3, none⟩ = some (.int .i64 a1_3) := (blk_cell BK129.out 3).trans rfl
                have hcz55_4 : wc.cell? ⟨gb129, 4, none⟩ = some (.int .i64 a1_4) := (blk_cell BK129.out 4).trans rfl
                have hcz55_5 : wc.cell? ⟨gb129, 5, none⟩ = some (.int .i64 a1_5) := (blk_cell BK129.out 5).trans rfl
                have hcz55_6 : wc.cell? ⟨gb129, 6, none⟩ = some (.int .u32 a1_6) := (blk_cell BK129.out 6).trans rfl
                have hcz55_7 : wc.cell? ⟨gb129, 7, none⟩ = some (.int .u32 a1_7) := (blk_cell BK129.out 7).trans rfl
                have hfz55_0 := blk_frozen BK129.out 0
                have hfz55_1 := blk_frozen BK129.out 1
                have hfz55_2 := blk_frozen BK129.out 2
                have hfz55_3 := blk_frozen BK129.out 3
                have hfz55_4 := blk_frozen BK129.out 4
                have hfz55_5 := blk_frozen BK129.out 5
                have hfz55_6 := blk_frozen BK129.out 6
                have hfz55_7 := blk_frozen BK129.out 7
                go_wp2
                go_ret
                exact ⟨by first | rfl | (simp [errW_none, errW_some] <;> rfl) | (simp [*, errW_none, errW_some] <;> rfl), by repeat (first | (with_reducible first | exact HB.out | apply below_alloc | apply pw_below_drewN | apply below_drew1 | refine below_set ?_ GE128.out | refine below_set ?_ GE129.out) | exact HB.out)⟩
end Go.Proofs.YtejjidggnnhgjaaDoor.PImg
