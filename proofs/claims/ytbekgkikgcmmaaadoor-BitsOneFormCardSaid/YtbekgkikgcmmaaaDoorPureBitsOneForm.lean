/- BitsOneForm: the plain law: what may stand is laid down and read; what is read is laid down again as the same bytes. -/
import Derived.Test.YtbekgkikgcmmaaaDoorPOnex11
import Derived.Test.YtbekgkikgcmmaaaDoorHBitN
set_option linter.unusedSimpArgs false
namespace Go.Proofs.YtbekgkikgcmmaaaDoor.Pure
open Go.RowKit Go.Proofs.YtbekgkikgcmmaaaDoor.PBit Go.Proofs.YtbekgkikgcmmaaaDoor.POne Go.Proofs.YtbekgkikgcmmaaaDoor.HBase Go.Proofs.YtbekgkikgcmmaaaDoor.HUv Go.Proofs.YtbekgkikgcmmaaaDoorW.PrintWords Go.Proofs.YtbekgkikgcmmaaaDoorW.PrintLast Go.Proofs.YtbekgkikgcmmaaaDoor.HCore Go.Proofs.YtbekgkikgcmmaaaDoor.HCanon Go.Proofs.YtbekgkikgcmmaaaDoor.HBitK Go.Proofs.YtbekgkikgcmmaaaDoor.HBitW Go.Proofs.YtbekgkikgcmmaaaDoor.HBitE Go.Proofs.YtbekgkikgcmmaaaDoor.HBitF Go.Proofs.YtbekgkikgcmmaaaDoor.HBitX Go.Proofs.YtbekgkikgcmmaaaDoor.HGx Go.Proofs.YtbekgkikgcmmaaaDoor.HBitQ Go.Proofs.YtbekgkikgcmmaaaDoor.HBitU Go.Proofs.YtbekgkikgcmmaaaDoor.HBitO

theorem may_step (x : S33) (hr : -9223372036854775808 ≤ x.f1 ∧ x.f1 ≤ 9223372036854775807) (v : Option Bool) :
    (if x.f0 = 0 then (if x.f1 = 0 then (if (x.f2.toList = ([] : List UInt8)) then v else (some false)) else (some false)) else (if x.f0 = 1 then (if x.f1 = 0 then (if (x.f2.toList = ([] : List UInt8)) then v else (some false)) else (if x.f1 = 1 then (if (x.f2.toList = ([] : List UInt8)) then v else (some false)) else (some false))) else (if x.f0 = 2 then (if (x.f2.toList = ([] : List UInt8)) then v else (some false)) else (if x.f0 = 3 then (if x.f1 = 0 then (if ((x.f2.size : Int) ≤ 4096) then v else (some false)) else (some false)) else (some false))))) = if chk1 x = 0 then v else some false := by
  obtain ⟨e1, e2⟩ := wr1 hr
  obtain ⟨f0, f1, f2⟩ := x
  dsimp only at hr e1 e2 ⊢
  have h6 : f0 = 0 ∨ f0 = 1 ∨ f0 = 2 ∨ f0 = 3 ∨ f0 < 0 ∨ 4 ≤ f0 := by omega
  have hz : f2.toList = ([] : List UInt8) → f2.size = 0 := emp f2
  unfold chk1 vld
  dsimp only
  generalize IntKind.u64.wrap f1 = u at e1 e2
  rcases h6 with rfl | rfl | rfl | rfl | h | h
  · by_cases b : f2.toList = ([] : List UInt8)
    · have := hz b
      by_cases a : f1 = 0 <;> simp [a, b, e1, this, List.isEmpty_iff]
    · by_cases a : f1 = 0 <;> simp [a, b, e1, List.isEmpty_iff]
  · by_cases b : f2.toList = ([] : List UInt8)
    · have := hz b
      by_cases a : f1 = 0 <;> by_cases c : f1 = 1 <;> simp [a, b, c, e2, this, List.isEmpty_iff]
    · by_cases a : f1 = 0 <;> by_cases c : f1 = 1 <;> simp [a, b, c, e2, List.isEmpty_iff]
  · by_cases b : f2.toList = ([] : List UInt8)
    · have := hz b
      simp [b, this, List.isEmpty_iff]
    · simp [b, List.isEmpty_iff]
  · by_cases a : f1 = 0
    · by_cases c : 4096 < (f2.size : Int)
      · have c2 : ¬ (f2.size : Int) ≤ 4096 := by omega
        simp [a, e1.2 a, c, c2]
      · have c2 : (f2.size : Int) ≤ 4096 := by omega
        simp [a, e1.2 a, c, c2]
    · have : ¬ u < 1 := fun h => a (e1.1 h)
      simp [a, this]
  · rw [if_pos h, if_neg (by omega), if_neg (by omega), if_neg (by omega), if_neg (by omega), if_neg (by decide)]
  · rw [if_neg (by omega), if_neg (by omega), if_neg (by omega), if_neg (by omega), if_neg (by omega)]
theorem may_l (l : List S33) (hl : l.length ≤ 16) (hr : inr l) : ∀ (d i : Nat), l.length = i + d → stratalaw01_may.l0 (d + 1) l (i : Int) = some (decide (chkL (l.drop i) = 0))
  | 0, i, h => by
    rw [stratalaw01_may.l0, if_neg (by omega), List.drop_eq_nil_of_le (by omega)]
    rfl
  | d + 1, i, h => by
    have hi : i < l.length := by omega
    have e2 : wrap64 ((i : Int) + 1) = ((i + 1 : Nat) : Int) := (w64 (by omega) (by omega)).trans (by omega)
    rw [stratalaw01_may.l0, if_pos (by omega), if_pos (by omega), e2, may_l l hl hr d (i + 1) (by omega), may_step _ (hr _ (rd_mem l i hi).1), chkL_at l i hi]
    by_cases hc : chk1 (rd_T33 l (i : Int)) = 0
    · rw [if_pos hc, if_pos hc]
    · rw [if_neg hc, if_neg hc, decide_eq_false hc]
theorem may_is (l : List S33) (hr : inr l) (k : Nat) (hk : 18 ≤ k) : stratalaw01_may.f k l = some (decide (chk l = 0)) := by
  unfold stratalaw01_may.f chk
  by_cases hl : (l.length : Int) > 16
  · rw [if_pos hl, if_pos (by omega)]
    rfl
  · rw [if_neg hl, if_neg (by omega)]
    have h := may_l l (by omega) hr l.length 0 (by omega)
    rw [show k = (l.length + 1) + (k - (l.length + 1)) by omega]
    exact at_rounds (f := fun k => stratalaw01_may.l0 k l 0) (fun k => stratalaw01_may.mono_l k l 0) h _
theorem key_size (l : List S33) : (keyB l).size ≤ 160000 := by
  unfold keyB
  by_cases h : chk l = 0
  · obtain ⟨hl, hc⟩ := chk_all h
    rw [if_pos h, strOfNums_len]
    have := flat_len kb l (fun x hx => kb_len (hc x hx))
    omega
  · rw [if_neg h]
    exact Nat.zero_le _
theorem row_size (l : List S33) : (rowB l).size ≤ 160100 := by
  unfold rowB
  by_cases h : chk l = 0
  · obtain ⟨hl, hc⟩ := chk_all h
    rw [if_pos h, strOfNums_len, List.length_append, hdl_len]
    have := flat_len cb l (fun x hx => cb_len (hc x hx))
    omega
  · rw [if_neg h]
    exact Nat.zero_le _
theorem rkey (s : ByteArray) (hs : s.size ≤ 140737488351232) (k : Nat) : HGiv.bits_ReadKey.f k s = some (krun s 17 0 []) := by
  unfold HGiv.bits_ReadKey.f HBitK.bits_ReadKey.f
  rw [if_pos (by omega)]
theorem rrw (s : ByteArray) (hs : s.size ≤ 140737488351232) (k : Nat) : HGiv.bits_ReadRow.f k s = some (rrow s) := by
  unfold HGiv.bits_ReadRow.f HBitW.bits_ReadRow.f
  rw [if_pos (by omega)]
theorem kfor (l : List S33) (hr : inr l) (k : Nat) : bits_Key.f k l = some (keyB l, chk l) := if_pos (all_of hr)
theorem rfor (l : List S33) (hr : inr l) (k : Nat) : bits_Row.f k l = some (rowB l, chk l) := if_pos (all_of hr)
theorem form3 (s : ByteArray) (hs : s.size ≤ 140737488351232) (at_ : Int) (k : Nat) : stratalaw01_BitsOneForm.j3 (k + 1) s at_ = some true := by
  rw [stratalaw01_BitsOneForm.j3, show bits_ReadUvarint.f s at_ = some (ruv s at_) from if_pos (by omega), Option.bind_some]
  unfold stratalaw01_num.f
  rw [Option.bind_some]
  obtain ⟨v, q, e, hr⟩ : ∃ v q e, ruv s at_ = (v, q, e) := ⟨_, _, _, rfl⟩
  rw [hr]
  dsimp only
  by_cases h0 : e = 0
  · subst h0
    obtain ⟨g0, g1, g2, g3, g4, g5⟩ := ruv_drop hr
    rw [if_pos rfl, if_pos (by omega), if_pos (by omega), if_pos (by omega), if_pos (by omega), if_pos (by omega), show bits_Uvarint.f v = some (uvb v.toNat) from if_pos ⟨g3, by omega⟩, Option.bind_some]
    congr 1
    rw [beq_iff_eq, toList_data, toList_data, extract_list, g5]
    have hl := congrArg List.length g5
    rw [List.length_append, List.length_drop, List.length_drop, size_list, size_list] at hl
    rw [List.take_append_of_le_length (by rw [size_list]; omega), List.take_of_length_le (by rw [size_list]; omega)]
  · rw [if_neg h0]
theorem form2 (s : ByteArray) (hs : s.size ≤ 140737488351232) (at_ : Int) (k : Nat) : stratalaw01_BitsOneForm.j2 (k + 2) s at_ = some true := by
  rw [stratalaw01_BitsOneForm.j2, rrw s hs, Option.bind_some]
  unfold stratalaw01_num.f
  rw [Option.bind_some]
  obtain ⟨l, e, hr⟩ : ∃ l e, rrow s = (l, e) := ⟨_, _, rfl⟩
  rw [hr]
  dsimp only
  by_cases h0 : e = 0
  · subst h0
    obtain ⟨a, b, c⟩ := row_form s l hr
    rw [if_pos rfl, rfor l b, Option.bind_some, Option.bind_some, if_pos a, c, if_pos rfl]
    exact form3 s hs at_ k
  · rw [if_neg h0]
    exact form3 s hs at_ k
theorem form1 (s : ByteArray) (hs : s.size ≤ 140737488351232) (at_ : Int) (k : Nat) : stratalaw01_BitsOneForm.j1 (k + 3) s at_ = some true := by
  rw [stratalaw01_BitsOneForm.j1, rkey s hs, Option.bind_some]
  unfold stratalaw01_num.f
  rw [Option.bind_some]
  obtain ⟨l, e, hr⟩ : ∃ l e, krun s 17 0 [] = (l, e) := ⟨_, _, rfl⟩
  rw [hr]
  dsimp only
  by_cases h0 : e = 0
  · subst h0
    obtain ⟨a, b, c⟩ := key_form s l hr
    rw [if_pos rfl, kfor l b, Option.bind_some, Option.bind_some, if_pos a, c, if_pos rfl]
    exact form2 s hs at_ k
  · rw [if_neg h0]
    exact form2 s hs at_ k
theorem form_law (l : List S33) (hr : inr l) (s : ByteArray) (hs : s.size ≤ 140737488351232) (at_ : Int) : ∃ k, stratalaw01_BitsOneForm.f k l s at_ = some true := by
  refine ⟨40, ?_⟩
  unfold stratalaw01_BitsOneForm.f
  rw [may_is l hr 40 (by decide), Option.bind_some]
  by_cases hc : chk l = 0
  · rw [decide_eq_true hc, if_pos rfl, kfor l hr, Option.bind_some, rkey (keyB l) (by have := key_size l; omega), Option.bind_some, key_back l hc hr, hc]
    unfold stratalaw01_num.f
    rw [Option.bind_some, if_pos rfl, Option.bind_some, show (40 : Nat) = 39 + 1 from rfl, stratalaw01_BitsOneForm.j0, if_neg (show ¬ ((0 : Int) != 0) = true by decide), rfor l hr, Option.bind_some, rrw (rowB l) (by have := row_size l; omega), Option.bind_some, row_back l hc hr, hc]
    unfold stratalaw01_num.f
    rw [Option.bind_some, if_pos rfl, Option.bind_some, if_pos rfl]
    exact form1 s hs at_ 36
  · rw [decide_eq_false hc, if_neg (by decide)]
    exact form1 s hs at_ 37
theorem walk (A0 : Option Addr) (c0 : Nat) (l0 : List S33) (a1 : ByteArray) (a2 : Int) (w : World) (hC : Kd.C k33 w A0 l0.length l0) (hc : l0.length ≤ c0) (q : l0.length * 32 ≤ 140737488351232 ∧ ∀ x ∈ l0, (Lit.int .i64 x.f0).wf = true ∧ (Lit.int .i64 x.f1).wf = true ∧ x.f2.size ≤ 140737488351232) (hs : a1.size ≤ 140737488351232) (hT : Tab w) :
    Calls Tryd.prog 7 #[.slice A0 l0.length c0, .string a1, .int .i64 a2] w fun e w' => e = .returned (.bool true) ∧ Below w.heap.size w w' := by
  have hr : inr l0 := fun x hx => by
    have := (q.2 x hx).2.1
    simp [Lit.wf, IntKind.min, IntKind.max, IntKind.signed, IntKind.bits] at this
    exact this
  obtain ⟨k, hk⟩ := form_law l0 hr a1 hs a2
  exact stratalaw01_BitsOneForm.calls k A0 c0 l0 a1 a2 true w hC hc hk hT
end Go.Proofs.YtbekgkikgcmmaaaDoor.Pure
