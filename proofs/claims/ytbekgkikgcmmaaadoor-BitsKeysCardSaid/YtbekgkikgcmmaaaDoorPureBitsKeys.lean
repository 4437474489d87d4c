/- BitsKeys: the plain law: the program's key and row of any list are the document's; the copy is left as it was. -/
import Derived.Test.YtbekgkikgcmmaaaDoorPKysx8
import Derived.Test.YtbekgkikgcmmaaaDoorHBitQ
set_option linter.unusedSimpArgs false
namespace Go.Proofs.YtbekgkikgcmmaaaDoor.Pure
open Go.RowKit Go.Proofs.YtbekgkikgcmmaaaDoor.PBit Go.Proofs.YtbekgkikgcmmaaaDoor.PKys Go.Proofs.YtbekgkikgcmmaaaDoor.HBase Go.Proofs.YtbekgkikgcmmaaaDoorW.PrintWords Go.Proofs.YtbekgkikgcmmaaaDoorW.PrintLast Go.Proofs.YtbekgkikgcmmaaaDoor.HCore Go.Proofs.YtbekgkikgcmmaaaDoor.HBitE Go.Proofs.YtbekgkikgcmmaaaDoor.HBitX Go.Proofs.YtbekgkikgcmmaaaDoor.HGx Go.Proofs.YtbekgkikgcmmaaaDoor.HBitQ

theorem room_l (l : List S33) (hl : l.length < 4398046511104) : ∀ d i : Nat, l.length = i + d → stratalaw01_room.l0 (d + 1) l (l.take i) (i : Int) = some (l ++ [⟨77, 77, ⟨#[109, 97, 114, 107]⟩⟩])
  | 0, i, h => by
    rw [stratalaw01_room.l0, if_neg (by omega), if_pos (by rw [List.length_take]; omega), List.take_of_length_le (by omega)]
  | d + 1, i, h => by
    have hi : i < l.length := by omega
    have e2 : wrap64 ((i : Int) + 1) = ((i + 1 : Nat) : Int) := (w64 (by omega) (by omega)).trans (by omega)
    rw [stratalaw01_room.l0, if_pos (by omega), if_pos (by omega), if_pos (by rw [List.length_take]; omega), e2]
    have e := (rd_mem l i hi).2
    rw [show (⟨(rd_T33 l (i : Int)).f0, (rd_T33 l (i : Int)).f1, (rd_T33 l (i : Int)).f2⟩ : S33) = rd_T33 l (i : Int) from rfl, ← e]
    exact room_l l hl d (i + 1) (by omega)
theorem room_is (l : List S33) (hl : l.length < 4398046511104) (k : Nat) (hk : l.length + 1 ≤ k) : stratalaw01_room.f k l = some (l ++ [⟨77, 77, ⟨#[109, 97, 114, 107]⟩⟩]) := by
  rw [show k = (l.length + 1) + (k - (l.length + 1)) by omega]
  exact at_rounds (f := fun k => stratalaw01_room.f k l) (fun k => stratalaw01_room.mono l k) (room_l l hl l.length 0 (by omega)) _
theorem same_l (l : List S33) (hl : l.length < 4398046511104) : ∀ (d i : Nat), l.length = i + d → stratalaw01_same.l0 (d + 1) l l (i : Int) = some true
  | 0, i, h => by
    rw [stratalaw01_same.l0, if_neg (by omega)]
  | d + 1, i, h => by
    have e2 : wrap64 ((i : Int) + 1) = ((i + 1 : Nat) : Int) := (w64 (by omega) (by omega)).trans (by omega)
    rw [stratalaw01_same.l0, if_pos (by omega), if_pos (by omega), if_pos (by omega), e2, if_neg (by simp)]
    exact same_l l hl d (i + 1) (by omega)
theorem same_is (l : List S33) (hl : l.length < 4398046511104) (k : Nat) (hk : l.length + 1 ≤ k) : stratalaw01_same.f k l l = some true := by
  rw [show k = (l.length + 1) + (k - (l.length + 1)) by omega]
  refine at_rounds (f := fun k => stratalaw01_same.f k l l) (fun k => stratalaw01_same.mono l l k) ?_ _
  show stratalaw01_same.f (l.length + 1) l l = _
  unfold stratalaw01_same.f
  rw [if_pos rfl]
  exact same_l l hl l.length 0 (by omega)
theorem keys_law (l : List S33) (hl : l.length < 4398046511104) (hr : inr l) : ∃ k, stratalaw01_BitsKeys.f k l = some true := by
  refine ⟨l.length + 5000, ?_⟩
  have ha := all_of hr
  have et : (l ++ [(⟨77, 77, ⟨#[109, 97, 114, 107]⟩⟩ : S33)]).take ((l.length : Int)).toNat = l := by
    rw [Int.toNat_natCast, List.take_left]
  unfold stratalaw01_BitsKeys.f
  rw [room_is l hl _ (by omega), Option.bind_some, if_pos (by omega), if_pos (by rw [List.length_append]; simp; omega), et]
  unfold bits_Key.f
  rw [if_pos ha, Option.bind_some, ref_key l hr _ (by omega), Option.bind_some, if_pos rfl]
  unfold stratalaw01_num.f
  rw [Option.bind_some, show l.length + 5000 = (l.length + 4999) + 1 from rfl, stratalaw01_BitsKeys.j0, if_neg (by simp), if_pos (by omega), if_pos (by rw [List.length_append]; simp; omega), et]
  unfold bits_Row.f
  rw [if_pos ha, Option.bind_some, ref_row l hr _ (by omega), Option.bind_some, if_pos rfl]
  unfold stratalaw01_num.f
  rw [Option.bind_some, if_pos rfl, same_is l hl _ (by omega), Option.bind_some, if_pos rfl, if_pos (by rw [List.length_append]; simp; omega)]
  have e : rd_T33 (l ++ [(⟨77, 77, ⟨#[109, 97, 114, 107]⟩⟩ : S33)]) (l.length : Int) = ⟨77, 77, ⟨#[109, 97, 114, 107]⟩⟩ := by
    unfold rd_T33
    simp [List.getD]
  rw [e, if_pos rfl, if_pos rfl]
  exact congrArg some (beq_iff_eq.2 (toList_data _))
theorem walk (A0 : Option Addr) (c0 : Nat) (l0 : List S33) (w : World) (hC : Kd.C k33 w A0 l0.length l0) (hc : l0.length ≤ c0) (q : l0.length * 32 ≤ 140737488351232 ∧ ∀ x ∈ l0, (Lit.int .i64 x.f0).wf = true ∧ (Lit.int .i64 x.f1).wf = true ∧ x.f2.size ≤ 140737488351232) (hT : Tab w) :
    Calls Tryd.prog 3 #[.slice A0 l0.length c0] w fun e w' => e = .returned (.bool true) ∧ Below w.heap.size w w' := by
  have hr : inr l0 := fun x hx => by
    have := (q.2 x hx).2.1
    simp [Lit.wf, IntKind.min, IntKind.max, IntKind.signed, IntKind.bits] at this
    exact this
  obtain ⟨k, hk⟩ := keys_law l0 (by omega) hr
  exact stratalaw01_BitsKeys.calls k A0 c0 l0 true w hC hc hk hT
end Go.Proofs.YtbekgkikgcmmaaaDoor.Pure
