/- bits.Extend and bits.Checksum: they return the sum CRC-32C, wherever the table 'halves' reads as the program's text lays it; nothing that was there is changed. -/
import Derived.Test.YtdepngppnbobdaaDoorProg
import Derived.Test.YtdepngppnbobdaaDoorHCrc
import Derived.WalkKit
import Derived.KernelRfl
import Derived.Below
import Derived.Laws.BitsAllLaws
import Derived.Deep.LoopGhost
import Derived.Outline
import Derived.Lib.LaidTab
set_option linter.unusedVariables false
set_option linter.unusedSimpArgs false
namespace Go.Proofs.YtdepngppnbobdaaDoor.HSum
open Go.RowKit Go.Proofs.YtdepngppnbobdaaDoorW.PrintWords Go.Proofs.YtdepngppnbobdaaDoorW.PrintLast Go.Proofs.YtdepngppnbobdaaDoorW.PrintMore Go.Proofs.YtdepngppnbobdaaDoor.HCore Go.Proofs.YtdepngppnbobdaaDoor.HCrc

/-- The table of half bytes reads as the program's text lays it. -/
structure Tab (w : World) : Prop where
  at_ : ∀ j, j < 16 → w.cell? ⟨0, j, none⟩ = some (.int .u32 ((halves.getD j 0 : Nat) : Int))
theorem Tab.below {w w' : World} (h : Tab w) (hb : Below w.heap.size w w') : Tab w' := ⟨fun j hj => pw_cell_below hb (h.at_ j hj)⟩
theorem Tab.drewN {w : World} (h : Tab w) (n : Nat) : Tab (w.drewN n) := ⟨fun j hj => by
  have := h.at_ j hj
  simpa [World.cell?] using this⟩
theorem Tab.drawn {w w' : World} (h : Tab w) (hd : Drawn0 w w') : Tab w' := by
  obtain ⟨n, rfl⟩ := hd
  exact h.drewN n

theorem Tab.of {w : World} (h : Lib.TabIs Tryd.prog w "strata/bits.halves" .u32 [0, 274646895, 549293790, 820201905, 1098587580, 1361435347, 1640403810, 1905808397, 2197175160, 2460548119, 2722870694, 2987750089, 3280807620, 3553878443, 3811616794, 4084100981]) (hg : Tryd.prog.globalNamed "strata/bits.halves" = some 0) : Tab w := ⟨fun j hj => by
  have e := h.cell hg j (by simpa using hj)
  rw [e]
  congr 2
  clear e
  revert j
  decide⟩

/-- One byte of the sum, in the walk's own words. -/
theorem xor_u32 (a b : Nat) (ha : a < 2 ^ 32) (hb : b < 2 ^ 32) : Go.bits .xor .u32 (a : Int) (b : Int) = ((a ^^^ b : Nat) : Int) := by
  have := u32_xor (a : Int) (b : Int) (by omega) (by omega) (by omega) (by omega)
  simpa using this
theorem and15_u32 (a : Nat) (ha : a < 2 ^ 32) : Go.bits .and .u32 (a : Int) 15 = ((a % 16 : Nat) : Int) := by
  have := u32_and (a : Int) 15 (by omega) (by omega) (by omega) (by omega)
  rw [this]
  simp only [Int.toNat_natCast]
  rw [show (15 : Int).toNat = 15 from rfl, nat_mask4]
theorem half_lt : ∀ j, j < 16 → halves.getD j 0 < 2 ^ 32 := by decide

set_option maxRecDepth 100000 in
set_option maxHeartbeats 4000000 in
theorem extend_any (c : Nat) (s : ByteArray) (w : World) (hc : c < 2 ^ 32) (hs : s.size ≤ 4611686018427387904) (hT : Tab w) :
    Calls Tryd.prog 82 #[.int .u32 (c : Int), .string s] w fun e w' => e = .returned (.int .u32 ((ext c s.data.toList : Nat) : Int)) ∧ Drawn0 w w' := by
  have hx : Go.bits .xor .u32 IntKind.u32.max (c : Int) = ((4294967295 ^^^ c : Nat) : Int) := xor_u32 4294967295 c (by decide) hc
  have hT' := Aside0.mk hT
  clear hT
  obtain ⟨r0, hr0⟩ : ∃ r, 4294967295 ^^^ c = r := ⟨_, rfl⟩
  have hr0lt : r0 < 2 ^ 32 := hr0 ▸ Nat.xor_lt_two_pow (by decide) hc
  have hD := Drawn0.refl w
  have hE : ext c s.data.toList = 4294967295 ^^^ crc r0 s.data.toList := by rw [← hr0]; rfl
  have HE := Aside0.mk hE
  rw [hr0] at hx
  have HX0 := Aside0.mk hx
  have hc' : c ≤ 4294967295 := by omega
  clear hr0 hE hc hx
  go_enter Tryd.func82, Tryd.ntmps82
  go_wp2
  go_loopw [5, 11] (fun v5 v11 wr => ∃ k : Nat, k ≤ s.size ∧ v11 = .int .i64 k ∧ v5 = .int .u32 ((crc r0 (s.data.toList.take k) : Nat) : Int) ∧ Drawn0 w wr) (fun _ i _ => s.size - (intOf i).toNat)
  case atStart => exact ⟨0, Nat.zero_le _, rfl, by rw [HX0.out]; rfl, hD⟩
  case round =>
    obtain ⟨k, hk, rfl, rfl, hDr⟩ := hrel
    obtain ⟨m, rfl⟩ := hDr
    have hrl : crc r0 (s.data.toList.take k) < 2 ^ 32 := crc_lt _ hr0lt
    by_cases hlt : k < s.size
    · have hsn : crc r0 (s.data.toList.take (k + 1)) = dn8 (crc r0 (s.data.toList.take k) ^^^ (s[k]).toNat) := by
        have h1 : k < s.data.toList.length := by rw [size_list]; exact hlt
        rw [List.take_succ_eq_append_getElem h1, crc_append]
        rfl
      have HS := Aside0.mk hsn
      clear hsn
      generalize crc r0 (s.data.toList.take k) = r at hrl HS
      have hb : (s[k]).toNat < 2 ^ 32 := by have := (s[k]).toNat_lt; omega
      have h1 := xor_u32 r (s[k]).toNat hrl hb
      have hx1 : r ^^^ (s[k]).toNat < 2 ^ 32 := Nat.xor_lt_two_pow hrl hb
      obtain ⟨x, hxe⟩ : ∃ x, r ^^^ (s[k]).toNat = x := ⟨_, rfl⟩
      rw [hxe] at h1 hx1
      have HX := Aside0.mk hxe
      clear hxe
      have h2 := and15_u32 x hx1
      have h3 := xor_u32 (halves.getD (x % 16) 0) (x / 16) (half_lt _ (by omega)) (by omega)
      rw [step4, show ((x / 16 : Nat) : Int) = (x : Int) / 16 by omega] at h3
      have hy1 : dn4 x < 2 ^ 32 := dn4_lt hx1
      obtain ⟨y, hye⟩ : ∃ y, dn4 x = y := ⟨_, rfl⟩
      rw [hye] at h3 hy1
      have HY := Aside0.mk hye
      clear hye
      have h4 := and15_u32 y hy1
      have h5 := xor_u32 (halves.getD (y % 16) 0) (y / 16) (half_lt _ (by omega)) (by omega)
      rw [step4, show ((y / 16 : Nat) : Int) = (y : Int) / 16 by omega] at h5
      have g1 := (hT'.out.drewN m).at_ (x % 16) (by omega)
      have g2 := (hT'.out.drewN m).at_ (y % 16) (by omega)
      generalize halves.getD (x % 16) 0 = z1 at h3 g1
      generalize halves.getD (y % 16) 0 = z2 at h5 g2
      have hxl : x ≤ 4294967295 := by omega
      have hyl : y ≤ 4294967295 := by omega
      go_wp2
      go_roundw
      case rel =>
        refine ⟨k + 1, by omega, by simp, ?_, ⟨⟨m, rfl⟩⟩⟩
        rw [HS.out, HX.out]
        unfold dn8
        rw [HY.out]
      case measure => simp [intOf]; omega
    · have hxx : Go.bits .xor .u32 IntKind.u32.max ((crc r0 (s.data.toList.take k) : Nat) : Int) = ((4294967295 ^^^ crc r0 (s.data.toList.take k) : Nat) : Int) := xor_u32 4294967295 _ (by decide) hrl
      have hk' : k = s.size := by omega
      have hfin : ((4294967295 ^^^ crc r0 (s.data.toList.take k) : Nat) : Int) = ((ext c s.data.toList : Nat) : Int) := by
        rw [HE.out, List.take_of_length_le (by rw [size_list]; omega)]
      have HF := Aside0.mk hfin
      have HXX := Aside0.mk hxx
      clear hfin hxx hk'
      go_wp2
      go_ret
      exact ⟨by rw [← HF.out, ← HXX.out]; rfl, ⟨⟨m, rfl⟩⟩⟩

/-- bits.Extend, as a plain function. -/
def bits_Extend.f (a0 : Int) (a1 : ByteArray) : Option Int := if 0 ≤ a0 ∧ a0 ≤ 4294967295 ∧ a1.size ≤ 4611686018427387904 then some ((ext a0.toNat a1.data.toList : Nat) : Int) else none
theorem bits_Extend.calls (a0 : Int) (a1 : ByteArray) (r : Int) (w : World) (h : bits_Extend.f a0 a1 = some r) (hT : Tab w) :
    Calls Tryd.prog 82 #[.int .u32 a0, .string a1] w fun e w' => e = .returned (.int .u32 r) ∧ Drawn0 w w' := by
  unfold bits_Extend.f at h
  by_cases g : 0 ≤ a0 ∧ a0 ≤ 4294967295 ∧ a1.size ≤ 4611686018427387904
  · rw [if_pos g] at h
    obtain ⟨c, rfl⟩ := Int.eq_ofNat_of_zero_le g.1
    obtain rfl := Option.some.inj h
    exact extend_any c a1 w (by omega) g.2.2 hT
  · rw [if_neg g] at h
    cases h

end Go.Proofs.YtdepngppnbobdaaDoor.HSum
