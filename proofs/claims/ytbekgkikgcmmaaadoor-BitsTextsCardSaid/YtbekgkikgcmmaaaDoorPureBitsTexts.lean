import Derived.Test.YtbekgkikgcmmaaaDoorPTxtx5
import Derived.Test.YtbekgkikgcmmaaaDoorHBitP
namespace Go.Proofs.YtbekgkikgcmmaaaDoor.Pure
open Go.RowKit Go.Proofs.YtbekgkikgcmmaaaDoor.PBit Go.Proofs.YtbekgkikgcmmaaaDoor.PTxt Go.Proofs.YtbekgkikgcmmaaaDoor.HBase Go.Proofs.YtbekgkikgcmmaaaDoorW.PrintWords Go.Proofs.YtbekgkikgcmmaaaDoorW.PrintLast Go.Proofs.YtbekgkikgcmmaaaDoor.HCore Go.Proofs.YtbekgkikgcmmaaaDoor.HBitK Go.Proofs.YtbekgkikgcmmaaaDoor.HBitW Go.Proofs.YtbekgkikgcmmaaaDoor.HBitP

theorem BitsTexts : stratalaw01_BitsTexts.Pure := by
  intro s hs
  refine ⟨s.size + 200, ?_⟩
  have k1 : HGiv.bits_ReadKey.f (s.size + 200) s = some (krun s 17 0 []) := by
    unfold HGiv.bits_ReadKey.f HBitK.bits_ReadKey.f
    rw [if_pos (by omega)]
  have r1 : HGiv.bits_ReadRow.f (s.size + 199) s = some (rrow s) := by
    unfold HGiv.bits_ReadRow.f HBitW.bits_ReadRow.f
    rw [if_pos (by omega)]
  unfold stratalaw01_BitsTexts.f
  rw [k1]
  simp only [Option.bind_some]
  rw [ref_key s hs _ (by omega)]
  simp only [Option.bind_some]
  rw [same_refl _ (Nat.le_trans (krun_len s 17 0 [] (by simp)) (by decide)) _ (by have := krun_len s 17 0 [] (by simp); omega)]
  simp only [Option.bind_some]
  rw [if_pos trivial]
  simp only [stratalaw01_num.f, Option.bind_some]
  rw [show s.size + 200 = (s.size + 199) + 1 from rfl, stratalaw01_BitsTexts.j0, if_neg (by simp), r1]
  simp only [Option.bind_some]
  rw [ref_row s hs _ (by omega)]
  simp only [Option.bind_some]
  rw [same_refl _ (rrow_len s) _ (by have := rrow_len s; omega)]
  simp [stratalaw01_num.f]
end Go.Proofs.YtbekgkikgcmmaaaDoor.Pure
