/- RedoParses, of texts of at most 1048576 bytes: the plain law: what a text is as a commit and as a body, the program and the document tell alike. -/
import Derived.Test.YtdepngppnbobdaaPRedoParsesx5
import Derived.Test.YtdepngppnbobdaaHWrites
set_option linter.unusedVariables false
set_option linter.unusedSimpArgs false
namespace Go.Proofs.Ytdepngppnbobdaa.Pure
open Go.RowKit Go.Proofs.Ytdepngppnbobdaa.PRedoParses Go.Proofs.Ytdepngppnbobdaa.PRed Go.Proofs.Ytdepngppnbobdaa.HGiv Go.Proofs.Ytdepngppnbobdaa.HDec Go.Proofs.Ytdepngppnbobdaa.HRedL Go.Proofs.Ytdepngppnbobdaa.HCore Go.Proofs.YtdepngppnbobdaaW.PrintWords Go.Proofs.YtdepngppnbobdaaW.PrintLast

theorem may_len {st : Int} {ws : List S36} (h : may st ws = true) : ws.length ≤ 128 := by
  unfold may at h
  simp only [Bool.and_eq_true, decide_eq_true_eq] at h
  omega
theorem decC_len {s : ByteArray} {r : Int × List S36} (h : decC s = some r) : may r.1 r.2 = true := by
  unfold decC at h
  split at h
  · split at h
    · unfold fin at h
      obtain ⟨x, _, hx⟩ := Option.bind_eq_some_iff.1 h
      split at hx
      · rename_i hm
        obtain rfl := Option.some.inj hx
        exact hm.1
      · cases hx
    · cases h
  · cases h
theorem told_len (s : ByteArray) : (told (decC s)).2.1.length ≤ 128 := by
  cases h : decC s with
  | none => exact Nat.zero_le _
  | some r => exact may_len (decC_len h)
theorem frun_all (s : ByteArray) : ∀ (d : Nat) (p : Int) (l l' : List S25), frun s d p l = some l' → (∀ x ∈ l, x.f1.length ≤ 128) → (∀ x ∈ l', x.f1.length ≤ 128) ∧ l'.length ≤ l.length + d := by
  intro d
  induction d with
  | zero => intro p l l' h; cases h
  | succ d ih =>
    intro p l l' h hl
    unfold frun at h
    split at h
    · split at h
      · obtain ⟨r, hr, h⟩ := Option.bind_eq_some_iff.1 h
        have h2 := ih _ _ _ h (fun x hx => by
          rcases List.mem_append.1 hx with hx | hx
          · exact hl x hx
          · rw [List.mem_singleton] at hx; subst hx; exact may_len (decC_len hr))
        rw [List.length_append, List.length_singleton] at h2
        exact ⟨h2.1, by omega⟩
      · cases h
    · obtain rfl := Option.some.inj h
      exact ⟨hl, by omega⟩
theorem frm_all (s : ByteArray) : (∀ x ∈ (toldF (frmC s)).1, x.f1.length ≤ 128) ∧ (toldF (frmC s)).1.length ≤ s.size + 1 := by
  cases h : frmC s with
  | none => exact ⟨fun x hx => by simp [toldF] at hx, Nat.zero_le _⟩
  | some l =>
    unfold frmC at h
    obtain ⟨l', hl, h⟩ := Option.bind_eq_some_iff.1 h
    split at h
    · cases h
    · obtain rfl := Option.some.inj h
      have := frun_all s _ _ _ _ hl (fun x hx => by simp at hx)
      exact ⟨this.1, by have h2 := this.2; rw [List.length_nil, Nat.zero_add] at h2; exact h2⟩
theorem parses_loop (m : List S25) (hm : ∀ x ∈ m, x.f1.length ≤ 128) (hn : m.length ≤ 100000000) (d : Nat) : ∀ (i k : Nat), i + d = m.length → d + 200 < k → stratalaw11_RedoParses.l0 k m m (i : Int) = some true := by
  induction d with
  | zero =>
    intro i k hi hk
    obtain ⟨k, rfl⟩ : ∃ j, k = j + 1 := ⟨k - 1, by omega⟩
    rw [stratalaw11_RedoParses.l0, if_neg (by omega)]
  | succ d ih =>
    intro i k hi hk
    obtain ⟨k, rfl⟩ : ∃ j, k = j + 1 := ⟨k - 1, by omega⟩
    have hx : (rd_T25 m (i : Int)).f1.length ≤ 128 := by
      have hlt : i < m.length := by omega
      have e : rd_T25 m (i : Int) = m[i] := by simp [rd_T25, List.getD_eq_getElem?_getD, List.getElem?_eq_getElem hlt]
      rw [e]
      exact hm _ (List.getElem_mem hlt)
    rw [stratalaw11_RedoParses.l0, if_pos (by omega), if_pos (by omega), if_pos (by omega), HWrites.same_is _ _ (by omega) k (by omega), Option.bind_some, if_pos rfl, HWrites.wrap_next (n := m.length) (by omega) (by omega)]
    exact ih (i + 1) k (by omega) (by omega)
theorem RedoParsesUpto (a0 : ByteArray) (h : a0.size ≤ 1048576) : ∃ k, stratalaw11_RedoParses.f k a0 = some true := by
  refine ⟨a0.size + 2000, ?_⟩
  have e1 : ∀ k, 601 ≤ k → redo_DecodeCommit.f k a0 = some (told (decC a0)) := fun k hk => ref_dec a0 (by omega) k (by omega)
  have e2 : ∀ k, 601 ≤ k → strataref11_DecodeCommit.f k a0 = some (told (decC a0)) := fun k hk => ref_dec a0 (by omega) k (by omega)
  have e3 : ∀ k, a0.size + 701 ≤ k → strataref11_FrameCommits.f k a0 = some (toldF (frmC a0)) := fun k hk => ref_frm a0 (by omega) k (by omega)
  have e4 : ∀ k, a0.size + 701 ≤ k → redo_FrameCommits.f k a0 = some (toldF (frmC a0)) := fun k hk => by unfold redo_FrameCommits.f; rw [if_pos (by omega), e3 k hk]
  have hl := told_len a0
  have hf := frm_all a0
  unfold stratalaw11_RedoParses.f
  rw [e1 _ (by omega), Option.bind_some, e2 _ (by omega), Option.bind_some, HWrites.same_is _ _ (by omega) _ (by omega), Option.bind_some, if_pos rfl]
  unfold stratalaw11_num.f
  rw [Option.bind_some, show ((told (decC a0)).2.2 != (told (decC a0)).2.2) = false from bne_self_eq_false _, show a0.size + 2000 = (a0.size + 1999) + 1 from rfl, stratalaw11_RedoParses.j0, if_neg (by decide), e4 _ (by omega), Option.bind_some, e3 _ (by omega), Option.bind_some]
  unfold stratalaw11_num.f
  rw [Option.bind_some, if_pos rfl, bne_self_eq_false, show a0.size + 1999 = (a0.size + 1998) + 1 from rfl, stratalaw11_RedoParses.j1, if_neg (by decide)]
  exact parses_loop _ hf.1 (by omega) (toldF (frmC a0)).1.length 0 _ (by omega) (by omega)
theorem RedoParsesWalk (a0 : ByteArray) (w : World) (h0 : a0.size ≤ 140737488351232) (h : a0.size ≤ 1048576) : Calls Try.prog 5 #[.string a0] w fun e w' => e = .returned (.bool true) ∧ Below w.heap.size w w' := by
  obtain ⟨k, hk⟩ := RedoParsesUpto a0 h
  refine (stratalaw11_RedoParses.calls k a0 true w hk).mono ?_
  rintro e w' ⟨rfl, hd⟩
  exact ⟨rfl, hd⟩
end Go.Proofs.Ytdepngppnbobdaa.Pure
