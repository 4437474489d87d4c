/- A row that lets other goroutines be leaving at the return, of a call that starts none: out of the row's word that nobody else is there; and its card, where the translation holds go statements. -/
import Derived.Conc.Holds
import Derived.Leaving
import Derived.JoinedCond
import Derived.SevenTiedAt
set_option linter.unusedVariables false
namespace Go.Proofs.YtjggkopmhhhiiaaGreatDoor.HLeav
open Go

theorem leaving_of_handed {a : Assume} {C : Checked} {os : Os} {f : FuncId} {r : Reach} {Pre : World → Array Value → Prop} {Post : World → Array Value → Value → World → Prop}
    (h : ReturnsInHanded a C os f r Pre Post) : ReturnsInLeavingWide a C os f r Pre Post := fun enter => by
  obtain ⟨e, own, st, wit, all⟩ := h enter
  refine ⟨e, own, st, wit, fun w tape i hf => ?_⟩
  obtain ⟨n, v, w', h1, h2, h3, h4, ⟨j, last, k1, k2, q, ho, eh⟩, h6⟩ := all w tape i hf
  exact ⟨n, v, w', h1, h2, h3, h4, ⟨j, last, k1, k2, ho, onlyLeaving_of_quiet q, eh⟩, h6⟩
theorem tied_goes (Lk : Looks) {p : Pinned} {s : OpenSpec} {c : OpenClaim} (kinds : List LaidKind) (tests : Bool) (har : Bool × String) (lk : Bool)
    (hc : c.holds p s) (hw : c.wfByText s = true) (htie : c.laidByTextAt Lk p kinds tests)
    (hst : c.start = .entering) (hnb : c.noBlocks = false ∧ c.again = false) (hm : p.checked.prog.mainIs = some (har.1, har.2.toList)) (hn : (!har.1 && har.2.isEmpty && !lk) = false)
    (hl : ∀ f fn, p.checked.prog.funcNamed c.func = some f → p.checked.prog.funcs[f]? = some fn → lk = p.checked.prog.looks [] ∧ ∀ (j : Nat) t, fn.params[j]? = some t → p.checked.prog.wantsStandIn t = false)
    (hg : true = c.goesBy p.checked.prog) :
    Claim7.holds p (.plain s) { stood := { row := c, standIns := [], harness := har, looks := lk }, kinds := [], alts := [], goes := true, laidByText := true, laidKinds := kinds, laidTests := tests, laidLooks := Lk } := by
  have h6 : ∀ r : OpenClaim, Claim7.isSixth { stood := { row := r, standIns := [], harness := har, looks := lk }, kinds := [] } = false := fun r => by simpa [Claim7.isSixth] using hn
  have h1 := Claim7.tied_new_at Lk kinds tests (Claim7.new_of_sixth hc har lk hst hnb hm (h6 c) hl) hw
  exact ⟨h1, (fun D hD => by cases hD), htie, (fun h => by cases h), hg⟩
end Go.Proofs.YtjggkopmhhhiiaaGreatDoor.HLeav
