/- What the row's reading of an argument gives, in the words of kinds: numbers, truths, texts, slices of whatever depth, structs of any number of fields, each with its bounds out of the row's own weights. -/
import Derived.SizedLaws
import Derived.ChangeSlices
import Derived.Deep.Slices
import Derived.Test.YtjggkopmhhhiiaaGreatDoorWWords
set_option linter.unusedVariables false
set_option linter.unusedSimpArgs false
namespace Go.Proofs.YtjggkopmhhhiiaaGreatDoor.HOpen
open Go.ChangeShapes Go.WideShapes Go.Deep Go.Proofs.YtjggkopmhhhiiaaGreatDoorW.PrintWords

/-- A reading of type t, within the reach, gives a datum of kind d that meets Q. -/
def Opens {α : Type} (P : Program) (t : TypeId) (d : Kd α) (Q : α → Prop) : Prop :=
  ∀ {H : Type} (enc : TypeId × Value → H) (w : World) (base : Nat) (spare : Nat → Bool) (held : Bool) (fuel : Nat) (cs : List Value) (D : DataW H) (ps : List MemPlace),
    DataW.trod enc P w base spare held fuel t cs = some (D, ps) → (∀ n ∈ D.weights P t, n ≤ reachBytes) → ∃ x, d.K w x cs ∧ Q x

theorem opens_int {P : Program} {t : TypeId} {k : IntKind} (h : P.underlying t = some (.int k)) : Opens P t (Kd.int k) (fun n => (Lit.int k n).wf = true) := by
  intro H enc w base spare held fuel cs D ps ht hw
  obtain ⟨n, rfl, hx, wf⟩ := DataW.trod_int h ht
  exact ⟨n, rfl, wf⟩
theorem opens_bool {P : Program} {t : TypeId} (h : P.underlying t = some .bool) : Opens P t Kd.bool (fun _ => True) := by
  intro H enc w base spare held fuel cs D ps ht hw
  obtain ⟨n, rfl, hx⟩ := DataW.trod_bool h ht
  exact ⟨n, rfl, trivial⟩
theorem opens_string {P : Program} {t : TypeId} (h : P.underlying t = some .string) : Opens P t Kd.string (fun s => s.size ≤ 140737488351232) := by
  intro H enc w base spare held fuel cs D ps ht hw
  obtain ⟨s, rfl, hx, _⟩ := DataW.trod_string h ht
  obtain ⟨rfl, _⟩ := Prod.mk.inj hx
  refine ⟨s, rfl, ?_⟩
  have := hw s.data.toList.length (by simp [DataW.weights])
  rw [Array.length_toList] at this
  exact this
theorem weights_all {H : Type} {P : Program} {e : TypeId} : ∀ {l : List (DataW H)} {d : DataW H}, d ∈ l → ∀ n ∈ d.weights P e, n ∈ DataW.weightsAll P e l
  | d0 :: l, d, hd, n, hn => by
    simp only [DataW.weightsAll, List.mem_append]
    rcases List.mem_cons.1 hd with rfl | hd
    · exact Or.inl hn
    · exact Or.inr (weights_all hd n hn)
theorem list_choose {α : Type} {p : Nat → α → Prop} : ∀ n, (∀ i, i < n → ∃ x, p i x) → ∃ xs : List α, xs.length = n ∧ ∀ i x, xs[i]? = some x → p i x
  | 0, _ => ⟨[], rfl, fun i x h => by simp at h⟩
  | n + 1, h => by
    obtain ⟨xs, hl, hx⟩ := list_choose n fun i hi => h i (by omega)
    obtain ⟨x, hp⟩ := h n (by omega)
    refine ⟨xs ++ [x], by rw [List.length_append, hl]; rfl, fun i y hy => ?_⟩
    by_cases hi : i < n
    · rw [List.getElem?_append_left (by omega)] at hy
      exact hx i y hy
    · have hlt := (List.getElem?_eq_some_iff.1 hy).1
      rw [List.length_append, hl, List.length_singleton] at hlt
      obtain rfl : i = n := by omega
      rw [List.getElem?_append_right (by omega), hl, Nat.sub_self] at hy
      simp at hy
      subst hy
      exact hp
theorem opens_slice {α : Type} {P : Program} {t e : TypeId} {e' B : Nat} {d : Kd α} {Q : α → Prop} (h : P.underlying t = some (.slice e)) (hd : Opens P e d Q) (hc : P.cellsOf e = d.sz) (hB : P.bytesOf e = B) :
    Opens P t (Kd.slice e' d) (fun xs => xs.length * B ≤ 140737488351232 ∧ ∀ x ∈ xs, Q x) := by
  intro H enc w base spare held fuel cs D ps ht hw
  rcases open_slice h ht with ⟨rfl, hx⟩ | ⟨a, len, cap, m, n, Dt, Pl, rfl, hb, hl, hm, hmm, hx, hel⟩
  · exact ⟨[], ⟨none, 0, rfl, Nat.le_refl _, Kd.C_nil d w⟩, by simp, by simp⟩
  obtain ⟨rfl, rfl⟩ := Prod.mk.inj hx
  have hlm : len ≤ m := by rw [hmm]; split <;> omega
  have hwi : ∀ i, i < len → ∀ q ∈ (Dt i).weights P e, q ≤ reachBytes := fun i hi q hq => hw q (by
    simp only [DataW.weights, h, List.mem_cons, List.mem_append]
    exact Or.inr (Or.inl (weights_all (d := Dt i) (List.mem_map.2 ⟨i, List.mem_range.2 hi, rfl⟩) q hq)))
  have hlen : len * B ≤ 140737488351232 := by
    have z := hw ((((List.range len).map Dt).length + ((List.range (m - len)).map fun j => Dt (len + j)).length) * P.bytesOf e) (by simp [DataW.weights, h])
    rw [hB, List.length_map, List.length_range] at z
    exact Nat.le_trans (Nat.mul_le_mul_right _ (by omega)) z
  obtain ⟨xs, hxl, hxs⟩ := list_choose (p := fun i x => Q x ∧ ∃ cs', w.cells? base (a.add (i * P.cellsOf e)) (P.cellsOf e) = some cs' ∧ d.K w x cs') len fun i hi => by
    obtain ⟨cs', h1, h2⟩ := hel i (by omega)
    obtain ⟨x, hk, hq⟩ := hd enc w base spare held n cs' (Dt i) (Pl i) h2 (hwi i hi)
    exact ⟨x, hq, cs', h1, hk⟩
  subst hxl
  refine ⟨xs, ⟨some a, cap, rfl, hl, rfl, ?_, fun _ => ⟨a, rfl, fun j p hj => ?_⟩⟩, hlen, fun x hx => ?_⟩
  · have : maxLen = 9223372036854775807 := rfl
    omega
  · obtain ⟨_, cs', h1, hk⟩ := hxs j p hj
    obtain ⟨_, hlen', hcell⟩ := World.cells?_some h1
    refine ⟨cs', d.K_len hk, hk, fun i u hu => ?_⟩
    have hi : i < P.cellsOf e := by rw [← hlen']; exact (List.getElem?_eq_some_iff.1 hu).1
    have := hcell i hi
    rw [Go.Deep.add_add, hu, hc] at this
    exact this
  · obtain ⟨i, hi⟩ := List.getElem?_of_mem hx
    exact (hxs i x hi).1

/-- The fields fs, whose cells begin at o. -/
def OpensFs {α : Type} (P : Program) (fs : List Field) (o : Nat) (d : Kd α) (Q : α → Prop) : Prop :=
  ∀ {H : Type} (enc : TypeId × Value → H) (w : World) (base : Nat) (spare : Nat → Bool) (held : Bool) (n : Nat) (cs : List Value) (xs : List (DataW H × List MemPlace)),
    xs.length = fs.length → (∀ (i : Nat) (f : Field), fs[i]? = some f → DataW.trod enc P w base spare held n f.type ((cs.drop f.offset).take (P.cellsOf f.type)) = xs[i]?) →
    (∀ q ∈ DataW.weightsEach P (fs.map (·.type)) (xs.map (·.1)), q ≤ reachBytes) → ∃ x, d.K w x ((cs.drop o).take d.sz) ∧ Q x
theorem opens_one {α : Type} {P : Program} {f : Field} {o : Nat} {d : Kd α} {Q : α → Prop} (hd : Opens P f.type d Q) (hc : P.cellsOf f.type = d.sz) (ho : f.offset = o) : OpensFs P [f] o d Q := by
  intro H enc w base spare held n cs xs hl hx hw
  match xs, hl with
  | [y], _ =>
    have h0 := hx 0 f rfl
    rw [hc, ho] at h0
    exact hd enc w base spare held n _ y.1 y.2 h0 (fun q hq => hw q (by simp [DataW.weightsEach, hq]))
theorem opens_cons {α β : Type} {P : Program} {f : Field} {fs : List Field} {o o' : Nat} {d : Kd α} {d' : Kd β} {Q : α → Prop} {Q' : β → Prop} (hd : Opens P f.type d Q) (hc : P.cellsOf f.type = d.sz) (ho : f.offset = o) (hr : OpensFs P fs o' d' Q') (ho' : o' = o + d.sz) :
    OpensFs P (f :: fs) o (Kd.pair d d') (fun x => Q x.1 ∧ Q' x.2) := by
  intro H enc w base spare held n cs xs hl hx hw
  match xs, hl with
  | y :: ys, hl =>
    have h0 := hx 0 f rfl
    rw [hc, ho] at h0
    obtain ⟨x, hk, hq⟩ := hd enc w base spare held n _ y.1 y.2 h0 (fun q hq => hw q (by simp [DataW.weightsEach, hq]))
    obtain ⟨x', hk', hq'⟩ := hr enc w base spare held n cs ys (by simpa using hl) (fun i g hg => by have := hx (i + 1) g hg; simpa using this) (fun q hq => hw q (by simp only [List.map_cons, DataW.weightsEach, List.mem_append]; exact Or.inr hq))
    refine ⟨(x, x'), ⟨_, _, ?_, hk, hk'⟩, hq, hq'⟩
    rw [ho', ← List.drop_drop]
    exact List.take_add
theorem opens_struct {α : Type} {P : Program} {t : TypeId} {fs : Array Field} {d : Kd α} {Q : α → Prop} (h : P.underlying t = some (.struct fs)) (hf : OpensFs P fs.toList 0 d Q) (hc : P.cellsOf t = d.sz) : Opens P t d Q := by
  intro H enc w base spare held fuel cs D ps ht hw
  obtain ⟨xs, n, _, hx, hl, hlen, hfs⟩ := DataW.trod_struct h ht
  obtain ⟨rfl, rfl⟩ := Prod.mk.inj hx
  obtain ⟨x, hk, hq⟩ := hf enc w base spare held n cs xs (by simpa using hlen) (fun i f hf => hfs i f (by simpa using hf)) (fun q hq => hw q (by simpa [DataW.weights, h] using hq))
  refine ⟨x, ?_, hq⟩
  rwa [List.drop_zero, List.take_of_length_le (by omega)] at hk
theorem opens_iso {α β : Type} {P : Program} {t : TypeId} {d : Kd α} {Q : α → Prop} (f : β → α) (g : α → β) (hfg : ∀ a, f (g a) = a) (h : Opens P t d Q) : Opens P t (Kd.iso d f) (fun y => Q (f y)) := by
  intro H enc w base spare held fuel cs D ps ht hw
  obtain ⟨x, hk, hq⟩ := h enc w base spare held fuel cs D ps ht hw
  refine ⟨g x, ?_, ?_⟩
  · show d.K w (f (g x)) cs
    rw [hfg]
    exact hk
  · show Q (f (g x))
    rw [hfg]
    exact hq
/-- An argument of a law. -/
theorem opens_arg {α : Type} {P : Program} {H : Type} {enc : TypeId × Value → H} {w : World} {base : Nat} {spare : Nat → Bool} {held : Bool} {t : TypeId} {v : Value} {D : DataW H} {ps : List MemPlace} {ts : List TypeId} {ds : List (DataW H)} {j : Nat} {d : Kd α} {Q : α → Prop}
    (hd : Opens P t d Q) (h : DataW.Trod enc P w base spare held t v D ps) (hsz : (DataW.weightsEach P ts ds).all (· ≤ reachBytes) = true) (ht : ts[j]? = some t) (hD : ds[j]? = some D) : ∃ x, d.K w x v.cells.toList ∧ Q x := by
  obtain ⟨fuel, hf⟩ := h
  exact hd enc w base spare held fuel _ D ps hf fun n hn => by
    have := List.all_eq_true.1 hsz _ (DataW.weights_mem_each ht hD n hn)
    simpa using this
end Go.Proofs.YtjggkopmhhhiiaaGreatDoor.HOpen
